-- made by a program of this session (myprint.py)
import Derived.Test.YtgkliacflbenfaaQFnAgesx0
namespace Go.Proofs.Ytgkliacflbenfaa.QFnAges
open Go.RowKit Go.Proofs.YtgkliacflbenfaaW.PrintWords Go.Proofs.YtgkliacflbenfaaW.PrintLast Go.Proofs.YtgkliacflbenfaaW.PrintMore
attribute [local go_sem] max2_int min2_int max_two min_two max_three min_three max_four min_four   -- for this text's walks alone
set_option linter.unusedVariables false
set_option linter.unusedSimpArgs false

/-- A state of type 56 at block g of W; what its slices lead to came in by w0. -/
def IsS56 (w0 W : World) (g : Nat) (f0 : List Int) (f1 : Int) (f2 : Int) : Prop := ∃ A0 c0, W.heap[g]? = some (.cells #[.slice A0 f0.length c0, .int .i64 f1, .int .i64 f2] 56 (0, 0)) ∧ w0.heap.size ≤ g ∧ Kd.C (Kd.int .u8) w0 A0 f0.length f0
theorem IsS56.grown {w0 W : World} {g : Nat} {f0 : List Int} {f1 : Int} {f2 : Int} {W1 : World} {row : Option Nat} (h : IsS56 w0 W g f0 f1 f2) (hw : W.grownBy W1 row) (hne : some g ≠ row) : IsS56 w0 W1 g f0 f1 f2 := by
 obtain ⟨A0, c0, hb, hg, hr0⟩ := h; exact ⟨A0, c0, blk_grown hb hw hne, hg, hr0⟩
theorem IsS56.own_neN {w0 W : World} {g : Nat} {f0 : List Int} {f1 : Int} {f2 : Int} {α : Type} {d : Kd α} {e : Nat} {base : Nat} {ok : Nat → Prop} {v : Value} {xs : List α} (h : IsS56 w0 W g f0 f1 f2) (ho : Kd.N d e W base ok v xs) (ht : e ≠ 56) : some g ≠ v.ownBlock := by
 obtain ⟨A0, c0, hb, hg, hr0⟩ := h; exact Kd.N_ne ho hb ht
theorem IsS56.fresh {w0 W : World} {g : Nat} {f0 : List Int} {f1 : Int} {f2 : Int} (h : IsS56 w0 W g f0 f1 f2) : ∀ k, W.heap.size ≤ k → k ≠ g := by
 obtain ⟨A0, c0, hb, hg, hr0⟩ := h; exact Kd.freshB hb
theorem IsS56.kept {w0 W : World} {g : Nat} {f0 : List Int} {f1 : Int} {f2 : Int} {W1 : World} {S : Nat → Prop} (h : IsS56 w0 W g f0 f1 f2) (hk : Kept W W1 S) (hne : ¬ S g) : IsS56 w0 W1 g f0 f1 f2 := by
 obtain ⟨A0, c0, hb, hg, hr0⟩ := h; exact ⟨A0, c0, blk_kept hb hk hne, hg, hr0⟩
theorem IsS56.below {w0 W : World} {g : Nat} {f0 : List Int} {f1 : Int} {f2 : Int} {W1 : World} (h : IsS56 w0 W g f0 f1 f2) (hw : Below W.heap.size W W1) : IsS56 w0 W1 g f0 f1 f2 := h.grown (grown_of_below hw none) (by simp)
theorem IsS56.alloc {w0 W : World} {g : Nat} {f0 : List Int} {f1 : Int} {f2 : Int} (h : IsS56 w0 W g f0 f1 f2) (o : Obj) : IsS56 w0 (W.alloc o) g f0 f1 f2 := h.below (below_alloc (Below.refl _ _) o)
theorem IsS56.drewN {w0 W : World} {g : Nat} {f0 : List Int} {f1 : Int} {f2 : Int} (h : IsS56 w0 W g f0 f1 f2) (m : Nat) : IsS56 w0 (W.drewN m) g f0 f1 f2 := h
theorem IsS56.drew {w0 W : World} {g : Nat} {f0 : List Int} {f1 : Int} {f2 : Int} (h : IsS56 w0 W g f0 f1 f2) : IsS56 w0 W.drew g f0 f1 f2 := h
theorem IsS56.at_ {w0 W : World} {g : Nat} {f0 : List Int} {f1 : Int} {f2 : Int} {w' : World} {m : Nat} (hq : W.drewN m = w') (h : IsS56 w0 W g f0 f1 f2) : IsS56 w0 w' g f0 f1 f2 := by subst hq; exact IsS56.drewN h m
theorem IsS56.apart {w0 W : World} {g : Nat} {f0 : List Int} {f1 : Int} {f2 : Int} {α : Type} {d : Kd α} {e : Nat} {base : Nat} {ok : Nat → Prop} {v : Value} {xs : List α} (h : IsS56 w0 W g f0 f1 f2) (ho : d.R e W base ok v xs) (ht : ∀ q, q ∈ e :: d.E → q ≠ 56) : d.R e W base (fun k => ok k ∧ k ≠ g) v xs := by
 obtain ⟨A0, c0, hb, hg, hr0⟩ := h; exact Kd.R_types ho hb ht
theorem IsS56.own_ne {w0 W : World} {g : Nat} {f0 : List Int} {f1 : Int} {f2 : Int} {α : Type} {d : Kd α} {e : Nat} {base : Nat} {ok : Nat → Prop} {v : Value} {xs : List α} (h : IsS56 w0 W g f0 f1 f2) (ho : d.R e W base ok v xs) (ht : e ≠ 56) : some g ≠ v.ownBlock := by
 obtain ⟨A0, c0, hb, hg, hr0⟩ := h; exact Kd.R_ne ho hb ht
theorem IsS56.apartQ {w0 W : World} {g : Nat} {f0 : List Int} {f1 : Int} {f2 : Int} {α : Type} {d : Kd α} {e : Nat} {base : Nat} {ok : Nat → Prop} {v : Value} {xs : List α} (h : IsS56 w0 W g f0 f1 f2) (ho : d.Q e W base ok v xs) (ht : ∀ q, q ∈ e :: d.E → q ≠ 56) : d.Q e W base (fun k => ok k ∧ k ≠ g) v xs := by
 obtain ⟨A0, c0, hb, hg, hr0⟩ := h; exact Kd.Q_types ho hb ht
theorem IsS56.own_neQ {w0 W : World} {g : Nat} {f0 : List Int} {f1 : Int} {f2 : Int} {α : Type} {d : Kd α} {e : Nat} {base : Nat} {ok : Nat → Prop} {v : Value} {xs : List α} (h : IsS56 w0 W g f0 f1 f2) (ho : d.Q e W base ok v xs) (ht : e ≠ 56) : some g ≠ v.ownBlock := by
 obtain ⟨A0, c0, hb, hg, hr0⟩ := h; exact Kd.Q_ne ho hb ht
theorem IsS56.apartS {w0 W : World} {g : Nat} {f0 : List Int} {f1 : Int} {f2 : Int} {α : Type} {d : Kd α} {e : Nat} {base : Nat} {ok : Nat → Prop} {v : Value} {xs : List α} (h : IsS56 w0 W g f0 f1 f2) (ho : d.S e W base ok v xs) (ht : ∀ q, q ∈ e :: d.E → q ≠ 56) : d.S e W base (fun k => ok k ∧ k ≠ g) v xs := by
 obtain ⟨A0, c0, hb, hg, hr0⟩ := h; exact Kd.S_types ho hb ht
theorem IsS56.own_neS {w0 W : World} {g : Nat} {f0 : List Int} {f1 : Int} {f2 : Int} {α : Type} {d : Kd α} {e : Nat} {base : Nat} {ok : Nat → Prop} {v : Value} {xs : List α} (h : IsS56 w0 W g f0 f1 f2) (ho : d.S e W base ok v xs) (ht : e ≠ 56) : some g ≠ v.ownBlock := by
 obtain ⟨A0, c0, hb, hg, hr0⟩ := h; exact Kd.S_ne ho hb ht
theorem IsS56.lt {w0 W : World} {g : Nat} {f0 : List Int} {f1 : Int} {f2 : Int} (h : IsS56 w0 W g f0 f1 f2) : g < W.heap.size := by
 obtain ⟨A0, c0, hb, hg, hr0⟩ := h; exact blk_lt hb
theorem IsS56.ge {w0 W : World} {g : Nat} {f0 : List Int} {f1 : Int} {f2 : Int} (h : IsS56 w0 W g f0 f1 f2) : w0.heap.size ≤ g := by
 obtain ⟨A0, c0, hb, hg, hr0⟩ := h; exact hg
theorem IsS56.ne_blk {w0 W : World} {g : Nat} {f0 : List Int} {f1 : Int} {f2 : Int} {a : Nat} {cs : Array Value} {t : TypeId} {fr : Nat × Nat} (h : IsS56 w0 W g f0 f1 f2) (hb2 : W.heap[a]? = some (.cells cs t fr)) (ht : t ≠ 56) : g ≠ a := by
 obtain ⟨A0, c0, hb, hg, hr0⟩ := h; rintro rfl; rw [hb] at hb2
 injection hb2 with hb2
 injection hb2 with _ ht2
 exact ht ht2.symm
theorem IsS56.far {w0 W : World} {g : Nat} {f0 : List Int} {f1 : Int} {f2 : Int} {p : Addr} (h : IsS56 w0 W g f0 f1 f2) (hne : g ≠ p.block) (u : Value) : IsS56 w0 (W.setCell p u) g f0 f1 f2 := by
 obtain ⟨A0, c0, hb, hg, hr0⟩ := h; exact ⟨A0, c0, blk_far hb hne u, hg, hr0⟩
theorem cellS56_0 {W : World} {g : Nat} {A0 : Option Addr} {c0 : Nat} {f0 : List Int} {f1 : Int} {f2 : Int} (h : W.heap[g]? = some (.cells #[.slice A0 f0.length c0, .int .i64 f1, .int .i64 f2] 56 (0, 0))) : W.cell? ⟨g, 0, none⟩ = some (.slice A0 f0.length c0) := (blk_cell h 0).trans rfl
theorem cellS56_1 {W : World} {g : Nat} {A0 : Option Addr} {c0 : Nat} {f0 : List Int} {f1 : Int} {f2 : Int} (h : W.heap[g]? = some (.cells #[.slice A0 f0.length c0, .int .i64 f1, .int .i64 f2] 56 (0, 0))) : W.cell? ⟨g, 1, none⟩ = some (.int .i64 f1) := (blk_cell h 1).trans rfl
theorem IsS56.set_1 {w0 W : World} {g : Nat} {f0 : List Int} {f1 : Int} {f2 : Int} (h : IsS56 w0 W g f0 f1 f2) (x : Int) : IsS56 w0 (W.setCell ⟨g, 1, none⟩ (.int .i64 x)) g f0 x f2 := by
 obtain ⟨A0, c0, hb, hg, hr0⟩ := h; exact ⟨A0, c0, by simpa using blk_set hb 1 (.int .i64 x), hg, hr0⟩
theorem cellS56_2 {W : World} {g : Nat} {A0 : Option Addr} {c0 : Nat} {f0 : List Int} {f1 : Int} {f2 : Int} (h : W.heap[g]? = some (.cells #[.slice A0 f0.length c0, .int .i64 f1, .int .i64 f2] 56 (0, 0))) : W.cell? ⟨g, 2, none⟩ = some (.int .i64 f2) := (blk_cell h 2).trans rfl
theorem IsS56.set_2 {w0 W : World} {g : Nat} {f0 : List Int} {f1 : Int} {f2 : Int} (h : IsS56 w0 W g f0 f1 f2) (x : Int) : IsS56 w0 (W.setCell ⟨g, 2, none⟩ (.int .i64 x)) g f0 f1 x := by
 obtain ⟨A0, c0, hb, hg, hr0⟩ := h; exact ⟨A0, c0, by simpa using blk_set hb 2 (.int .i64 x), hg, hr0⟩
theorem IsS56.new (w0 W : World) (A0 : Option Addr) (c0 : Nat) (f0 : List Int) (f1 : Int) (f2 : Int) (hB : Below w0.heap.size w0 W) (hr0 : Kd.C (Kd.int .u8) w0 A0 f0.length f0) : IsS56 w0 (W.alloc (.cells #[.slice A0 f0.length c0, .int .i64 f1, .int .i64 f2] 56)) W.heap.size f0 f1 f2 := ⟨A0, c0, by simpa using heap_alloc_new W _, hB.size, hr0⟩

/-! ### spec_l01New: function 24 -/
def spec_l01New.l0 : Nat → List Int → Int → Int → Option (List Int × Int × Int)
 | 0, _, _, _ => none
 | k + 1, x0, x3, x4 => if x4 < (x0.length : Int) then (if x4 < 4000 then (if 0 ≤ x4 then (spec_l01New.l0 k x0 (Go.bits .and .i64 (wrap64 ((wrap64 ((wrap64 (x3 * 179)) + (wrap64 (rd x0 x4)))) + 7)) 1073741823) (wrap64 (x4 + 1))) else (none)) else (some (x0, 0, x3))) else (some (x0, 0, x3))
def spec_l01New.f (k : Nat) (l0 : List Int) : Option (List Int × Int × Int) := spec_l01New.l0 k l0 (wrap64 (774119 + (l0.length : Int))) 0
theorem spec_l01New.mono_l : ∀ k, (∀ y0 y1 y2, LeO (spec_l01New.l0 k y0 y1 y2) (spec_l01New.l0 (k + 1) y0 y1 y2))
 | 0 => fun _ _ _ r h => by simp [spec_l01New.l0] at h
 | k + 1 => by
  have aj := spec_l01New.mono_l k
  ·intro y0 y1 y2; unfold spec_l01New.l0
   repeat' first | (with_reducible first | apply aj | apply lr | apply ln | apply li | refine lb ?_ fun _ => ?_) | apply aj | apply ln | apply li | refine lb ?_ fun _ => ?_
theorem spec_l01New.mono : ∀ a0 k, LeO (spec_l01New.f k a0) (spec_l01New.f (k + 1) a0) := by
 intro a0 k; have aj := spec_l01New.mono_l k; unfold spec_l01New.f
 repeat' first | (with_reducible first | apply aj | apply lr | apply ln | apply li | refine lb ?_ fun _ => ?_) | apply aj | apply ln | apply li | refine lb ?_ fun _ => ?_
set_option maxHeartbeats 8000000 in
set_option maxRecDepth 100000 in
theorem spec_l01New.calls (k : Nat) (A0 : Option Addr) (c0 : Nat) (l0 : List Int) (r1 : List Int) (r2 : Int) (r3 : Int) (w0 w : World) (hB : Below w0.heap.size w0 w) (av : Kd.C (Kd.int .u8) w0 A0 l0.length l0) (aw : l0.length ≤ c0) (h : spec_l01New.f k l0 = some (r1, r2, r3)) :
  Calls Try.prog 24 #[.slice A0 l0.length c0] w fun e w' => ∃ g_ : Nat, e = .returned (.pointer (some ⟨g_, 0, none⟩)) ∧ IsS56 w0 w' g_ r1 r2 r3 ∧ Below w0.heap.size w0 w' ∧ Below w.heap.size w w' := by
 have hu56 := Try.underlying56; have ap := Aside0.mk av; have aB := Aside0.mk aw; clear av aw; have HBW := Aside0.mk (Below.refl w.heap.size w); have ax := Aside0.mk hB.size; have HB := Aside0.mk hB; clear hB; have H : (spec_l01New.l0 k l0 (wrap64 (774119 + (l0.length : Int))) 0) = some (r1, r2, r3) := h; clear h; have H' := Aside0.mk H; clear H
 go_enter Try.func24, Try.ntmps24
 go_wp2
 go_loopg [3, 4] k (fun kq v3 v4 w' => ∃ (ab : Int) (aa : Int), v3 = .int .i64 ab ∧ v4 = .int .i64 aa ∧ Aside0 (spec_l01New.l0 kq l0 ab aa = some (r1, r2, r3)) ∧ Aside0 (kq ≤ k) ∧ Aside0 (Below w0.heap.size w0 w') ∧ Aside0 (Below w.heap.size w w'))
 case atStart => exact ⟨(wrap64 (774119 + (l0.length : Int))), (0), rs, rs, H', ⟨Nat.le_refl _⟩, ⟨be HB⟩, ⟨by repeat (first | (with_reducible first | exact HBW.out | apply below_alloc | apply pw_below_drewN | apply below_drew1) | exact HBW.out)⟩⟩
 case round =>
  clear H'; obtain ⟨ab, aa, rfl, rfl, HA, ay, HB, HBW⟩ := hrel
  cases gk with
  | zero => exact absurd HA.out (by simp [spec_l01New.l0])
  | succ k1 =>
   have H := HA.out; clear HA; simp only [spec_l01New.l0] at H
   by_cases c2 : aa < (l0.length : Int)
   ·rw [if_pos c2] at H; have aq : decide (aa < (l0.length : Int)) = true := decide_eq_true c2; clear c2
    by_cases c3 : aa < 4000
    ·rw [if_pos c3] at H; have ar : decide (aa < 4000) = true := decide_eq_true c3; clear c3
     by_cases c4 : 0 ≤ aa
     ·rw [if_pos c4] at H; have aA : decide (0 ≤ aa) = true := decide_eq_true c4; clear c4; have H' := Aside0.mk H; clear H; have ah : 0 ≤ (aa : Int) := od; have ai : aa < (l0.length : Int) := od; obtain ⟨az, au, ac⟩ := Kd.at_int ap.out aa ah ai; cases au; replace ac := pw_cell_below HB.out ac; replace ah := eq_true ah; replace ai := eq_true ai
      go_wp2
      go_roundg k1
      case measure => have := ay.out; omega
      case rel => exact ⟨(Go.bits .and .i64 (wrap64 ((wrap64 ((wrap64 (ab * 179)) + (wrap64 (rd l0 aa)))) + 7)) 1073741823), (wrap64 (aa + 1)), rs, rs, H', ⟨by have := ay.out; omega⟩, ⟨be HB⟩, ⟨by repeat (first | (with_reducible first | exact HBW.out | apply below_alloc | apply pw_below_drewN | apply below_drew1) | exact HBW.out)⟩⟩
     rw [if_neg c4] at H; exact absurd H (by simp)
    rw [if_neg c3] at H; have ar : decide (aa < 4000) = false := decide_eq_false c3; clear c3; simp only [Option.some.injEq, Prod.mk.injEq] at H; obtain ⟨rfl, rfl, rfl⟩ := H
    go_wp2_with (first | ((with_reducible refine gate_dst (N := 31) rfl ?_); refine bx 31 #[.slice A0 l0.length c0, .int .i64 0, .int .i64 ab] 56 ?_; intro ad hg w5 hbox hb; replace HB := s0 HB hb; have ak := am hbox; have al := Aside0.mk ((by rw [hg]; exact (below_size (by repeat (first | (with_reducible first | exact HBW.out | apply below_alloc | apply pw_below_drewN | apply below_drew1) | exact HBW.out))) : w.heap.size ≤ ad)); have af := Aside0.mk ((Nat.le_trans ax.out (by rw [hg]; exact (below_size (by repeat (first | (with_reducible first | exact HBW.out | apply below_alloc | apply pw_below_drewN | apply below_drew1) | exact HBW.out))) : w.heap.size ≤ ad) : w0.heap.size ≤ ad)); replace HBW := Aside0.mk (below_step HBW.out hb); clear hb hbox hg))
    go_ret
    exact ⟨_, rfl, (show IsS56 w0 _ ad l0 0 ab from ⟨_, _, by (with_reducible repeat (first | refine blk_drewN ?_ _ | refine blk_drew ?_ | refine blk_alloc ?_ _)); exact ak.out, af.out, ap.out⟩), be1 HB af, by repeat (first | (with_reducible first | exact HBW.out | apply below_alloc | apply pw_below_drewN | apply below_drew1 | refine below_set ?_ al.out) | exact HBW.out)⟩
   rw [if_neg c2] at H; have aq : decide (aa < (l0.length : Int)) = false := decide_eq_false c2; clear c2; simp only [Option.some.injEq, Prod.mk.injEq] at H; obtain ⟨rfl, rfl, rfl⟩ := H
   go_wp2_with (first | ((with_reducible refine gate_dst (N := 31) rfl ?_); refine bx 31 #[.slice A0 l0.length c0, .int .i64 0, .int .i64 ab] 56 ?_; intro ae hg w6 hbox hb; replace HB := s0 HB hb; have an := am hbox; have ao := Aside0.mk ((by rw [hg]; exact (below_size (by repeat (first | (with_reducible first | exact HBW.out | apply below_alloc | apply pw_below_drewN | apply below_drew1) | exact HBW.out))) : w.heap.size ≤ ae)); have ag := Aside0.mk ((Nat.le_trans ax.out (by rw [hg]; exact (below_size (by repeat (first | (with_reducible first | exact HBW.out | apply below_alloc | apply pw_below_drewN | apply below_drew1) | exact HBW.out))) : w.heap.size ≤ ae) : w0.heap.size ≤ ae)); replace HBW := Aside0.mk (below_step HBW.out hb); clear hb hbox hg))
   go_ret
   exact ⟨_, rfl, (show IsS56 w0 _ ae l0 0 ab from ⟨_, _, by (with_reducible repeat (first | refine blk_drewN ?_ _ | refine blk_drew ?_ | refine blk_alloc ?_ _)); exact an.out, ag.out, ap.out⟩), be1 HB ag, by repeat (first | (with_reducible first | exact HBW.out | apply below_alloc | apply pw_below_drewN | apply below_drew1 | refine below_set ?_ ao.out) | exact HBW.out)⟩

/-! ### spec_AgesNew: function 74 -/
mutual
def spec_AgesNew.j0 : Nat → Int → Bool → Option (Int × List Int × (List (S63)) × Bool)
 | 0, _, _ => none
 | k + 1, x0, ba => if ba = true then (some (0, ([] : List Int), ([] : List (S63)), false)) else (spec_AgesNew.l0 k x0 0 0 ([] : List Int))
def spec_AgesNew.l0 : Nat → Int → Int → Int → List Int → Option (Int × List Int × (List (S63)) × Bool)
 | 0, _, _, _, _ => none
 | k + 1, x0, x5, ao, ai => if x5 < x0 then (if ai.length < 17592186044416 then (spec_AgesNew.l0 k x0 (wrap64 (x5 + 1)) ao (ai ++ [(-1)])) else (none)) else (some (ao, ai, ([] : List (S63)), true))
end
def spec_AgesNew.f (k : Nat) (a0 : Int) : Option (Int × List Int × (List (S63)) × Bool) := if a0 < 1 then (spec_AgesNew.j0 k a0 true) else (spec_AgesNew.j0 k a0 (decide (a0 > 8)))
theorem spec_AgesNew.mono_l : ∀ k, (∀ y0 y1, LeO (spec_AgesNew.j0 k y0 y1) (spec_AgesNew.j0 (k + 1) y0 y1)) ∧ (∀ y0 y1 y2 y3, LeO (spec_AgesNew.l0 k y0 y1 y2 y3) (spec_AgesNew.l0 (k + 1) y0 y1 y2 y3))
 | 0 => ⟨fun _ _ r h => by simp [spec_AgesNew.j0] at h, fun _ _ _ _ r h => by simp [spec_AgesNew.l0] at h⟩
 | k + 1 => by
  obtain ⟨au, av⟩ := spec_AgesNew.mono_l k; refine ⟨?_, ?_⟩
  ·intro y0 y1; unfold spec_AgesNew.j0
   repeat' first | (with_reducible first | apply au | apply av | apply lr | apply ln | apply li | refine lb ?_ fun _ => ?_) | apply au | apply av | apply ln | apply li | refine lb ?_ fun _ => ?_
  intro y0 y1 y2 y3; unfold spec_AgesNew.l0
  repeat' first | (with_reducible first | apply au | apply av | apply lr | apply ln | apply li | refine lb ?_ fun _ => ?_) | apply au | apply av | apply ln | apply li | refine lb ?_ fun _ => ?_
theorem spec_AgesNew.mono : ∀ a0 k, LeO (spec_AgesNew.f k a0) (spec_AgesNew.f (k + 1) a0) := by
 intro a0 k; obtain ⟨au, av⟩ := spec_AgesNew.mono_l k; unfold spec_AgesNew.f
 repeat' first | (with_reducible first | apply au | apply av | apply lr | apply ln | apply li | refine lb ?_ fun _ => ?_) | apply au | apply av | apply ln | apply li | refine lb ?_ fun _ => ?_
set_option maxHeartbeats 8000000 in
set_option maxRecDepth 100000 in
theorem spec_AgesNew.calls (k : Nat) (a0 : Int) (r1 : Int) (r2 : List Int) (r3 : List (S63)) (r4 : Bool) (w : World) (h : spec_AgesNew.f k a0 = some (r1, r2, r3, r4)) :
  Calls Try.prog 74 #[.int .i64 a0] w fun e w' => ∃ aZ a1 : Value, e = .returned (.tuple #[.agg #[.int .i64 r1, aZ, a1], .bool r4]) ∧ Kd.R (Kd.int .i64) 3 w' w.heap.size (fun _ => True) aZ r2 ∧ Kd.R k63 63 w' w.heap.size (fun _ => True) a1 r3 ∧ Below w.heap.size w w' := by
 have hu26 := Try.underlying26; have HB := Aside0.mk (Below.refl w.heap.size w); have H : (if a0 < 1 then (spec_AgesNew.j0 k a0 true) else (spec_AgesNew.j0 k a0 (decide (a0 > 8)))) = some (r1, r2, r3, r4) := h; clear h; have aK := Aside0.mk H; clear H
 go_enter Try.func74, Try.ntmps74
 go_upto_region 1 with (first | ((with_reducible refine gate_dst (N := 2) rfl ?_); refine bx 2 #[.int .i64 0, .slice none 0 0, .slice none 0 0] 26 ?_; intro ap hg w3 hbox hb; have aa := am hbox; have a2 := gs0 hg HB; have ae := gs0 hg HB; replace HB := s0 HB hb; clear hb hbox hg))
 (try simp only [Act.put, List.setIfInBounds_toArray, List.set_cons_zero, List.set_cons_succ])
 go_cut [11] (fun bc wc => ∃ (kq : Nat) (aq : Bool), bc = .bool aq ∧ Aside0 (spec_AgesNew.j0 kq a0 aq = some (r1, r2, r3, r4)) ∧ Aside0 (kq ≤ k) ∧ Aside0 (wc.heap[ap]? = some (.cells #[.int .i64 0, (.slice none 0 0), (.slice none 0 0)] 26 (0, 0))) ∧ Aside0 (Below w.heap.size w wc))
 case first =>
  have H := aK.out; clear aK
  by_cases c4 : a0 < 1
  ·rw [if_pos c4] at H; have an : decide (a0 < 1) = true := decide_eq_true c4; clear c4; (first | rw [an] | (simp only [i64_w, i32_w]; rw [an]) | skip); have H' := Aside0.mk H; clear H
   go_wp2
   go_meet
   case rel => exact ⟨_, (true), rs, H', ⟨by first | omega | exact Nat.le_refl _⟩, ⟨bk aa⟩, ⟨be1 HB ae⟩⟩
  rw [if_neg c4] at H; have an : decide (a0 < 1) = false := decide_eq_false c4; clear c4; (first | rw [an] | (simp only [i64_w, i32_w]; rw [an]) | skip); have H' := Aside0.mk H; clear H
  go_wp2
  go_meet
  case rel => exact ⟨_, (decide (a0 > 8)), rs, H', ⟨by first | omega | exact Nat.le_refl _⟩, ⟨bk aa⟩, ⟨be1 HB ae⟩⟩
 case rest =>
  clear aK
  try clear p2; try clear c4; try clear an
  obtain ⟨kq, aq, rfl, HA, a3, aa, HB⟩ := hcut
  cases kq with
  | zero => exact absurd HA.out (by simp [spec_AgesNew.j0])
  | succ aN =>
   have H := HA.out; clear HA; simp only [spec_AgesNew.j0] at H
   by_cases c5 : aq = true
   ·subst c5; rw [if_pos rfl] at H; simp only [Option.some.injEq, Prod.mk.injEq] at H; obtain ⟨rfl, rfl, rfl, rfl⟩ := H; have aw := bz3 aa
    go_wp2
    refine bodyPost_ret (results_ct rfl _ _ ap 26 #[.int .i64 0, .slice none 0 0, .slice none 0 0] (0, 0) _ rfl (bp aa) Try.underlying26 rfl (by kernel_rfl)) rfl ?_; exact ⟨_, _, er, by first | exact Kd.R_nil _ _ _ _ _ | exact Kd.N_nil _ _ _ _ _ | exact Kd.V_nil _ _ _ _ _ | exact Kd.Q_nil _ _ _ _ _ | exact Kd.S_nil _ _ _ _ _, by first | exact Kd.R_nil _ _ _ _ _ | exact Kd.N_nil _ _ _ _ _ | exact Kd.V_nil _ _ _ _ _ | exact Kd.Q_nil _ _ _ _ _ | exact Kd.S_nil _ _ _ _ _, be1 HB ae⟩
   replace c5 := Bool.eq_false_iff.mpr c5; subst c5; rw [if_neg nf] at H; have H' := Aside0.mk H; clear H
   go_wp2_with (first | ((with_reducible refine gate_dst (N := 4) rfl ?_); refine bx 4 #[.int .i64 0, .slice none 0 0, .slice none 0 0] 26 ?_; intro az hg w7 hbox hb; have af := am hbox; have a4 := gs1 hg HB ae; have aj := gs1 hg HB ae; replace HB := s1 HB ae hb; have ad := nl hg aa; have ag := ng hg aa; replace aa := bb aa hb; clear hb hbox hg; have bd := ag.out; have bf := ad.out; have ax := bz3 af))
   go_loopg [5] aN (fun kq v5 w' => ∃ (ak : Int) (ab : List Int) (ah : Value), v5 = .int .i64 ak ∧ Aside0 (spec_AgesNew.l0 kq a0 ak 0 ab = some (r1, r2, r3, r4)) ∧ Aside0 (kq ≤ aN) ∧ Aside0 (Kd.R (Kd.int .i64) 3 w' w.heap.size (fun _ => True) ah ab) ∧ Aside0 (w'.heap[ap]? = some (.cells #[.int .i64 0, (.slice none 0 0), (.slice none 0 0)] 26 (0, 0))) ∧ Aside0 (w'.heap[az]? = some (.cells #[.int .i64 0, ah, (.slice none 0 0)] 26 (0, 0))) ∧ Aside0 (Below w.heap.size w w'))
   case atStart => exact ⟨(0), (([] : List Int)), (.slice none 0 0), rs, H', ⟨Nat.le_refl _⟩, ⟨by first | exact Kd.R_nil _ _ _ _ _ | exact Kd.N_nil _ _ _ _ _ | exact Kd.V_nil _ _ _ _ _ | exact Kd.Q_nil _ _ _ _ _ | exact Kd.S_nil _ _ _ _ _⟩, ⟨(bp1 aa ad)⟩, ⟨(bp af)⟩, ⟨be2 HB ae aj⟩⟩
   case round =>
    clear H'
    try clear p2; try clear c4; try clear an; try clear c5; try clear c7; try clear c8; try clear aw; try clear ax; try clear p2
    obtain ⟨ak, ab, ah, rfl, HA, a5, ac, aa, af, HB⟩ := hrel
    cases gk with
    | zero => exact absurd HA.out (by simp [spec_AgesNew.l0])
    | succ k2 =>
     have H := HA.out; clear HA; simp only [spec_AgesNew.l0] at H
     by_cases c10 : ak < a0
     ·rw [if_pos c10] at H; have aA : decide (ak < a0) = true := decide_eq_true c10; clear c10
      by_cases aE : ab.length < 17592186044416
      ·rw [if_pos aE] at H; have aC := Aside0.mk aE; clear aE; obtain ⟨ay, al⟩ : ∃ y_ : List Int, y_ = (ab ++ [(-1)]) := ⟨_, rfl⟩; rw [← al] at H; have aD := Aside0.mk al; clear al; have H' := Aside0.mk H; clear H; have a6 := ag.out; have a7 := ad.out; have aG := bz3 af
       go_wp2_with (first | ((with_reducible refine gate_builtin (b := .append) (xs := #[.tmp 20, .tmp 21]) rfl ?_); at_builtin; refine Kd.R_append (Kd.int .i64) (w0 := w) w.heap.size rfl (.tmp 20) (.tmp 21) 23 3 (.int .i64 0) 8 rfl Try.underlying23 info3 rfl (by decide) (by omega) ah ab (-1) [.int .i64 (-1)] (fun _ => True) (fun _ => False) rfl rfl ?aP (fun _ hk => hk.elim) ?aF ?aO ?aB ?aS ?aL ?_; (case aP => exact rfl); (case aB => exact (be2 HB ae aj)); (case aF => exact (fun _ _ => trivial)); (case aO => exact (ro ac)); (case aS => exact (below_size (be2 HB ae aj))); (case aL => have := aC.out; omega); intro bg bh ho hb hg hat; rw [← aD.out] at ho; replace aa := bgr aa hg (Kd.R_ne ac.out aa.out (by decide)); replace af := bgr af hg (Kd.R_ne ac.out af.out (by decide)); replace HB := Aside0.mk (hb); have ar := Aside0.mk (ho); clear ac; clear ho hb hg hat; obtain ⟨aR, aU, aV⟩ := Kd.R_slice ar.out; subst aV; have aH := bz3 af))
       go_roundg k2
       case measure => have := a3.out; have := a5.out; omega
       case rel => exact ⟨(wrap64 (ak + 1)), (ay), (.slice aR ay.length aU), rs, H', ⟨by have := a3.out; have := a5.out; omega⟩, ⟨(rfn ar af)⟩, ⟨(bp1 aa ad)⟩, ⟨(bp af)⟩, ⟨be2 HB ae aj⟩⟩
      rw [if_neg aE] at H; exact absurd H (by simp)
     rw [if_neg c10] at H; have aA : decide (ak < a0) = false := decide_eq_false c10; clear c10; simp only [Option.some.injEq, Prod.mk.injEq] at H; obtain ⟨rfl, rfl, rfl, rfl⟩ := H; have a8 := ag.out; have a9 := ad.out; have aI := bz3 af; have aJ := bz3 aa; obtain ⟨aW, aX, aY⟩ := Kd.R_slice ac.out; subst aY
     go_wp2
     refine bodyPost_ret (results_ct rfl _ _ ap 26 #[.int .i64 0, .slice aW ab.length aX, .slice none 0 0] (0, 0) _ rfl (bp aa) Try.underlying26 rfl (by kernel_rfl)) rfl ?_; exact ⟨_, _, er, (rfn ac aa), by first | exact Kd.R_nil _ _ _ _ _ | exact Kd.N_nil _ _ _ _ _ | exact Kd.V_nil _ _ _ _ _ | exact Kd.Q_nil _ _ _ _ _ | exact Kd.S_nil _ _ _ _ _, be2 HB ae aj⟩

/-! ### spec_PoolNew: function 55 -/
mutual
def spec_PoolNew.j0 : Nat → Int → Bool → Int → List Int → List (S63) → Option (List Int × Int × List Int × (List (S63)) × List Int × Bool)
 | 0, _, _, _, _, _ => none
 | k + 1, x0, cp, aY, aZ, a2 => if cp = true then (some (([] : List Int), 0, ([] : List Int), ([] : List (S63)), ([] : List Int), false)) else (spec_PoolNew.l0 k x0 0 ([] : List Int) aY aZ a2)
def spec_PoolNew.l0 : Nat → Int → Int → List Int → Int → List Int → List (S63) → Option (List Int × Int × List Int × (List (S63)) × List Int × Bool)
 | 0, _, _, _, _, _, _ => none
 | k + 1, x0, x9, aH, aQ, aR, aU => if x9 < x0 then (if aH.length < 17592186044416 then (spec_PoolNew.l0 k x0 (wrap64 (x9 + 1)) (aH ++ [x9]) aQ aR aU) else (none)) else (some (aH, aQ, aR, aU, ([] : List Int), true))
end
def spec_PoolNew.f (k : Nat) (a0 : Int) (a1 : Int) : Option (List Int × Int × List Int × (List (S63)) × List Int × Bool) := (spec_AgesNew.f k a1).bind fun ae => (if ae.2.2.2 = true then (if a0 < 1 then (spec_PoolNew.j0 k a0 true ae.1 ae.2.1 ae.2.2.1) else (spec_PoolNew.j0 k a0 (decide (a0 > 100)) ae.1 ae.2.1 ae.2.2.1)) else (spec_PoolNew.j0 k a0 true ae.1 ae.2.1 ae.2.2.1))
theorem spec_PoolNew.mono_l : ∀ k, (∀ y0 y1 y2 y3 y4, LeO (spec_PoolNew.j0 k y0 y1 y2 y3 y4) (spec_PoolNew.j0 (k + 1) y0 y1 y2 y3 y4)) ∧ (∀ y0 y1 y2 y3 y4 y5, LeO (spec_PoolNew.l0 k y0 y1 y2 y3 y4 y5) (spec_PoolNew.l0 (k + 1) y0 y1 y2 y3 y4 y5))
 | 0 => ⟨fun _ _ _ _ _ r h => by simp [spec_PoolNew.j0] at h, fun _ _ _ _ _ _ r h => by simp [spec_PoolNew.l0] at h⟩
 | k + 1 => by
  obtain ⟨a9, ba⟩ := spec_PoolNew.mono_l k; refine ⟨?_, ?_⟩
  ·intro y0 y1 y2 y3 y4; unfold spec_PoolNew.j0
   repeat' first | (with_reducible first | apply a9 | apply ba | apply spec_AgesNew.mono | apply lr | apply ln | apply li | refine lb ?_ fun _ => ?_) | apply a9 | apply ba | apply ln | apply li | refine lb ?_ fun _ => ?_
  intro y0 y1 y2 y3 y4 y5; unfold spec_PoolNew.l0
  repeat' first | (with_reducible first | apply a9 | apply ba | apply spec_AgesNew.mono | apply lr | apply ln | apply li | refine lb ?_ fun _ => ?_) | apply a9 | apply ba | apply ln | apply li | refine lb ?_ fun _ => ?_
theorem spec_PoolNew.mono : ∀ a0 a1 k, LeO (spec_PoolNew.f k a0 a1) (spec_PoolNew.f (k + 1) a0 a1) := by
 intro a0 a1 k; obtain ⟨a9, ba⟩ := spec_PoolNew.mono_l k; unfold spec_PoolNew.f
 repeat' first | (with_reducible first | apply a9 | apply ba | apply spec_AgesNew.mono | apply lr | apply ln | apply li | refine lb ?_ fun _ => ?_) | apply a9 | apply ba | apply ln | apply li | refine lb ?_ fun _ => ?_
set_option maxHeartbeats 8000000 in
set_option maxRecDepth 100000 in
theorem spec_PoolNew.calls (k : Nat) (a0 : Int) (a1 : Int) (r1 : List Int) (r2 : Int) (r3 : List Int) (r4 : List (S63)) (r5 : List Int) (r6 : Bool) (w : World) (h : spec_PoolNew.f k a0 a1 = some (r1, r2, r3, r4, r5, r6)) :
  Calls Try.prog 55 #[.int .i64 a0, .int .i64 a1] w fun e w' => ∃ bo bq bR br : Value, e = .returned (.tuple #[.agg #[bo, .int .i64 r2, bq, bR, br], .bool r6]) ∧ Kd.R (Kd.int .i64) 3 w' w.heap.size (fun k_ => some k_ ≠ (bq : Value).ownBlock ∧ some k_ ≠ (br : Value).ownBlock) bo r1 ∧ Kd.R (Kd.int .i64) 3 w' w.heap.size (fun k_ => some k_ ≠ (bo : Value).ownBlock ∧ some k_ ≠ (br : Value).ownBlock) bq r3 ∧ Kd.R k63 63 w' w.heap.size (fun _ => True) bR r4 ∧ Kd.R (Kd.int .i64) 3 w' w.heap.size (fun k_ => some k_ ≠ (bo : Value).ownBlock ∧ some k_ ≠ (bq : Value).ownBlock) br r5 ∧ Below w.heap.size w w' := by
 have hu28 := Try.underlying28; have hu26 := Try.underlying26; have HB := Aside0.mk (Below.refl w.heap.size w); have H : ((spec_AgesNew.f k a1).bind fun ae => (if ae.2.2.2 = true then (if a0 < 1 then (spec_PoolNew.j0 k a0 true ae.1 ae.2.1 ae.2.2.1) else (spec_PoolNew.j0 k a0 (decide (a0 > 100)) ae.1 ae.2.1 ae.2.2.1)) else (spec_PoolNew.j0 k a0 true ae.1 ae.2.1 ae.2.2.1))) = some (r1, r2, r3, r4, r5, r6) := h; clear h; obtain ⟨⟨aw, ak, al, bc⟩, A3, H⟩ := ob H; (dsimp only at H); have bC := Aside0.mk H; clear H
 go_enter Try.func55, Try.ntmps55
 go_upto_region 2 with (first | ((with_reducible refine gate_dst (N := 4) rfl ?_); refine bx 4 #[.slice none 0 0, .int .i64 0, .slice none 0 0, .slice none 0 0, .slice none 0 0] 28 ?_; intro aV hg w5 hbox hb; have aa := am hbox; have bU := gs0 hg HB; have ah := gs0 hg HB; replace HB := s0 HB hb; clear hb hbox hg) | ((with_reducible refine gate_callee (f := 74) rfl ?_); refine gl 12 Try.func74 #[.int .i64 a1] ?_; (with_reducible refine (spec_AgesNew.calls k a1 aw ak al bc _ A3.out).mono ?_); rintro e w6 ⟨cs, ct, rfl, bW, bZ, hb⟩; refine ⟨_, rfl, ?_⟩; have aE := rl1 bW HB ah; have aG := rl1 bZ HB ah; replace aa := bb aa hb; replace HB := s1 HB ah hb; (try clear hb); (try clear bW); (try clear bZ)) | ((with_reducible refine gate_dst (N := 6) rfl ?_); refine bx 6 #[.int .i64 0, .slice none 0 0, .slice none 0 0] 26 ?_; intro a6 hg w7 hbox hb; replace aE := rb aE hb; replace aG := rb aG hb; have ad := am hbox; have b0 := gs1 hg HB ah; have aq := gs1 hg HB ah; replace HB := s1 HB ah hb; have ai := nl hg aa; have ar := ng hg aa; replace aa := bb aa hb; clear hb hbox hg; have cu := ar.out; have cw := ai.out; have aX := bz3 ad; obtain ⟨az, aA, bD⟩ := Kd.R_slice aE.out; subst bD; obtain ⟨aK, aN, bF⟩ := Kd.R_slice aG.out; subst bF))
 (try simp only [Act.put, List.setIfInBounds_toArray, List.set_cons_zero, List.set_cons_succ])
 go_cut [24] (fun cx wc => ∃ (kq : Nat) (aW : Bool), cx = .bool aW ∧ Aside0 (spec_PoolNew.j0 kq a0 aW aw ak al = some (r1, r2, r3, r4, r5, r6)) ∧ Aside0 (kq ≤ k) ∧ Aside0 (Kd.R (Kd.int .i64) 3 wc w.heap.size (fun _ => True) (.slice az ak.length aA) ak) ∧ Aside0 (Kd.R k63 63 wc w.heap.size (fun _ => True) (.slice aK al.length aN) al) ∧ Aside0 (wc.heap[aV]? = some (.cells #[(.slice none 0 0), .int .i64 0, (.slice none 0 0), (.slice none 0 0), (.slice none 0 0)] 28 (0, 0))) ∧ Aside0 (wc.heap[a6]? = some (.cells #[.int .i64 aw, (.slice az ak.length aA), (.slice aK al.length aN)] 26 (0, 0))) ∧ Aside0 (Below w.heap.size w wc))
 case first =>
  have H := bC.out; clear bC
  by_cases bf : bc = true
  ·subst bf; rw [if_pos rfl] at H
   by_cases a7 : a0 < 1
   ·rw [if_pos a7] at H; have aC : decide (a0 < 1) = true := decide_eq_true a7; clear a7; (first | rw [aC] | (simp only [i64_w, i32_w]; rw [aC]) | skip); have H' := Aside0.mk H; clear H
    go_wp2
    go_meet
    case rel => exact ⟨_, (true), rs, H', ⟨by first | omega | exact Nat.le_refl _⟩, ⟨(rfn aE ad)⟩, ⟨(rfn aG ad)⟩, ⟨(bp1 aa ai)⟩, ⟨(bp ad)⟩, ⟨be2 HB ah aq⟩⟩
   rw [if_neg a7] at H; have aC : decide (a0 < 1) = false := decide_eq_false a7; clear a7; (first | rw [aC] | (simp only [i64_w, i32_w]; rw [aC]) | skip); have H' := Aside0.mk H; clear H
   go_wp2
   go_meet
   case rel => exact ⟨_, (decide (a0 > 100)), rs, H', ⟨by first | omega | exact Nat.le_refl _⟩, ⟨(rfn aE ad)⟩, ⟨(rfn aG ad)⟩, ⟨(bp1 aa ai)⟩, ⟨(bp ad)⟩, ⟨be2 HB ah aq⟩⟩
  replace bf := Bool.eq_false_iff.mpr bf; subst bf; rw [if_neg nf] at H; have H' := Aside0.mk H; clear H
  go_wp2
  go_meet
  case rel => exact ⟨_, (true), rs, H', ⟨by first | omega | exact Nat.le_refl _⟩, ⟨(rfn aE ad)⟩, ⟨(rfn aG ad)⟩, ⟨(bp1 aa ai)⟩, ⟨(bp ad)⟩, ⟨be2 HB ah aq⟩⟩
 case rest =>
  clear bC
  try clear c1; try clear p2; try clear c5; try clear c7; try clear c8; try clear bf; try clear a7; try clear aC; try clear aX
  obtain ⟨kq, aW, rfl, HA, b1, ab, af, aa, ad, HB⟩ := hcut
  cases kq with
  | zero => exact absurd HA.out (by simp [spec_PoolNew.j0])
  | succ bG =>
   have H := HA.out; clear HA; simp only [spec_PoolNew.j0] at H
   by_cases bh : aW = true
   ·subst bh; rw [if_pos rfl] at H; simp only [Option.some.injEq, Prod.mk.injEq] at H; obtain ⟨rfl, rfl, rfl, rfl, rfl, rfl⟩ := H; have b2 := ai.out; have b3 := ar.out; have a3 := bz5 aa
    go_wp2
    refine bodyPost_ret (results_ct rfl _ _ aV 28 #[.slice none 0 0, .int .i64 0, .slice none 0 0, .slice none 0 0, .slice none 0 0] (0, 0) _ rfl (bp aa) Try.underlying28 rfl (by kernel_rfl)) rfl ?_; exact ⟨_, _, _, _, er, by first | exact Kd.R_nil _ _ _ _ _ | exact Kd.N_nil _ _ _ _ _ | exact Kd.V_nil _ _ _ _ _ | exact Kd.Q_nil _ _ _ _ _ | exact Kd.S_nil _ _ _ _ _, by first | exact Kd.R_nil _ _ _ _ _ | exact Kd.N_nil _ _ _ _ _ | exact Kd.V_nil _ _ _ _ _ | exact Kd.Q_nil _ _ _ _ _ | exact Kd.S_nil _ _ _ _ _, by first | exact Kd.R_nil _ _ _ _ _ | exact Kd.N_nil _ _ _ _ _ | exact Kd.V_nil _ _ _ _ _ | exact Kd.Q_nil _ _ _ _ _ | exact Kd.S_nil _ _ _ _ _, by first | exact Kd.R_nil _ _ _ _ _ | exact Kd.N_nil _ _ _ _ _ | exact Kd.V_nil _ _ _ _ _ | exact Kd.Q_nil _ _ _ _ _ | exact Kd.S_nil _ _ _ _ _, be2 HB ah aq⟩
   replace bh := Bool.eq_false_iff.mpr bh; subst bh; rw [if_neg nf] at H; have H' := Aside0.mk H; clear H; have b4 := ar.out; have b5 := ai.out; have a4 := bz3 ad
   go_wp2_with (first | ((with_reducible refine gate_dst (N := 8) rfl ?_); refine bx 8 #[.slice none 0 0, .int .i64 0, .slice none 0 0, .slice none 0 0, .slice none 0 0] 28 ?_; intro bi hg cz hbox hb; replace ab := rb ab hb; replace af := rb af hb; have ag := am hbox; have b6 := gs2 hg HB ah aq; have aI := gs2 hg HB ah aq; replace HB := s2 HB ah aq hb; have an := nl hg aa; have ax := ng hg aa; replace aa := bb aa hb; have ao := nl hg ad; have ay := ng hg ad; replace ad := bb ad hb; clear hb hbox hg; have b7 := ax.out; have b8 := an.out; have b9 := ay.out; have ca := ao.out; have a5 := bz5 ag))
   go_loopg [9] bG (fun kq v9 w' => ∃ (aD : Int) (aj : List Int) (au : Value), v9 = .int .i64 aD ∧ Aside0 (spec_PoolNew.l0 kq a0 aD aj aw ak al = some (r1, r2, r3, r4, r5, r6)) ∧ Aside0 (kq ≤ bG) ∧ Aside0 (Kd.R (Kd.int .i64) 3 w' w.heap.size (fun k_ => some k_ ≠ (au : Value).ownBlock) (.slice az ak.length aA) ak) ∧ Aside0 (Kd.R k63 63 w' w.heap.size (fun _ => True) (.slice aK al.length aN) al) ∧ Aside0 (Kd.R (Kd.int .i64) 3 w' w.heap.size (fun k_ => nb k_ az ak.length aA ∧ nb k_ az ak.length aA) au aj) ∧ Aside0 (Kd.R (Kd.int .i64) 3 w' w.heap.size (fun k_ => some k_ ≠ (au : Value).ownBlock) (.slice az ak.length aA) ak) ∧ Aside0 (Kd.R k63 63 w' w.heap.size (fun _ => True) (.slice aK al.length aN) al) ∧ Aside0 (w'.heap[aV]? = some (.cells #[(.slice none 0 0), .int .i64 0, (.slice none 0 0), (.slice none 0 0), (.slice none 0 0)] 28 (0, 0))) ∧ Aside0 (w'.heap[a6]? = some (.cells #[.int .i64 aw, (.slice az ak.length aA), (.slice aK al.length aN)] 26 (0, 0))) ∧ Aside0 (w'.heap[bi]? = some (.cells #[au, .int .i64 aw, (.slice az ak.length aA), (.slice aK al.length aN), (.slice none 0 0)] 28 (0, 0))) ∧ Aside0 (Below w.heap.size w w'))
   case atStart => exact ⟨(0), (([] : List Int)), (.slice none 0 0), rs, H', ⟨Nat.le_refl _⟩, ⟨(rfn ab ag)⟩, ⟨(rfn af ag)⟩, ⟨by first | exact Kd.R_nil _ _ _ _ _ | exact Kd.N_nil _ _ _ _ _ | exact Kd.V_nil _ _ _ _ _ | exact Kd.Q_nil _ _ _ _ _ | exact Kd.S_nil _ _ _ _ _⟩, ⟨(rfn ab ag)⟩, ⟨(rfn af ag)⟩, ⟨(bp1 aa an)⟩, ⟨(bp1 ad ao)⟩, ⟨(bp ag)⟩, ⟨be3 HB ah aq aI⟩⟩
   case round =>
    clear H'
    try clear c1; try clear c2; try clear p2; try clear c5; try clear c7; try clear c8; try clear bf; try clear a7; try clear aC; try clear bh; try clear cA; try clear cC; try clear cD; try clear cE; try clear a3; try clear a4; try clear a5; try clear aX; try clear p2
    obtain ⟨aD, aj, au, rfl, HA, cc, ab, af, ac, ap, av, aa, ad, ag, HB⟩ := hrel
    cases gk with
    | zero => exact absurd HA.out (by simp [spec_PoolNew.l0])
    | succ k2 =>
     have H := HA.out; clear HA; simp only [spec_PoolNew.l0] at H
     by_cases bg : aD < a0
     ·rw [if_pos bg] at H; have bj : decide (aD < a0) = true := decide_eq_true bg; clear bg
      by_cases bs : aj.length < 17592186044416
      ·rw [if_pos bs] at H; have bm := Aside0.mk bs; clear bs; obtain ⟨bd, aJ⟩ : ∃ y_ : List Int, y_ = (aj ++ [aD]) := ⟨_, rfl⟩; rw [← aJ] at H; have bn := Aside0.mk aJ; clear aJ; have H' := Aside0.mk H; clear H; have cd := ax.out; have ce := an.out; have cf := ay.out; have cg := ao.out; have bu := bz5 ag
       go_wp2_with (first | ((with_reducible refine gate_builtin (b := .append) (xs := #[.tmp 34, .tmp 36]) rfl ?_); at_builtin; refine Kd.R_append (Kd.int .i64) (w0 := w) w.heap.size rfl (.tmp 34) (.tmp 36) 23 3 (.int .i64 0) 8 rfl Try.underlying23 info3 rfl (by decide) (by omega) au aj aD [.int .i64 aD] (fun k_ => nb k_ az ak.length aA ∧ nb k_ az ak.length aA) (fun _ => False) rfl rfl ?aP (fun _ hk => hk.elim) ?aF ?aO ?aB ?aS ?aL ?_; (case aP => exact rfl); (case aB => exact (be3 HB ah aq aI)); (case aF => exact (fun k_ hk => ⟨Kd.fresh' (Kd.R_lt (ro ab)) k_ hk, Kd.fresh' (Kd.R_lt (ro ap)) k_ hk⟩)); (case aO => exact (ro ac)); (case aS => exact (below_size (be3 HB ah aq aI))); (case aL => have := bm.out; omega); intro cy cF ho hb hg hat; rw [← bn.out] at ho; replace ab := Aside0.mk (Kd.R_after (ok := (fun _ => True)) (by (with_reducible repeat (first | apply Kd.R_alloc | apply Kd.R_drewN | apply Kd.R_drew)); exact rm ab) hg hat); replace af := Aside0.mk (Kd.R_over' (ro af) (Kd.R_typed (ro ac)) (by decide) hg); replace ap := Aside0.mk (Kd.R_after (ok := (fun _ => True)) (by (with_reducible repeat (first | apply Kd.R_alloc | apply Kd.R_drewN | apply Kd.R_drew)); exact rm ap) hg hat); replace av := Aside0.mk (Kd.R_over' (ro av) (Kd.R_typed (ro ac)) (by decide) hg); replace aa := bgr aa hg (Kd.R_ne ac.out aa.out (by decide)); replace ad := bgr ad hg (Kd.R_ne ac.out ad.out (by decide)); replace ag := bgr ag hg (Kd.R_ne ac.out ag.out (by decide)); replace HB := Aside0.mk (hb); have a8 := Aside0.mk (ho); clear ac; clear ho hb hg hat; obtain ⟨bI, bJ, bM⟩ := Kd.R_slice a8.out; subst bM; have bw := bz5 ag))
       go_roundg k2
       case measure => have := b1.out; have := cc.out; omega
       case rel => exact ⟨(wrap64 (aD + 1)), (bd), (.slice bI bd.length bJ), rs, H', ⟨by have := b1.out; have := cc.out; omega⟩, ⟨(rfn ab ag)⟩, ⟨(rfn af ag)⟩, ⟨(rf a8 ag)⟩, ⟨(rfn ap ag)⟩, ⟨(rfn av ag)⟩, ⟨(bp1 aa an)⟩, ⟨(bp1 ad ao)⟩, ⟨(bp ag)⟩, ⟨be3 HB ah aq aI⟩⟩
      rw [if_neg bs] at H; exact absurd H (by simp)
     rw [if_neg bg] at H; have bj : decide (aD < a0) = false := decide_eq_false bg; clear bg; simp only [Option.some.injEq, Prod.mk.injEq] at H; obtain ⟨rfl, rfl, rfl, rfl, rfl, rfl⟩ := H; have ci := ax.out; have ck := an.out; have cl := ay.out; have cm := ao.out; have bz := bz5 ag; obtain ⟨bN, bO, bQ⟩ := Kd.R_slice ac.out; subst bQ; have cn := ai.out; have co := ar.out; have bA := bz5 aa
     go_wp2
     refine bodyPost_ret (results_ct rfl _ _ aV 28 #[.slice bN aj.length bO, .int .i64 aw, .slice az ak.length aA, .slice aK al.length aN, .slice none 0 0] (0, 0) _ rfl (bp aa) Try.underlying28 rfl (by kernel_rfl)) rfl ?_; exact ⟨_, _, _, _, er, (rfn ac aa), (rfn ap aa), (rfn av aa), by first | exact Kd.R_nil _ _ _ _ _ | exact Kd.N_nil _ _ _ _ _ | exact Kd.V_nil _ _ _ _ _ | exact Kd.Q_nil _ _ _ _ _ | exact Kd.S_nil _ _ _ _ _, be3 HB ah aq aI⟩

/-! ### spec_l01Byte: function 75 -/
def spec_l01Byte.f (ae : List Int) (aa : Int) (ac : Int) : Option (Int × Int × Int) := if aa < (ae.length : Int) then (if 0 ≤ aa then (some (Go.bits .and .i64 (wrap64 ((Go.bits .and .i64 (Go.bits .xor .i64 ((wrap64 ((wrap64 (ac * 6364136223846793005)) + 1442695040888963407)) / 8589934592) ((wrap64 ((wrap64 (ac * 6364136223846793005)) + 1442695040888963407)) / 35184372088832)) 255) + (wrap64 (rd ae aa)))) 255, wrap64 (aa + 1), wrap64 ((wrap64 (ac * 6364136223846793005)) + 1442695040888963407))) else (none)) else (some (Go.bits .and .i64 (Go.bits .xor .i64 ((wrap64 ((wrap64 (ac * 6364136223846793005)) + 1442695040888963407)) / 8589934592) ((wrap64 ((wrap64 (ac * 6364136223846793005)) + 1442695040888963407)) / 35184372088832)) 255, aa, wrap64 ((wrap64 (ac * 6364136223846793005)) + 1442695040888963407)))
set_option maxHeartbeats 8000000 in
set_option maxRecDepth 100000 in
theorem spec_l01Byte.calls (g : Nat) (ae : List Int) (aa : Int) (ac : Int) (r1 : Int) (r2 : Int) (r3 : Int) (w0 w : World) (hI : IsS56 w0 w g ae aa ac) (hB : Below w0.heap.size w0 w) (h : spec_l01Byte.f ae aa ac = some (r1, r2, r3)) :
  Calls Try.prog 75 #[.pointer (some ⟨g, 0, none⟩)] w fun e w' => e = .returned (.int .i64 r1) ∧ IsS56 w0 w' g ae r2 r3 ∧ Below w0.heap.size w0 w' ∧ KeepBut w w' g none := by
 have ah := Aside0.mk hI; have HK := Aside0.mk (KeepBut.refl w g none); have HL := Aside0.mk hB.size; clear hI; have aK := Aside0.mk hB.size; have HB := Aside0.mk hB; clear hB; have H : (if aa < (ae.length : Int) then (if 0 ≤ aa then (some (Go.bits .and .i64 (wrap64 ((Go.bits .and .i64 (Go.bits .xor .i64 ((wrap64 ((wrap64 (ac * 6364136223846793005)) + 1442695040888963407)) / 8589934592) ((wrap64 ((wrap64 (ac * 6364136223846793005)) + 1442695040888963407)) / 35184372088832)) 255) + (wrap64 (rd ae aa)))) 255, wrap64 (aa + 1), wrap64 ((wrap64 (ac * 6364136223846793005)) + 1442695040888963407))) else (none)) else (some (Go.bits .and .i64 (Go.bits .xor .i64 ((wrap64 ((wrap64 (ac * 6364136223846793005)) + 1442695040888963407)) / 8589934592) ((wrap64 ((wrap64 (ac * 6364136223846793005)) + 1442695040888963407)) / 35184372088832)) 255, aa, wrap64 ((wrap64 (ac * 6364136223846793005)) + 1442695040888963407)))) = some (r1, r2, r3) := h; clear h
 by_cases c2 : aa < (ae.length : Int)
 ·rw [if_pos c2] at H; have ao : decide (aa < (ae.length : Int)) = true := decide_eq_true c2; clear c2
  by_cases c3 : 0 ≤ aa
  ·rw [if_pos c3] at H; have aJ : decide (0 ≤ aa) = true := decide_eq_true c3; clear c3; simp only [Option.some.injEq, Prod.mk.injEq] at H; obtain ⟨rfl, rfl, rfl⟩ := H; obtain ⟨ap, aq, af, ar, aj⟩ := ah.out; have au := cellS56_0 af; have av := cellS56_1 af; have aw := cellS56_2 af; have ax := blk_frozen af 1; have ay := blk_frozen af 2; clear af ar; have ak : 0 ≤ (aa : Int) := od; have al : aa < (ae.length : Int) := od; obtain ⟨an, az, ab⟩ := Kd.at_int aj aa ak al; cases az; have ad : an.block ≠ g := Nat.ne_of_lt (Nat.lt_of_lt_of_le (by have := World.block_lt_of_cell? _ _ ab; first | rwa [add_block] at this | exact this) (IsS56.ge ah.out)); replace ab := pw_cell_below HB.out ab; replace ab := (cell_far (p := ⟨g, 2, none⟩) (by first | (with_reducible exact ad) | (rw [add_block]; exact ad) | (show (Addr.add _ _).block ≠ _; rw [add_block]; exact ad) | exact ad) (.int .i64 (wrap64 ((wrap64 (ac * 6364136223846793005)) + 1442695040888963407)))).trans ab; (try have ai := fun (n_ : Nat) => (Go.Proofs.Ytgkliacflbenfaa.Mo.drew_cell n_ ab)); (try simp only [Go.Proofs.Ytgkliacflbenfaa.Mo.set_drewN] at ai); clear ad; replace ak := eq_true ak; replace al := eq_true al
   go_enter Try.func75, Try.ntmps75
   go_wp2
   repeat (go_quiet (fail); try go_wp2)
   go_ret
   exact ⟨er, by repeat (first | (with_reducible first | exact ah.out | apply IsS56.alloc | apply IsS56.drewN | apply IsS56.drew | apply IsS56.set_1 | apply IsS56.set_2) | exact ah.out), by repeat (first | (with_reducible first | exact HB.out | apply below_alloc | apply pw_below_drewN | apply below_drew1 | refine below_set ?_ (IsS56.ge ah.out)) | exact HB.out), by repeat (first | (with_reducible first | exact HK.out | apply KeepBut.set_ | apply keep_drewN | apply keep_drew | apply keep_alloc) | exact HK.out)⟩
  rw [if_neg c3] at H; exact absurd H (by simp)
 rw [if_neg c2] at H; have ao : decide (aa < (ae.length : Int)) = false := decide_eq_false c2; clear c2; simp only [Option.some.injEq, Prod.mk.injEq] at H; obtain ⟨rfl, rfl, rfl⟩ := H; obtain ⟨aA, aB, ag, aC, aD⟩ := ah.out; have aE := cellS56_0 ag; have aF := cellS56_1 ag; have aG := cellS56_2 ag; have aH := blk_frozen ag 1; have aI := blk_frozen ag 2; clear ag aC
 go_enter Try.func75, Try.ntmps75
 go_wp2
 repeat (go_quiet (fail); try go_wp2)
 go_ret
 exact ⟨er, by repeat (first | (with_reducible first | exact ah.out | apply IsS56.alloc | apply IsS56.drewN | apply IsS56.drew | apply IsS56.set_1 | apply IsS56.set_2) | exact ah.out), by repeat (first | (with_reducible first | exact HB.out | apply below_alloc | apply pw_below_drewN | apply below_drew1 | refine below_set ?_ (IsS56.ge ah.out)) | exact HB.out), by repeat (first | (with_reducible first | exact HK.out | apply KeepBut.set_ | apply keep_drewN | apply keep_drew | apply keep_alloc) | exact HK.out)⟩

/-! ### spec_l01Below: function 56 -/
def spec_l01Below.f (ab : List Int) (af : Int) (ag : Int) (a1 : Int) : Option (Int × Int × Int) := if a1 ≤ 0 then (some (0, af, ag)) else (if a1 ≤ 256 then ((spec_l01Byte.f ab af ag).bind fun ah => (if a1 = 0 then (none) else (some (Int.tmod ah.1 a1, ah.2.1, ah.2.2)))) else ((spec_l01Byte.f ab af ag).bind fun ai => ((spec_l01Byte.f ab ai.2.1 ai.2.2).bind fun ad => ((spec_l01Byte.f ab ad.2.1 ad.2.2).bind fun ac => ((spec_l01Byte.f ab ac.2.1 ac.2.2).bind fun aa => (if a1 = 0 then (none) else (some (Int.tmod (wrap64 ((wrap64 ((wrap64 ((wrap64 (ai.1 * 16777216)) + (wrap64 (ad.1 * 65536)))) + (wrap64 (ac.1 * 256)))) + aa.1)) a1, aa.2.1, aa.2.2))))))))
set_option maxHeartbeats 8000000 in
set_option maxRecDepth 100000 in
theorem spec_l01Below.calls (g : Nat) (ab : List Int) (af : Int) (ag : Int) (a1 : Int) (r1 : Int) (r2 : Int) (r3 : Int) (w0 w : World) (hI : IsS56 w0 w g ab af ag) (hB : Below w0.heap.size w0 w) (h : spec_l01Below.f ab af ag a1 = some (r1, r2, r3)) :
  Calls Try.prog 56 #[.pointer (some ⟨g, 0, none⟩), .int .i64 a1] w fun e w' => e = .returned (.int .i64 r1) ∧ IsS56 w0 w' g ab r2 r3 ∧ Below w0.heap.size w0 w' ∧ KeepBut w w' g none := by
 have ae := Aside0.mk hI; have HK := Aside0.mk (KeepBut.refl w g none); have HL := Aside0.mk hB.size; clear hI; have aR := Aside0.mk hB.size; have HB := Aside0.mk hB; clear hB; have H : (if a1 ≤ 0 then (some (0, af, ag)) else (if a1 ≤ 256 then ((spec_l01Byte.f ab af ag).bind fun ah => (if a1 = 0 then (none) else (some (Int.tmod ah.1 a1, ah.2.1, ah.2.2)))) else ((spec_l01Byte.f ab af ag).bind fun ai => ((spec_l01Byte.f ab ai.2.1 ai.2.2).bind fun ad => ((spec_l01Byte.f ab ad.2.1 ad.2.2).bind fun ac => ((spec_l01Byte.f ab ac.2.1 ac.2.2).bind fun aa => (if a1 = 0 then (none) else (some (Int.tmod (wrap64 ((wrap64 ((wrap64 ((wrap64 (ai.1 * 16777216)) + (wrap64 (ad.1 * 65536)))) + (wrap64 (ac.1 * 256)))) + aa.1)) a1, aa.2.1, aa.2.2))))))))) = some (r1, r2, r3) := h; clear h
 by_cases c3 : a1 ≤ 0
 ·rw [if_pos c3] at H; have aE : decide (a1 ≤ 0) = true := decide_eq_true c3; clear c3; simp only [Option.some.injEq, Prod.mk.injEq] at H; obtain ⟨rfl, rfl, rfl⟩ := H
  go_enter Try.func56, Try.ntmps56
  go_wp2
  go_ret
  exact ⟨er, by repeat (first | (with_reducible first | exact ae.out | apply IsS56.alloc | apply IsS56.drewN | apply IsS56.drew | apply IsS56.set_1 | apply IsS56.set_2) | exact ae.out), by repeat (first | (with_reducible first | exact HB.out | apply below_alloc | apply pw_below_drewN | apply below_drew1 | refine below_set ?_ (IsS56.ge ae.out)) | exact HB.out), by repeat (first | (with_reducible first | exact HK.out | apply KeepBut.set_ | apply keep_drewN | apply keep_drew | apply keep_alloc) | exact HK.out)⟩
 rw [if_neg c3] at H; have aE : decide (a1 ≤ 0) = false := decide_eq_false c3; clear c3
 by_cases c4 : a1 ≤ 256
 ·rw [if_pos c4] at H; have aF : decide (a1 ≤ 256) = true := decide_eq_true c4; clear c4; obtain ⟨⟨av, aw, ax⟩, A5, H⟩ := ob H; (dsimp only at H)
  by_cases c6 : a1 = 0
  ·rw [if_pos c6] at H; exact absurd H (by simp)
  rw [if_neg c6] at H; have aL : (a1 == 0) = false := beq_eq_false_iff_ne.mpr c6; have aN : (a1 != 0) = true := bne_iff_ne.mpr c6; simp only [Option.some.injEq, Prod.mk.injEq] at H; obtain ⟨rfl, rfl, rfl⟩ := H
  go_enter Try.func56, Try.ntmps56
  go_wp2_with (first | ((with_reducible refine gate_callee (f := 75) rfl ?_); refine gl 14 Try.func75 #[.pointer (some ⟨g, 0, none⟩)] ?_; (with_reducible refine (spec_l01Byte.calls g ab af ag av aw ax w0 _ ?side1 ?side2 A5.out).mono ?_); (case side1 => repeat (first | (with_reducible first | exact ae.out | apply IsS56.alloc | apply IsS56.drewN | apply IsS56.drew | apply IsS56.set_1 | apply IsS56.set_2) | exact ae.out)); (case side2 => repeat (first | (with_reducible first | exact HB.out | apply below_alloc | apply pw_below_drewN | apply below_drew1 | refine below_set ?_ (IsS56.ge ae.out)) | exact HB.out)); rintro e w7 ⟨rfl, hi, hb, hk⟩; refine ⟨_, rfl, ?_⟩; replace HK := Aside0.mk (KeepBut.trans (by repeat (first | (with_reducible first | exact HK.out | apply KeepBut.set_ | apply keep_drewN | apply keep_drew | apply keep_alloc) | exact HK.out)) hk (.inl rfl)); replace HB := Aside0.mk (hb); replace ae := Aside0.mk (hi); (try clear hb); (try clear hk); (try clear hi)))
  go_ret
  exact ⟨er, by repeat (first | (with_reducible first | exact ae.out | apply IsS56.alloc | apply IsS56.drewN | apply IsS56.drew | apply IsS56.set_1 | apply IsS56.set_2) | exact ae.out), by repeat (first | (with_reducible first | exact HB.out | apply below_alloc | apply pw_below_drewN | apply below_drew1 | refine below_set ?_ (IsS56.ge ae.out)) | exact HB.out), by repeat (first | (with_reducible first | exact HK.out | apply KeepBut.set_ | apply keep_drewN | apply keep_drew | apply keep_alloc) | exact HK.out)⟩
 rw [if_neg c4] at H; have aF : decide (a1 ≤ 256) = false := decide_eq_false c4; clear c4; obtain ⟨⟨aj, al, an⟩, A8, H⟩ := ob H; (dsimp only at H); obtain ⟨⟨ak, ao, ap⟩, A9, H⟩ := ob H; (dsimp only at H); obtain ⟨⟨aq, ar, au⟩, aO, H⟩ := ob H; (dsimp only at H); obtain ⟨⟨az, aA, aB⟩, aQ, H⟩ := ob H; (dsimp only at H)
 by_cases aD : a1 = 0
 ·rw [if_pos aD] at H; exact absurd H (by simp)
 rw [if_neg aD] at H; have aJ : (a1 == 0) = false := beq_eq_false_iff_ne.mpr aD; have aK : (a1 != 0) = true := bne_iff_ne.mpr aD; simp only [Option.some.injEq, Prod.mk.injEq] at H; obtain ⟨rfl, rfl, rfl⟩ := H
 go_enter Try.func56, Try.ntmps56
 go_wp2_with (first | ((with_reducible refine gate_callee (f := 75) rfl ?_); refine gl 18 Try.func75 #[.pointer (some ⟨g, 0, none⟩)] ?_; (with_reducible refine (spec_l01Byte.calls g ab af ag aj al an w0 _ ?side1 ?side2 A8.out).mono ?_); (case side1 => repeat (first | (with_reducible first | exact ae.out | apply IsS56.alloc | apply IsS56.drewN | apply IsS56.drew | apply IsS56.set_1 | apply IsS56.set_2) | exact ae.out)); (case side2 => repeat (first | (with_reducible first | exact HB.out | apply below_alloc | apply pw_below_drewN | apply below_drew1 | refine below_set ?_ (IsS56.ge ae.out)) | exact HB.out)); rintro e aU ⟨rfl, hi, hb, hk⟩; refine ⟨_, rfl, ?_⟩; replace HK := Aside0.mk (KeepBut.trans (by repeat (first | (with_reducible first | exact HK.out | apply KeepBut.set_ | apply keep_drewN | apply keep_drew | apply keep_alloc) | exact HK.out)) hk (.inl rfl)); replace HB := Aside0.mk (hb); replace ae := Aside0.mk (hi); (try clear hb); (try clear hk); (try clear hi)) | ((with_reducible refine gate_callee (f := 75) rfl ?_); refine gl 20 Try.func75 #[.pointer (some ⟨g, 0, none⟩)] ?_; (with_reducible refine (spec_l01Byte.calls g ab al an ak ao ap w0 _ ?side1 ?side2 A9.out).mono ?_); (case side1 => repeat (first | (with_reducible first | exact ae.out | apply IsS56.alloc | apply IsS56.drewN | apply IsS56.drew | apply IsS56.set_1 | apply IsS56.set_2) | exact ae.out)); (case side2 => repeat (first | (with_reducible first | exact HB.out | apply below_alloc | apply pw_below_drewN | apply below_drew1 | refine below_set ?_ (IsS56.ge ae.out)) | exact HB.out)); rintro e aV ⟨rfl, hi, hb, hk⟩; refine ⟨_, rfl, ?_⟩; replace HK := Aside0.mk (KeepBut.trans (by repeat (first | (with_reducible first | exact HK.out | apply KeepBut.set_ | apply keep_drewN | apply keep_drew | apply keep_alloc) | exact HK.out)) hk (.inl rfl)); replace HB := Aside0.mk (hb); replace ae := Aside0.mk (hi); (try clear hb); (try clear hk); (try clear hi)) | ((with_reducible refine gate_callee (f := 75) rfl ?_); refine gl 22 Try.func75 #[.pointer (some ⟨g, 0, none⟩)] ?_; (with_reducible refine (spec_l01Byte.calls g ab ao ap aq ar au w0 _ ?side1 ?side2 aO.out).mono ?_); (case side1 => repeat (first | (with_reducible first | exact ae.out | apply IsS56.alloc | apply IsS56.drewN | apply IsS56.drew | apply IsS56.set_1 | apply IsS56.set_2) | exact ae.out)); (case side2 => repeat (first | (with_reducible first | exact HB.out | apply below_alloc | apply pw_below_drewN | apply below_drew1 | refine below_set ?_ (IsS56.ge ae.out)) | exact HB.out)); rintro e aW ⟨rfl, hi, hb, hk⟩; refine ⟨_, rfl, ?_⟩; replace HK := Aside0.mk (KeepBut.trans (by repeat (first | (with_reducible first | exact HK.out | apply KeepBut.set_ | apply keep_drewN | apply keep_drew | apply keep_alloc) | exact HK.out)) hk (.inl rfl)); replace HB := Aside0.mk (hb); replace ae := Aside0.mk (hi); (try clear hb); (try clear hk); (try clear hi)) | ((with_reducible refine gate_callee (f := 75) rfl ?_); refine gl 24 Try.func75 #[.pointer (some ⟨g, 0, none⟩)] ?_; (with_reducible refine (spec_l01Byte.calls g ab ar au az aA aB w0 _ ?side1 ?side2 aQ.out).mono ?_); (case side1 => repeat (first | (with_reducible first | exact ae.out | apply IsS56.alloc | apply IsS56.drewN | apply IsS56.drew | apply IsS56.set_1 | apply IsS56.set_2) | exact ae.out)); (case side2 => repeat (first | (with_reducible first | exact HB.out | apply below_alloc | apply pw_below_drewN | apply below_drew1 | refine below_set ?_ (IsS56.ge ae.out)) | exact HB.out)); rintro e aX ⟨rfl, hi, hb, hk⟩; refine ⟨_, rfl, ?_⟩; replace HK := Aside0.mk (KeepBut.trans (by repeat (first | (with_reducible first | exact HK.out | apply KeepBut.set_ | apply keep_drewN | apply keep_drew | apply keep_alloc) | exact HK.out)) hk (.inl rfl)); replace HB := Aside0.mk (hb); replace ae := Aside0.mk (hi); (try clear hb); (try clear hk); (try clear hi)))
 go_ret
 exact ⟨er, by repeat (first | (with_reducible first | exact ae.out | apply IsS56.alloc | apply IsS56.drewN | apply IsS56.drew | apply IsS56.set_1 | apply IsS56.set_2) | exact ae.out), by repeat (first | (with_reducible first | exact HB.out | apply below_alloc | apply pw_below_drewN | apply below_drew1 | refine below_set ?_ (IsS56.ge ae.out)) | exact HB.out), by repeat (first | (with_reducible first | exact HK.out | apply KeepBut.set_ | apply keep_drewN | apply keep_drew | apply keep_alloc) | exact HK.out)⟩

end Go.Proofs.Ytgkliacflbenfaa.QFnAges
