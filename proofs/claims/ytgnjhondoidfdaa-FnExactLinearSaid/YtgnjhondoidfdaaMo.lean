/- Small words beside the print's: worlds that were drawn from, arguments that are spelled otherwise. No condition. -/
import Derived.Test.YtgnjhondoidfdaaWWords
import Derived.Test.YtgnjhondoidfdaaWLast
namespace Go.Proofs.Ytgnjhondoidfdaa.Mo
open Go.RowKit
theorem drew_cell {W : World} {a : Addr} {v : Value} (n : Nat) (h : W.cell? a = some v) : (W.drewN n).cell? a = some v := h
theorem set_drewN (W : World) (n : Nat) (p : Addr) (u : Value) : (W.setCell p u).drewN n = (W.drewN n).setCell p u := by
  cases W; unfold World.setCell World.drewN; rfl
open Go.Proofs.YtgnjhondoidfdaaW.PrintWords
theorem cell_to {w W : World} {n : Nat} {a : Addr} {v : Value} (e : World.drew (World.drewN w n) = W) (h : w.drew.cell? a = some v) : W.cell? a = some v := by subst e; exact h
theorem below_to {B : Nat} {w0 w W : World} {n : Nat} (e : World.drew (World.drewN w n) = W) (h : Below B w0 w.drew) : Below B w0 W := by subst e; exact ⟨h.os, h.tape, h.output, h.size, h.block⟩
theorem row_to {α : Type} {d : Kd α} {t : Nat} {base : Nat} {ok : Nat → Prop} {v : Value} {xs : List α} {w W : World} {n : Nat} (e : World.drew (World.drewN w n) = W) (h : Kd.R d t w.drew base ok v xs) : Kd.R d t W base ok v xs := by subst e; exact Kd.R_step h (fun _ _ _ => rfl)
end Go.Proofs.Ytgnjhondoidfdaa.Mo
namespace Go.Proofs.Ytgnjhondoidfdaa
open Go.RowKit Go.Proofs.YtgnjhondoidfdaaW.PrintWords
theorem ro {q p : Prop} (h : Aside0 q) (f : q → p := by intro h_; (with_reducible repeat (first | apply Kd.R_alloc | apply Kd.R_drewN | apply Kd.R_drew)); exact h_) : p := f h.out
theorem bk {q p : Prop} (h : Aside0 q) (f : q → p := by intro h_; (with_reducible repeat (first | refine blk_drewN ?_ _ | refine blk_drew ?_ | refine blk_alloc ?_ _)); exact h_) : p := f h.out
theorem be {q p : Prop} (h : Aside0 q) (f : q → p := by intro h_; repeat (first | (with_reducible first | exact h_ | apply below_alloc | apply pw_below_drewN | apply below_drew1) | exact h_)) : p := f h.out
theorem be1 {q r p : Prop} (h : Aside0 q) (g : Aside0 r) (f : q → r → p := by intro h_ g_; repeat (first | (with_reducible first | exact h_ | apply below_alloc | apply pw_below_drewN | apply below_drew1 | refine below_set ?_ g_) | exact h_)) : p := f h.out g.out
theorem be2 {q r t p : Prop} (h : Aside0 q) (g : Aside0 r) (g' : Aside0 t) (f : q → r → t → p := by intro h_ g_ g1_; repeat (first | (with_reducible first | exact h_ | apply below_alloc | apply pw_below_drewN | apply below_drew1 | refine below_set ?_ g_ | refine below_set ?_ g1_) | exact h_)) : p := f h.out g.out g'.out
/-- A row of bits, from its number. -/
def bv (n m : Nat) : Array Bool := ((List.range n).map fun i => m.testBit i).toArray
/-- What is put where. -/
theorem aP : (∀ (a : Act) (n : Tmp) (v : Value), a.put (some n) v = { a with tmps := a.tmps.setIfInBounds n v }) ∧ (∀ (a : Act) (v : Value), a.put none v = a) ∧ (∀ (l : List Value) (i : Nat) (v : Value), l.toArray.setIfInBounds i v = (l.set i v).toArray) ∧ (∀ (x : Value) (l : List Value) (v : Value), (x :: l).set 0 v = v :: l) ∧ (∀ (x : Value) (l : List Value) (i : Nat) (v : Value), (x :: l).set (i + 1) v = x :: l.set i v) ∧ (∀ n : Int, IntKind.i64.wrap n = wrap64 n) ∧ (∀ n : Int, IntKind.i32.wrap n = wrap32 n) :=
  ⟨fun _ _ _ => rfl, fun _ _ => rfl, fun l i v => List.setIfInBounds_toArray l i v, fun _ _ _ => rfl, fun _ _ _ _ => rfl, Go.Proofs.YtgnjhondoidfdaaW.PrintLast.i64_w, Go.Proofs.YtgnjhondoidfdaaW.PrintLast.i32_w⟩
end Go.Proofs.Ytgnjhondoidfdaa
