/- Small words beside the print's: worlds that were drawn from, arguments that are spelled otherwise. No condition. -/
import Derived.Test.YtmebfingnfhmlaaWWords
namespace Go.Proofs.Ytmebfingnfhmlaa.Mo
open Go.RowKit
theorem drew_cell {W : World} {a : Addr} {v : Value} (n : Nat) (h : W.cell? a = some v) : (W.drewN n).cell? a = some v := h
theorem set_drewN (W : World) (n : Nat) (p : Addr) (u : Value) : (W.setCell p u).drewN n = (W.drewN n).setCell p u := by
  cases W; unfold World.setCell World.drewN; rfl
open Go.Proofs.YtmebfingnfhmlaaW.PrintWords
theorem cell_to {w W : World} {n : Nat} {a : Addr} {v : Value} (e : World.drew (World.drewN w n) = W) (h : w.drew.cell? a = some v) : W.cell? a = some v := by subst e; exact h
theorem below_to {B : Nat} {w0 w W : World} {n : Nat} (e : World.drew (World.drewN w n) = W) (h : Below B w0 w.drew) : Below B w0 W := by subst e; exact ⟨h.os, h.tape, h.output, h.size, h.block⟩
theorem row_to {α : Type} {d : Kd α} {t : Nat} {base : Nat} {ok : Nat → Prop} {v : Value} {xs : List α} {w W : World} {n : Nat} (e : World.drew (World.drewN w n) = W) (h : Kd.R d t w.drew base ok v xs) : Kd.R d t W base ok v xs := by subst e; exact Kd.R_step h (fun _ _ _ => rfl)
end Go.Proofs.Ytmebfingnfhmlaa.Mo
