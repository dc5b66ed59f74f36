/- Small words beside the print's: worlds that were drawn from, arguments that are spelled otherwise. No condition. -/
import Derived.Test.YtllaoamaplepmaaWWords
namespace Go.Proofs.Ytllaoamaplepmaa.Mo
open Go.RowKit
theorem drew_cell {W : World} {a : Addr} {v : Value} (n : Nat) (h : W.cell? a = some v) : (W.drewN n).cell? a = some v := h
theorem set_drewN (W : World) (n : Nat) (p : Addr) (u : Value) : (W.setCell p u).drewN n = (W.drewN n).setCell p u := by
  cases W; unfold World.setCell World.drewN; rfl
end Go.Proofs.Ytllaoamaplepmaa.Mo
