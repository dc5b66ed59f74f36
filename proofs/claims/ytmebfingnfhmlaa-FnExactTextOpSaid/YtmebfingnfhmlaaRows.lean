/-
  No cell of these rows narrows 'for every input' (looked for: loops, veiled, ifaces, maps, wideKeys, modest, calm, conditions, laid).
  DERIVED. THE GIVEN ROWS OF THIS SEAT. 12 by the template 'for every input the law returns true; each argument reads behind the call as it read before'; 0 by the template 'total and deterministic' (their statements: YtmebfingnfhmlaaTotals.lean).
  GIVEN WITH THE SEED: the statements are not yours to turn. If you find one false, say at which input.
  Laid BY PROGRAM, IN A SANDBOX (cutbox-rows.mjs): the forced cells as the released guide's own fill.sh prints them over the translation e4374596931a4af0… (all of the seat's roots in one cut). By AI agents, Wed Nov 11 2026. No macro, syntax, notation, axiom, sorry.
-/
import Derived.Test.YtmebfingnfhmlaaChecked
import GoSem.Claim
import GoSem.ClaimJoined
import GoSem.ClaimMapViews
import Derived.JoinedTies
import Derived.KernelRfl
namespace Go.Proofs.Ytmebfingnfhmlaa
/- THE CELL 'sum', in the pinned program and in every row, IS THE sha256 OF THE DUMP (.gsa) THAT YtmebfingnfhmlaaProg.lean LOADS. Nothing in Lean hashes anything: it is a label: what it is worth is what the hold of that sum in a sandbox is worth. -/
noncomputable def Try.pinned : Pinned := { name := "ytmebfingnfhmlaa", sum := "e4374596931a4af01236a9006d7f71a5d3c7cf9f5e2b2c050f5b096617814114", checked := Try.checked }
namespace Rows
def none {H : Type} : Left H := { results := [], args := [] }

/-- 'laws.FnExactBestGo': WHATEVER THE INPUT: true; the input reads as it did. -/
def fnExactBestGoSpec : ChangeSpec := { name := "fnExactBestGo", fn := fun _ => fun
  | [d1, d2, d3] => { results := [.lit (.bool true)], args := [d1, d2, d3] }
  | _ => none }
def fnExactBestGoRow : OpenClaim := { program := "ytmebfingnfhmlaa", sum := "e4374596931a4af01236a9006d7f71a5d3c7cf9f5e2b2c050f5b096617814114", func := "loop.example/g00724/laws.FnExactBestGo", spec := "fnExactBestGo", apart := false }
def FnExactBestGoSaid : Prop := fnExactBestGoRow.holds Try.pinned (OpenSpec.ofChange fnExactBestGoSpec)

/-- ITS FALSE NEIGHBOUR: 'it returns false'. Refute it at one input. -/
def fnExactBestGoWrong : ChangeSpec := { name := "fnExactBestGo", fn := fun _ => fun
  | [d1, d2, d3] => { results := [.lit (.bool false)], args := [d1, d2, d3] }
  | _ => none }
def FnExactBestGoWrongFalsely : Prop := fnExactBestGoRow.holds Try.pinned (OpenSpec.ofChange fnExactBestGoWrong)

/-- 'laws.FnExactAsksOk': WHATEVER THE INPUT: true; the input reads as it did. -/
def fnExactAsksOkSpec : ChangeSpec := { name := "fnExactAsksOk", fn := fun _ => fun
  | [d] => { results := [.lit (.bool true)], args := [d] }
  | _ => none }
def fnExactAsksOkRow : OpenClaim := { program := "ytmebfingnfhmlaa", sum := "e4374596931a4af01236a9006d7f71a5d3c7cf9f5e2b2c050f5b096617814114", func := "loop.example/g00724/laws.FnExactAsksOk", spec := "fnExactAsksOk", apart := false }
def FnExactAsksOkSaid : Prop := fnExactAsksOkRow.holds Try.pinned (OpenSpec.ofChange fnExactAsksOkSpec)

/-- ITS FALSE NEIGHBOUR: 'it returns false'. Refute it at one input. -/
def fnExactAsksOkWrong : ChangeSpec := { name := "fnExactAsksOk", fn := fun _ => fun
  | [d] => { results := [.lit (.bool false)], args := [d] }
  | _ => none }
def FnExactAsksOkWrongFalsely : Prop := fnExactAsksOkRow.holds Try.pinned (OpenSpec.ofChange fnExactAsksOkWrong)

/-- 'laws.FnExactOpText': WHATEVER THE INPUT: true; the input reads as it did. -/
def fnExactOpTextSpec : ChangeSpec := { name := "fnExactOpText", fn := fun _ => fun
  | [d] => { results := [.lit (.bool true)], args := [d] }
  | _ => none }
def fnExactOpTextRow : OpenClaim := { program := "ytmebfingnfhmlaa", sum := "e4374596931a4af01236a9006d7f71a5d3c7cf9f5e2b2c050f5b096617814114", func := "loop.example/g00724/laws.FnExactOpText", spec := "fnExactOpText", apart := false }
def FnExactOpTextSaid : Prop := fnExactOpTextRow.holds Try.pinned (OpenSpec.ofChange fnExactOpTextSpec)

/-- ITS FALSE NEIGHBOUR: 'it returns false'. Refute it at one input. -/
def fnExactOpTextWrong : ChangeSpec := { name := "fnExactOpText", fn := fun _ => fun
  | [d] => { results := [.lit (.bool false)], args := [d] }
  | _ => none }
def FnExactOpTextWrongFalsely : Prop := fnExactOpTextRow.holds Try.pinned (OpenSpec.ofChange fnExactOpTextWrong)

/-- 'laws.FnExactFits': WHATEVER THE INPUT: true; the input reads as it did. -/
def fnExactFitsSpec : ChangeSpec := { name := "fnExactFits", fn := fun _ => fun
  | [d1, d2, d3, d4] => { results := [.lit (.bool true)], args := [d1, d2, d3, d4] }
  | _ => none }
def fnExactFitsRow : OpenClaim := { program := "ytmebfingnfhmlaa", sum := "e4374596931a4af01236a9006d7f71a5d3c7cf9f5e2b2c050f5b096617814114", func := "loop.example/g00724/laws.FnExactFits", spec := "fnExactFits", apart := false }
def FnExactFitsSaid : Prop := fnExactFitsRow.holds Try.pinned (OpenSpec.ofChange fnExactFitsSpec)

/-- ITS FALSE NEIGHBOUR: 'it returns false'. Refute it at one input. -/
def fnExactFitsWrong : ChangeSpec := { name := "fnExactFits", fn := fun _ => fun
  | [d1, d2, d3, d4] => { results := [.lit (.bool false)], args := [d1, d2, d3, d4] }
  | _ => none }
def FnExactFitsWrongFalsely : Prop := fnExactFitsRow.holds Try.pinned (OpenSpec.ofChange fnExactFitsWrong)

/-- 'laws.FnExactBins': WHATEVER THE INPUT: true; the input reads as it did. -/
def fnExactBinsSpec : ChangeSpec := { name := "fnExactBins", fn := fun _ => fun
  | [d1, d2] => { results := [.lit (.bool true)], args := [d1, d2] }
  | _ => none }
def fnExactBinsRow : OpenClaim := { program := "ytmebfingnfhmlaa", sum := "e4374596931a4af01236a9006d7f71a5d3c7cf9f5e2b2c050f5b096617814114", func := "loop.example/g00724/laws.FnExactBins", spec := "fnExactBins", apart := false }
def FnExactBinsSaid : Prop := fnExactBinsRow.holds Try.pinned (OpenSpec.ofChange fnExactBinsSpec)

/-- ITS FALSE NEIGHBOUR: 'it returns false'. Refute it at one input. -/
def fnExactBinsWrong : ChangeSpec := { name := "fnExactBins", fn := fun _ => fun
  | [d1, d2] => { results := [.lit (.bool false)], args := [d1, d2] }
  | _ => none }
def FnExactBinsWrongFalsely : Prop := fnExactBinsRow.holds Try.pinned (OpenSpec.ofChange fnExactBinsWrong)

/-- 'laws.FnExactWinner': WHATEVER THE INPUT: true; the input reads as it did. -/
def fnExactWinnerSpec : ChangeSpec := { name := "fnExactWinner", fn := fun _ => fun
  | [d] => { results := [.lit (.bool true)], args := [d] }
  | _ => none }
def fnExactWinnerRow : OpenClaim := { program := "ytmebfingnfhmlaa", sum := "e4374596931a4af01236a9006d7f71a5d3c7cf9f5e2b2c050f5b096617814114", func := "loop.example/g00724/laws.FnExactWinner", spec := "fnExactWinner", apart := false }
def FnExactWinnerSaid : Prop := fnExactWinnerRow.holds Try.pinned (OpenSpec.ofChange fnExactWinnerSpec)

/-- ITS FALSE NEIGHBOUR: 'it returns false'. Refute it at one input. -/
def fnExactWinnerWrong : ChangeSpec := { name := "fnExactWinner", fn := fun _ => fun
  | [d] => { results := [.lit (.bool false)], args := [d] }
  | _ => none }
def FnExactWinnerWrongFalsely : Prop := fnExactWinnerRow.holds Try.pinned (OpenSpec.ofChange fnExactWinnerWrong)

/-- 'laws.FnExactLoop': WHATEVER THE INPUT: true; the input reads as it did. -/
def fnExactLoopSpec : ChangeSpec := { name := "fnExactLoop", fn := fun _ => fun
  | [d1, d2] => { results := [.lit (.bool true)], args := [d1, d2] }
  | _ => none }
def fnExactLoopRow : OpenClaim := { program := "ytmebfingnfhmlaa", sum := "e4374596931a4af01236a9006d7f71a5d3c7cf9f5e2b2c050f5b096617814114", func := "loop.example/g00724/laws.FnExactLoop", spec := "fnExactLoop", recurses := true, apart := false }
def FnExactLoopSaid : Prop := fnExactLoopRow.holds Try.pinned (OpenSpec.ofChange fnExactLoopSpec)

/-- ITS FALSE NEIGHBOUR: 'it returns false'. Refute it at one input. -/
def fnExactLoopWrong : ChangeSpec := { name := "fnExactLoop", fn := fun _ => fun
  | [d1, d2] => { results := [.lit (.bool false)], args := [d1, d2] }
  | _ => none }
def FnExactLoopWrongFalsely : Prop := fnExactLoopRow.holds Try.pinned (OpenSpec.ofChange fnExactLoopWrong)

/-- 'laws.FnExactDistinct': WHATEVER THE INPUT: true; the input reads as it did. -/
def fnExactDistinctSpec : ChangeSpec := { name := "fnExactDistinct", fn := fun _ => fun
  | [d] => { results := [.lit (.bool true)], args := [d] }
  | _ => none }
def fnExactDistinctRow : OpenClaim := { program := "ytmebfingnfhmlaa", sum := "e4374596931a4af01236a9006d7f71a5d3c7cf9f5e2b2c050f5b096617814114", func := "loop.example/g00724/laws.FnExactDistinct", spec := "fnExactDistinct", apart := false }
def FnExactDistinctSaid : Prop := fnExactDistinctRow.holds Try.pinned (OpenSpec.ofChange fnExactDistinctSpec)

/-- ITS FALSE NEIGHBOUR: 'it returns false'. Refute it at one input. -/
def fnExactDistinctWrong : ChangeSpec := { name := "fnExactDistinct", fn := fun _ => fun
  | [d] => { results := [.lit (.bool false)], args := [d] }
  | _ => none }
def FnExactDistinctWrongFalsely : Prop := fnExactDistinctRow.holds Try.pinned (OpenSpec.ofChange fnExactDistinctWrong)

/-- 'laws.FnExactAsksText': WHATEVER THE INPUT: true; the input reads as it did. -/
def fnExactAsksTextSpec : ChangeSpec := { name := "fnExactAsksText", fn := fun _ => fun
  | [d] => { results := [.lit (.bool true)], args := [d] }
  | _ => none }
def fnExactAsksTextRow : OpenClaim := { program := "ytmebfingnfhmlaa", sum := "e4374596931a4af01236a9006d7f71a5d3c7cf9f5e2b2c050f5b096617814114", func := "loop.example/g00724/laws.FnExactAsksText", spec := "fnExactAsksText", apart := false }
def FnExactAsksTextSaid : Prop := fnExactAsksTextRow.holds Try.pinned (OpenSpec.ofChange fnExactAsksTextSpec)

/-- ITS FALSE NEIGHBOUR: 'it returns false'. Refute it at one input. -/
def fnExactAsksTextWrong : ChangeSpec := { name := "fnExactAsksText", fn := fun _ => fun
  | [d] => { results := [.lit (.bool false)], args := [d] }
  | _ => none }
def FnExactAsksTextWrongFalsely : Prop := fnExactAsksTextRow.holds Try.pinned (OpenSpec.ofChange fnExactAsksTextWrong)

/-- 'laws.FnExactTextAsks': WHATEVER THE INPUT: true; the input reads as it did. -/
def fnExactTextAsksSpec : ChangeSpec := { name := "fnExactTextAsks", fn := fun _ => fun
  | [d] => { results := [.lit (.bool true)], args := [d] }
  | _ => none }
def fnExactTextAsksRow : OpenClaim := { program := "ytmebfingnfhmlaa", sum := "e4374596931a4af01236a9006d7f71a5d3c7cf9f5e2b2c050f5b096617814114", func := "loop.example/g00724/laws.FnExactTextAsks", spec := "fnExactTextAsks", apart := false }
def FnExactTextAsksSaid : Prop := fnExactTextAsksRow.holds Try.pinned (OpenSpec.ofChange fnExactTextAsksSpec)

/-- ITS FALSE NEIGHBOUR: 'it returns false'. Refute it at one input. -/
def fnExactTextAsksWrong : ChangeSpec := { name := "fnExactTextAsks", fn := fun _ => fun
  | [d] => { results := [.lit (.bool false)], args := [d] }
  | _ => none }
def FnExactTextAsksWrongFalsely : Prop := fnExactTextAsksRow.holds Try.pinned (OpenSpec.ofChange fnExactTextAsksWrong)

/-- 'laws.FnExactTextOp': WHATEVER THE INPUT: true; the input reads as it did. -/
def fnExactTextOpSpec : ChangeSpec := { name := "fnExactTextOp", fn := fun _ => fun
  | [d] => { results := [.lit (.bool true)], args := [d] }
  | _ => none }
def fnExactTextOpRow : OpenClaim := { program := "ytmebfingnfhmlaa", sum := "e4374596931a4af01236a9006d7f71a5d3c7cf9f5e2b2c050f5b096617814114", func := "loop.example/g00724/laws.FnExactTextOp", spec := "fnExactTextOp", apart := false }
def FnExactTextOpSaid : Prop := fnExactTextOpRow.holds Try.pinned (OpenSpec.ofChange fnExactTextOpSpec)

/-- ITS FALSE NEIGHBOUR: 'it returns false'. Refute it at one input. -/
def fnExactTextOpWrong : ChangeSpec := { name := "fnExactTextOp", fn := fun _ => fun
  | [d] => { results := [.lit (.bool false)], args := [d] }
  | _ => none }
def FnExactTextOpWrongFalsely : Prop := fnExactTextOpRow.holds Try.pinned (OpenSpec.ofChange fnExactTextOpWrong)

/-- 'laws.FnCurve': WHATEVER THE INPUT: true; the input reads as it did. -/
def fnCurveSpec : ChangeSpec := { name := "fnCurve", fn := fun _ => fun
  | [d] => { results := [.lit (.bool true)], args := [d] }
  | _ => none }
def fnCurveRow : OpenClaim := { program := "ytmebfingnfhmlaa", sum := "e4374596931a4af01236a9006d7f71a5d3c7cf9f5e2b2c050f5b096617814114", func := "loop.example/g00724/laws.FnCurve", spec := "fnCurve", apart := false }
def FnCurveSaid : Prop := fnCurveRow.holds Try.pinned (OpenSpec.ofChange fnCurveSpec)

/-- ITS FALSE NEIGHBOUR: 'it returns false'. Refute it at one input. -/
def fnCurveWrong : ChangeSpec := { name := "fnCurve", fn := fun _ => fun
  | [d] => { results := [.lit (.bool false)], args := [d] }
  | _ => none }
def FnCurveWrongFalsely : Prop := fnCurveRow.holds Try.pinned (OpenSpec.ofChange fnCurveWrong)

/- THE SECOND FORM. 'bulk': how many values and letters a reading holds, each counted each time it is reached (what is shared counts as often as it is met; a slice's spare places count too). A statement '..UptoSaid' is the law's where the arguments, and the package variables that the reading takes, are together of bulk at most 1048576: NARROWER than '..Said'. Prove '..Said' where nothing that the law and all that it calls make is longer than what came in: it says more and counts as full. Else prove '..UptoSaid'. A law counts once. -/
mutual
def uptoBulk {H : Type} : DataW H → Nat
  | .lit (.string bytes) => bytes.length + 1
  | .lit _ => 1
  | .nil => 1
  | .ptr d => uptoBulk d + 1
  | .slice elems spare => uptoBulkAll elems + uptoBulkAll spare + 1
  | .agg parts => uptoBulkAll parts + 1
  | .iface _ d => uptoBulk d + 1
  | .map entries => uptoBulkEntries entries + 1
  | .held _ => 1
def uptoBulkAll {H : Type} : List (DataW H) → Nat
  | [] => 0
  | d :: r => uptoBulk d + uptoBulkAll r
def uptoBulkEntries {H : Type} : List (Lit × DataW H) → Nat
  | [] => 0
  | x :: r => uptoBulkEntry x + uptoBulkEntries r
def uptoBulkEntry {H : Type} : Lit × DataW H → Nat
  | (.string bytes, d) => bytes.length + uptoBulk d + 1
  | (_, d) => uptoBulk d + 1
 end
def uptoSmall : (H : Type) → List (DataW H) → Bool := fun _ ds => decide (uptoBulkAll ds ≤ 1048576)
def OpenSpec.upto (s : _root_.Go.ChangeSpec) : _root_.Go.OpenSpec := { _root_.Go.OpenSpec.ofChange s with cond := some uptoSmall }

/-- 'laws.FnExactBestGo', WHERE WHAT IT READS IS OF BULK AT MOST 1048576: true; the input reads as it did. -/
def fnExactBestGoUptoRow : OpenClaim := { program := "ytmebfingnfhmlaa", sum := "e4374596931a4af01236a9006d7f71a5d3c7cf9f5e2b2c050f5b096617814114", func := "loop.example/g00724/laws.FnExactBestGo", spec := "fnExactBestGo", apart := false, narrowed := true }
def FnExactBestGoUptoSaid : Prop := fnExactBestGoUptoRow.holds Try.pinned (OpenSpec.upto fnExactBestGoSpec)

/-- 'laws.FnExactAsksOk', WHERE WHAT IT READS IS OF BULK AT MOST 1048576: true; the input reads as it did. -/
def fnExactAsksOkUptoRow : OpenClaim := { program := "ytmebfingnfhmlaa", sum := "e4374596931a4af01236a9006d7f71a5d3c7cf9f5e2b2c050f5b096617814114", func := "loop.example/g00724/laws.FnExactAsksOk", spec := "fnExactAsksOk", apart := false, narrowed := true }
def FnExactAsksOkUptoSaid : Prop := fnExactAsksOkUptoRow.holds Try.pinned (OpenSpec.upto fnExactAsksOkSpec)

/-- 'laws.FnExactOpText', WHERE WHAT IT READS IS OF BULK AT MOST 1048576: true; the input reads as it did. -/
def fnExactOpTextUptoRow : OpenClaim := { program := "ytmebfingnfhmlaa", sum := "e4374596931a4af01236a9006d7f71a5d3c7cf9f5e2b2c050f5b096617814114", func := "loop.example/g00724/laws.FnExactOpText", spec := "fnExactOpText", apart := false, narrowed := true }
def FnExactOpTextUptoSaid : Prop := fnExactOpTextUptoRow.holds Try.pinned (OpenSpec.upto fnExactOpTextSpec)

/-- 'laws.FnExactFits', WHERE WHAT IT READS IS OF BULK AT MOST 1048576: true; the input reads as it did. -/
def fnExactFitsUptoRow : OpenClaim := { program := "ytmebfingnfhmlaa", sum := "e4374596931a4af01236a9006d7f71a5d3c7cf9f5e2b2c050f5b096617814114", func := "loop.example/g00724/laws.FnExactFits", spec := "fnExactFits", apart := false, narrowed := true }
def FnExactFitsUptoSaid : Prop := fnExactFitsUptoRow.holds Try.pinned (OpenSpec.upto fnExactFitsSpec)

/-- 'laws.FnExactBins', WHERE WHAT IT READS IS OF BULK AT MOST 1048576: true; the input reads as it did. -/
def fnExactBinsUptoRow : OpenClaim := { program := "ytmebfingnfhmlaa", sum := "e4374596931a4af01236a9006d7f71a5d3c7cf9f5e2b2c050f5b096617814114", func := "loop.example/g00724/laws.FnExactBins", spec := "fnExactBins", apart := false, narrowed := true }
def FnExactBinsUptoSaid : Prop := fnExactBinsUptoRow.holds Try.pinned (OpenSpec.upto fnExactBinsSpec)

/-- 'laws.FnExactWinner', WHERE WHAT IT READS IS OF BULK AT MOST 1048576: true; the input reads as it did. -/
def fnExactWinnerUptoRow : OpenClaim := { program := "ytmebfingnfhmlaa", sum := "e4374596931a4af01236a9006d7f71a5d3c7cf9f5e2b2c050f5b096617814114", func := "loop.example/g00724/laws.FnExactWinner", spec := "fnExactWinner", apart := false, narrowed := true }
def FnExactWinnerUptoSaid : Prop := fnExactWinnerUptoRow.holds Try.pinned (OpenSpec.upto fnExactWinnerSpec)

/-- 'laws.FnExactLoop', WHERE WHAT IT READS IS OF BULK AT MOST 1048576: true; the input reads as it did. -/
def fnExactLoopUptoRow : OpenClaim := { program := "ytmebfingnfhmlaa", sum := "e4374596931a4af01236a9006d7f71a5d3c7cf9f5e2b2c050f5b096617814114", func := "loop.example/g00724/laws.FnExactLoop", spec := "fnExactLoop", recurses := true, apart := false, narrowed := true }
def FnExactLoopUptoSaid : Prop := fnExactLoopUptoRow.holds Try.pinned (OpenSpec.upto fnExactLoopSpec)

/-- 'laws.FnExactDistinct', WHERE WHAT IT READS IS OF BULK AT MOST 1048576: true; the input reads as it did. -/
def fnExactDistinctUptoRow : OpenClaim := { program := "ytmebfingnfhmlaa", sum := "e4374596931a4af01236a9006d7f71a5d3c7cf9f5e2b2c050f5b096617814114", func := "loop.example/g00724/laws.FnExactDistinct", spec := "fnExactDistinct", apart := false, narrowed := true }
def FnExactDistinctUptoSaid : Prop := fnExactDistinctUptoRow.holds Try.pinned (OpenSpec.upto fnExactDistinctSpec)

/-- 'laws.FnExactAsksText', WHERE WHAT IT READS IS OF BULK AT MOST 1048576: true; the input reads as it did. -/
def fnExactAsksTextUptoRow : OpenClaim := { program := "ytmebfingnfhmlaa", sum := "e4374596931a4af01236a9006d7f71a5d3c7cf9f5e2b2c050f5b096617814114", func := "loop.example/g00724/laws.FnExactAsksText", spec := "fnExactAsksText", apart := false, narrowed := true }
def FnExactAsksTextUptoSaid : Prop := fnExactAsksTextUptoRow.holds Try.pinned (OpenSpec.upto fnExactAsksTextSpec)

/-- 'laws.FnExactTextAsks', WHERE WHAT IT READS IS OF BULK AT MOST 1048576: true; the input reads as it did. -/
def fnExactTextAsksUptoRow : OpenClaim := { program := "ytmebfingnfhmlaa", sum := "e4374596931a4af01236a9006d7f71a5d3c7cf9f5e2b2c050f5b096617814114", func := "loop.example/g00724/laws.FnExactTextAsks", spec := "fnExactTextAsks", apart := false, narrowed := true }
def FnExactTextAsksUptoSaid : Prop := fnExactTextAsksUptoRow.holds Try.pinned (OpenSpec.upto fnExactTextAsksSpec)

/-- 'laws.FnExactTextOp', WHERE WHAT IT READS IS OF BULK AT MOST 1048576: true; the input reads as it did. -/
def fnExactTextOpUptoRow : OpenClaim := { program := "ytmebfingnfhmlaa", sum := "e4374596931a4af01236a9006d7f71a5d3c7cf9f5e2b2c050f5b096617814114", func := "loop.example/g00724/laws.FnExactTextOp", spec := "fnExactTextOp", apart := false, narrowed := true }
def FnExactTextOpUptoSaid : Prop := fnExactTextOpUptoRow.holds Try.pinned (OpenSpec.upto fnExactTextOpSpec)

/-- 'laws.FnCurve', WHERE WHAT IT READS IS OF BULK AT MOST 1048576: true; the input reads as it did. -/
def fnCurveUptoRow : OpenClaim := { program := "ytmebfingnfhmlaa", sum := "e4374596931a4af01236a9006d7f71a5d3c7cf9f5e2b2c050f5b096617814114", func := "loop.example/g00724/laws.FnCurve", spec := "fnCurve", apart := false, narrowed := true }
def FnCurveUptoSaid : Prop := fnCurveUptoRow.holds Try.pinned (OpenSpec.upto fnCurveSpec)

end Rows
end Go.Proofs.Ytmebfingnfhmlaa
