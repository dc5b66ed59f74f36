/-
  No cell of these rows narrows 'for every input' (looked for: loops, veiled, ifaces, maps, wideKeys, modest, calm, conditions, laid).
  DERIVED. THE GIVEN ROWS OF THIS SEAT. 7 by the template 'for every input the law returns true; each argument reads behind the call as it read before'; 0 by the template 'total and deterministic' (their statements: YtellflhmnbgikaaTotals.lean).
  GIVEN WITH THE SEED: the statements are not yours to turn. If you find one false, say at which input.
  Laid BY PROGRAM, IN A SANDBOX (cutbox-rows.mjs): the forced cells as the released guide's own fill.sh prints them over the translation 9c29312c81578363… (all of the seat's roots in one cut). By AI agents, Wed Nov 11 2026. No macro, syntax, notation, axiom, sorry.
-/
import Derived.Test.YtellflhmnbgikaaChecked
import GoSem.Claim
import GoSem.ClaimJoined
import GoSem.ClaimMapViews
import Derived.JoinedTies
import Derived.KernelRfl
namespace Go.Proofs.Ytellflhmnbgikaa
/- THE CELL 'sum', in the pinned program and in every row, IS THE sha256 OF THE DUMP (.gsa) THAT YtellflhmnbgikaaProg.lean LOADS. Nothing in Lean hashes anything: it is a label: what it is worth is what the hold of that sum in a sandbox is worth. -/
noncomputable def Try.pinned : Pinned := { name := "ytellflhmnbgikaa", sum := "9c29312c81578363de64251daf245195593afe5d596c4a9a26e136d11528e13e", checked := Try.checked }
namespace Rows
def none {H : Type} : Left H := { results := [], args := [] }

/-- 'laws.FnExactKindWord': WHATEVER THE INPUT: true; the input reads as it did. -/
def fnExactKindWordSpec : ChangeSpec := { name := "fnExactKindWord", fn := fun _ => fun
  | [d] => { results := [.lit (.bool true)], args := [d] }
  | _ => none }
def fnExactKindWordRow : OpenClaim := { program := "ytellflhmnbgikaa", sum := "9c29312c81578363de64251daf245195593afe5d596c4a9a26e136d11528e13e", func := "loop.example/g00724/laws.FnExactKindWord", spec := "fnExactKindWord", apart := false }
def FnExactKindWordSaid : Prop := fnExactKindWordRow.holds Try.pinned (OpenSpec.ofChange fnExactKindWordSpec)

/-- ITS FALSE NEIGHBOUR: 'it returns false'. Refute it at one input. -/
def fnExactKindWordWrong : ChangeSpec := { name := "fnExactKindWord", fn := fun _ => fun
  | [d] => { results := [.lit (.bool false)], args := [d] }
  | _ => none }
def FnExactKindWordWrongFalsely : Prop := fnExactKindWordRow.holds Try.pinned (OpenSpec.ofChange fnExactKindWordWrong)

/-- 'laws.FnExactRate': WHATEVER THE INPUT: true; the input reads as it did. -/
def fnExactRateSpec : ChangeSpec := { name := "fnExactRate", fn := fun _ => fun
  | [d] => { results := [.lit (.bool true)], args := [d] }
  | _ => none }
def fnExactRateRow : OpenClaim := { program := "ytellflhmnbgikaa", sum := "9c29312c81578363de64251daf245195593afe5d596c4a9a26e136d11528e13e", func := "loop.example/g00724/laws.FnExactRate", spec := "fnExactRate", apart := false }
def FnExactRateSaid : Prop := fnExactRateRow.holds Try.pinned (OpenSpec.ofChange fnExactRateSpec)

/-- ITS FALSE NEIGHBOUR: 'it returns false'. Refute it at one input. -/
def fnExactRateWrong : ChangeSpec := { name := "fnExactRate", fn := fun _ => fun
  | [d] => { results := [.lit (.bool false)], args := [d] }
  | _ => none }
def FnExactRateWrongFalsely : Prop := fnExactRateRow.holds Try.pinned (OpenSpec.ofChange fnExactRateWrong)

/-- 'laws.FnExactMissesAt': WHATEVER THE INPUT: true; the input reads as it did. -/
def fnExactMissesAtSpec : ChangeSpec := { name := "fnExactMissesAt", fn := fun _ => fun
  | [d1, d2] => { results := [.lit (.bool true)], args := [d1, d2] }
  | _ => none }
def fnExactMissesAtRow : OpenClaim := { program := "ytellflhmnbgikaa", sum := "9c29312c81578363de64251daf245195593afe5d596c4a9a26e136d11528e13e", func := "loop.example/g00724/laws.FnExactMissesAt", spec := "fnExactMissesAt", apart := false }
def FnExactMissesAtSaid : Prop := fnExactMissesAtRow.holds Try.pinned (OpenSpec.ofChange fnExactMissesAtSpec)

/-- ITS FALSE NEIGHBOUR: 'it returns false'. Refute it at one input. -/
def fnExactMissesAtWrong : ChangeSpec := { name := "fnExactMissesAt", fn := fun _ => fun
  | [d1, d2] => { results := [.lit (.bool false)], args := [d1, d2] }
  | _ => none }
def FnExactMissesAtWrongFalsely : Prop := fnExactMissesAtRow.holds Try.pinned (OpenSpec.ofChange fnExactMissesAtWrong)

/-- 'laws.FnExactItemOk': WHATEVER THE INPUT: true; the input reads as it did. -/
def fnExactItemOkSpec : ChangeSpec := { name := "fnExactItemOk", fn := fun _ => fun
  | [d] => { results := [.lit (.bool true)], args := [d] }
  | _ => none }
def fnExactItemOkRow : OpenClaim := { program := "ytellflhmnbgikaa", sum := "9c29312c81578363de64251daf245195593afe5d596c4a9a26e136d11528e13e", func := "loop.example/g00724/laws.FnExactItemOk", spec := "fnExactItemOk", apart := false }
def FnExactItemOkSaid : Prop := fnExactItemOkRow.holds Try.pinned (OpenSpec.ofChange fnExactItemOkSpec)

/-- ITS FALSE NEIGHBOUR: 'it returns false'. Refute it at one input. -/
def fnExactItemOkWrong : ChangeSpec := { name := "fnExactItemOk", fn := fun _ => fun
  | [d] => { results := [.lit (.bool false)], args := [d] }
  | _ => none }
def FnExactItemOkWrongFalsely : Prop := fnExactItemOkRow.holds Try.pinned (OpenSpec.ofChange fnExactItemOkWrong)

/-- 'laws.FnExactOpOk': WHATEVER THE INPUT: true; the input reads as it did. -/
def fnExactOpOkSpec : ChangeSpec := { name := "fnExactOpOk", fn := fun _ => fun
  | [d] => { results := [.lit (.bool true)], args := [d] }
  | _ => none }
def fnExactOpOkRow : OpenClaim := { program := "ytellflhmnbgikaa", sum := "9c29312c81578363de64251daf245195593afe5d596c4a9a26e136d11528e13e", func := "loop.example/g00724/laws.FnExactOpOk", spec := "fnExactOpOk", apart := false }
def FnExactOpOkSaid : Prop := fnExactOpOkRow.holds Try.pinned (OpenSpec.ofChange fnExactOpOkSpec)

/-- ITS FALSE NEIGHBOUR: 'it returns false'. Refute it at one input. -/
def fnExactOpOkWrong : ChangeSpec := { name := "fnExactOpOk", fn := fun _ => fun
  | [d] => { results := [.lit (.bool false)], args := [d] }
  | _ => none }
def FnExactOpOkWrongFalsely : Prop := fnExactOpOkRow.holds Try.pinned (OpenSpec.ofChange fnExactOpOkWrong)

/-- 'laws.FnExactNextAsk': WHATEVER THE INPUT: true; the input reads as it did. -/
def fnExactNextAskSpec : ChangeSpec := { name := "fnExactNextAsk", fn := fun _ => fun
  | [d1, d2, d3] => { results := [.lit (.bool true)], args := [d1, d2, d3] }
  | _ => none }
def fnExactNextAskRow : OpenClaim := { program := "ytellflhmnbgikaa", sum := "9c29312c81578363de64251daf245195593afe5d596c4a9a26e136d11528e13e", func := "loop.example/g00724/laws.FnExactNextAsk", spec := "fnExactNextAsk", apart := false }
def FnExactNextAskSaid : Prop := fnExactNextAskRow.holds Try.pinned (OpenSpec.ofChange fnExactNextAskSpec)

/-- ITS FALSE NEIGHBOUR: 'it returns false'. Refute it at one input. -/
def fnExactNextAskWrong : ChangeSpec := { name := "fnExactNextAsk", fn := fun _ => fun
  | [d1, d2, d3] => { results := [.lit (.bool false)], args := [d1, d2, d3] }
  | _ => none }
def FnExactNextAskWrongFalsely : Prop := fnExactNextAskRow.holds Try.pinned (OpenSpec.ofChange fnExactNextAskWrong)

/-- 'laws.FnExactReplyText': WHATEVER THE INPUT: true; the input reads as it did. -/
def fnExactReplyTextSpec : ChangeSpec := { name := "fnExactReplyText", fn := fun _ => fun
  | [d] => { results := [.lit (.bool true)], args := [d] }
  | _ => none }
def fnExactReplyTextRow : OpenClaim := { program := "ytellflhmnbgikaa", sum := "9c29312c81578363de64251daf245195593afe5d596c4a9a26e136d11528e13e", func := "loop.example/g00724/laws.FnExactReplyText", spec := "fnExactReplyText", apart := false }
def FnExactReplyTextSaid : Prop := fnExactReplyTextRow.holds Try.pinned (OpenSpec.ofChange fnExactReplyTextSpec)

/-- ITS FALSE NEIGHBOUR: 'it returns false'. Refute it at one input. -/
def fnExactReplyTextWrong : ChangeSpec := { name := "fnExactReplyText", fn := fun _ => fun
  | [d] => { results := [.lit (.bool false)], args := [d] }
  | _ => none }
def FnExactReplyTextWrongFalsely : Prop := fnExactReplyTextRow.holds Try.pinned (OpenSpec.ofChange fnExactReplyTextWrong)

/- THE SECOND FORM. 'bulk': how many values and letters a reading holds, each counted each time it is reached (what is shared counts as often as it is met; a slice's spare places count too). A statement '..UptoSaid' is the law's where the arguments, and the package variables that the reading takes, are together of bulk at most 1048576: NARROWER than '..Said'. Prove '..Said' where nothing that the law and all that it calls make is longer than what came in: it says more and counts as full. Else prove '..UptoSaid'. A law counts once. -/
mutual
def uptoBulk {H : Type} : DataW H → Nat
  | .lit (.string bytes) => bytes.length + 1
  | .lit _ => 1
  | .nil => 1
  | .ptr d => uptoBulk d + 1
  | .slice elems spare => uptoBulkAll elems + uptoBulkAll spare + 1
  | .agg parts => uptoBulkAll parts + 1
  | .iface _ d => uptoBulk d + 1
  | .map entries => uptoBulkEntries entries + 1
  | .held _ => 1
def uptoBulkAll {H : Type} : List (DataW H) → Nat
  | [] => 0
  | d :: r => uptoBulk d + uptoBulkAll r
def uptoBulkEntries {H : Type} : List (Lit × DataW H) → Nat
  | [] => 0
  | x :: r => uptoBulkEntry x + uptoBulkEntries r
def uptoBulkEntry {H : Type} : Lit × DataW H → Nat
  | (.string bytes, d) => bytes.length + uptoBulk d + 1
  | (_, d) => uptoBulk d + 1
 end
def uptoSmall : (H : Type) → List (DataW H) → Bool := fun _ ds => decide (uptoBulkAll ds ≤ 1048576)
def OpenSpec.upto (s : _root_.Go.ChangeSpec) : _root_.Go.OpenSpec := { _root_.Go.OpenSpec.ofChange s with cond := some uptoSmall }

/-- 'laws.FnExactKindWord', WHERE WHAT IT READS IS OF BULK AT MOST 1048576: true; the input reads as it did. -/
def fnExactKindWordUptoRow : OpenClaim := { program := "ytellflhmnbgikaa", sum := "9c29312c81578363de64251daf245195593afe5d596c4a9a26e136d11528e13e", func := "loop.example/g00724/laws.FnExactKindWord", spec := "fnExactKindWord", apart := false, narrowed := true }
def FnExactKindWordUptoSaid : Prop := fnExactKindWordUptoRow.holds Try.pinned (OpenSpec.upto fnExactKindWordSpec)

/-- 'laws.FnExactRate', WHERE WHAT IT READS IS OF BULK AT MOST 1048576: true; the input reads as it did. -/
def fnExactRateUptoRow : OpenClaim := { program := "ytellflhmnbgikaa", sum := "9c29312c81578363de64251daf245195593afe5d596c4a9a26e136d11528e13e", func := "loop.example/g00724/laws.FnExactRate", spec := "fnExactRate", apart := false, narrowed := true }
def FnExactRateUptoSaid : Prop := fnExactRateUptoRow.holds Try.pinned (OpenSpec.upto fnExactRateSpec)

/-- 'laws.FnExactMissesAt', WHERE WHAT IT READS IS OF BULK AT MOST 1048576: true; the input reads as it did. -/
def fnExactMissesAtUptoRow : OpenClaim := { program := "ytellflhmnbgikaa", sum := "9c29312c81578363de64251daf245195593afe5d596c4a9a26e136d11528e13e", func := "loop.example/g00724/laws.FnExactMissesAt", spec := "fnExactMissesAt", apart := false, narrowed := true }
def FnExactMissesAtUptoSaid : Prop := fnExactMissesAtUptoRow.holds Try.pinned (OpenSpec.upto fnExactMissesAtSpec)

/-- 'laws.FnExactItemOk', WHERE WHAT IT READS IS OF BULK AT MOST 1048576: true; the input reads as it did. -/
def fnExactItemOkUptoRow : OpenClaim := { program := "ytellflhmnbgikaa", sum := "9c29312c81578363de64251daf245195593afe5d596c4a9a26e136d11528e13e", func := "loop.example/g00724/laws.FnExactItemOk", spec := "fnExactItemOk", apart := false, narrowed := true }
def FnExactItemOkUptoSaid : Prop := fnExactItemOkUptoRow.holds Try.pinned (OpenSpec.upto fnExactItemOkSpec)

/-- 'laws.FnExactOpOk', WHERE WHAT IT READS IS OF BULK AT MOST 1048576: true; the input reads as it did. -/
def fnExactOpOkUptoRow : OpenClaim := { program := "ytellflhmnbgikaa", sum := "9c29312c81578363de64251daf245195593afe5d596c4a9a26e136d11528e13e", func := "loop.example/g00724/laws.FnExactOpOk", spec := "fnExactOpOk", apart := false, narrowed := true }
def FnExactOpOkUptoSaid : Prop := fnExactOpOkUptoRow.holds Try.pinned (OpenSpec.upto fnExactOpOkSpec)

/-- 'laws.FnExactNextAsk', WHERE WHAT IT READS IS OF BULK AT MOST 1048576: true; the input reads as it did. -/
def fnExactNextAskUptoRow : OpenClaim := { program := "ytellflhmnbgikaa", sum := "9c29312c81578363de64251daf245195593afe5d596c4a9a26e136d11528e13e", func := "loop.example/g00724/laws.FnExactNextAsk", spec := "fnExactNextAsk", apart := false, narrowed := true }
def FnExactNextAskUptoSaid : Prop := fnExactNextAskUptoRow.holds Try.pinned (OpenSpec.upto fnExactNextAskSpec)

/-- 'laws.FnExactReplyText', WHERE WHAT IT READS IS OF BULK AT MOST 1048576: true; the input reads as it did. -/
def fnExactReplyTextUptoRow : OpenClaim := { program := "ytellflhmnbgikaa", sum := "9c29312c81578363de64251daf245195593afe5d596c4a9a26e136d11528e13e", func := "loop.example/g00724/laws.FnExactReplyText", spec := "fnExactReplyText", apart := false, narrowed := true }
def FnExactReplyTextUptoSaid : Prop := fnExactReplyTextUptoRow.holds Try.pinned (OpenSpec.upto fnExactReplyTextSpec)

end Rows
end Go.Proofs.Ytellflhmnbgikaa
