/-
  No cell of these rows narrows 'for every input' (looked for: loops, veiled, ifaces, maps, wideKeys, modest, calm, conditions, laid).
  DERIVED. THE GIVEN ROWS OF THIS SEAT. 12 by the template 'for every input the law returns true; each argument reads behind the call as it read before'; 0 by the template 'total and deterministic' (their statements: YtllaoamaplepmaaTotals.lean).
  GIVEN WITH THE SEED: the statements are not yours to turn. If you find one false, say at which input.
  Laid BY PROGRAM, IN A SANDBOX (cutbox-rows.mjs): the forced cells as the released guide's own fill.sh prints them over the translation 74a53f67922527b8… (all of the seat's roots in one cut). By AI agents, Wed Nov 11 2026. No macro, syntax, notation, axiom, sorry.
-/
import Derived.Test.YtllaoamaplepmaaChecked
import GoSem.Claim
import GoSem.ClaimJoined
import GoSem.ClaimMapViews
import Derived.JoinedTies
import Derived.KernelRfl
namespace Go.Proofs.Ytllaoamaplepmaa
/- THE CELL 'sum', in the pinned program and in every row, IS THE sha256 OF THE DUMP (.gsa) THAT YtllaoamaplepmaaProg.lean LOADS. Nothing in Lean hashes anything: it is a label: what it is worth is what the hold of that sum in a sandbox is worth. -/
noncomputable def Try.pinned : Pinned := { name := "ytllaoamaplepmaa", sum := "74a53f67922527b8c26bb05373d5d5922b28fea22dbbdd27e7ef11f0620f2868", checked := Try.checked }
namespace Rows
def none {H : Type} : Left H := { results := [], args := [] }

/-- 'laws.FnExactDepthsOf': WHATEVER THE INPUT: true; the input reads as it did. -/
def fnExactDepthsOfSpec : ChangeSpec := { name := "fnExactDepthsOf", fn := fun _ => fun
  | [d] => { results := [.lit (.bool true)], args := [d] }
  | _ => none }
def fnExactDepthsOfRow : OpenClaim := { program := "ytllaoamaplepmaa", sum := "74a53f67922527b8c26bb05373d5d5922b28fea22dbbdd27e7ef11f0620f2868", func := "loop.example/g00724/laws.FnExactDepthsOf", spec := "fnExactDepthsOf", apart := false }
def FnExactDepthsOfSaid : Prop := fnExactDepthsOfRow.holds Try.pinned (OpenSpec.ofChange fnExactDepthsOfSpec)

/-- ITS FALSE NEIGHBOUR: 'it returns false'. Refute it at one input. -/
def fnExactDepthsOfWrong : ChangeSpec := { name := "fnExactDepthsOf", fn := fun _ => fun
  | [d] => { results := [.lit (.bool false)], args := [d] }
  | _ => none }
def FnExactDepthsOfWrongFalsely : Prop := fnExactDepthsOfRow.holds Try.pinned (OpenSpec.ofChange fnExactDepthsOfWrong)

/-- 'laws.FnExactTryMisses': WHATEVER THE INPUT: true; the input reads as it did. -/
def fnExactTryMissesSpec : ChangeSpec := { name := "fnExactTryMisses", fn := fun _ => fun
  | [d1, d2] => { results := [.lit (.bool true)], args := [d1, d2] }
  | _ => none }
def fnExactTryMissesRow : OpenClaim := { program := "ytllaoamaplepmaa", sum := "74a53f67922527b8c26bb05373d5d5922b28fea22dbbdd27e7ef11f0620f2868", func := "loop.example/g00724/laws.FnExactTryMisses", spec := "fnExactTryMisses", recurses := true, apart := false }
def FnExactTryMissesSaid : Prop := fnExactTryMissesRow.holds Try.pinned (OpenSpec.ofChange fnExactTryMissesSpec)

/-- ITS FALSE NEIGHBOUR: 'it returns false'. Refute it at one input. -/
def fnExactTryMissesWrong : ChangeSpec := { name := "fnExactTryMisses", fn := fun _ => fun
  | [d1, d2] => { results := [.lit (.bool false)], args := [d1, d2] }
  | _ => none }
def FnExactTryMissesWrongFalsely : Prop := fnExactTryMissesRow.holds Try.pinned (OpenSpec.ofChange fnExactTryMissesWrong)

/-- 'laws.FnExactSweep': WHATEVER THE INPUT: true; the input reads as it did. -/
def fnExactSweepSpec : ChangeSpec := { name := "fnExactSweep", fn := fun _ => fun
  | [d1, d2, d3] => { results := [.lit (.bool true)], args := [d1, d2, d3] }
  | _ => none }
def fnExactSweepRow : OpenClaim := { program := "ytllaoamaplepmaa", sum := "74a53f67922527b8c26bb05373d5d5922b28fea22dbbdd27e7ef11f0620f2868", func := "loop.example/g00724/laws.FnExactSweep", spec := "fnExactSweep", recurses := true, apart := false }
def FnExactSweepSaid : Prop := fnExactSweepRow.holds Try.pinned (OpenSpec.ofChange fnExactSweepSpec)

/-- ITS FALSE NEIGHBOUR: 'it returns false'. Refute it at one input. -/
def fnExactSweepWrong : ChangeSpec := { name := "fnExactSweep", fn := fun _ => fun
  | [d1, d2, d3] => { results := [.lit (.bool false)], args := [d1, d2, d3] }
  | _ => none }
def FnExactSweepWrongFalsely : Prop := fnExactSweepRow.holds Try.pinned (OpenSpec.ofChange fnExactSweepWrong)

/-- 'laws.FnExactCurve': WHATEVER THE INPUT: true; the input reads as it did. -/
def fnExactCurveSpec : ChangeSpec := { name := "fnExactCurve", fn := fun _ => fun
  | [d1, d2] => { results := [.lit (.bool true)], args := [d1, d2] }
  | _ => none }
def fnExactCurveRow : OpenClaim := { program := "ytllaoamaplepmaa", sum := "74a53f67922527b8c26bb05373d5d5922b28fea22dbbdd27e7ef11f0620f2868", func := "loop.example/g00724/laws.FnExactCurve", spec := "fnExactCurve", apart := false }
def FnExactCurveSaid : Prop := fnExactCurveRow.holds Try.pinned (OpenSpec.ofChange fnExactCurveSpec)

/-- ITS FALSE NEIGHBOUR: 'it returns false'. Refute it at one input. -/
def fnExactCurveWrong : ChangeSpec := { name := "fnExactCurve", fn := fun _ => fun
  | [d1, d2] => { results := [.lit (.bool false)], args := [d1, d2] }
  | _ => none }
def FnExactCurveWrongFalsely : Prop := fnExactCurveRow.holds Try.pinned (OpenSpec.ofChange fnExactCurveWrong)

/-- 'laws.FnBest': WHATEVER THE INPUT: true; the input reads as it did. -/
def fnBestSpec : ChangeSpec := { name := "fnBest", fn := fun _ => fun
  | [d] => { results := [.lit (.bool true)], args := [d] }
  | _ => none }
def fnBestRow : OpenClaim := { program := "ytllaoamaplepmaa", sum := "74a53f67922527b8c26bb05373d5d5922b28fea22dbbdd27e7ef11f0620f2868", func := "loop.example/g00724/laws.FnBest", spec := "fnBest", recurses := true, apart := false }
def FnBestSaid : Prop := fnBestRow.holds Try.pinned (OpenSpec.ofChange fnBestSpec)

/-- ITS FALSE NEIGHBOUR: 'it returns false'. Refute it at one input. -/
def fnBestWrong : ChangeSpec := { name := "fnBest", fn := fun _ => fun
  | [d] => { results := [.lit (.bool false)], args := [d] }
  | _ => none }
def FnBestWrongFalsely : Prop := fnBestRow.holds Try.pinned (OpenSpec.ofChange fnBestWrong)

/-- 'laws.FnExactBestMisses': WHATEVER THE INPUT: true; the input reads as it did. -/
def fnExactBestMissesSpec : ChangeSpec := { name := "fnExactBestMisses", fn := fun _ => fun
  | [d1, d2] => { results := [.lit (.bool true)], args := [d1, d2] }
  | _ => none }
def fnExactBestMissesRow : OpenClaim := { program := "ytllaoamaplepmaa", sum := "74a53f67922527b8c26bb05373d5d5922b28fea22dbbdd27e7ef11f0620f2868", func := "loop.example/g00724/laws.FnExactBestMisses", spec := "fnExactBestMisses", apart := false }
def FnExactBestMissesSaid : Prop := fnExactBestMissesRow.holds Try.pinned (OpenSpec.ofChange fnExactBestMissesSpec)

/-- ITS FALSE NEIGHBOUR: 'it returns false'. Refute it at one input. -/
def fnExactBestMissesWrong : ChangeSpec := { name := "fnExactBestMisses", fn := fun _ => fun
  | [d1, d2] => { results := [.lit (.bool false)], args := [d1, d2] }
  | _ => none }
def FnExactBestMissesWrongFalsely : Prop := fnExactBestMissesRow.holds Try.pinned (OpenSpec.ofChange fnExactBestMissesWrong)

/-- 'laws.FnExactBestHits': WHATEVER THE INPUT: true; the input reads as it did. -/
def fnExactBestHitsSpec : ChangeSpec := { name := "fnExactBestHits", fn := fun _ => fun
  | [d1, d2] => { results := [.lit (.bool true)], args := [d1, d2] }
  | _ => none }
def fnExactBestHitsRow : OpenClaim := { program := "ytllaoamaplepmaa", sum := "74a53f67922527b8c26bb05373d5d5922b28fea22dbbdd27e7ef11f0620f2868", func := "loop.example/g00724/laws.FnExactBestHits", spec := "fnExactBestHits", apart := false }
def FnExactBestHitsSaid : Prop := fnExactBestHitsRow.holds Try.pinned (OpenSpec.ofChange fnExactBestHitsSpec)

/-- ITS FALSE NEIGHBOUR: 'it returns false'. Refute it at one input. -/
def fnExactBestHitsWrong : ChangeSpec := { name := "fnExactBestHits", fn := fun _ => fun
  | [d1, d2] => { results := [.lit (.bool false)], args := [d1, d2] }
  | _ => none }
def FnExactBestHitsWrongFalsely : Prop := fnExactBestHitsRow.holds Try.pinned (OpenSpec.ofChange fnExactBestHitsWrong)

/-- 'laws.FnExactRowOk': WHATEVER THE INPUT: true; the input reads as it did. -/
def fnExactRowOkSpec : ChangeSpec := { name := "fnExactRowOk", fn := fun _ => fun
  | [d] => { results := [.lit (.bool true)], args := [d] }
  | _ => none }
def fnExactRowOkRow : OpenClaim := { program := "ytllaoamaplepmaa", sum := "74a53f67922527b8c26bb05373d5d5922b28fea22dbbdd27e7ef11f0620f2868", func := "loop.example/g00724/laws.FnExactRowOk", spec := "fnExactRowOk", unfollowed := true, recurses := true, apart := false }
def FnExactRowOkSaid : Prop := fnExactRowOkRow.holds Try.pinned (OpenSpec.ofChange fnExactRowOkSpec)

/-- ITS FALSE NEIGHBOUR: 'it returns false'. Refute it at one input. -/
def fnExactRowOkWrong : ChangeSpec := { name := "fnExactRowOk", fn := fun _ => fun
  | [d] => { results := [.lit (.bool false)], args := [d] }
  | _ => none }
def FnExactRowOkWrongFalsely : Prop := fnExactRowOkRow.holds Try.pinned (OpenSpec.ofChange fnExactRowOkWrong)

/-- 'laws.FnExactRowNew': WHATEVER THE INPUT: true; the input reads as it did. -/
def fnExactRowNewSpec : ChangeSpec := { name := "fnExactRowNew", fn := fun _ => fun
  | [d1, d2] => { results := [.lit (.bool true)], args := [d1, d2] }
  | _ => none }
def fnExactRowNewRow : OpenClaim := { program := "ytllaoamaplepmaa", sum := "74a53f67922527b8c26bb05373d5d5922b28fea22dbbdd27e7ef11f0620f2868", func := "loop.example/g00724/laws.FnExactRowNew", spec := "fnExactRowNew", unfollowed := true, recurses := true, apart := false }
def FnExactRowNewSaid : Prop := fnExactRowNewRow.holds Try.pinned (OpenSpec.ofChange fnExactRowNewSpec)

/-- ITS FALSE NEIGHBOUR: 'it returns false'. Refute it at one input. -/
def fnExactRowNewWrong : ChangeSpec := { name := "fnExactRowNew", fn := fun _ => fun
  | [d1, d2] => { results := [.lit (.bool false)], args := [d1, d2] }
  | _ => none }
def FnExactRowNewWrongFalsely : Prop := fnExactRowNewRow.holds Try.pinned (OpenSpec.ofChange fnExactRowNewWrong)

/-- 'laws.FnExactRowKeys': WHATEVER THE INPUT: true; the input reads as it did. -/
def fnExactRowKeysSpec : ChangeSpec := { name := "fnExactRowKeys", fn := fun _ => fun
  | [d] => { results := [.lit (.bool true)], args := [d] }
  | _ => none }
def fnExactRowKeysRow : OpenClaim := { program := "ytllaoamaplepmaa", sum := "74a53f67922527b8c26bb05373d5d5922b28fea22dbbdd27e7ef11f0620f2868", func := "loop.example/g00724/laws.FnExactRowKeys", spec := "fnExactRowKeys", unfollowed := true, recurses := true, apart := false }
def FnExactRowKeysSaid : Prop := fnExactRowKeysRow.holds Try.pinned (OpenSpec.ofChange fnExactRowKeysSpec)

/-- ITS FALSE NEIGHBOUR: 'it returns false'. Refute it at one input. -/
def fnExactRowKeysWrong : ChangeSpec := { name := "fnExactRowKeys", fn := fun _ => fun
  | [d] => { results := [.lit (.bool false)], args := [d] }
  | _ => none }
def FnExactRowKeysWrongFalsely : Prop := fnExactRowKeysRow.holds Try.pinned (OpenSpec.ofChange fnExactRowKeysWrong)

/-- 'laws.FnExactRowGet': WHATEVER THE INPUT: true; the input reads as it did. -/
def fnExactRowGetSpec : ChangeSpec := { name := "fnExactRowGet", fn := fun _ => fun
  | [d1, d2] => { results := [.lit (.bool true)], args := [d1, d2] }
  | _ => none }
def fnExactRowGetRow : OpenClaim := { program := "ytllaoamaplepmaa", sum := "74a53f67922527b8c26bb05373d5d5922b28fea22dbbdd27e7ef11f0620f2868", func := "loop.example/g00724/laws.FnExactRowGet", spec := "fnExactRowGet", unfollowed := true, recurses := true, apart := false }
def FnExactRowGetSaid : Prop := fnExactRowGetRow.holds Try.pinned (OpenSpec.ofChange fnExactRowGetSpec)

/-- ITS FALSE NEIGHBOUR: 'it returns false'. Refute it at one input. -/
def fnExactRowGetWrong : ChangeSpec := { name := "fnExactRowGet", fn := fun _ => fun
  | [d1, d2] => { results := [.lit (.bool false)], args := [d1, d2] }
  | _ => none }
def FnExactRowGetWrongFalsely : Prop := fnExactRowGetRow.holds Try.pinned (OpenSpec.ofChange fnExactRowGetWrong)

/-- 'laws.FnExactRowPut': WHATEVER THE INPUT: true; the input reads as it did. -/
def fnExactRowPutSpec : ChangeSpec := { name := "fnExactRowPut", fn := fun _ => fun
  | [d1, d2, d3] => { results := [.lit (.bool true)], args := [d1, d2, d3] }
  | _ => none }
def fnExactRowPutRow : OpenClaim := { program := "ytllaoamaplepmaa", sum := "74a53f67922527b8c26bb05373d5d5922b28fea22dbbdd27e7ef11f0620f2868", func := "loop.example/g00724/laws.FnExactRowPut", spec := "fnExactRowPut", unfollowed := true, recurses := true, apart := false }
def FnExactRowPutSaid : Prop := fnExactRowPutRow.holds Try.pinned (OpenSpec.ofChange fnExactRowPutSpec)

/-- ITS FALSE NEIGHBOUR: 'it returns false'. Refute it at one input. -/
def fnExactRowPutWrong : ChangeSpec := { name := "fnExactRowPut", fn := fun _ => fun
  | [d1, d2, d3] => { results := [.lit (.bool false)], args := [d1, d2, d3] }
  | _ => none }
def FnExactRowPutWrongFalsely : Prop := fnExactRowPutRow.holds Try.pinned (OpenSpec.ofChange fnExactRowPutWrong)

/- THE SECOND FORM. 'bulk': how many values and letters a reading holds, each counted each time it is reached (what is shared counts as often as it is met; a slice's spare places count too). A statement '..UptoSaid' is the law's where the arguments, and the package variables that the reading takes, are together of bulk at most 1048576: NARROWER than '..Said'. Prove '..Said' where nothing that the law and all that it calls make is longer than what came in: it says more and counts as full. Else prove '..UptoSaid'. A law counts once. -/
mutual
def uptoBulk {H : Type} : DataW H → Nat
  | .lit (.string bytes) => bytes.length + 1
  | .lit _ => 1
  | .nil => 1
  | .ptr d => uptoBulk d + 1
  | .slice elems spare => uptoBulkAll elems + uptoBulkAll spare + 1
  | .agg parts => uptoBulkAll parts + 1
  | .iface _ d => uptoBulk d + 1
  | .map entries => uptoBulkEntries entries + 1
  | .held _ => 1
def uptoBulkAll {H : Type} : List (DataW H) → Nat
  | [] => 0
  | d :: r => uptoBulk d + uptoBulkAll r
def uptoBulkEntries {H : Type} : List (Lit × DataW H) → Nat
  | [] => 0
  | x :: r => uptoBulkEntry x + uptoBulkEntries r
def uptoBulkEntry {H : Type} : Lit × DataW H → Nat
  | (.string bytes, d) => bytes.length + uptoBulk d + 1
  | (_, d) => uptoBulk d + 1
 end
def uptoSmall : (H : Type) → List (DataW H) → Bool := fun _ ds => decide (uptoBulkAll ds ≤ 1048576)
def OpenSpec.upto (s : _root_.Go.ChangeSpec) : _root_.Go.OpenSpec := { _root_.Go.OpenSpec.ofChange s with cond := some uptoSmall }

/-- 'laws.FnExactDepthsOf', WHERE WHAT IT READS IS OF BULK AT MOST 1048576: true; the input reads as it did. -/
def fnExactDepthsOfUptoRow : OpenClaim := { program := "ytllaoamaplepmaa", sum := "74a53f67922527b8c26bb05373d5d5922b28fea22dbbdd27e7ef11f0620f2868", func := "loop.example/g00724/laws.FnExactDepthsOf", spec := "fnExactDepthsOf", apart := false, narrowed := true }
def FnExactDepthsOfUptoSaid : Prop := fnExactDepthsOfUptoRow.holds Try.pinned (OpenSpec.upto fnExactDepthsOfSpec)

/-- 'laws.FnExactTryMisses', WHERE WHAT IT READS IS OF BULK AT MOST 1048576: true; the input reads as it did. -/
def fnExactTryMissesUptoRow : OpenClaim := { program := "ytllaoamaplepmaa", sum := "74a53f67922527b8c26bb05373d5d5922b28fea22dbbdd27e7ef11f0620f2868", func := "loop.example/g00724/laws.FnExactTryMisses", spec := "fnExactTryMisses", recurses := true, apart := false, narrowed := true }
def FnExactTryMissesUptoSaid : Prop := fnExactTryMissesUptoRow.holds Try.pinned (OpenSpec.upto fnExactTryMissesSpec)

/-- 'laws.FnExactSweep', WHERE WHAT IT READS IS OF BULK AT MOST 1048576: true; the input reads as it did. -/
def fnExactSweepUptoRow : OpenClaim := { program := "ytllaoamaplepmaa", sum := "74a53f67922527b8c26bb05373d5d5922b28fea22dbbdd27e7ef11f0620f2868", func := "loop.example/g00724/laws.FnExactSweep", spec := "fnExactSweep", recurses := true, apart := false, narrowed := true }
def FnExactSweepUptoSaid : Prop := fnExactSweepUptoRow.holds Try.pinned (OpenSpec.upto fnExactSweepSpec)

/-- 'laws.FnExactCurve', WHERE WHAT IT READS IS OF BULK AT MOST 1048576: true; the input reads as it did. -/
def fnExactCurveUptoRow : OpenClaim := { program := "ytllaoamaplepmaa", sum := "74a53f67922527b8c26bb05373d5d5922b28fea22dbbdd27e7ef11f0620f2868", func := "loop.example/g00724/laws.FnExactCurve", spec := "fnExactCurve", apart := false, narrowed := true }
def FnExactCurveUptoSaid : Prop := fnExactCurveUptoRow.holds Try.pinned (OpenSpec.upto fnExactCurveSpec)

/-- 'laws.FnBest', WHERE WHAT IT READS IS OF BULK AT MOST 1048576: true; the input reads as it did. -/
def fnBestUptoRow : OpenClaim := { program := "ytllaoamaplepmaa", sum := "74a53f67922527b8c26bb05373d5d5922b28fea22dbbdd27e7ef11f0620f2868", func := "loop.example/g00724/laws.FnBest", spec := "fnBest", recurses := true, apart := false, narrowed := true }
def FnBestUptoSaid : Prop := fnBestUptoRow.holds Try.pinned (OpenSpec.upto fnBestSpec)

/-- 'laws.FnExactBestMisses', WHERE WHAT IT READS IS OF BULK AT MOST 1048576: true; the input reads as it did. -/
def fnExactBestMissesUptoRow : OpenClaim := { program := "ytllaoamaplepmaa", sum := "74a53f67922527b8c26bb05373d5d5922b28fea22dbbdd27e7ef11f0620f2868", func := "loop.example/g00724/laws.FnExactBestMisses", spec := "fnExactBestMisses", apart := false, narrowed := true }
def FnExactBestMissesUptoSaid : Prop := fnExactBestMissesUptoRow.holds Try.pinned (OpenSpec.upto fnExactBestMissesSpec)

/-- 'laws.FnExactBestHits', WHERE WHAT IT READS IS OF BULK AT MOST 1048576: true; the input reads as it did. -/
def fnExactBestHitsUptoRow : OpenClaim := { program := "ytllaoamaplepmaa", sum := "74a53f67922527b8c26bb05373d5d5922b28fea22dbbdd27e7ef11f0620f2868", func := "loop.example/g00724/laws.FnExactBestHits", spec := "fnExactBestHits", apart := false, narrowed := true }
def FnExactBestHitsUptoSaid : Prop := fnExactBestHitsUptoRow.holds Try.pinned (OpenSpec.upto fnExactBestHitsSpec)

/-- 'laws.FnExactRowOk', WHERE WHAT IT READS IS OF BULK AT MOST 1048576: true; the input reads as it did. -/
def fnExactRowOkUptoRow : OpenClaim := { program := "ytllaoamaplepmaa", sum := "74a53f67922527b8c26bb05373d5d5922b28fea22dbbdd27e7ef11f0620f2868", func := "loop.example/g00724/laws.FnExactRowOk", spec := "fnExactRowOk", unfollowed := true, recurses := true, apart := false, narrowed := true }
def FnExactRowOkUptoSaid : Prop := fnExactRowOkUptoRow.holds Try.pinned (OpenSpec.upto fnExactRowOkSpec)

/-- 'laws.FnExactRowNew', WHERE WHAT IT READS IS OF BULK AT MOST 1048576: true; the input reads as it did. -/
def fnExactRowNewUptoRow : OpenClaim := { program := "ytllaoamaplepmaa", sum := "74a53f67922527b8c26bb05373d5d5922b28fea22dbbdd27e7ef11f0620f2868", func := "loop.example/g00724/laws.FnExactRowNew", spec := "fnExactRowNew", unfollowed := true, recurses := true, apart := false, narrowed := true }
def FnExactRowNewUptoSaid : Prop := fnExactRowNewUptoRow.holds Try.pinned (OpenSpec.upto fnExactRowNewSpec)

/-- 'laws.FnExactRowKeys', WHERE WHAT IT READS IS OF BULK AT MOST 1048576: true; the input reads as it did. -/
def fnExactRowKeysUptoRow : OpenClaim := { program := "ytllaoamaplepmaa", sum := "74a53f67922527b8c26bb05373d5d5922b28fea22dbbdd27e7ef11f0620f2868", func := "loop.example/g00724/laws.FnExactRowKeys", spec := "fnExactRowKeys", unfollowed := true, recurses := true, apart := false, narrowed := true }
def FnExactRowKeysUptoSaid : Prop := fnExactRowKeysUptoRow.holds Try.pinned (OpenSpec.upto fnExactRowKeysSpec)

/-- 'laws.FnExactRowGet', WHERE WHAT IT READS IS OF BULK AT MOST 1048576: true; the input reads as it did. -/
def fnExactRowGetUptoRow : OpenClaim := { program := "ytllaoamaplepmaa", sum := "74a53f67922527b8c26bb05373d5d5922b28fea22dbbdd27e7ef11f0620f2868", func := "loop.example/g00724/laws.FnExactRowGet", spec := "fnExactRowGet", unfollowed := true, recurses := true, apart := false, narrowed := true }
def FnExactRowGetUptoSaid : Prop := fnExactRowGetUptoRow.holds Try.pinned (OpenSpec.upto fnExactRowGetSpec)

/-- 'laws.FnExactRowPut', WHERE WHAT IT READS IS OF BULK AT MOST 1048576: true; the input reads as it did. -/
def fnExactRowPutUptoRow : OpenClaim := { program := "ytllaoamaplepmaa", sum := "74a53f67922527b8c26bb05373d5d5922b28fea22dbbdd27e7ef11f0620f2868", func := "loop.example/g00724/laws.FnExactRowPut", spec := "fnExactRowPut", unfollowed := true, recurses := true, apart := false, narrowed := true }
def FnExactRowPutUptoSaid : Prop := fnExactRowPutUptoRow.holds Try.pinned (OpenSpec.upto fnExactRowPutSpec)

end Rows
end Go.Proofs.Ytllaoamaplepmaa
