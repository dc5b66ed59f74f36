/-
  No cell of these rows narrows 'for every input' (looked for: loops, veiled, ifaces, maps, wideKeys, modest, calm, conditions, laid).
  DERIVED. THE GIVEN ROWS OF THIS SEAT. 13 by the template 'for every input the law returns true; each argument reads behind the call as it read before'; 0 by the template 'total and deterministic' (their statements: YtfjhkediaholmaaTotals.lean).
  GIVEN WITH THE SEED: the statements are not yours to turn. If you find one false, say at which input.
  Laid BY PROGRAM, IN A SANDBOX (cutbox-rows.mjs): the forced cells as the released guide's own fill.sh prints them over the translation 545f4f3873cce458… (all of the seat's roots in one cut). By AI agents, Wed Nov 11 2026. No macro, syntax, notation, axiom, sorry.
-/
import Derived.Test.YtfjhkediaholmaaChecked
import GoSem.Claim
import GoSem.ClaimJoined
import GoSem.ClaimMapViews
import Derived.JoinedTies
import Derived.KernelRfl
namespace Go.Proofs.Ytfjhkediaholmaa
/- THE CELL 'sum', in the pinned program and in every row, IS THE sha256 OF THE DUMP (.gsa) THAT YtfjhkediaholmaaProg.lean LOADS. Nothing in Lean hashes anything: it is a label: what it is worth is what the hold of that sum in a sandbox is worth. -/
noncomputable def Try.pinned : Pinned := { name := "ytfjhkediaholmaa", sum := "545f4f3873cce4587045a27c5fa264e97ff201b72a3fe2de6c6f6a7126f9cd59", checked := Try.checked }
namespace Rows
def none {H : Type} : Left H := { results := [], args := [] }

/-- 'laws.FnExactThreeOk': WHATEVER THE INPUT: true; the input reads as it did. -/
def fnExactThreeOkSpec : ChangeSpec := { name := "fnExactThreeOk", fn := fun _ => fun
  | [d] => { results := [.lit (.bool true)], args := [d] }
  | _ => none }
def fnExactThreeOkRow : OpenClaim := { program := "ytfjhkediaholmaa", sum := "545f4f3873cce4587045a27c5fa264e97ff201b72a3fe2de6c6f6a7126f9cd59", func := "loop.example/g00724/laws.FnExactThreeOk", spec := "fnExactThreeOk", unfollowed := true, recurses := true, apart := false }
def FnExactThreeOkSaid : Prop := fnExactThreeOkRow.holds Try.pinned (OpenSpec.ofChange fnExactThreeOkSpec)

/-- ITS FALSE NEIGHBOUR: 'it returns false'. Refute it at one input. -/
def fnExactThreeOkWrong : ChangeSpec := { name := "fnExactThreeOk", fn := fun _ => fun
  | [d] => { results := [.lit (.bool false)], args := [d] }
  | _ => none }
def FnExactThreeOkWrongFalsely : Prop := fnExactThreeOkRow.holds Try.pinned (OpenSpec.ofChange fnExactThreeOkWrong)

/-- 'laws.FnExactThreeNew': WHATEVER THE INPUT: true; the input reads as it did. -/
def fnExactThreeNewSpec : ChangeSpec := { name := "fnExactThreeNew", fn := fun _ => fun
  | [d1, d2] => { results := [.lit (.bool true)], args := [d1, d2] }
  | _ => none }
def fnExactThreeNewRow : OpenClaim := { program := "ytfjhkediaholmaa", sum := "545f4f3873cce4587045a27c5fa264e97ff201b72a3fe2de6c6f6a7126f9cd59", func := "loop.example/g00724/laws.FnExactThreeNew", spec := "fnExactThreeNew", unfollowed := true, recurses := true, apart := false }
def FnExactThreeNewSaid : Prop := fnExactThreeNewRow.holds Try.pinned (OpenSpec.ofChange fnExactThreeNewSpec)

/-- ITS FALSE NEIGHBOUR: 'it returns false'. Refute it at one input. -/
def fnExactThreeNewWrong : ChangeSpec := { name := "fnExactThreeNew", fn := fun _ => fun
  | [d1, d2] => { results := [.lit (.bool false)], args := [d1, d2] }
  | _ => none }
def FnExactThreeNewWrongFalsely : Prop := fnExactThreeNewRow.holds Try.pinned (OpenSpec.ofChange fnExactThreeNewWrong)

/-- 'laws.FnExactSetupOk': WHATEVER THE INPUT: true; the input reads as it did. -/
def fnExactSetupOkSpec : ChangeSpec := { name := "fnExactSetupOk", fn := fun _ => fun
  | [d] => { results := [.lit (.bool true)], args := [d] }
  | _ => none }
def fnExactSetupOkRow : OpenClaim := { program := "ytfjhkediaholmaa", sum := "545f4f3873cce4587045a27c5fa264e97ff201b72a3fe2de6c6f6a7126f9cd59", func := "loop.example/g00724/laws.FnExactSetupOk", spec := "fnExactSetupOk", unfollowed := true, recurses := true, apart := false }
def FnExactSetupOkSaid : Prop := fnExactSetupOkRow.holds Try.pinned (OpenSpec.ofChange fnExactSetupOkSpec)

/-- ITS FALSE NEIGHBOUR: 'it returns false'. Refute it at one input. -/
def fnExactSetupOkWrong : ChangeSpec := { name := "fnExactSetupOk", fn := fun _ => fun
  | [d] => { results := [.lit (.bool false)], args := [d] }
  | _ => none }
def FnExactSetupOkWrongFalsely : Prop := fnExactSetupOkRow.holds Try.pinned (OpenSpec.ofChange fnExactSetupOkWrong)

/-- 'laws.FnExactLabText': WHATEVER THE INPUT: true; the input reads as it did. -/
def fnExactLabTextSpec : ChangeSpec := { name := "fnExactLabText", fn := fun _ => fun
  | [d] => { results := [.lit (.bool true)], args := [d] }
  | _ => none }
def fnExactLabTextRow : OpenClaim := { program := "ytfjhkediaholmaa", sum := "545f4f3873cce4587045a27c5fa264e97ff201b72a3fe2de6c6f6a7126f9cd59", func := "loop.example/g00724/laws.FnExactLabText", spec := "fnExactLabText", unfollowed := true, recurses := true, apart := false }
def FnExactLabTextSaid : Prop := fnExactLabTextRow.holds Try.pinned (OpenSpec.ofChange fnExactLabTextSpec)

/-- ITS FALSE NEIGHBOUR: 'it returns false'. Refute it at one input. -/
def fnExactLabTextWrong : ChangeSpec := { name := "fnExactLabText", fn := fun _ => fun
  | [d] => { results := [.lit (.bool false)], args := [d] }
  | _ => none }
def FnExactLabTextWrongFalsely : Prop := fnExactLabTextRow.holds Try.pinned (OpenSpec.ofChange fnExactLabTextWrong)

/-- 'laws.FnExactEvictMain': WHATEVER THE INPUT: true; the input reads as it did. -/
def fnExactEvictMainSpec : ChangeSpec := { name := "fnExactEvictMain", fn := fun _ => fun
  | [d] => { results := [.lit (.bool true)], args := [d] }
  | _ => none }
def fnExactEvictMainRow : OpenClaim := { program := "ytfjhkediaholmaa", sum := "545f4f3873cce4587045a27c5fa264e97ff201b72a3fe2de6c6f6a7126f9cd59", func := "loop.example/g00724/laws.FnExactEvictMain", spec := "fnExactEvictMain", unfollowed := true, recurses := true, apart := false }
def FnExactEvictMainSaid : Prop := fnExactEvictMainRow.holds Try.pinned (OpenSpec.ofChange fnExactEvictMainSpec)

/-- ITS FALSE NEIGHBOUR: 'it returns false'. Refute it at one input. -/
def fnExactEvictMainWrong : ChangeSpec := { name := "fnExactEvictMain", fn := fun _ => fun
  | [d] => { results := [.lit (.bool false)], args := [d] }
  | _ => none }
def FnExactEvictMainWrongFalsely : Prop := fnExactEvictMainRow.holds Try.pinned (OpenSpec.ofChange fnExactEvictMainWrong)

/-- 'laws.FnExactDrop': WHATEVER THE INPUT: true; the input reads as it did. -/
def fnExactDropSpec : ChangeSpec := { name := "fnExactDrop", fn := fun _ => fun
  | [d1, d2] => { results := [.lit (.bool true)], args := [d1, d2] }
  | _ => none }
def fnExactDropRow : OpenClaim := { program := "ytfjhkediaholmaa", sum := "545f4f3873cce4587045a27c5fa264e97ff201b72a3fe2de6c6f6a7126f9cd59", func := "loop.example/g00724/laws.FnExactDrop", spec := "fnExactDrop", unfollowed := true, recurses := true, apart := false }
def FnExactDropSaid : Prop := fnExactDropRow.holds Try.pinned (OpenSpec.ofChange fnExactDropSpec)

/-- ITS FALSE NEIGHBOUR: 'it returns false'. Refute it at one input. -/
def fnExactDropWrong : ChangeSpec := { name := "fnExactDrop", fn := fun _ => fun
  | [d1, d2] => { results := [.lit (.bool false)], args := [d1, d2] }
  | _ => none }
def FnExactDropWrongFalsely : Prop := fnExactDropRow.holds Try.pinned (OpenSpec.ofChange fnExactDropWrong)

/-- 'laws.FnExactGet': WHATEVER THE INPUT: true; the input reads as it did. -/
def fnExactGetSpec : ChangeSpec := { name := "fnExactGet", fn := fun _ => fun
  | [d1, d2] => { results := [.lit (.bool true)], args := [d1, d2] }
  | _ => none }
def fnExactGetRow : OpenClaim := { program := "ytfjhkediaholmaa", sum := "545f4f3873cce4587045a27c5fa264e97ff201b72a3fe2de6c6f6a7126f9cd59", func := "loop.example/g00724/laws.FnExactGet", spec := "fnExactGet", unfollowed := true, recurses := true, apart := false }
def FnExactGetSaid : Prop := fnExactGetRow.holds Try.pinned (OpenSpec.ofChange fnExactGetSpec)

/-- ITS FALSE NEIGHBOUR: 'it returns false'. Refute it at one input. -/
def fnExactGetWrong : ChangeSpec := { name := "fnExactGet", fn := fun _ => fun
  | [d1, d2] => { results := [.lit (.bool false)], args := [d1, d2] }
  | _ => none }
def FnExactGetWrongFalsely : Prop := fnExactGetRow.holds Try.pinned (OpenSpec.ofChange fnExactGetWrong)

/-- 'laws.FnExactEvictSmall': WHATEVER THE INPUT: true; the input reads as it did. -/
def fnExactEvictSmallSpec : ChangeSpec := { name := "fnExactEvictSmall", fn := fun _ => fun
  | [d] => { results := [.lit (.bool true)], args := [d] }
  | _ => none }
def fnExactEvictSmallRow : OpenClaim := { program := "ytfjhkediaholmaa", sum := "545f4f3873cce4587045a27c5fa264e97ff201b72a3fe2de6c6f6a7126f9cd59", func := "loop.example/g00724/laws.FnExactEvictSmall", spec := "fnExactEvictSmall", unfollowed := true, recurses := true, apart := false }
def FnExactEvictSmallSaid : Prop := fnExactEvictSmallRow.holds Try.pinned (OpenSpec.ofChange fnExactEvictSmallSpec)

/-- ITS FALSE NEIGHBOUR: 'it returns false'. Refute it at one input. -/
def fnExactEvictSmallWrong : ChangeSpec := { name := "fnExactEvictSmall", fn := fun _ => fun
  | [d] => { results := [.lit (.bool false)], args := [d] }
  | _ => none }
def FnExactEvictSmallWrongFalsely : Prop := fnExactEvictSmallRow.holds Try.pinned (OpenSpec.ofChange fnExactEvictSmallWrong)

/-- 'laws.FnExactEvict': WHATEVER THE INPUT: true; the input reads as it did. -/
def fnExactEvictSpec : ChangeSpec := { name := "fnExactEvict", fn := fun _ => fun
  | [d] => { results := [.lit (.bool true)], args := [d] }
  | _ => none }
def fnExactEvictRow : OpenClaim := { program := "ytfjhkediaholmaa", sum := "545f4f3873cce4587045a27c5fa264e97ff201b72a3fe2de6c6f6a7126f9cd59", func := "loop.example/g00724/laws.FnExactEvict", spec := "fnExactEvict", unfollowed := true, recurses := true, apart := false }
def FnExactEvictSaid : Prop := fnExactEvictRow.holds Try.pinned (OpenSpec.ofChange fnExactEvictSpec)

/-- ITS FALSE NEIGHBOUR: 'it returns false'. Refute it at one input. -/
def fnExactEvictWrong : ChangeSpec := { name := "fnExactEvict", fn := fun _ => fun
  | [d] => { results := [.lit (.bool false)], args := [d] }
  | _ => none }
def FnExactEvictWrongFalsely : Prop := fnExactEvictRow.holds Try.pinned (OpenSpec.ofChange fnExactEvictWrong)

/-- 'laws.FnExactPut': WHATEVER THE INPUT: true; the input reads as it did. -/
def fnExactPutSpec : ChangeSpec := { name := "fnExactPut", fn := fun _ => fun
  | [d1, d2, d3] => { results := [.lit (.bool true)], args := [d1, d2, d3] }
  | _ => none }
def fnExactPutRow : OpenClaim := { program := "ytfjhkediaholmaa", sum := "545f4f3873cce4587045a27c5fa264e97ff201b72a3fe2de6c6f6a7126f9cd59", func := "loop.example/g00724/laws.FnExactPut", spec := "fnExactPut", unfollowed := true, recurses := true, apart := false }
def FnExactPutSaid : Prop := fnExactPutRow.holds Try.pinned (OpenSpec.ofChange fnExactPutSpec)

/-- ITS FALSE NEIGHBOUR: 'it returns false'. Refute it at one input. -/
def fnExactPutWrong : ChangeSpec := { name := "fnExactPut", fn := fun _ => fun
  | [d1, d2, d3] => { results := [.lit (.bool false)], args := [d1, d2, d3] }
  | _ => none }
def FnExactPutWrongFalsely : Prop := fnExactPutRow.holds Try.pinned (OpenSpec.ofChange fnExactPutWrong)

/-- 'laws.FnSweep': WHATEVER THE INPUT: true; the input reads as it did. -/
def fnSweepSpec : ChangeSpec := { name := "fnSweep", fn := fun _ => fun
  | [d] => { results := [.lit (.bool true)], args := [d] }
  | _ => none }
def fnSweepRow : OpenClaim := { program := "ytfjhkediaholmaa", sum := "545f4f3873cce4587045a27c5fa264e97ff201b72a3fe2de6c6f6a7126f9cd59", func := "loop.example/g00724/laws.FnSweep", spec := "fnSweep", unfollowed := true, recurses := true, apart := false }
def FnSweepSaid : Prop := fnSweepRow.holds Try.pinned (OpenSpec.ofChange fnSweepSpec)

/-- ITS FALSE NEIGHBOUR: 'it returns false'. Refute it at one input. -/
def fnSweepWrong : ChangeSpec := { name := "fnSweep", fn := fun _ => fun
  | [d] => { results := [.lit (.bool false)], args := [d] }
  | _ => none }
def FnSweepWrongFalsely : Prop := fnSweepRow.holds Try.pinned (OpenSpec.ofChange fnSweepWrong)

/-- 'laws.FnSpare': WHATEVER THE INPUT: true; the input reads as it did. -/
def fnSpareSpec : ChangeSpec := { name := "fnSpare", fn := fun _ => fun
  | [d] => { results := [.lit (.bool true)], args := [d] }
  | _ => none }
def fnSpareRow : OpenClaim := { program := "ytfjhkediaholmaa", sum := "545f4f3873cce4587045a27c5fa264e97ff201b72a3fe2de6c6f6a7126f9cd59", func := "loop.example/g00724/laws.FnSpare", spec := "fnSpare", unfollowed := true, recurses := true, apart := false }
def FnSpareSaid : Prop := fnSpareRow.holds Try.pinned (OpenSpec.ofChange fnSpareSpec)

/-- ITS FALSE NEIGHBOUR: 'it returns false'. Refute it at one input. -/
def fnSpareWrong : ChangeSpec := { name := "fnSpare", fn := fun _ => fun
  | [d] => { results := [.lit (.bool false)], args := [d] }
  | _ => none }
def FnSpareWrongFalsely : Prop := fnSpareRow.holds Try.pinned (OpenSpec.ofChange fnSpareWrong)

/-- 'laws.FnFind': WHATEVER THE INPUT: true; the input reads as it did. -/
def fnFindSpec : ChangeSpec := { name := "fnFind", fn := fun _ => fun
  | [d] => { results := [.lit (.bool true)], args := [d] }
  | _ => none }
def fnFindRow : OpenClaim := { program := "ytfjhkediaholmaa", sum := "545f4f3873cce4587045a27c5fa264e97ff201b72a3fe2de6c6f6a7126f9cd59", func := "loop.example/g00724/laws.FnFind", spec := "fnFind", unfollowed := true, recurses := true, apart := false }
def FnFindSaid : Prop := fnFindRow.holds Try.pinned (OpenSpec.ofChange fnFindSpec)

/-- ITS FALSE NEIGHBOUR: 'it returns false'. Refute it at one input. -/
def fnFindWrong : ChangeSpec := { name := "fnFind", fn := fun _ => fun
  | [d] => { results := [.lit (.bool false)], args := [d] }
  | _ => none }
def FnFindWrongFalsely : Prop := fnFindRow.holds Try.pinned (OpenSpec.ofChange fnFindWrong)

/- THE SECOND FORM. 'bulk': how many values and letters a reading holds, each counted each time it is reached (what is shared counts as often as it is met; a slice's spare places count too). A statement '..UptoSaid' is the law's where the arguments, and the package variables that the reading takes, are together of bulk at most 1048576: NARROWER than '..Said'. Prove '..Said' where nothing that the law and all that it calls make is longer than what came in: it says more and counts as full. Else prove '..UptoSaid'. A law counts once. -/
mutual
def uptoBulk {H : Type} : DataW H → Nat
  | .lit (.string bytes) => bytes.length + 1
  | .lit _ => 1
  | .nil => 1
  | .ptr d => uptoBulk d + 1
  | .slice elems spare => uptoBulkAll elems + uptoBulkAll spare + 1
  | .agg parts => uptoBulkAll parts + 1
  | .iface _ d => uptoBulk d + 1
  | .map entries => uptoBulkEntries entries + 1
  | .held _ => 1
def uptoBulkAll {H : Type} : List (DataW H) → Nat
  | [] => 0
  | d :: r => uptoBulk d + uptoBulkAll r
def uptoBulkEntries {H : Type} : List (Lit × DataW H) → Nat
  | [] => 0
  | x :: r => uptoBulkEntry x + uptoBulkEntries r
def uptoBulkEntry {H : Type} : Lit × DataW H → Nat
  | (.string bytes, d) => bytes.length + uptoBulk d + 1
  | (_, d) => uptoBulk d + 1
 end
def uptoSmall : (H : Type) → List (DataW H) → Bool := fun _ ds => decide (uptoBulkAll ds ≤ 1048576)
def OpenSpec.upto (s : _root_.Go.ChangeSpec) : _root_.Go.OpenSpec := { _root_.Go.OpenSpec.ofChange s with cond := some uptoSmall }

/-- 'laws.FnExactThreeOk', WHERE WHAT IT READS IS OF BULK AT MOST 1048576: true; the input reads as it did. -/
def fnExactThreeOkUptoRow : OpenClaim := { program := "ytfjhkediaholmaa", sum := "545f4f3873cce4587045a27c5fa264e97ff201b72a3fe2de6c6f6a7126f9cd59", func := "loop.example/g00724/laws.FnExactThreeOk", spec := "fnExactThreeOk", unfollowed := true, recurses := true, apart := false, narrowed := true }
def FnExactThreeOkUptoSaid : Prop := fnExactThreeOkUptoRow.holds Try.pinned (OpenSpec.upto fnExactThreeOkSpec)

/-- 'laws.FnExactThreeNew', WHERE WHAT IT READS IS OF BULK AT MOST 1048576: true; the input reads as it did. -/
def fnExactThreeNewUptoRow : OpenClaim := { program := "ytfjhkediaholmaa", sum := "545f4f3873cce4587045a27c5fa264e97ff201b72a3fe2de6c6f6a7126f9cd59", func := "loop.example/g00724/laws.FnExactThreeNew", spec := "fnExactThreeNew", unfollowed := true, recurses := true, apart := false, narrowed := true }
def FnExactThreeNewUptoSaid : Prop := fnExactThreeNewUptoRow.holds Try.pinned (OpenSpec.upto fnExactThreeNewSpec)

/-- 'laws.FnExactSetupOk', WHERE WHAT IT READS IS OF BULK AT MOST 1048576: true; the input reads as it did. -/
def fnExactSetupOkUptoRow : OpenClaim := { program := "ytfjhkediaholmaa", sum := "545f4f3873cce4587045a27c5fa264e97ff201b72a3fe2de6c6f6a7126f9cd59", func := "loop.example/g00724/laws.FnExactSetupOk", spec := "fnExactSetupOk", unfollowed := true, recurses := true, apart := false, narrowed := true }
def FnExactSetupOkUptoSaid : Prop := fnExactSetupOkUptoRow.holds Try.pinned (OpenSpec.upto fnExactSetupOkSpec)

/-- 'laws.FnExactLabText', WHERE WHAT IT READS IS OF BULK AT MOST 1048576: true; the input reads as it did. -/
def fnExactLabTextUptoRow : OpenClaim := { program := "ytfjhkediaholmaa", sum := "545f4f3873cce4587045a27c5fa264e97ff201b72a3fe2de6c6f6a7126f9cd59", func := "loop.example/g00724/laws.FnExactLabText", spec := "fnExactLabText", unfollowed := true, recurses := true, apart := false, narrowed := true }
def FnExactLabTextUptoSaid : Prop := fnExactLabTextUptoRow.holds Try.pinned (OpenSpec.upto fnExactLabTextSpec)

/-- 'laws.FnExactEvictMain', WHERE WHAT IT READS IS OF BULK AT MOST 1048576: true; the input reads as it did. -/
def fnExactEvictMainUptoRow : OpenClaim := { program := "ytfjhkediaholmaa", sum := "545f4f3873cce4587045a27c5fa264e97ff201b72a3fe2de6c6f6a7126f9cd59", func := "loop.example/g00724/laws.FnExactEvictMain", spec := "fnExactEvictMain", unfollowed := true, recurses := true, apart := false, narrowed := true }
def FnExactEvictMainUptoSaid : Prop := fnExactEvictMainUptoRow.holds Try.pinned (OpenSpec.upto fnExactEvictMainSpec)

/-- 'laws.FnExactDrop', WHERE WHAT IT READS IS OF BULK AT MOST 1048576: true; the input reads as it did. -/
def fnExactDropUptoRow : OpenClaim := { program := "ytfjhkediaholmaa", sum := "545f4f3873cce4587045a27c5fa264e97ff201b72a3fe2de6c6f6a7126f9cd59", func := "loop.example/g00724/laws.FnExactDrop", spec := "fnExactDrop", unfollowed := true, recurses := true, apart := false, narrowed := true }
def FnExactDropUptoSaid : Prop := fnExactDropUptoRow.holds Try.pinned (OpenSpec.upto fnExactDropSpec)

/-- 'laws.FnExactGet', WHERE WHAT IT READS IS OF BULK AT MOST 1048576: true; the input reads as it did. -/
def fnExactGetUptoRow : OpenClaim := { program := "ytfjhkediaholmaa", sum := "545f4f3873cce4587045a27c5fa264e97ff201b72a3fe2de6c6f6a7126f9cd59", func := "loop.example/g00724/laws.FnExactGet", spec := "fnExactGet", unfollowed := true, recurses := true, apart := false, narrowed := true }
def FnExactGetUptoSaid : Prop := fnExactGetUptoRow.holds Try.pinned (OpenSpec.upto fnExactGetSpec)

/-- 'laws.FnExactEvictSmall', WHERE WHAT IT READS IS OF BULK AT MOST 1048576: true; the input reads as it did. -/
def fnExactEvictSmallUptoRow : OpenClaim := { program := "ytfjhkediaholmaa", sum := "545f4f3873cce4587045a27c5fa264e97ff201b72a3fe2de6c6f6a7126f9cd59", func := "loop.example/g00724/laws.FnExactEvictSmall", spec := "fnExactEvictSmall", unfollowed := true, recurses := true, apart := false, narrowed := true }
def FnExactEvictSmallUptoSaid : Prop := fnExactEvictSmallUptoRow.holds Try.pinned (OpenSpec.upto fnExactEvictSmallSpec)

/-- 'laws.FnExactEvict', WHERE WHAT IT READS IS OF BULK AT MOST 1048576: true; the input reads as it did. -/
def fnExactEvictUptoRow : OpenClaim := { program := "ytfjhkediaholmaa", sum := "545f4f3873cce4587045a27c5fa264e97ff201b72a3fe2de6c6f6a7126f9cd59", func := "loop.example/g00724/laws.FnExactEvict", spec := "fnExactEvict", unfollowed := true, recurses := true, apart := false, narrowed := true }
def FnExactEvictUptoSaid : Prop := fnExactEvictUptoRow.holds Try.pinned (OpenSpec.upto fnExactEvictSpec)

/-- 'laws.FnExactPut', WHERE WHAT IT READS IS OF BULK AT MOST 1048576: true; the input reads as it did. -/
def fnExactPutUptoRow : OpenClaim := { program := "ytfjhkediaholmaa", sum := "545f4f3873cce4587045a27c5fa264e97ff201b72a3fe2de6c6f6a7126f9cd59", func := "loop.example/g00724/laws.FnExactPut", spec := "fnExactPut", unfollowed := true, recurses := true, apart := false, narrowed := true }
def FnExactPutUptoSaid : Prop := fnExactPutUptoRow.holds Try.pinned (OpenSpec.upto fnExactPutSpec)

/-- 'laws.FnSweep', WHERE WHAT IT READS IS OF BULK AT MOST 1048576: true; the input reads as it did. -/
def fnSweepUptoRow : OpenClaim := { program := "ytfjhkediaholmaa", sum := "545f4f3873cce4587045a27c5fa264e97ff201b72a3fe2de6c6f6a7126f9cd59", func := "loop.example/g00724/laws.FnSweep", spec := "fnSweep", unfollowed := true, recurses := true, apart := false, narrowed := true }
def FnSweepUptoSaid : Prop := fnSweepUptoRow.holds Try.pinned (OpenSpec.upto fnSweepSpec)

/-- 'laws.FnSpare', WHERE WHAT IT READS IS OF BULK AT MOST 1048576: true; the input reads as it did. -/
def fnSpareUptoRow : OpenClaim := { program := "ytfjhkediaholmaa", sum := "545f4f3873cce4587045a27c5fa264e97ff201b72a3fe2de6c6f6a7126f9cd59", func := "loop.example/g00724/laws.FnSpare", spec := "fnSpare", unfollowed := true, recurses := true, apart := false, narrowed := true }
def FnSpareUptoSaid : Prop := fnSpareUptoRow.holds Try.pinned (OpenSpec.upto fnSpareSpec)

/-- 'laws.FnFind', WHERE WHAT IT READS IS OF BULK AT MOST 1048576: true; the input reads as it did. -/
def fnFindUptoRow : OpenClaim := { program := "ytfjhkediaholmaa", sum := "545f4f3873cce4587045a27c5fa264e97ff201b72a3fe2de6c6f6a7126f9cd59", func := "loop.example/g00724/laws.FnFind", spec := "fnFind", unfollowed := true, recurses := true, apart := false, narrowed := true }
def FnFindUptoSaid : Prop := fnFindUptoRow.holds Try.pinned (OpenSpec.upto fnFindSpec)

end Rows
end Go.Proofs.Ytfjhkediaholmaa
