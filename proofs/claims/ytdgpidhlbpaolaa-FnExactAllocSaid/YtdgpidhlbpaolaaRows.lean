/-
  No cell of these rows narrows 'for every input' (looked for: loops, veiled, ifaces, maps, wideKeys, modest, calm, conditions, laid).
  DERIVED. THE GIVEN ROWS OF THIS SEAT. 11 by the template 'for every input the law returns true; each argument reads behind the call as it read before'; 0 by the template 'total and deterministic' (their statements: YtdgpidhlbpaolaaTotals.lean).
  GIVEN WITH THE SEED: the statements are not yours to turn. If you find one false, say at which input.
  Laid BY PROGRAM, IN A SANDBOX (cutbox-rows.mjs): the forced cells as the released guide's own fill.sh prints them over the translation bf47c41b2eb06fc3… (all of the seat's roots in one cut). By AI agents, Wed Nov 11 2026. No macro, syntax, notation, axiom, sorry.
-/
import Derived.Test.YtdgpidhlbpaolaaChecked
import GoSem.Claim
import GoSem.ClaimJoined
import GoSem.ClaimMapViews
import Derived.JoinedTies
import Derived.KernelRfl
namespace Go.Proofs.Ytdgpidhlbpaolaa
/- THE CELL 'sum', in the pinned program and in every row, IS THE sha256 OF THE DUMP (.gsa) THAT YtdgpidhlbpaolaaProg.lean LOADS. Nothing in Lean hashes anything: it is a label: what it is worth is what the hold of that sum in a sandbox is worth. -/
noncomputable def Try.pinned : Pinned := { name := "ytdgpidhlbpaolaa", sum := "bf47c41b2eb06fc378123554455b8cd26cc0a4797bf3205595fb208a6a23eb6f", checked := Try.checked }
namespace Rows
def none {H : Type} : Left H := { results := [], args := [] }

/-- 'laws.FnExactPoolNew': WHATEVER THE INPUT: true; the input reads as it did. -/
def fnExactPoolNewSpec : ChangeSpec := { name := "fnExactPoolNew", fn := fun _ => fun
  | [d1, d2] => { results := [.lit (.bool true)], args := [d1, d2] }
  | _ => none }
def fnExactPoolNewRow : OpenClaim := { program := "ytdgpidhlbpaolaa", sum := "bf47c41b2eb06fc378123554455b8cd26cc0a4797bf3205595fb208a6a23eb6f", func := "loop.example/g00724/laws.FnExactPoolNew", spec := "fnExactPoolNew", apart := false }
def FnExactPoolNewSaid : Prop := fnExactPoolNewRow.holds Try.pinned (OpenSpec.ofChange fnExactPoolNewSpec)

/-- ITS FALSE NEIGHBOUR: 'it returns false'. Refute it at one input. -/
def fnExactPoolNewWrong : ChangeSpec := { name := "fnExactPoolNew", fn := fun _ => fun
  | [d1, d2] => { results := [.lit (.bool false)], args := [d1, d2] }
  | _ => none }
def FnExactPoolNewWrongFalsely : Prop := fnExactPoolNewRow.holds Try.pinned (OpenSpec.ofChange fnExactPoolNewWrong)

/-- 'laws.FnExactPoolOk': WHATEVER THE INPUT: true; the input reads as it did. -/
def fnExactPoolOkSpec : ChangeSpec := { name := "fnExactPoolOk", fn := fun _ => fun
  | [d] => { results := [.lit (.bool true)], args := [d] }
  | _ => none }
def fnExactPoolOkRow : OpenClaim := { program := "ytdgpidhlbpaolaa", sum := "bf47c41b2eb06fc378123554455b8cd26cc0a4797bf3205595fb208a6a23eb6f", func := "loop.example/g00724/laws.FnExactPoolOk", spec := "fnExactPoolOk", recurses := true, apart := false }
def FnExactPoolOkSaid : Prop := fnExactPoolOkRow.holds Try.pinned (OpenSpec.ofChange fnExactPoolOkSpec)

/-- ITS FALSE NEIGHBOUR: 'it returns false'. Refute it at one input. -/
def fnExactPoolOkWrong : ChangeSpec := { name := "fnExactPoolOk", fn := fun _ => fun
  | [d] => { results := [.lit (.bool false)], args := [d] }
  | _ => none }
def FnExactPoolOkWrongFalsely : Prop := fnExactPoolOkRow.holds Try.pinned (OpenSpec.ofChange fnExactPoolOkWrong)

/-- 'laws.FnExactMay': WHATEVER THE INPUT: true; the input reads as it did. -/
def fnExactMaySpec : ChangeSpec := { name := "fnExactMay", fn := fun _ => fun
  | [d1, d2, d3] => { results := [.lit (.bool true)], args := [d1, d2, d3] }
  | _ => none }
def fnExactMayRow : OpenClaim := { program := "ytdgpidhlbpaolaa", sum := "bf47c41b2eb06fc378123554455b8cd26cc0a4797bf3205595fb208a6a23eb6f", func := "loop.example/g00724/laws.FnExactMay", spec := "fnExactMay", recurses := true, apart := false }
def FnExactMaySaid : Prop := fnExactMayRow.holds Try.pinned (OpenSpec.ofChange fnExactMaySpec)

/-- ITS FALSE NEIGHBOUR: 'it returns false'. Refute it at one input. -/
def fnExactMayWrong : ChangeSpec := { name := "fnExactMay", fn := fun _ => fun
  | [d1, d2, d3] => { results := [.lit (.bool false)], args := [d1, d2, d3] }
  | _ => none }
def FnExactMayWrongFalsely : Prop := fnExactMayRow.holds Try.pinned (OpenSpec.ofChange fnExactMayWrong)

/-- 'laws.FnExactAlloc': WHATEVER THE INPUT: true; the input reads as it did. -/
def fnExactAllocSpec : ChangeSpec := { name := "fnExactAlloc", fn := fun _ => fun
  | [d] => { results := [.lit (.bool true)], args := [d] }
  | _ => none }
def fnExactAllocRow : OpenClaim := { program := "ytdgpidhlbpaolaa", sum := "bf47c41b2eb06fc378123554455b8cd26cc0a4797bf3205595fb208a6a23eb6f", func := "loop.example/g00724/laws.FnExactAlloc", spec := "fnExactAlloc", recurses := true, apart := false }
def FnExactAllocSaid : Prop := fnExactAllocRow.holds Try.pinned (OpenSpec.ofChange fnExactAllocSpec)

/-- ITS FALSE NEIGHBOUR: 'it returns false'. Refute it at one input. -/
def fnExactAllocWrong : ChangeSpec := { name := "fnExactAlloc", fn := fun _ => fun
  | [d] => { results := [.lit (.bool false)], args := [d] }
  | _ => none }
def FnExactAllocWrongFalsely : Prop := fnExactAllocRow.holds Try.pinned (OpenSpec.ofChange fnExactAllocWrong)

/-- 'laws.FnExactEnter': WHATEVER THE INPUT: true; the input reads as it did. -/
def fnExactEnterSpec : ChangeSpec := { name := "fnExactEnter", fn := fun _ => fun
  | [d1, d2] => { results := [.lit (.bool true)], args := [d1, d2] }
  | _ => none }
def fnExactEnterRow : OpenClaim := { program := "ytdgpidhlbpaolaa", sum := "bf47c41b2eb06fc378123554455b8cd26cc0a4797bf3205595fb208a6a23eb6f", func := "loop.example/g00724/laws.FnExactEnter", spec := "fnExactEnter", recurses := true, apart := false }
def FnExactEnterSaid : Prop := fnExactEnterRow.holds Try.pinned (OpenSpec.ofChange fnExactEnterSpec)

/-- ITS FALSE NEIGHBOUR: 'it returns false'. Refute it at one input. -/
def fnExactEnterWrong : ChangeSpec := { name := "fnExactEnter", fn := fun _ => fun
  | [d1, d2] => { results := [.lit (.bool false)], args := [d1, d2] }
  | _ => none }
def FnExactEnterWrongFalsely : Prop := fnExactEnterRow.holds Try.pinned (OpenSpec.ofChange fnExactEnterWrong)

/-- 'laws.FnExactLeave': WHATEVER THE INPUT: true; the input reads as it did. -/
def fnExactLeaveSpec : ChangeSpec := { name := "fnExactLeave", fn := fun _ => fun
  | [d1, d2] => { results := [.lit (.bool true)], args := [d1, d2] }
  | _ => none }
def fnExactLeaveRow : OpenClaim := { program := "ytdgpidhlbpaolaa", sum := "bf47c41b2eb06fc378123554455b8cd26cc0a4797bf3205595fb208a6a23eb6f", func := "loop.example/g00724/laws.FnExactLeave", spec := "fnExactLeave", recurses := true, apart := false }
def FnExactLeaveSaid : Prop := fnExactLeaveRow.holds Try.pinned (OpenSpec.ofChange fnExactLeaveSpec)

/-- ITS FALSE NEIGHBOUR: 'it returns false'. Refute it at one input. -/
def fnExactLeaveWrong : ChangeSpec := { name := "fnExactLeave", fn := fun _ => fun
  | [d1, d2] => { results := [.lit (.bool false)], args := [d1, d2] }
  | _ => none }
def FnExactLeaveWrongFalsely : Prop := fnExactLeaveRow.holds Try.pinned (OpenSpec.ofChange fnExactLeaveWrong)

/-- 'laws.FnExactReclaim': WHATEVER THE INPUT: true; the input reads as it did. -/
def fnExactReclaimSpec : ChangeSpec := { name := "fnExactReclaim", fn := fun _ => fun
  | [d] => { results := [.lit (.bool true)], args := [d] }
  | _ => none }
def fnExactReclaimRow : OpenClaim := { program := "ytdgpidhlbpaolaa", sum := "bf47c41b2eb06fc378123554455b8cd26cc0a4797bf3205595fb208a6a23eb6f", func := "loop.example/g00724/laws.FnExactReclaim", spec := "fnExactReclaim", recurses := true, apart := false }
def FnExactReclaimSaid : Prop := fnExactReclaimRow.holds Try.pinned (OpenSpec.ofChange fnExactReclaimSpec)

/-- ITS FALSE NEIGHBOUR: 'it returns false'. Refute it at one input. -/
def fnExactReclaimWrong : ChangeSpec := { name := "fnExactReclaim", fn := fun _ => fun
  | [d] => { results := [.lit (.bool false)], args := [d] }
  | _ => none }
def FnExactReclaimWrongFalsely : Prop := fnExactReclaimRow.holds Try.pinned (OpenSpec.ofChange fnExactReclaimWrong)

/-- 'laws.FnExactTurn': WHATEVER THE INPUT: true; the input reads as it did. -/
def fnExactTurnSpec : ChangeSpec := { name := "fnExactTurn", fn := fun _ => fun
  | [d] => { results := [.lit (.bool true)], args := [d] }
  | _ => none }
def fnExactTurnRow : OpenClaim := { program := "ytdgpidhlbpaolaa", sum := "bf47c41b2eb06fc378123554455b8cd26cc0a4797bf3205595fb208a6a23eb6f", func := "loop.example/g00724/laws.FnExactTurn", spec := "fnExactTurn", recurses := true, apart := false }
def FnExactTurnSaid : Prop := fnExactTurnRow.holds Try.pinned (OpenSpec.ofChange fnExactTurnSpec)

/-- ITS FALSE NEIGHBOUR: 'it returns false'. Refute it at one input. -/
def fnExactTurnWrong : ChangeSpec := { name := "fnExactTurn", fn := fun _ => fun
  | [d] => { results := [.lit (.bool false)], args := [d] }
  | _ => none }
def FnExactTurnWrongFalsely : Prop := fnExactTurnRow.holds Try.pinned (OpenSpec.ofChange fnExactTurnWrong)

/-- 'laws.FnExactGiveUp': WHATEVER THE INPUT: true; the input reads as it did. -/
def fnExactGiveUpSpec : ChangeSpec := { name := "fnExactGiveUp", fn := fun _ => fun
  | [d1, d2] => { results := [.lit (.bool true)], args := [d1, d2] }
  | _ => none }
def fnExactGiveUpRow : OpenClaim := { program := "ytdgpidhlbpaolaa", sum := "bf47c41b2eb06fc378123554455b8cd26cc0a4797bf3205595fb208a6a23eb6f", func := "loop.example/g00724/laws.FnExactGiveUp", spec := "fnExactGiveUp", unfollowed := true, recurses := true, apart := false }
def FnExactGiveUpSaid : Prop := fnExactGiveUpRow.holds Try.pinned (OpenSpec.ofChange fnExactGiveUpSpec)

/-- ITS FALSE NEIGHBOUR: 'it returns false'. Refute it at one input. -/
def fnExactGiveUpWrong : ChangeSpec := { name := "fnExactGiveUp", fn := fun _ => fun
  | [d1, d2] => { results := [.lit (.bool false)], args := [d1, d2] }
  | _ => none }
def FnExactGiveUpWrongFalsely : Prop := fnExactGiveUpRow.holds Try.pinned (OpenSpec.ofChange fnExactGiveUpWrong)

/-- 'laws.FnPool': WHATEVER THE INPUT: true; the input reads as it did. -/
def fnPoolSpec : ChangeSpec := { name := "fnPool", fn := fun _ => fun
  | [d] => { results := [.lit (.bool true)], args := [d] }
  | _ => none }
def fnPoolRow : OpenClaim := { program := "ytdgpidhlbpaolaa", sum := "bf47c41b2eb06fc378123554455b8cd26cc0a4797bf3205595fb208a6a23eb6f", func := "loop.example/g00724/laws.FnPool", spec := "fnPool", unfollowed := true, recurses := true, apart := false }
def FnPoolSaid : Prop := fnPoolRow.holds Try.pinned (OpenSpec.ofChange fnPoolSpec)

/-- ITS FALSE NEIGHBOUR: 'it returns false'. Refute it at one input. -/
def fnPoolWrong : ChangeSpec := { name := "fnPool", fn := fun _ => fun
  | [d] => { results := [.lit (.bool false)], args := [d] }
  | _ => none }
def FnPoolWrongFalsely : Prop := fnPoolRow.holds Try.pinned (OpenSpec.ofChange fnPoolWrong)

/-- 'laws.FnAges': WHATEVER THE INPUT: true; the input reads as it did. -/
def fnAgesSpec : ChangeSpec := { name := "fnAges", fn := fun _ => fun
  | [d] => { results := [.lit (.bool true)], args := [d] }
  | _ => none }
def fnAgesRow : OpenClaim := { program := "ytdgpidhlbpaolaa", sum := "bf47c41b2eb06fc378123554455b8cd26cc0a4797bf3205595fb208a6a23eb6f", func := "loop.example/g00724/laws.FnAges", spec := "fnAges", unfollowed := true, recurses := true, apart := false }
def FnAgesSaid : Prop := fnAgesRow.holds Try.pinned (OpenSpec.ofChange fnAgesSpec)

/-- ITS FALSE NEIGHBOUR: 'it returns false'. Refute it at one input. -/
def fnAgesWrong : ChangeSpec := { name := "fnAges", fn := fun _ => fun
  | [d] => { results := [.lit (.bool false)], args := [d] }
  | _ => none }
def FnAgesWrongFalsely : Prop := fnAgesRow.holds Try.pinned (OpenSpec.ofChange fnAgesWrong)

/- THE SECOND FORM. 'bulk': how many values and letters a reading holds, each counted each time it is reached (what is shared counts as often as it is met; a slice's spare places count too). A statement '..UptoSaid' is the law's where the arguments, and the package variables that the reading takes, are together of bulk at most 1048576: NARROWER than '..Said'. Prove '..Said' where nothing that the law and all that it calls make is longer than what came in: it says more and counts as full. Else prove '..UptoSaid'. A law counts once. -/
mutual
def uptoBulk {H : Type} : DataW H → Nat
  | .lit (.string bytes) => bytes.length + 1
  | .lit _ => 1
  | .nil => 1
  | .ptr d => uptoBulk d + 1
  | .slice elems spare => uptoBulkAll elems + uptoBulkAll spare + 1
  | .agg parts => uptoBulkAll parts + 1
  | .iface _ d => uptoBulk d + 1
  | .map entries => uptoBulkEntries entries + 1
  | .held _ => 1
def uptoBulkAll {H : Type} : List (DataW H) → Nat
  | [] => 0
  | d :: r => uptoBulk d + uptoBulkAll r
def uptoBulkEntries {H : Type} : List (Lit × DataW H) → Nat
  | [] => 0
  | x :: r => uptoBulkEntry x + uptoBulkEntries r
def uptoBulkEntry {H : Type} : Lit × DataW H → Nat
  | (.string bytes, d) => bytes.length + uptoBulk d + 1
  | (_, d) => uptoBulk d + 1
 end
def uptoSmall : (H : Type) → List (DataW H) → Bool := fun _ ds => decide (uptoBulkAll ds ≤ 1048576)
def OpenSpec.upto (s : _root_.Go.ChangeSpec) : _root_.Go.OpenSpec := { _root_.Go.OpenSpec.ofChange s with cond := some uptoSmall }

/-- 'laws.FnExactPoolNew', WHERE WHAT IT READS IS OF BULK AT MOST 1048576: true; the input reads as it did. -/
def fnExactPoolNewUptoRow : OpenClaim := { program := "ytdgpidhlbpaolaa", sum := "bf47c41b2eb06fc378123554455b8cd26cc0a4797bf3205595fb208a6a23eb6f", func := "loop.example/g00724/laws.FnExactPoolNew", spec := "fnExactPoolNew", apart := false, narrowed := true }
def FnExactPoolNewUptoSaid : Prop := fnExactPoolNewUptoRow.holds Try.pinned (OpenSpec.upto fnExactPoolNewSpec)

/-- 'laws.FnExactPoolOk', WHERE WHAT IT READS IS OF BULK AT MOST 1048576: true; the input reads as it did. -/
def fnExactPoolOkUptoRow : OpenClaim := { program := "ytdgpidhlbpaolaa", sum := "bf47c41b2eb06fc378123554455b8cd26cc0a4797bf3205595fb208a6a23eb6f", func := "loop.example/g00724/laws.FnExactPoolOk", spec := "fnExactPoolOk", recurses := true, apart := false, narrowed := true }
def FnExactPoolOkUptoSaid : Prop := fnExactPoolOkUptoRow.holds Try.pinned (OpenSpec.upto fnExactPoolOkSpec)

/-- 'laws.FnExactMay', WHERE WHAT IT READS IS OF BULK AT MOST 1048576: true; the input reads as it did. -/
def fnExactMayUptoRow : OpenClaim := { program := "ytdgpidhlbpaolaa", sum := "bf47c41b2eb06fc378123554455b8cd26cc0a4797bf3205595fb208a6a23eb6f", func := "loop.example/g00724/laws.FnExactMay", spec := "fnExactMay", recurses := true, apart := false, narrowed := true }
def FnExactMayUptoSaid : Prop := fnExactMayUptoRow.holds Try.pinned (OpenSpec.upto fnExactMaySpec)

/-- 'laws.FnExactAlloc', WHERE WHAT IT READS IS OF BULK AT MOST 1048576: true; the input reads as it did. -/
def fnExactAllocUptoRow : OpenClaim := { program := "ytdgpidhlbpaolaa", sum := "bf47c41b2eb06fc378123554455b8cd26cc0a4797bf3205595fb208a6a23eb6f", func := "loop.example/g00724/laws.FnExactAlloc", spec := "fnExactAlloc", recurses := true, apart := false, narrowed := true }
def FnExactAllocUptoSaid : Prop := fnExactAllocUptoRow.holds Try.pinned (OpenSpec.upto fnExactAllocSpec)

/-- 'laws.FnExactEnter', WHERE WHAT IT READS IS OF BULK AT MOST 1048576: true; the input reads as it did. -/
def fnExactEnterUptoRow : OpenClaim := { program := "ytdgpidhlbpaolaa", sum := "bf47c41b2eb06fc378123554455b8cd26cc0a4797bf3205595fb208a6a23eb6f", func := "loop.example/g00724/laws.FnExactEnter", spec := "fnExactEnter", recurses := true, apart := false, narrowed := true }
def FnExactEnterUptoSaid : Prop := fnExactEnterUptoRow.holds Try.pinned (OpenSpec.upto fnExactEnterSpec)

/-- 'laws.FnExactLeave', WHERE WHAT IT READS IS OF BULK AT MOST 1048576: true; the input reads as it did. -/
def fnExactLeaveUptoRow : OpenClaim := { program := "ytdgpidhlbpaolaa", sum := "bf47c41b2eb06fc378123554455b8cd26cc0a4797bf3205595fb208a6a23eb6f", func := "loop.example/g00724/laws.FnExactLeave", spec := "fnExactLeave", recurses := true, apart := false, narrowed := true }
def FnExactLeaveUptoSaid : Prop := fnExactLeaveUptoRow.holds Try.pinned (OpenSpec.upto fnExactLeaveSpec)

/-- 'laws.FnExactReclaim', WHERE WHAT IT READS IS OF BULK AT MOST 1048576: true; the input reads as it did. -/
def fnExactReclaimUptoRow : OpenClaim := { program := "ytdgpidhlbpaolaa", sum := "bf47c41b2eb06fc378123554455b8cd26cc0a4797bf3205595fb208a6a23eb6f", func := "loop.example/g00724/laws.FnExactReclaim", spec := "fnExactReclaim", recurses := true, apart := false, narrowed := true }
def FnExactReclaimUptoSaid : Prop := fnExactReclaimUptoRow.holds Try.pinned (OpenSpec.upto fnExactReclaimSpec)

/-- 'laws.FnExactTurn', WHERE WHAT IT READS IS OF BULK AT MOST 1048576: true; the input reads as it did. -/
def fnExactTurnUptoRow : OpenClaim := { program := "ytdgpidhlbpaolaa", sum := "bf47c41b2eb06fc378123554455b8cd26cc0a4797bf3205595fb208a6a23eb6f", func := "loop.example/g00724/laws.FnExactTurn", spec := "fnExactTurn", recurses := true, apart := false, narrowed := true }
def FnExactTurnUptoSaid : Prop := fnExactTurnUptoRow.holds Try.pinned (OpenSpec.upto fnExactTurnSpec)

/-- 'laws.FnExactGiveUp', WHERE WHAT IT READS IS OF BULK AT MOST 1048576: true; the input reads as it did. -/
def fnExactGiveUpUptoRow : OpenClaim := { program := "ytdgpidhlbpaolaa", sum := "bf47c41b2eb06fc378123554455b8cd26cc0a4797bf3205595fb208a6a23eb6f", func := "loop.example/g00724/laws.FnExactGiveUp", spec := "fnExactGiveUp", unfollowed := true, recurses := true, apart := false, narrowed := true }
def FnExactGiveUpUptoSaid : Prop := fnExactGiveUpUptoRow.holds Try.pinned (OpenSpec.upto fnExactGiveUpSpec)

/-- 'laws.FnPool', WHERE WHAT IT READS IS OF BULK AT MOST 1048576: true; the input reads as it did. -/
def fnPoolUptoRow : OpenClaim := { program := "ytdgpidhlbpaolaa", sum := "bf47c41b2eb06fc378123554455b8cd26cc0a4797bf3205595fb208a6a23eb6f", func := "loop.example/g00724/laws.FnPool", spec := "fnPool", unfollowed := true, recurses := true, apart := false, narrowed := true }
def FnPoolUptoSaid : Prop := fnPoolUptoRow.holds Try.pinned (OpenSpec.upto fnPoolSpec)

/-- 'laws.FnAges', WHERE WHAT IT READS IS OF BULK AT MOST 1048576: true; the input reads as it did. -/
def fnAgesUptoRow : OpenClaim := { program := "ytdgpidhlbpaolaa", sum := "bf47c41b2eb06fc378123554455b8cd26cc0a4797bf3205595fb208a6a23eb6f", func := "loop.example/g00724/laws.FnAges", spec := "fnAges", unfollowed := true, recurses := true, apart := false, narrowed := true }
def FnAgesUptoSaid : Prop := fnAgesUptoRow.holds Try.pinned (OpenSpec.upto fnAgesSpec)

end Rows
end Go.Proofs.Ytdgpidhlbpaolaa
