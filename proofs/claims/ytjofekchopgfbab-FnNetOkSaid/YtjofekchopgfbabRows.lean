/-
  No cell of these rows narrows 'for every input' (looked for: loops, veiled, ifaces, maps, wideKeys, modest, calm, conditions, laid).
  DERIVED. THE GIVEN ROWS OF THIS SEAT. 10 by the template 'for every input the law returns true; each argument reads behind the call as it read before'; 0 by the template 'total and deterministic' (their statements: YtjofekchopgfbabTotals.lean).
  GIVEN WITH THE SEED: the statements are not yours to turn. If you find one false, say at which input.
  Laid BY PROGRAM, IN A SANDBOX (cutbox-rows.mjs): the forced cells as the released guide's own fill.sh prints them over the translation 2ede98ba8d7bcb34… (all of the seat's roots in one cut). By AI agents, Wed Nov 11 2026. No macro, syntax, notation, axiom, sorry.
-/
import Derived.Test.YtjofekchopgfbabChecked
import GoSem.Claim
import GoSem.ClaimJoined
import GoSem.ClaimMapViews
import Derived.JoinedTies
import Derived.KernelRfl
namespace Go.Proofs.Ytjofekchopgfbab
/- THE CELL 'sum', in the pinned program and in every row, IS THE sha256 OF THE DUMP (.gsa) THAT YtjofekchopgfbabProg.lean LOADS. Nothing in Lean hashes anything: it is a label: what it is worth is what the hold of that sum in a sandbox is worth. -/
noncomputable def Try.pinned : Pinned := { name := "ytjofekchopgfbab", sum := "2ede98ba8d7bcb34c29a93b26abfcbb2623fed7276b92b526fb95090f4ed6dab", checked := Try.checked }
namespace Rows
def none {H : Type} : Left H := { results := [], args := [] }

/-- 'laws.FnRaisedState': WHATEVER THE INPUT: true; the input reads as it did. -/
def fnRaisedStateSpec : ChangeSpec := { name := "fnRaisedState", fn := fun _ => fun
  | [d] => { results := [.lit (.bool true)], args := [d] }
  | _ => none }
def fnRaisedStateRow : OpenClaim := { program := "ytjofekchopgfbab", sum := "2ede98ba8d7bcb34c29a93b26abfcbb2623fed7276b92b526fb95090f4ed6dab", func := "loop.example/firingnets/laws.FnRaisedState", spec := "fnRaisedState", apart := false }
def FnRaisedStateSaid : Prop := fnRaisedStateRow.holds Try.pinned (OpenSpec.ofChange fnRaisedStateSpec)

/-- ITS FALSE NEIGHBOUR: 'it returns false'. Refute it at one input. -/
def fnRaisedStateWrong : ChangeSpec := { name := "fnRaisedState", fn := fun _ => fun
  | [d] => { results := [.lit (.bool false)], args := [d] }
  | _ => none }
def FnRaisedStateWrongFalsely : Prop := fnRaisedStateRow.holds Try.pinned (OpenSpec.ofChange fnRaisedStateWrong)

/-- 'laws.FnNetOk': WHATEVER THE INPUT: true; the input reads as it did. -/
def fnNetOkSpec : ChangeSpec := { name := "fnNetOk", fn := fun _ => fun
  | [d] => { results := [.lit (.bool true)], args := [d] }
  | _ => none }
def fnNetOkRow : OpenClaim := { program := "ytjofekchopgfbab", sum := "2ede98ba8d7bcb34c29a93b26abfcbb2623fed7276b92b526fb95090f4ed6dab", func := "loop.example/firingnets/laws.FnNetOk", spec := "fnNetOk", apart := false }
def FnNetOkSaid : Prop := fnNetOkRow.holds Try.pinned (OpenSpec.ofChange fnNetOkSpec)

/-- ITS FALSE NEIGHBOUR: 'it returns false'. Refute it at one input. -/
def fnNetOkWrong : ChangeSpec := { name := "fnNetOk", fn := fun _ => fun
  | [d] => { results := [.lit (.bool false)], args := [d] }
  | _ => none }
def FnNetOkWrongFalsely : Prop := fnNetOkRow.holds Try.pinned (OpenSpec.ofChange fnNetOkWrong)

/-- 'laws.FnExactDistancesFrom': WHATEVER THE INPUT: true; the input reads as it did. -/
def fnExactDistancesFromSpec : ChangeSpec := { name := "fnExactDistancesFrom", fn := fun _ => fun
  | [d1, d2] => { results := [.lit (.bool true)], args := [d1, d2] }
  | _ => none }
def fnExactDistancesFromRow : OpenClaim := { program := "ytjofekchopgfbab", sum := "2ede98ba8d7bcb34c29a93b26abfcbb2623fed7276b92b526fb95090f4ed6dab", func := "loop.example/firingnets/laws.FnExactDistancesFrom", spec := "fnExactDistancesFrom", apart := false }
def FnExactDistancesFromSaid : Prop := fnExactDistancesFromRow.holds Try.pinned (OpenSpec.ofChange fnExactDistancesFromSpec)

/-- ITS FALSE NEIGHBOUR: 'it returns false'. Refute it at one input. -/
def fnExactDistancesFromWrong : ChangeSpec := { name := "fnExactDistancesFrom", fn := fun _ => fun
  | [d1, d2] => { results := [.lit (.bool false)], args := [d1, d2] }
  | _ => none }
def FnExactDistancesFromWrongFalsely : Prop := fnExactDistancesFromRow.holds Try.pinned (OpenSpec.ofChange fnExactDistancesFromWrong)

/-- 'laws.FnCountsOf': WHATEVER THE INPUT: true; the input reads as it did. -/
def fnCountsOfSpec : ChangeSpec := { name := "fnCountsOf", fn := fun _ => fun
  | [d] => { results := [.lit (.bool true)], args := [d] }
  | _ => none }
def fnCountsOfRow : OpenClaim := { program := "ytjofekchopgfbab", sum := "2ede98ba8d7bcb34c29a93b26abfcbb2623fed7276b92b526fb95090f4ed6dab", func := "loop.example/firingnets/laws.FnCountsOf", spec := "fnCountsOf", apart := false }
def FnCountsOfSaid : Prop := fnCountsOfRow.holds Try.pinned (OpenSpec.ofChange fnCountsOfSpec)

/-- ITS FALSE NEIGHBOUR: 'it returns false'. Refute it at one input. -/
def fnCountsOfWrong : ChangeSpec := { name := "fnCountsOf", fn := fun _ => fun
  | [d] => { results := [.lit (.bool false)], args := [d] }
  | _ => none }
def FnCountsOfWrongFalsely : Prop := fnCountsOfRow.holds Try.pinned (OpenSpec.ofChange fnCountsOfWrong)

/-- 'laws.FnExactFarthestOf': WHATEVER THE INPUT: true; the input reads as it did. -/
def fnExactFarthestOfSpec : ChangeSpec := { name := "fnExactFarthestOf", fn := fun _ => fun
  | [d1, d2] => { results := [.lit (.bool true)], args := [d1, d2] }
  | _ => none }
def fnExactFarthestOfRow : OpenClaim := { program := "ytjofekchopgfbab", sum := "2ede98ba8d7bcb34c29a93b26abfcbb2623fed7276b92b526fb95090f4ed6dab", func := "loop.example/firingnets/laws.FnExactFarthestOf", spec := "fnExactFarthestOf", apart := false }
def FnExactFarthestOfSaid : Prop := fnExactFarthestOfRow.holds Try.pinned (OpenSpec.ofChange fnExactFarthestOfSpec)

/-- ITS FALSE NEIGHBOUR: 'it returns false'. Refute it at one input. -/
def fnExactFarthestOfWrong : ChangeSpec := { name := "fnExactFarthestOf", fn := fun _ => fun
  | [d1, d2] => { results := [.lit (.bool false)], args := [d1, d2] }
  | _ => none }
def FnExactFarthestOfWrongFalsely : Prop := fnExactFarthestOfRow.holds Try.pinned (OpenSpec.ofChange fnExactFarthestOfWrong)

/-- 'laws.FnExactNamedNet': WHATEVER THE INPUT: true; the input reads as it did. -/
def fnExactNamedNetSpec : ChangeSpec := { name := "fnExactNamedNet", fn := fun _ => fun
  | [d1, d2] => { results := [.lit (.bool true)], args := [d1, d2] }
  | _ => none }
def fnExactNamedNetRow : OpenClaim := { program := "ytjofekchopgfbab", sum := "2ede98ba8d7bcb34c29a93b26abfcbb2623fed7276b92b526fb95090f4ed6dab", func := "loop.example/firingnets/laws.FnExactNamedNet", spec := "fnExactNamedNet", apart := false }
def FnExactNamedNetSaid : Prop := fnExactNamedNetRow.holds Try.pinned (OpenSpec.ofChange fnExactNamedNetSpec)

/-- ITS FALSE NEIGHBOUR: 'it returns false'. Refute it at one input. -/
def fnExactNamedNetWrong : ChangeSpec := { name := "fnExactNamedNet", fn := fun _ => fun
  | [d1, d2] => { results := [.lit (.bool false)], args := [d1, d2] }
  | _ => none }
def FnExactNamedNetWrongFalsely : Prop := fnExactNamedNetRow.holds Try.pinned (OpenSpec.ofChange fnExactNamedNetWrong)

/-- 'laws.FnNumberOf': WHATEVER THE INPUT: true; the input reads as it did. -/
def fnNumberOfSpec : ChangeSpec := { name := "fnNumberOf", fn := fun _ => fun
  | [d] => { results := [.lit (.bool true)], args := [d] }
  | _ => none }
def fnNumberOfRow : OpenClaim := { program := "ytjofekchopgfbab", sum := "2ede98ba8d7bcb34c29a93b26abfcbb2623fed7276b92b526fb95090f4ed6dab", func := "loop.example/firingnets/laws.FnNumberOf", spec := "fnNumberOf", apart := false }
def FnNumberOfSaid : Prop := fnNumberOfRow.holds Try.pinned (OpenSpec.ofChange fnNumberOfSpec)

/-- ITS FALSE NEIGHBOUR: 'it returns false'. Refute it at one input. -/
def fnNumberOfWrong : ChangeSpec := { name := "fnNumberOf", fn := fun _ => fun
  | [d] => { results := [.lit (.bool false)], args := [d] }
  | _ => none }
def FnNumberOfWrongFalsely : Prop := fnNumberOfRow.holds Try.pinned (OpenSpec.ofChange fnNumberOfWrong)

/-- 'laws.FnExactFireStep': WHATEVER THE INPUT: true; the input reads as it did. -/
def fnExactFireStepSpec : ChangeSpec := { name := "fnExactFireStep", fn := fun _ => fun
  | [d1, d2, d3] => { results := [.lit (.bool true)], args := [d1, d2, d3] }
  | _ => none }
def fnExactFireStepRow : OpenClaim := { program := "ytjofekchopgfbab", sum := "2ede98ba8d7bcb34c29a93b26abfcbb2623fed7276b92b526fb95090f4ed6dab", func := "loop.example/firingnets/laws.FnExactFireStep", spec := "fnExactFireStep", apart := false }
def FnExactFireStepSaid : Prop := fnExactFireStepRow.holds Try.pinned (OpenSpec.ofChange fnExactFireStepSpec)

/-- ITS FALSE NEIGHBOUR: 'it returns false'. Refute it at one input. -/
def fnExactFireStepWrong : ChangeSpec := { name := "fnExactFireStep", fn := fun _ => fun
  | [d1, d2, d3] => { results := [.lit (.bool false)], args := [d1, d2, d3] }
  | _ => none }
def FnExactFireStepWrongFalsely : Prop := fnExactFireStepRow.holds Try.pinned (OpenSpec.ofChange fnExactFireStepWrong)

/-- 'laws.FnExactPartsOf': WHATEVER THE INPUT: true; the input reads as it did. -/
def fnExactPartsOfSpec : ChangeSpec := { name := "fnExactPartsOf", fn := fun _ => fun
  | [d] => { results := [.lit (.bool true)], args := [d] }
  | _ => none }
def fnExactPartsOfRow : OpenClaim := { program := "ytjofekchopgfbab", sum := "2ede98ba8d7bcb34c29a93b26abfcbb2623fed7276b92b526fb95090f4ed6dab", func := "loop.example/firingnets/laws.FnExactPartsOf", spec := "fnExactPartsOf", apart := false }
def FnExactPartsOfSaid : Prop := fnExactPartsOfRow.holds Try.pinned (OpenSpec.ofChange fnExactPartsOfSpec)

/-- ITS FALSE NEIGHBOUR: 'it returns false'. Refute it at one input. -/
def fnExactPartsOfWrong : ChangeSpec := { name := "fnExactPartsOf", fn := fun _ => fun
  | [d] => { results := [.lit (.bool false)], args := [d] }
  | _ => none }
def FnExactPartsOfWrongFalsely : Prop := fnExactPartsOfRow.holds Try.pinned (OpenSpec.ofChange fnExactPartsOfWrong)

/-- 'laws.FnNearOf': WHATEVER THE INPUT: true; the input reads as it did. -/
def fnNearOfSpec : ChangeSpec := { name := "fnNearOf", fn := fun _ => fun
  | [d] => { results := [.lit (.bool true)], args := [d] }
  | _ => none }
def fnNearOfRow : OpenClaim := { program := "ytjofekchopgfbab", sum := "2ede98ba8d7bcb34c29a93b26abfcbb2623fed7276b92b526fb95090f4ed6dab", func := "loop.example/firingnets/laws.FnNearOf", spec := "fnNearOf", apart := false }
def FnNearOfSaid : Prop := fnNearOfRow.holds Try.pinned (OpenSpec.ofChange fnNearOfSpec)

/-- ITS FALSE NEIGHBOUR: 'it returns false'. Refute it at one input. -/
def fnNearOfWrong : ChangeSpec := { name := "fnNearOf", fn := fun _ => fun
  | [d] => { results := [.lit (.bool false)], args := [d] }
  | _ => none }
def FnNearOfWrongFalsely : Prop := fnNearOfRow.holds Try.pinned (OpenSpec.ofChange fnNearOfWrong)

/- THE SECOND FORM. 'bulk': how many values and letters a reading holds, each counted each time it is reached (what is shared counts as often as it is met; a slice's spare places count too). A statement '..UptoSaid' is the law's where the arguments, and the package variables that the reading takes, are together of bulk at most 1048576: NARROWER than '..Said'. Prove '..Said' where nothing that the law and all that it calls make is longer than what came in: it says more and counts as full. Else prove '..UptoSaid'. A law counts once. -/
mutual
def uptoBulk {H : Type} : DataW H → Nat
  | .lit (.string bytes) => bytes.length + 1
  | .lit _ => 1
  | .nil => 1
  | .ptr d => uptoBulk d + 1
  | .slice elems spare => uptoBulkAll elems + uptoBulkAll spare + 1
  | .agg parts => uptoBulkAll parts + 1
  | .iface _ d => uptoBulk d + 1
  | .map entries => uptoBulkEntries entries + 1
  | .held _ => 1
def uptoBulkAll {H : Type} : List (DataW H) → Nat
  | [] => 0
  | d :: r => uptoBulk d + uptoBulkAll r
def uptoBulkEntries {H : Type} : List (Lit × DataW H) → Nat
  | [] => 0
  | x :: r => uptoBulkEntry x + uptoBulkEntries r
def uptoBulkEntry {H : Type} : Lit × DataW H → Nat
  | (.string bytes, d) => bytes.length + uptoBulk d + 1
  | (_, d) => uptoBulk d + 1
 end
def uptoSmall : (H : Type) → List (DataW H) → Bool := fun _ ds => decide (uptoBulkAll ds ≤ 1048576)
def OpenSpec.upto (s : _root_.Go.ChangeSpec) : _root_.Go.OpenSpec := { _root_.Go.OpenSpec.ofChange s with cond := some uptoSmall }

/-- 'laws.FnRaisedState', WHERE WHAT IT READS IS OF BULK AT MOST 1048576: true; the input reads as it did. -/
def fnRaisedStateUptoRow : OpenClaim := { program := "ytjofekchopgfbab", sum := "2ede98ba8d7bcb34c29a93b26abfcbb2623fed7276b92b526fb95090f4ed6dab", func := "loop.example/firingnets/laws.FnRaisedState", spec := "fnRaisedState", apart := false, narrowed := true }
def FnRaisedStateUptoSaid : Prop := fnRaisedStateUptoRow.holds Try.pinned (OpenSpec.upto fnRaisedStateSpec)

/-- 'laws.FnNetOk', WHERE WHAT IT READS IS OF BULK AT MOST 1048576: true; the input reads as it did. -/
def fnNetOkUptoRow : OpenClaim := { program := "ytjofekchopgfbab", sum := "2ede98ba8d7bcb34c29a93b26abfcbb2623fed7276b92b526fb95090f4ed6dab", func := "loop.example/firingnets/laws.FnNetOk", spec := "fnNetOk", apart := false, narrowed := true }
def FnNetOkUptoSaid : Prop := fnNetOkUptoRow.holds Try.pinned (OpenSpec.upto fnNetOkSpec)

/-- 'laws.FnExactDistancesFrom', WHERE WHAT IT READS IS OF BULK AT MOST 1048576: true; the input reads as it did. -/
def fnExactDistancesFromUptoRow : OpenClaim := { program := "ytjofekchopgfbab", sum := "2ede98ba8d7bcb34c29a93b26abfcbb2623fed7276b92b526fb95090f4ed6dab", func := "loop.example/firingnets/laws.FnExactDistancesFrom", spec := "fnExactDistancesFrom", apart := false, narrowed := true }
def FnExactDistancesFromUptoSaid : Prop := fnExactDistancesFromUptoRow.holds Try.pinned (OpenSpec.upto fnExactDistancesFromSpec)

/-- 'laws.FnCountsOf', WHERE WHAT IT READS IS OF BULK AT MOST 1048576: true; the input reads as it did. -/
def fnCountsOfUptoRow : OpenClaim := { program := "ytjofekchopgfbab", sum := "2ede98ba8d7bcb34c29a93b26abfcbb2623fed7276b92b526fb95090f4ed6dab", func := "loop.example/firingnets/laws.FnCountsOf", spec := "fnCountsOf", apart := false, narrowed := true }
def FnCountsOfUptoSaid : Prop := fnCountsOfUptoRow.holds Try.pinned (OpenSpec.upto fnCountsOfSpec)

/-- 'laws.FnExactFarthestOf', WHERE WHAT IT READS IS OF BULK AT MOST 1048576: true; the input reads as it did. -/
def fnExactFarthestOfUptoRow : OpenClaim := { program := "ytjofekchopgfbab", sum := "2ede98ba8d7bcb34c29a93b26abfcbb2623fed7276b92b526fb95090f4ed6dab", func := "loop.example/firingnets/laws.FnExactFarthestOf", spec := "fnExactFarthestOf", apart := false, narrowed := true }
def FnExactFarthestOfUptoSaid : Prop := fnExactFarthestOfUptoRow.holds Try.pinned (OpenSpec.upto fnExactFarthestOfSpec)

/-- 'laws.FnExactNamedNet', WHERE WHAT IT READS IS OF BULK AT MOST 1048576: true; the input reads as it did. -/
def fnExactNamedNetUptoRow : OpenClaim := { program := "ytjofekchopgfbab", sum := "2ede98ba8d7bcb34c29a93b26abfcbb2623fed7276b92b526fb95090f4ed6dab", func := "loop.example/firingnets/laws.FnExactNamedNet", spec := "fnExactNamedNet", apart := false, narrowed := true }
def FnExactNamedNetUptoSaid : Prop := fnExactNamedNetUptoRow.holds Try.pinned (OpenSpec.upto fnExactNamedNetSpec)

/-- 'laws.FnNumberOf', WHERE WHAT IT READS IS OF BULK AT MOST 1048576: true; the input reads as it did. -/
def fnNumberOfUptoRow : OpenClaim := { program := "ytjofekchopgfbab", sum := "2ede98ba8d7bcb34c29a93b26abfcbb2623fed7276b92b526fb95090f4ed6dab", func := "loop.example/firingnets/laws.FnNumberOf", spec := "fnNumberOf", apart := false, narrowed := true }
def FnNumberOfUptoSaid : Prop := fnNumberOfUptoRow.holds Try.pinned (OpenSpec.upto fnNumberOfSpec)

/-- 'laws.FnExactFireStep', WHERE WHAT IT READS IS OF BULK AT MOST 1048576: true; the input reads as it did. -/
def fnExactFireStepUptoRow : OpenClaim := { program := "ytjofekchopgfbab", sum := "2ede98ba8d7bcb34c29a93b26abfcbb2623fed7276b92b526fb95090f4ed6dab", func := "loop.example/firingnets/laws.FnExactFireStep", spec := "fnExactFireStep", apart := false, narrowed := true }
def FnExactFireStepUptoSaid : Prop := fnExactFireStepUptoRow.holds Try.pinned (OpenSpec.upto fnExactFireStepSpec)

/-- 'laws.FnExactPartsOf', WHERE WHAT IT READS IS OF BULK AT MOST 1048576: true; the input reads as it did. -/
def fnExactPartsOfUptoRow : OpenClaim := { program := "ytjofekchopgfbab", sum := "2ede98ba8d7bcb34c29a93b26abfcbb2623fed7276b92b526fb95090f4ed6dab", func := "loop.example/firingnets/laws.FnExactPartsOf", spec := "fnExactPartsOf", apart := false, narrowed := true }
def FnExactPartsOfUptoSaid : Prop := fnExactPartsOfUptoRow.holds Try.pinned (OpenSpec.upto fnExactPartsOfSpec)

/-- 'laws.FnNearOf', WHERE WHAT IT READS IS OF BULK AT MOST 1048576: true; the input reads as it did. -/
def fnNearOfUptoRow : OpenClaim := { program := "ytjofekchopgfbab", sum := "2ede98ba8d7bcb34c29a93b26abfcbb2623fed7276b92b526fb95090f4ed6dab", func := "loop.example/firingnets/laws.FnNearOf", spec := "fnNearOf", apart := false, narrowed := true }
def FnNearOfUptoSaid : Prop := fnNearOfUptoRow.holds Try.pinned (OpenSpec.upto fnNearOfSpec)

end Rows
end Go.Proofs.Ytjofekchopgfbab
