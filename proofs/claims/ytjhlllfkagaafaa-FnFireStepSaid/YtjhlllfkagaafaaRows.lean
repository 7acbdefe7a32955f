/-
  No cell of these rows narrows 'for every input' (looked for: loops, veiled, ifaces, maps, wideKeys, modest, calm, conditions, laid).
  DERIVED. THE GIVEN ROWS OF THIS SEAT. 12 by the template 'for every input the law returns true; each argument reads behind the call as it read before'; 0 by the template 'total and deterministic' (their statements: YtjhlllfkagaafaaTotals.lean).
  GIVEN WITH THE SEED: the statements are not yours to turn. If you find one false, say at which input.
  Laid BY PROGRAM, IN A SANDBOX (cutbox-rows.mjs): the forced cells as the released guide's own fill.sh prints them over the translation 2757d19962351a27… (all of the seat's roots in one cut). By AI agents, Wed Nov 11 2026. No macro, syntax, notation, axiom, sorry.
-/
import Derived.Test.YtjhlllfkagaafaaChecked
import GoSem.Claim
import GoSem.ClaimJoined
import GoSem.ClaimMapViews
import Derived.JoinedTies
import Derived.KernelRfl
namespace Go.Proofs.Ytjhlllfkagaafaa
/- THE CELL 'sum', in the pinned program and in every row, IS THE sha256 OF THE DUMP (.gsa) THAT YtjhlllfkagaafaaProg.lean LOADS. Nothing in Lean hashes anything: it is a label: what it is worth is what the hold of that sum in a sandbox is worth. -/
noncomputable def Try.pinned : Pinned := { name := "ytjhlllfkagaafaa", sum := "2757d19962351a27d277d05d14e645086597bc5178ec262a5ab2b7e37d592f18", checked := Try.checked }
namespace Rows
def none {H : Type} : Left H := { results := [], args := [] }

/-- 'laws.FnExactConstants': WHATEVER THE INPUT: true; the input reads as it did. -/
def fnExactConstantsSpec : ChangeSpec := { name := "fnExactConstants", fn := fun _ => fun
  | [] => { results := [.lit (.bool true)], args := [] }
  | _ => none }
def fnExactConstantsRow : OpenClaim := { program := "ytjhlllfkagaafaa", sum := "2757d19962351a27d277d05d14e645086597bc5178ec262a5ab2b7e37d592f18", func := "loop.example/firingnets/laws.FnExactConstants", spec := "fnExactConstants", apart := false }
def FnExactConstantsSaid : Prop := fnExactConstantsRow.holds Try.pinned (OpenSpec.ofChange fnExactConstantsSpec)

/-- ITS FALSE NEIGHBOUR: 'it returns false'. Refute it at one input. -/
def fnExactConstantsWrong : ChangeSpec := { name := "fnExactConstants", fn := fun _ => fun
  | [] => { results := [.lit (.bool false)], args := [] }
  | _ => none }
def FnExactConstantsWrongFalsely : Prop := fnExactConstantsRow.holds Try.pinned (OpenSpec.ofChange fnExactConstantsWrong)

/-- 'laws.FnExactStateOk': WHATEVER THE INPUT: true; the input reads as it did. -/
def fnExactStateOkSpec : ChangeSpec := { name := "fnExactStateOk", fn := fun _ => fun
  | [d1, d2] => { results := [.lit (.bool true)], args := [d1, d2] }
  | _ => none }
def fnExactStateOkRow : OpenClaim := { program := "ytjhlllfkagaafaa", sum := "2757d19962351a27d277d05d14e645086597bc5178ec262a5ab2b7e37d592f18", func := "loop.example/firingnets/laws.FnExactStateOk", spec := "fnExactStateOk", apart := false }
def FnExactStateOkSaid : Prop := fnExactStateOkRow.holds Try.pinned (OpenSpec.ofChange fnExactStateOkSpec)

/-- ITS FALSE NEIGHBOUR: 'it returns false'. Refute it at one input. -/
def fnExactStateOkWrong : ChangeSpec := { name := "fnExactStateOk", fn := fun _ => fun
  | [d1, d2] => { results := [.lit (.bool false)], args := [d1, d2] }
  | _ => none }
def FnExactStateOkWrongFalsely : Prop := fnExactStateOkRow.holds Try.pinned (OpenSpec.ofChange fnExactStateOkWrong)

/-- 'laws.FnExactLitState': WHATEVER THE INPUT: true; the input reads as it did. -/
def fnExactLitStateSpec : ChangeSpec := { name := "fnExactLitState", fn := fun _ => fun
  | [d1, d2] => { results := [.lit (.bool true)], args := [d1, d2] }
  | _ => none }
def fnExactLitStateRow : OpenClaim := { program := "ytjhlllfkagaafaa", sum := "2757d19962351a27d277d05d14e645086597bc5178ec262a5ab2b7e37d592f18", func := "loop.example/firingnets/laws.FnExactLitState", spec := "fnExactLitState", apart := false }
def FnExactLitStateSaid : Prop := fnExactLitStateRow.holds Try.pinned (OpenSpec.ofChange fnExactLitStateSpec)

/-- ITS FALSE NEIGHBOUR: 'it returns false'. Refute it at one input. -/
def fnExactLitStateWrong : ChangeSpec := { name := "fnExactLitState", fn := fun _ => fun
  | [d1, d2] => { results := [.lit (.bool false)], args := [d1, d2] }
  | _ => none }
def FnExactLitStateWrongFalsely : Prop := fnExactLitStateRow.holds Try.pinned (OpenSpec.ofChange fnExactLitStateWrong)

/-- 'laws.FnExactRingNet': WHATEVER THE INPUT: true; the input reads as it did. -/
def fnExactRingNetSpec : ChangeSpec := { name := "fnExactRingNet", fn := fun _ => fun
  | [d] => { results := [.lit (.bool true)], args := [d] }
  | _ => none }
def fnExactRingNetRow : OpenClaim := { program := "ytjhlllfkagaafaa", sum := "2757d19962351a27d277d05d14e645086597bc5178ec262a5ab2b7e37d592f18", func := "loop.example/firingnets/laws.FnExactRingNet", spec := "fnExactRingNet", apart := false }
def FnExactRingNetSaid : Prop := fnExactRingNetRow.holds Try.pinned (OpenSpec.ofChange fnExactRingNetSpec)

/-- ITS FALSE NEIGHBOUR: 'it returns false'. Refute it at one input. -/
def fnExactRingNetWrong : ChangeSpec := { name := "fnExactRingNet", fn := fun _ => fun
  | [d] => { results := [.lit (.bool false)], args := [d] }
  | _ => none }
def FnExactRingNetWrongFalsely : Prop := fnExactRingNetRow.holds Try.pinned (OpenSpec.ofChange fnExactRingNetWrong)

/-- 'laws.FnExactNetOk': WHATEVER THE INPUT: true; the input reads as it did. -/
def fnExactNetOkSpec : ChangeSpec := { name := "fnExactNetOk", fn := fun _ => fun
  | [d] => { results := [.lit (.bool true)], args := [d] }
  | _ => none }
def fnExactNetOkRow : OpenClaim := { program := "ytjhlllfkagaafaa", sum := "2757d19962351a27d277d05d14e645086597bc5178ec262a5ab2b7e37d592f18", func := "loop.example/firingnets/laws.FnExactNetOk", spec := "fnExactNetOk", apart := false }
def FnExactNetOkSaid : Prop := fnExactNetOkRow.holds Try.pinned (OpenSpec.ofChange fnExactNetOkSpec)

/-- ITS FALSE NEIGHBOUR: 'it returns false'. Refute it at one input. -/
def fnExactNetOkWrong : ChangeSpec := { name := "fnExactNetOk", fn := fun _ => fun
  | [d] => { results := [.lit (.bool false)], args := [d] }
  | _ => none }
def FnExactNetOkWrongFalsely : Prop := fnExactNetOkRow.holds Try.pinned (OpenSpec.ofChange fnExactNetOkWrong)

/-- 'laws.FnFireStep': WHATEVER THE INPUT: true; the input reads as it did. -/
def fnFireStepSpec : ChangeSpec := { name := "fnFireStep", fn := fun _ => fun
  | [d1, d2] => { results := [.lit (.bool true)], args := [d1, d2] }
  | _ => none }
def fnFireStepRow : OpenClaim := { program := "ytjhlllfkagaafaa", sum := "2757d19962351a27d277d05d14e645086597bc5178ec262a5ab2b7e37d592f18", func := "loop.example/firingnets/laws.FnFireStep", spec := "fnFireStep", apart := false }
def FnFireStepSaid : Prop := fnFireStepRow.holds Try.pinned (OpenSpec.ofChange fnFireStepSpec)

/-- ITS FALSE NEIGHBOUR: 'it returns false'. Refute it at one input. -/
def fnFireStepWrong : ChangeSpec := { name := "fnFireStep", fn := fun _ => fun
  | [d1, d2] => { results := [.lit (.bool false)], args := [d1, d2] }
  | _ => none }
def FnFireStepWrongFalsely : Prop := fnFireStepRow.holds Try.pinned (OpenSpec.ofChange fnFireStepWrong)

/-- 'laws.FnExactPathNet': WHATEVER THE INPUT: true; the input reads as it did. -/
def fnExactPathNetSpec : ChangeSpec := { name := "fnExactPathNet", fn := fun _ => fun
  | [d] => { results := [.lit (.bool true)], args := [d] }
  | _ => none }
def fnExactPathNetRow : OpenClaim := { program := "ytjhlllfkagaafaa", sum := "2757d19962351a27d277d05d14e645086597bc5178ec262a5ab2b7e37d592f18", func := "loop.example/firingnets/laws.FnExactPathNet", spec := "fnExactPathNet", apart := false }
def FnExactPathNetSaid : Prop := fnExactPathNetRow.holds Try.pinned (OpenSpec.ofChange fnExactPathNetSpec)

/-- ITS FALSE NEIGHBOUR: 'it returns false'. Refute it at one input. -/
def fnExactPathNetWrong : ChangeSpec := { name := "fnExactPathNet", fn := fun _ => fun
  | [d] => { results := [.lit (.bool false)], args := [d] }
  | _ => none }
def FnExactPathNetWrongFalsely : Prop := fnExactPathNetRow.holds Try.pinned (OpenSpec.ofChange fnExactPathNetWrong)

/-- 'laws.FnExactNumberOf': WHATEVER THE INPUT: true; the input reads as it did. -/
def fnExactNumberOfSpec : ChangeSpec := { name := "fnExactNumberOf", fn := fun _ => fun
  | [d1, d2] => { results := [.lit (.bool true)], args := [d1, d2] }
  | _ => none }
def fnExactNumberOfRow : OpenClaim := { program := "ytjhlllfkagaafaa", sum := "2757d19962351a27d277d05d14e645086597bc5178ec262a5ab2b7e37d592f18", func := "loop.example/firingnets/laws.FnExactNumberOf", spec := "fnExactNumberOf", apart := false }
def FnExactNumberOfSaid : Prop := fnExactNumberOfRow.holds Try.pinned (OpenSpec.ofChange fnExactNumberOfSpec)

/-- ITS FALSE NEIGHBOUR: 'it returns false'. Refute it at one input. -/
def fnExactNumberOfWrong : ChangeSpec := { name := "fnExactNumberOf", fn := fun _ => fun
  | [d1, d2] => { results := [.lit (.bool false)], args := [d1, d2] }
  | _ => none }
def FnExactNumberOfWrongFalsely : Prop := fnExactNumberOfRow.holds Try.pinned (OpenSpec.ofChange fnExactNumberOfWrong)

/-- 'laws.FnExactStateOf': WHATEVER THE INPUT: true; the input reads as it did. -/
def fnExactStateOfSpec : ChangeSpec := { name := "fnExactStateOf", fn := fun _ => fun
  | [d1, d2, d3] => { results := [.lit (.bool true)], args := [d1, d2, d3] }
  | _ => none }
def fnExactStateOfRow : OpenClaim := { program := "ytjhlllfkagaafaa", sum := "2757d19962351a27d277d05d14e645086597bc5178ec262a5ab2b7e37d592f18", func := "loop.example/firingnets/laws.FnExactStateOf", spec := "fnExactStateOf", apart := false }
def FnExactStateOfSaid : Prop := fnExactStateOfRow.holds Try.pinned (OpenSpec.ofChange fnExactStateOfSpec)

/-- ITS FALSE NEIGHBOUR: 'it returns false'. Refute it at one input. -/
def fnExactStateOfWrong : ChangeSpec := { name := "fnExactStateOf", fn := fun _ => fun
  | [d1, d2, d3] => { results := [.lit (.bool false)], args := [d1, d2, d3] }
  | _ => none }
def FnExactStateOfWrongFalsely : Prop := fnExactStateOfRow.holds Try.pinned (OpenSpec.ofChange fnExactStateOfWrong)

/-- 'laws.FnExactRaisedState': WHATEVER THE INPUT: true; the input reads as it did. -/
def fnExactRaisedStateSpec : ChangeSpec := { name := "fnExactRaisedState", fn := fun _ => fun
  | [d1, d2] => { results := [.lit (.bool true)], args := [d1, d2] }
  | _ => none }
def fnExactRaisedStateRow : OpenClaim := { program := "ytjhlllfkagaafaa", sum := "2757d19962351a27d277d05d14e645086597bc5178ec262a5ab2b7e37d592f18", func := "loop.example/firingnets/laws.FnExactRaisedState", spec := "fnExactRaisedState", apart := false }
def FnExactRaisedStateSaid : Prop := fnExactRaisedStateRow.holds Try.pinned (OpenSpec.ofChange fnExactRaisedStateSpec)

/-- ITS FALSE NEIGHBOUR: 'it returns false'. Refute it at one input. -/
def fnExactRaisedStateWrong : ChangeSpec := { name := "fnExactRaisedState", fn := fun _ => fun
  | [d1, d2] => { results := [.lit (.bool false)], args := [d1, d2] }
  | _ => none }
def FnExactRaisedStateWrongFalsely : Prop := fnExactRaisedStateRow.holds Try.pinned (OpenSpec.ofChange fnExactRaisedStateWrong)

/-- 'laws.FnExactCountsOf': WHATEVER THE INPUT: true; the input reads as it did. -/
def fnExactCountsOfSpec : ChangeSpec := { name := "fnExactCountsOf", fn := fun _ => fun
  | [d1, d2] => { results := [.lit (.bool true)], args := [d1, d2] }
  | _ => none }
def fnExactCountsOfRow : OpenClaim := { program := "ytjhlllfkagaafaa", sum := "2757d19962351a27d277d05d14e645086597bc5178ec262a5ab2b7e37d592f18", func := "loop.example/firingnets/laws.FnExactCountsOf", spec := "fnExactCountsOf", apart := false }
def FnExactCountsOfSaid : Prop := fnExactCountsOfRow.holds Try.pinned (OpenSpec.ofChange fnExactCountsOfSpec)

/-- ITS FALSE NEIGHBOUR: 'it returns false'. Refute it at one input. -/
def fnExactCountsOfWrong : ChangeSpec := { name := "fnExactCountsOf", fn := fun _ => fun
  | [d1, d2] => { results := [.lit (.bool false)], args := [d1, d2] }
  | _ => none }
def FnExactCountsOfWrongFalsely : Prop := fnExactCountsOfRow.holds Try.pinned (OpenSpec.ofChange fnExactCountsOfWrong)

/-- 'laws.FnExactNearOf': WHATEVER THE INPUT: true; the input reads as it did. -/
def fnExactNearOfSpec : ChangeSpec := { name := "fnExactNearOf", fn := fun _ => fun
  | [d1, d2] => { results := [.lit (.bool true)], args := [d1, d2] }
  | _ => none }
def fnExactNearOfRow : OpenClaim := { program := "ytjhlllfkagaafaa", sum := "2757d19962351a27d277d05d14e645086597bc5178ec262a5ab2b7e37d592f18", func := "loop.example/firingnets/laws.FnExactNearOf", spec := "fnExactNearOf", apart := false }
def FnExactNearOfSaid : Prop := fnExactNearOfRow.holds Try.pinned (OpenSpec.ofChange fnExactNearOfSpec)

/-- ITS FALSE NEIGHBOUR: 'it returns false'. Refute it at one input. -/
def fnExactNearOfWrong : ChangeSpec := { name := "fnExactNearOf", fn := fun _ => fun
  | [d1, d2] => { results := [.lit (.bool false)], args := [d1, d2] }
  | _ => none }
def FnExactNearOfWrongFalsely : Prop := fnExactNearOfRow.holds Try.pinned (OpenSpec.ofChange fnExactNearOfWrong)

/- THE SECOND FORM. 'bulk': how many values and letters a reading holds, each counted each time it is reached (what is shared counts as often as it is met; a slice's spare places count too). A statement '..UptoSaid' is the law's where the arguments, and the package variables that the reading takes, are together of bulk at most 1048576: NARROWER than '..Said'. Prove '..Said' where nothing that the law and all that it calls make is longer than what came in: it says more and counts as full. Else prove '..UptoSaid'. A law counts once. -/
mutual
def uptoBulk {H : Type} : DataW H → Nat
  | .lit (.string bytes) => bytes.length + 1
  | .lit _ => 1
  | .nil => 1
  | .ptr d => uptoBulk d + 1
  | .slice elems spare => uptoBulkAll elems + uptoBulkAll spare + 1
  | .agg parts => uptoBulkAll parts + 1
  | .iface _ d => uptoBulk d + 1
  | .map entries => uptoBulkEntries entries + 1
  | .held _ => 1
def uptoBulkAll {H : Type} : List (DataW H) → Nat
  | [] => 0
  | d :: r => uptoBulk d + uptoBulkAll r
def uptoBulkEntries {H : Type} : List (Lit × DataW H) → Nat
  | [] => 0
  | x :: r => uptoBulkEntry x + uptoBulkEntries r
def uptoBulkEntry {H : Type} : Lit × DataW H → Nat
  | (.string bytes, d) => bytes.length + uptoBulk d + 1
  | (_, d) => uptoBulk d + 1
 end
def uptoSmall : (H : Type) → List (DataW H) → Bool := fun _ ds => decide (uptoBulkAll ds ≤ 1048576)
def OpenSpec.upto (s : _root_.Go.ChangeSpec) : _root_.Go.OpenSpec := { _root_.Go.OpenSpec.ofChange s with cond := some uptoSmall }

/-- 'laws.FnExactConstants', WHERE WHAT IT READS IS OF BULK AT MOST 1048576: true; the input reads as it did. -/
def fnExactConstantsUptoRow : OpenClaim := { program := "ytjhlllfkagaafaa", sum := "2757d19962351a27d277d05d14e645086597bc5178ec262a5ab2b7e37d592f18", func := "loop.example/firingnets/laws.FnExactConstants", spec := "fnExactConstants", apart := false, narrowed := true }
def FnExactConstantsUptoSaid : Prop := fnExactConstantsUptoRow.holds Try.pinned (OpenSpec.upto fnExactConstantsSpec)

/-- 'laws.FnExactStateOk', WHERE WHAT IT READS IS OF BULK AT MOST 1048576: true; the input reads as it did. -/
def fnExactStateOkUptoRow : OpenClaim := { program := "ytjhlllfkagaafaa", sum := "2757d19962351a27d277d05d14e645086597bc5178ec262a5ab2b7e37d592f18", func := "loop.example/firingnets/laws.FnExactStateOk", spec := "fnExactStateOk", apart := false, narrowed := true }
def FnExactStateOkUptoSaid : Prop := fnExactStateOkUptoRow.holds Try.pinned (OpenSpec.upto fnExactStateOkSpec)

/-- 'laws.FnExactLitState', WHERE WHAT IT READS IS OF BULK AT MOST 1048576: true; the input reads as it did. -/
def fnExactLitStateUptoRow : OpenClaim := { program := "ytjhlllfkagaafaa", sum := "2757d19962351a27d277d05d14e645086597bc5178ec262a5ab2b7e37d592f18", func := "loop.example/firingnets/laws.FnExactLitState", spec := "fnExactLitState", apart := false, narrowed := true }
def FnExactLitStateUptoSaid : Prop := fnExactLitStateUptoRow.holds Try.pinned (OpenSpec.upto fnExactLitStateSpec)

/-- 'laws.FnExactRingNet', WHERE WHAT IT READS IS OF BULK AT MOST 1048576: true; the input reads as it did. -/
def fnExactRingNetUptoRow : OpenClaim := { program := "ytjhlllfkagaafaa", sum := "2757d19962351a27d277d05d14e645086597bc5178ec262a5ab2b7e37d592f18", func := "loop.example/firingnets/laws.FnExactRingNet", spec := "fnExactRingNet", apart := false, narrowed := true }
def FnExactRingNetUptoSaid : Prop := fnExactRingNetUptoRow.holds Try.pinned (OpenSpec.upto fnExactRingNetSpec)

/-- 'laws.FnExactNetOk', WHERE WHAT IT READS IS OF BULK AT MOST 1048576: true; the input reads as it did. -/
def fnExactNetOkUptoRow : OpenClaim := { program := "ytjhlllfkagaafaa", sum := "2757d19962351a27d277d05d14e645086597bc5178ec262a5ab2b7e37d592f18", func := "loop.example/firingnets/laws.FnExactNetOk", spec := "fnExactNetOk", apart := false, narrowed := true }
def FnExactNetOkUptoSaid : Prop := fnExactNetOkUptoRow.holds Try.pinned (OpenSpec.upto fnExactNetOkSpec)

/-- 'laws.FnFireStep', WHERE WHAT IT READS IS OF BULK AT MOST 1048576: true; the input reads as it did. -/
def fnFireStepUptoRow : OpenClaim := { program := "ytjhlllfkagaafaa", sum := "2757d19962351a27d277d05d14e645086597bc5178ec262a5ab2b7e37d592f18", func := "loop.example/firingnets/laws.FnFireStep", spec := "fnFireStep", apart := false, narrowed := true }
def FnFireStepUptoSaid : Prop := fnFireStepUptoRow.holds Try.pinned (OpenSpec.upto fnFireStepSpec)

/-- 'laws.FnExactPathNet', WHERE WHAT IT READS IS OF BULK AT MOST 1048576: true; the input reads as it did. -/
def fnExactPathNetUptoRow : OpenClaim := { program := "ytjhlllfkagaafaa", sum := "2757d19962351a27d277d05d14e645086597bc5178ec262a5ab2b7e37d592f18", func := "loop.example/firingnets/laws.FnExactPathNet", spec := "fnExactPathNet", apart := false, narrowed := true }
def FnExactPathNetUptoSaid : Prop := fnExactPathNetUptoRow.holds Try.pinned (OpenSpec.upto fnExactPathNetSpec)

/-- 'laws.FnExactNumberOf', WHERE WHAT IT READS IS OF BULK AT MOST 1048576: true; the input reads as it did. -/
def fnExactNumberOfUptoRow : OpenClaim := { program := "ytjhlllfkagaafaa", sum := "2757d19962351a27d277d05d14e645086597bc5178ec262a5ab2b7e37d592f18", func := "loop.example/firingnets/laws.FnExactNumberOf", spec := "fnExactNumberOf", apart := false, narrowed := true }
def FnExactNumberOfUptoSaid : Prop := fnExactNumberOfUptoRow.holds Try.pinned (OpenSpec.upto fnExactNumberOfSpec)

/-- 'laws.FnExactStateOf', WHERE WHAT IT READS IS OF BULK AT MOST 1048576: true; the input reads as it did. -/
def fnExactStateOfUptoRow : OpenClaim := { program := "ytjhlllfkagaafaa", sum := "2757d19962351a27d277d05d14e645086597bc5178ec262a5ab2b7e37d592f18", func := "loop.example/firingnets/laws.FnExactStateOf", spec := "fnExactStateOf", apart := false, narrowed := true }
def FnExactStateOfUptoSaid : Prop := fnExactStateOfUptoRow.holds Try.pinned (OpenSpec.upto fnExactStateOfSpec)

/-- 'laws.FnExactRaisedState', WHERE WHAT IT READS IS OF BULK AT MOST 1048576: true; the input reads as it did. -/
def fnExactRaisedStateUptoRow : OpenClaim := { program := "ytjhlllfkagaafaa", sum := "2757d19962351a27d277d05d14e645086597bc5178ec262a5ab2b7e37d592f18", func := "loop.example/firingnets/laws.FnExactRaisedState", spec := "fnExactRaisedState", apart := false, narrowed := true }
def FnExactRaisedStateUptoSaid : Prop := fnExactRaisedStateUptoRow.holds Try.pinned (OpenSpec.upto fnExactRaisedStateSpec)

/-- 'laws.FnExactCountsOf', WHERE WHAT IT READS IS OF BULK AT MOST 1048576: true; the input reads as it did. -/
def fnExactCountsOfUptoRow : OpenClaim := { program := "ytjhlllfkagaafaa", sum := "2757d19962351a27d277d05d14e645086597bc5178ec262a5ab2b7e37d592f18", func := "loop.example/firingnets/laws.FnExactCountsOf", spec := "fnExactCountsOf", apart := false, narrowed := true }
def FnExactCountsOfUptoSaid : Prop := fnExactCountsOfUptoRow.holds Try.pinned (OpenSpec.upto fnExactCountsOfSpec)

/-- 'laws.FnExactNearOf', WHERE WHAT IT READS IS OF BULK AT MOST 1048576: true; the input reads as it did. -/
def fnExactNearOfUptoRow : OpenClaim := { program := "ytjhlllfkagaafaa", sum := "2757d19962351a27d277d05d14e645086597bc5178ec262a5ab2b7e37d592f18", func := "loop.example/firingnets/laws.FnExactNearOf", spec := "fnExactNearOf", apart := false, narrowed := true }
def FnExactNearOfUptoSaid : Prop := fnExactNearOfUptoRow.holds Try.pinned (OpenSpec.upto fnExactNearOfSpec)

end Rows
end Go.Proofs.Ytjhlllfkagaafaa
