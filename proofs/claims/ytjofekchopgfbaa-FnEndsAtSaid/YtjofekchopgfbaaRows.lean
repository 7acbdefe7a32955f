/-
  No cell of these rows narrows 'for every input' (looked for: loops, veiled, ifaces, maps, wideKeys, modest, calm, conditions, laid).
  DERIVED. THE GIVEN ROWS OF THIS SEAT. 10 by the template 'for every input the law returns true; each argument reads behind the call as it read before'; 0 by the template 'total and deterministic' (their statements: YtjofekchopgfbaaTotals.lean).
  GIVEN WITH THE SEED: the statements are not yours to turn. If you find one false, say at which input.
  Laid BY PROGRAM, IN A SANDBOX (cutbox-rows.mjs): the forced cells as the released guide's own fill.sh prints them over the translation 507f37b62c3f631e… (all of the seat's roots in one cut). By AI agents, Wed Nov 11 2026. No macro, syntax, notation, axiom, sorry.
-/
import Derived.Test.YtjofekchopgfbaaChecked
import GoSem.Claim
import GoSem.ClaimJoined
import GoSem.ClaimMapViews
import Derived.JoinedTies
import Derived.KernelRfl
namespace Go.Proofs.Ytjofekchopgfbaa
/- THE CELL 'sum', in the pinned program and in every row, IS THE sha256 OF THE DUMP (.gsa) THAT YtjofekchopgfbaaProg.lean LOADS. Nothing in Lean hashes anything: it is a label: what it is worth is what the hold of that sum in a sandbox is worth. -/
noncomputable def Try.pinned : Pinned := { name := "ytjofekchopgfbaa", sum := "507f37b62c3f631e24ca0f38bc32ba971f7f268650bb51183a3853186bbe93f5", checked := Try.checked }
namespace Rows
def none {H : Type} : Left H := { results := [], args := [] }

/-- 'laws.FnLoopOf': WHATEVER THE INPUT: true; the input reads as it did. -/
def fnLoopOfSpec : ChangeSpec := { name := "fnLoopOf", fn := fun _ => fun
  | [d] => { results := [.lit (.bool true)], args := [d] }
  | _ => none }
def fnLoopOfRow : OpenClaim := { program := "ytjofekchopgfbaa", sum := "507f37b62c3f631e24ca0f38bc32ba971f7f268650bb51183a3853186bbe93f5", func := "loop.example/firingnets/laws.FnLoopOf", spec := "fnLoopOf", unfollowed := true, recurses := true, apart := false }
def FnLoopOfSaid : Prop := fnLoopOfRow.holds Try.pinned (OpenSpec.ofChange fnLoopOfSpec)

/-- ITS FALSE NEIGHBOUR: 'it returns false'. Refute it at one input. -/
def fnLoopOfWrong : ChangeSpec := { name := "fnLoopOf", fn := fun _ => fun
  | [d] => { results := [.lit (.bool false)], args := [d] }
  | _ => none }
def FnLoopOfWrongFalsely : Prop := fnLoopOfRow.holds Try.pinned (OpenSpec.ofChange fnLoopOfWrong)

/-- 'laws.FnStateOk': WHATEVER THE INPUT: true; the input reads as it did. -/
def fnStateOkSpec : ChangeSpec := { name := "fnStateOk", fn := fun _ => fun
  | [d] => { results := [.lit (.bool true)], args := [d] }
  | _ => none }
def fnStateOkRow : OpenClaim := { program := "ytjofekchopgfbaa", sum := "507f37b62c3f631e24ca0f38bc32ba971f7f268650bb51183a3853186bbe93f5", func := "loop.example/firingnets/laws.FnStateOk", spec := "fnStateOk", apart := false }
def FnStateOkSaid : Prop := fnStateOkRow.holds Try.pinned (OpenSpec.ofChange fnStateOkSpec)

/-- ITS FALSE NEIGHBOUR: 'it returns false'. Refute it at one input. -/
def fnStateOkWrong : ChangeSpec := { name := "fnStateOk", fn := fun _ => fun
  | [d] => { results := [.lit (.bool false)], args := [d] }
  | _ => none }
def FnStateOkWrongFalsely : Prop := fnStateOkRow.holds Try.pinned (OpenSpec.ofChange fnStateOkWrong)

/-- 'laws.FnLitState': WHATEVER THE INPUT: true; the input reads as it did. -/
def fnLitStateSpec : ChangeSpec := { name := "fnLitState", fn := fun _ => fun
  | [d] => { results := [.lit (.bool true)], args := [d] }
  | _ => none }
def fnLitStateRow : OpenClaim := { program := "ytjofekchopgfbaa", sum := "507f37b62c3f631e24ca0f38bc32ba971f7f268650bb51183a3853186bbe93f5", func := "loop.example/firingnets/laws.FnLitState", spec := "fnLitState", apart := false }
def FnLitStateSaid : Prop := fnLitStateRow.holds Try.pinned (OpenSpec.ofChange fnLitStateSpec)

/-- ITS FALSE NEIGHBOUR: 'it returns false'. Refute it at one input. -/
def fnLitStateWrong : ChangeSpec := { name := "fnLitState", fn := fun _ => fun
  | [d] => { results := [.lit (.bool false)], args := [d] }
  | _ => none }
def FnLitStateWrongFalsely : Prop := fnLitStateRow.holds Try.pinned (OpenSpec.ofChange fnLitStateWrong)

/-- 'laws.FnRingNet': WHATEVER THE INPUT: true; the input reads as it did. -/
def fnRingNetSpec : ChangeSpec := { name := "fnRingNet", fn := fun _ => fun
  | [d] => { results := [.lit (.bool true)], args := [d] }
  | _ => none }
def fnRingNetRow : OpenClaim := { program := "ytjofekchopgfbaa", sum := "507f37b62c3f631e24ca0f38bc32ba971f7f268650bb51183a3853186bbe93f5", func := "loop.example/firingnets/laws.FnRingNet", spec := "fnRingNet", apart := false }
def FnRingNetSaid : Prop := fnRingNetRow.holds Try.pinned (OpenSpec.ofChange fnRingNetSpec)

/-- ITS FALSE NEIGHBOUR: 'it returns false'. Refute it at one input. -/
def fnRingNetWrong : ChangeSpec := { name := "fnRingNet", fn := fun _ => fun
  | [d] => { results := [.lit (.bool false)], args := [d] }
  | _ => none }
def FnRingNetWrongFalsely : Prop := fnRingNetRow.holds Try.pinned (OpenSpec.ofChange fnRingNetWrong)

/-- 'laws.FnExactJoinedNet': WHATEVER THE INPUT: true; the input reads as it did. -/
def fnExactJoinedNetSpec : ChangeSpec := { name := "fnExactJoinedNet", fn := fun _ => fun
  | [d1, d2] => { results := [.lit (.bool true)], args := [d1, d2] }
  | _ => none }
def fnExactJoinedNetRow : OpenClaim := { program := "ytjofekchopgfbaa", sum := "507f37b62c3f631e24ca0f38bc32ba971f7f268650bb51183a3853186bbe93f5", func := "loop.example/firingnets/laws.FnExactJoinedNet", spec := "fnExactJoinedNet", apart := false }
def FnExactJoinedNetSaid : Prop := fnExactJoinedNetRow.holds Try.pinned (OpenSpec.ofChange fnExactJoinedNetSpec)

/-- ITS FALSE NEIGHBOUR: 'it returns false'. Refute it at one input. -/
def fnExactJoinedNetWrong : ChangeSpec := { name := "fnExactJoinedNet", fn := fun _ => fun
  | [d1, d2] => { results := [.lit (.bool false)], args := [d1, d2] }
  | _ => none }
def FnExactJoinedNetWrongFalsely : Prop := fnExactJoinedNetRow.holds Try.pinned (OpenSpec.ofChange fnExactJoinedNetWrong)

/-- 'laws.FnPathNet': WHATEVER THE INPUT: true; the input reads as it did. -/
def fnPathNetSpec : ChangeSpec := { name := "fnPathNet", fn := fun _ => fun
  | [d] => { results := [.lit (.bool true)], args := [d] }
  | _ => none }
def fnPathNetRow : OpenClaim := { program := "ytjofekchopgfbaa", sum := "507f37b62c3f631e24ca0f38bc32ba971f7f268650bb51183a3853186bbe93f5", func := "loop.example/firingnets/laws.FnPathNet", spec := "fnPathNet", apart := false }
def FnPathNetSaid : Prop := fnPathNetRow.holds Try.pinned (OpenSpec.ofChange fnPathNetSpec)

/-- ITS FALSE NEIGHBOUR: 'it returns false'. Refute it at one input. -/
def fnPathNetWrong : ChangeSpec := { name := "fnPathNet", fn := fun _ => fun
  | [d] => { results := [.lit (.bool false)], args := [d] }
  | _ => none }
def FnPathNetWrongFalsely : Prop := fnPathNetRow.holds Try.pinned (OpenSpec.ofChange fnPathNetWrong)

/-- 'laws.FnEndsAt': WHATEVER THE INPUT: true; the input reads as it did. -/
def fnEndsAtSpec : ChangeSpec := { name := "fnEndsAt", fn := fun _ => fun
  | [d] => { results := [.lit (.bool true)], args := [d] }
  | _ => none }
def fnEndsAtRow : OpenClaim := { program := "ytjofekchopgfbaa", sum := "507f37b62c3f631e24ca0f38bc32ba971f7f268650bb51183a3853186bbe93f5", func := "loop.example/firingnets/laws.FnEndsAt", spec := "fnEndsAt", unfollowed := true, recurses := true, apart := false }
def FnEndsAtSaid : Prop := fnEndsAtRow.holds Try.pinned (OpenSpec.ofChange fnEndsAtSpec)

/-- ITS FALSE NEIGHBOUR: 'it returns false'. Refute it at one input. -/
def fnEndsAtWrong : ChangeSpec := { name := "fnEndsAt", fn := fun _ => fun
  | [d] => { results := [.lit (.bool false)], args := [d] }
  | _ => none }
def FnEndsAtWrongFalsely : Prop := fnEndsAtRow.holds Try.pinned (OpenSpec.ofChange fnEndsAtWrong)

/-- 'laws.FnExactNamedState': WHATEVER THE INPUT: true; the input reads as it did. -/
def fnExactNamedStateSpec : ChangeSpec := { name := "fnExactNamedState", fn := fun _ => fun
  | [d1, d2, d3] => { results := [.lit (.bool true)], args := [d1, d2, d3] }
  | _ => none }
def fnExactNamedStateRow : OpenClaim := { program := "ytjofekchopgfbaa", sum := "507f37b62c3f631e24ca0f38bc32ba971f7f268650bb51183a3853186bbe93f5", func := "loop.example/firingnets/laws.FnExactNamedState", spec := "fnExactNamedState", apart := false }
def FnExactNamedStateSaid : Prop := fnExactNamedStateRow.holds Try.pinned (OpenSpec.ofChange fnExactNamedStateSpec)

/-- ITS FALSE NEIGHBOUR: 'it returns false'. Refute it at one input. -/
def fnExactNamedStateWrong : ChangeSpec := { name := "fnExactNamedState", fn := fun _ => fun
  | [d1, d2, d3] => { results := [.lit (.bool false)], args := [d1, d2, d3] }
  | _ => none }
def FnExactNamedStateWrongFalsely : Prop := fnExactNamedStateRow.holds Try.pinned (OpenSpec.ofChange fnExactNamedStateWrong)

/-- 'laws.FnStateOf': WHATEVER THE INPUT: true; the input reads as it did. -/
def fnStateOfSpec : ChangeSpec := { name := "fnStateOf", fn := fun _ => fun
  | [d] => { results := [.lit (.bool true)], args := [d] }
  | _ => none }
def fnStateOfRow : OpenClaim := { program := "ytjofekchopgfbaa", sum := "507f37b62c3f631e24ca0f38bc32ba971f7f268650bb51183a3853186bbe93f5", func := "loop.example/firingnets/laws.FnStateOf", spec := "fnStateOf", apart := false }
def FnStateOfSaid : Prop := fnStateOfRow.holds Try.pinned (OpenSpec.ofChange fnStateOfSpec)

/-- ITS FALSE NEIGHBOUR: 'it returns false'. Refute it at one input. -/
def fnStateOfWrong : ChangeSpec := { name := "fnStateOf", fn := fun _ => fun
  | [d] => { results := [.lit (.bool false)], args := [d] }
  | _ => none }
def FnStateOfWrongFalsely : Prop := fnStateOfRow.holds Try.pinned (OpenSpec.ofChange fnStateOfWrong)

/-- 'laws.FnExactWiresOf': WHATEVER THE INPUT: true; the input reads as it did. -/
def fnExactWiresOfSpec : ChangeSpec := { name := "fnExactWiresOf", fn := fun _ => fun
  | [d] => { results := [.lit (.bool true)], args := [d] }
  | _ => none }
def fnExactWiresOfRow : OpenClaim := { program := "ytjofekchopgfbaa", sum := "507f37b62c3f631e24ca0f38bc32ba971f7f268650bb51183a3853186bbe93f5", func := "loop.example/firingnets/laws.FnExactWiresOf", spec := "fnExactWiresOf", apart := false }
def FnExactWiresOfSaid : Prop := fnExactWiresOfRow.holds Try.pinned (OpenSpec.ofChange fnExactWiresOfSpec)

/-- ITS FALSE NEIGHBOUR: 'it returns false'. Refute it at one input. -/
def fnExactWiresOfWrong : ChangeSpec := { name := "fnExactWiresOf", fn := fun _ => fun
  | [d] => { results := [.lit (.bool false)], args := [d] }
  | _ => none }
def FnExactWiresOfWrongFalsely : Prop := fnExactWiresOfRow.holds Try.pinned (OpenSpec.ofChange fnExactWiresOfWrong)

/- THE SECOND FORM. 'bulk': how many values and letters a reading holds, each counted each time it is reached (what is shared counts as often as it is met; a slice's spare places count too). A statement '..UptoSaid' is the law's where the arguments, and the package variables that the reading takes, are together of bulk at most 1048576: NARROWER than '..Said'. Prove '..Said' where nothing that the law and all that it calls make is longer than what came in: it says more and counts as full. Else prove '..UptoSaid'. A law counts once. -/
mutual
def uptoBulk {H : Type} : DataW H → Nat
  | .lit (.string bytes) => bytes.length + 1
  | .lit _ => 1
  | .nil => 1
  | .ptr d => uptoBulk d + 1
  | .slice elems spare => uptoBulkAll elems + uptoBulkAll spare + 1
  | .agg parts => uptoBulkAll parts + 1
  | .iface _ d => uptoBulk d + 1
  | .map entries => uptoBulkEntries entries + 1
  | .held _ => 1
def uptoBulkAll {H : Type} : List (DataW H) → Nat
  | [] => 0
  | d :: r => uptoBulk d + uptoBulkAll r
def uptoBulkEntries {H : Type} : List (Lit × DataW H) → Nat
  | [] => 0
  | x :: r => uptoBulkEntry x + uptoBulkEntries r
def uptoBulkEntry {H : Type} : Lit × DataW H → Nat
  | (.string bytes, d) => bytes.length + uptoBulk d + 1
  | (_, d) => uptoBulk d + 1
 end
def uptoSmall : (H : Type) → List (DataW H) → Bool := fun _ ds => decide (uptoBulkAll ds ≤ 1048576)
def OpenSpec.upto (s : _root_.Go.ChangeSpec) : _root_.Go.OpenSpec := { _root_.Go.OpenSpec.ofChange s with cond := some uptoSmall }

/-- 'laws.FnLoopOf', WHERE WHAT IT READS IS OF BULK AT MOST 1048576: true; the input reads as it did. -/
def fnLoopOfUptoRow : OpenClaim := { program := "ytjofekchopgfbaa", sum := "507f37b62c3f631e24ca0f38bc32ba971f7f268650bb51183a3853186bbe93f5", func := "loop.example/firingnets/laws.FnLoopOf", spec := "fnLoopOf", unfollowed := true, recurses := true, apart := false, narrowed := true }
def FnLoopOfUptoSaid : Prop := fnLoopOfUptoRow.holds Try.pinned (OpenSpec.upto fnLoopOfSpec)

/-- 'laws.FnStateOk', WHERE WHAT IT READS IS OF BULK AT MOST 1048576: true; the input reads as it did. -/
def fnStateOkUptoRow : OpenClaim := { program := "ytjofekchopgfbaa", sum := "507f37b62c3f631e24ca0f38bc32ba971f7f268650bb51183a3853186bbe93f5", func := "loop.example/firingnets/laws.FnStateOk", spec := "fnStateOk", apart := false, narrowed := true }
def FnStateOkUptoSaid : Prop := fnStateOkUptoRow.holds Try.pinned (OpenSpec.upto fnStateOkSpec)

/-- 'laws.FnLitState', WHERE WHAT IT READS IS OF BULK AT MOST 1048576: true; the input reads as it did. -/
def fnLitStateUptoRow : OpenClaim := { program := "ytjofekchopgfbaa", sum := "507f37b62c3f631e24ca0f38bc32ba971f7f268650bb51183a3853186bbe93f5", func := "loop.example/firingnets/laws.FnLitState", spec := "fnLitState", apart := false, narrowed := true }
def FnLitStateUptoSaid : Prop := fnLitStateUptoRow.holds Try.pinned (OpenSpec.upto fnLitStateSpec)

/-- 'laws.FnRingNet', WHERE WHAT IT READS IS OF BULK AT MOST 1048576: true; the input reads as it did. -/
def fnRingNetUptoRow : OpenClaim := { program := "ytjofekchopgfbaa", sum := "507f37b62c3f631e24ca0f38bc32ba971f7f268650bb51183a3853186bbe93f5", func := "loop.example/firingnets/laws.FnRingNet", spec := "fnRingNet", apart := false, narrowed := true }
def FnRingNetUptoSaid : Prop := fnRingNetUptoRow.holds Try.pinned (OpenSpec.upto fnRingNetSpec)

/-- 'laws.FnExactJoinedNet', WHERE WHAT IT READS IS OF BULK AT MOST 1048576: true; the input reads as it did. -/
def fnExactJoinedNetUptoRow : OpenClaim := { program := "ytjofekchopgfbaa", sum := "507f37b62c3f631e24ca0f38bc32ba971f7f268650bb51183a3853186bbe93f5", func := "loop.example/firingnets/laws.FnExactJoinedNet", spec := "fnExactJoinedNet", apart := false, narrowed := true }
def FnExactJoinedNetUptoSaid : Prop := fnExactJoinedNetUptoRow.holds Try.pinned (OpenSpec.upto fnExactJoinedNetSpec)

/-- 'laws.FnPathNet', WHERE WHAT IT READS IS OF BULK AT MOST 1048576: true; the input reads as it did. -/
def fnPathNetUptoRow : OpenClaim := { program := "ytjofekchopgfbaa", sum := "507f37b62c3f631e24ca0f38bc32ba971f7f268650bb51183a3853186bbe93f5", func := "loop.example/firingnets/laws.FnPathNet", spec := "fnPathNet", apart := false, narrowed := true }
def FnPathNetUptoSaid : Prop := fnPathNetUptoRow.holds Try.pinned (OpenSpec.upto fnPathNetSpec)

/-- 'laws.FnEndsAt', WHERE WHAT IT READS IS OF BULK AT MOST 1048576: true; the input reads as it did. -/
def fnEndsAtUptoRow : OpenClaim := { program := "ytjofekchopgfbaa", sum := "507f37b62c3f631e24ca0f38bc32ba971f7f268650bb51183a3853186bbe93f5", func := "loop.example/firingnets/laws.FnEndsAt", spec := "fnEndsAt", unfollowed := true, recurses := true, apart := false, narrowed := true }
def FnEndsAtUptoSaid : Prop := fnEndsAtUptoRow.holds Try.pinned (OpenSpec.upto fnEndsAtSpec)

/-- 'laws.FnExactNamedState', WHERE WHAT IT READS IS OF BULK AT MOST 1048576: true; the input reads as it did. -/
def fnExactNamedStateUptoRow : OpenClaim := { program := "ytjofekchopgfbaa", sum := "507f37b62c3f631e24ca0f38bc32ba971f7f268650bb51183a3853186bbe93f5", func := "loop.example/firingnets/laws.FnExactNamedState", spec := "fnExactNamedState", apart := false, narrowed := true }
def FnExactNamedStateUptoSaid : Prop := fnExactNamedStateUptoRow.holds Try.pinned (OpenSpec.upto fnExactNamedStateSpec)

/-- 'laws.FnStateOf', WHERE WHAT IT READS IS OF BULK AT MOST 1048576: true; the input reads as it did. -/
def fnStateOfUptoRow : OpenClaim := { program := "ytjofekchopgfbaa", sum := "507f37b62c3f631e24ca0f38bc32ba971f7f268650bb51183a3853186bbe93f5", func := "loop.example/firingnets/laws.FnStateOf", spec := "fnStateOf", apart := false, narrowed := true }
def FnStateOfUptoSaid : Prop := fnStateOfUptoRow.holds Try.pinned (OpenSpec.upto fnStateOfSpec)

/-- 'laws.FnExactWiresOf', WHERE WHAT IT READS IS OF BULK AT MOST 1048576: true; the input reads as it did. -/
def fnExactWiresOfUptoRow : OpenClaim := { program := "ytjofekchopgfbaa", sum := "507f37b62c3f631e24ca0f38bc32ba971f7f268650bb51183a3853186bbe93f5", func := "loop.example/firingnets/laws.FnExactWiresOf", spec := "fnExactWiresOf", apart := false, narrowed := true }
def FnExactWiresOfUptoSaid : Prop := fnExactWiresOfUptoRow.holds Try.pinned (OpenSpec.upto fnExactWiresOfSpec)

end Rows
end Go.Proofs.Ytjofekchopgfbaa
