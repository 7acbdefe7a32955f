/-
  No cell of these rows narrows 'for every input' (looked for: loops, veiled, ifaces, maps, wideKeys, modest, calm, conditions, laid).
  DERIVED. THE GIVEN ROWS OF THIS SEAT. 10 by the template 'for every input the law returns true; each argument reads behind the call as it read before'; 0 by the template 'total and deterministic' (their statements: YtjofekchopgfbacTotals.lean).
  GIVEN WITH THE SEED: the statements are not yours to turn. If you find one false, say at which input.
  Laid BY PROGRAM, IN A SANDBOX (cutbox-rows.mjs): the forced cells as the released guide's own fill.sh prints them over the translation f48fb47da35e3dae… (all of the seat's roots in one cut). By AI agents, Wed Nov 11 2026. No macro, syntax, notation, axiom, sorry.
-/
import Derived.Test.YtjofekchopgfbacChecked
import GoSem.Claim
import GoSem.ClaimJoined
import GoSem.ClaimMapViews
import Derived.JoinedTies
import Derived.KernelRfl
namespace Go.Proofs.Ytjofekchopgfbac
/- THE CELL 'sum', in the pinned program and in every row, IS THE sha256 OF THE DUMP (.gsa) THAT YtjofekchopgfbacProg.lean LOADS. Nothing in Lean hashes anything: it is a label: what it is worth is what the hold of that sum in a sandbox is worth. -/
noncomputable def Try.pinned : Pinned := { name := "ytjofekchopgfbac", sum := "f48fb47da35e3dae05f58355400b02f5088e7d13816ba7db646bfde7bc9d0df9", checked := Try.checked }
namespace Rows
def none {H : Type} : Left H := { results := [], args := [] }

/-- 'laws.FnExactFireRun': WHATEVER THE INPUT: true; the input reads as it did. -/
def fnExactFireRunSpec : ChangeSpec := { name := "fnExactFireRun", fn := fun _ => fun
  | [d1, d2, d3, d4] => { results := [.lit (.bool true)], args := [d1, d2, d3, d4] }
  | _ => none }
def fnExactFireRunRow : OpenClaim := { program := "ytjofekchopgfbac", sum := "f48fb47da35e3dae05f58355400b02f5088e7d13816ba7db646bfde7bc9d0df9", func := "loop.example/firingnets/laws.FnExactFireRun", spec := "fnExactFireRun", apart := false }
def FnExactFireRunSaid : Prop := fnExactFireRunRow.holds Try.pinned (OpenSpec.ofChange fnExactFireRunSpec)

/-- ITS FALSE NEIGHBOUR: 'it returns false'. Refute it at one input. -/
def fnExactFireRunWrong : ChangeSpec := { name := "fnExactFireRun", fn := fun _ => fun
  | [d1, d2, d3, d4] => { results := [.lit (.bool false)], args := [d1, d2, d3, d4] }
  | _ => none }
def FnExactFireRunWrongFalsely : Prop := fnExactFireRunRow.holds Try.pinned (OpenSpec.ofChange fnExactFireRunWrong)

/-- 'laws.FnExactArrivalRow': WHATEVER THE INPUT: true; the input reads as it did. -/
def fnExactArrivalRowSpec : ChangeSpec := { name := "fnExactArrivalRow", fn := fun _ => fun
  | [d1, d2, d3] => { results := [.lit (.bool true)], args := [d1, d2, d3] }
  | _ => none }
def fnExactArrivalRowRow : OpenClaim := { program := "ytjofekchopgfbac", sum := "f48fb47da35e3dae05f58355400b02f5088e7d13816ba7db646bfde7bc9d0df9", func := "loop.example/firingnets/laws.FnExactArrivalRow", spec := "fnExactArrivalRow", apart := false }
def FnExactArrivalRowSaid : Prop := fnExactArrivalRowRow.holds Try.pinned (OpenSpec.ofChange fnExactArrivalRowSpec)

/-- ITS FALSE NEIGHBOUR: 'it returns false'. Refute it at one input. -/
def fnExactArrivalRowWrong : ChangeSpec := { name := "fnExactArrivalRow", fn := fun _ => fun
  | [d1, d2, d3] => { results := [.lit (.bool false)], args := [d1, d2, d3] }
  | _ => none }
def FnExactArrivalRowWrongFalsely : Prop := fnExactArrivalRowRow.holds Try.pinned (OpenSpec.ofChange fnExactArrivalRowWrong)

/-- 'laws.FnExactLoopOf': WHATEVER THE INPUT: true; the input reads as it did. -/
def fnExactLoopOfSpec : ChangeSpec := { name := "fnExactLoopOf", fn := fun _ => fun
  | [d1, d2, d3] => { results := [.lit (.bool true)], args := [d1, d2, d3] }
  | _ => none }
def fnExactLoopOfRow : OpenClaim := { program := "ytjofekchopgfbac", sum := "f48fb47da35e3dae05f58355400b02f5088e7d13816ba7db646bfde7bc9d0df9", func := "loop.example/firingnets/laws.FnExactLoopOf", spec := "fnExactLoopOf", unfollowed := true, recurses := true, apart := false }
def FnExactLoopOfSaid : Prop := fnExactLoopOfRow.holds Try.pinned (OpenSpec.ofChange fnExactLoopOfSpec)

/-- ITS FALSE NEIGHBOUR: 'it returns false'. Refute it at one input. -/
def fnExactLoopOfWrong : ChangeSpec := { name := "fnExactLoopOf", fn := fun _ => fun
  | [d1, d2, d3] => { results := [.lit (.bool false)], args := [d1, d2, d3] }
  | _ => none }
def FnExactLoopOfWrongFalsely : Prop := fnExactLoopOfRow.holds Try.pinned (OpenSpec.ofChange fnExactLoopOfWrong)

/-- 'laws.FnNamedState': WHATEVER THE INPUT: true; the input reads as it did. -/
def fnNamedStateSpec : ChangeSpec := { name := "fnNamedState", fn := fun _ => fun
  | [d] => { results := [.lit (.bool true)], args := [d] }
  | _ => none }
def fnNamedStateRow : OpenClaim := { program := "ytjofekchopgfbac", sum := "f48fb47da35e3dae05f58355400b02f5088e7d13816ba7db646bfde7bc9d0df9", func := "loop.example/firingnets/laws.FnNamedState", spec := "fnNamedState", apart := false }
def FnNamedStateSaid : Prop := fnNamedStateRow.holds Try.pinned (OpenSpec.ofChange fnNamedStateSpec)

/-- ITS FALSE NEIGHBOUR: 'it returns false'. Refute it at one input. -/
def fnNamedStateWrong : ChangeSpec := { name := "fnNamedState", fn := fun _ => fun
  | [d] => { results := [.lit (.bool false)], args := [d] }
  | _ => none }
def FnNamedStateWrongFalsely : Prop := fnNamedStateRow.holds Try.pinned (OpenSpec.ofChange fnNamedStateWrong)

/-- 'laws.FnJoinedNet': WHATEVER THE INPUT: true; the input reads as it did. -/
def fnJoinedNetSpec : ChangeSpec := { name := "fnJoinedNet", fn := fun _ => fun
  | [d] => { results := [.lit (.bool true)], args := [d] }
  | _ => none }
def fnJoinedNetRow : OpenClaim := { program := "ytjofekchopgfbac", sum := "f48fb47da35e3dae05f58355400b02f5088e7d13816ba7db646bfde7bc9d0df9", func := "loop.example/firingnets/laws.FnJoinedNet", spec := "fnJoinedNet", apart := false }
def FnJoinedNetSaid : Prop := fnJoinedNetRow.holds Try.pinned (OpenSpec.ofChange fnJoinedNetSpec)

/-- ITS FALSE NEIGHBOUR: 'it returns false'. Refute it at one input. -/
def fnJoinedNetWrong : ChangeSpec := { name := "fnJoinedNet", fn := fun _ => fun
  | [d] => { results := [.lit (.bool false)], args := [d] }
  | _ => none }
def FnJoinedNetWrongFalsely : Prop := fnJoinedNetRow.holds Try.pinned (OpenSpec.ofChange fnJoinedNetWrong)

/-- 'laws.FnDistancesFrom': WHATEVER THE INPUT: true; the input reads as it did. -/
def fnDistancesFromSpec : ChangeSpec := { name := "fnDistancesFrom", fn := fun _ => fun
  | [d] => { results := [.lit (.bool true)], args := [d] }
  | _ => none }
def fnDistancesFromRow : OpenClaim := { program := "ytjofekchopgfbac", sum := "f48fb47da35e3dae05f58355400b02f5088e7d13816ba7db646bfde7bc9d0df9", func := "loop.example/firingnets/laws.FnDistancesFrom", spec := "fnDistancesFrom", apart := false }
def FnDistancesFromSaid : Prop := fnDistancesFromRow.holds Try.pinned (OpenSpec.ofChange fnDistancesFromSpec)

/-- ITS FALSE NEIGHBOUR: 'it returns false'. Refute it at one input. -/
def fnDistancesFromWrong : ChangeSpec := { name := "fnDistancesFrom", fn := fun _ => fun
  | [d] => { results := [.lit (.bool false)], args := [d] }
  | _ => none }
def FnDistancesFromWrongFalsely : Prop := fnDistancesFromRow.holds Try.pinned (OpenSpec.ofChange fnDistancesFromWrong)

/-- 'laws.FnExactEndsAt': WHATEVER THE INPUT: true; the input reads as it did. -/
def fnExactEndsAtSpec : ChangeSpec := { name := "fnExactEndsAt", fn := fun _ => fun
  | [d1, d2, d3] => { results := [.lit (.bool true)], args := [d1, d2, d3] }
  | _ => none }
def fnExactEndsAtRow : OpenClaim := { program := "ytjofekchopgfbac", sum := "f48fb47da35e3dae05f58355400b02f5088e7d13816ba7db646bfde7bc9d0df9", func := "loop.example/firingnets/laws.FnExactEndsAt", spec := "fnExactEndsAt", apart := false }
def FnExactEndsAtSaid : Prop := fnExactEndsAtRow.holds Try.pinned (OpenSpec.ofChange fnExactEndsAtSpec)

/-- ITS FALSE NEIGHBOUR: 'it returns false'. Refute it at one input. -/
def fnExactEndsAtWrong : ChangeSpec := { name := "fnExactEndsAt", fn := fun _ => fun
  | [d1, d2, d3] => { results := [.lit (.bool false)], args := [d1, d2, d3] }
  | _ => none }
def FnExactEndsAtWrongFalsely : Prop := fnExactEndsAtRow.holds Try.pinned (OpenSpec.ofChange fnExactEndsAtWrong)

/-- 'laws.FnExactFewestLights': WHATEVER THE INPUT: true; the input reads as it did. -/
def fnExactFewestLightsSpec : ChangeSpec := { name := "fnExactFewestLights", fn := fun _ => fun
  | [d1, d2] => { results := [.lit (.bool true)], args := [d1, d2] }
  | _ => none }
def fnExactFewestLightsRow : OpenClaim := { program := "ytjofekchopgfbac", sum := "f48fb47da35e3dae05f58355400b02f5088e7d13816ba7db646bfde7bc9d0df9", func := "loop.example/firingnets/laws.FnExactFewestLights", spec := "fnExactFewestLights", apart := false }
def FnExactFewestLightsSaid : Prop := fnExactFewestLightsRow.holds Try.pinned (OpenSpec.ofChange fnExactFewestLightsSpec)

/-- ITS FALSE NEIGHBOUR: 'it returns false'. Refute it at one input. -/
def fnExactFewestLightsWrong : ChangeSpec := { name := "fnExactFewestLights", fn := fun _ => fun
  | [d1, d2] => { results := [.lit (.bool false)], args := [d1, d2] }
  | _ => none }
def FnExactFewestLightsWrongFalsely : Prop := fnExactFewestLightsRow.holds Try.pinned (OpenSpec.ofChange fnExactFewestLightsWrong)

/-- 'laws.FnFarthestOf': WHATEVER THE INPUT: true; the input reads as it did. -/
def fnFarthestOfSpec : ChangeSpec := { name := "fnFarthestOf", fn := fun _ => fun
  | [d] => { results := [.lit (.bool true)], args := [d] }
  | _ => none }
def fnFarthestOfRow : OpenClaim := { program := "ytjofekchopgfbac", sum := "f48fb47da35e3dae05f58355400b02f5088e7d13816ba7db646bfde7bc9d0df9", func := "loop.example/firingnets/laws.FnFarthestOf", spec := "fnFarthestOf", apart := false }
def FnFarthestOfSaid : Prop := fnFarthestOfRow.holds Try.pinned (OpenSpec.ofChange fnFarthestOfSpec)

/-- ITS FALSE NEIGHBOUR: 'it returns false'. Refute it at one input. -/
def fnFarthestOfWrong : ChangeSpec := { name := "fnFarthestOf", fn := fun _ => fun
  | [d] => { results := [.lit (.bool false)], args := [d] }
  | _ => none }
def FnFarthestOfWrongFalsely : Prop := fnFarthestOfRow.holds Try.pinned (OpenSpec.ofChange fnFarthestOfWrong)

/-- 'laws.FnExactLightsFor': WHATEVER THE INPUT: true; the input reads as it did. -/
def fnExactLightsForSpec : ChangeSpec := { name := "fnExactLightsFor", fn := fun _ => fun
  | [d1, d2] => { results := [.lit (.bool true)], args := [d1, d2] }
  | _ => none }
def fnExactLightsForRow : OpenClaim := { program := "ytjofekchopgfbac", sum := "f48fb47da35e3dae05f58355400b02f5088e7d13816ba7db646bfde7bc9d0df9", func := "loop.example/firingnets/laws.FnExactLightsFor", spec := "fnExactLightsFor", apart := false }
def FnExactLightsForSaid : Prop := fnExactLightsForRow.holds Try.pinned (OpenSpec.ofChange fnExactLightsForSpec)

/-- ITS FALSE NEIGHBOUR: 'it returns false'. Refute it at one input. -/
def fnExactLightsForWrong : ChangeSpec := { name := "fnExactLightsFor", fn := fun _ => fun
  | [d1, d2] => { results := [.lit (.bool false)], args := [d1, d2] }
  | _ => none }
def FnExactLightsForWrongFalsely : Prop := fnExactLightsForRow.holds Try.pinned (OpenSpec.ofChange fnExactLightsForWrong)

/- THE SECOND FORM. 'bulk': how many values and letters a reading holds, each counted each time it is reached (what is shared counts as often as it is met; a slice's spare places count too). A statement '..UptoSaid' is the law's where the arguments, and the package variables that the reading takes, are together of bulk at most 1048576: NARROWER than '..Said'. Prove '..Said' where nothing that the law and all that it calls make is longer than what came in: it says more and counts as full. Else prove '..UptoSaid'. A law counts once. -/
mutual
def uptoBulk {H : Type} : DataW H → Nat
  | .lit (.string bytes) => bytes.length + 1
  | .lit _ => 1
  | .nil => 1
  | .ptr d => uptoBulk d + 1
  | .slice elems spare => uptoBulkAll elems + uptoBulkAll spare + 1
  | .agg parts => uptoBulkAll parts + 1
  | .iface _ d => uptoBulk d + 1
  | .map entries => uptoBulkEntries entries + 1
  | .held _ => 1
def uptoBulkAll {H : Type} : List (DataW H) → Nat
  | [] => 0
  | d :: r => uptoBulk d + uptoBulkAll r
def uptoBulkEntries {H : Type} : List (Lit × DataW H) → Nat
  | [] => 0
  | x :: r => uptoBulkEntry x + uptoBulkEntries r
def uptoBulkEntry {H : Type} : Lit × DataW H → Nat
  | (.string bytes, d) => bytes.length + uptoBulk d + 1
  | (_, d) => uptoBulk d + 1
 end
def uptoSmall : (H : Type) → List (DataW H) → Bool := fun _ ds => decide (uptoBulkAll ds ≤ 1048576)
def OpenSpec.upto (s : _root_.Go.ChangeSpec) : _root_.Go.OpenSpec := { _root_.Go.OpenSpec.ofChange s with cond := some uptoSmall }

/-- 'laws.FnExactFireRun', WHERE WHAT IT READS IS OF BULK AT MOST 1048576: true; the input reads as it did. -/
def fnExactFireRunUptoRow : OpenClaim := { program := "ytjofekchopgfbac", sum := "f48fb47da35e3dae05f58355400b02f5088e7d13816ba7db646bfde7bc9d0df9", func := "loop.example/firingnets/laws.FnExactFireRun", spec := "fnExactFireRun", apart := false, narrowed := true }
def FnExactFireRunUptoSaid : Prop := fnExactFireRunUptoRow.holds Try.pinned (OpenSpec.upto fnExactFireRunSpec)

/-- 'laws.FnExactArrivalRow', WHERE WHAT IT READS IS OF BULK AT MOST 1048576: true; the input reads as it did. -/
def fnExactArrivalRowUptoRow : OpenClaim := { program := "ytjofekchopgfbac", sum := "f48fb47da35e3dae05f58355400b02f5088e7d13816ba7db646bfde7bc9d0df9", func := "loop.example/firingnets/laws.FnExactArrivalRow", spec := "fnExactArrivalRow", apart := false, narrowed := true }
def FnExactArrivalRowUptoSaid : Prop := fnExactArrivalRowUptoRow.holds Try.pinned (OpenSpec.upto fnExactArrivalRowSpec)

/-- 'laws.FnExactLoopOf', WHERE WHAT IT READS IS OF BULK AT MOST 1048576: true; the input reads as it did. -/
def fnExactLoopOfUptoRow : OpenClaim := { program := "ytjofekchopgfbac", sum := "f48fb47da35e3dae05f58355400b02f5088e7d13816ba7db646bfde7bc9d0df9", func := "loop.example/firingnets/laws.FnExactLoopOf", spec := "fnExactLoopOf", unfollowed := true, recurses := true, apart := false, narrowed := true }
def FnExactLoopOfUptoSaid : Prop := fnExactLoopOfUptoRow.holds Try.pinned (OpenSpec.upto fnExactLoopOfSpec)

/-- 'laws.FnNamedState', WHERE WHAT IT READS IS OF BULK AT MOST 1048576: true; the input reads as it did. -/
def fnNamedStateUptoRow : OpenClaim := { program := "ytjofekchopgfbac", sum := "f48fb47da35e3dae05f58355400b02f5088e7d13816ba7db646bfde7bc9d0df9", func := "loop.example/firingnets/laws.FnNamedState", spec := "fnNamedState", apart := false, narrowed := true }
def FnNamedStateUptoSaid : Prop := fnNamedStateUptoRow.holds Try.pinned (OpenSpec.upto fnNamedStateSpec)

/-- 'laws.FnJoinedNet', WHERE WHAT IT READS IS OF BULK AT MOST 1048576: true; the input reads as it did. -/
def fnJoinedNetUptoRow : OpenClaim := { program := "ytjofekchopgfbac", sum := "f48fb47da35e3dae05f58355400b02f5088e7d13816ba7db646bfde7bc9d0df9", func := "loop.example/firingnets/laws.FnJoinedNet", spec := "fnJoinedNet", apart := false, narrowed := true }
def FnJoinedNetUptoSaid : Prop := fnJoinedNetUptoRow.holds Try.pinned (OpenSpec.upto fnJoinedNetSpec)

/-- 'laws.FnDistancesFrom', WHERE WHAT IT READS IS OF BULK AT MOST 1048576: true; the input reads as it did. -/
def fnDistancesFromUptoRow : OpenClaim := { program := "ytjofekchopgfbac", sum := "f48fb47da35e3dae05f58355400b02f5088e7d13816ba7db646bfde7bc9d0df9", func := "loop.example/firingnets/laws.FnDistancesFrom", spec := "fnDistancesFrom", apart := false, narrowed := true }
def FnDistancesFromUptoSaid : Prop := fnDistancesFromUptoRow.holds Try.pinned (OpenSpec.upto fnDistancesFromSpec)

/-- 'laws.FnExactEndsAt', WHERE WHAT IT READS IS OF BULK AT MOST 1048576: true; the input reads as it did. -/
def fnExactEndsAtUptoRow : OpenClaim := { program := "ytjofekchopgfbac", sum := "f48fb47da35e3dae05f58355400b02f5088e7d13816ba7db646bfde7bc9d0df9", func := "loop.example/firingnets/laws.FnExactEndsAt", spec := "fnExactEndsAt", apart := false, narrowed := true }
def FnExactEndsAtUptoSaid : Prop := fnExactEndsAtUptoRow.holds Try.pinned (OpenSpec.upto fnExactEndsAtSpec)

/-- 'laws.FnExactFewestLights', WHERE WHAT IT READS IS OF BULK AT MOST 1048576: true; the input reads as it did. -/
def fnExactFewestLightsUptoRow : OpenClaim := { program := "ytjofekchopgfbac", sum := "f48fb47da35e3dae05f58355400b02f5088e7d13816ba7db646bfde7bc9d0df9", func := "loop.example/firingnets/laws.FnExactFewestLights", spec := "fnExactFewestLights", apart := false, narrowed := true }
def FnExactFewestLightsUptoSaid : Prop := fnExactFewestLightsUptoRow.holds Try.pinned (OpenSpec.upto fnExactFewestLightsSpec)

/-- 'laws.FnFarthestOf', WHERE WHAT IT READS IS OF BULK AT MOST 1048576: true; the input reads as it did. -/
def fnFarthestOfUptoRow : OpenClaim := { program := "ytjofekchopgfbac", sum := "f48fb47da35e3dae05f58355400b02f5088e7d13816ba7db646bfde7bc9d0df9", func := "loop.example/firingnets/laws.FnFarthestOf", spec := "fnFarthestOf", apart := false, narrowed := true }
def FnFarthestOfUptoSaid : Prop := fnFarthestOfUptoRow.holds Try.pinned (OpenSpec.upto fnFarthestOfSpec)

/-- 'laws.FnExactLightsFor', WHERE WHAT IT READS IS OF BULK AT MOST 1048576: true; the input reads as it did. -/
def fnExactLightsForUptoRow : OpenClaim := { program := "ytjofekchopgfbac", sum := "f48fb47da35e3dae05f58355400b02f5088e7d13816ba7db646bfde7bc9d0df9", func := "loop.example/firingnets/laws.FnExactLightsFor", spec := "fnExactLightsFor", apart := false, narrowed := true }
def FnExactLightsForUptoSaid : Prop := fnExactLightsForUptoRow.holds Try.pinned (OpenSpec.upto fnExactLightsForSpec)

end Rows
end Go.Proofs.Ytjofekchopgfbac
