/-
  No cell of these rows narrows 'for every input' (looked for: loops, veiled, ifaces, maps, wideKeys, modest, calm, conditions, laid).
  DERIVED. THE GIVEN ROWS OF THIS SEAT. 8 by the template 'for every input the law returns true; each argument reads behind the call as it read before'; 0 by the template 'total and deterministic' (their statements: YtjofekchopgfbadTotals.lean).
  GIVEN WITH THE SEED: the statements are not yours to turn. If you find one false, say at which input.
  Laid BY PROGRAM, IN A SANDBOX (cutbox-rows.mjs): the forced cells as the released guide's own fill.sh prints them over the translation 5bb27d603c538ebf… (all of the seat's roots in one cut). By AI agents, Wed Nov 11 2026. No macro, syntax, notation, axiom, sorry.
-/
import Derived.Test.YtjofekchopgfbadChecked
import GoSem.Claim
import GoSem.ClaimJoined
import GoSem.ClaimMapViews
import Derived.JoinedTies
import Derived.KernelRfl
namespace Go.Proofs.Ytjofekchopgfbad
/- THE CELL 'sum', in the pinned program and in every row, IS THE sha256 OF THE DUMP (.gsa) THAT YtjofekchopgfbadProg.lean LOADS. Nothing in Lean hashes anything: it is a label: what it is worth is what the hold of that sum in a sandbox is worth. -/
noncomputable def Try.pinned : Pinned := { name := "ytjofekchopgfbad", sum := "5bb27d603c538ebf90db048b52b1d19ff0f02568ba7775b9d770d76bd63e2479", checked := Try.checked }
namespace Rows
def none {H : Type} : Left H := { results := [], args := [] }

/-- 'laws.FnTiredRests': WHATEVER THE INPUT: true; the input reads as it did. -/
def fnTiredRestsSpec : ChangeSpec := { name := "fnTiredRests", fn := fun _ => fun
  | [d] => { results := [.lit (.bool true)], args := [d] }
  | _ => none }
def fnTiredRestsRow : OpenClaim := { program := "ytjofekchopgfbad", sum := "5bb27d603c538ebf90db048b52b1d19ff0f02568ba7775b9d770d76bd63e2479", func := "loop.example/firingnets/laws.FnTiredRests", spec := "fnTiredRests", apart := false }
def FnTiredRestsSaid : Prop := fnTiredRestsRow.holds Try.pinned (OpenSpec.ofChange fnTiredRestsSpec)

/-- ITS FALSE NEIGHBOUR: 'it returns false'. Refute it at one input. -/
def fnTiredRestsWrong : ChangeSpec := { name := "fnTiredRests", fn := fun _ => fun
  | [d] => { results := [.lit (.bool false)], args := [d] }
  | _ => none }
def FnTiredRestsWrongFalsely : Prop := fnTiredRestsRow.holds Try.pinned (OpenSpec.ofChange fnTiredRestsWrong)

/-- 'laws.FnPartsOf': WHATEVER THE INPUT: true; the input reads as it did. -/
def fnPartsOfSpec : ChangeSpec := { name := "fnPartsOf", fn := fun _ => fun
  | [d] => { results := [.lit (.bool true)], args := [d] }
  | _ => none }
def fnPartsOfRow : OpenClaim := { program := "ytjofekchopgfbad", sum := "5bb27d603c538ebf90db048b52b1d19ff0f02568ba7775b9d770d76bd63e2479", func := "loop.example/firingnets/laws.FnPartsOf", spec := "fnPartsOf", apart := false }
def FnPartsOfSaid : Prop := fnPartsOfRow.holds Try.pinned (OpenSpec.ofChange fnPartsOfSpec)

/-- ITS FALSE NEIGHBOUR: 'it returns false'. Refute it at one input. -/
def fnPartsOfWrong : ChangeSpec := { name := "fnPartsOf", fn := fun _ => fun
  | [d] => { results := [.lit (.bool false)], args := [d] }
  | _ => none }
def FnPartsOfWrongFalsely : Prop := fnPartsOfRow.holds Try.pinned (OpenSpec.ofChange fnPartsOfWrong)

/-- 'laws.FnExactWaveEnd': WHATEVER THE INPUT: true; the input reads as it did. -/
def fnExactWaveEndSpec : ChangeSpec := { name := "fnExactWaveEnd", fn := fun _ => fun
  | [d1, d2, d3] => { results := [.lit (.bool true)], args := [d1, d2, d3] }
  | _ => none }
def fnExactWaveEndRow : OpenClaim := { program := "ytjofekchopgfbad", sum := "5bb27d603c538ebf90db048b52b1d19ff0f02568ba7775b9d770d76bd63e2479", func := "loop.example/firingnets/laws.FnExactWaveEnd", spec := "fnExactWaveEnd", apart := false }
def FnExactWaveEndSaid : Prop := fnExactWaveEndRow.holds Try.pinned (OpenSpec.ofChange fnExactWaveEndSpec)

/-- ITS FALSE NEIGHBOUR: 'it returns false'. Refute it at one input. -/
def fnExactWaveEndWrong : ChangeSpec := { name := "fnExactWaveEnd", fn := fun _ => fun
  | [d1, d2, d3] => { results := [.lit (.bool false)], args := [d1, d2, d3] }
  | _ => none }
def FnExactWaveEndWrongFalsely : Prop := fnExactWaveEndRow.holds Try.pinned (OpenSpec.ofChange fnExactWaveEndWrong)

/-- 'laws.FnMoreKinds': WHATEVER THE INPUT: true; the input reads as it did. -/
def fnMoreKindsSpec : ChangeSpec := { name := "fnMoreKinds", fn := fun _ => fun
  | [d] => { results := [.lit (.bool true)], args := [d] }
  | _ => none }
def fnMoreKindsRow : OpenClaim := { program := "ytjofekchopgfbad", sum := "5bb27d603c538ebf90db048b52b1d19ff0f02568ba7775b9d770d76bd63e2479", func := "loop.example/firingnets/laws.FnMoreKinds", spec := "fnMoreKinds", apart := false }
def FnMoreKindsSaid : Prop := fnMoreKindsRow.holds Try.pinned (OpenSpec.ofChange fnMoreKindsSpec)

/-- ITS FALSE NEIGHBOUR: 'it returns false'. Refute it at one input. -/
def fnMoreKindsWrong : ChangeSpec := { name := "fnMoreKinds", fn := fun _ => fun
  | [d] => { results := [.lit (.bool false)], args := [d] }
  | _ => none }
def FnMoreKindsWrongFalsely : Prop := fnMoreKindsRow.holds Try.pinned (OpenSpec.ofChange fnMoreKindsWrong)

/-- 'laws.FnNamedNet': WHATEVER THE INPUT: true; the input reads as it did. -/
def fnNamedNetSpec : ChangeSpec := { name := "fnNamedNet", fn := fun _ => fun
  | [d] => { results := [.lit (.bool true)], args := [d] }
  | _ => none }
def fnNamedNetRow : OpenClaim := { program := "ytjofekchopgfbad", sum := "5bb27d603c538ebf90db048b52b1d19ff0f02568ba7775b9d770d76bd63e2479", func := "loop.example/firingnets/laws.FnNamedNet", spec := "fnNamedNet", apart := false }
def FnNamedNetSaid : Prop := fnNamedNetRow.holds Try.pinned (OpenSpec.ofChange fnNamedNetSpec)

/-- ITS FALSE NEIGHBOUR: 'it returns false'. Refute it at one input. -/
def fnNamedNetWrong : ChangeSpec := { name := "fnNamedNet", fn := fun _ => fun
  | [d] => { results := [.lit (.bool false)], args := [d] }
  | _ => none }
def FnNamedNetWrongFalsely : Prop := fnNamedNetRow.holds Try.pinned (OpenSpec.ofChange fnNamedNetWrong)

/-- 'laws.FnWiresOf': WHATEVER THE INPUT: true; the input reads as it did. -/
def fnWiresOfSpec : ChangeSpec := { name := "fnWiresOf", fn := fun _ => fun
  | [d] => { results := [.lit (.bool true)], args := [d] }
  | _ => none }
def fnWiresOfRow : OpenClaim := { program := "ytjofekchopgfbad", sum := "5bb27d603c538ebf90db048b52b1d19ff0f02568ba7775b9d770d76bd63e2479", func := "loop.example/firingnets/laws.FnWiresOf", spec := "fnWiresOf", apart := false }
def FnWiresOfSaid : Prop := fnWiresOfRow.holds Try.pinned (OpenSpec.ofChange fnWiresOfSpec)

/-- ITS FALSE NEIGHBOUR: 'it returns false'. Refute it at one input. -/
def fnWiresOfWrong : ChangeSpec := { name := "fnWiresOf", fn := fun _ => fun
  | [d] => { results := [.lit (.bool false)], args := [d] }
  | _ => none }
def FnWiresOfWrongFalsely : Prop := fnWiresOfRow.holds Try.pinned (OpenSpec.ofChange fnWiresOfWrong)

/-- 'laws.FnFireRun': WHATEVER THE INPUT: true; the input reads as it did. -/
def fnFireRunSpec : ChangeSpec := { name := "fnFireRun", fn := fun _ => fun
  | [d] => { results := [.lit (.bool true)], args := [d] }
  | _ => none }
def fnFireRunRow : OpenClaim := { program := "ytjofekchopgfbad", sum := "5bb27d603c538ebf90db048b52b1d19ff0f02568ba7775b9d770d76bd63e2479", func := "loop.example/firingnets/laws.FnFireRun", spec := "fnFireRun", apart := false }
def FnFireRunSaid : Prop := fnFireRunRow.holds Try.pinned (OpenSpec.ofChange fnFireRunSpec)

/-- ITS FALSE NEIGHBOUR: 'it returns false'. Refute it at one input. -/
def fnFireRunWrong : ChangeSpec := { name := "fnFireRun", fn := fun _ => fun
  | [d] => { results := [.lit (.bool false)], args := [d] }
  | _ => none }
def FnFireRunWrongFalsely : Prop := fnFireRunRow.holds Try.pinned (OpenSpec.ofChange fnFireRunWrong)

/-- 'laws.FnFireParts': WHATEVER THE INPUT: true; the input reads as it did. -/
def fnFirePartsSpec : ChangeSpec := { name := "fnFireParts", fn := fun _ => fun
  | [d] => { results := [.lit (.bool true)], args := [d] }
  | _ => none }
def fnFirePartsRow : OpenClaim := { program := "ytjofekchopgfbad", sum := "5bb27d603c538ebf90db048b52b1d19ff0f02568ba7775b9d770d76bd63e2479", func := "loop.example/firingnets/laws.FnFireParts", spec := "fnFireParts", apart := false }
def FnFirePartsSaid : Prop := fnFirePartsRow.holds Try.pinned (OpenSpec.ofChange fnFirePartsSpec)

/-- ITS FALSE NEIGHBOUR: 'it returns false'. Refute it at one input. -/
def fnFirePartsWrong : ChangeSpec := { name := "fnFireParts", fn := fun _ => fun
  | [d] => { results := [.lit (.bool false)], args := [d] }
  | _ => none }
def FnFirePartsWrongFalsely : Prop := fnFirePartsRow.holds Try.pinned (OpenSpec.ofChange fnFirePartsWrong)

/- THE SECOND FORM. 'bulk': how many values and letters a reading holds, each counted each time it is reached (what is shared counts as often as it is met; a slice's spare places count too). A statement '..UptoSaid' is the law's where the arguments, and the package variables that the reading takes, are together of bulk at most 1048576: NARROWER than '..Said'. Prove '..Said' where nothing that the law and all that it calls make is longer than what came in: it says more and counts as full. Else prove '..UptoSaid'. A law counts once. -/
mutual
def uptoBulk {H : Type} : DataW H → Nat
  | .lit (.string bytes) => bytes.length + 1
  | .lit _ => 1
  | .nil => 1
  | .ptr d => uptoBulk d + 1
  | .slice elems spare => uptoBulkAll elems + uptoBulkAll spare + 1
  | .agg parts => uptoBulkAll parts + 1
  | .iface _ d => uptoBulk d + 1
  | .map entries => uptoBulkEntries entries + 1
  | .held _ => 1
def uptoBulkAll {H : Type} : List (DataW H) → Nat
  | [] => 0
  | d :: r => uptoBulk d + uptoBulkAll r
def uptoBulkEntries {H : Type} : List (Lit × DataW H) → Nat
  | [] => 0
  | x :: r => uptoBulkEntry x + uptoBulkEntries r
def uptoBulkEntry {H : Type} : Lit × DataW H → Nat
  | (.string bytes, d) => bytes.length + uptoBulk d + 1
  | (_, d) => uptoBulk d + 1
 end
def uptoSmall : (H : Type) → List (DataW H) → Bool := fun _ ds => decide (uptoBulkAll ds ≤ 1048576)
def OpenSpec.upto (s : _root_.Go.ChangeSpec) : _root_.Go.OpenSpec := { _root_.Go.OpenSpec.ofChange s with cond := some uptoSmall }

/-- 'laws.FnTiredRests', WHERE WHAT IT READS IS OF BULK AT MOST 1048576: true; the input reads as it did. -/
def fnTiredRestsUptoRow : OpenClaim := { program := "ytjofekchopgfbad", sum := "5bb27d603c538ebf90db048b52b1d19ff0f02568ba7775b9d770d76bd63e2479", func := "loop.example/firingnets/laws.FnTiredRests", spec := "fnTiredRests", apart := false, narrowed := true }
def FnTiredRestsUptoSaid : Prop := fnTiredRestsUptoRow.holds Try.pinned (OpenSpec.upto fnTiredRestsSpec)

/-- 'laws.FnPartsOf', WHERE WHAT IT READS IS OF BULK AT MOST 1048576: true; the input reads as it did. -/
def fnPartsOfUptoRow : OpenClaim := { program := "ytjofekchopgfbad", sum := "5bb27d603c538ebf90db048b52b1d19ff0f02568ba7775b9d770d76bd63e2479", func := "loop.example/firingnets/laws.FnPartsOf", spec := "fnPartsOf", apart := false, narrowed := true }
def FnPartsOfUptoSaid : Prop := fnPartsOfUptoRow.holds Try.pinned (OpenSpec.upto fnPartsOfSpec)

/-- 'laws.FnExactWaveEnd', WHERE WHAT IT READS IS OF BULK AT MOST 1048576: true; the input reads as it did. -/
def fnExactWaveEndUptoRow : OpenClaim := { program := "ytjofekchopgfbad", sum := "5bb27d603c538ebf90db048b52b1d19ff0f02568ba7775b9d770d76bd63e2479", func := "loop.example/firingnets/laws.FnExactWaveEnd", spec := "fnExactWaveEnd", apart := false, narrowed := true }
def FnExactWaveEndUptoSaid : Prop := fnExactWaveEndUptoRow.holds Try.pinned (OpenSpec.upto fnExactWaveEndSpec)

/-- 'laws.FnMoreKinds', WHERE WHAT IT READS IS OF BULK AT MOST 1048576: true; the input reads as it did. -/
def fnMoreKindsUptoRow : OpenClaim := { program := "ytjofekchopgfbad", sum := "5bb27d603c538ebf90db048b52b1d19ff0f02568ba7775b9d770d76bd63e2479", func := "loop.example/firingnets/laws.FnMoreKinds", spec := "fnMoreKinds", apart := false, narrowed := true }
def FnMoreKindsUptoSaid : Prop := fnMoreKindsUptoRow.holds Try.pinned (OpenSpec.upto fnMoreKindsSpec)

/-- 'laws.FnNamedNet', WHERE WHAT IT READS IS OF BULK AT MOST 1048576: true; the input reads as it did. -/
def fnNamedNetUptoRow : OpenClaim := { program := "ytjofekchopgfbad", sum := "5bb27d603c538ebf90db048b52b1d19ff0f02568ba7775b9d770d76bd63e2479", func := "loop.example/firingnets/laws.FnNamedNet", spec := "fnNamedNet", apart := false, narrowed := true }
def FnNamedNetUptoSaid : Prop := fnNamedNetUptoRow.holds Try.pinned (OpenSpec.upto fnNamedNetSpec)

/-- 'laws.FnWiresOf', WHERE WHAT IT READS IS OF BULK AT MOST 1048576: true; the input reads as it did. -/
def fnWiresOfUptoRow : OpenClaim := { program := "ytjofekchopgfbad", sum := "5bb27d603c538ebf90db048b52b1d19ff0f02568ba7775b9d770d76bd63e2479", func := "loop.example/firingnets/laws.FnWiresOf", spec := "fnWiresOf", apart := false, narrowed := true }
def FnWiresOfUptoSaid : Prop := fnWiresOfUptoRow.holds Try.pinned (OpenSpec.upto fnWiresOfSpec)

/-- 'laws.FnFireRun', WHERE WHAT IT READS IS OF BULK AT MOST 1048576: true; the input reads as it did. -/
def fnFireRunUptoRow : OpenClaim := { program := "ytjofekchopgfbad", sum := "5bb27d603c538ebf90db048b52b1d19ff0f02568ba7775b9d770d76bd63e2479", func := "loop.example/firingnets/laws.FnFireRun", spec := "fnFireRun", apart := false, narrowed := true }
def FnFireRunUptoSaid : Prop := fnFireRunUptoRow.holds Try.pinned (OpenSpec.upto fnFireRunSpec)

/-- 'laws.FnFireParts', WHERE WHAT IT READS IS OF BULK AT MOST 1048576: true; the input reads as it did. -/
def fnFirePartsUptoRow : OpenClaim := { program := "ytjofekchopgfbad", sum := "5bb27d603c538ebf90db048b52b1d19ff0f02568ba7775b9d770d76bd63e2479", func := "loop.example/firingnets/laws.FnFireParts", spec := "fnFireParts", apart := false, narrowed := true }
def FnFirePartsUptoSaid : Prop := fnFirePartsUptoRow.holds Try.pinned (OpenSpec.upto fnFirePartsSpec)

end Rows
end Go.Proofs.Ytjofekchopgfbad
