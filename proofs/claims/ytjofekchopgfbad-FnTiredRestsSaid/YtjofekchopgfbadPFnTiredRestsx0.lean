-- Written by a program of this session (wip/patch_print.py), out of the translation. Lean checks it.
import Derived.Test.YtjofekchopgfbadProg
import Derived.Below
import Derived.Deep.Draws
import Derived.Deep.AppendLies
import Derived.Maps.AppendAt
import Derived.OwnWalk
import Derived.Laws.BytesArg
import Derived.Laws.MakeOwn
import Derived.Laws.OwnMore
import Derived.Deep.OwnRows
import Derived.Tactics
import Derived.Lib.ConvBytes
import Derived.Laws.Slices
import Derived.WalkKit
import Derived.KernelRfl
import Derived.RowKit3
import Derived.WalkSpells
import Derived.Maps.OwnSet
import Derived.Deep.LoopGhost
import Derived.Deep.QuietTactic
import Derived.BigQuiet
import Derived.WideLaws
import Derived.Deep.DeepCutAuto
import Derived.Deep.CutBlock
import Derived.Deep.RegionHeld3
import Derived.Laws.Rows
import Derived.Lib.AppendStr
import Derived.ArgAppend
import Derived.Laws.IdiomCopy
import Derived.OrdersHeld
import Derived.Laws.BitsLemmas
import Derived.RowKit
import Derived.Test.YtjofekchopgfbadWWords
import Derived.Test.YtjofekchopgfbadWLast
import Derived.Test.YtjofekchopgfbadWTab
import Derived.Test.YtjofekchopgfbadWFour
import Derived.Test.YtjofekchopgfbadWQPut
import Derived.Test.YtjofekchopgfbadWApart
import Derived.Test.YtjofekchopgfbadWArr
import Derived.Test.YtjofekchopgfbadWZeros
import Derived.Test.YtjofekchopgfbadWFoot
import Derived.Test.YtjofekchopgfbadWKept
import Derived.Test.YtjofekchopgfbadWShare
import Derived.Test.YtjofekchopgfbadWN
import Derived.Test.YtjofekchopgfbadWFootNe
import Derived.Test.YtjofekchopgfbadWAt
import Derived.Test.YtjofekchopgfbadWEqStruct
import Derived.Test.YtjofekchopgfbadWRepsOne
import Derived.Test.YtjofekchopgfbadWInv
import Derived.Test.YtjofekchopgfbadWInvWords
import Derived.Test.YtjofekchopgfbadWGuard
import Derived.Test.YtjofekchopgfbadWNEv
import Derived.Test.YtjofekchopgfbadWMore
namespace Go.Proofs.Ytjofekchopgfbad.PFnTiredRests
open Go.RowKit Go.Proofs.YtjofekchopgfbadW.PrintWords Go.Proofs.YtjofekchopgfbadW.PrintLast Go.Proofs.YtjofekchopgfbadW.PrintMore
attribute [local go_sem] max2_int min2_int max_two min_two max_three min_three max_four min_four   -- for this text's walks alone
set_option linter.unusedVariables false
set_option linter.unusedSimpArgs false



def errW : Option Int → Value
  | none => .nilIface
  | some c => .iface 0 (.int .i64 c)
theorem errW_none : errW none = .nilIface := rfl
theorem errW_some (c : Int) : errW (some c) = .iface 0 (.int .i64 c) := rfl

theorem info3 : (Try.prog.info? 3).map (fun i => (i.zero, i.size, i.bytes)) = some (some (.int .i64 0), 1, 8) := by kernel_rfl
theorem info5 : (Try.prog.info? 5).map (fun i => (i.zero, i.size, i.bytes)) = some (some (.int .u8 0), 1, 1) := by kernel_rfl
-- the values' own types

end Go.Proofs.Ytjofekchopgfbad.PFnTiredRests
