-- Written by a program of this session (wip/patch_print.py), out of the translation. Lean checks it.
import Derived.Test.YtjofekchopgfbabProg
import Derived.Below
import Derived.Deep.Draws
import Derived.Deep.AppendLies
import Derived.Maps.AppendAt
import Derived.OwnWalk
import Derived.Laws.BytesArg
import Derived.Laws.MakeOwn
import Derived.Laws.OwnMore
import Derived.Deep.OwnRows
import Derived.Tactics
import Derived.Lib.ConvBytes
import Derived.Laws.Slices
import Derived.WalkKit
import Derived.KernelRfl
import Derived.RowKit3
import Derived.WalkSpells
import Derived.Deep.LoopGhost
import Derived.Deep.QuietTactic
import Derived.BigQuiet
import Derived.WideLaws
import Derived.Deep.DeepCutAuto
import Derived.Deep.CutBlock
import Derived.Deep.RegionHeld3
import Derived.Laws.Rows
import Derived.Lib.AppendStr
import Derived.ArgAppend
import Derived.Laws.IdiomCopy
import Derived.OrdersHeld
import Derived.Laws.BitsLemmas
import Derived.RowKit
import Derived.Test.YtjofekchopgfbabWWords
import Derived.Test.YtjofekchopgfbabWLast
import Derived.Test.YtjofekchopgfbabWTab
import Derived.Test.YtjofekchopgfbabWFour
import Derived.Test.YtjofekchopgfbabWQPut
import Derived.Test.YtjofekchopgfbabWApart
import Derived.Test.YtjofekchopgfbabWArr
import Derived.Test.YtjofekchopgfbabWZeros
import Derived.Test.YtjofekchopgfbabWFoot
import Derived.Test.YtjofekchopgfbabWKept
import Derived.Test.YtjofekchopgfbabWShare
import Derived.Test.YtjofekchopgfbabWN
import Derived.Test.YtjofekchopgfbabWFootNe
import Derived.Test.YtjofekchopgfbabWAt
import Derived.Test.YtjofekchopgfbabWEqStruct
import Derived.Test.YtjofekchopgfbabWRepsOne
import Derived.Test.YtjofekchopgfbabWInv
import Derived.Test.YtjofekchopgfbabWInvWords
import Derived.Test.YtjofekchopgfbabWGuard
import Derived.Test.YtjofekchopgfbabWNEv
import Derived.Test.YtjofekchopgfbabWMore
namespace Go.Proofs.Ytjofekchopgfbab.PFnNetOk
open Go.RowKit Go.Proofs.YtjofekchopgfbabW.PrintWords Go.Proofs.YtjofekchopgfbabW.PrintLast Go.Proofs.YtjofekchopgfbabW.PrintMore
attribute [local go_sem] max2_int min2_int max_two min_two max_three min_three max_four min_four   -- for this text's walks alone
set_option linter.unusedVariables false
set_option linter.unusedSimpArgs false



def errW : Option Int → Value
  | none => .nilIface
  | some c => .iface 0 (.int .i64 c)
theorem errW_none : errW none = .nilIface := rfl
theorem errW_some (c : Int) : errW (some c) = .iface 0 (.int .i64 c) := rfl

theorem info3 : (Try.prog.info? 3).map (fun i => (i.zero, i.size, i.bytes)) = some (some (.int .i64 0), 1, 8) := by kernel_rfl
theorem info5 : (Try.prog.info? 5).map (fun i => (i.zero, i.size, i.bytes)) = some (some (.int .u8 0), 1, 1) := by kernel_rfl
-- the values' own types

end Go.Proofs.Ytjofekchopgfbab.PFnNetOk
