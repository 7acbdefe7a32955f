-- Written by a program of this session (wip/patch_print.py), out of the translation. Lean checks it.
import Derived.Test.YtjofekchopgfbacProg
import Derived.Below
import Derived.Deep.Draws
import Derived.Deep.AppendLies
import Derived.Maps.AppendAt
import Derived.OwnWalk
import Derived.Laws.BytesArg
import Derived.Laws.MakeOwn
import Derived.Laws.OwnMore
import Derived.Deep.OwnRows
import Derived.Tactics
import Derived.Lib.ConvBytes
import Derived.Laws.Slices
import Derived.WalkKit
import Derived.KernelRfl
import Derived.RowKit3
import Derived.WalkSpells
import Derived.Maps.OwnSet
import Derived.OneCell
import Derived.Laws.IdiomRangeMap
import Derived.Deep.LoopGhost
import Derived.Deep.QuietTactic
import Derived.BigQuiet
import Derived.WideLaws
import Derived.Deep.DeepCutAuto
import Derived.Deep.CutBlock
import Derived.Deep.RegionHeld3
import Derived.Laws.Rows
import Derived.Lib.AppendStr
import Derived.ArgAppend
import Derived.Laws.IdiomCopy
import Derived.OrdersHeld
import Derived.Laws.BitsLemmas
import Derived.RowKit
import Derived.Test.YtjofekchopgfbacWWords
import Derived.Test.YtjofekchopgfbacWLast
import Derived.Test.YtjofekchopgfbacWTab
import Derived.Test.YtjofekchopgfbacWFour
import Derived.Test.YtjofekchopgfbacWQPut
import Derived.Test.YtjofekchopgfbacWApart
import Derived.Test.YtjofekchopgfbacWArr
import Derived.Test.YtjofekchopgfbacWZeros
import Derived.Test.YtjofekchopgfbacWFoot
import Derived.Test.YtjofekchopgfbacWKept
import Derived.Test.YtjofekchopgfbacWShare
import Derived.Test.YtjofekchopgfbacWN
import Derived.Test.YtjofekchopgfbacWFootNe
import Derived.Test.YtjofekchopgfbacWAt
import Derived.Test.YtjofekchopgfbacWEqStruct
import Derived.Test.YtjofekchopgfbacWRepsOne
import Derived.Test.YtjofekchopgfbacWInv
import Derived.Test.YtjofekchopgfbacWInvWords
import Derived.Test.YtjofekchopgfbacWGuard
import Derived.Test.YtjofekchopgfbacWNEv
import Derived.Test.YtjofekchopgfbacWMore
namespace Go.Proofs.Ytjofekchopgfbac.PFnExactLoopOf
open Go.RowKit Go.Proofs.YtjofekchopgfbacW.PrintWords Go.Proofs.YtjofekchopgfbacW.PrintLast Go.Proofs.YtjofekchopgfbacW.PrintMore
attribute [local go_sem] max2_int min2_int max_two min_two max_three min_three max_four min_four   -- for this text's walks alone
set_option linter.unusedVariables false
set_option linter.unusedSimpArgs false



def errW : Option Int → Value
  | none => .nilIface
  | some c => .iface 0 (.int .i64 c)
theorem errW_none : errW none = .nilIface := rfl
theorem errW_some (c : Int) : errW (some c) = .iface 0 (.int .i64 c) := rfl

theorem info3 : (Try.prog.info? 3).map (fun i => (i.zero, i.size, i.bytes)) = some (some (.int .i64 0), 1, 8) := by kernel_rfl
-- the values' own types

end Go.Proofs.Ytjofekchopgfbac.PFnExactLoopOf
