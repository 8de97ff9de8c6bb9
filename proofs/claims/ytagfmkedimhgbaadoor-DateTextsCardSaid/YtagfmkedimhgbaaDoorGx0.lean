/- What functions of the program compute, as Lean functions, each with the walk that proves it, for every argument at which the Lean function answers. Written by gprint.py, a program of this session that drives the print of the kit; checked by Lean alone. -/
import Derived.Test.YtagfmkedimhgbaaDoorProg
import Derived.Below
import Derived.Deep.Draws
import Derived.Deep.AppendLies
import Derived.Maps.AppendAt
import Derived.OwnWalk
import Derived.Laws.BytesArg
import Derived.Laws.MakeOwn
import Derived.Laws.OwnMore
import Derived.Deep.OwnRows
import Derived.Tactics
import Derived.Lib.ConvBytes
import Derived.Laws.Slices
import Derived.WalkKit
import Derived.KernelRfl
import Derived.RowKit3
import Derived.Deep.LoopGhost
import Derived.Deep.QuietTactic
import Derived.BigQuiet
import Derived.WideLaws
import Derived.Deep.DeepCutAuto
import Derived.Deep.CutBlock
import Derived.Deep.RegionHeld3
import Derived.Laws.Rows
import Derived.Lib.AppendStr
import Derived.ArgAppend
import Derived.Laws.IdiomCopy
import Derived.OrdersHeld
import Derived.Laws.BitsLemmas
import Derived.RowKit
import Derived.Test.YtagfmkedimhgbaaDoorExt0
import Derived.Test.YtagfmkedimhgbaaDoorExt1
import Derived.Test.YtagfmkedimhgbaaDoorWWords
import Derived.Test.YtagfmkedimhgbaaDoorWLast
import Derived.Test.YtagfmkedimhgbaaDoorWTab
import Derived.Test.YtagfmkedimhgbaaDoorWFour
import Derived.Test.YtagfmkedimhgbaaDoorWQPut
import Derived.Test.YtagfmkedimhgbaaDoorWApart
import Derived.Test.YtagfmkedimhgbaaDoorWArr
import Derived.Test.YtagfmkedimhgbaaDoorWZeros
import Derived.Test.YtagfmkedimhgbaaDoorWFoot
import Derived.Test.YtagfmkedimhgbaaDoorWKept
import Derived.Test.YtagfmkedimhgbaaDoorWShare
import Derived.Test.YtagfmkedimhgbaaDoorWN
import Derived.Test.YtagfmkedimhgbaaDoorWFootNe
import Derived.Test.YtagfmkedimhgbaaDoorWAt
import Derived.Test.YtagfmkedimhgbaaDoorWEqStruct
import Derived.Test.YtagfmkedimhgbaaDoorWRepsOne
import Derived.Test.YtagfmkedimhgbaaDoorWInv
import Derived.Test.YtagfmkedimhgbaaDoorWInvWords
import Derived.Test.YtagfmkedimhgbaaDoorWGuard
import Derived.Test.YtagfmkedimhgbaaDoorWNEv
import Derived.Test.YtagfmkedimhgbaaDoorWMore
namespace Go.Proofs.YtagfmkedimhgbaaDoor.G
open Go.RowKit Go.Proofs.YtagfmkedimhgbaaDoorW.PrintWords Go.Proofs.YtagfmkedimhgbaaDoorW.PrintLast Go.Proofs.YtagfmkedimhgbaaDoorW.PrintMore
attribute [local go_sem] max2_int min2_int max_two min_two max_three min_three max_four min_four   -- for this text's walks alone
set_option linter.unusedVariables false
set_option linter.unusedSimpArgs false



def errW : Option Int → Value
  | none => .nilIface
  | some c => .iface 0 (.int .i64 c)
theorem errW_none : errW none = .nilIface := rfl
theorem errW_some (c : Int) : errW (some c) = .iface 0 (.int .i64 c) := rfl

-- the values' own types

end Go.Proofs.YtagfmkedimhgbaaDoor.G
