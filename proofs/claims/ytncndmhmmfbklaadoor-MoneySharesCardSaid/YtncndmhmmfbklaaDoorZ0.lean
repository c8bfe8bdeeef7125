/- Contracts of functions, written by a program of this work (xprint.py) out of the translation. -/
import Derived.Test.YtncndmhmmfbklaaDoorProg
import Derived.Below
import Derived.Deep.Draws
import Derived.Deep.AppendLies
import Derived.Maps.AppendAt
import Derived.OwnWalk
import Derived.Laws.BytesArg
import Derived.Laws.MakeOwn
import Derived.Laws.OwnMore
import Derived.Deep.OwnRows
import Derived.Tactics
import Derived.Lib.ConvBytes
import Derived.Laws.Slices
import Derived.WalkKit
import Derived.KernelRfl
import Derived.RowKit3
import Derived.Deep.LoopGhost
import Derived.Deep.QuietTactic
import Derived.BigQuiet
import Derived.WideLaws
import Derived.Deep.DeepCutAuto
import Derived.Deep.CutBlock
import Derived.Deep.RegionHeld3
import Derived.Laws.Rows
import Derived.Lib.AppendStr
import Derived.ArgAppend
import Derived.Laws.IdiomCopy
import Derived.OrdersHeld
import Derived.Laws.BitsLemmas
import Derived.RowKit
import Derived.Test.YtncndmhmmfbklaaDoorWWords
import Derived.Test.YtncndmhmmfbklaaDoorWLast
import Derived.Test.YtncndmhmmfbklaaDoorWTab
import Derived.Test.YtncndmhmmfbklaaDoorWFour
import Derived.Test.YtncndmhmmfbklaaDoorWQPut
import Derived.Test.YtncndmhmmfbklaaDoorWApart
import Derived.Test.YtncndmhmmfbklaaDoorWArr
import Derived.Test.YtncndmhmmfbklaaDoorWZeros
import Derived.Test.YtncndmhmmfbklaaDoorWFoot
import Derived.Test.YtncndmhmmfbklaaDoorWKept
import Derived.Test.YtncndmhmmfbklaaDoorWShare
import Derived.Test.YtncndmhmmfbklaaDoorWN
import Derived.Test.YtncndmhmmfbklaaDoorWFootNe
import Derived.Test.YtncndmhmmfbklaaDoorWAt
import Derived.Test.YtncndmhmmfbklaaDoorWEqStruct
import Derived.Test.YtncndmhmmfbklaaDoorWRepsOne
import Derived.Test.YtncndmhmmfbklaaDoorWInv
import Derived.Test.YtncndmhmmfbklaaDoorWInvWords
import Derived.Test.YtncndmhmmfbklaaDoorWGuard
import Derived.Test.YtncndmhmmfbklaaDoorWNEv
import Derived.Test.YtncndmhmmfbklaaDoorWMore
namespace Go.Proofs.YtncndmhmmfbklaaDoor.Z
open Go.RowKit Go.Proofs.YtncndmhmmfbklaaDoorW.PrintWords Go.Proofs.YtncndmhmmfbklaaDoorW.PrintLast Go.Proofs.YtncndmhmmfbklaaDoorW.PrintMore
attribute [local go_sem] max2_int min2_int max_two min_two max_three min_three max_four min_four   -- for this text's walks alone
set_option linter.unusedVariables false
set_option linter.unusedSimpArgs false



def errW : Option Int → Value
  | none => .nilIface
  | some c => .iface 0 (.int .i64 c)
theorem errW_none : errW none = .nilIface := rfl
theorem errW_some (c : Int) : errW (some c) = .iface 0 (.int .i64 c) := rfl

-- the values' own types

end Go.Proofs.YtncndmhmmfbklaaDoor.Z
