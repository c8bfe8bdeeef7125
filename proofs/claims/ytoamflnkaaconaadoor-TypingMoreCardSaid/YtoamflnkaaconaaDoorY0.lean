/- Contracts of functions, written by a program of this work (xprint.py) out of the translation. -/
import Derived.Test.YtoamflnkaaconaaDoorProg
import Derived.Below
import Derived.Deep.Draws
import Derived.Deep.AppendLies
import Derived.Maps.AppendAt
import Derived.OwnWalk
import Derived.Laws.BytesArg
import Derived.Laws.MakeOwn
import Derived.Laws.OwnMore
import Derived.Deep.OwnRows
import Derived.Tactics
import Derived.Lib.ConvBytes
import Derived.Laws.Slices
import Derived.WalkKit
import Derived.KernelRfl
import Derived.RowKit3
import Derived.Deep.LoopGhost
import Derived.Deep.QuietTactic
import Derived.BigQuiet
import Derived.WideLaws
import Derived.Deep.DeepCutAuto
import Derived.Deep.CutBlock
import Derived.Deep.RegionHeld3
import Derived.Laws.Rows
import Derived.Lib.AppendStr
import Derived.ArgAppend
import Derived.Laws.IdiomCopy
import Derived.OrdersHeld
import Derived.Laws.BitsLemmas
import Derived.RowKit
import Derived.Test.YtoamflnkaaconaaDoorWWords
import Derived.Test.YtoamflnkaaconaaDoorWLast
import Derived.Test.YtoamflnkaaconaaDoorWTab
import Derived.Test.YtoamflnkaaconaaDoorWFour
import Derived.Test.YtoamflnkaaconaaDoorWQPut
import Derived.Test.YtoamflnkaaconaaDoorWApart
import Derived.Test.YtoamflnkaaconaaDoorWArr
import Derived.Test.YtoamflnkaaconaaDoorWZeros
import Derived.Test.YtoamflnkaaconaaDoorWFoot
import Derived.Test.YtoamflnkaaconaaDoorWKept
import Derived.Test.YtoamflnkaaconaaDoorWShare
import Derived.Test.YtoamflnkaaconaaDoorWN
import Derived.Test.YtoamflnkaaconaaDoorWFootNe
import Derived.Test.YtoamflnkaaconaaDoorWAt
import Derived.Test.YtoamflnkaaconaaDoorWEqStruct
import Derived.Test.YtoamflnkaaconaaDoorWRepsOne
import Derived.Test.YtoamflnkaaconaaDoorWInv
import Derived.Test.YtoamflnkaaconaaDoorWInvWords
import Derived.Test.YtoamflnkaaconaaDoorWGuard
import Derived.Test.YtoamflnkaaconaaDoorWNEv
import Derived.Test.YtoamflnkaaconaaDoorWMore
namespace Go.Proofs.YtoamflnkaaconaaDoor.Y
open Go.RowKit Go.Proofs.YtoamflnkaaconaaDoorW.PrintWords Go.Proofs.YtoamflnkaaconaaDoorW.PrintLast Go.Proofs.YtoamflnkaaconaaDoorW.PrintMore
attribute [local go_sem] max2_int min2_int max_two min_two max_three min_three max_four min_four   -- for this text's walks alone
set_option linter.unusedVariables false
set_option linter.unusedSimpArgs false



def errW : Option Int → Value
  | none => .nilIface
  | some c => .iface 0 (.int .i64 c)
theorem errW_none : errW none = .nilIface := rfl
theorem errW_some (c : Int) : errW (some c) = .iface 0 (.int .i64 c) := rfl

-- the values' own types

end Go.Proofs.YtoamflnkaaconaaDoor.Y
