/- What the package-level variables of the law MoneyPrints hold: the premise of contracts that read them. -/
import Derived.Test.YtncndmhmmfbklaaDoorShelf
import Derived.Test.YtncndmhmmfbklaaDoorWWords
import Derived.Below
import Derived.WalkKit
import Derived.Lib.SmallJoins
namespace Go.Proofs.YtncndmhmmfbklaaDoor.X
set_option linter.unusedVariables false
open Go.RowKit Go.Lib Go.Joins
/-- the table of the powers of ten -/
structure Glob (w : World) : Prop where
  pow : TabIs Tryd.prog w "internal/strconv.uint64pow10" .u64 pow10Tab
theorem Glob.step {w w' : World} (h : Glob w) (b : Below w.heap.size w w') : Glob w' := ⟨tab_stays (g := 2) (by kernel_rfl) h.pow b (Nat.le_refl _)⟩
end Go.Proofs.YtncndmhmmfbklaaDoor.X
