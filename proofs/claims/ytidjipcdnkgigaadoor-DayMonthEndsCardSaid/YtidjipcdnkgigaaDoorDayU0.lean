/- The outright law DayMonthEnds, walked. -/
import Derived.Test.YtidjipcdnkgigaaDoorDayT
import Derived.Test.YtidjipcdnkgigaaDoorMath3
namespace Go.Proofs.YtidjipcdnkgigaaDoor
set_option linter.unusedVariables false
set_option linter.unusedSimpArgs false
open Go.RowKit Go.ChangeShapes Go.WideShapes
open DayMath (leapP lp dim long cum num valid dY dM dD monthsOn monthsOK)

theorem first_is (n v : Int) (w : World) (hL : LD w) (h1 : 1 ≤ n) (h2 : n ≤ 3652059) (hv : n - dD n + 1 = v) :
    Calls Tryd.prog 23 #[.int .i64 n] w fun e w' => e = .returned (.tuple #[.int .i64 v, .int .i64 0]) ∧ Below w.heap.size w w' := by
  subst hv; exact first_yes n w hL h1 h2
theorem last_is (n v : Int) (w : World) (hL : LD w) (h1 : 1 ≤ n) (h2 : n ≤ 3652059) (hv : n - dD n + dim (dY n) (dM n) = v) :
    Calls Tryd.prog 25 #[.int .i64 n] w fun e w' => e = .returned (.tuple #[.int .i64 v, .int .i64 0]) ∧ Below w.heap.size w w' := by
  subst hv; exact last_yes n w hL h1 h2
theorem addMonths_is (n k v : Int) (w : World) (hL : LD w) (h : monthsOK n k) (hv : DayMath.addMonths n k = v) :
    Calls Tryd.prog 31 #[.int .i64 n, .int .i64 k] w fun e w' => e = .returned (.tuple #[.int .i64 v, .int .i64 0]) ∧ Below w.heap.size w w' := by
  subst hv; exact addMonths_yes n k w hL h

end Go.Proofs.YtidjipcdnkgigaaDoor
