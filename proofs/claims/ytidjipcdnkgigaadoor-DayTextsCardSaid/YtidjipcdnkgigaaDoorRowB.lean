/- What the rows share that list four tables: the months' lengths and the powers of ten, read off the rows' condition. -/
import Derived.Test.YtidjipcdnkgigaaDoorRowA
import Derived.Test.YtidjipcdnkgigaaDoorDayP
import Derived.Stop.LaidErr
namespace Go.Proofs.YtidjipcdnkgigaaDoor
set_option linter.unusedVariables false
set_option linter.unusedSimpArgs false
open Go.ChangeShapes Go.WideShapes Go.ChangeAt Go.WideMaps Go.WideElems Go.RowKit

abbrev laid4 : List (String × DataW Unit) := [("math/bits.deBruijn32tab", Rows.laid_math_bits_deBruijn32tab), ("math/bits.deBruijn64tab", Rows.laid_math_bits_deBruijn64tab), ("internal/strconv.uint64pow10", Rows.laid_internal_strconv_uint64pow10), ("daybook/day.monthDays", Rows.laid_daybook_day_monthDays)]

theorem tPow : (Tryd.prog.globals[1]?).map (·.type) = some 61 := by kernel_rfl
theorem c55 : Tryd.prog.cellsOf 55 = 1 := by kernel_rfl
theorem c61 : Tryd.prog.cellsOf 61 = 20 := by kernel_rfl
theorem pow10_list : Lib.pow10Tab = [1, 10, 100, 1000, 10000, 100000, 1000000, 10000000, 100000000, 1000000000, 10000000000, 100000000000, 1000000000000, 10000000000000, 100000000000000, 1000000000000000, 10000000000000000, 100000000000000000, 1000000000000000000, 10000000000000000000] := by decide

theorem LW_of_laid4 {W : World} (h : laidMetH Tryd.prog laid4 W) : LW W := by
  rw [MakeChecks.laidMetH_plain _ _ _ (by kernel_rfl)] at h
  have h1 := laidMet.tail h
  have h3 := laidMet.tail h1
  have h4 := laidMet.tail h3
  refine ⟨LD_of_tab (Lib.tabIs_of_head gMonths tMonths Tryd.underlying50 Tryd.underlying3 c3 c50 h4), ?_⟩
  rw [pow10_list]
  exact Lib.tabIs_of_head gPow tPow Tryd.underlying61 Tryd.underlying55 c55 c61 h3

theorem door_met4 (os : Os) (args : Array Value) : laidMetH Tryd.prog laid4 ((World.doorLaid Tryd.prog 400 os).forCall (fun _ _ => 0) ⟨#[], args, []⟩).memory := by
  rw [MakeChecks.laidMetH_plain _ _ _ (by kernel_rfl)]
  exact laidMet_of_run' 8 (by kernel_rfl) (by kernel_rfl)
end Go.Proofs.YtidjipcdnkgigaaDoor
