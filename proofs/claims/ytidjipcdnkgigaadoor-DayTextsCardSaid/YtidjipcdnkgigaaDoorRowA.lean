/- What the rows of this seat share: the listed table of the months' lengths, read off the row's condition. -/
import Derived.Test.YtidjipcdnkgigaaDoorRows
import Derived.Test.YtidjipcdnkgigaaDoorDayA
import Derived.WalkKit
import Derived.ProofKit
import Derived.OpenShut
import Derived.ShutString
import Derived.ChangeOld
import Derived.Below
import Derived.LaidMore
import Derived.Lib.LaidTab
import Derived.Stop.Joined
namespace Go.Proofs.YtidjipcdnkgigaaDoor
open Go.ChangeShapes Go.WideShapes Go.ChangeAt Go.WideMaps Go.WideElems Go.RowKit
open Go.ChangeMaps (open_string shut_string)

theorem own : ownKnob Tryd.prog.godebug = none := by kernel_rfl
theorem laidOut : laidOutB Tryd.prog = true := by kernel_rfl
theorem gMonths : Tryd.prog.globalNamed "daybook/day.monthDays" = some 0 := by kernel_rfl
theorem tMonths : (Tryd.prog.globals[0]?).map (·.type) = some 50 := by kernel_rfl
theorem c3 : Tryd.prog.cellsOf 3 = 1 := by kernel_rfl
theorem c50 : Tryd.prog.cellsOf 50 = 12 := by kernel_rfl

/-- the condition of the rows that list the months' table alone -/
abbrev laid1 : List (String × DataW Unit) := [("daybook/day.monthDays", Rows.laid_daybook_day_monthDays)]

theorem LD_of_tab {W : World} (h : Lib.TabIs Tryd.prog W "daybook/day.monthDays" .i64 [31, 28, 31, 30, 31, 30, 31, 31, 30, 31, 30, 31]) : LD W := fun m h1 h2 => by
  have h := h.cell gMonths (m.toNat - 1) (by simp; omega)
  rw [h]
  have : m = 1 ∨ m = 2 ∨ m = 3 ∨ m = 4 ∨ m = 5 ∨ m = 6 ∨ m = 7 ∨ m = 8 ∨ m = 9 ∨ m = 10 ∨ m = 11 ∨ m = 12 := by omega
  rcases this with h | h | h | h | h | h | h | h | h | h | h | h <;> subst h <;> rfl

theorem LD_of_laid1 {W : World} (h : laidMetH Tryd.prog laid1 W) : LD W := by
  rw [MakeChecks.laidMetH_plain _ _ _ (by kernel_rfl)] at h
  exact LD_of_tab (Lib.tabIs_of_head gMonths tMonths Tryd.underlying50 Tryd.underlying3 c3 c50 h)

theorem door_met1 (os : Os) (args : Array Value) : laidMetH Tryd.prog laid1 ((World.doorLaid Tryd.prog 400 os).forCall (fun _ _ => 0) ⟨#[], args, []⟩).memory := by
  rw [MakeChecks.laidMetH_plain _ _ _ (by kernel_rfl)]
  exact laidMet_of_run' 8 (by kernel_rfl) (by kernel_rfl)
end Go.Proofs.YtidjipcdnkgigaaDoor
