/-
  NARROWER THAN 'FOR EVERY INPUT', by the rows' own cells (each row's printed sentence says how): DayMonths: laid · DayDates: laid · DayNumbers: laid · DayAdds: laid · DayThere: laid · DaySteps: laid · DayRows: laid · DayCycle: laid · DayTexts: laid · DayBack: laid · DayMonthEnds: laid.
  DERIVED. THE GIVEN ROWS OF THIS SEAT. 11 by the template 'for every input the law returns true; each argument reads behind the call as it read before'; 0 by the template 'total and deterministic' (their statements: YtidjipcdnkgigaaDoorTotals.lean).
  GIVEN WITH THE SEED: the statements are not yours to turn. If you find one false, say at which input.
  Laid BY PROGRAM, IN A SANDBOX (cutbox-rows.mjs): the forced cells as the released guide's own fill.sh prints them over the translation 330ae54f9f0b03a5… (all of the seat's roots in one cut). By AI agents, Wed Nov 11 2026. No macro, syntax, notation, axiom, sorry.
-/
import Derived.Test.YtidjipcdnkgigaaDoorChecked
import GoSem.Claim
import GoSem.ClaimJoined
import GoSem.ClaimMapViews
import Derived.JoinedTies
import Derived.KernelRfl
namespace Go.Proofs.YtidjipcdnkgigaaDoor
/- THE CELL 'sum', in the pinned program and in every row, IS THE sha256 OF THE DUMP (.gsa) THAT YtidjipcdnkgigaaDoorProg.lean LOADS. Nothing in Lean hashes anything: it is a label: what it is worth is what the hold of that sum in a sandbox is worth. -/
noncomputable def Tryd.pinned : Pinned := { name := "ytidjipcdnkgigaadoor", sum := "330ae54f9f0b03a56f484f9d9ff3ef513de9046edbff2bb928658e0082834a78", checked := Tryd.checked }
namespace Rows
def none {H : Type} : Left H := { results := [], args := [] }

/- WHAT THE LISTED PACKAGE-LEVEL VARIABLES READ AS WHEN THE CALL BEGINS. Each datum BY PROGRAM (the guide's laid-datum.mjs) off the statement by which the dump's own 'gosem.cut.vars' lays the variable. In a bare row this is a premise. The card (YtidjipcdnkgigaaDoorCards.lean) ties it to the program's text. -/
def laid_daybook_day_monthDays {H : Type} : DataW H := .agg [.lit (.int .i64 31), .lit (.int .i64 28), .lit (.int .i64 31), .lit (.int .i64 30), .lit (.int .i64 31), .lit (.int .i64 30), .lit (.int .i64 31), .lit (.int .i64 31), .lit (.int .i64 30), .lit (.int .i64 31), .lit (.int .i64 30), .lit (.int .i64 31)]
def laid_math_bits_deBruijn32tab {H : Type} : DataW H := .agg [.lit (.int .u8 0), .lit (.int .u8 1), .lit (.int .u8 28), .lit (.int .u8 2), .lit (.int .u8 29), .lit (.int .u8 14), .lit (.int .u8 24), .lit (.int .u8 3), .lit (.int .u8 30), .lit (.int .u8 22), .lit (.int .u8 20), .lit (.int .u8 15), .lit (.int .u8 25), .lit (.int .u8 17), .lit (.int .u8 4), .lit (.int .u8 8), .lit (.int .u8 31), .lit (.int .u8 27), .lit (.int .u8 13), .lit (.int .u8 23), .lit (.int .u8 21), .lit (.int .u8 19), .lit (.int .u8 16), .lit (.int .u8 7), .lit (.int .u8 26), .lit (.int .u8 12), .lit (.int .u8 18), .lit (.int .u8 6), .lit (.int .u8 11), .lit (.int .u8 5), .lit (.int .u8 10), .lit (.int .u8 9)]
def laid_math_bits_deBruijn64tab {H : Type} : DataW H := .agg [.lit (.int .u8 0), .lit (.int .u8 1), .lit (.int .u8 56), .lit (.int .u8 2), .lit (.int .u8 57), .lit (.int .u8 49), .lit (.int .u8 28), .lit (.int .u8 3), .lit (.int .u8 61), .lit (.int .u8 58), .lit (.int .u8 42), .lit (.int .u8 50), .lit (.int .u8 38), .lit (.int .u8 29), .lit (.int .u8 17), .lit (.int .u8 4), .lit (.int .u8 62), .lit (.int .u8 47), .lit (.int .u8 59), .lit (.int .u8 36), .lit (.int .u8 45), .lit (.int .u8 43), .lit (.int .u8 51), .lit (.int .u8 22), .lit (.int .u8 53), .lit (.int .u8 39), .lit (.int .u8 33), .lit (.int .u8 30), .lit (.int .u8 24), .lit (.int .u8 18), .lit (.int .u8 12), .lit (.int .u8 5), .lit (.int .u8 63), .lit (.int .u8 55), .lit (.int .u8 48), .lit (.int .u8 27), .lit (.int .u8 60), .lit (.int .u8 41), .lit (.int .u8 37), .lit (.int .u8 16), .lit (.int .u8 46), .lit (.int .u8 35), .lit (.int .u8 44), .lit (.int .u8 21), .lit (.int .u8 52), .lit (.int .u8 32), .lit (.int .u8 23), .lit (.int .u8 11), .lit (.int .u8 54), .lit (.int .u8 26), .lit (.int .u8 40), .lit (.int .u8 15), .lit (.int .u8 34), .lit (.int .u8 20), .lit (.int .u8 31), .lit (.int .u8 10), .lit (.int .u8 25), .lit (.int .u8 14), .lit (.int .u8 19), .lit (.int .u8 9), .lit (.int .u8 13), .lit (.int .u8 8), .lit (.int .u8 7), .lit (.int .u8 6)]
def laid_internal_strconv_uint64pow10 {H : Type} : DataW H := .agg [.lit (.int .u64 1), .lit (.int .u64 10), .lit (.int .u64 100), .lit (.int .u64 1000), .lit (.int .u64 10000), .lit (.int .u64 100000), .lit (.int .u64 1000000), .lit (.int .u64 10000000), .lit (.int .u64 100000000), .lit (.int .u64 1000000000), .lit (.int .u64 10000000000), .lit (.int .u64 100000000000), .lit (.int .u64 1000000000000), .lit (.int .u64 10000000000000), .lit (.int .u64 100000000000000), .lit (.int .u64 1000000000000000), .lit (.int .u64 10000000000000000), .lit (.int .u64 100000000000000000), .lit (.int .u64 1000000000000000000), .lit (.int .u64 10000000000000000000)]

/-- 'daybooklaw02.DayMonths': WHATEVER THE INPUT: true; the input reads as it did. -/
def dayMonthsSpec : ChangeSpec := { name := "dayMonths", fn := fun _ => fun
  | [d1, d2] => { results := [.lit (.bool true)], args := [d1, d2] }
  | _ => none }
def dayMonthsRow : OpenClaim := { program := "ytidjipcdnkgigaadoor", sum := "330ae54f9f0b03a56f484f9d9ff3ef513de9046edbff2bb928658e0082834a78", func := "daybook/daybooklaw02.DayMonths", spec := "dayMonths", named := ["daybook/day.monthDays"], apart := false, laid := [("daybook/day.monthDays", laid_daybook_day_monthDays)] }
def DayMonthsSaid : Prop := dayMonthsRow.holds Tryd.pinned (OpenSpec.ofChange dayMonthsSpec)

/-- ITS FALSE NEIGHBOUR: 'it returns false'. Refute it at one input. -/
def dayMonthsWrong : ChangeSpec := { name := "dayMonths", fn := fun _ => fun
  | [d1, d2] => { results := [.lit (.bool false)], args := [d1, d2] }
  | _ => none }
def DayMonthsWrongFalsely : Prop := dayMonthsRow.holds Tryd.pinned (OpenSpec.ofChange dayMonthsWrong)

/-- 'daybooklaw02.DayDates': WHATEVER THE INPUT: true; the input reads as it did. -/
def dayDatesSpec : ChangeSpec := { name := "dayDates", fn := fun _ => fun
  | [d] => { results := [.lit (.bool true)], args := [d] }
  | _ => none }
def dayDatesRow : OpenClaim := { program := "ytidjipcdnkgigaadoor", sum := "330ae54f9f0b03a56f484f9d9ff3ef513de9046edbff2bb928658e0082834a78", func := "daybook/daybooklaw02.DayDates", spec := "dayDates", named := ["daybook/day.monthDays"], apart := false, laid := [("daybook/day.monthDays", laid_daybook_day_monthDays)] }
def DayDatesSaid : Prop := dayDatesRow.holds Tryd.pinned (OpenSpec.ofChange dayDatesSpec)

/-- ITS FALSE NEIGHBOUR: 'it returns false'. Refute it at one input. -/
def dayDatesWrong : ChangeSpec := { name := "dayDates", fn := fun _ => fun
  | [d] => { results := [.lit (.bool false)], args := [d] }
  | _ => none }
def DayDatesWrongFalsely : Prop := dayDatesRow.holds Tryd.pinned (OpenSpec.ofChange dayDatesWrong)

/-- 'daybooklaw02.DayNumbers': WHATEVER THE INPUT: true; the input reads as it did. -/
def dayNumbersSpec : ChangeSpec := { name := "dayNumbers", fn := fun _ => fun
  | [d] => { results := [.lit (.bool true)], args := [d] }
  | _ => none }
def dayNumbersRow : OpenClaim := { program := "ytidjipcdnkgigaadoor", sum := "330ae54f9f0b03a56f484f9d9ff3ef513de9046edbff2bb928658e0082834a78", func := "daybook/daybooklaw02.DayNumbers", spec := "dayNumbers", named := ["daybook/day.monthDays"], apart := false, laid := [("daybook/day.monthDays", laid_daybook_day_monthDays)] }
def DayNumbersSaid : Prop := dayNumbersRow.holds Tryd.pinned (OpenSpec.ofChange dayNumbersSpec)

/-- ITS FALSE NEIGHBOUR: 'it returns false'. Refute it at one input. -/
def dayNumbersWrong : ChangeSpec := { name := "dayNumbers", fn := fun _ => fun
  | [d] => { results := [.lit (.bool false)], args := [d] }
  | _ => none }
def DayNumbersWrongFalsely : Prop := dayNumbersRow.holds Tryd.pinned (OpenSpec.ofChange dayNumbersWrong)

/-- 'daybooklaw02.DayAdds': WHATEVER THE INPUT: true; the input reads as it did. -/
def dayAddsSpec : ChangeSpec := { name := "dayAdds", fn := fun _ => fun
  | [d1, d2] => { results := [.lit (.bool true)], args := [d1, d2] }
  | _ => none }
def dayAddsRow : OpenClaim := { program := "ytidjipcdnkgigaadoor", sum := "330ae54f9f0b03a56f484f9d9ff3ef513de9046edbff2bb928658e0082834a78", func := "daybook/daybooklaw02.DayAdds", spec := "dayAdds", named := ["daybook/day.monthDays"], apart := false, laid := [("daybook/day.monthDays", laid_daybook_day_monthDays)] }
def DayAddsSaid : Prop := dayAddsRow.holds Tryd.pinned (OpenSpec.ofChange dayAddsSpec)

/-- ITS FALSE NEIGHBOUR: 'it returns false'. Refute it at one input. -/
def dayAddsWrong : ChangeSpec := { name := "dayAdds", fn := fun _ => fun
  | [d1, d2] => { results := [.lit (.bool false)], args := [d1, d2] }
  | _ => none }
def DayAddsWrongFalsely : Prop := dayAddsRow.holds Tryd.pinned (OpenSpec.ofChange dayAddsWrong)

/-- 'daybooklaw02.DayThere': WHATEVER THE INPUT: true; the input reads as it did. -/
def dayThereSpec : ChangeSpec := { name := "dayThere", fn := fun _ => fun
  | [d] => { results := [.lit (.bool true)], args := [d] }
  | _ => none }
def dayThereRow : OpenClaim := { program := "ytidjipcdnkgigaadoor", sum := "330ae54f9f0b03a56f484f9d9ff3ef513de9046edbff2bb928658e0082834a78", func := "daybook/daybooklaw02.DayThere", spec := "dayThere", named := ["daybook/day.monthDays", "internal/strconv.uint64pow10", "math/bits.deBruijn32tab", "math/bits.deBruijn64tab"], apart := false, laid := [("math/bits.deBruijn32tab", laid_math_bits_deBruijn32tab), ("math/bits.deBruijn64tab", laid_math_bits_deBruijn64tab), ("internal/strconv.uint64pow10", laid_internal_strconv_uint64pow10), ("daybook/day.monthDays", laid_daybook_day_monthDays)] }
def DayThereSaid : Prop := dayThereRow.holds Tryd.pinned (OpenSpec.ofChange dayThereSpec)

/-- ITS FALSE NEIGHBOUR: 'it returns false'. Refute it at one input. -/
def dayThereWrong : ChangeSpec := { name := "dayThere", fn := fun _ => fun
  | [d] => { results := [.lit (.bool false)], args := [d] }
  | _ => none }
def DayThereWrongFalsely : Prop := dayThereRow.holds Tryd.pinned (OpenSpec.ofChange dayThereWrong)

/-- 'daybooklaw02.DaySteps': WHATEVER THE INPUT: true; the input reads as it did. -/
def dayStepsSpec : ChangeSpec := { name := "daySteps", fn := fun _ => fun
  | [d] => { results := [.lit (.bool true)], args := [d] }
  | _ => none }
def dayStepsRow : OpenClaim := { program := "ytidjipcdnkgigaadoor", sum := "330ae54f9f0b03a56f484f9d9ff3ef513de9046edbff2bb928658e0082834a78", func := "daybook/daybooklaw02.DaySteps", spec := "daySteps", named := ["daybook/day.monthDays", "internal/strconv.uint64pow10", "math/bits.deBruijn32tab", "math/bits.deBruijn64tab"], apart := false, laid := [("math/bits.deBruijn32tab", laid_math_bits_deBruijn32tab), ("math/bits.deBruijn64tab", laid_math_bits_deBruijn64tab), ("internal/strconv.uint64pow10", laid_internal_strconv_uint64pow10), ("daybook/day.monthDays", laid_daybook_day_monthDays)] }
def DayStepsSaid : Prop := dayStepsRow.holds Tryd.pinned (OpenSpec.ofChange dayStepsSpec)

/-- ITS FALSE NEIGHBOUR: 'it returns false'. Refute it at one input. -/
def dayStepsWrong : ChangeSpec := { name := "daySteps", fn := fun _ => fun
  | [d] => { results := [.lit (.bool false)], args := [d] }
  | _ => none }
def DayStepsWrongFalsely : Prop := dayStepsRow.holds Tryd.pinned (OpenSpec.ofChange dayStepsWrong)

/-- 'daybooklaw02.DayRows': WHATEVER THE INPUT: true; the input reads as it did. -/
def dayRowsSpec : ChangeSpec := { name := "dayRows", fn := fun _ => fun
  | [d1, d2, d3] => { results := [.lit (.bool true)], args := [d1, d2, d3] }
  | _ => none }
def dayRowsRow : OpenClaim := { program := "ytidjipcdnkgigaadoor", sum := "330ae54f9f0b03a56f484f9d9ff3ef513de9046edbff2bb928658e0082834a78", func := "daybook/daybooklaw02.DayRows", spec := "dayRows", named := ["daybook/day.monthDays", "internal/strconv.uint64pow10", "math/bits.deBruijn32tab", "math/bits.deBruijn64tab"], apart := false, laid := [("math/bits.deBruijn32tab", laid_math_bits_deBruijn32tab), ("math/bits.deBruijn64tab", laid_math_bits_deBruijn64tab), ("internal/strconv.uint64pow10", laid_internal_strconv_uint64pow10), ("daybook/day.monthDays", laid_daybook_day_monthDays)] }
def DayRowsSaid : Prop := dayRowsRow.holds Tryd.pinned (OpenSpec.ofChange dayRowsSpec)

/-- ITS FALSE NEIGHBOUR: 'it returns false'. Refute it at one input. -/
def dayRowsWrong : ChangeSpec := { name := "dayRows", fn := fun _ => fun
  | [d1, d2, d3] => { results := [.lit (.bool false)], args := [d1, d2, d3] }
  | _ => none }
def DayRowsWrongFalsely : Prop := dayRowsRow.holds Tryd.pinned (OpenSpec.ofChange dayRowsWrong)

/-- 'daybooklaw02.DayCycle': WHATEVER THE INPUT: true; the input reads as it did. -/
def dayCycleSpec : ChangeSpec := { name := "dayCycle", fn := fun _ => fun
  | [d] => { results := [.lit (.bool true)], args := [d] }
  | _ => none }
def dayCycleRow : OpenClaim := { program := "ytidjipcdnkgigaadoor", sum := "330ae54f9f0b03a56f484f9d9ff3ef513de9046edbff2bb928658e0082834a78", func := "daybook/daybooklaw02.DayCycle", spec := "dayCycle", named := ["daybook/day.monthDays", "internal/strconv.uint64pow10", "math/bits.deBruijn32tab", "math/bits.deBruijn64tab"], apart := false, laid := [("math/bits.deBruijn32tab", laid_math_bits_deBruijn32tab), ("math/bits.deBruijn64tab", laid_math_bits_deBruijn64tab), ("internal/strconv.uint64pow10", laid_internal_strconv_uint64pow10), ("daybook/day.monthDays", laid_daybook_day_monthDays)] }
def DayCycleSaid : Prop := dayCycleRow.holds Tryd.pinned (OpenSpec.ofChange dayCycleSpec)

/-- ITS FALSE NEIGHBOUR: 'it returns false'. Refute it at one input. -/
def dayCycleWrong : ChangeSpec := { name := "dayCycle", fn := fun _ => fun
  | [d] => { results := [.lit (.bool false)], args := [d] }
  | _ => none }
def DayCycleWrongFalsely : Prop := dayCycleRow.holds Tryd.pinned (OpenSpec.ofChange dayCycleWrong)

/-- 'daybooklaw02.DayTexts': WHATEVER THE INPUT: true; the input reads as it did. -/
def dayTextsSpec : ChangeSpec := { name := "dayTexts", fn := fun _ => fun
  | [d1, d2] => { results := [.lit (.bool true)], args := [d1, d2] }
  | _ => none }
def dayTextsRow : OpenClaim := { program := "ytidjipcdnkgigaadoor", sum := "330ae54f9f0b03a56f484f9d9ff3ef513de9046edbff2bb928658e0082834a78", func := "daybook/daybooklaw02.DayTexts", spec := "dayTexts", named := ["daybook/day.monthDays", "internal/strconv.uint64pow10", "math/bits.deBruijn32tab", "math/bits.deBruijn64tab"], apart := false, laid := [("math/bits.deBruijn32tab", laid_math_bits_deBruijn32tab), ("math/bits.deBruijn64tab", laid_math_bits_deBruijn64tab), ("internal/strconv.uint64pow10", laid_internal_strconv_uint64pow10), ("daybook/day.monthDays", laid_daybook_day_monthDays)] }
def DayTextsSaid : Prop := dayTextsRow.holds Tryd.pinned (OpenSpec.ofChange dayTextsSpec)

/-- ITS FALSE NEIGHBOUR: 'it returns false'. Refute it at one input. -/
def dayTextsWrong : ChangeSpec := { name := "dayTexts", fn := fun _ => fun
  | [d1, d2] => { results := [.lit (.bool false)], args := [d1, d2] }
  | _ => none }
def DayTextsWrongFalsely : Prop := dayTextsRow.holds Tryd.pinned (OpenSpec.ofChange dayTextsWrong)

/-- 'daybooklaw02.DayBack': WHATEVER THE INPUT: true; the input reads as it did. -/
def dayBackSpec : ChangeSpec := { name := "dayBack", fn := fun _ => fun
  | [d1, d2] => { results := [.lit (.bool true)], args := [d1, d2] }
  | _ => none }
def dayBackRow : OpenClaim := { program := "ytidjipcdnkgigaadoor", sum := "330ae54f9f0b03a56f484f9d9ff3ef513de9046edbff2bb928658e0082834a78", func := "daybook/daybooklaw02.DayBack", spec := "dayBack", named := ["daybook/day.monthDays", "internal/strconv.uint64pow10", "math/bits.deBruijn32tab", "math/bits.deBruijn64tab"], apart := false, laid := [("math/bits.deBruijn32tab", laid_math_bits_deBruijn32tab), ("math/bits.deBruijn64tab", laid_math_bits_deBruijn64tab), ("internal/strconv.uint64pow10", laid_internal_strconv_uint64pow10), ("daybook/day.monthDays", laid_daybook_day_monthDays)] }
def DayBackSaid : Prop := dayBackRow.holds Tryd.pinned (OpenSpec.ofChange dayBackSpec)

/-- ITS FALSE NEIGHBOUR: 'it returns false'. Refute it at one input. -/
def dayBackWrong : ChangeSpec := { name := "dayBack", fn := fun _ => fun
  | [d1, d2] => { results := [.lit (.bool false)], args := [d1, d2] }
  | _ => none }
def DayBackWrongFalsely : Prop := dayBackRow.holds Tryd.pinned (OpenSpec.ofChange dayBackWrong)

/-- 'daybooklaw02.DayMonthEnds': WHATEVER THE INPUT: true; the input reads as it did. -/
def dayMonthEndsSpec : ChangeSpec := { name := "dayMonthEnds", fn := fun _ => fun
  | [d1, d2] => { results := [.lit (.bool true)], args := [d1, d2] }
  | _ => none }
def dayMonthEndsRow : OpenClaim := { program := "ytidjipcdnkgigaadoor", sum := "330ae54f9f0b03a56f484f9d9ff3ef513de9046edbff2bb928658e0082834a78", func := "daybook/daybooklaw02.DayMonthEnds", spec := "dayMonthEnds", named := ["daybook/day.monthDays", "internal/strconv.uint64pow10", "math/bits.deBruijn32tab", "math/bits.deBruijn64tab"], apart := false, laid := [("math/bits.deBruijn32tab", laid_math_bits_deBruijn32tab), ("math/bits.deBruijn64tab", laid_math_bits_deBruijn64tab), ("internal/strconv.uint64pow10", laid_internal_strconv_uint64pow10), ("daybook/day.monthDays", laid_daybook_day_monthDays)] }
def DayMonthEndsSaid : Prop := dayMonthEndsRow.holds Tryd.pinned (OpenSpec.ofChange dayMonthEndsSpec)

/-- ITS FALSE NEIGHBOUR: 'it returns false'. Refute it at one input. -/
def dayMonthEndsWrong : ChangeSpec := { name := "dayMonthEnds", fn := fun _ => fun
  | [d1, d2] => { results := [.lit (.bool false)], args := [d1, d2] }
  | _ => none }
def DayMonthEndsWrongFalsely : Prop := dayMonthEndsRow.holds Tryd.pinned (OpenSpec.ofChange dayMonthEndsWrong)

/- THE SECOND FORM. 'bulk': how many values and letters a reading holds, each counted each time it is reached (what is shared counts as often as it is met; a slice's spare places count too). A statement '..UptoSaid' is the law's where the arguments, and the package variables that the reading takes, are together of bulk at most 1048576: NARROWER than '..Said'. Prove '..Said' where nothing that the law and all that it calls make is longer than what came in: it says more and counts as full. Else prove '..UptoSaid'. A law counts once. -/
mutual
def uptoBulk {H : Type} : DataW H → Nat
  | .lit (.string bytes) => bytes.length + 1
  | .lit _ => 1
  | .nil => 1
  | .ptr d => uptoBulk d + 1
  | .slice elems spare => uptoBulkAll elems + uptoBulkAll spare + 1
  | .agg parts => uptoBulkAll parts + 1
  | .iface _ d => uptoBulk d + 1
  | .map entries => uptoBulkEntries entries + 1
  | .held _ => 1
def uptoBulkAll {H : Type} : List (DataW H) → Nat
  | [] => 0
  | d :: r => uptoBulk d + uptoBulkAll r
def uptoBulkEntries {H : Type} : List (Lit × DataW H) → Nat
  | [] => 0
  | x :: r => uptoBulkEntry x + uptoBulkEntries r
def uptoBulkEntry {H : Type} : Lit × DataW H → Nat
  | (.string bytes, d) => bytes.length + uptoBulk d + 1
  | (_, d) => uptoBulk d + 1
 end
def uptoSmall : (H : Type) → List (DataW H) → Bool := fun _ ds => decide (uptoBulkAll ds ≤ 1048576)
def OpenSpec.upto (s : _root_.Go.ChangeSpec) : _root_.Go.OpenSpec := { _root_.Go.OpenSpec.ofChange s with cond := some uptoSmall }

/-- 'daybooklaw02.DayMonths', WHERE WHAT IT READS IS OF BULK AT MOST 1048576: true; the input reads as it did. -/
def dayMonthsUptoRow : OpenClaim := { program := "ytidjipcdnkgigaadoor", sum := "330ae54f9f0b03a56f484f9d9ff3ef513de9046edbff2bb928658e0082834a78", func := "daybook/daybooklaw02.DayMonths", spec := "dayMonths", named := ["daybook/day.monthDays"], apart := false, laid := [("daybook/day.monthDays", laid_daybook_day_monthDays)], narrowed := true }
def DayMonthsUptoSaid : Prop := dayMonthsUptoRow.holds Tryd.pinned (OpenSpec.upto dayMonthsSpec)

/-- 'daybooklaw02.DayDates', WHERE WHAT IT READS IS OF BULK AT MOST 1048576: true; the input reads as it did. -/
def dayDatesUptoRow : OpenClaim := { program := "ytidjipcdnkgigaadoor", sum := "330ae54f9f0b03a56f484f9d9ff3ef513de9046edbff2bb928658e0082834a78", func := "daybook/daybooklaw02.DayDates", spec := "dayDates", named := ["daybook/day.monthDays"], apart := false, laid := [("daybook/day.monthDays", laid_daybook_day_monthDays)], narrowed := true }
def DayDatesUptoSaid : Prop := dayDatesUptoRow.holds Tryd.pinned (OpenSpec.upto dayDatesSpec)

/-- 'daybooklaw02.DayNumbers', WHERE WHAT IT READS IS OF BULK AT MOST 1048576: true; the input reads as it did. -/
def dayNumbersUptoRow : OpenClaim := { program := "ytidjipcdnkgigaadoor", sum := "330ae54f9f0b03a56f484f9d9ff3ef513de9046edbff2bb928658e0082834a78", func := "daybook/daybooklaw02.DayNumbers", spec := "dayNumbers", named := ["daybook/day.monthDays"], apart := false, laid := [("daybook/day.monthDays", laid_daybook_day_monthDays)], narrowed := true }
def DayNumbersUptoSaid : Prop := dayNumbersUptoRow.holds Tryd.pinned (OpenSpec.upto dayNumbersSpec)

/-- 'daybooklaw02.DayAdds', WHERE WHAT IT READS IS OF BULK AT MOST 1048576: true; the input reads as it did. -/
def dayAddsUptoRow : OpenClaim := { program := "ytidjipcdnkgigaadoor", sum := "330ae54f9f0b03a56f484f9d9ff3ef513de9046edbff2bb928658e0082834a78", func := "daybook/daybooklaw02.DayAdds", spec := "dayAdds", named := ["daybook/day.monthDays"], apart := false, laid := [("daybook/day.monthDays", laid_daybook_day_monthDays)], narrowed := true }
def DayAddsUptoSaid : Prop := dayAddsUptoRow.holds Tryd.pinned (OpenSpec.upto dayAddsSpec)

/-- 'daybooklaw02.DayThere', WHERE WHAT IT READS IS OF BULK AT MOST 1048576: true; the input reads as it did. -/
def dayThereUptoRow : OpenClaim := { program := "ytidjipcdnkgigaadoor", sum := "330ae54f9f0b03a56f484f9d9ff3ef513de9046edbff2bb928658e0082834a78", func := "daybook/daybooklaw02.DayThere", spec := "dayThere", named := ["daybook/day.monthDays", "internal/strconv.uint64pow10", "math/bits.deBruijn32tab", "math/bits.deBruijn64tab"], apart := false, laid := [("math/bits.deBruijn32tab", laid_math_bits_deBruijn32tab), ("math/bits.deBruijn64tab", laid_math_bits_deBruijn64tab), ("internal/strconv.uint64pow10", laid_internal_strconv_uint64pow10), ("daybook/day.monthDays", laid_daybook_day_monthDays)], narrowed := true }
def DayThereUptoSaid : Prop := dayThereUptoRow.holds Tryd.pinned (OpenSpec.upto dayThereSpec)

/-- 'daybooklaw02.DaySteps', WHERE WHAT IT READS IS OF BULK AT MOST 1048576: true; the input reads as it did. -/
def dayStepsUptoRow : OpenClaim := { program := "ytidjipcdnkgigaadoor", sum := "330ae54f9f0b03a56f484f9d9ff3ef513de9046edbff2bb928658e0082834a78", func := "daybook/daybooklaw02.DaySteps", spec := "daySteps", named := ["daybook/day.monthDays", "internal/strconv.uint64pow10", "math/bits.deBruijn32tab", "math/bits.deBruijn64tab"], apart := false, laid := [("math/bits.deBruijn32tab", laid_math_bits_deBruijn32tab), ("math/bits.deBruijn64tab", laid_math_bits_deBruijn64tab), ("internal/strconv.uint64pow10", laid_internal_strconv_uint64pow10), ("daybook/day.monthDays", laid_daybook_day_monthDays)], narrowed := true }
def DayStepsUptoSaid : Prop := dayStepsUptoRow.holds Tryd.pinned (OpenSpec.upto dayStepsSpec)

/-- 'daybooklaw02.DayRows', WHERE WHAT IT READS IS OF BULK AT MOST 1048576: true; the input reads as it did. -/
def dayRowsUptoRow : OpenClaim := { program := "ytidjipcdnkgigaadoor", sum := "330ae54f9f0b03a56f484f9d9ff3ef513de9046edbff2bb928658e0082834a78", func := "daybook/daybooklaw02.DayRows", spec := "dayRows", named := ["daybook/day.monthDays", "internal/strconv.uint64pow10", "math/bits.deBruijn32tab", "math/bits.deBruijn64tab"], apart := false, laid := [("math/bits.deBruijn32tab", laid_math_bits_deBruijn32tab), ("math/bits.deBruijn64tab", laid_math_bits_deBruijn64tab), ("internal/strconv.uint64pow10", laid_internal_strconv_uint64pow10), ("daybook/day.monthDays", laid_daybook_day_monthDays)], narrowed := true }
def DayRowsUptoSaid : Prop := dayRowsUptoRow.holds Tryd.pinned (OpenSpec.upto dayRowsSpec)

/-- 'daybooklaw02.DayCycle', WHERE WHAT IT READS IS OF BULK AT MOST 1048576: true; the input reads as it did. -/
def dayCycleUptoRow : OpenClaim := { program := "ytidjipcdnkgigaadoor", sum := "330ae54f9f0b03a56f484f9d9ff3ef513de9046edbff2bb928658e0082834a78", func := "daybook/daybooklaw02.DayCycle", spec := "dayCycle", named := ["daybook/day.monthDays", "internal/strconv.uint64pow10", "math/bits.deBruijn32tab", "math/bits.deBruijn64tab"], apart := false, laid := [("math/bits.deBruijn32tab", laid_math_bits_deBruijn32tab), ("math/bits.deBruijn64tab", laid_math_bits_deBruijn64tab), ("internal/strconv.uint64pow10", laid_internal_strconv_uint64pow10), ("daybook/day.monthDays", laid_daybook_day_monthDays)], narrowed := true }
def DayCycleUptoSaid : Prop := dayCycleUptoRow.holds Tryd.pinned (OpenSpec.upto dayCycleSpec)

/-- 'daybooklaw02.DayTexts', WHERE WHAT IT READS IS OF BULK AT MOST 1048576: true; the input reads as it did. -/
def dayTextsUptoRow : OpenClaim := { program := "ytidjipcdnkgigaadoor", sum := "330ae54f9f0b03a56f484f9d9ff3ef513de9046edbff2bb928658e0082834a78", func := "daybook/daybooklaw02.DayTexts", spec := "dayTexts", named := ["daybook/day.monthDays", "internal/strconv.uint64pow10", "math/bits.deBruijn32tab", "math/bits.deBruijn64tab"], apart := false, laid := [("math/bits.deBruijn32tab", laid_math_bits_deBruijn32tab), ("math/bits.deBruijn64tab", laid_math_bits_deBruijn64tab), ("internal/strconv.uint64pow10", laid_internal_strconv_uint64pow10), ("daybook/day.monthDays", laid_daybook_day_monthDays)], narrowed := true }
def DayTextsUptoSaid : Prop := dayTextsUptoRow.holds Tryd.pinned (OpenSpec.upto dayTextsSpec)

/-- 'daybooklaw02.DayBack', WHERE WHAT IT READS IS OF BULK AT MOST 1048576: true; the input reads as it did. -/
def dayBackUptoRow : OpenClaim := { program := "ytidjipcdnkgigaadoor", sum := "330ae54f9f0b03a56f484f9d9ff3ef513de9046edbff2bb928658e0082834a78", func := "daybook/daybooklaw02.DayBack", spec := "dayBack", named := ["daybook/day.monthDays", "internal/strconv.uint64pow10", "math/bits.deBruijn32tab", "math/bits.deBruijn64tab"], apart := false, laid := [("math/bits.deBruijn32tab", laid_math_bits_deBruijn32tab), ("math/bits.deBruijn64tab", laid_math_bits_deBruijn64tab), ("internal/strconv.uint64pow10", laid_internal_strconv_uint64pow10), ("daybook/day.monthDays", laid_daybook_day_monthDays)], narrowed := true }
def DayBackUptoSaid : Prop := dayBackUptoRow.holds Tryd.pinned (OpenSpec.upto dayBackSpec)

/-- 'daybooklaw02.DayMonthEnds', WHERE WHAT IT READS IS OF BULK AT MOST 1048576: true; the input reads as it did. -/
def dayMonthEndsUptoRow : OpenClaim := { program := "ytidjipcdnkgigaadoor", sum := "330ae54f9f0b03a56f484f9d9ff3ef513de9046edbff2bb928658e0082834a78", func := "daybook/daybooklaw02.DayMonthEnds", spec := "dayMonthEnds", named := ["daybook/day.monthDays", "internal/strconv.uint64pow10", "math/bits.deBruijn32tab", "math/bits.deBruijn64tab"], apart := false, laid := [("math/bits.deBruijn32tab", laid_math_bits_deBruijn32tab), ("math/bits.deBruijn64tab", laid_math_bits_deBruijn64tab), ("internal/strconv.uint64pow10", laid_internal_strconv_uint64pow10), ("daybook/day.monthDays", laid_daybook_day_monthDays)], narrowed := true }
def DayMonthEndsUptoSaid : Prop := dayMonthEndsUptoRow.holds Tryd.pinned (OpenSpec.upto dayMonthEndsSpec)

end Rows
end Go.Proofs.YtidjipcdnkgigaaDoor
