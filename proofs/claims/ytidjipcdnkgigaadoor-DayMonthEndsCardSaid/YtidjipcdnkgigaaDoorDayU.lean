/- The outright law DayMonthEnds, walked. -/
import Derived.Test.YtidjipcdnkgigaaDoorDayU1
import Derived.Test.YtidjipcdnkgigaaDoorDayU2
import Derived.Test.YtidjipcdnkgigaaDoorDayU3
import Derived.Test.YtidjipcdnkgigaaDoorDayU4
namespace Go.Proofs.YtidjipcdnkgigaaDoor
set_option linter.unusedVariables false
set_option linter.unusedSimpArgs false
open Go.RowKit Go.ChangeShapes Go.WideShapes
open DayMath (leapP lp dim long cum num valid dY dM dD monthsOn monthsOK)

theorem dayMonthEnds_walk (n k : Int) (w : World) (hn : (Lit.int .i64 n).wf = true) (hk : (Lit.int .i64 k).wf = true) (hL : LW w) :
    Calls Tryd.prog 13 #[.int .i64 n, .int .i64 k] w fun e w' => e = .returned (.bool true) ∧ Below w.heap.size w w' := by
  obtain ⟨n1, n2⟩ := bounds_i64 hn
  obtain ⟨k1, k2⟩ := bounds_i64 hk
  obtain ⟨N1, N2⟩ := dayOf_bd n
  by_cases hy : dY (dayOf n) < 9999
  · by_cases hm : dM (dayOf n) = 2
    · by_cases hd : dD (dayOf n) = 29
      · skip
        by_cases m1 : -9223372036854775808 = k
        · exact dayMonthEnds_c_min n k _ w hL n1 n2 k1 k2 rfl N1 N2 hy hm hd m1
        · by_cases m2 : monthsOK (dayOf n) k
          · exact dayMonthEnds_c_ok n k _ w hL n1 n2 k1 k2 rfl N1 N2 hy hm hd m1 m2
          · exact dayMonthEnds_c_no n k _ w hL n1 n2 k1 k2 rfl N1 N2 hy hm hd m1 m2
      · skip
        by_cases m1 : -9223372036854775808 = k
        · exact dayMonthEnds_b_min n k _ w hL n1 n2 k1 k2 rfl N1 N2 hy hm hd m1
        · by_cases m2 : monthsOK (dayOf n) k
          · exact dayMonthEnds_b_ok n k _ w hL n1 n2 k1 k2 rfl N1 N2 hy hm hd m1 m2
          · exact dayMonthEnds_b_no n k _ w hL n1 n2 k1 k2 rfl N1 N2 hy hm hd m1 m2
    · skip
      by_cases m1 : -9223372036854775808 = k
      · exact dayMonthEnds_a_min n k _ w hL n1 n2 k1 k2 rfl N1 N2 hy hm m1
      · by_cases m2 : monthsOK (dayOf n) k
        · exact dayMonthEnds_a_ok n k _ w hL n1 n2 k1 k2 rfl N1 N2 hy hm m1 m2
        · exact dayMonthEnds_a_no n k _ w hL n1 n2 k1 k2 rfl N1 N2 hy hm m1 m2
  · skip
    by_cases m1 : -9223372036854775808 = k
    · exact dayMonthEnds_max_min n k _ w hL n1 n2 k1 k2 rfl N1 N2 hy m1
    · by_cases m2 : monthsOK (dayOf n) k
      · exact dayMonthEnds_max_ok n k _ w hL n1 n2 k1 k2 rfl N1 N2 hy m1 m2
      · exact dayMonthEnds_max_no n k _ w hL n1 n2 k1 k2 rfl N1 N2 hy m1 m2

end Go.Proofs.YtidjipcdnkgigaaDoor
