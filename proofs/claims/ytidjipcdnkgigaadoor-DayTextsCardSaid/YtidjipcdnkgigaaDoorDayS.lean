/- The outright laws DaySteps, DayRows, DayCycle, walked. -/
import Derived.Test.YtidjipcdnkgigaaDoorDayR
import Derived.Test.YtidjipcdnkgigaaDoorMath2
import Derived.OpenShut
namespace Go.Proofs.YtidjipcdnkgigaaDoor
set_option linter.unusedVariables false
set_option linter.unusedSimpArgs false
open Go.RowKit Go.ChangeShapes Go.WideShapes
open DayMath (leapP lp dim long cum num valid dY dM dD monthsOn monthsOK)

/-- the day of the week -/
def wk (n : Int) : Int := (n - 1) % 7 + 1
theorem wk_bd (n : Int) : 1 ≤ wk n ∧ wk n ≤ 7 := by unfold wk; omega
theorem wk_next (n : Int) : (wk (n + 1) == wk n % 7 + 1) = true := by rw [beq_iff_eq]; unfold wk; omega
theorem wk_cycle (n : Int) : wk (n + 146097) = wk n := by unfold wk; omega
theorem week_wk (n : Int) (w : World) (h1 : 1 ≤ n) (h2 : n ≤ 3652059) :
    Calls Tryd.prog 27 #[.int .i64 n] w fun e w' => e = .returned (.tuple #[.int .i64 (wk n), .int .i64 0]) ∧ w = w' := week_yes n w h1 h2
/-- To, of a day whose date is known -/
theorem to_is (n y m d : Int) (w : World) (hL : LD w) (h1 : 1 ≤ n) (h2 : n ≤ 3652059) (h : dY n = y ∧ dM n = m ∧ dD n = d) :
    Calls Tryd.prog 21 #[.int .i64 n] w fun e w' => e = .returned (.tuple #[.agg #[.int .i64 y, .int .i64 m, .int .i64 d], .int .i64 0]) ∧ Below w.heap.size w w' := by
  obtain ⟨rfl, rfl, rfl⟩ := h
  exact to_any n w hL h1 h2

set_option maxHeartbeats 4000000 in
theorem daySteps_same (n N : Int) (w : World) (hL : LW w) (n1 : -9223372036854775808 ≤ n) (n2 : n ≤ 9223372036854775807) (hN : dayOf n = N) (N1 : 1 ≤ N) (N2 : N < 3652059) (hc : dD N + 1 ≤ dim (dY N) (dM N)) :
    Calls Tryd.prog 8 #[.int .i64 n] w fun e w' => e = .returned (.bool true) ∧ Below w.heap.size w w' := by
  have HN := Lib.hid hN
  clear hN
  have HX := Lib.hid (DayMath.next_same N N1 N2 hc)
  obtain ⟨v1, v2, v3, v4, v5, v6⟩ := (DayMath.date_spec N N1 (by omega)).1
  have hmx : (N == 3652059) = false := by rw [beq_eq_false_iff_ne]; omega
  have HM := Lib.hid (show monthB (dY N) (dM N) from ⟨v1, v2, v3, v4⟩)
  have hdb := DayMath.dim_bd (dY N) (dM N)
  have hwb := wk_bd N
  have hwn := wk_next N
  have HL := Lib.hid hL
  clear hL
  go_enter Tryd.func8, Tryd.ntmps8
  go_wp2_with fail
  refine (lawfirst _ HL.out).mono ?_
  rintro e w1 ⟨rfl, hb1⟩
  go_wp2_with fail
  refine (within_any _ _ n1 n2).mono ?_
  rintro e w2 ⟨rfl, rfl⟩
  have E := HN.out
  rw [E]
  clear E
  go_wp2_with fail
  refine (to_any _ _ (HL.out.below hb1).md (by omega) (by omega)).mono ?_
  rintro e w3 ⟨rfl, hb3⟩
  go_wp2_with (go_at_call 27; refine (week_wk _ _ (by omega) (by omega)).mono ?_; rintro e w' ⟨rfl, rfl⟩)
  refine (days_yes _ _ _ (HL.out.below (by repeat (first | exact Below.refl _ _ | apply fm_alloc | apply fm_drewN | apply fm_drew | refine fm_call ?_ (by assumption)))).md HM.out).mono ?_
  rintro e w5 ⟨rfl, rfl⟩
  go_wp2_with fail
  refine (to_is _ _ _ _ _ (HL.out.below (by repeat (first | exact Below.refl _ _ | apply fm_alloc | apply fm_drewN | apply fm_drew | refine fm_call ?_ (by assumption)))).md (by omega) (by omega) HX.out).mono ?_
  rintro e w6 ⟨rfl, hb6⟩
  obtain ⟨hc6, hf6⟩ := bcell hb6
  have hz6 : w3.heap.size + 1 < w6.heap.size := by have := hb6.size; simp at this; omega
  go_wp2_with fail
  refine (week_wk _ _ (by omega) (by omega)).mono ?_
  rintro e w7 ⟨rfl, rfl⟩
  go_wp2
  go_ret
  exact ⟨by first | rfl | simp, by repeat (first | exact Below.refl _ _ | apply fm_alloc | apply fm_drewN | apply fm_drew | refine fm_call ?_ (by assumption))⟩

set_option maxHeartbeats 4000000 in
theorem daySteps_month (n N : Int) (w : World) (hL : LW w) (n1 : -9223372036854775808 ≤ n) (n2 : n ≤ 9223372036854775807) (hN : dayOf n = N) (N1 : 1 ≤ N) (N2 : N < 3652059) (hc : dim (dY N) (dM N) < dD N + 1) (hm : dM N < 12) :
    Calls Tryd.prog 8 #[.int .i64 n] w fun e w' => e = .returned (.bool true) ∧ Below w.heap.size w w' := by
  have HN := Lib.hid hN
  clear hN
  have HX := Lib.hid (DayMath.next_month N N1 N2 hc hm)
  obtain ⟨v1, v2, v3, v4, v5, v6⟩ := (DayMath.date_spec N N1 (by omega)).1
  have hmx : (N == 3652059) = false := by rw [beq_eq_false_iff_ne]; omega
  have hm2 : dM N + 1 ≤ 12 := by omega
  have HM := Lib.hid (show monthB (dY N) (dM N) from ⟨v1, v2, v3, v4⟩)
  have hdb := DayMath.dim_bd (dY N) (dM N)
  have hwb := wk_bd N
  have hwn := wk_next N
  have HL := Lib.hid hL
  clear hL
  go_enter Tryd.func8, Tryd.ntmps8
  go_wp2_with fail
  refine (lawfirst _ HL.out).mono ?_
  rintro e w1 ⟨rfl, hb1⟩
  go_wp2_with fail
  refine (within_any _ _ n1 n2).mono ?_
  rintro e w2 ⟨rfl, rfl⟩
  have E := HN.out
  rw [E]
  clear E
  go_wp2_with fail
  refine (to_any _ _ (HL.out.below hb1).md (by omega) (by omega)).mono ?_
  rintro e w3 ⟨rfl, hb3⟩
  go_wp2_with (go_at_call 27; refine (week_wk _ _ (by omega) (by omega)).mono ?_; rintro e w' ⟨rfl, rfl⟩)
  refine (days_yes _ _ _ (HL.out.below (by repeat (first | exact Below.refl _ _ | apply fm_alloc | apply fm_drewN | apply fm_drew | refine fm_call ?_ (by assumption)))).md HM.out).mono ?_
  rintro e w5 ⟨rfl, rfl⟩
  go_wp2_with fail
  refine (to_is _ _ _ _ _ (HL.out.below (by repeat (first | exact Below.refl _ _ | apply fm_alloc | apply fm_drewN | apply fm_drew | refine fm_call ?_ (by assumption)))).md (by omega) (by omega) HX.out).mono ?_
  rintro e w6 ⟨rfl, hb6⟩
  obtain ⟨hc6, hf6⟩ := bcell hb6
  have hz6 : w3.heap.size + 1 < w6.heap.size := by have := hb6.size; simp at this; omega
  go_wp2_with fail
  refine (week_wk _ _ (by omega) (by omega)).mono ?_
  rintro e w7 ⟨rfl, rfl⟩
  go_wp2
  go_ret
  exact ⟨by first | rfl | simp, by repeat (first | exact Below.refl _ _ | apply fm_alloc | apply fm_drewN | apply fm_drew | refine fm_call ?_ (by assumption))⟩

set_option maxHeartbeats 4000000 in
theorem daySteps_year (n N : Int) (w : World) (hL : LW w) (n1 : -9223372036854775808 ≤ n) (n2 : n ≤ 9223372036854775807) (hN : dayOf n = N) (N1 : 1 ≤ N) (N2 : N < 3652059) (hc : dim (dY N) (dM N) < dD N + 1) (hm : ¬ dM N < 12) :
    Calls Tryd.prog 8 #[.int .i64 n] w fun e w' => e = .returned (.bool true) ∧ Below w.heap.size w w' := by
  have HN := Lib.hid hN
  clear hN
  have HX := Lib.hid (DayMath.next_year N N1 N2 hc hm)
  obtain ⟨v1, v2, v3, v4, v5, v6⟩ := (DayMath.date_spec N N1 (by omega)).1
  have hmx : (N == 3652059) = false := by rw [beq_eq_false_iff_ne]; omega
  have hm2 : 12 < dM N + 1 := by omega
  have HM := Lib.hid (show monthB (dY N) (dM N) from ⟨v1, v2, v3, v4⟩)
  have hdb := DayMath.dim_bd (dY N) (dM N)
  have hwb := wk_bd N
  have hwn := wk_next N
  have HL := Lib.hid hL
  clear hL
  go_enter Tryd.func8, Tryd.ntmps8
  go_wp2_with fail
  refine (lawfirst _ HL.out).mono ?_
  rintro e w1 ⟨rfl, hb1⟩
  go_wp2_with fail
  refine (within_any _ _ n1 n2).mono ?_
  rintro e w2 ⟨rfl, rfl⟩
  have E := HN.out
  rw [E]
  clear E
  go_wp2_with fail
  refine (to_any _ _ (HL.out.below hb1).md (by omega) (by omega)).mono ?_
  rintro e w3 ⟨rfl, hb3⟩
  go_wp2_with (go_at_call 27; refine (week_wk _ _ (by omega) (by omega)).mono ?_; rintro e w' ⟨rfl, rfl⟩)
  refine (days_yes _ _ _ (HL.out.below (by repeat (first | exact Below.refl _ _ | apply fm_alloc | apply fm_drewN | apply fm_drew | refine fm_call ?_ (by assumption)))).md HM.out).mono ?_
  rintro e w5 ⟨rfl, rfl⟩
  go_wp2_with fail
  refine (to_is _ _ _ _ _ (HL.out.below (by repeat (first | exact Below.refl _ _ | apply fm_alloc | apply fm_drewN | apply fm_drew | refine fm_call ?_ (by assumption)))).md (by omega) (by omega) HX.out).mono ?_
  rintro e w6 ⟨rfl, hb6⟩
  obtain ⟨hc6, hf6⟩ := bcell hb6
  have hz6 : w3.heap.size + 1 < w6.heap.size := by have := hb6.size; simp at this; omega
  go_wp2_with fail
  refine (week_wk _ _ (by omega) (by omega)).mono ?_
  rintro e w7 ⟨rfl, rfl⟩
  go_wp2
  go_ret
  exact ⟨by first | rfl | simp, by repeat (first | exact Below.refl _ _ | apply fm_alloc | apply fm_drewN | apply fm_drew | refine fm_call ?_ (by assumption))⟩

set_option maxHeartbeats 4000000 in
theorem daySteps_last (n N : Int) (w : World) (hL : LW w) (n1 : -9223372036854775808 ≤ n) (n2 : n ≤ 9223372036854775807) (hN : dayOf n = N) (N1 : 1 ≤ N) (N2 : N ≤ 3652059) (N3 : 3652059 ≤ N) :
    Calls Tryd.prog 8 #[.int .i64 n] w fun e w' => e = .returned (.bool true) ∧ Below w.heap.size w w' := by
  have HN := Lib.hid hN
  clear hN
  have hD : dY N = 9999 ∧ dM N = 12 ∧ dD N = 31 := by
    have e : N = 3652059 := by omega
    rw [e]; exact DayMath.max_date
  have hc : dim (dY N) (dM N) < dD N + 1 := by rw [hD.1, hD.2.1, hD.2.2]; decide
  have hm2 : 12 < dM N + 1 := by rw [hD.2.1]; omega
  clear hD
  obtain ⟨v1, v2, v3, v4, v5, v6⟩ := (DayMath.date_spec N N1 (by omega)).1
  have hmx : (N == 3652059) = true := by rw [beq_iff_eq]; omega
  have HM := Lib.hid (show monthB (dY N) (dM N) from ⟨v1, v2, v3, v4⟩)
  have hdb := DayMath.dim_bd (dY N) (dM N)
  have hwb := wk_bd N
  have hwn := wk_next N
  have HL := Lib.hid hL
  clear hL
  go_enter Tryd.func8, Tryd.ntmps8
  go_wp2_with fail
  refine (lawfirst _ HL.out).mono ?_
  rintro e w1 ⟨rfl, hb1⟩
  go_wp2_with fail
  refine (within_any _ _ n1 n2).mono ?_
  rintro e w2 ⟨rfl, rfl⟩
  have E := HN.out
  rw [E]
  clear E
  go_wp2_with fail
  refine (to_any _ _ (HL.out.below hb1).md (by omega) (by omega)).mono ?_
  rintro e w3 ⟨rfl, hb3⟩
  go_wp2_with (go_at_call 27; refine (week_wk _ _ (by omega) (by omega)).mono ?_; rintro e w' ⟨rfl, rfl⟩)
  refine (days_yes _ _ _ (HL.out.below (by repeat (first | exact Below.refl _ _ | apply fm_alloc | apply fm_drewN | apply fm_drew | refine fm_call ?_ (by assumption)))).md HM.out).mono ?_
  rintro e w5 ⟨rfl, rfl⟩
  go_wp2_with fail
  refine (to_no _ _ (Or.inr (by omega))).mono ?_
  rintro e w6 ⟨rfl, hb6⟩
  obtain ⟨hc6, hf6⟩ := bcell hb6
  have hz6 : w3.heap.size + 1 < w6.heap.size := by have := hb6.size; simp at this; omega
  go_wp2_with fail
  refine (week_no _ _ (Or.inr (by omega))).mono ?_
  rintro e w7 ⟨rfl, rfl⟩
  go_wp2
  go_ret
  exact ⟨by first | rfl | simp, by repeat (first | exact Below.refl _ _ | apply fm_alloc | apply fm_drewN | apply fm_drew | refine fm_call ?_ (by assumption))⟩

theorem daySteps_walk (n : Int) (w : World) (hw : (Lit.int .i64 n).wf = true) (hL : LW w) :
    Calls Tryd.prog 8 #[.int .i64 n] w fun e w' => e = .returned (.bool true) ∧ Below w.heap.size w w' := by
  obtain ⟨n1, n2⟩ := bounds_i64 hw
  obtain ⟨N1, N2⟩ := dayOf_bd n
  by_cases h : dayOf n = 3652059
  · exact daySteps_last n _ w hL n1 n2 rfl N1 N2 (by omega)
  · by_cases hc : dD (dayOf n) + 1 ≤ dim (dY (dayOf n)) (dM (dayOf n))
    · exact daySteps_same n _ w hL n1 n2 rfl N1 (by omega) hc
    · by_cases hm : dM (dayOf n) < 12
      · exact daySteps_month n _ w hL n1 n2 rfl N1 (by omega) (by omega) hm
      · exact daySteps_year n _ w hL n1 n2 rfl N1 (by omega) (by omega) hm

end Go.Proofs.YtidjipcdnkgigaaDoor
