/- Plain arithmetic of the calendar, continued: the next day, 400 years on. -/
import Derived.Test.YtidjipcdnkgigaaDoorMath
namespace DayMath
/-- the date of the next day -/
theorem next_same (n : Int) (h1 : 1 ≤ n) (h2 : n < 3652059) (h : dD n + 1 ≤ dim (dY n) (dM n)) : dY (n + 1) = dY n ∧ dM (n + 1) = dM n ∧ dD (n + 1) = dD n + 1 := by
  obtain ⟨⟨a1, a2, a3, a4, a5, a6⟩, hn⟩ := date_spec n h1 (by omega)
  obtain ⟨e1, e2, e3⟩ := date_of (y := dY n) (m := dM n) (d := dD n + 1) (n := n + 1) ⟨a1, a2, a3, a4, by omega, h⟩ (by unfold num at hn ⊢; omega)
  exact ⟨e1.symm, e2.symm, e3.symm⟩
theorem next_month (n : Int) (h1 : 1 ≤ n) (h2 : n < 3652059) (h : dim (dY n) (dM n) < dD n + 1) (hm : dM n < 12) : dY (n + 1) = dY n ∧ dM (n + 1) = dM n + 1 ∧ dD (n + 1) = 1 := by
  obtain ⟨⟨a1, a2, a3, a4, a5, a6⟩, hn⟩ := date_spec n h1 (by omega)
  have hb := dim_bd (dY n) (dM n + 1)
  have hs := cum_succ (dY n) (dM n) a3 a4
  obtain ⟨e1, e2, e3⟩ := date_of (y := dY n) (m := dM n + 1) (d := 1) (n := n + 1) ⟨a1, a2, by omega, by omega, by omega, by omega⟩ (by unfold num at hn ⊢; omega)
  exact ⟨e1.symm, e2.symm, e3.symm⟩
theorem num_last : num 9999 12 31 = 3652059 := by decide
theorem dim_12 (y : Int) : dim y 12 = 31 := by simp [dim]
theorem next_year (n : Int) (h1 : 1 ≤ n) (h2 : n < 3652059) (h : dim (dY n) (dM n) < dD n + 1) (hm : ¬ dM n < 12) : dY (n + 1) = dY n + 1 ∧ dM (n + 1) = 1 ∧ dD (n + 1) = 1 := by
  obtain ⟨⟨a1, a2, a3, a4, a5, a6⟩, hn⟩ := date_spec n h1 (by omega)
  have em : dM n = 12 := by omega
  rw [em] at h a6 hn
  rw [dim_12] at h a6
  have ed : dD n = 31 := by omega
  rw [ed] at hn
  have hy : dY n < 9999 := by
    rcases Int.lt_or_le (dY n) 9999 with e | e
    · exact e
    · have e : dY n = 9999 := by omega
      rw [e, num_last] at hn
      omega
  have hs := ahead_succ (dY n)
  have hc : cum (dY n) 12 + 31 = 365 + lp (dY n) := by
    have := cum_succ (dY n) 12 (by omega) (by omega)
    rw [dim_12] at this
    have h13 := cum_13 (dY n)
    have e : (12 : Int) + 1 = 13 := by omega
    rw [e] at this
    omega
  have hb := dim_bd (dY n + 1) 1
  have c1 := cum_one (dY n + 1)
  obtain ⟨e1, e2, e3⟩ := date_of (y := dY n + 1) (m := 1) (d := 1) (n := n + 1) ⟨by omega, by omega, by omega, by omega, by omega, by omega⟩ (by unfold num long at *; omega)
  exact ⟨e1.symm, e2.symm, e3.symm⟩
theorem max_date : dY 3652059 = 9999 ∧ dM 3652059 = 12 ∧ dD 3652059 = 31 := by
  obtain ⟨a, b, c⟩ := date_of (y := 9999) (m := 12) (d := 31) (n := 3652059) (by decide) num_last
  exact ⟨a.symm, b.symm, c.symm⟩
/-- 400 years on -/
theorem leap_400 (y : Int) : leapP (y + 400) ↔ leapP y := by unfold leapP; omega
theorem lp_400 (y : Int) : lp (y + 400) = lp y := by unfold lp; simp only [leap_400]
theorem dim_400 (y m : Int) : dim (y + 400) m = dim y m := by unfold dim; rw [lp_400]
theorem cum_400 (y m : Int) : cum (y + 400) m = cum y m := by unfold cum; rw [lp_400]
theorem ahead_400 (y : Int) : ahead (y + 400) = ahead y + 146097 := by unfold ahead; omega
theorem cycle (n : Int) (h1 : 1 ≤ n) (h2 : n + 146097 ≤ 3652059) : dY (n + 146097) = dY n + 400 ∧ dM (n + 146097) = dM n ∧ dD (n + 146097) = dD n := by
  obtain ⟨⟨a1, a2, a3, a4, a5, a6⟩, hn⟩ := date_spec n h1 (by omega)
  have hd := dim_400 (dY n) (dM n)
  have hc := cum_400 (dY n) (dM n)
  have ha := ahead_400 (dY n)
  have hy : dY n + 400 ≤ 9999 := by
    rcases Int.lt_or_le 9999 (dY n + 400) with e | e
    · have := ahead_mono 10000 (dY n + 400) (by omega)
      have hcb := cum_bd (dY n) (dM n) a3 (by omega)
      rw [ahead_max] at this
      unfold num at hn
      omega
    · exact e
  obtain ⟨e1, e2, e3⟩ := date_of (y := dY n + 400) (m := dM n) (d := dD n) (n := n + 146097) ⟨by omega, hy, a3, a4, a5, by omega⟩ (by unfold num at hn ⊢; omega)
  exact ⟨e1.symm, e2.symm, e3.symm⟩
end DayMath
