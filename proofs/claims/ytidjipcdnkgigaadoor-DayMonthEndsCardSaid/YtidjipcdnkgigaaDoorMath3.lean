/- Plain arithmetic of the calendar, continued: months on and back. -/
import Derived.Test.YtidjipcdnkgigaaDoorMath2
namespace DayMath

/-- the date that AddMonths comes to -/
theorem addMonths_date (n k : Int) (h : monthsOK n k) :
    dY (addMonths n k) = monthsOn n k / 12 ∧ dM (addMonths n k) = monthsOn n k % 12 + 1 ∧
    dD (addMonths n k) = (if dim (monthsOn n k / 12) (monthsOn n k % 12 + 1) < dD n then dim (monthsOn n k / 12) (monthsOn n k % 12 + 1) else dD n) ∧ 1 ≤ addMonths n k ∧ addMonths n k ≤ 3652059 := by
  unfold monthsOK at h
  obtain ⟨h1, h2, h3, h4, h5, h6⟩ := h
  have hv := months_valid (monthsOn n k) (dD n) h5 h6 (date_spec n h1 h2).1.2.2.2.2.1
  obtain ⟨a, b, c⟩ := date_of (n := addMonths n k) hv rfl
  have hb := num_bd hv
  exact ⟨a.symm, b.symm, c.symm, hb.1, hb.2⟩

/-- months on, and back -/
theorem months_back (n k : Int) (h : monthsOK n k) : monthsOK (addMonths n k) (-k) ∧ addMonths (addMonths n k) (-k) ≤ n ∧ n - dD n + 1 ≤ addMonths (addMonths n k) (-k) := by
  obtain ⟨e1, e2, e3, b1, b2⟩ := addMonths_date n k h
  unfold monthsOK at h
  obtain ⟨h1, h2, h3, h4, h5, h6⟩ := h
  obtain ⟨⟨v1, v2, v3, v4, v5, v6⟩, hn⟩ := date_spec n h1 h2
  have hT : monthsOn (addMonths n k) (-k) = 12 * dY n + dM n - 1 := by
    unfold monthsOn at e1 e2 ⊢
    rw [e1, e2]
    omega
  have hq : (12 * dY n + dM n - 1) / 12 = dY n := by omega
  have hr : (12 * dY n + dM n - 1) % 12 + 1 = dM n := by omega
  have hdb := dim_bd (monthsOn n k / 12) (monthsOn n k % 12 + 1)
  have hd2 : 1 ≤ dD (addMonths n k) ∧ dD (addMonths n k) ≤ dD n := by rw [e3]; split <;> omega
  have hA : addMonths (addMonths n k) (-k) = num (dY n) (dM n) (dD (addMonths n k)) := by
    unfold addMonths
    rw [show monthsOn (num (monthsOn n k / 12) (monthsOn n k % 12 + 1) (if dim (monthsOn n k / 12) (monthsOn n k % 12 + 1) < dD n then dim (monthsOn n k / 12) (monthsOn n k % 12 + 1) else dD n)) (-k) = 12 * dY n + dM n - 1 from hT, hq, hr]
    have hd3 : ¬ dim (dY n) (dM n) < dD (addMonths n k) := by omega
    unfold addMonths at hd3
    rw [if_neg hd3]
  refine ⟨⟨b1, b2, by omega, by omega, by rw [hT]; omega, by rw [hT]; omega⟩, ?_, ?_⟩
  · rw [hA]; unfold num at hn ⊢; omega
  · rw [hA]; unfold num at hn ⊢; omega

/-- a year on: the same day, but for the 29th of February -/
theorem year_ok (n : Int) (h1 : 1 ≤ n) (h2 : n ≤ 3652059) (hy : dY n < 9999) : monthsOK n 12 := by
  obtain ⟨⟨v1, v2, v3, v4, v5, v6⟩, hn⟩ := date_spec n h1 h2
  refine ⟨h1, h2, by omega, by omega, ?_, ?_⟩ <;> unfold monthsOn <;> omega
theorem year_no (n : Int) (h1 : 1 ≤ n) (h2 : n ≤ 3652059) (hy : ¬ dY n < 9999) : ¬ monthsOK n 12 := by
  obtain ⟨⟨v1, v2, v3, v4, v5, v6⟩, hn⟩ := date_spec n h1 h2
  unfold monthsOK monthsOn
  omega
theorem year_date (n : Int) (h1 : 1 ≤ n) (h2 : n ≤ 3652059) (hy : dY n < 9999) :
    dY (addMonths n 12) = dY n + 1 ∧ dM (addMonths n 12) = dM n ∧ dD (addMonths n 12) = (if dim (dY n + 1) (dM n) < dD n then dim (dY n + 1) (dM n) else dD n) ∧ 1 ≤ addMonths n 12 ∧ addMonths n 12 ≤ 3652059 := by
  obtain ⟨⟨v1, v2, v3, v4, v5, v6⟩, hn⟩ := date_spec n h1 h2
  obtain ⟨e1, e2, e3, b1, b2⟩ := addMonths_date n 12 (year_ok n h1 h2 hy)
  have hq : monthsOn n 12 / 12 = dY n + 1 := by unfold monthsOn; omega
  have hr : monthsOn n 12 % 12 + 1 = dM n := by unfold monthsOn; omega
  rw [hq] at e1 e3
  rw [hr] at e2 e3
  exact ⟨e1, e2, e3, b1, b2⟩
theorem dim_same (y y' m : Int) (h : m ≠ 2) : dim y m = dim y' m := by unfold dim; rw [if_neg h, if_neg h]
theorem year_plain (n : Int) (h1 : 1 ≤ n) (h2 : n ≤ 3652059) (hy : dY n < 9999) (hm : dM n ≠ 2 ∨ dD n ≠ 29) :
    dY (addMonths n 12) = dY n + 1 ∧ dM (addMonths n 12) = dM n ∧ dD (addMonths n 12) = dD n := by
  obtain ⟨⟨v1, v2, v3, v4, v5, v6⟩, hn⟩ := date_spec n h1 h2
  obtain ⟨e1, e2, e3, _⟩ := year_date n h1 h2 hy
  refine ⟨e1, e2, ?_⟩
  rw [e3, if_neg]
  by_cases hm2 : dM n = 2
  · have : dD n ≠ 29 := by rcases hm with a | a; exact absurd hm2 a; exact a
    have := lp_01 (dY n)
    have a : dim (dY n) (dM n) = 28 + lp (dY n) := by rw [hm2]; simp [dim]
    have b := dim_bd (dY n + 1) (dM n)
    omega
  · rw [dim_same (dY n + 1) (dY n) _ hm2]; omega
theorem year_short (n : Int) (h1 : 1 ≤ n) (h2 : n ≤ 3652059) (hy : dY n < 9999) (hm : dM n = 2) (hd : dD n = 29) :
    ¬ leapP (dY n + 1) ∧ dY (addMonths n 12) = dY n + 1 ∧ dM (addMonths n 12) = dM n ∧ dD (addMonths n 12) = 28 := by
  obtain ⟨⟨v1, v2, v3, v4, v5, v6⟩, hn⟩ := date_spec n h1 h2
  obtain ⟨e1, e2, e3, _⟩ := year_date n h1 h2 hy
  have a : dim (dY n) (dM n) = 28 + lp (dY n) := by rw [hm]; simp [dim]
  have hl : leapP (dY n) := by
    by_cases h : leapP (dY n)
    · exact h
    · have : lp (dY n) = 0 := by unfold lp; rw [if_neg h]
      omega
  have hl2 : ¬ leapP (dY n + 1) := by unfold leapP at hl ⊢; omega
  have b : dim (dY n + 1) (dM n) = 28 := by rw [hm]; simp [dim, lp, hl2]
  refine ⟨hl2, e1, e2, ?_⟩
  rw [e3, b, if_pos (by omega)]
end DayMath
