/- Plain arithmetic of the calendar: no program in sight. -/
namespace DayMath

/-- leap year, over any integer -/
def leapP (y : Int) : Prop := (y % 4 = 0 ∧ y % 100 ≠ 0) ∨ y % 400 = 0
instance (y : Int) : Decidable (leapP y) := by unfold leapP; infer_instance
def lp (y : Int) : Int := if leapP y then 1 else 0
def dim (y m : Int) : Int :=
  if m = 2 then 28 + lp y else if m = 4 ∨ m = 6 ∨ m = 9 ∨ m = 11 then 30 else 31
def ahead (y : Int) : Int := 365 * (y - 1) + (y - 1) / 4 - (y - 1) / 100 + (y - 1) / 400
def long (y : Int) : Int := 365 + lp y
/-- days of the months ahead of month m -/
def cum (y m : Int) : Int :=
  (if m ≤ 1 then 0 else if m = 2 then 31 else if m = 3 then 59 else if m = 4 then 90 else if m = 5 then 120 else if m = 6 then 151
   else if m = 7 then 181 else if m = 8 then 212 else if m = 9 then 243 else if m = 10 then 273 else if m = 11 then 304 else if m = 12 then 334 else 365)
  + (if m ≤ 2 then 0 else lp y)
def num (y m d : Int) : Int := ahead y + cum y m + d
def valid (y m d : Int) : Prop := 1 ≤ y ∧ y ≤ 9999 ∧ 1 ≤ m ∧ m ≤ 12 ∧ 1 ≤ d ∧ d ≤ dim y m
instance (y m d : Int) : Decidable (valid y m d) := by unfold valid; infer_instance

theorem lp_01 (y : Int) : 0 ≤ lp y ∧ lp y ≤ 1 := by unfold lp; split <;> omega
theorem lp_eq (y : Int) : lp y = if leapP y then 1 else 0 := rfl
theorem dim_bd (y m : Int) : 28 ≤ dim y m ∧ dim y m ≤ 31 := by
  have := lp_01 y; unfold dim; split <;> (try split) <;> omega
theorem ahead_succ (y : Int) : ahead (y + 1) = ahead y + long y := by
  unfold ahead long lp
  by_cases h : leapP y
  · rw [if_pos h]; unfold leapP at h; omega
  · rw [if_neg h]; unfold leapP at h; omega
theorem ahead_one : ahead 1 = 0 := by decide
theorem ahead_nonneg (y : Int) (h : 1 ≤ y) : 0 ≤ ahead y := by unfold ahead; omega
theorem ahead_le (y : Int) (h0 : 1 ≤ y) (h : y ≤ 10000) : ahead y ≤ 3652059 := by unfold ahead; omega
theorem ahead_max : ahead 10000 = 3652059 := by decide
theorem ahead_mono (a b : Int) (h : a ≤ b) : ahead a ≤ ahead b := by unfold ahead; omega
theorem ahead_lt (a b : Int) (h : a < b) : ahead a + 365 ≤ ahead b := by unfold ahead; omega
theorem cum_succ (y m : Int) (h1 : 1 ≤ m) (h2 : m ≤ 12) : cum y (m + 1) = cum y m + dim y m := by
  have : m = 1 ∨ m = 2 ∨ m = 3 ∨ m = 4 ∨ m = 5 ∨ m = 6 ∨ m = 7 ∨ m = 8 ∨ m = 9 ∨ m = 10 ∨ m = 11 ∨ m = 12 := by omega
  rcases this with h | h | h | h | h | h | h | h | h | h | h | h <;> subst h <;> simp [cum, dim] <;> omega
theorem cum_one (y : Int) : cum y 1 = 0 := by simp [cum]
theorem cum_13 (y : Int) : cum y 13 = 365 + lp y := by simp [cum]
theorem cum_mono_nat (y a : Int) (h1 : 1 ≤ a) (k : Nat) : a + k ≤ 13 → cum y a ≤ cum y (a + k) := by
  induction k with
  | zero => intro _; simp
  | succ k ih =>
    intro h
    have e : a + ((k + 1 : Nat) : Int) = a + (k : Int) + 1 := by omega
    have h3 := ih (by omega)
    have h4 := cum_succ y (a + k) (by omega) (by omega)
    have h5 := dim_bd y (a + k)
    rw [e, h4]; omega
theorem cum_mono (y a b : Int) (h1 : 1 ≤ a) (h : a ≤ b) (h2 : b ≤ 13) : cum y a ≤ cum y b := by
  have := cum_mono_nat y a h1 (b - a).toNat (by omega)
  have e : a + ((b - a).toNat : Int) = b := by omega
  rwa [e] at this
theorem cum_bd (y m : Int) (h1 : 1 ≤ m) (h2 : m ≤ 13) : 0 ≤ cum y m ∧ cum y m ≤ 366 := by
  have a := cum_mono y 1 m (by omega) h1 h2
  have b := cum_mono y m 13 h1 h2 (by omega)
  have := lp_01 y
  rw [cum_one] at a; rw [cum_13] at b; omega
theorem cum_lt (y a b : Int) (h1 : 1 ≤ a) (h : a < b) (h2 : b ≤ 13) : cum y a + dim y a ≤ cum y b := by
  rw [← cum_succ y a h1 (by omega)]
  exact cum_mono y (a + 1) b (by omega) (by omega) h2

theorem num_uniq {y m d y' m' d' : Int} (v : valid y m d) (v' : valid y' m' d') (h : num y m d = num y' m' d') : y = y' ∧ m = m' ∧ d = d' := by
  unfold valid at v v'; unfold num at h
  obtain ⟨a1, a2, a3, a4, a5, a6⟩ := v
  obtain ⟨b1, b2, b3, b4, b5, b6⟩ := v'
  have c1 := cum_lt y m 13 a3 (by omega) (by omega)
  have c2 := cum_lt y' m' 13 b3 (by omega) (by omega)
  have n1 := cum_bd y m a3 (by omega)
  have n2 := cum_bd y' m' b3 (by omega)
  rw [cum_13] at c1 c2
  have hy : y = y' := by
    rcases Int.lt_trichotomy y y' with g | g | g
    · have := ahead_mono (y + 1) y' (by omega); rw [ahead_succ] at this; unfold long at this; omega
    · exact g
    · have := ahead_mono (y' + 1) y (by omega); rw [ahead_succ] at this; unfold long at this; omega
  subst hy
  have hm : m = m' := by
    rcases Int.lt_trichotomy m m' with g | g | g
    · have := cum_lt y m m' a3 g (by omega); omega
    · exact g
    · have := cum_lt y m' m b3 g (by omega); omega
  subst hm
  exact ⟨rfl, rfl, by omega⟩
theorem num_bd {y m d : Int} (v : valid y m d) : 1 ≤ num y m d ∧ num y m d ≤ 3652059 := by
  unfold valid at v; unfold num
  obtain ⟨a1, a2, a3, a4, a5, a6⟩ := v
  have c1 := cum_lt y m 13 a3 (by omega) (by omega)
  have n1 := cum_bd y m a3 (by omega)
  have := ahead_nonneg y a1
  have h2 := ahead_mono (y + 1) 10000 (by omega)
  rw [ahead_succ, ahead_max] at h2; unfold long at h2
  rw [cum_13] at c1
  omega
/-- order of days is order of dates -/
theorem num_lt {y m d y' m' d' : Int} (v : valid y m d) (v' : valid y' m' d') :
    num y m d < num y' m' d' ↔ (y < y' ∨ (y = y' ∧ (m < m' ∨ (m = m' ∧ d < d')))) := by
  unfold valid at v v'; unfold num
  obtain ⟨a1, a2, a3, a4, a5, a6⟩ := v
  obtain ⟨b1, b2, b3, b4, b5, b6⟩ := v'
  have c1 := cum_lt y m 13 a3 (by omega) (by omega)
  have c2 := cum_lt y' m' 13 b3 (by omega) (by omega)
  have n1 := cum_bd y m a3 (by omega)
  have n2 := cum_bd y' m' b3 (by omega)
  rw [cum_13] at c1 c2
  rcases Int.lt_trichotomy y y' with g | g | g
  · have := ahead_mono (y + 1) y' (by omega); rw [ahead_succ] at this; unfold long at this
    constructor
    · intro _; exact Or.inl g
    · intro _; omega
  · subst g
    rcases Int.lt_trichotomy m m' with g | g | g
    · have := cum_lt y m m' a3 g (by omega)
      constructor
      · intro _; exact Or.inr ⟨rfl, Or.inl g⟩
      · intro _; omega
    · subst g
      constructor
      · intro h; exact Or.inr ⟨rfl, Or.inr ⟨rfl, by omega⟩⟩
      · rintro (h | ⟨_, h | ⟨_, h⟩⟩) <;> omega
    · have := cum_lt y m' m b3 g (by omega)
      constructor
      · intro h; omega
      · rintro (h | ⟨_, h | ⟨_, h⟩⟩) <;> omega
  · have := ahead_mono (y' + 1) y (by omega); rw [ahead_succ] at this; unfold long at this
    constructor
    · intro h; omega
    · rintro (h | ⟨h, _⟩) <;> omega
/-- the program's first guess of a year is not behind the right one -/
theorem guess (n : Int) (h1 : 1 ≤ n) (h2 : n ≤ 3652059) :
    let g := 400 * ((n - 1) / 146097) + ((n - 1) % 146097) / 366 + 1
    1 ≤ g ∧ g ≤ 9999 ∧ ahead g < n := by
  simp only [ahead]
  omega
/-- there is a date of every day -/
theorem date_exists (n : Int) (h1 : 1 ≤ n) (h2 : n ≤ 3652059) : ∃ y m d, valid y m d ∧ num y m d = n := by
  have hy : ∃ y, 1 ≤ y ∧ y ≤ 9999 ∧ ahead y < n ∧ n ≤ ahead (y + 1) := by
    have key : ∀ k : Nat, (k : Int) ≤ 9998 → n ≤ ahead (k + 2) → ∃ y, 1 ≤ y ∧ y ≤ 9999 ∧ ahead y < n ∧ n ≤ ahead (y + 1) := by
      intro k
      induction k with
      | zero => intro _ h; exact ⟨1, by omega, by omega, by rw [ahead_one]; omega, h⟩
      | succ k ih =>
        intro hk h
        by_cases hc : n ≤ ahead (k + 2)
        · exact ih (by omega) hc
        · exact ⟨k + 2, by omega, by omega, by omega, by have e : ((k + 1 : Nat) : Int) + 2 = (k : Int) + 2 + 1 := by omega
                                                         rw [e] at h; exact h⟩
    exact key 9998 (by omega) (by show n ≤ ahead 10000; rw [ahead_max]; exact h2)
  obtain ⟨y, a1, a2, a3, a4⟩ := hy
  rw [ahead_succ] at a4
  have hm : ∃ m, 1 ≤ m ∧ m ≤ 12 ∧ cum y m < n - ahead y ∧ n - ahead y ≤ cum y (m + 1) := by
    have key : ∀ k : Nat, (k : Int) ≤ 11 → n - ahead y ≤ cum y (k + 2) → ∃ m, 1 ≤ m ∧ m ≤ 12 ∧ cum y m < n - ahead y ∧ n - ahead y ≤ cum y (m + 1) := by
      intro k
      induction k with
      | zero => intro _ h; exact ⟨1, by omega, by omega, by rw [cum_one]; omega, h⟩
      | succ k ih =>
        intro hk h
        by_cases hc : n - ahead y ≤ cum y (k + 2)
        · exact ih (by omega) hc
        · exact ⟨k + 2, by omega, by omega, by omega, by have e : ((k + 1 : Nat) : Int) + 2 = (k : Int) + 2 + 1 := by omega
                                                         rw [e] at h; exact h⟩
    exact key 11 (by omega) (by show n - ahead y ≤ cum y 13; rw [cum_13]; unfold long at a4; omega)
  obtain ⟨m, b1, b2, b3, b4⟩ := hm
  rw [cum_succ y m b1 b2] at b4
  exact ⟨y, m, n - ahead y - cum y m, ⟨a1, a2, b1, b2, by omega, by omega⟩, by unfold num; omega⟩
/-- the date of a day -/
noncomputable def dY (n : Int) : Int := if h : 1 ≤ n ∧ n ≤ 3652059 then Classical.choose (date_exists n h.1 h.2) else 0
noncomputable def dM (n : Int) : Int := if h : 1 ≤ n ∧ n ≤ 3652059 then Classical.choose (Classical.choose_spec (date_exists n h.1 h.2)) else 0
noncomputable def dD (n : Int) : Int := if h : 1 ≤ n ∧ n ≤ 3652059 then Classical.choose (Classical.choose_spec (Classical.choose_spec (date_exists n h.1 h.2))) else 0
theorem date_spec (n : Int) (h1 : 1 ≤ n) (h2 : n ≤ 3652059) : valid (dY n) (dM n) (dD n) ∧ num (dY n) (dM n) (dD n) = n := by
  unfold dY dM dD
  rw [dif_pos ⟨h1, h2⟩, dif_pos ⟨h1, h2⟩, dif_pos ⟨h1, h2⟩]
  exact Classical.choose_spec (Classical.choose_spec (Classical.choose_spec (date_exists n h1 h2)))
theorem date_of {y m d n : Int} (v : valid y m d) (h : num y m d = n) : y = dY n ∧ m = dM n ∧ d = dD n := by
  have hb := num_bd v
  have hs := date_spec n (by omega) (by omega)
  exact num_uniq v hs.1 (h.trans hs.2.symm)

/-- a month's number, and back -/
theorem months_valid (t d : Int) (h1 : 12 ≤ t) (h2 : t < 120000) (h3 : 1 ≤ d) :
    valid (t / 12) (t % 12 + 1) (if dim (t / 12) (t % 12 + 1) < d then dim (t / 12) (t % 12 + 1) else d) := by
  have := dim_bd (t / 12) (t % 12 + 1)
  unfold valid
  refine ⟨by omega, by omega, by omega, by omega, ?_, ?_⟩ <;> split <;> omega
/-- how many months: what AddMonths makes of a day -/
noncomputable def monthsOn (n k : Int) : Int := 12 * dY n + dM n - 1 + k
noncomputable def addMonths (n k : Int) : Int :=
  num (monthsOn n k / 12) (monthsOn n k % 12 + 1) (if dim (monthsOn n k / 12) (monthsOn n k % 12 + 1) < dD n then dim (monthsOn n k / 12) (monthsOn n k % 12 + 1) else dD n)
/-- when AddMonths takes -/
def monthsOK (n k : Int) : Prop := 1 ≤ n ∧ n ≤ 3652059 ∧ -119988 ≤ k ∧ k ≤ 119988 ∧ 12 ≤ monthsOn n k ∧ monthsOn n k < 120000
end DayMath
