/- Contracts of the calendar's functions on months, years and days ahead: each computes what the plain arithmetic says. -/
import Derived.Test.YtidjipcdnkgigaaDoorDayA
namespace Go.Proofs.YtidjipcdnkgigaaDoor
set_option linter.unusedVariables false
set_option linter.unusedSimpArgs false
open Go.RowKit
open DayMath (leapP lp dim long cum num valid)

/-- daybookref02.size -/
theorem size_any (y m : Int) (w : World) :
    Calls Tryd.prog 40 #[.int .i64 y, .int .i64 m] w fun e w' => e = .returned (.int .i64 (dim y m)) ∧ w = w' := by
  by_cases hm : m = 2
  · subst hm
    by_cases hl : leapP y
    · have h' := leap_tt hl
      have hd : dim y 2 = 29 := by simp [dim, lp, hl]
      have Hd := Lib.hid hd
      have H' := Lib.hid h'
      clear hl h' hd
      go_enter Tryd.func40, Tryd.ntmps40
      go_wp2_with (go_at_call 18; refine (rleap_any _ _).mono ?_; rintro e w' ⟨rfl, rfl⟩; rw [H'.out])
      go_ret
      exact ⟨by rw [Hd.out]; rfl, rfl⟩
    · have h' := leap_ff hl
      have hd : dim y 2 = 28 := by simp [dim, lp, hl]
      have Hd := Lib.hid hd
      have H' := Lib.hid h'
      clear hl h' hd
      go_enter Tryd.func40, Tryd.ntmps40
      go_wp2_with (go_at_call 18; refine (rleap_any _ _).mono ?_; rintro e w' ⟨rfl, rfl⟩; rw [H'.out])
      go_ret
      exact ⟨by rw [Hd.out]; rfl, rfl⟩
  · by_cases h4 : m = 4
    · subst h4
      have hd : dim y 4 = 30 := by simp [dim]
      have Hd := Lib.hid hd
      clear hm hd
      go_enter Tryd.func40, Tryd.ntmps40
      go_wp2
      go_ret
      exact ⟨by rw [Hd.out]; rfl, rfl⟩
    · by_cases h6 : m = 6
      · subst h6
        have hd : dim y 6 = 30 := by simp [dim]
        have Hd := Lib.hid hd
        clear hm hd h4
        go_enter Tryd.func40, Tryd.ntmps40
        go_wp2
        go_ret
        exact ⟨by rw [Hd.out]; rfl, rfl⟩
      · by_cases h9 : m = 9
        · subst h9
          have hd : dim y 9 = 30 := by simp [dim]
          have Hd := Lib.hid hd
          clear hm hd h4 h6
          go_enter Tryd.func40, Tryd.ntmps40
          go_wp2
          go_ret
          exact ⟨by rw [Hd.out]; rfl, rfl⟩
        · by_cases h11 : m = 11
          · subst h11
            have hd : dim y 11 = 30 := by simp [dim]
            have Hd := Lib.hid hd
            clear hm hd h4 h6 h9
            go_enter Tryd.func40, Tryd.ntmps40
            go_wp2
            go_ret
            exact ⟨by rw [Hd.out]; rfl, rfl⟩
          · have hd : dim y m = 31 := by simp [dim, hm, h4, h6, h9, h11]
            have Hd := Lib.hid hd
            have a2 := beq_eq_false_iff_ne.mpr hm
            have a4 := beq_eq_false_iff_ne.mpr h4
            have a6 := beq_eq_false_iff_ne.mpr h6
            have a9 := beq_eq_false_iff_ne.mpr h9
            have a11 := beq_eq_false_iff_ne.mpr h11
            clear hm hd h4 h6 h9 h11
            go_enter Tryd.func40, Tryd.ntmps40
            go_wp2
            go_ret
            exact ⟨by rw [Hd.out]; rfl, rfl⟩

/-- daybookref02.long -/
theorem long_any (y : Int) (w : World) : Calls Tryd.prog 42 #[.int .i64 y] w fun e w' => e = .returned (.int .i64 (long y)) ∧ w = w' := by
  by_cases hl : leapP y
  · have h' := leap_tt hl
    have hd : long y = 366 := by simp [long, lp, hl]
    have Hd := Lib.hid hd
    have H' := Lib.hid h'
    clear hl h' hd
    go_enter Tryd.func42, Tryd.ntmps42
    go_wp2_with (go_at_call 18; refine (rleap_any _ _).mono ?_; rintro e w' ⟨rfl, rfl⟩; rw [H'.out])
    go_ret
    exact ⟨by rw [Hd.out]; rfl, rfl⟩
  · have h' := leap_ff hl
    have hd : long y = 365 := by simp [long, lp, hl]
    have Hd := Lib.hid hd
    have H' := Lib.hid h'
    clear hl h' hd
    go_enter Tryd.func42, Tryd.ntmps42
    go_wp2_with (go_at_call 18; refine (rleap_any _ _).mono ?_; rintro e w' ⟨rfl, rfl⟩; rw [H'.out])
    go_ret
    exact ⟨by rw [Hd.out]; rfl, rfl⟩

/-- day.ahead, at a year -/
theorem ahead_any (y : Int) (w : World) (h1 : 1 ≤ y) (h2 : y ≤ 10000) : Calls Tryd.prog 41 #[.int .i64 y] w fun e w' => e = .returned (.int .i64 (DayMath.ahead y)) ∧ w = w' := by
  go_enter Tryd.func41, Tryd.ntmps41
  go_wp2
  go_ret
  exact ⟨ret_int (by unfold DayMath.ahead; first | rfl | omega), rfl⟩

/-- day.is -/
theorem is_yes (n : Int) (w : World) (h1 : 1 ≤ n) (h2 : n ≤ 3652059) : Calls Tryd.prog 43 #[.int .i64 n] w fun e w' => e = .returned (.bool true) ∧ w = w' := by
  go_enter Tryd.func43, Tryd.ntmps43
  go_wp2
  go_ret
  exact ⟨rfl, rfl⟩
theorem is_no (n : Int) (w : World) (h : n < 1 ∨ 3652059 < n) : Calls Tryd.prog 43 #[.int .i64 n] w fun e w' => e = .returned (.bool false) ∧ w = w' := by
  by_cases h1 : n < 1
  · clear h
    go_enter Tryd.func43, Tryd.ntmps43
    go_wp2
    go_ret
    exact ⟨rfl, rfl⟩
  · have h2 : 1 ≤ n := by omega
    have h3 : decide (n ≤ 3652059) = false := by simp; omega
    clear h h1
    go_enter Tryd.func43, Tryd.ntmps43
    go_wp2
    go_ret
    exact ⟨rfl, rfl⟩

/-- what is a month of a year that the calendar has -/
def monthB (y m : Int) : Prop := 1 ≤ y ∧ y ≤ 9999 ∧ 1 ≤ m ∧ m ≤ 12
instance (y m : Int) : Decidable (monthB y m) := by unfold monthB; infer_instance

/-- day.Days -/
theorem days_yes (y m : Int) (w : World) (hL : LD w) (h : monthB y m) :
    Calls Tryd.prog 14 #[.int .i64 y, .int .i64 m] w fun e w' => e = .returned (.tuple #[.int .i64 (dim y m), .int .i64 0]) ∧ w = w' := by
  obtain ⟨h1, h2, h3, h4⟩ := h
  have HL := Lib.hid hL
  clear hL
  go_enter Tryd.func14, Tryd.ntmps14
  go_wp2_with (go_at_call 39; refine (length_any _ _ _ HL.out h3 h4).mono ?_; rintro e w' ⟨rfl, rfl⟩)
  go_ret2
  exact ⟨rfl, rfl⟩
theorem days_no (y m : Int) (w : World) (h : ¬ monthB y m) :
    Calls Tryd.prog 14 #[.int .i64 y, .int .i64 m] w fun e w' => e = .returned (.tuple #[.int .i64 0, .int .i64 20]) ∧ w = w' := by
  unfold monthB at h
  by_cases a : m < 1
  · clear h
    go_enter Tryd.func14, Tryd.ntmps14
    go_wp2
    go_ret2
    exact ⟨rfl, rfl⟩
  · by_cases b : 12 < m
    · clear h
      go_enter Tryd.func14, Tryd.ntmps14
      go_wp2
      go_ret2
      exact ⟨rfl, rfl⟩
    · by_cases c : y < 1
      · clear h
        go_enter Tryd.func14, Tryd.ntmps14
        go_wp2
        go_ret2
        exact ⟨rfl, rfl⟩
      · have d : 9999 < y := by omega
        clear h
        go_enter Tryd.func14, Tryd.ntmps14
        go_wp2
        go_ret2
        exact ⟨rfl, rfl⟩

/-- daybookref02.Days -/
theorem rdays_yes (y m : Int) (w : World) (h : monthB y m) :
    Calls Tryd.prog 15 #[.int .i64 y, .int .i64 m] w fun e w' => e = .returned (.tuple #[.int .i64 (dim y m), .int .i64 0]) ∧ w = w' := by
  obtain ⟨h1, h2, h3, h4⟩ := h
  go_enter Tryd.func15, Tryd.ntmps15
  go_wp2_with (go_at_call 40; refine (size_any _ _ _).mono ?_; rintro e w' ⟨rfl, rfl⟩)
  go_ret2
  exact ⟨rfl, rfl⟩
theorem rdays_no (y m : Int) (w : World) (h : ¬ monthB y m) :
    Calls Tryd.prog 15 #[.int .i64 y, .int .i64 m] w fun e w' => e = .returned (.tuple #[.int .i64 0, .int .i64 20]) ∧ w = w' := by
  unfold monthB at h
  by_cases a : m < 1
  · clear h
    go_enter Tryd.func15, Tryd.ntmps15
    go_wp2
    go_ret2
    exact ⟨rfl, rfl⟩
  · by_cases b : 12 < m
    · clear h
      go_enter Tryd.func15, Tryd.ntmps15
      go_wp2
      go_ret2
      exact ⟨rfl, rfl⟩
    · by_cases c : y < 1
      · clear h
        go_enter Tryd.func15, Tryd.ntmps15
        go_wp2
        go_ret2
        exact ⟨rfl, rfl⟩
      · have d : 9999 < y := by omega
        clear h
        go_enter Tryd.func15, Tryd.ntmps15
        go_wp2
        go_ret2
        exact ⟨rfl, rfl⟩

/-- daybooklaw02.alike, of what is alike -/
theorem alike_yes (a e : Int) (w : World) :
    Calls Tryd.prog 16 #[.int .i64 a, .int .i64 e, .int .i64 a, .int .i64 e] w fun x w' => x = .returned (.bool true) ∧ w = w' := by
  go_enter Tryd.func16, Tryd.ntmps16
  go_wp2
  go_ret
  exact ⟨rfl, rfl⟩

/-- daybooklaw02.DayMonths -/
theorem dayMonths_walk (y m : Int) (w : World) (hL : LD w) :
    Calls Tryd.prog 3 #[.int .i64 y, .int .i64 m] w fun e w' => e = .returned (.bool true) ∧ Below w.heap.size w w' := by
  have HL := Lib.hid hL
  clear hL
  by_cases h : monthB y m
  · have H := Lib.hid h
    clear h
    go_enter Tryd.func3, Tryd.ntmps3
    go_wp2_with (first
      | (go_at_call 14; refine (days_yes _ _ _ HL.out H.out).mono ?_; rintro e w' ⟨rfl, rfl⟩)
      | (go_at_call 15; refine (rdays_yes _ _ _ H.out).mono ?_; rintro e w' ⟨rfl, rfl⟩)
      | (go_at_call 16; refine (alike_yes _ _ _).mono ?_; rintro e w' ⟨rfl, rfl⟩)
      | (go_at_call 17; refine (leap_any _ _).mono ?_; rintro e w' ⟨rfl, rfl⟩)
      | (go_at_call 18; refine (rleap_any _ _).mono ?_; rintro e w' ⟨rfl, rfl⟩))
    go_ret
    exact ⟨rfl, Below.refl _ _⟩
  · have H := Lib.hid h
    clear h
    go_enter Tryd.func3, Tryd.ntmps3
    go_wp2_with (first
      | (go_at_call 14; refine (days_no _ _ _ H.out).mono ?_; rintro e w' ⟨rfl, rfl⟩)
      | (go_at_call 15; refine (rdays_no _ _ _ H.out).mono ?_; rintro e w' ⟨rfl, rfl⟩)
      | (go_at_call 16; refine (alike_yes _ _ _).mono ?_; rintro e w' ⟨rfl, rfl⟩)
      | (go_at_call 17; refine (leap_any _ _).mono ?_; rintro e w' ⟨rfl, rfl⟩)
      | (go_at_call 18; refine (rleap_any _ _).mono ?_; rintro e w' ⟨rfl, rfl⟩))
    go_ret
    exact ⟨rfl, Below.refl _ _⟩
end Go.Proofs.YtidjipcdnkgigaaDoor
