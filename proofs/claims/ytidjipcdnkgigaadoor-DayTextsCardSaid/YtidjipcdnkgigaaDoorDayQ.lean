/- Contracts of Print of what is no day, of the outright statements' helpers first and within. -/
import Derived.Test.YtidjipcdnkgigaaDoorDayP
namespace Go.Proofs.YtidjipcdnkgigaaDoor
set_option linter.unusedVariables false
set_option linter.unusedSimpArgs false
open Go.RowKit
open DayMath (leapP lp dim long cum num valid dY dM dD monthsOn monthsOK)

set_option maxHeartbeats 1000000 in
theorem print_no (n : Int) (w : World) (h : n < 1 ∨ 3652059 < n) :
    Calls Tryd.prog 37 #[.int .i64 n] w fun e w' => e = .returned (.tuple #[.string ⟨#[]⟩, .int .i64 20]) ∧ Below w.heap.size w w' := by
  have H := Lib.hid h
  clear h
  go_enter Tryd.func37, Tryd.ntmps37
  go_wp2_with fail
  refine (to_no _ _ H.out).mono ?_
  rintro e w1 ⟨rfl, hb1⟩
  go_wp2
  go_ret2
  exact ⟨rfl, hb1.alloc hb1.size _⟩

theorem valid_first : valid 2024 2 29 := by decide
theorem num_first : num 2024 2 29 = 738945 := by decide
theorem date_first : dY 738945 = 2024 ∧ dM 738945 = 2 ∧ dD 738945 = 29 := by
  obtain ⟨a, b, c⟩ := DayMath.date_of valid_first num_first
  exact ⟨a.symm, b.symm, c.symm⟩
theorem text_first : (⟨(dtext 738945).toArray⟩ : ByteArray) = ⟨#[50, 48, 50, 52, 45, 48, 50, 45, 50, 57]⟩ := by
  unfold dtext
  obtain ⟨a, b, c⟩ := date_first
  rw [a, b, c]
  rfl
theorem from_first (w : World) (hL : LD w) :
    Calls Tryd.prog 19 #[.agg #[.int .i64 2024, .int .i64 2, .int .i64 29]] w fun e w' => e = .returned (.tuple #[.int .i64 738945, .int .i64 0]) ∧ Below w.heap.size w w' :=
  (from_yes 2024 2 29 w hL valid_first).mono fun e w' ⟨he, hb⟩ => ⟨by rw [he, num_first], hb⟩
theorem print_first (w : World) (hL : LW w) :
    Calls Tryd.prog 37 #[.int .i64 738945] w fun e w' => e = .returned (.tuple #[.string ⟨#[50, 48, 50, 52, 45, 48, 50, 45, 50, 57]⟩, .int .i64 0]) ∧ Below w.heap.size w w' :=
  (print_yes 738945 w hL (by omega) (by omega)).mono fun e w' ⟨he, hb⟩ => ⟨by rw [he, text_first], hb⟩

set_option maxHeartbeats 1000000 in
/-- daybooklaw02.first -/
theorem lawfirst (w : World) (hL : LW w) : Calls Tryd.prog 33 #[] w fun e w' => e = .returned (.bool true) ∧ Below w.heap.size w w' := by
  have HL := Lib.hid hL
  clear hL
  go_enter Tryd.func33, Tryd.ntmps33
  go_wp2_with fail
  refine (from_first _ HL.out.md).mono ?_
  rintro e w1 ⟨rfl, hb1⟩
  go_wp2_with fail
  refine (print_first _ (HL.out.below hb1)).mono ?_
  rintro e w2 ⟨rfl, hb2⟩
  go_wp2
  go_ret
  exact ⟨rfl, fm_call hb1 hb2⟩

/-- a day out of any number -/
def dayOf (n : Int) : Int := 1 + (if n < 0 then -(n + 1) else n) % 3652059
theorem dayOf_bd (n : Int) : 1 ≤ dayOf n ∧ dayOf n ≤ 3652059 := by unfold dayOf; split <;> omega
theorem dayOf_neg {n : Int} (h : n < 0) : dayOf n = 1 + (-(n + 1)) % 3652059 := by unfold dayOf; rw [if_pos h]
theorem dayOf_pos {n : Int} (h : ¬ n < 0) : dayOf n = 1 + n % 3652059 := by unfold dayOf; rw [if_neg h]

theorem within_neg {n : Int} (h : n < 0) : 1 + -(n + 1).tmod 3652059 = dayOf n := by
  rw [dayOf_neg h, ← Int.neg_tmod, Int.tmod_eq_emod_of_nonneg (by omega)]

/-- daybooklaw02.within -/
theorem within_any (n : Int) (w : World) (h1 : -9223372036854775808 ≤ n) (h2 : n ≤ 9223372036854775807) :
    Calls Tryd.prog 34 #[.int .i64 n] w fun e w' => e = .returned (.int .i64 (dayOf n)) ∧ w = w' := by
  by_cases h : n < 0
  · have e := within_neg h
    have t1 : -3652059 < (n + 1).tmod 3652059 := by have := dayOf_bd n; omega
    have t2 : (n + 1).tmod 3652059 ≤ 0 := by have := dayOf_bd n; omega
    have H := Lib.hid e
    clear e
    go_enter Tryd.func34, Tryd.ntmps34
    go_wp2
    go_ret
    exact ⟨ret_int H.out, rfl⟩
  · have H := Lib.hid (dayOf_pos h)
    have h' : 0 ≤ n := by omega
    go_enter Tryd.func34, Tryd.ntmps34
    go_wp2
    go_ret
    exact ⟨by rw [H.out]; rfl, rfl⟩
end Go.Proofs.YtidjipcdnkgigaaDoor
