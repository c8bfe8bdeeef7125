/- Contracts of Check, Neg, Sub, Mul and of the document's. -/
import Derived.Test.YtncndmhmmfbklaaMonE
import Derived.Test.YtncndmhmmfbklaaShelf
namespace Go.Proofs.Ytncndmhmmfbklaa
set_option linter.unusedVariables false
set_option linter.unusedSimpArgs false
open Go.RowKit
open MonMath (dig car bor mc)

def chkE (a : Int) : Int := if a = -9223372036854775808 then 10 else 0
theorem check_any (a : Int) (w : World) : Calls Try.prog 11 #[.int .i64 a] w fun e w' => e = .returned (.int .i64 (chkE a)) ∧ w = w' := by
  unfold chkE
  by_cases h : a = -9223372036854775808
  · rw [if_pos h]
    have hb : (a == -9223372036854775808) = true := beq_iff_eq.mpr h
    clear h
    go_enter Try.func11, Try.ntmps11
    go_wp2
    go_ret
    exact ⟨rfl, rfl⟩
  · rw [if_neg h]
    have hb : (a == -9223372036854775808) = false := beq_eq_false_iff_ne.mpr h
    clear h
    go_enter Try.func11, Try.ntmps11
    go_wp2
    go_ret
    exact ⟨rfl, rfl⟩
theorem rcheck_any (a : Int) (w : World) : Calls Try.prog 12 #[.int .i64 a] w fun e w' => e = .returned (.int .i64 (chkE a)) ∧ w = w' := by
  unfold chkE
  by_cases h : a = -9223372036854775808
  · rw [if_pos h]
    have H := Lib.hid h
    clear h
    go_enter Try.func12, Try.ntmps12
    go_wp2_with (go_at_call 27; refine (is_no _ _ H.out).mono ?_; rintro e w' ⟨rfl, rfl⟩)
    go_ret
    exact ⟨rfl, rfl⟩
  · rw [if_neg h]
    have H := Lib.hid h
    clear h
    go_enter Try.func12, Try.ntmps12
    go_wp2_with (go_at_call 27; refine (is_yes _ _ H.out).mono ?_; rintro e w' ⟨rfl, rfl⟩)
    go_ret
    exact ⟨rfl, rfl⟩
def negV (a : Int) : Int := if a = -9223372036854775808 then 0 else -a
theorem neg_any (a : Int) (w : World) (h1 : -9223372036854775808 ≤ a) (h2 : a ≤ 9223372036854775807) : Calls Try.prog 17 #[.int .i64 a] w fun e w' => e = .returned (.tuple #[.int .i64 (negV a), .int .i64 (chkE a)]) ∧ w = w' := by
  unfold chkE negV
  by_cases h : a = -9223372036854775808
  · rw [if_pos h, if_pos h]
    have hb : (a == -9223372036854775808) = true := beq_iff_eq.mpr h
    clear h h1 h2
    go_enter Try.func17, Try.ntmps17
    go_wp2
    go_ret2
    exact ⟨rfl, rfl⟩
  · rw [if_neg h, if_neg h]
    have hb : (a == -9223372036854775808) = false := beq_eq_false_iff_ne.mpr h
    have h3 : -a ≤ 9223372036854775807 := by omega
    have h4 : -9223372036854775808 ≤ -a := by omega
    clear h
    go_enter Try.func17, Try.ntmps17
    go_wp2
    go_ret2
    exact ⟨rfl, rfl⟩
theorem rneg_any (a : Int) (w : World) (h1 : -9223372036854775808 ≤ a) (h2 : a ≤ 9223372036854775807) : Calls Try.prog 18 #[.int .i64 a] w fun e w' => e = .returned (.tuple #[.int .i64 (negV a), .int .i64 (chkE a)]) ∧ w = w' := by
  unfold chkE negV
  by_cases h : a = -9223372036854775808
  · rw [if_pos h, if_pos h]
    have H := Lib.hid h
    clear h h1 h2
    go_enter Try.func18, Try.ntmps18
    go_wp2_with (go_at_call 27; refine (is_no _ _ H.out).mono ?_; rintro e w' ⟨rfl, rfl⟩)
    go_ret2
    exact ⟨rfl, rfl⟩
  · rw [if_neg h, if_neg h]
    have H := Lib.hid h
    have h3 : -a ≤ 9223372036854775807 := by omega
    have h4 : -9223372036854775808 ≤ -a := by omega
    clear h
    go_enter Try.func18, Try.ntmps18
    go_wp2_with (go_at_call 27; refine (is_yes _ _ H.out).mono ?_; rintro e w' ⟨rfl, rfl⟩)
    go_ret2
    exact ⟨rfl, rfl⟩

def subV (a b : Int) : Int := if a = -9223372036854775808 ∨ b = -9223372036854775808 then 0 else addV a (-b)
def subE (a b : Int) : Int := if a = -9223372036854775808 ∨ b = -9223372036854775808 then 10 else addE a (-b)
/-- money.Sub -/
theorem sub_any (a b : Int) (w : World) (ha : -9223372036854775808 ≤ a ∧ a ≤ 9223372036854775807) (hb : -9223372036854775808 ≤ b ∧ b ≤ 9223372036854775807) :
    Calls Try.prog 15 #[.int .i64 a, .int .i64 b] w fun e w' => e = .returned (.tuple #[.int .i64 (subV a b), .int .i64 (subE a b)]) ∧ w = w' := by
  unfold subV subE
  by_cases h : a = -9223372036854775808 ∨ b = -9223372036854775808
  · rw [if_pos h, if_pos h]
    have H := Lib.hid h
    clear h ha hb
    go_enter Try.func15, Try.ntmps15
    go_wp2_with (go_at_call 33; refine (both_bad _ _ _ H.out).mono ?_; rintro e w' ⟨rfl, rfl⟩)
    go_ret2
    exact ⟨rfl, rfl⟩
  · rw [if_neg h, if_neg h]
    have HA := Lib.hid (show a ≠ -9223372036854775808 from fun q => h (Or.inl q))
    have HB := Lib.hid (show b ≠ -9223372036854775808 from fun q => h (Or.inr q))
    have h3 : -b ≤ 9223372036854775807 := by omega
    have h4 : -9223372036854775808 ≤ -b := by omega
    have H1 := Lib.hid ha
    clear h ha
    go_enter Try.func15, Try.ntmps15
    go_wp2_with (first
      | (go_at_call 33; refine (both_ok _ _ _ HA.out HB.out).mono ?_; rintro e w' ⟨rfl, rfl⟩)
      | (go_at_call 13; refine (add_any _ _ _ H1.out ⟨h4, h3⟩).mono ?_; rintro e w' ⟨rfl, rfl⟩))
    go_ret2
    exact ⟨rfl, rfl⟩
set_option maxHeartbeats 1000000 in
/-- daybookref01.Sub -/
theorem rsub_any (a b : Int) (w : World) (ha : -9223372036854775808 ≤ a ∧ a ≤ 9223372036854775807) (hb : -9223372036854775808 ≤ b ∧ b ≤ 9223372036854775807) :
    Calls Try.prog 16 #[.int .i64 a, .int .i64 b] w fun e w' => e = .returned (.tuple #[.int .i64 (subV a b), .int .i64 (subE a b)]) ∧ Below w.heap.size w w' := by
  unfold subV subE
  by_cases ha' : a = -9223372036854775808
  · rw [if_pos (Or.inl ha'), if_pos (Or.inl ha')]
    have H := Lib.hid ha'
    by_cases hb' : b = -9223372036854775808
    · have H2 := Lib.hid hb'
      clear ha' hb' ha hb
      go_enter Try.func16, Try.ntmps16
      go_wp2_with (first
        | (go_at_call 27; refine (is_no _ _ H.out).mono ?_; rintro e w' ⟨rfl, rfl⟩)
        | (go_at_call 27; refine (is_no _ _ H2.out).mono ?_; rintro e w' ⟨rfl, rfl⟩))
      go_ret2
      exact ⟨rfl, Below.refl _ _⟩
    · have H2 := Lib.hid hb'
      clear ha' hb' ha hb
      go_enter Try.func16, Try.ntmps16
      go_wp2_with fail
      refine (is_no _ _ H.out).mono ?_
      rintro e w' ⟨rfl, rfl⟩
      go_wp2_with fail
      refine (is_yes _ _ H2.out).mono ?_
      rintro e w' ⟨rfl, rfl⟩
      go_wp2
      go_ret2
      exact ⟨rfl, Below.refl _ _⟩
  · have H := Lib.hid ha'
    by_cases hb' : b = -9223372036854775808
    · rw [if_pos (Or.inr hb'), if_pos (Or.inr hb')]
      have H2 := Lib.hid hb'
      clear ha' hb' ha hb
      go_enter Try.func16, Try.ntmps16
      go_wp2_with fail
      refine (is_yes _ _ H.out).mono ?_
      rintro e w' ⟨rfl, rfl⟩
      go_wp2_with fail
      refine (is_no _ _ H2.out).mono ?_
      rintro e w' ⟨rfl, rfl⟩
      go_wp2
      go_ret2
      exact ⟨rfl, Below.refl _ _⟩
    · rw [if_neg (by omega), if_neg (by omega)]
      have H2 := Lib.hid hb'
      obtain ⟨e1, e2⟩ := add_sum a (-b)
      have E1 := Lib.hid e1
      have E2 := Lib.hid e2
      have h3 : -b ≤ 9223372036854775807 := by omega
      have h4 : -9223372036854775808 ≤ -b := by omega
      have HA := Lib.hid ha
      clear e1 e2 ha' hb' ha hb
      go_enter Try.func16, Try.ntmps16
      go_wp2_with fail
      refine (is_yes _ _ H.out).mono ?_
      rintro e w' ⟨rfl, rfl⟩
      go_wp2_with fail
      refine (is_yes _ _ H2.out).mono ?_
      rintro e w' ⟨rfl, rfl⟩
      go_wp2_with fail
      refine (rsum_row w.heap.size 0 2 2 (pair a (-b)) _ (by omega) (by simp) ?_ ?_).mono ?_
      · intro i hi
        have : i = 0 ∨ i = 1 := by omega
        rcases this with rfl | rfl <;> simp [go_sem, pair]
      · intro i hi
        have : i = 0 ∨ i = 1 := by omega
        rcases this with rfl | rfl
        · exact HA.out
        · exact ⟨h4, h3⟩
      rintro e w1 ⟨rfl, hb1⟩
      go_wp2
      go_ret2
      exact ⟨by rw [← E1.out, ← E2.out]; rfl, fm_call (fm_alloc (Below.refl _ _) _) hb1⟩

/-- money.size -/
theorem size_any (a : Int) (w : World) (h1 : -9223372036854775808 ≤ a) (h2 : a ≤ 9223372036854775807) :
    Calls Try.prog 35 #[.int .i64 a] w fun e w' => e = .returned (.int .u64 (a.natAbs : Int)) ∧ w = w' := by
  by_cases h : a < 0
  · by_cases hm : a = -9223372036854775808
    · have e1 : IntKind.u64.wrap (wrap64 (-a)) = 9223372036854775808 := by rw [hm, IntKind.wrap_u64]; unfold wrap64; omega
      have HE := Lib.hid (show (a.natAbs : Int) = 9223372036854775808 by omega)
      clear hm
      go_enter Try.func35, Try.ntmps35
      go_wp2
      go_ret
      exact ⟨by rw [HE.out]; rfl, rfl⟩
    · have h3 : -a ≤ 9223372036854775807 := by omega
      have h4 : 0 ≤ -a := by omega
      have HE := Lib.hid (show (a.natAbs : Int) = -a by omega)
      clear hm
      go_enter Try.func35, Try.ntmps35
      go_wp2
      go_ret
      exact ⟨by rw [HE.out]; rfl, rfl⟩
  · have h3 : 0 ≤ a := by omega
    have HE := Lib.hid (show (a.natAbs : Int) = a by omega)
    clear h
    go_enter Try.func35, Try.ntmps35
    go_wp2
    go_ret
    exact ⟨by rw [HE.out]; rfl, rfl⟩
/-- money.signed -/
theorem signed_no (n : Int) (m : Bool) (w : World) (h : 9223372036854775807 < n) :
    Calls Try.prog 36 #[.int .u64 n, .bool m] w fun e w' => e = .returned (.tuple #[.int .i64 0, .int .i64 11]) ∧ w = w' := by
  go_enter Try.func36, Try.ntmps36
  go_wp2
  go_ret2
  exact ⟨rfl, rfl⟩
theorem signed_plus (n : Int) (w : World) (h0 : 0 ≤ n) (h : n ≤ 9223372036854775807) :
    Calls Try.prog 36 #[.int .u64 n, .bool false] w fun e w' => e = .returned (.tuple #[.int .i64 n, .int .i64 0]) ∧ w = w' := by
  go_enter Try.func36, Try.ntmps36
  go_wp2
  go_ret2
  exact ⟨rfl, rfl⟩
theorem signed_minus (n : Int) (w : World) (h0 : 0 ≤ n) (h : n ≤ 9223372036854775807) :
    Calls Try.prog 36 #[.int .u64 n, .bool true] w fun e w' => e = .returned (.tuple #[.int .i64 (-n), .int .i64 0]) ∧ w = w' := by
  go_enter Try.func36, Try.ntmps36
  go_wp2
  go_ret2
  exact ⟨rfl, rfl⟩
theorem signed_ok (v : Nat) (m : Bool) (w : World) (h : (v : Int) ≤ 9223372036854775807) :
    Calls Try.prog 36 #[.int .u64 v, .bool m] w fun e w' => e = .returned (.tuple #[.int .i64 (sg v m), .int .i64 0]) ∧ w = w' := by
  cases m
  · exact signed_plus v w (by omega) h
  · exact signed_minus v w (by omega) h
end Go.Proofs.Ytncndmhmmfbklaa
