/- Contracts of Mul and of the document's. -/
import Derived.Test.YtncndmhmmfbklaaMonF
namespace Go.Proofs.Ytncndmhmmfbklaa
set_option linter.unusedVariables false
set_option linter.unusedSimpArgs false
open Go.RowKit
open MonMath (dig car bor mc)

def mneg (a b : Int) : Bool := decide (a < 0) != decide (b < 0)
def mulV (a b : Int) : Int := if a = -9223372036854775808 ∨ b = -9223372036854775808 then 0 else if a.natAbs * b.natAbs < 9223372036854775808 then sg (a.natAbs * b.natAbs) (mneg a b) else 0
def mulE (a b : Int) : Int := if a = -9223372036854775808 ∨ b = -9223372036854775808 then 10 else if a.natAbs * b.natAbs < 9223372036854775808 then 0 else 11
set_option maxHeartbeats 1000000 in
/-- money.Mul -/
theorem mul_any (a b : Int) (w : World) (ha : -9223372036854775808 ≤ a ∧ a ≤ 9223372036854775807) (hb : -9223372036854775808 ≤ b ∧ b ≤ 9223372036854775807) :
    Calls Try.prog 19 #[.int .i64 a, .int .i64 b] w fun e w' => e = .returned (.tuple #[.int .i64 (mulV a b), .int .i64 (mulE a b)]) ∧ w = w' := by
  unfold mulV mulE
  by_cases h : a = -9223372036854775808 ∨ b = -9223372036854775808
  · rw [if_pos h, if_pos h]
    have H := Lib.hid h
    clear h ha hb
    go_enter Try.func19, Try.ntmps19
    go_wp2_with (go_at_call 33; refine (both_bad _ _ _ H.out).mono ?_; rintro e w' ⟨rfl, rfl⟩)
    go_ret2
    exact ⟨rfl, rfl⟩
  · rw [if_neg h, if_neg h]
    have HA := Lib.hid (show a ≠ -9223372036854775808 from fun q => h (Or.inl q))
    have HB := Lib.hid (show b ≠ -9223372036854775808 from fun q => h (Or.inr q))
    have H1 := Lib.hid ha
    have H2 := Lib.hid hb
    have L1 := Lib.hid (show a.natAbs < 18446744073709551616 by omega)
    have L2 := Lib.hid (show b.natAbs < 18446744073709551616 by omega)
    clear h ha hb
    obtain ⟨p, hp⟩ : ∃ p, a.natAbs * b.natAbs = p := ⟨_, rfl⟩
    rw [hp]
    have HP := Lib.hid hp
    clear hp
    by_cases hq : p < 9223372036854775808
    · rw [if_pos hq, if_pos hq]
      have e1 : ((p / 18446744073709551616 : Nat) : Int) = 0 := by omega
      have e2 : ((p % 18446744073709551616 : Nat) : Int) = p := by omega
      have E1 := Lib.hid e1
      have E2 := Lib.hid e2
      have Q := Lib.hid (show (p : Int) ≤ 9223372036854775807 by omega)
      clear e1 e2 hq
      go_enter Try.func19, Try.ntmps19
      go_wp2_with fail
      refine (both_ok _ _ _ HA.out HB.out).mono ?_
      rintro e w' ⟨rfl, rfl⟩
      go_wp2_with fail
      refine (size_any _ _ H1.out.1 H1.out.2).mono ?_
      rintro e w' ⟨rfl, rfl⟩
      go_wp2_with fail
      refine (size_any _ _ H2.out.1 H2.out.2).mono ?_
      rintro e w' ⟨rfl, rfl⟩
      go_wp2_with fail
      refine (Try.bits_Mul64 _ _ L1.out L2.out _).mono ?_
      rintro e w' ⟨rfl, rfl⟩
      rw [HP.out, E1.out, E2.out]
      go_wp2_with fail
      refine (signed_ok p (mneg a b) _ Q.out).mono ?_
      rintro e w' ⟨rfl, rfl⟩
      go_wp2
      go_ret2
      exact ⟨rfl, rfl⟩
    · rw [if_neg hq, if_neg hq]
      go_enter Try.func19, Try.ntmps19
      go_wp2_with fail
      refine (both_ok _ _ _ HA.out HB.out).mono ?_
      rintro e w' ⟨rfl, rfl⟩
      go_wp2_with fail
      refine (size_any _ _ H1.out.1 H1.out.2).mono ?_
      rintro e w' ⟨rfl, rfl⟩
      go_wp2_with fail
      refine (size_any _ _ H2.out.1 H2.out.2).mono ?_
      rintro e w' ⟨rfl, rfl⟩
      go_wp2_with fail
      refine (Try.bits_Mul64 _ _ L1.out L2.out _).mono ?_
      rintro e w' ⟨rfl, rfl⟩
      rw [HP.out]
      by_cases hz : p / 18446744073709551616 = 0
      · have e1 : ((p / 18446744073709551616 : Nat) : Int) = 0 := by omega
        have e2 : ((p % 18446744073709551616 : Nat) : Int) = p := by omega
        rw [e1, e2]
        have Q := Lib.hid (show 9223372036854775807 < (p : Int) by omega)
        clear e1 e2 hz hq
        go_wp2_with fail
        refine (signed_no p (mneg a b) _ Q.out).mono ?_
        rintro e w' ⟨rfl, rfl⟩
        go_wp2
        go_ret2
        exact ⟨rfl, rfl⟩
      · have hz1 : (((p / 18446744073709551616 : Nat) : Int) == 0) = false := beq_eq_false_iff_ne.mpr (by omega)
        revert hz1
        generalize ((p / 18446744073709551616 : Nat) : Int) = q1
        intro hz1
        clear hz hq
        go_wp2
        go_ret2
        exact ⟨rfl, rfl⟩

set_option maxHeartbeats 1000000 in
/-- daybookref01.Mul -/
theorem rmul_any (a b : Int) (w : World) (ha : -9223372036854775808 ≤ a ∧ a ≤ 9223372036854775807) (hb : -9223372036854775808 ≤ b ∧ b ≤ 9223372036854775807) :
    Calls Try.prog 20 #[.int .i64 a, .int .i64 b] w fun e w' => e = .returned (.tuple #[.int .i64 (mulV a b), .int .i64 (mulE a b)]) ∧ Below w.heap.size w w' := by
  unfold mulV mulE
  by_cases ha' : a = -9223372036854775808
  · rw [if_pos (Or.inl ha'), if_pos (Or.inl ha')]
    have H := Lib.hid ha'
    by_cases hb' : b = -9223372036854775808
    · have H2 := Lib.hid hb'
      clear ha' hb' ha hb
      go_enter Try.func20, Try.ntmps20
      go_wp2_with fail
      refine (is_no _ _ H.out).mono ?_
      rintro e w' ⟨rfl, rfl⟩
      go_wp2_with fail
      refine (is_no _ _ H2.out).mono ?_
      rintro e w' ⟨rfl, rfl⟩
      go_wp2
      go_ret2
      exact ⟨rfl, Below.refl _ _⟩
    · have H2 := Lib.hid hb'
      clear ha' hb' ha hb
      go_enter Try.func20, Try.ntmps20
      go_wp2_with fail
      refine (is_no _ _ H.out).mono ?_
      rintro e w' ⟨rfl, rfl⟩
      go_wp2_with fail
      refine (is_yes _ _ H2.out).mono ?_
      rintro e w' ⟨rfl, rfl⟩
      go_wp2
      go_ret2
      exact ⟨rfl, Below.refl _ _⟩
  · have H := Lib.hid ha'
    by_cases hb' : b = -9223372036854775808
    · rw [if_pos (Or.inr hb'), if_pos (Or.inr hb')]
      have H2 := Lib.hid hb'
      clear ha' hb' ha hb
      go_enter Try.func20, Try.ntmps20
      go_wp2_with fail
      refine (is_yes _ _ H.out).mono ?_
      rintro e w' ⟨rfl, rfl⟩
      go_wp2_with fail
      refine (is_no _ _ H2.out).mono ?_
      rintro e w' ⟨rfl, rfl⟩
      go_wp2
      go_ret2
      exact ⟨rfl, Below.refl _ _⟩
    · have hn : ¬(a = -9223372036854775808 ∨ b = -9223372036854775808) := by omega
      rw [if_neg hn, if_neg hn]
      clear hn
      have H2 := Lib.hid hb'
      have HA := Lib.hid ha
      have HB := Lib.hid hb
      have L1 := Lib.hid (show a.natAbs < 4294967296 ^ 6 from Nat.lt_trans (show a.natAbs < 18446744073709551616 by omega) (by decide))
      have LP := Lib.hid (show a.natAbs * b.natAbs < 4294967296 ^ 6 from Nat.lt_trans (Nat.lt_of_le_of_lt (Nat.mul_le_mul (show a.natAbs ≤ 9223372036854775808 by omega) (show b.natAbs ≤ 9223372036854775808 by omega)) (show 9223372036854775808 * 9223372036854775808 < 4294967296 ^ 5 by decide)) (by decide))
      clear ha' hb' ha hb
      by_cases hq : a.natAbs * b.natAbs < 9223372036854775808
      · rw [if_pos hq, if_pos hq]
        have HQ := Lib.hid hq
        clear hq
        go_enter Try.func20, Try.ntmps20
        go_wp2_with fail
        refine (is_yes _ _ H.out).mono ?_
        rintro e w' ⟨rfl, rfl⟩
        go_wp2_with fail
        refine (is_yes _ _ H2.out).mono ?_
        rintro e w' ⟨rfl, rfl⟩
        go_wp2_with fail
        refine (of_any _ _ HA.out.1 HA.out.2).mono ?_
        rintro e w1 ⟨rfl, hb1⟩
        go_wp2_with fail
        refine (of_any _ _ HB.out.1 HB.out.2).mono ?_
        rintro e w2 ⟨rfl, hb2⟩
        go_wp2_with fail
        refine (times_any _ _ _ L1.out).mono ?_
        rintro e w3 ⟨rfl, hb3⟩
        go_wp2_with fail
        refine (amount_ok _ (mneg a b) _ HQ.out).mono ?_
        rintro e w4 ⟨rfl, hb4⟩
        go_wp2
        go_ret2
        exact ⟨rfl, fm_call (fm_call (fm_call hb1 hb2) hb3) hb4⟩
      · rw [if_neg hq, if_neg hq]
        have HQ := Lib.hid hq
        clear hq
        go_enter Try.func20, Try.ntmps20
        go_wp2_with fail
        refine (is_yes _ _ H.out).mono ?_
        rintro e w' ⟨rfl, rfl⟩
        go_wp2_with fail
        refine (is_yes _ _ H2.out).mono ?_
        rintro e w' ⟨rfl, rfl⟩
        go_wp2_with fail
        refine (of_any _ _ HA.out.1 HA.out.2).mono ?_
        rintro e w1 ⟨rfl, hb1⟩
        go_wp2_with fail
        refine (of_any _ _ HB.out.1 HB.out.2).mono ?_
        rintro e w2 ⟨rfl, hb2⟩
        go_wp2_with fail
        refine (times_any _ _ _ L1.out).mono ?_
        rintro e w3 ⟨rfl, hb3⟩
        go_wp2_with fail
        refine (amount_no _ (mneg a b) _ LP.out HQ.out).mono ?_
        rintro e w4 ⟨rfl, hb4⟩
        go_wp2
        go_ret2
        exact ⟨rfl, fm_call (fm_call (fm_call hb1 hb2) hb3) hb4⟩
end Go.Proofs.Ytncndmhmmfbklaa
