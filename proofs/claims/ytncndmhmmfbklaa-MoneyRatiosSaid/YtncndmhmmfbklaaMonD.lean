/- Contracts of Check, Add, Sub, Neg and of the document's. -/
import Derived.Test.YtncndmhmmfbklaaMonC
namespace Go.Proofs.Ytncndmhmmfbklaa
set_option linter.unusedVariables false
set_option linter.unusedSimpArgs false
open Go.RowKit
open MonMath (dig car bor)

theorem both_ok (a b : Int) (w : World) (ha : a ≠ -9223372036854775808) (hb : b ≠ -9223372036854775808) :
    Calls Try.prog 33 #[.int .i64 a, .int .i64 b] w fun e w' => e = .returned (.int .i64 0) ∧ w = w' := by
  have h1 : (a == -9223372036854775808) = false := beq_eq_false_iff_ne.mpr ha
  have h2 : (b == -9223372036854775808) = false := beq_eq_false_iff_ne.mpr hb
  clear ha hb
  go_enter Try.func33, Try.ntmps33
  go_wp2
  go_ret
  exact ⟨rfl, rfl⟩
theorem both_a (a b : Int) (w : World) (ha : a = -9223372036854775808) :
    Calls Try.prog 33 #[.int .i64 a, .int .i64 b] w fun e w' => e = .returned (.int .i64 10) ∧ w = w' := by
  have h1 : (a == -9223372036854775808) = true := beq_iff_eq.mpr ha
  clear ha
  go_enter Try.func33, Try.ntmps33
  go_wp2
  go_ret
  exact ⟨rfl, rfl⟩
theorem both_b (a b : Int) (w : World) (ha : a ≠ -9223372036854775808) (hb : b = -9223372036854775808) :
    Calls Try.prog 33 #[.int .i64 a, .int .i64 b] w fun e w' => e = .returned (.int .i64 10) ∧ w = w' := by
  have h1 : (a == -9223372036854775808) = false := beq_eq_false_iff_ne.mpr ha
  have h2 : (b == -9223372036854775808) = true := beq_iff_eq.mpr hb
  clear ha hb
  go_enter Try.func33, Try.ntmps33
  go_wp2
  go_ret
  exact ⟨rfl, rfl⟩
theorem both_bad (a b : Int) (w : World) (h : a = -9223372036854775808 ∨ b = -9223372036854775808) :
    Calls Try.prog 33 #[.int .i64 a, .int .i64 b] w fun e w' => e = .returned (.int .i64 10) ∧ w = w' := by
  by_cases ha : a = -9223372036854775808
  · exact both_a a b w ha
  · exact both_b a b w ha (by rcases h with q | q; exact absurd q ha; exact q)

/-- two numbers as a list -/
def pair (a b : Int) (i : Nat) : Int := if i = 0 then a else b
theorem pair_t (a b : Int) : tS (pair a b) 2 = a + b := by simp [tS, pair]
theorem pair_am (a b : Int) : allAm (pair a b) 2 ↔ a ≠ -9223372036854775808 ∧ b ≠ -9223372036854775808 := by
  constructor
  · intro h; exact ⟨h 0 (by omega), h 1 (by omega)⟩
  · rintro ⟨h1, h2⟩ i hi
    have : i = 0 ∨ i = 1 := by omega
    rcases this with rfl | rfl
    · exact h1
    · exact h2
def addV (a b : Int) : Int := if (a ≠ -9223372036854775808 ∧ b ≠ -9223372036854775808) ∧ (-9223372036854775807 ≤ a + b ∧ a + b ≤ 9223372036854775807) then a + b else 0
def addE (a b : Int) : Int := if a ≠ -9223372036854775808 ∧ b ≠ -9223372036854775808 then (if -9223372036854775807 ≤ a + b ∧ a + b ≤ 9223372036854775807 then 0 else 11) else 10
theorem add_sum (a b : Int) : sumV (pair a b) 2 = addV a b ∧ sumE (pair a b) 2 = addE a b := by
  by_cases h1 : allAm (pair a b) 2
  · have h1' := (pair_am a b).1 h1
    by_cases h2 : fitsI (tS (pair a b) 2)
    · have h2' : -9223372036854775807 ≤ a + b ∧ a + b ≤ 9223372036854775807 := by rw [pair_t] at h2; exact h2
      obtain ⟨e1, e2⟩ := sum_ok h1 h2
      rw [e1, e2, pair_t]
      unfold addV addE
      rw [if_pos ⟨h1', h2'⟩, if_pos h1', if_pos h2']
      exact ⟨rfl, rfl⟩
    · have h2' : ¬ (-9223372036854775807 ≤ a + b ∧ a + b ≤ 9223372036854775807) := by rw [pair_t] at h2; exact h2
      obtain ⟨e1, e2⟩ := sum_over h1 h2
      rw [e1, e2]
      unfold addV addE
      rw [if_neg (fun q => h2' q.2), if_pos h1', if_neg h2']
      exact ⟨rfl, rfl⟩
  · have h1' : ¬ (a ≠ -9223372036854775808 ∧ b ≠ -9223372036854775808) := fun q => h1 ((pair_am a b).2 q)
    obtain ⟨e1, e2⟩ := sum_bad h1
    rw [e1, e2]
    unfold addV addE
    rw [if_neg (fun q => h1' q.1), if_neg h1']
    exact ⟨rfl, rfl⟩

set_option maxHeartbeats 1000000 in
/-- daybookref01.Add -/
theorem radd_any (a b : Int) (w : World) (ha : -9223372036854775808 ≤ a ∧ a ≤ 9223372036854775807) (hb : -9223372036854775808 ≤ b ∧ b ≤ 9223372036854775807) :
    Calls Try.prog 14 #[.int .i64 a, .int .i64 b] w fun e w' => e = .returned (.tuple #[.int .i64 (addV a b), .int .i64 (addE a b)]) ∧ Below w.heap.size w w' := by
  obtain ⟨e1, e2⟩ := add_sum a b
  have E1 := Lib.hid e1
  have E2 := Lib.hid e2
  have HA := Lib.hid ha
  have HB := Lib.hid hb
  clear e1 e2 ha hb
  go_enter Try.func14, Try.ntmps14
  go_wp2_with fail
  refine (rsum_row w.heap.size 0 2 2 (pair a b) _ (by omega) (by simp) ?_ ?_).mono ?_
  · intro i hi
    have : i = 0 ∨ i = 1 := by omega
    rcases this with rfl | rfl <;> simp [go_sem, pair]
  · intro i hi
    have : i = 0 ∨ i = 1 := by omega
    rcases this with rfl | rfl
    · exact HA.out
    · exact HB.out
  rintro e w1 ⟨rfl, hb1⟩
  go_wp2
  go_ret2
  exact ⟨by rw [← E1.out, ← E2.out]; rfl, fm_call (fm_alloc (Below.refl _ _) _) hb1⟩

set_option maxHeartbeats 1000000 in
theorem add_bad (a b : Int) (w : World) (h : a = -9223372036854775808 ∨ b = -9223372036854775808) :
    Calls Try.prog 13 #[.int .i64 a, .int .i64 b] w fun e w' => e = .returned (.tuple #[.int .i64 0, .int .i64 10]) ∧ w = w' := by
  have H := Lib.hid h
  clear h
  go_enter Try.func13, Try.ntmps13
  go_wp2_with (go_at_call 33; refine (both_bad _ _ _ H.out).mono ?_; rintro e w' ⟨rfl, rfl⟩)
  go_ret2
  exact ⟨rfl, rfl⟩
set_option maxHeartbeats 1000000 in
theorem add_nn (a b : Int) (w : World) (ha : a ≠ -9223372036854775808) (hb : b ≠ -9223372036854775808) (s1 : -9223372036854775807 ≤ a + b) (s2 : a + b ≤ 9223372036854775807) (h1 : a < 0) (h2 : b < 0) :
    Calls Try.prog 13 #[.int .i64 a, .int .i64 b] w fun e w' => e = .returned (.tuple #[.int .i64 (a + b), .int .i64 0]) ∧ w = w' := by
  have HA := Lib.hid ha
  have HB := Lib.hid hb
  have s3 : -9223372036854775808 ≤ a + b := by omega
  have hn : (a + b == -9223372036854775808) = false := by rw [beq_eq_false_iff_ne]; omega
  have h3 : a + b < 0 := by omega
  clear ha hb
  go_enter Try.func13, Try.ntmps13
  go_wp2_with (go_at_call 33; refine (both_ok _ _ _ HA.out HB.out).mono ?_; rintro e w' ⟨rfl, rfl⟩)
  go_ret2
  exact ⟨rfl, rfl⟩
set_option maxHeartbeats 1000000 in
theorem add_np (a b : Int) (w : World) (ha : a ≠ -9223372036854775808) (hb : b ≠ -9223372036854775808) (s1 : -9223372036854775807 ≤ a + b) (s2 : a + b ≤ 9223372036854775807) (h1 : a < 0) (h2 : 0 ≤ b) :
    Calls Try.prog 13 #[.int .i64 a, .int .i64 b] w fun e w' => e = .returned (.tuple #[.int .i64 (a + b), .int .i64 0]) ∧ w = w' := by
  have HA := Lib.hid ha
  have HB := Lib.hid hb
  have s3 : -9223372036854775808 ≤ a + b := by omega
  have hn : (a + b == -9223372036854775808) = false := by rw [beq_eq_false_iff_ne]; omega
  have h4 : decide (b < 0) = false := by rw [decide_eq_false_iff_not]; omega
  clear ha hb
  go_enter Try.func13, Try.ntmps13
  go_wp2_with (go_at_call 33; refine (both_ok _ _ _ HA.out HB.out).mono ?_; rintro e w' ⟨rfl, rfl⟩)
  go_ret2
  exact ⟨rfl, rfl⟩
set_option maxHeartbeats 1000000 in
theorem add_pn (a b : Int) (w : World) (ha : a ≠ -9223372036854775808) (hb : b ≠ -9223372036854775808) (s1 : -9223372036854775807 ≤ a + b) (s2 : a + b ≤ 9223372036854775807) (h1 : 0 ≤ a) (h2 : b < 0) :
    Calls Try.prog 13 #[.int .i64 a, .int .i64 b] w fun e w' => e = .returned (.tuple #[.int .i64 (a + b), .int .i64 0]) ∧ w = w' := by
  have HA := Lib.hid ha
  have HB := Lib.hid hb
  have s3 : -9223372036854775808 ≤ a + b := by omega
  have hn : (a + b == -9223372036854775808) = false := by rw [beq_eq_false_iff_ne]; omega
  have h4 : decide (a < 0) = false := by rw [decide_eq_false_iff_not]; omega
  clear ha hb
  go_enter Try.func13, Try.ntmps13
  go_wp2_with (go_at_call 33; refine (both_ok _ _ _ HA.out HB.out).mono ?_; rintro e w' ⟨rfl, rfl⟩)
  go_ret2
  exact ⟨rfl, rfl⟩
set_option maxHeartbeats 1000000 in
theorem add_pp (a b : Int) (w : World) (ha : a ≠ -9223372036854775808) (hb : b ≠ -9223372036854775808) (s1 : -9223372036854775807 ≤ a + b) (s2 : a + b ≤ 9223372036854775807) (h1 : 0 ≤ a) (h2 : 0 ≤ b) :
    Calls Try.prog 13 #[.int .i64 a, .int .i64 b] w fun e w' => e = .returned (.tuple #[.int .i64 (a + b), .int .i64 0]) ∧ w = w' := by
  have HA := Lib.hid ha
  have HB := Lib.hid hb
  have s3 : -9223372036854775808 ≤ a + b := by omega
  have hn : (a + b == -9223372036854775808) = false := by rw [beq_eq_false_iff_ne]; omega
  have h3 : decide (a + b < 0) = false := by rw [decide_eq_false_iff_not]; omega
  have h4 : decide (a < 0) = false := by rw [decide_eq_false_iff_not]; omega
  have h5 : decide (b < 0) = false := by rw [decide_eq_false_iff_not]; omega
  clear ha hb
  go_enter Try.func13, Try.ntmps13
  go_wp2_with (go_at_call 33; refine (both_ok _ _ _ HA.out HB.out).mono ?_; rintro e w' ⟨rfl, rfl⟩)
  go_ret2
  exact ⟨rfl, rfl⟩
set_option maxHeartbeats 1000000 in
theorem add_high (a b : Int) (w : World) (ha : -9223372036854775808 ≤ a) (ha2 : a ≤ 9223372036854775807) (hb : -9223372036854775808 ≤ b) (hb2 : b ≤ 9223372036854775807) (na : a ≠ -9223372036854775808) (nb : b ≠ -9223372036854775808) (s : 9223372036854775807 < a + b) :
    Calls Try.prog 13 #[.int .i64 a, .int .i64 b] w fun e w' => e = .returned (.tuple #[.int .i64 0, .int .i64 11]) ∧ w = w' := by
  have HA := Lib.hid na
  have HB := Lib.hid nb
  obtain ⟨c, hc⟩ : ∃ c, wrap64 (a + b) = c := ⟨_, rfl⟩
  have h0 : c < 0 := by rw [← hc]; unfold wrap64; omega
  have h1 : decide (a < 0) = false := by rw [decide_eq_false_iff_not]; omega
  have h2 : decide (b < 0) = false := by rw [decide_eq_false_iff_not]; omega
  clear s
  clear na nb ha ha2 hb hb2
  go_enter Try.func13, Try.ntmps13
  go_wp2_with (go_at_call 33; refine (both_ok _ _ _ HA.out HB.out).mono ?_; rintro e w' ⟨rfl, rfl⟩)
  all_goals
    go_ret2
    exact ⟨rfl, rfl⟩
set_option maxHeartbeats 1000000 in
theorem add_low (a b : Int) (w : World) (ha : -9223372036854775808 ≤ a) (ha2 : a ≤ 9223372036854775807) (hb : -9223372036854775808 ≤ b) (hb2 : b ≤ 9223372036854775807) (na : a ≠ -9223372036854775808) (nb : b ≠ -9223372036854775808) (s : a + b < -9223372036854775808) :
    Calls Try.prog 13 #[.int .i64 a, .int .i64 b] w fun e w' => e = .returned (.tuple #[.int .i64 0, .int .i64 11]) ∧ w = w' := by
  have HA := Lib.hid na
  have HB := Lib.hid nb
  obtain ⟨c, hc⟩ : ∃ c, wrap64 (a + b) = c := ⟨_, rfl⟩
  have h0 : decide (c < 0) = false := by rw [decide_eq_false_iff_not, ← hc]; unfold wrap64; omega
  have h1 : a < 0 := by omega
  have h2 : b < 0 := by omega
  clear s
  clear na nb ha ha2 hb hb2
  go_enter Try.func13, Try.ntmps13
  go_wp2_with (go_at_call 33; refine (both_ok _ _ _ HA.out HB.out).mono ?_; rintro e w' ⟨rfl, rfl⟩)
  all_goals
    go_ret2
    exact ⟨rfl, rfl⟩
set_option maxHeartbeats 1000000 in
theorem add_none (a b : Int) (w : World) (ha : -9223372036854775808 ≤ a) (ha2 : a ≤ 9223372036854775807) (hb : -9223372036854775808 ≤ b) (hb2 : b ≤ 9223372036854775807) (na : a ≠ -9223372036854775808) (nb : b ≠ -9223372036854775808) (s : a + b = -9223372036854775808) :
    Calls Try.prog 13 #[.int .i64 a, .int .i64 b] w fun e w' => e = .returned (.tuple #[.int .i64 0, .int .i64 11]) ∧ w = w' := by
  have HA := Lib.hid na
  have HB := Lib.hid nb
  obtain ⟨c, hc⟩ : ∃ c, wrap64 (a + b) = c := ⟨_, rfl⟩
  have h0 : (c == -9223372036854775808) = true := by rw [beq_iff_eq, ← hc, s]; unfold wrap64; omega
  clear s
  clear na nb ha ha2 hb hb2
  go_enter Try.func13, Try.ntmps13
  go_wp2_with (go_at_call 33; refine (both_ok _ _ _ HA.out HB.out).mono ?_; rintro e w' ⟨rfl, rfl⟩)
  all_goals
    go_ret2
    exact ⟨rfl, rfl⟩
/-- money.Add -/
theorem add_any (a b : Int) (w : World) (ha : -9223372036854775808 ≤ a ∧ a ≤ 9223372036854775807) (hb : -9223372036854775808 ≤ b ∧ b ≤ 9223372036854775807) :
    Calls Try.prog 13 #[.int .i64 a, .int .i64 b] w fun e w' => e = .returned (.tuple #[.int .i64 (addV a b), .int .i64 (addE a b)]) ∧ w = w' := by
  unfold addV addE
  by_cases h : a ≠ -9223372036854775808 ∧ b ≠ -9223372036854775808
  · by_cases h2 : -9223372036854775807 ≤ a + b ∧ a + b ≤ 9223372036854775807
    · rw [if_pos ⟨h, h2⟩, if_pos h, if_pos h2]
      by_cases a0 : a < 0 <;> by_cases b0 : b < 0
      · exact add_nn a b w h.1 h.2 h2.1 h2.2 a0 b0
      · exact add_np a b w h.1 h.2 h2.1 h2.2 a0 (by omega)
      · exact add_pn a b w h.1 h.2 h2.1 h2.2 (by omega) b0
      · exact add_pp a b w h.1 h.2 h2.1 h2.2 (by omega) (by omega)
    · rw [if_neg (fun q => h2 q.2), if_pos h, if_neg h2]
      by_cases c1 : 9223372036854775807 < a + b
      · exact add_high a b w ha.1 ha.2 hb.1 hb.2 h.1 h.2 c1
      · by_cases c2 : a + b < -9223372036854775808
        · exact add_low a b w ha.1 ha.2 hb.1 hb.2 h.1 h.2 c2
        · exact add_none a b w ha.1 ha.2 hb.1 hb.2 h.1 h.2 (by omega)
  · rw [if_neg (fun q => h q.1), if_neg h]
    exact add_bad a b w (by omega)
end Go.Proofs.Ytncndmhmmfbklaa
