/- The ways of rounding (money.ratio's methods). -/
import Derived.Test.YtncndmhmmfbklaaMonG
namespace Go.Proofs.Ytncndmhmmfbklaa
set_option linter.unusedVariables false
set_option linter.unusedSimpArgs false
open Go.RowKit

def ratioV (q r d : Int) (m : Bool) : Value := .agg #[.int .u64 q, .int .u64 r, .int .u64 d, .bool m]
theorem way_down (q r d : Int) (m : Bool) (w : World) (h0 : 0 ≤ r) :
    Calls Try.prog 38 #[ratioV q r d m] w fun e w' => e = .returned (.bool (false)) ∧ Below w.heap.size w w' := by
  unfold ratioV
  by_cases h : 0 < r
  · have h1 : decide (0 < r) = true := decide_eq_true h
    try rw [h1]
    cases m <;>
    (go_enter Try.func38, Try.ntmps38
     go_wp2
     go_ret
     exact ⟨rfl, by repeat (first | exact Below.refl _ _ | apply fm_alloc | apply fm_drewN)⟩)
  · have h1 : r = 0 := by omega
    subst h1
    cases m <;>
    (go_enter Try.func38, Try.ntmps38
     go_wp2
     go_ret
     exact ⟨rfl, by repeat (first | exact Below.refl _ _ | apply fm_alloc | apply fm_drewN)⟩)
theorem way_up (q r d : Int) (m : Bool) (w : World) (h0 : 0 ≤ r) :
    Calls Try.prog 39 #[ratioV q r d m] w fun e w' => e = .returned (.bool (decide (0 < r))) ∧ Below w.heap.size w w' := by
  unfold ratioV
  by_cases h : 0 < r
  · have h1 : decide (0 < r) = true := decide_eq_true h
    try rw [h1]
    cases m <;>
    (go_enter Try.func39, Try.ntmps39
     go_wp2
     go_ret
     exact ⟨rfl, by repeat (first | exact Below.refl _ _ | apply fm_alloc | apply fm_drewN)⟩)
  · have h1 : r = 0 := by omega
    subst h1
    cases m <;>
    (go_enter Try.func39, Try.ntmps39
     go_wp2
     go_ret
     exact ⟨rfl, by repeat (first | exact Below.refl _ _ | apply fm_alloc | apply fm_drewN)⟩)
theorem way_floor (q r d : Int) (m : Bool) (w : World) (h0 : 0 ≤ r) :
    Calls Try.prog 40 #[ratioV q r d m] w fun e w' => e = .returned (.bool ((decide (0 < r) && m))) ∧ Below w.heap.size w w' := by
  unfold ratioV
  by_cases h : 0 < r
  · have h1 : decide (0 < r) = true := decide_eq_true h
    try rw [h1]
    cases m <;>
    (go_enter Try.func40, Try.ntmps40
     go_wp2
     go_ret
     exact ⟨rfl, by repeat (first | exact Below.refl _ _ | apply fm_alloc | apply fm_drewN)⟩)
  · have h1 : r = 0 := by omega
    subst h1
    cases m <;>
    (go_enter Try.func40, Try.ntmps40
     go_wp2
     go_ret
     exact ⟨rfl, by repeat (first | exact Below.refl _ _ | apply fm_alloc | apply fm_drewN)⟩)
theorem way_ceil (q r d : Int) (m : Bool) (w : World) (h0 : 0 ≤ r) :
    Calls Try.prog 41 #[ratioV q r d m] w fun e w' => e = .returned (.bool ((decide (0 < r) && !m))) ∧ Below w.heap.size w w' := by
  unfold ratioV
  by_cases h : 0 < r
  · have h1 : decide (0 < r) = true := decide_eq_true h
    try rw [h1]
    cases m <;>
    (go_enter Try.func41, Try.ntmps41
     go_wp2
     go_ret
     exact ⟨rfl, by repeat (first | exact Below.refl _ _ | apply fm_alloc | apply fm_drewN)⟩)
  · have h1 : r = 0 := by omega
    subst h1
    cases m <;>
    (go_enter Try.func41, Try.ntmps41
     go_wp2
     go_ret
     exact ⟨rfl, by repeat (first | exact Below.refl _ _ | apply fm_alloc | apply fm_drewN)⟩)
theorem way_half (q r d : Int) (m : Bool) (w : World) (h0 : 0 ≤ r) (h1 : r < d) (h2 : d ≤ 9223372036854775807) :
    Calls Try.prog 42 #[ratioV q r d m] w fun e w' => e = .returned (.bool (decide (d ≤ 2 * r))) ∧ Below w.heap.size w w' := by
  unfold ratioV
  have e1 : IntKind.u64.wrap (d - r) = d - r := by rw [IntKind.wrap_u64]; omega
  by_cases h : d ≤ 2 * r
  · rw [decide_eq_true h]
    have e2 : d - r ≤ r := by omega
    have e3 : 0 < r := by omega
    clear h
    (go_enter Try.func42, Try.ntmps42; go_wp2; go_ret; exact ⟨rfl, by repeat (first | exact Below.refl _ _ | apply fm_alloc | apply fm_drewN)⟩)
  · rw [decide_eq_false h]
    have e2 : r < d - r := by omega
    have e3 : decide (d - r ≤ r) = false := decide_eq_false (by omega)
    clear h
    (go_enter Try.func42, Try.ntmps42; go_wp2; go_ret; exact ⟨rfl, by repeat (first | exact Below.refl _ _ | apply fm_alloc | apply fm_drewN)⟩)
theorem way_even (q r d : Int) (m : Bool) (w : World) (h0 : 0 ≤ r) (h1 : r < d) (h2 : d ≤ 9223372036854775807) (hq : 0 ≤ q) (hq2 : q ≤ 18446744073709551615) :
    Calls Try.prog 43 #[ratioV q r d m] w fun e w' => e = .returned (.bool (decide (d < 2 * r) || (decide (d = 2 * r) && decide (q % 2 = 1)))) ∧ Below w.heap.size w w' := by
  unfold ratioV
  have e1 : IntKind.u64.wrap (d - r) = d - r := by rw [IntKind.wrap_u64]; omega
  by_cases h : d < 2 * r
  · rw [decide_eq_true h, Bool.true_or]
    have e2 : d - r < r := by omega
    clear h
    (go_enter Try.func43, Try.ntmps43; go_wp2; go_ret; exact ⟨rfl, by repeat (first | exact Below.refl _ _ | apply fm_alloc | apply fm_drewN)⟩)
  · rw [decide_eq_false h, Bool.false_or]
    have e3 : decide (d - r < r) = false := decide_eq_false (by omega)
    by_cases h5 : d = 2 * r
    · rw [decide_eq_true h5, Bool.true_and]
      have e4 : (r == d - r) = true := beq_iff_eq.mpr (by omega)
      by_cases h6 : q % 2 = 1
      · rw [decide_eq_true h6]
        have e5 : q.tmod 2 = 1 := by rw [Int.tmod_eq_emod_of_nonneg hq]; exact h6
        clear h h5 h6
        (go_enter Try.func43, Try.ntmps43; go_wp2; go_ret; exact ⟨rfl, by repeat (first | exact Below.refl _ _ | apply fm_alloc | apply fm_drewN)⟩)
      · rw [decide_eq_false h6]
        have e5 : q.tmod 2 = 0 := by rw [Int.tmod_eq_emod_of_nonneg hq]; omega
        clear h h5 h6
        (go_enter Try.func43, Try.ntmps43; go_wp2; go_ret; exact ⟨rfl, by repeat (first | exact Below.refl _ _ | apply fm_alloc | apply fm_drewN)⟩)
    · rw [decide_eq_false h5, Bool.false_and]
      have e4 : (r == d - r) = false := beq_eq_false_iff_ne.mpr (by omega)
      clear h h5
      (go_enter Try.func43, Try.ntmps43; go_wp2; go_ret; exact ⟨rfl, by repeat (first | exact Below.refl _ _ | apply fm_alloc | apply fm_drewN)⟩)
end Go.Proofs.Ytncndmhmmfbklaa
