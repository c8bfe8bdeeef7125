/- The walk of the law MoneyOnes. -/
import Derived.Test.YtncndmhmmfbklaaMonG
namespace Go.Proofs.Ytncndmhmmfbklaa
set_option linter.unusedVariables false
set_option linter.unusedSimpArgs false
open Go.RowKit

set_option maxHeartbeats 2000000 in
theorem ones_walk (a b : Int) (w : World) (ha1 : -9223372036854775808 ≤ a) (ha2 : a ≤ 9223372036854775807) (hb1 : -9223372036854775808 ≤ b) (hb2 : b ≤ 9223372036854775807) :
    Calls Try.prog 4 #[.int .i64 a, .int .i64 b] w fun e w' => e = .returned (.bool true) ∧ Below w.heap.size w w' := by
  have HA := Lib.hid (show -9223372036854775808 ≤ a ∧ a ≤ 9223372036854775807 from ⟨ha1, ha2⟩)
  have HB := Lib.hid (show -9223372036854775808 ≤ b ∧ b ≤ 9223372036854775807 from ⟨hb1, hb2⟩)
  have q1 : (chkE a == chkE a) = true := beq_self_eq_true _
  have q2 : (addV a b == addV a b) = true := beq_self_eq_true _
  have q3 : (addE a b == addE a b) = true := beq_self_eq_true _
  have q4 : (subV a b == subV a b) = true := beq_self_eq_true _
  have q5 : (subE a b == subE a b) = true := beq_self_eq_true _
  have q6 : (negV a == negV a) = true := beq_self_eq_true _
  have q7 : (mulV a b == mulV a b) = true := beq_self_eq_true _
  have q8 : (mulE a b == mulE a b) = true := beq_self_eq_true _
  clear ha1 ha2 hb1 hb2
  go_enter Try.func4, Try.ntmps4
  go_wp2_with fail
  refine (check_any _ _).mono ?_
  rintro e w' ⟨rfl, rfl⟩
  go_wp2_with fail
  refine (rcheck_any _ _).mono ?_
  rintro e w' ⟨rfl, rfl⟩
  go_wp2_with fail
  refine (add_any _ _ _ HA.out HB.out).mono ?_
  rintro e w' ⟨rfl, rfl⟩
  go_wp2_with fail
  refine (radd_any _ _ _ HA.out HB.out).mono ?_
  rintro e w1 ⟨rfl, b1⟩
  go_wp2_with fail
  refine (sub_any _ _ _ HA.out HB.out).mono ?_
  rintro e w' ⟨rfl, rfl⟩
  go_wp2_with fail
  refine (rsub_any _ _ _ HA.out HB.out).mono ?_
  rintro e w2 ⟨rfl, b2⟩
  go_wp2_with fail
  refine (neg_any _ _ HA.out.1 HA.out.2).mono ?_
  rintro e w' ⟨rfl, rfl⟩
  go_wp2_with fail
  refine (rneg_any _ _ HA.out.1 HA.out.2).mono ?_
  rintro e w' ⟨rfl, rfl⟩
  go_wp2_with fail
  refine (mul_any _ _ _ HA.out HB.out).mono ?_
  rintro e w' ⟨rfl, rfl⟩
  go_wp2_with fail
  refine (rmul_any _ _ _ HA.out HB.out).mono ?_
  rintro e w3 ⟨rfl, b3⟩
  go_wp2
  go_ret
  exact ⟨rfl, fm_call (fm_call b1 b2) b3⟩
theorem ones_law (a b : Int) (w : World) (h1 : (Lit.int IntKind.i64 a).wf = true) (h2 : (Lit.int IntKind.i64 b).wf = true) :
    Calls Try.prog 4 #[.int .i64 a, .int .i64 b] w fun e w' => e = .returned (.bool true) ∧ Below w.heap.size w w' := by
  have h1' := h1
  have h2' := h2
  simp [Lit.wf, IntKind.min, IntKind.max, IntKind.bits, IntKind.signed] at h1' h2'
  exact ones_walk a b w (by omega) (by omega) (by omega) (by omega)
end Go.Proofs.Ytncndmhmmfbklaa
