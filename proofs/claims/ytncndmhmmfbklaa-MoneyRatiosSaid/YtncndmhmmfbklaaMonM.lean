/- The walk of the law MoneyRatios. -/
import Derived.Test.YtncndmhmmfbklaaMonL
namespace Go.Proofs.Ytncndmhmmfbklaa
set_option linter.unusedVariables false
set_option linter.unusedSimpArgs false
open Go.RowKit

set_option maxHeartbeats 2000000 in
theorem ratios_law (a n d how : Int) (w : World) (h1 : (Lit.int IntKind.i64 a).wf = true) (h2 : (Lit.int IntKind.i64 n).wf = true) (h3 : (Lit.int IntKind.i64 d).wf = true) (h4 : (Lit.int IntKind.i64 how).wf = true) :
    Calls Try.prog 5 #[.agg #[.int .i64 a, .int .i64 n, .int .i64 d, .int .i64 how]] w fun e w' => e = .returned (.bool true) ∧ Below w.heap.size w w' := by
  simp [Lit.wf, IntKind.min, IntKind.max, IntKind.bits, IntKind.signed] at h1 h2 h3
  have HA := Lib.hid (show -9223372036854775808 ≤ a ∧ a ≤ 9223372036854775807 by omega)
  have HN := Lib.hid (show -9223372036854775808 ≤ n ∧ n ≤ 9223372036854775807 by omega)
  have HD := Lib.hid (show -9223372036854775808 ≤ d ∧ d ≤ 9223372036854775807 by omega)
  have q1 : (ratV a n d how == ratV a n d how) = true := beq_self_eq_true _
  have q2 : (ratE a n d how == ratE a n d how) = true := beq_self_eq_true _
  clear h1 h2 h3 h4
  go_enter Try.func5, Try.ntmps5
  go_wp2_with fail
  refine (ratio_any _ _ _ _ _ HA.out HN.out HD.out).mono ?_
  rintro e w1 ⟨rfl, b1⟩
  obtain ⟨hc1, hf1⟩ := bcell b1
  have hz := b1.size
  simp at hz
  have z0 : w.heap.size < w1.heap.size := by omega
  go_wp2_with fail
  refine (rratio_any _ _ _ _ _ HA.out HN.out HD.out).mono ?_
  rintro e w2 ⟨rfl, b2⟩
  go_wp2
  go_ret
  exact ⟨rfl, fm_call (fm_call (fm_alloc (Below.refl _ _) _) b1) b2⟩
end Go.Proofs.Ytncndmhmmfbklaa
