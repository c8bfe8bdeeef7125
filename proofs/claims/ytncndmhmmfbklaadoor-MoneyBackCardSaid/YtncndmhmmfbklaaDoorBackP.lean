/- The law MoneyBack in plain Lean, and its walk. -/
import Derived.Test.YtncndmhmmfbklaaDoorPaP
import Derived.Test.YtncndmhmmfbklaaDoorXB2
namespace Go.Proofs.YtncndmhmmfbklaaDoor.XB
set_option linter.unusedVariables false
set_option linter.unusedSimpArgs false
open Go.RowKit Go.Lib Go.Proofs.YtncndmhmmfbklaaDoorW.PrintWords
theorem print_f (a : Int) (d : Nat) (h1 : -9223372036854775808 ≤ a) (h2 : a ≤ 9223372036854775807) : money_Print.f a d = some (X.printP a d) := by
  unfold money_Print.f X.money_Print.f; rw [if_pos ⟨h1, h2⟩]
theorem print_min (d : Nat) (h : d ≤ 6) : (X.printP (-9223372036854775808) d).2 = 10 := by unfold X.printP; rw [if_neg (by omega), if_pos rfl]
theorem wf_in {x : Int} (h : (Lit.int .i64 x).wf = true) : -9223372036854775808 ≤ x ∧ x ≤ 9223372036854775807 := by
  simp [Lit.wf, IntKind.min, IntKind.max, IntKind.bits, IntKind.signed] at h; exact h
theorem back_loop (a b : Int) (ha : -9223372036854775808 ≤ a ∧ a ≤ 9223372036854775807) (hb : -9223372036854775808 ≤ b ∧ b ≤ 9223372036854775807) : ∀ (j i k : Nat), i + j = 7 → 3 * j + 1 ≤ k → daybooklaw01_MoneyBack.l0 k a b (i : Int) = some true := by
  intro j
  induction j with
  | zero =>
    intro i k hi hk
    obtain ⟨k, rfl⟩ : ∃ m, k = m + 1 := ⟨k - 1, by omega⟩
    rw [daybooklaw01_MoneyBack.l0, if_neg (by omega)]
  | succ j ih =>
    intro i k hi hk
    obtain ⟨k, rfl⟩ : ∃ m, k = m + 3 := ⟨k - 3, by omega⟩
    have hw : wrap64 ((i : Int) + 1) = ((i + 1 : Nat) : Int) := by unfold wrap64; omega
    have n1 := ih (i + 1) (k + 1) (by omega) (by omega)
    have n2 := ih (i + 1) k (by omega) (by omega)
    rw [daybooklaw01_MoneyBack.l0, if_pos (by omega), print_f a i ha.1 ha.2, Option.bind_some, print_f b i hb.1 hb.2, Option.bind_some]
    by_cases ca : a = -9223372036854775808
    · rw [if_pos ca, daybooklaw01_MoneyBack.j1, if_pos rfl, if_pos ca]
      have pa : (X.printP a i).2 = 10 := by rw [ca]; exact print_min i (by omega)
      rw [if_pos pa]
      by_cases cb : b = -9223372036854775808
      · have pb : (X.printP b i).2 = 10 := by rw [cb]; exact print_min i (by omega)
        rw [if_pos cb, daybooklaw01_MoneyBack.j2, pb, if_neg (by simp), hw]; exact n2
      · rw [if_neg cb, daybooklaw01_MoneyBack.j2, if_neg (by simp), hw]; exact n2
    · rw [if_neg ca]
      by_cases cb : b = -9223372036854775808
      · have pb : (X.printP b i).2 = 10 := by rw [cb]; exact print_min i (by omega)
        rw [daybooklaw01_MoneyBack.j1, if_pos (by rw [cb]; rfl), if_neg ca, if_pos cb, daybooklaw01_MoneyBack.j2, pb, if_neg (by simp), hw]; exact n2
      · obtain ⟨q1, q2⟩ := X.parse_print a i (by omega) (by omega) ha.2
        obtain ⟨r1, r2⟩ := X.parse_print b i (by omega) (by omega) hb.2
        have hf : money_Parse.f (X.printP a i).1 i = some (a, 0) := by unfold money_Parse.f X.money_Parse.f; rw [q1]
        rw [daybooklaw01_MoneyBack.j1, if_neg (by rw [beq_eq_false_iff_ne.2 cb]; simp), hf, Option.bind_some, if_pos q2, if_pos r2, if_pos rfl, if_pos rfl]
        have hx : ((X.printP a i).1.toList == (X.printP b i).1.toList) = (a == b) := by
          by_cases e : a = b
          · rw [e]; simp
          · rw [beq_eq_false_iff_ne.2 e]
            apply beq_eq_false_iff_ne.2
            intro h
            rw [X.to_data, X.to_data] at h
            rw [h, r1] at q1
            exact e (Prod.mk.inj q1).1.symm
        rw [hx, if_neg (by simp), hw]; exact n1
theorem back_walk (a b : Int) (w : World) (w0 : (Lit.int .i64 a).wf = true) (w1 : (Lit.int .i64 b).wf = true) (G : X.GlobP w) :
    Calls Tryd.prog 8 #[.int .i64 a, .int .i64 b] w fun e w' => e = .returned (.bool true) ∧ Below w.heap.size w w' := by
  refine daybooklaw01_MoneyBack.calls 22 a b true w ?_ G
  unfold daybooklaw01_MoneyBack.f daybooklaw01_first.f
  rw [Option.bind_some, if_pos rfl]
  exact back_loop a b (wf_in w0) (wf_in w1) 7 0 22 rfl (by omega)
end Go.Proofs.YtncndmhmmfbklaaDoor.XB
