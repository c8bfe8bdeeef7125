/- The law MoneyRing in plain Lean, for lists of at most 2^20 numbers. -/
import Derived.Test.YtncndmhmmfbklaaDoorXR2
namespace Go.Proofs.YtncndmhmmfbklaaDoor.X
set_option linter.unusedVariables false
set_option linter.unusedSimpArgs false
open Go.RowKit Go.Lib Go.Proofs.YtncndmhmmfbklaaDoorW.PrintWords Go.Proofs.YtncndmhmmfbklaaDoorW.PrintLast
theorem wf_in {x : Int} (h : (Lit.int .i64 x).wf = true) : -9223372036854775808 ≤ x ∧ x ≤ 9223372036854775807 := by
  simp [Lit.wf, IntKind.min, IntKind.max, IntKind.bits, IntKind.signed] at h; exact h
theorem inR_of {l : List Int} (h : ∀ x ∈ l, (Lit.int .i64 x).wf = true) : inR l = true :=
  List.all_eq_true.2 fun x hx => decide_eq_true (wf_in (h x hx))
theorem inR_append {a b : List Int} (h : inR a = true) (k : inR b = true) : inR (a ++ b) = true := by unfold inR at *; rw [List.all_append, h, k]; rfl
theorem inR_reverse {a : List Int} (h : inR a = true) : inR a.reverse = true := by unfold inR at *; rw [List.all_reverse]; exact h
theorem sum_f {l : List Int} (h : inR l = true) (hl : l.length ≤ 2097152) : money_Sum.f l = some (sumOf l) := by
  unfold money_Sum.f; rw [if_pos ⟨decide_eq_true (by omega), h⟩]
theorem sumOf_cases (l : List Int) : (sumOf l).2 = 0 ∧ (sumOf l).1 = l.sum ∧ fitB l.sum = true ∧ amB l = true ∨ (sumOf l).2 ≠ 0 ∧ (sumOf l).1 = 0 := by
  unfold sumOf
  split
  · split
    · exact .inl ⟨rfl, rfl, ‹_›, ‹_›⟩
    · exact .inr ⟨by simp, rfl⟩
  · exact .inr ⟨by simp, rfl⟩
theorem sum_rev (l : List Int) : l.reverse.sum = l.sum := by
  induction l with
  | nil => rfl
  | cons x r ih => rw [List.reverse_cons, List.sum_append_int, ih]; simp only [List.sum_cons, List.sum_nil]; omega
theorem sumOf_rev (l : List Int) : sumOf l.reverse = sumOf l := by
  unfold sumOf; rw [sum_rev]; unfold amB; rw [List.all_reverse]
theorem sumOf_app {l m : List Int} (h : amB l = true) (k : amB m = true) : sumOf (l ++ m) = if fitB (l.sum + m.sum) = true then (l.sum + m.sum, 0) else (0, 11) := by
  unfold sumOf; rw [if_pos (by unfold amB at *; rw [List.all_append, h, k]; rfl), List.sum_append_int]
theorem fit_iff {t : Int} : fitB t = true ↔ -9223372036854775807 ≤ t ∧ t ≤ 9223372036854775807 := by unfold fitB; exact decide_eq_true_iff
theorem add_is {a b : Int} (h : fitB a = true) (k : fitB b = true) : money_Add.f a b = some (if fitB (a + b) = true then (a + b, 0) else (0, 11)) := by
  rw [fit_iff] at h k
  unfold money_Add.f money_both.f
  rw [if_neg (by omega), if_neg (by omega), Option.bind_some, if_pos rfl]
  by_cases q : fitB (a + b) = true
  · rw [if_pos q]
    rw [fit_iff] at q
    have e : wrap64 (a + b) = a + b := by unfold wrap64; omega
    rw [e, if_neg (by omega)]
    by_cases s : a < 0 <;> by_cases t : b < 0 <;> by_cases u : a + b < 0 <;> simp [s, t, u] <;> omega
  · rw [if_neg q]
    rw [fit_iff] at q
    by_cases c : wrap64 (a + b) = -9223372036854775808
    · rw [if_pos c]
    · rw [if_neg c]
      by_cases s : a < 0
      · have t : b < 0 := by omega
        have u : ¬ wrap64 (a + b) < 0 := by unfold wrap64 at *; omega
        simp [s, t, u]
      · have t : ¬ b < 0 := by omega
        have u : wrap64 (a + b) < 0 := by unfold wrap64 at *; omega
        simp [s, t, u]
theorem rd_at (l : List Int) (i : Nat) (h : i < l.length) : rd l (i : Int) = l[i] := nthI_eq l i h
theorem ring_loop (x6 x8 : Int) (x11 : List Int) (k : Nat) (hx : x11.length ≤ 2097152) : ∀ (i : Nat) (x10 : List Int), i ≤ x11.length → x10.length + i ≤ 2097152 →
    daybooklaw01_MoneyRing.l0 (k + i) x6 x8 x10 x11 ((i : Int) - 1) = daybooklaw01_MoneyRing.l0 k x6 x8 (x10 ++ (x11.take i).reverse) x11 (-1) := by
  intro i
  induction i with
  | zero => intro x10 h1 h2; simp
  | succ i ih =>
    intro x10 h1 h2
    have e : ((i + 1 : Nat) : Int) - 1 = (i : Int) := by omega
    have ew : wrap64 ((i : Int) - 1) = (i : Int) - 1 := by unfold wrap64; omega
    rw [e, ← Nat.add_assoc, daybooklaw01_MoneyRing.l0, if_pos (by omega), if_pos (by omega), if_pos (by omega), if_pos (by omega), ew, rd_at _ i (by omega), ih _ (by omega) (by rw [List.length_append, List.length_singleton]; omega)]
    rw [List.append_assoc, List.take_succ_eq_append_getElem (by omega), List.reverse_append, List.reverse_singleton]
theorem ring (l0 l1 : List Int) (n0 : l0.length ≤ 1048576) (n1 : l1.length ≤ 1048576) (w0 : ∀ x ∈ l0, (Lit.int .i64 x).wf = true) (w1 : ∀ x ∈ l1, (Lit.int .i64 x).wf = true) :
    ∃ k, daybooklaw01_MoneyRing.f k l0 l1 = some true := by
  have r0 := inR_of w0
  have r1 := inR_of w1
  refine ⟨(1 + 1 + 1) + (l0 ++ l1).length + 1, ?_⟩
  unfold daybooklaw01_MoneyRing.f daybooklaw01_first.f
  rw [Option.bind_some, if_pos rfl, sum_f r0 (by omega), Option.bind_some, sum_f r1 (by omega), Option.bind_some]
  rcases sumOf_cases l0 with ⟨e1, e2, e3, e4⟩ | ⟨e1, e2⟩
  · rcases sumOf_cases l1 with ⟨f1, f2, f3, f4⟩ | ⟨f1, f2⟩
    · rw [e1, e2, f1, f2, if_pos rfl, daybooklaw01_MoneyRing.j0, if_neg (by simp), if_pos (by simp; omega), Option.bind_some, List.nil_append, if_pos (by omega), Option.bind_some]
      have hl : (l0 ++ l1).length ≤ 2097152 := by rw [List.length_append]; omega
      generalize hB : l0 ++ l1 = B at *
      have rB : inR B = true := by rw [← hB]; exact inR_append r0 r1
      have sB : sumOf B = if fitB (l0.sum + l1.sum) = true then (l0.sum + l1.sum, 0) else (0, 11) := by rw [← hB]; exact sumOf_app e4 f4
      have ew : wrap64 ((B.length : Int) - 1) = (B.length : Int) - 1 := by unfold wrap64; omega
      rw [ew, ring_loop _ _ _ _ hl _ _ (Nat.le_refl _) (by simpa using hl), List.nil_append, List.take_length, daybooklaw01_MoneyRing.l0, if_neg (by omega)]
      have a1 := add_is e3 f3
      have a2 := add_is f3 e3
      rw [Int.add_comm l1.sum l0.sum] at a2
      rw [a1, Option.bind_some, a2, Option.bind_some, sum_f rB hl, Option.bind_some, sum_f (inR_reverse rB) (by rw [List.length_reverse]; exact hl), Option.bind_some, sumOf_rev, sB]
      rw [if_pos rfl, if_pos rfl, if_pos rfl, if_pos rfl, if_pos rfl]
      have e3' := fit_iff.1 e3
      have f3' := fit_iff.1 f3
      have n1 : money_Neg.f l0.sum = some (-l0.sum, 0) := by
        unfold money_Neg.f; rw [if_neg (by omega)]; have : wrap64 (-l0.sum) = -l0.sum := by unfold wrap64; omega
        rw [this]
      have n2 : money_Neg.f (-l0.sum) = some (l0.sum, 0) := by
        unfold money_Neg.f; rw [if_neg (by omega)]; have : wrap64 (- -l0.sum) = l0.sum := by unfold wrap64; omega
        rw [this]
      have nb : money_both.f (l0.sum + l1.sum) l1.sum = some (if l0.sum + l1.sum = -9223372036854775808 then 10 else 0) := by
        unfold money_both.f; split
        · rfl
        · rw [if_neg (by omega)]
      by_cases q : fitB (l0.sum + l1.sum) = true
      · rw [if_pos q]
        have q' := fit_iff.1 q
        have eb : wrap64 (-l1.sum) = -l1.sum := by unfold wrap64; omega
        have fb : fitB (-l1.sum) = true := fit_iff.2 (by omega)
        have a3 := add_is q fb
        rw [show l0.sum + l1.sum + -l1.sum = l0.sum by omega, if_pos e3] at a3
        simp only [bne_self_eq_false]
        rw [daybooklaw01_MoneyRing.j2, if_neg (by simp), n1, Option.bind_some]
        simp only
        rw [n2, Option.bind_some, if_pos rfl, if_pos trivial]
        simp only [bne_self_eq_false]
        rw [daybooklaw01_MoneyRing.j3, if_neg (by simp), if_pos rfl]
        unfold money_Sub.f
        rw [nb, if_neg (by omega), Option.bind_some, if_pos rfl, eb, a3, Option.bind_some, Option.bind_some, if_pos rfl]
        simp
      · rw [if_neg q]
        simp only [bne_self_eq_false]
        rw [daybooklaw01_MoneyRing.j2, if_neg (by simp), n1, Option.bind_some]
        simp only
        rw [n2, Option.bind_some, if_pos rfl, if_pos trivial]
        simp only [bne_self_eq_false]
        rw [daybooklaw01_MoneyRing.j3, if_neg (by simp), if_neg (by omega)]
        simp
    · rw [e1, e2, f2, if_pos rfl]
      have : ((sumOf l1).2 != 0) = true := bne_iff_ne.2 f1
      rw [this, daybooklaw01_MoneyRing.j0, if_pos rfl, if_pos rfl, if_pos rfl, this]
      split <;> rfl
  · rw [if_neg e1, daybooklaw01_MoneyRing.j0, if_pos rfl, if_pos e2, if_neg e1]
theorem ring_walk (A0 : Option Addr) (c0 : Nat) (l0 : List Int) (A1 : Option Addr) (c1 : Nat) (l1 : List Int) (w : World) (hc0 : l0.length ≤ c0) (hr0 : ReadsInt w .i64 A0 l0.length l0) (w0 : ∀ x ∈ l0, (Lit.int .i64 x).wf = true) (n0 : l0.length ≤ 1048576)
    (hc1 : l1.length ≤ c1) (hr1 : ReadsInt w .i64 A1 l1.length l1) (w1 : ∀ x ∈ l1, (Lit.int .i64 x).wf = true) (n1 : l1.length ≤ 1048576) (G : Glob w) :
    Calls Tryd.prog 6 #[.slice A0 l0.length c0, .slice A1 l1.length c1] w fun e w' => e = .returned (.bool true) ∧ Below w.heap.size w w' := by
  obtain ⟨k, h⟩ := ring l0 l1 n0 n1 w0 w1
  exact daybooklaw01_MoneyRing.calls k A0 c0 l0 A1 c1 l1 true w (Kd.C_of_reads (d := (0 : Int)) (h1 := fun _ => rfl) hr0) hc0 (Kd.C_of_reads (d := (0 : Int)) (h1 := fun _ => rfl) hr1) hc1 h G
end Go.Proofs.YtncndmhmmfbklaaDoor.X
