/- How the six ways of rounding stand to one another: plain Lean. -/
import Derived.Test.YtncndmhmmfbklaaDoorRnd
namespace Go.Proofs.YtncndmhmmfbklaaDoor
set_option linter.unusedVariables false
set_option linter.unusedSimpArgs false
open Go.RowKit
open MonMath (dig car bor mc)
theorem rq0 (p d : Nat) (m : Bool) : ratQ p d m 0 = p / d := by unfold ratQ upV; simp
theorem rq1 (p d : Nat) (m : Bool) : ratQ p d m 1 = p / d + if p % d = 0 then 0 else 1 := by
  unfold ratQ upV; by_cases h : p % d = 0 <;> simp [h]
theorem rq2 (p d : Nat) (m : Bool) : ratQ p d m 2 = p / d + if p % d = 0 then 0 else if m = true then 1 else 0 := by
  unfold ratQ upV; by_cases h : p % d = 0 <;> cases m <;> simp [h]
theorem rq3 (p d : Nat) (m : Bool) : ratQ p d m 3 = p / d + if p % d = 0 then 0 else if m = true then 0 else 1 := by
  unfold ratQ upV; by_cases h : p % d = 0 <;> cases m <;> simp [h]
theorem rq4 (p d : Nat) (m : Bool) : ratQ p d m 4 = p / d + if p % d = 0 then 0 else if d ≤ p % d + p % d then 1 else 0 := by
  unfold ratQ upV; by_cases h : p % d = 0 <;> by_cases k : d ≤ p % d + p % d <;> simp [h, k] <;> omega
theorem rq5 (p d : Nat) (m : Bool) : ratQ p d m 5 = p / d + if p % d = 0 then 0 else if d < p % d + p % d then 1 else if d = p % d + p % d ∧ (p / d) % 2 = 1 then 1 else 0 := by
  have hq0 : ((dig (p / d) 0 : Int) % 2 == 1) = decide ((p / d) % 2 = 1) := by
    have : dig (p / d) 0 = (p / d) % 4294967296 := by unfold MonMath.dig; rw [Nat.pow_zero, Nat.div_one]
    by_cases c : (p / d) % 2 = 1
    · rw [decide_eq_true c]; exact beq_iff_eq.2 (by omega)
    · rw [decide_eq_false c]; exact beq_eq_false_iff_ne.2 (by omega)
  unfold ratQ upV
  rw [hq0]
  by_cases h : p % d = 0
  · simp [h]
  · by_cases k : d < p % d + p % d
    · simp [h, k]
    · by_cases l : d = p % d + p % d
      · have k2 : ¬ p % d + p % d < d := by omega
        by_cases o : (p / d) % 2 = 1
        · simp only [h, k, k2, o, ← l]; simp [h, o]
        · simp only [h, k, k2, ← l]; simp [h, o]
      · have k2 : p % d + p % d < d := by omega
        simp only [h, k, k2, l]; simp [h, l]
/-- what the law asks of the six -/
structure RF (v0 v1 v2 v3 v4 v5 : Int) : Prop where
  le : v2 ≤ v3
  one : v3 - v2 ≤ 1
  wh : v0 = v1 ↔ v2 = v3
  i0 : v2 ≤ v0 ∧ v0 ≤ v3
  i1 : v2 ≤ v1 ∧ v1 ≤ v3
  i4 : v2 ≤ v4 ∧ v4 ≤ v3
  i5 : v2 ≤ v5 ∧ v5 ≤ v3
  neg : v0 < 0 → v0 = v3
  pos : 0 < v0 → v0 = v2
  half : v4 ≠ v5 → v4 % 2 ≠ 0
  b2 : -9223372036854775808 < v2
  b3 : v3 < 9223372036854775808
theorem sg_f (q : Nat) : sg q false = (q : Int) := rfl
theorem sg_t (q : Nat) : sg q true = -(q : Int) := rfl
theorem rat_all {a n d : Int} (hd : 1 ≤ d) (hb : ¬ ratBad a n) (h : allZ a n d) : ∀ how : Int, 0 ≤ how → how ≤ 5 → ratQ (a.natAbs * n.natAbs) d.natAbs (mneg a n) how < 9223372036854775808 ∧ ratV a n d how = sg (ratQ (a.natAbs * n.natAbs) d.natAbs (mneg a n) how) (mneg a n) ∧ ratE a n d how = 0 := by
  intro how h0 h5
  have ha : ¬ ratArg d how := by unfold ratArg; omega
  have hE : ratE a n d how = 0 := by
    have : how = 0 ∨ how = 1 ∨ how = 2 ∨ how = 3 ∨ how = 4 ∨ how = 5 := by omega
    rcases this with rfl | rfl | rfl | rfl | rfl | rfl
    · exact h.1
    · exact h.2.1
    · exact h.2.2.1
    · exact h.2.2.2.1
    · exact h.2.2.2.2.1
    · exact h.2.2.2.2.2
  by_cases hl : ratQ (a.natAbs * n.natAbs) d.natAbs (mneg a n) how < 9223372036854775808
  · exact ⟨hl, (rat_ok ha hb rfl hl).1, hE⟩
  · have := (rat_over ha hb rfl hl).2
    omega
theorem all_of {a n d : Int} (hd : 1 ≤ d) (hb : ¬ ratBad a n) (h : ∀ how : Int, 0 ≤ how → how ≤ 5 → ratQ (a.natAbs * n.natAbs) d.natAbs (mneg a n) how < 9223372036854775808) : allZ a n d := by
  have k : ∀ how : Int, 0 ≤ how → how ≤ 5 → ratE a n d how = 0 := fun how h0 h5 => (rat_ok (by unfold ratArg; omega) hb rfl (h how h0 h5)).2
  exact ⟨k 0 (by omega) (by omega), k 1 (by omega) (by omega), k 2 (by omega) (by omega), k 3 (by omega) (by omega), k 4 (by omega) (by omega), k 5 (by omega) (by omega)⟩
theorem rat_rf {a n d : Int} (hd : 1 ≤ d) (hb : ¬ ratBad a n) (h : allZ a n d) : RF (ratV a n d 0) (ratV a n d 1) (ratV a n d 2) (ratV a n d 3) (ratV a n d 4) (ratV a n d 5) := by
  have k := rat_all hd hb h
  obtain ⟨l0, e0, _⟩ := k 0 (by omega) (by omega)
  obtain ⟨l1, e1, _⟩ := k 1 (by omega) (by omega)
  obtain ⟨l2, e2, _⟩ := k 2 (by omega) (by omega)
  obtain ⟨l3, e3, _⟩ := k 3 (by omega) (by omega)
  obtain ⟨l4, e4, _⟩ := k 4 (by omega) (by omega)
  obtain ⟨l5, e5, _⟩ := k 5 (by omega) (by omega)
  rw [e0, e1, e2, e3, e4, e5]
  clear e0 e1 e2 e3 e4 e5 k h hb
  generalize a.natAbs * n.natAbs = p at *
  have hd' : 0 < d.natAbs := by omega
  generalize d.natAbs = D at *
  rw [rq0] at *
  rw [rq1] at *
  rw [rq2] at *
  rw [rq3] at *
  rw [rq4] at *
  rw [rq5] at *
  have hr : p % D < D := Nat.mod_lt _ hd'
  generalize p % D = r at *
  generalize p / D = q at *
  generalize mneg a n = m at *
  by_cases z : r = 0
  · simp only [z] at *
    cases m <;> (simp only [sg_f, sg_t]; constructor <;> simp <;> omega)
  · simp only [if_neg z] at *
    cases m
    · simp only [Bool.false_eq_true, if_false, sg_f] at *
      constructor <;> (repeat (first | split at * | omega)) <;> omega
    · simp only [if_true, sg_t] at *
      constructor <;> (repeat (first | split at * | omega)) <;> omega
theorem rat_self (a d : Int) (h1 : 1 ≤ d) (ha : -9223372036854775808 < a ∧ a < 9223372036854775808) (hdn : d ≠ -9223372036854775808) (how : Int) (h0 : 0 ≤ how) (h5 : how ≤ 5) : ratV a d d how = a ∧ ratE a d d how = 0 := by
  have hd' : 0 < d.natAbs := by omega
  have e1 : a.natAbs * d.natAbs / d.natAbs = a.natAbs := Nat.mul_div_cancel _ hd'
  have e2 : a.natAbs * d.natAbs % d.natAbs = 0 := Nat.mul_mod_left _ _
  have hq : ratQ (a.natAbs * d.natAbs) d.natAbs (mneg a d) how = a.natAbs := by unfold ratQ; rw [e1, e2]; simp
  have := rat_ok (a := a) (n := d) (d := d) (how := how) (by unfold ratArg; omega) (by unfold ratBad; omega) hq (by omega)
  refine ⟨?_, this.2⟩
  rw [this.1]
  have hm : mneg a d = decide (a < 0) := by
    unfold mneg
    have : decide (d < 0) = false := decide_eq_false (by omega)
    rw [this]; cases decide (a < 0) <;> rfl
  rw [hm]
  by_cases c : a < 0
  · rw [decide_eq_true c, sg_t]; omega
  · rw [decide_eq_false c, sg_f]; omega
theorem rat_opp {a n d : Int} (hd : 1 ≤ d) (hb : ¬ ratBad a n) (ha : -9223372036854775808 < a ∧ a < 9223372036854775808) (h : allZ a n d) :
    allZ (-a) n d ∧ ratV (-a) n d 0 = -ratV a n d 0 ∧ ratV (-a) n d 1 = -ratV a n d 1 ∧ ratV (-a) n d 2 = -ratV a n d 3 ∧ ratV (-a) n d 3 = -ratV a n d 2 ∧ ratV (-a) n d 4 = -ratV a n d 4 ∧ ratV (-a) n d 5 = -ratV a n d 5 := by
  have k := rat_all hd hb h
  have hb' : ¬ ratBad (-a) n := by unfold ratBad at *; omega
  have hp : (-a).natAbs = a.natAbs := Int.natAbs_neg a
  by_cases z : a = 0
  · subst z
    rw [show (-0 : Int) = 0 from rfl]
    have v : ∀ how : Int, 0 ≤ how → how ≤ 5 → ratV 0 n d how = 0 := by
      intro how h0 h5
      rw [(k how h0 h5).2.1]
      have : ratQ ((0 : Int).natAbs * n.natAbs) d.natAbs (mneg 0 n) how = 0 := by unfold ratQ; simp
      rw [this]; cases mneg 0 n <;> rfl
    rw [v 0 (by omega) (by omega), v 1 (by omega) (by omega), v 2 (by omega) (by omega), v 3 (by omega) (by omega), v 4 (by omega) (by omega), v 5 (by omega) (by omega)]
    exact ⟨h, rfl, rfl, rfl, rfl, rfl, rfl⟩
  · have hm : mneg (-a) n = !mneg a n := by
      unfold mneg
      by_cases c : a < 0
      · rw [decide_eq_true c, decide_eq_false (show ¬ -a < 0 by omega)]; cases decide (n < 0) <;> rfl
      · rw [decide_eq_false c, decide_eq_true (show -a < 0 by omega)]; cases decide (n < 0) <;> rfl
    obtain ⟨l0, e0, _⟩ := k 0 (by omega) (by omega)
    obtain ⟨l1, e1, _⟩ := k 1 (by omega) (by omega)
    obtain ⟨l2, e2, _⟩ := k 2 (by omega) (by omega)
    obtain ⟨l3, e3, _⟩ := k 3 (by omega) (by omega)
    obtain ⟨l4, e4, _⟩ := k 4 (by omega) (by omega)
    obtain ⟨l5, e5, _⟩ := k 5 (by omega) (by omega)
    have sw : ∀ (p D : Nat) (m : Bool), ratQ p D (!m) 0 = ratQ p D m 0 ∧ ratQ p D (!m) 1 = ratQ p D m 1 ∧ ratQ p D (!m) 2 = ratQ p D m 3 ∧ ratQ p D (!m) 3 = ratQ p D m 2 ∧ ratQ p D (!m) 4 = ratQ p D m 4 ∧ ratQ p D (!m) 5 = ratQ p D m 5 := by
      intro p D m
      refine ⟨by rw [rq0, rq0], by rw [rq1, rq1], ?_, ?_, by rw [rq4, rq4], by rw [rq5, rq5]⟩
      · rw [rq2, rq3]; cases m <;> rfl
      · rw [rq3, rq2]; cases m <;> rfl
    obtain ⟨s0, s1, s2, s3, s4, s5⟩ := sw (a.natAbs * n.natAbs) d.natAbs (mneg a n)
    have hz : allZ (-a) n d := by
      refine all_of hd hb' fun how h0 h5 => ?_
      rw [hp, hm]
      have : how = 0 ∨ how = 1 ∨ how = 2 ∨ how = 3 ∨ how = 4 ∨ how = 5 := by omega
      rcases this with rfl | rfl | rfl | rfl | rfl | rfl
      · rw [s0]; exact l0
      · rw [s1]; exact l1
      · rw [s2]; exact l3
      · rw [s3]; exact l2
      · rw [s4]; exact l4
      · rw [s5]; exact l5
    have k' := rat_all hd hb' hz
    have ng : ∀ (q : Nat) (m : Bool), sg q (!m) = -sg q m := by
      intro q m; cases m
      · rfl
      · show (q : Int) = - -(q : Int); omega
    refine ⟨hz, ?_, ?_, ?_, ?_, ?_, ?_⟩
    · rw [(k' 0 (by omega) (by omega)).2.1, hp, hm, s0, ng, e0]
    · rw [(k' 1 (by omega) (by omega)).2.1, hp, hm, s1, ng, e1]
    · rw [(k' 2 (by omega) (by omega)).2.1, hp, hm, s2, ng, e3]
    · rw [(k' 3 (by omega) (by omega)).2.1, hp, hm, s3, ng, e2]
    · rw [(k' 4 (by omega) (by omega)).2.1, hp, hm, s4, ng, e4]
    · rw [(k' 5 (by omega) (by omega)).2.1, hp, hm, s5, ng, e5]
end Go.Proofs.YtncndmhmmfbklaaDoor
