/- Decimal digits in plain Lean: at least so many, split at the point. -/
import Derived.Lib.ItoaNum
import Derived.Lib.Repeat
namespace Go.Proofs.YtncndmhmmfbklaaDoor.X
set_option linter.unusedVariables false
set_option linter.unusedSimpArgs false
open Go.Lib

/-- the digits of v, at least m -/
def D (v m : Nat) : List UInt8 := if v = 0 ∧ m = 0 then [] else D (v / 10) (m - 1) ++ [UInt8.ofNat (48 + v % 10)]
termination_by v + m
decreasing_by omega
theorem D_zero : D 0 0 = [] := by rw [D]; simp
theorem D_step {v m : Nat} (h : ¬ (v = 0 ∧ m = 0)) : D v m = D (v / 10) (m - 1) ++ [UInt8.ofNat (48 + v % 10)] := by rw [D, if_neg h]
theorem D_pos {v : Nat} (h : 0 < v) : D v 0 = D v 1 := by rw [D_step (by omega), D_step (v := v) (m := 1) (by omega)]
theorem dec_D (u : Nat) : decDigits u = D u 1 := by
  induction u using Nat.strongRecOn with
  | ind u ih =>
    rw [decDigits]
    by_cases h : u < 10
    · rw [dif_pos h, D_step (by omega), show u / 10 = 0 by omega, show 1 - 1 = 0 from rfl, D_zero, List.nil_append, Nat.mod_eq_of_lt h]
    · rw [dif_neg h, D_step (by omega), ih (u / 10) (by omega), show 1 - 1 = 0 from rfl, D_pos (by omega)]
theorem D_len : ∀ (m v : Nat), v < 10 ^ m → (D v m).length = m
  | 0, v, h => by
    rw [Nat.pow_zero] at h
    rw [show v = 0 by omega, D_zero]; rfl
  | m + 1, v, h => by
    rw [D_step (by omega), List.length_append, Nat.add_sub_cancel, D_len m (v / 10) (by rw [Nat.pow_succ] at h; omega)]; rfl
theorem D_nil (m : Nat) : D 0 m = List.replicate m 48 := by
  induction m with
  | zero => exact D_zero
  | succ m ih =>
    rw [D_step (by omega), Nat.zero_div, Nat.add_sub_cancel, ih]
    rw [List.replicate_succ']; rfl
theorem D_pad (m : Nat) : ∀ u, 1 ≤ m → D u m = List.replicate (m - (D u 1).length) 48 ++ D u 1 := by
  induction m with
  | zero => intro u h; omega
  | succ m ih =>
    intro u _
    have e1 : D u 1 = D (u / 10) 0 ++ [UInt8.ofNat (48 + u % 10)] := D_step (by omega)
    have e2 : D u (m + 1) = D (u / 10) m ++ [UInt8.ofNat (48 + u % 10)] := D_step (by omega)
    rw [e2, e1]
    by_cases h : u / 10 = 0
    · rw [h, D_zero, D_nil, List.nil_append]; simp
    · rw [D_pos (by omega)]
      rcases Nat.eq_zero_or_pos m with h0 | h0
      · subst h0
        rw [D_pos (by omega), List.length_append, List.length_singleton, show 0 + 1 - ((D (u / 10) 1).length + 1) = 0 by omega]; rfl
      · rw [ih (u / 10) h0, List.length_append, List.length_singleton, show m + 1 - ((D (u / 10) 1).length + 1) = m - (D (u / 10) 1).length by omega, List.append_assoc]
theorem D_split : ∀ (d u : Nat), D u (d + 1) = D (u / 10 ^ d) 1 ++ D (u % 10 ^ d) d
  | 0, u => by simp [Nat.mod_one, D_zero]
  | d + 1, u => by
    have e : D u (d + 1 + 1) = D (u / 10) (d + 1) ++ [UInt8.ofNat (48 + u % 10)] := D_step (by omega)
    have e2 : D (u % 10 ^ (d + 1)) (d + 1) = D (u % 10 ^ (d + 1) / 10) d ++ [UInt8.ofNat (48 + u % 10 ^ (d + 1) % 10)] := D_step (by omega)
    have h1 : u % 10 ^ (d + 1) / 10 = u / 10 % 10 ^ d := by rw [Nat.pow_succ', Nat.mod_mul_right_div_self]
    have h2 : u % 10 ^ (d + 1) % 10 = u % 10 := by rw [Nat.pow_succ', Nat.mod_mul_right_mod]
    have h3 : u / 10 / 10 ^ d = u / 10 ^ (d + 1) := by rw [Nat.div_div_eq_div_mul, ← Nat.pow_succ']
    rw [e, D_split d (u / 10), e2, h1, h2, h3, List.append_assoc]
theorem repeat_zero (n : Nat) : repeatL [48] n = List.replicate n 48 := by
  induction n with
  | zero => rfl
  | succ n ih => rw [repeatL, ih, List.replicate_succ]; rfl
theorem D_len1 (u : Nat) (e : Nat) (h : u < 10 ^ e) (he : 1 ≤ e) : 1 ≤ (D u 1).length ∧ (D u 1).length ≤ e := by
  have h1 := D_len e u h
  rw [D_pad e u he, List.length_append, List.length_replicate] at h1
  refine ⟨?_, by omega⟩
  rw [D_step (by omega), List.length_append]; simp
end Go.Proofs.YtncndmhmmfbklaaDoor.X
