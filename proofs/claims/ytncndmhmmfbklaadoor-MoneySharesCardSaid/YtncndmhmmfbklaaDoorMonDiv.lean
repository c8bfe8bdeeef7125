/- Plain arithmetic of long division, bit by bit. -/
import Derived.Test.YtncndmhmmfbklaaDoorMonMath
namespace MonMath
set_option linter.unusedVariables false
set_option linter.unusedSimpArgs false

theorem pow_word (k m : Nat) : 2 ^ (32 * k + m) = 2 ^ m * 4294967296 ^ k := by
  rw [Nat.pow_add, Nat.pow_mul, Nat.mul_comm]
/-- one bit more in a word that has room -/
theorem dig_add {Q k m : Nat} (h : Q / 4294967296 ^ k % 4294967296 + 2 ^ m < 4294967296) (l : Nat) :
    dig (Q + 2 ^ m * 4294967296 ^ k) l = if l = k then dig Q k + 2 ^ m else dig Q l := by
  have hk : 0 < 4294967296 ^ k := Nat.pow_pos (by decide)
  have hu : (Q + 2 ^ m * 4294967296 ^ k) / 4294967296 ^ k = Q / 4294967296 ^ k + 2 ^ m := by
    rw [Nat.mul_comm, Nat.add_mul_div_left _ _ hk]
  by_cases e : l = k
  · subst e
    rw [if_pos rfl]
    unfold dig
    rw [hu]
    generalize 2 ^ m = p at *
    generalize Q / 4294967296 ^ l = u at *
    omega
  · rw [if_neg e]
    unfold dig
    by_cases c : l < k
    · obtain ⟨d, rfl⟩ : ∃ d, k = l + 1 + d := ⟨k - l - 1, by omega⟩
      have hl : 0 < 4294967296 ^ l := Nat.pow_pos (by decide)
      have e1 : 2 ^ m * 4294967296 ^ (l + 1 + d) = 4294967296 ^ l * (4294967296 * (2 ^ m * 4294967296 ^ d)) := by
        rw [Nat.pow_add, Nat.pow_succ]; ac_rfl
      rw [e1, Nat.add_mul_div_left _ _ hl]
      omega
    · obtain ⟨d, rfl⟩ : ∃ d, l = k + (1 + d) := ⟨l - k - 1, by omega⟩
      have e2 : ∀ v, v / 4294967296 ^ (k + (1 + d)) = v / 4294967296 ^ k / 4294967296 / 4294967296 ^ d := fun v => by
        rw [Nat.pow_add, Nat.pow_add, Nat.pow_one, Nat.div_div_eq_div_mul, Nat.div_div_eq_div_mul]
      rw [e2, e2, hu]
      have : (Q / 4294967296 ^ k + 2 ^ m) / 4294967296 = Q / 4294967296 ^ k / 4294967296 := by
        generalize 2 ^ m = p at *
        generalize Q / 4294967296 ^ k = u at *
        omega
      rw [this]
/-- room for bit i in what is a multiple of 2 to the power of i + 1 -/
theorem bit_room (c k m : Nat) (hm : m < 32) : (c * 2 ^ (32 * k + m + 1)) / 4294967296 ^ k % 4294967296 + 2 ^ m < 4294967296 := by
  have hk : 0 < 4294967296 ^ k := Nat.pow_pos (by decide)
  have e1 : c * 2 ^ (32 * k + m + 1) = (c * 2 ^ (m + 1)) * 4294967296 ^ k := by
    rw [show 32 * k + m + 1 = 32 * k + (m + 1) by omega, pow_word, Nat.mul_assoc]
  rw [e1, Nat.mul_div_cancel _ hk]
  obtain ⟨d, hd⟩ : ∃ d, 31 = m + d := ⟨31 - m, by omega⟩
  have e2 : (4294967296 : Nat) = 2 ^ d * 2 ^ (m + 1) := by
    rw [← Nat.pow_add, show d + (m + 1) = 32 by omega]
  have hp : 0 < 2 ^ d := Nat.pow_pos (by decide)
  have hq : 0 < 2 ^ m := Nat.pow_pos (by decide)
  have h3 : c * 2 ^ (m + 1) % 4294967296 = c % 2 ^ d * 2 ^ (m + 1) := by
    rw [e2, Nat.mul_mod_mul_right]
  have h4 := Nat.mod_lt c hp
  have h5 : (c % 2 ^ d + 1) * 2 ^ (m + 1) ≤ 2 ^ d * 2 ^ (m + 1) := Nat.mul_le_mul_right _ h4
  rw [h3, Nat.add_mul] at *
  have h6 : 2 ^ (m + 1) = 2 * 2 ^ m := by rw [Nat.pow_succ]; omega
  omega
/-- a bit of a word -/
theorem bit_dig (x k m : Nat) (hm : m < 32) : dig x k / 2 ^ m % 2 = x / 2 ^ (32 * k + m) % 2 := by
  unfold dig
  rw [pow_word, Nat.mul_comm (2 ^ m), ← Nat.div_div_eq_div_mul]
  generalize x / 4294967296 ^ k = a
  obtain ⟨d, hd⟩ : ∃ d, 31 = m + d := ⟨31 - m, by omega⟩
  have e2 : (4294967296 : Nat) = 2 ^ m * (2 * 2 ^ d) := by
    rw [← Nat.pow_succ', ← Nat.pow_add, show m + (d + 1) = 32 by omega]
  have hq : 0 < 2 ^ m := Nat.pow_pos (by decide)
  have h := Nat.div_add_mod a 4294967296
  have : a / 2 ^ m = (a % 4294967296) / 2 ^ m + 2 * (2 ^ d * (a / 4294967296)) := by
    have e3 : a = a % 4294967296 + 2 ^ m * (2 * (2 ^ d * (a / 4294967296))) := by
      have : 2 ^ m * (2 * (2 ^ d * (a / 4294967296))) = 4294967296 * (a / 4294967296) := by
        rw [← Nat.mul_assoc 2, ← Nat.mul_assoc, ← e2]
      omega
    rw [← Nat.add_mul_div_left _ _ hq, ← e3]
  omega
/-- the next bit of a division -/
theorem div_next (x y i : Nat) (hy : 0 < y) :
    (x / 2 ^ (i + 1) % y + x / 2 ^ (i + 1) % y + x / 2 ^ i % 2 < y →
      x / 2 ^ i % y = x / 2 ^ (i + 1) % y + x / 2 ^ (i + 1) % y + x / 2 ^ i % 2 ∧ x / 2 ^ i / y * 2 ^ i = x / 2 ^ (i + 1) / y * 2 ^ (i + 1)) ∧
    (y ≤ x / 2 ^ (i + 1) % y + x / 2 ^ (i + 1) % y + x / 2 ^ i % 2 →
      x / 2 ^ i % y = x / 2 ^ (i + 1) % y + x / 2 ^ (i + 1) % y + x / 2 ^ i % 2 - y ∧ x / 2 ^ i / y * 2 ^ i = x / 2 ^ (i + 1) / y * 2 ^ (i + 1) + 2 ^ i) := by
  have e1 : x / 2 ^ (i + 1) = x / 2 ^ i / 2 := by rw [Nat.pow_succ, Nat.div_div_eq_div_mul]
  rw [e1]
  generalize x / 2 ^ i = a
  have h1 := Nat.div_add_mod (a / 2) y
  have h2 := Nat.mod_lt (a / 2) hy
  have hp : 2 ^ (i + 1) = 2 * 2 ^ i := by rw [Nat.pow_succ]; omega
  rw [hp]
  generalize 2 ^ i = p
  generalize a / 2 / y = q at *
  generalize hr : a / 2 % y = r at *
  have ha : a = y * (2 * q) + (r + r + a % 2) := by
    have : y * (2 * q) = 2 * (y * q) := by ac_rfl
    omega
  constructor
  · intro h
    have e2 : a % y = r + r + a % 2 := (congrArg (· % y) ha).trans (by show (_ + _) % y = _; rw [Nat.mul_add_mod]; exact Nat.mod_eq_of_lt h)
    have e3 : a / y = 2 * q := (congrArg (· / y) ha).trans (by show (_ + _) / y = _; rw [Nat.mul_add_div hy, Nat.div_eq_of_lt h]; rfl)
    refine ⟨e2, ?_⟩
    rw [e3]; ac_rfl
  · intro h
    have hb : r + r + a % 2 - y < y := by omega
    have ha2 : a = y * (2 * q + 1) + (r + r + a % 2 - y) := by rw [Nat.mul_add, Nat.mul_one]; omega
    have e2 : a % y = r + r + a % 2 - y := (congrArg (· % y) ha2).trans (by show (_ + _) % y = _; rw [Nat.mul_add_mod]; exact Nat.mod_eq_of_lt hb)
    have e3 : a / y = 2 * q + 1 := (congrArg (· / y) ha2).trans (by show (_ + _) / y = _; rw [Nat.mul_add_div hy, Nat.div_eq_of_lt hb])
    refine ⟨e2, ?_⟩
    rw [e3, Nat.add_mul, Nat.one_mul]
    have : 2 * q * p = q * (2 * p) := by ac_rfl
    omega
end MonMath
