/- Plain arithmetic: long multiplication by words of 32 bits. -/
import Derived.Test.YtncndmhmmfbklaaDoorMonMath
namespace MonMath
set_option linter.unusedVariables false

theorem mod_dig (v i : Nat) : v % 4294967296 ^ (i + 1) = v % 4294967296 ^ i + 4294967296 ^ i * dig v i := by
  unfold dig; rw [Nat.pow_succ, Nat.mod_mul]
/-- what is carried into place i + j of row i -/
def mq (p xi y i j : Nat) : Nat := p % 4294967296 ^ (i + j) + xi * 4294967296 ^ i * (y % 4294967296 ^ j)
def mc (p xi y i j : Nat) : Nat := mq p xi y i j / 4294967296 ^ (i + j)
theorem mc_zero (p xi y i : Nat) : mc p xi y i 0 = 0 := by
  unfold mc mq
  rw [Nat.pow_zero, Nat.mod_one, Nat.mul_zero, Nat.add_zero, Nat.add_zero]
  exact Nat.div_eq_of_lt (Nat.mod_lt _ (Nat.pow_pos (by decide)))
theorem mc_le (p xi y i j : Nat) (h : xi < 4294967296) : mc p xi y i j < 4294967296 := by
  unfold mc
  have hp : 0 < 4294967296 ^ (i + j) := Nat.pow_pos (by decide)
  have hj : 0 < 4294967296 ^ j := Nat.pow_pos (by decide)
  rw [Nat.div_lt_iff_lt_mul hp]
  unfold mq
  have h1 := Nat.mod_lt p hp
  have h2 := Nat.mod_lt y hj
  have h3 : xi * 4294967296 ^ i * (y % 4294967296 ^ j) ≤ 4294967295 * 4294967296 ^ i * 4294967296 ^ j := Nat.mul_le_mul (Nat.mul_le_mul_right _ (by omega)) (by omega)
  have h4 : 4294967295 * 4294967296 ^ i * 4294967296 ^ j = 4294967295 * 4294967296 ^ (i + j) := by rw [Nat.mul_assoc, Nat.pow_add]
  rw [h4] at h3
  generalize 4294967296 ^ (i + j) = q at *
  omega
theorem mq_succ (p xi y i j : Nat) : mq p xi y i (j + 1) = mq p xi y i j + 4294967296 ^ (i + j) * (dig p (i + j) + xi * dig y j) := by
  unfold mq
  rw [show i + (j + 1) = (i + j) + 1 by omega, mod_dig p (i + j), mod_dig y j, Nat.mul_add, Nat.mul_add]
  have : xi * 4294967296 ^ i * (4294967296 ^ j * dig y j) = 4294967296 ^ (i + j) * (xi * dig y j) := by
    rw [Nat.pow_add]
    ac_rfl
  rw [this]
  omega
theorem mc_step (p xi y i j : Nat) :
    (mc p xi y i j + dig p (i + j) + xi * dig y j) % 4294967296 = dig (p + xi * 4294967296 ^ i * y) (i + j) ∧ (mc p xi y i j + dig p (i + j) + xi * dig y j) / 4294967296 = mc p xi y i (j + 1) := by
  have hp : 0 < 4294967296 ^ (i + j) := Nat.pow_pos (by decide)
  have hs := mq_succ p xi y i j
  have ht : mq p xi y i (j + 1) / 4294967296 ^ (i + j) = mc p xi y i j + dig p (i + j) + xi * dig y j := by
    rw [hs, Nat.add_mul_div_left _ _ hp]; unfold mc; omega
  constructor
  · rw [← ht]
    unfold dig
    have e : p + xi * 4294967296 ^ i * y = mq p xi y i (j + 1) + 4294967296 ^ (i + j + 1) * (p / 4294967296 ^ (i + j + 1) + xi * (y / 4294967296 ^ (j + 1))) := by
      unfold mq
      rw [show i + (j + 1) = i + j + 1 by omega]
      have h1 := Nat.mod_add_div p (4294967296 ^ (i + j + 1))
      have h2 := Nat.mod_add_div y (4294967296 ^ (j + 1))
      have h3 : xi * 4294967296 ^ i * y = xi * 4294967296 ^ i * (y % 4294967296 ^ (j + 1)) + 4294967296 ^ (i + j + 1) * (xi * (y / 4294967296 ^ (j + 1))) := by
        have h4 : xi * 4294967296 ^ i * (4294967296 ^ (j + 1) * (y / 4294967296 ^ (j + 1))) = 4294967296 ^ (i + j + 1) * (xi * (y / 4294967296 ^ (j + 1))) := by
          rw [show i + j + 1 = i + (j + 1) by omega, Nat.pow_add 4294967296 i (j + 1)]
          ac_rfl
        rw [← h4, ← Nat.mul_add, h2]
      rw [h3, Nat.mul_add]
      omega
    rw [e, Nat.pow_succ, Nat.mul_assoc, Nat.add_mul_div_left _ _ hp]
    omega
  · rw [← ht]
    unfold mc
    rw [Nat.div_div_eq_div_mul, ← Nat.pow_succ]
    rfl
/-- the rows add up -/
theorem row_sum (x y i : Nat) : (x % 4294967296 ^ i) * y + dig x i * 4294967296 ^ i * y = (x % 4294967296 ^ (i + 1)) * y := by
  rw [mod_dig x i, Nat.add_mul, Nat.mul_comm (dig x i)]
theorem dig_mod6 {x : Nat} (h : x < 4294967296 ^ 6) : x % 4294967296 ^ 6 = x := Nat.mod_eq_of_lt h
theorem prod_le {a b : Nat} (ha : a < 4294967296) (hb : b < 4294967296) : a * b ≤ 18446744065119617025 := by
  have : a * b ≤ 4294967295 * 4294967295 := Nat.mul_le_mul (by omega) (by omega)
  omega
end MonMath
