/- Plain arithmetic of the document's wide numbers: six words of 32 bits. -/
namespace MonMath
set_option linter.unusedVariables false
set_option linter.unusedSimpArgs false

/-- 2 to the power of 32, 64, 192 -/
def B : Nat := 4294967296
/-- the i-th word of 32 bits -/
def dig (v i : Nat) : Nat := v / 4294967296 ^ i % 4294967296
theorem dig_lt (v i : Nat) : dig v i < 4294967296 := Nat.mod_lt _ (by decide)
theorem dig_zero (i : Nat) : dig 0 i = 0 := by unfold dig; rw [Nat.zero_div, Nat.zero_mod]
theorem dig_small {v : Nat} (h : v < 18446744073709551616) : dig v 0 = v % 4294967296 ∧ dig v 1 = v / 4294967296 ∧ dig v 2 = 0 ∧ dig v 3 = 0 ∧ dig v 4 = 0 ∧ dig v 5 = 0 := by
  have p2 : (4294967296 : Nat) ^ 2 = 18446744073709551616 := by decide
  have big : ∀ i, 2 ≤ i → v / 4294967296 ^ i = 0 := fun i hi => by
    rw [Nat.div_eq_zero_iff]
    right
    exact Nat.lt_of_lt_of_le h (by rw [← p2]; exact Nat.pow_le_pow_right (by decide) hi)
  unfold dig
  refine ⟨by rw [Nat.pow_zero, Nat.div_one], by rw [Nat.pow_one]; omega, ?_, ?_, ?_, ?_⟩ <;> rw [big _ (by omega)]

/-- addition by words: the carry into word i, and word i of the sum -/
theorem add_step (x y i : Nat) :
    (x % 4294967296 ^ i + y % 4294967296 ^ i) / 4294967296 ^ i + dig x i + dig y i =
    dig (x + y) i + 4294967296 * ((x % 4294967296 ^ (i + 1) + y % 4294967296 ^ (i + 1)) / 4294967296 ^ (i + 1)) := by
  have hp : 0 < 4294967296 ^ i := Nat.pow_pos (by decide)
  have hx : x % 4294967296 ^ (i + 1) = 4294967296 ^ i * dig x i + x % 4294967296 ^ i := by
    unfold dig; rw [Nat.pow_succ, Nat.mod_mul]; omega
  have hy : y % 4294967296 ^ (i + 1) = 4294967296 ^ i * dig y i + y % 4294967296 ^ i := by
    unfold dig; rw [Nat.pow_succ, Nat.mod_mul]; omega
  have hs : dig (x + y) i = ((x % 4294967296 ^ i + y % 4294967296 ^ i) / 4294967296 ^ i + dig x i + dig y i) % 4294967296 := by
    unfold dig
    have : (x + y) / 4294967296 ^ i = x / 4294967296 ^ i + y / 4294967296 ^ i + (x % 4294967296 ^ i + y % 4294967296 ^ i) / 4294967296 ^ i := by
      have h1 := Nat.div_add_mod x (4294967296 ^ i)
      have h2 := Nat.div_add_mod y (4294967296 ^ i)
      have : x + y = (x % 4294967296 ^ i + y % 4294967296 ^ i) + 4294967296 ^ i * (x / 4294967296 ^ i + y / 4294967296 ^ i) := by rw [Nat.mul_add]; omega
      rw [this, Nat.add_mul_div_left _ _ hp]; omega
    rw [this]; omega
  have hc : (x % 4294967296 ^ (i + 1) + y % 4294967296 ^ (i + 1)) / 4294967296 ^ (i + 1) = ((x % 4294967296 ^ i + y % 4294967296 ^ i) / 4294967296 ^ i + dig x i + dig y i) / 4294967296 := by
    rw [hx, hy, Nat.pow_succ, ← Nat.div_div_eq_div_mul]
    have : 4294967296 ^ i * dig x i + x % 4294967296 ^ i + (4294967296 ^ i * dig y i + y % 4294967296 ^ i) = (x % 4294967296 ^ i + y % 4294967296 ^ i) + 4294967296 ^ i * (dig x i + dig y i) := by rw [Nat.mul_add]; omega
    rw [this, Nat.add_mul_div_left _ _ hp]
    congr 1
    omega
  rw [hs, hc]
  omega
/-- the carry -/
def car (x y i : Nat) : Nat := (x % 4294967296 ^ i + y % 4294967296 ^ i) / 4294967296 ^ i
theorem car_zero (x y : Nat) : car x y 0 = 0 := by unfold car; simp [Nat.mod_one]
theorem car_le (x y i : Nat) : car x y i ≤ 1 := by
  unfold car
  have hp : 0 < 4294967296 ^ i := Nat.pow_pos (by decide)
  have h1 := Nat.mod_lt x hp
  have h2 := Nat.mod_lt y hp
  have : (x % 4294967296 ^ i + y % 4294967296 ^ i) / 4294967296 ^ i < 2 := by rw [Nat.div_lt_iff_lt_mul hp]; omega
  omega
theorem car_step (x y i : Nat) : (car x y i + dig x i + dig y i) % 4294967296 = dig (x + y) i ∧ (car x y i + dig x i + dig y i) / 4294967296 = car x y (i + 1) := by
  have h := add_step x y i
  have := dig_lt (x + y) i
  unfold car
  omega

/-- subtraction by words: the borrow into word i -/
def bor (x y i : Nat) : Nat := if x % 4294967296 ^ i < y % 4294967296 ^ i then 1 else 0
theorem bor_zero (x y : Nat) : bor x y 0 = 0 := by unfold bor; simp [Nat.mod_one]
theorem bor_le (x y i : Nat) : bor x y i ≤ 1 := by unfold bor; split <;> omega
theorem bor_step (x y i : Nat) (h : y ≤ x) :
    (dig x i + 4294967296 - dig y i - bor x y i) % 4294967296 = dig (x - y) i ∧ 1 - (dig x i + 4294967296 - dig y i - bor x y i) / 4294967296 = bor x y (i + 1) := by
  have hp : 0 < 4294967296 ^ i := Nat.pow_pos (by decide)
  -- the words of x out of those of y and of the difference
  obtain ⟨z, rfl⟩ : ∃ z, x = y + z := ⟨x - y, by omega⟩
  rw [Nat.add_sub_cancel_left]
  have hs := car_step y z i
  have hcb : ∀ j, car y z j = bor (y + z) y j := fun j => by
    unfold car bor
    have hj : 0 < 4294967296 ^ j := Nat.pow_pos (by decide)
    have h1 := Nat.mod_lt y hj
    have h2 := Nat.mod_lt z hj
    rw [Nat.add_mod]
    generalize y % 4294967296 ^ j = a at *
    generalize z % 4294967296 ^ j = b at *
    generalize 4294967296 ^ j = p at *
    by_cases hab : a + b < p
    · rw [Nat.div_eq_of_lt hab, Nat.mod_eq_of_lt hab, if_neg (by omega)]
    · have e : (a + b) % p = a + b - p := by
        rw [Nat.mod_eq_sub_mod (by omega), Nat.mod_eq_of_lt (by omega)]
      have e2 : (a + b) / p = 1 := by
        rw [Nat.div_eq_sub_div hj (by omega), Nat.div_eq_of_lt (by omega)]
      rw [e, e2, if_pos (by omega)]
  rw [hcb i, hcb (i + 1)] at hs
  have d1 := dig_lt y i
  have d2 := dig_lt z i
  have d3 := bor_le (y + z) y i
  have d4 := bor_le (y + z) y (i + 1)
  omega
/-- comparison by words, the highest first -/
theorem eq_top {x y : Nat} (hx : x < 4294967296 ^ 6) (hy : y < 4294967296 ^ 6) : x / 4294967296 ^ 6 = y / 4294967296 ^ 6 := by
  rw [Nat.div_eq_of_lt hx, Nat.div_eq_of_lt hy]
theorem up_dig (x k : Nat) : x / 4294967296 ^ k = 4294967296 * (x / 4294967296 ^ (k + 1)) + dig x k := by
  unfold dig
  rw [Nat.pow_succ, ← Nat.div_div_eq_div_mul]
  omega
theorem eq_down {x y k : Nat} (h : x / 4294967296 ^ (k + 1) = y / 4294967296 ^ (k + 1)) (hd : dig x k = dig y k) : x / 4294967296 ^ k = y / 4294967296 ^ k := by
  rw [up_dig x k, up_dig y k, h, hd]
theorem lt_of_div {x y p : Nat} (hp : 0 < p) (h : x / p < y / p) : x < y := by
  rcases Nat.lt_or_ge x y with a | a
  · exact a
  · have := Nat.div_le_div_right (c := p) a; omega
theorem lt_dig {x y k : Nat} (h : x / 4294967296 ^ (k + 1) = y / 4294967296 ^ (k + 1)) (hd : dig x k ≠ dig y k) : (dig x k < dig y k) ↔ x < y := by
  have hp : 0 < 4294967296 ^ k := Nat.pow_pos (by decide)
  have e1 := up_dig x k
  have e2 := up_dig y k
  rw [h] at e1
  constructor
  · intro hl; exact lt_of_div hp (by omega)
  · intro hl
    rcases Nat.lt_or_ge (dig x k) (dig y k) with a | a
    · exact a
    · have : y < x := lt_of_div hp (by omega)
      omega
theorem eq_all {x y : Nat} (h : x / 4294967296 ^ 0 = y / 4294967296 ^ 0) : x = y := by simpa using h
/-- what fits into 63 bits -/
theorem fits_dig {v : Nat} (h : v < 9223372036854775808) : dig v 0 = v % 4294967296 ∧ dig v 1 = v / 4294967296 ∧ v / 4294967296 < 2147483648 ∧ dig v 2 = 0 ∧ dig v 3 = 0 ∧ dig v 4 = 0 ∧ dig v 5 = 0 := by
  obtain ⟨a, b, c⟩ := dig_small (v := v) (by omega)
  exact ⟨a, b, by omega, c⟩
theorem fits_of {v : Nat} (hv : v < 4294967296 ^ 6) (h1 : dig v 1 < 2147483648) (h2 : dig v 2 = 0) (h3 : dig v 3 = 0) (h4 : dig v 4 = 0) (h5 : dig v 5 = 0) : v < 9223372036854775808 := by
  have e6 := Nat.div_eq_of_lt hv
  have e5 := up_dig v 5
  have e4 := up_dig v 4
  have e3 := up_dig v 3
  have e2 := up_dig v 2
  have e1 := up_dig v 1
  have e0 := up_dig v 0
  have d0 := dig_lt v 0
  rw [e6, h5] at e5
  rw [show (4 : Nat) + 1 = 5 from rfl, e5, h4] at e4
  rw [show (3 : Nat) + 1 = 4 from rfl, e4, h3] at e3
  rw [show (2 : Nat) + 1 = 3 from rfl, e3, h2] at e2
  rw [show (1 : Nat) + 1 = 2 from rfl, e2] at e1
  rw [show (0 : Nat) + 1 = 1 from rfl, e1, Nat.pow_zero, Nat.div_one] at e0
  omega
end MonMath
