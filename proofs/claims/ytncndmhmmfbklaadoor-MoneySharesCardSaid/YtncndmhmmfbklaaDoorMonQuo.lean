/- Plain arithmetic of the division of two words by one (the estimate of a digit). -/
namespace MonQuo
set_option linter.unusedVariables false
set_option linter.unusedSimpArgs false

/-- what the search for a digit knows: the guess is not below the digit -/
structure Est (u1 u0 v1 v0 q r : Nat) : Prop where
  eq : q * v1 + r = u1
  ge : (u1 * 4294967296 + u0) / (v1 * 4294967296 + v0) ≤ q

theorem exact_ge {u1 u0 v1 v0 q r : Nat} (hq : q * v1 + r = u1) : (q * v0 > 4294967296 * r + u0) ↔ q * (v1 * 4294967296 + v0) > u1 * 4294967296 + u0 := by
  have e : q * (v1 * 4294967296 + v0) = q * v1 * 4294967296 + q * v0 := by rw [Nat.mul_add, Nat.mul_assoc]
  rw [e, ← hq, Nat.add_mul]
  omega
theorem digit_lt {u1 u0 v1 v0 : Nat} (hu : u1 < v1 * 4294967296 + v0) (h0 : u0 < 4294967296) : (u1 * 4294967296 + u0) / (v1 * 4294967296 + v0) < 4294967296 := by
  rw [Nat.div_lt_iff_lt_mul (by omega)]
  omega
theorem Est.start {u1 u0 v1 v0 : Nat} (hv1 : 0 < v1) (h0 : u0 < 4294967296) : Est u1 u0 v1 v0 (u1 / v1) (u1 - u1 / v1 * v1) := by
  refine ⟨?_, ?_⟩
  · have := Nat.div_mul_le_self u1 v1; omega
  · rw [Nat.le_div_iff_mul_le hv1]
    have hv : 0 < v1 * 4294967296 + v0 := by omega
    have h := Nat.div_mul_le_self (u1 * 4294967296 + u0) (v1 * 4294967296 + v0)
    generalize (u1 * 4294967296 + u0) / (v1 * 4294967296 + v0) = q at *
    have e : q * (v1 * 4294967296 + v0) = q * v1 * 4294967296 + q * v0 := by rw [Nat.mul_add, Nat.mul_assoc]
    rw [e] at h
    omega
/-- one step down -/
theorem Est.down {u1 u0 v1 v0 q r : Nat} (h : Est u1 u0 v1 v0 q r) (hu : u1 < v1 * 4294967296 + v0) (h0 : u0 < 4294967296)
    (hc : 4294967296 ≤ q ∨ 4294967296 * r + u0 < q * v0) : 0 < q ∧ Est u1 u0 v1 v0 (q - 1) (r + v1) := by
  have hd := digit_lt hu h0
  have hlt : (u1 * 4294967296 + u0) / (v1 * 4294967296 + v0) < q := by
    rcases hc with c | c
    · omega
    · rw [Nat.div_lt_iff_lt_mul (by omega)]; exact (exact_ge h.eq).1 c
  have hz : 0 < q := Nat.lt_of_le_of_lt (Nat.zero_le _) hlt
  refine ⟨hz, ?_, Nat.le_sub_one_of_lt hlt⟩
  obtain ⟨p, rfl⟩ : ∃ p, q = p + 1 := ⟨q - 1, by omega⟩
  have := h.eq
  rw [Nat.add_sub_cancel, ← this, Nat.add_mul, Nat.one_mul]
  omega
/-- the guess is the digit where it does not go down any more -/
theorem Est.done {u1 u0 v1 v0 q r : Nat} (h : Est u1 u0 v1 v0 q r) (hv : 0 < v1 * 4294967296 + v0) (hc : q * v0 ≤ 4294967296 * r + u0) :
    q = (u1 * 4294967296 + u0) / (v1 * 4294967296 + v0) := by
  have h1 := h.ge
  have h2 : q ≤ (u1 * 4294967296 + u0) / (v1 * 4294967296 + v0) := by
    rw [Nat.le_div_iff_mul_le hv]
    rcases Nat.lt_or_ge (u1 * 4294967296 + u0) (q * (v1 * 4294967296 + v0)) with c | c
    · have := (exact_ge h.eq).2 c; omega
    · exact c
  omega
/-- where the rest has left the word, the guess is the digit -/
theorem Est.far {u1 u0 v1 v0 q r : Nat} (h : Est u1 u0 v1 v0 q r) (hu : u1 < v1 * 4294967296 + v0) (hv0 : v0 < 4294967296) (hr : 4294967296 ≤ r) :
    q < 4294967296 ∧ q = (u1 * 4294967296 + u0) / (v1 * 4294967296 + v0) := by
  have hq : q < 4294967296 := by
    rcases Nat.lt_or_ge q 4294967296 with c | c
    · exact c
    · have := Nat.mul_le_mul_right v1 c
      have := h.eq
      omega
  refine ⟨hq, h.done (by omega) ?_⟩
  have h1 : q * v0 ≤ 4294967295 * 4294967295 := Nat.mul_le_mul (by omega) (by omega)
  omega
/-- the two digits of a quotient, and the rest -/
theorem two {n1 n0 v q1 w : Nat} (hv : 0 < v) (hn0 : n0 < 4294967296) (hq : q1 = n1 / v) (hw : w = n1 - q1 * v) :
    (n1 * 4294967296 + n0) / v = q1 * 4294967296 + (w * 4294967296 + n0) / v ∧ (n1 * 4294967296 + n0) % v = (w * 4294967296 + n0) - (w * 4294967296 + n0) / v * v ∧ w < v := by
  have h1 := Nat.div_add_mod n1 v
  have h2 := Nat.mod_lt n1 hv
  have hwm : w = n1 % v := by
    rw [hw, hq, Nat.mul_comm]; omega
  have e : n1 * 4294967296 + n0 = v * (q1 * 4294967296) + (w * 4294967296 + n0) := by
    rw [hwm, hq]
    have : n1 * 4294967296 = (v * (n1 / v) + n1 % v) * 4294967296 := by rw [h1]
    rw [this, Nat.add_mul, Nat.mul_assoc]
    omega
  refine ⟨?_, ?_, by rw [hwm]; exact h2⟩
  · rw [e, Nat.mul_add_div hv]
  · rw [e, Nat.mul_add_mod, Nat.mod_def, Nat.mul_comm v]
theorem rest_lt {N Y n : Nat} (hY : 0 < Y) (h : n = N / Y) : n * Y ≤ N ∧ N - n * Y < Y := by
  subst h
  refine ⟨Nat.div_mul_le_self _ _, ?_⟩
  have h1 := Nat.mod_lt N hY
  have h2 := Nat.mod_def N Y
  rw [Nat.mul_comm] at h2
  omega
/-- scaled by a power of two: the same quotient, the scaled rest -/
theorem scaled (N d s : Nat) : (N * 2 ^ s) / (d * 2 ^ s) = N / d ∧ (N * 2 ^ s) % (d * 2 ^ s) / 2 ^ s = N % d := by
  have hp : 0 < 2 ^ s := Nat.pow_pos (by decide)
  refine ⟨Nat.mul_div_mul_right _ _ hp, ?_⟩
  rw [Nat.mul_mod_mul_right, Nat.mul_div_cancel _ hp]
/-- a number times 2 to the power of s, in two words -/
theorem shl_words {lo s : Nat} (hs : s ≤ 64) : lo * 2 ^ s = lo / 2 ^ (64 - s) * 18446744073709551616 + lo * 2 ^ s % 18446744073709551616 := by
  have h := Nat.div_add_mod (lo * 2 ^ s) 18446744073709551616
  have e : lo * 2 ^ s / 18446744073709551616 = lo / 2 ^ (64 - s) := by
    rw [show (18446744073709551616 : Nat) = 2 ^ (64 - s) * 2 ^ s by rw [← Nat.pow_add, show 64 - s + s = 64 by omega]]
    exact Nat.mul_div_mul_right _ _ (Nat.pow_pos (by decide))
  rw [e, Nat.mul_comm] at h
  exact h.symm
theorem words (H L U T t1 t0 : Nat) (h : H + L = U) (k : t1 * 4294967296 + t0 = T) : H * 18446744073709551616 + (L * 18446744073709551616 + T) = (U * 4294967296 + t1) * 4294967296 + t0 := by
  subst h k
  rw [Nat.add_mul ((H + L) * 4294967296), Nat.mul_assoc (H + L), Nat.add_mul H L, ← Nat.add_assoc, ← Nat.add_assoc]
theorem fin {hi lo y s Y H L U T t1 t0 q1 W q0 : Nat} (hs : s ≤ 63) (hY : 0 < Y) (a1 : y * 2 ^ s = Y) (a4 : H + L = U) (a2 : hi * 2 ^ s = H) (a3 : lo / 2 ^ (64 - s) = L)
    (a5 : lo * 2 ^ s % 18446744073709551616 = T) (ht : t1 * 4294967296 + t0 = T) (ht0 : t0 < 4294967296)
    (hq1 : q1 = (U * 4294967296 + t1) / Y) (hW : W = U * 4294967296 + t1 - q1 * Y) (hq0 : q0 = (W * 4294967296 + t0) / Y) :
    (hi * 18446744073709551616 + lo) / y = q1 * 4294967296 + q0 ∧ (hi * 18446744073709551616 + lo) % y = (W * 4294967296 + t0 - q0 * Y) / 2 ^ s := by
  obtain ⟨b1, b2, _⟩ := two hY ht0 hq1 hW
  have e : (hi * 18446744073709551616 + lo) * 2 ^ s = (U * 4294967296 + t1) * 4294967296 + t0 := by
    have h := shl_words (lo := lo) (s := s) (by omega)
    rw [a3, a5] at h
    rw [Nat.add_mul, Nat.mul_right_comm, a2, h]
    exact words _ _ _ _ _ _ a4 ht
  obtain ⟨c1, c2⟩ := scaled (hi * 18446744073709551616 + lo) y s
  rw [e, a1] at c1 c2
  rw [← c1, ← c2, b1, b2, ← hq0]
  exact ⟨rfl, rfl⟩
/-- the shift that fills the word -/
theorem norm {y s : Nat} (h1 : 2 ^ (63 - s) ≤ y) (h2 : y < 2 ^ (64 - s)) (hs : s ≤ 63) : 9223372036854775808 ≤ y * 2 ^ s ∧ y * 2 ^ s < 18446744073709551616 := by
  constructor
  · have := Nat.mul_le_mul_right (2 ^ s) h1
    rw [← Nat.pow_add, show 63 - s + s = 63 by omega] at this
    exact this
  · have := Nat.mul_lt_mul_of_pos_right h2 (show 0 < 2 ^ s from Nat.pow_pos (by decide))
    rw [← Nat.pow_add, show 64 - s + s = 64 by omega] at this
    exact this
end MonQuo
