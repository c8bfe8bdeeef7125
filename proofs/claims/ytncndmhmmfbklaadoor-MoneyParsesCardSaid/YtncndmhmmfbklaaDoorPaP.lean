/- Amounts' texts there and back, in plain Lean. -/
import Derived.Test.YtncndmhmmfbklaaDoorPaW
namespace Go.Proofs.YtncndmhmmfbklaaDoor.X
set_option linter.unusedVariables false
set_option linter.unusedSimpArgs false
open Go.RowKit Go.Lib Go.Proofs.YtncndmhmmfbklaaDoorW.PrintWords
theorem ib_hit (A B : List UInt8) (h : ∀ c ∈ A, c ≠ 46) : indexByte (A ++ 46 :: B) 46 = A.length := by
  induction A with
  | nil => rfl
  | cons c r ih =>
    have h1 : c ≠ 46 := h c (by simp)
    have h2 := ih (fun x hx => h x (by simp [hx]))
    rw [List.cons_append, indexByte, if_neg (by simpa using h1), h2, if_neg (by simp), List.length_cons]; rfl
theorem ib_miss (A : List UInt8) (h : ∀ c ∈ A, c ≠ 46) : indexByte A 46 = -1 := by
  induction A with
  | nil => rfl
  | cons c r ih =>
    have h1 : c ≠ 46 := h c (by simp)
    have h2 := ih (fun x hx => h x (by simp [hx]))
    rw [indexByte, if_neg (by simpa using h1), h2, if_pos (by simp)]
theorem cut_dot (A B : List UInt8) (h : ∀ c ∈ A, c ≠ 46) : cut (A ++ 46 :: B) [46] = (A, B, true) := by
  unfold cut
  rw [index_one, ib_hit A B h, if_pos (by omega), Int.toNat_natCast, List.take_left', List.drop_append]
  · simp
  · rfl
theorem cut_none (A : List UInt8) (h : ∀ c ∈ A, c ≠ 46) : cut A [46] = (A, [], false) := by
  unfold cut
  rw [index_one, ib_miss A h, if_neg (by omega)]
theorem digB_of (v : Nat) (h : v < 10) : digB (UInt8.ofNat (48 + v)) = true ∧ (UInt8.ofNat (48 + v)).toNat = 48 + v := by
  have e : (UInt8.ofNat (48 + v)).toNat = 48 + v := by simp; omega
  exact ⟨by unfold digB; rw [e, decide_eq_true (by omega), decide_eq_true (by omega)]; rfl, e⟩
theorem D_dig (n : Nat) : ∀ v m, v + m ≤ n → (D v m).all digB = true := by
  induction n with
  | zero => intro v m h; rw [show v = 0 by omega, show m = 0 by omega, D_zero]; rfl
  | succ n ih =>
    intro v m h
    by_cases z : v = 0 ∧ m = 0
    · rw [z.1, z.2, D_zero]; rfl
    · rw [D_step z, List.all_append, ih (v / 10) (m - 1) (by omega)]
      simp only [List.all_cons, List.all_nil, (digB_of (v % 10) (Nat.mod_lt _ (by omega))).1, Bool.and_self]
theorem D_digs (v m : Nat) : (D v m).all digB = true := D_dig _ v m (Nat.le_refl _)
theorem foldD_snoc (v : Nat) (l : List UInt8) (c : UInt8) : foldD v (l ++ [c]) = foldD v l * 10 + (c.toNat - 48) := by unfold foldD; rw [List.foldl_append]; rfl
theorem D_val (n : Nat) : ∀ v m, v + m ≤ n → valD (D v m) = v := by
  induction n with
  | zero => intro v m h; rw [show v = 0 by omega, show m = 0 by omega, D_zero]; rfl
  | succ n ih =>
    intro v m h
    by_cases z : v = 0 ∧ m = 0
    · rw [z.1, z.2, D_zero]; rfl
    · have := ih (v / 10) (m - 1) (by omega)
      unfold valD at *
      rw [D_step z, foldD_snoc, this, (digB_of (v % 10) (Nat.mod_lt _ (by omega))).2]
      omega
theorem D_vals (v m : Nat) : valD (D v m) = v := D_val _ v m (Nat.le_refl _)
theorem D_ne (v : Nat) : (D v 1).isEmpty = false := by rw [D_step (by omega)]; simp
theorem D_dec (v m : Nat) (h : 1 ≤ m) : isDec (D v m) = true := by
  unfold isDec
  rw [D_digs]
  have : (D v m).isEmpty = false := by rw [D_step (by omega)]; simp
  rw [this]; rfl
theorem dig_ne {l : List UInt8} (h : l.all digB = true) : ∀ c ∈ l, c ≠ 46 ∧ c ≠ 45 := by
  intro c hc
  have := List.all_eq_true.1 h c hc
  unfold digB at this
  rw [Bool.and_eq_true, decide_eq_true_iff, decide_eq_true_iff] at this
  exact ⟨fun e => by subst e; simp at this, fun e => by subst e; simp at this⟩
theorem pre_no {l : List UInt8} (h : ∀ c ∈ l, c ≠ 45) : hasPrefix l [45] = false := by
  unfold hasPrefix
  cases l with
  | nil => rfl
  | cons c r => have := h c (by simp); simp [List.isPrefixOf]; exact fun e => this e.symm
theorem parse_num (u d : Nat) (hd : d ≤ 6) (hu : u < 9223372036854775808) (sgn : Bool) :
    parseP (textP (if sgn = true then [45] else []) u d) d = (sg u sgn, 0) := by
  have hu19 : u < 10 ^ 19 := by
    have : (10 : Nat) ^ 19 = 10000000000000000000 := by decide
    omega
  have hp : 0 < 10 ^ d := Nat.pow_pos (by omega)
  have l1 := D_len1 u 19 hu19 (by omega)
  have l2 := D_len1 (u / 10 ^ d) 19 (Nat.lt_of_le_of_lt (Nat.div_le_self _ _) hu19) (by omega)
  have l3 := D_len d (u % 10 ^ d) (Nat.mod_lt _ hp)
  -- the body, without its sign
  obtain ⟨b, hb⟩ : ∃ b, textP [] u d = b := ⟨_, rfl⟩
  have hbl : b.length ≤ 30 := by rw [← hb]; unfold textP; split <;> simp <;> omega
  have hb5 : ∀ c ∈ b, c ≠ 45 := by
    rw [← hb]; unfold textP
    intro c hc
    split at hc
    · exact (dig_ne (D_digs u 1) c (by simpa using hc)).2
    · simp only [List.nil_append, List.mem_append, List.mem_singleton] at hc
      rcases hc with hc | hc | hc
      · exact (dig_ne (D_digs _ _) c hc).2
      · rw [hc]; decide
      · exact (dig_ne (D_digs _ _) c hc).2
  have ht : textP (if sgn = true then [45] else []) u d = (if sgn = true then [45] else []) ++ b := by
    rw [← hb]; unfold textP; split
    · simp
    · simp
  have hm : hasPrefix ((if sgn = true then [45] else []) ++ b) [45] = sgn := by
    cases sgn
    · exact pre_no (by simpa using hb5)
    · simp [hasPrefix, List.isPrefixOf]
  have hs : trimPrefix ((if sgn = true then [45] else []) ++ b) [45] = b := by
    unfold trimPrefix; rw [hm]; cases sgn <;> simp
  unfold parseP
  rw [if_neg (by omega), ht, if_neg (by cases sgn <;> simp <;> omega)]
  simp only
  rw [hm, hs]
  by_cases h0 : d = 0
  · subst h0
    have hb' : b = D u 1 := by rw [← hb]; unfold textP; rw [if_pos rfl, List.nil_append]
    rw [hb', cut_none _ (fun c hc => (dig_ne (D_digs u 1) c hc).1)]
    simp only
    rw [D_dec u 1 (by omega), if_neg (by simp), if_neg (by simp)]
    unfold okP joinP
    rw [show ((0 : Nat) : Int).toNat = 0 from rfl]
    simp only [List.append_nil, List.length_nil, Nat.sub_zero, List.replicate_zero]
    rw [D_vals, if_pos hu]
  · have hb' : b = D (u / 10 ^ d) 1 ++ 46 :: D (u % 10 ^ d) d := by rw [← hb]; unfold textP; rw [if_neg h0, List.nil_append]; rfl
    rw [hb', cut_dot _ _ (fun c hc => (dig_ne (D_digs _ 1) c hc).1)]
    simp only
    rw [D_dec _ 1 (by omega), if_neg (by simp), if_pos trivial, D_dec _ d (by omega), if_neg (by simp), if_neg (by omega)]
    unfold okP joinP
    rw [Int.toNat_natCast, l3, Nat.sub_self, List.replicate_zero, List.append_nil, ← D_split, D_vals, if_pos hu]
theorem parse_print (a : Int) (d : Nat) (hd : d ≤ 6) (h1 : -9223372036854775808 < a) (h2 : a ≤ 9223372036854775807) : parseP (printP a d).1.data.toList d = (a, 0) ∧ (printP a d).2 = 0 := by
  unfold printP
  rw [if_neg (by omega), if_neg (by omega), Int.toNat_natCast]
  have := parse_num a.natAbs d hd (by omega) (decide (a < 0))
  refine ⟨?_, rfl⟩
  have e : (bs (textP (if a < 0 then [45] else []) a.natAbs d)).data.toList = textP (if decide (a < 0) = true then [45] else []) a.natAbs d := by
    by_cases c : a < 0
    · rw [if_pos c, decide_eq_true c]; rfl
    · rw [if_neg c, decide_eq_false c]; rfl
  show parseP (bs (textP (if a < 0 then [45] else []) a.natAbs d)).data.toList d = _
  rw [e, this]
  by_cases c : a < 0
  · rw [decide_eq_true c]; unfold sg; simp; omega
  · rw [decide_eq_false c]; unfold sg; simp; omega
end Go.Proofs.YtncndmhmmfbklaaDoor.X
