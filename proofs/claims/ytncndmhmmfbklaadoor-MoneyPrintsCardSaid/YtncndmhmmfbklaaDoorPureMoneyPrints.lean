/- The law MoneyPrints in plain Lean: the code's text of an amount and the document's are the same, at every number of digits, and so are the errors. -/
import Derived.Test.YtncndmhmmfbklaaDoorX2
import Derived.Test.YtncndmhmmfbklaaDoorPrD
namespace Go.Proofs.YtncndmhmmfbklaaDoor.Pure
set_option linter.unusedVariables false
set_option linter.unusedSimpArgs false
open Go.RowKit Go.Lib Go.Proofs.YtncndmhmmfbklaaDoor.X Go.Proofs.YtncndmhmmfbklaaDoorW.PrintWords Go.Proofs.YtncndmhmmfbklaaDoorW.PrintLast

theorem bs_nums (n : Nat) : strOfNums [(n : Int)] = bs [UInt8.ofNat n] := by simp [strOfNums, bs]
theorem digits_l0 (k : Nat) : ∀ (v m e : Nat) (x : List UInt8), v < 10 ^ e → e + (m - x.length) < k → x.length + e + (m - x.length) ≤ 1000 → v < 9223372036854775808 →
    daybookref01_Digits.l0 k (v : Int) (m : Int) (bs x) = some (bs (D v (m - x.length) ++ x)) := by
  induction k with
  | zero => intro v m e x _ h; omega
  | succ k ih =>
    intro v m e x he hk hl hv
    have ht : Int.tmod (v : Int) 10 = ((v % 10 : Nat) : Int) := by rw [Int.tmod_eq_emod_of_nonneg (by omega)]; omega
    have hd : Int.tdiv (v : Int) 10 = ((v / 10 : Nat) : Int) := by rw [Int.tdiv_eq_ediv_of_nonneg (by omega)]; omega
    have hs : strOfNums ([(wrap64 (48 + (Int.tmod (v : Int) 10))) % 256] : List Int) = bs [UInt8.ofNat (48 + v % 10)] := by
      rw [ht, wr _ (by omega) (by omega), ← bs_nums]
      congr 2
      omega
    have hw : wrap64 (Int.tdiv (v : Int) 10) = ((v / 10 : Nat) : Int) := by rw [hd, wr _ (by omega) (by omega)]
    have hsz : (bs [UInt8.ofNat (48 + v % 10)]).size + (bs x).size ≤ 9223372036854775807 := by rw [bs_size, bs_size, List.length_singleton]; omega
    have hap : bs [UInt8.ofNat (48 + v % 10)] ++ bs x = bs (UInt8.ofNat (48 + v % 10) :: x) := bs_append _ _
    have hxl : (UInt8.ofNat (48 + v % 10) :: x).length = x.length + 1 := rfl
    have key : ∀ e', v / 10 < 10 ^ e' → e' + (m - (x.length + 1)) < k → x.length + 1 + e' + (m - (x.length + 1)) ≤ 1000 → ¬ (v = 0 ∧ m - x.length = 0) →
        daybookref01_Digits.l0 k ((v / 10 : Nat) : Int) (m : Int) (bs (UInt8.ofNat (48 + v % 10) :: x)) = some (bs (D v (m - x.length) ++ x)) := fun e' a b c d => by
      have := ih (v / 10) m e' (UInt8.ofNat (48 + v % 10) :: x) a (by rw [hxl]; exact b) (by rw [hxl]; exact c) (Nat.lt_of_le_of_lt (Nat.div_le_self _ _) hv)
      rw [this, hxl, D_step d, List.append_assoc, Nat.sub_sub, List.singleton_append]
    unfold daybookref01_Digits.l0
    rw [Option.bind_some, hs, if_pos hsz, hw, hap]
    clear hs hw hsz hap ht hd ih hxl
    by_cases h0 : 0 < v
    · rw [if_pos (by omega)]
      rcases Nat.eq_zero_or_pos e with h | h
      · subst h; rw [Nat.pow_zero] at he; omega
      · obtain ⟨f, rfl⟩ : ∃ j, e = j + 1 := ⟨e - 1, by omega⟩
        rw [Nat.pow_succ] at he
        exact key f (by omega) (by omega) (by omega) (by omega)
    · rw [if_neg (by omega)]
      have hv0 : v = 0 := by omega
      by_cases h1 : x.length < m
      · rw [if_pos (by rw [bs_size]; omega)]
        exact key e (by omega) (by omega) (by omega) (by omega)
      · rw [if_neg (by rw [bs_size]; omega), show m - x.length = 0 by omega, hv0, D_zero]; rfl
theorem digits_is (v m e k : Nat) (he : v < 10 ^ e) (hk : e + m < k) (hl : e + m ≤ 1000) (hv : v < 9223372036854775808) : daybookref01_Digits.f k (v : Int) (m : Int) = some (bs (D v m)) := by
  have := digits_l0 k v m e [] he (by simpa using hk) (by simp; omega) hv
  unfold daybookref01_Digits.f
  rw [show (⟨#[]⟩ : ByteArray) = bs [] from rfl, this, List.append_nil]; rfl
theorem ten_is (d : Nat) (h : d ≤ 6) : daybookref01_ten.f 58 (d : Int) = some ((10 ^ d : Nat) : Int) := by
  have h : d = 0 ∨ d = 1 ∨ d = 2 ∨ d = 3 ∨ d = 4 ∨ d = 5 ∨ d = 6 := by omega
  rcases h with h | h | h | h | h | h | h <;> subst h <;> decide +kernel
theorem j1_is (u d : Nat) (hu : u < 10 ^ 19) (hv : u < 9223372036854775808) (hd : d ≤ 6) (sg : List UInt8) (hsg : sg.length ≤ 1) : daybookref01_Print.j1 59 (u : Int) (d : Int) (bs sg) = some (bs (textP sg u d), 0) := by
  have hp : 0 < 10 ^ d := Nat.pow_pos (by omega)
  have e1 : Int.tdiv (u : Int) ((10 ^ d : Nat) : Int) = ((u / 10 ^ d : Nat) : Int) := by rw [Int.tdiv_eq_ediv_of_nonneg (by omega)]; exact (Int.natCast_ediv _ _).symm
  have e2 : Int.tmod (u : Int) ((10 ^ d : Nat) : Int) = ((u % 10 ^ d : Nat) : Int) := by rw [Int.tmod_eq_emod_of_nonneg (by omega)]; exact (Int.natCast_emod _ _).symm
  have h1 : u / 10 ^ d ≤ u := Nat.div_le_self _ _
  have h2 : u % 10 ^ d ≤ u := Nat.mod_le _ _
  have h3 : u % 10 ^ d < 10 ^ d := Nat.mod_lt _ hp
  have ht := ten_is d hd
  unfold textP
  have hud : d = 0 → D u 1 = D (u / 10 ^ d) 1 := fun h => by rw [h, Nat.pow_zero, Nat.div_one]
  have hB := D_len d (u % 10 ^ d) h3
  have hq := D_len1 (u / 10 ^ d) 19 (Nat.lt_of_le_of_lt h1 hu) (by decide)
  have hA := digits_is (u / 10 ^ d) 1 19 58 (Nat.lt_of_le_of_lt h1 hu) (by decide) (by decide) (Nat.lt_of_le_of_lt h1 hv)
  have hR := digits_is (u % 10 ^ d) d 19 58 (Nat.lt_of_le_of_lt h2 hu) (by omega) (by omega) (Nat.lt_of_le_of_lt h2 hv)
  have hq63 : u / 10 ^ d < 9223372036854775808 := Nat.lt_of_le_of_lt h1 hv
  generalize u / 10 ^ d = q at *
  generalize u % 10 ^ d = r at *
  have hpi : ((10 ^ d : Nat) : Int) ≠ 0 := by omega
  generalize ((10 ^ d : Nat) : Int) = p at *
  clear h1 h2 h3 hu hv hp
  simp only [daybookref01_Print.j1]
  rw [ht, Option.bind_some, if_neg hpi, e1, wr _ (by omega) (by omega)]
  have hA' : daybookref01_Digits.f 58 (q : Int) 1 = some (bs (D q 1)) := hA
  rw [hA', Option.bind_some, bs_append, if_pos (by rw [bs_size, bs_size]; omega)]
  by_cases h0 : d = 0
  · rw [if_neg (by omega), if_pos h0]
    have : D u 1 = D q 1 := hud h0
    rw [this]
  · rw [if_pos (by omega), if_pos (by rw [bs_size, List.length_append]; omega), Option.bind_some, if_neg hpi, e2, hR, Option.bind_some, show (⟨#[46]⟩ : ByteArray) = bs [46] from rfl, bs_append, bs_append,
      if_pos (by rw [bs_size, bs_size, List.length_append, List.length_append, List.length_singleton]; omega), if_neg h0]
    simp
theorem MoneyPrints : daybooklaw01_MoneyPrints.Pure := by
  intro a d wa wd
  refine ⟨60, ?_⟩
  simp [Lit.wf, IntKind.min, IntKind.max, IntKind.bits, IntKind.signed] at wa wd
  have hp : money_Print.f a d = some (printP a d) := by unfold money_Print.f; rw [if_pos wa]
  unfold daybooklaw01_MoneyPrints.f daybookref01_Print.f
  rw [hp, Option.bind_some]
  by_cases h0 : d < 0
  · have e : printP a d = (bs [], 1) := by unfold printP; rw [if_pos (Or.inl h0)]
    rw [if_pos h0, e]
    simp [daybookref01_Print.j0]
  rw [if_neg h0]
  by_cases h6 : d > 6
  · have e : printP a d = (bs [], 1) := by unfold printP; rw [if_pos (Or.inr h6)]
    rw [e]
    simp [daybookref01_Print.j0, h6]
  obtain ⟨d, rfl⟩ : ∃ n : Nat, d = n := ⟨d.toNat, by omega⟩
  have hd6 : d ≤ 6 := by omega
  have e6 : decide ((d : Int) > 6) = false := decide_eq_false h6
  rw [e6]
  simp only [daybookref01_Print.j0, daybookref01_Is.f, Option.bind_some]
  by_cases hm : a = -9223372036854775808
  · have e : printP a d = (bs [], 10) := by unfold printP; rw [if_neg (by omega), if_pos hm]
    rw [e]
    subst hm
    simp
  have hne : (a != (-9223372036854775808)) = true := by simpa using hm
  rw [hne]
  simp only [Bool.false_eq_true, if_false, if_true]
  have e : printP a d = (bs (textP (if a < 0 then [45] else []) a.natAbs d), 0) := by unfold printP; rw [if_neg (by omega), if_neg hm, Int.toNat_natCast]
  rw [e]
  have hu19 : a.natAbs < 10 ^ 19 := by
    have : (10 : Nat) ^ 19 = 10000000000000000000 := by decide
    omega
  by_cases ha : a < 0
  · rw [if_pos ha, if_pos ha, wr _ (by omega) (by omega), show -a = (a.natAbs : Int) by omega, show (⟨#[45]⟩ : ByteArray) = bs [45] from rfl, j1_is a.natAbs d hu19 (by omega) hd6 [45] (by simp), Option.bind_some]
    simp
  · rw [if_neg ha, if_neg ha]
    have hj := j1_is a.natAbs d hu19 (by omega) hd6 [] (by simp)
    rw [show (a.natAbs : Int) = a by omega] at hj
    rw [show (⟨#[]⟩ : ByteArray) = bs [] from rfl, hj, Option.bind_some]
    simp
end Go.Proofs.YtncndmhmmfbklaaDoor.Pure
