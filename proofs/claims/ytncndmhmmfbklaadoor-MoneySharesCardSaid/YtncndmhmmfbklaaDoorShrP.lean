/- The law MoneyShares in plain Lean. -/
import Derived.Test.YtncndmhmmfbklaaDoorXS2
import Derived.Test.YtncndmhmmfbklaaDoorStT
namespace Go.Proofs.YtncndmhmmfbklaaDoor.X
set_option linter.unusedVariables false
set_option linter.unusedSimpArgs false
open Go.RowKit Go.Lib Go.Proofs.YtncndmhmmfbklaaDoorW.PrintWords Go.Proofs.YtncndmhmmfbklaaDoorW.PrintLast
open StSort (wN sumN GoodW partV partN)
theorem wf_in' {x : Int} (h : (Lit.int .i64 x).wf = true) : -9223372036854775808 ≤ x ∧ x ≤ 9223372036854775807 := by
  simp [Lit.wf, IntKind.min, IntKind.max, IntKind.bits, IntKind.signed] at h; exact h
theorem inR_of' {l : List Int} (h : ∀ x ∈ l, (Lit.int .i64 x).wf = true) : inR l = true :=
  List.all_eq_true.2 fun x hx => decide_eq_true (wf_in' (h x hx))
theorem in64_of {x : Int} (h : -9223372036854775808 ≤ x ∧ x ≤ 9223372036854775807) : in64 x = true := decide_eq_true h
theorem rd_nth (l : List Int) (i : Nat) : rd l (i : Int) = nthI l i := rfl
/-- the parts -/
def pts (t : Int) (l : List Int) : List Int := (List.range l.length).map (partV t (nthI l) l.length)
theorem pts_length (t : Int) (l : List Int) : (pts t l).length = l.length := by simp [pts]
theorem pts_at (t : Int) (l : List Int) (i : Nat) (hi : i < l.length) : nthI (pts t l) i = partV t (nthI l) l.length i := by
  rw [nthI_eq _ _ (by rw [pts_length]; exact hi)]
  simp [pts]
structure Shr (t : Int) (l : List Int) : Prop where
  t1 : -9223372036854775807 ≤ t
  t2 : t ≤ 9223372036854775807
  g : GoodW (nthI l) l.length
section
variable {t : Int} {l : List Int}
theorem Shr.pos (h : Shr t l) : 0 < l.length ∧ 0 < sumN (wN (nthI l)) l.length := ⟨by have := h.g.n1; omega, by have := h.g.s1; omega⟩
theorem Shr.w (h : Shr t l) {i : Nat} (hi : i < l.length) : nthI l i = (wN (nthI l) i : Nat) := by
  have := h.g.pos i hi
  unfold wN; omega
theorem Shr.wle (h : Shr t l) {i : Nat} (hi : i < l.length) : wN (nthI l) i ≤ sumN (wN (nthI l)) l.length := StSort.sumN_one _ hi
theorem sumN_int (f : Nat → Nat) (n : Nat) : ((List.range n).map fun i => (f i : Int)).sum = (sumN f n : Int) := by
  induction n with
  | zero => rfl
  | succ n ih => rw [StSort.sumN_succ, List.range_succ, List.map_append, List.sum_append_int, ih]; simp
theorem list_range (l : List Int) : l = (List.range l.length).map (nthI l) := by
  apply List.ext_getElem
  · simp
  · intro i h1 h2; simp [nthI_eq l i h1]
theorem Shr.sum (h : Shr t l) : l.sum = (sumN (wN (nthI l)) l.length : Int) := by
  rw [← sumN_int]
  conv => lhs; rw [list_range l]
  congr 1
  refine List.map_congr_left fun i hi => h.w (List.mem_range.1 hi)
theorem Shr.sumf (h : Shr t l) : money_Sum.f l = some ((sumN (wN (nthI l)) l.length : Int), 0) := by
  have hn := h.g.n2
  have hs := h.g.s2
  have hall : ∀ x ∈ l, 0 ≤ x ∧ x ≤ 9223372036854775807 := fun x hx => by
    obtain ⟨i, hi, rfl⟩ := List.getElem_of_mem hx
    have h1 := h.w hi
    have h2 := h.wle hi
    rw [nthI_eq l i hi] at h1
    omega
  unfold money_Sum.f
  rw [if_pos ⟨decide_eq_true (by omega), List.all_eq_true.2 fun x hx => decide_eq_true (by have := hall x hx; omega)⟩]
  unfold sumOf
  rw [if_pos (by unfold amB; exact List.all_eq_true.2 fun x hx => bne_iff_ne.2 (by have := hall x hx; omega)), h.sum, if_pos (by unfold fitB; exact decide_eq_true (by omega))]
theorem Shr.part (h : Shr t l) {i : Nat} (hi : i < l.length) : partV t (nthI l) l.length i = (if t < 0 then -(partN t.natAbs (nthI l) l.length i : Int) else (partN t.natAbs (nthI l) l.length i : Int)) ∧ partN t.natAbs (nthI l) l.length i ≤ t.natAbs :=
  ⟨rfl, StSort.part_le h.pos.1 h.pos.2 hi⟩
theorem Shr.pin (h : Shr t l) : ∀ x ∈ pts t l, -9223372036854775807 ≤ x ∧ x ≤ 9223372036854775807 := fun x hx => by
  unfold pts at hx
  obtain ⟨i, hi, rfl⟩ := List.mem_map.1 hx
  obtain ⟨e, hle⟩ := h.part (List.mem_range.1 hi)
  have := h.t1
  have := h.t2
  rw [e]; split <;> omega
theorem Shr.psum (h : Shr t l) : (pts t l).sum = t := by
  have hs := StSort.part_sum (s := t.natAbs) (f := nthI l) h.pos.1 h.pos.2
  have hI := sumN_int (partN t.natAbs (nthI l) l.length) l.length
  rw [hs] at hI
  unfold pts
  by_cases c : t < 0
  · have : (List.range l.length).map (partV t (nthI l) l.length) = ((List.range l.length).map fun i => (partN t.natAbs (nthI l) l.length i : Int)).map (fun x => -x) := by
      rw [List.map_map]
      refine List.map_congr_left fun i hi => ?_
      rw [(h.part (List.mem_range.1 hi)).1, if_pos c]; rfl
    have hneg : ∀ L : List Int, (L.map (fun x => -x)).sum = -L.sum := fun L => by
      induction L with
      | nil => rfl
      | cons x r ih => simp only [List.map_cons, List.sum_cons, ih]; omega
    rw [this, hneg, hI]; omega
  · have : (List.range l.length).map (partV t (nthI l) l.length) = ((List.range l.length).map fun i => (partN t.natAbs (nthI l) l.length i : Int)) := by
      refine List.map_congr_left fun i hi => ?_
      rw [(h.part (List.mem_range.1 hi)).1, if_neg c]
    rw [this, hI]; omega
theorem Shr.psumf (h : Shr t l) : money_Sum.f (pts t l) = some (t, 0) := by
  have hn := h.g.n2
  have hp := h.pin
  have h1 := h.t1
  have h2 := h.t2
  unfold money_Sum.f
  rw [if_pos ⟨decide_eq_true (by rw [pts_length]; omega), List.all_eq_true.2 fun x hx => decide_eq_true (by have := hp x hx; omega)⟩]
  unfold sumOf
  rw [if_pos (by unfold amB; exact List.all_eq_true.2 fun x hx => bne_iff_ne.2 (by have := hp x hx; omega)), h.psum, if_pos (by unfold fitB; exact decide_eq_true (by omega))]
theorem Shr.splitf (h : Shr t l) : money_Split.f t l = some (pts t l, 0) := by
  have hn := h.g.n2
  have h1 := h.t1
  have h2 := h.t2
  have hall : ∀ x ∈ l, 0 ≤ x ∧ x ≤ 9223372036854775807 := fun x hx => by
    obtain ⟨i, hi, rfl⟩ := List.getElem_of_mem hx
    have h1 := h.w hi
    have h2 := h.wle hi
    have h3 := h.g.s2
    rw [nthI_eq l i hi] at h1
    omega
  unfold money_Split.f
  rw [if_pos ⟨decide_eq_true (by omega), List.all_eq_true.2 fun x hx => decide_eq_true (by have := hall x hx; omega), in64_of (by omega)⟩]
  unfold splitP
  rw [if_neg (by omega), if_pos ((good_iff l).1 h.g)]
  rfl
theorem Shr.neg (h : Shr t l) : Shr (-t) l := ⟨by have := h.t2; omega, by have := h.t1; omega, h.g⟩
theorem Shr.low (h : Shr t l) {i : Nat} (hi : i < l.length) : money_Ratio.f t (nthI l i) (sumN (wN (nthI l)) l.length : Int) 0 = some (if t < 0 then -((t.natAbs * wN (nthI l) i / sumN (wN (nthI l)) l.length : Nat) : Int) else ((t.natAbs * wN (nthI l) i / sumN (wN (nthI l)) l.length : Nat) : Int), 0) ∧
    money_Ratio.f t (nthI l i) (sumN (wN (nthI l)) l.length : Int) 1 = some (if t < 0 then -((t.natAbs * wN (nthI l) i / sumN (wN (nthI l)) l.length + (if t.natAbs * wN (nthI l) i % sumN (wN (nthI l)) l.length ≠ 0 then 1 else 0) : Nat) : Int) else ((t.natAbs * wN (nthI l) i / sumN (wN (nthI l)) l.length + (if t.natAbs * wN (nthI l) i % sumN (wN (nthI l)) l.length ≠ 0 then 1 else 0) : Nat) : Int), 0) := by
  have h1 := h.t1
  have h2 := h.t2
  have hw := h.w hi
  have hle := h.wle hi
  have hs1 := h.g.s1
  have hs2 := h.g.s2
  have hq := StSort.quo_le (s := t.natAbs) hle
  have hu := StSort.quo_up (s := t.natAbs) (x := wN (nthI l) i) (by omega : 0 < sumN (wN (nthI l)) l.length) hle
  rw [hw]
  generalize wN (nthI l) i = x at *
  generalize sumN (wN (nthI l)) l.length = all at *
  have hm : mneg t (x : Int) = decide (t < 0) := by
    unfold mneg; rw [show decide ((x : Int) < 0) = false from decide_eq_false (by omega)]; cases decide (t < 0) <;> rfl
  have e1 : (x : Int).natAbs = x := by omega
  have e2 : (all : Int).natAbs = all := by omega
  have na : ∀ how : Int, 0 ≤ how → how ≤ 5 → ¬ ratArg (all : Int) how := fun how a b => by unfold ratArg; omega
  have nb : ¬ ratBad t (x : Int) := by unfold ratBad; omega
  have hin : in64 t = true ∧ in64 (x : Int) = true ∧ in64 (all : Int) = true := ⟨in64_of (by omega), in64_of (by omega), in64_of (by omega)⟩
  have q0 : ratQ (t.natAbs * (x : Int).natAbs) (all : Int).natAbs (mneg t (x : Int)) 0 = t.natAbs * x / all := by
    rw [e1, e2]; unfold ratQ; rw [if_neg (fun q => by have := q.2; simp [upV] at this)]; rfl
  have q1 : ratQ (t.natAbs * (x : Int).natAbs) (all : Int).natAbs (mneg t (x : Int)) 1 = t.natAbs * x / all + (if t.natAbs * x % all ≠ 0 then 1 else 0) := by
    rw [e1, e2]; unfold ratQ
    by_cases c : t.natAbs * x % all ≠ 0
    · rw [if_pos ⟨c, by simp [upV]⟩, if_pos c]
    · rw [if_neg (fun q => c q.1), if_neg c]
  constructor
  · obtain ⟨a, b⟩ := rat_ok (na 0 (by omega) (by omega)) nb q0 (by omega)
    unfold money_Ratio.f
    rw [if_pos hin, a, b, hm]
    unfold sg
    by_cases c : t < 0
    · rw [if_pos c, if_pos (decide_eq_true c)]
    · rw [if_neg c, if_neg (by simpa using c)]
  · have hfit : t.natAbs * x / all + (if t.natAbs * x % all ≠ 0 then 1 else 0) < 9223372036854775808 := by
      split
      · rename_i c; have := hu c; omega
      · omega
    obtain ⟨a, b⟩ := rat_ok (na 1 (by omega) (by omega)) nb q1 hfit
    unfold money_Ratio.f
    rw [if_pos hin, a, b, hm]
    unfold sg
    by_cases c : t < 0
    · rw [if_pos c, if_pos (decide_eq_true c)]
    · rw [if_neg c, if_neg (by simpa using c)]
end
/-- with rounds enough -/
def Ever (P : Nat → Prop) : Prop := ∃ K, ∀ k, K ≤ k → P k
theorem Ever.step {P Q : Nat → Prop} (h : Ever P) (f : ∀ k, P k → Q (k + 1)) : Ever Q := by
  obtain ⟨K, hK⟩ := h
  refine ⟨K + 1, fun k hk => ?_⟩
  obtain ⟨m, rfl⟩ : ∃ m, k = m + 1 := ⟨k - 1, by omega⟩
  exact f m (hK m (by omega))
theorem Ever.imp {P Q : Nat → Prop} (h : Ever P) (f : ∀ k, P k → Q k) : Ever Q := by
  obtain ⟨K, hK⟩ := h
  exact ⟨K, fun k hk => f k (hK k hk)⟩
theorem Ever.all {P : Nat → Prop} (h : ∀ k, P k) : Ever P := ⟨0, fun k _ => h k⟩
theorem wrap_next (i : Nat) (h : i ≤ 1000) : wrap64 ((i : Int) + 1) = ((i + 1 : Nat) : Int) := by unfold wrap64; omega
theorem same_loop (a : List Int) (ha : a.length ≤ 1000) : ∀ (d i : Nat), a.length - i = d → i ≤ a.length → Ever fun k => daybooklaw01_same.l0 k a a (i : Int) = some true := by
  intro d
  induction d with
  | zero =>
    intro i h1 h2
    refine (Ever.all (P := fun _ => True) fun _ => trivial).step fun k _ => ?_
    rw [daybooklaw01_same.l0, if_neg (by omega)]
  | succ d ih =>
    intro i h1 h2
    refine (ih (i + 1) (by omega) (by omega)).step fun k hk => ?_
    rw [daybooklaw01_same.l0, if_pos (by omega), if_pos (by omega), if_pos (by omega), if_pos rfl, wrap_next i (by omega)]
    exact hk
theorem same_self (a : List Int) (ha : a.length ≤ 1000) : Ever fun k => daybooklaw01_same.f k a a = some true := by
  refine (same_loop a ha _ 0 rfl (Nat.zero_le _)).imp fun k hk => ?_
  unfold daybooklaw01_same.f
  rw [if_pos rfl]; exact hk
section
variable {t : Int} {l : List Int}
theorem l3_run (h : Shr t l) (kk : Nat) (hk : 0 < kk) (hS : sumN (wN (nthI l)) l.length * kk ≤ 9223372036854775807) : ∀ (d i : Nat), l.length - i = d → i ≤ l.length →
    Ever fun k => daybooklaw01_MoneyShares.l3 k t l (kk : Int) (pts t l) ((l.map (· * (kk : Int))).take i) (i : Int) = some true := by
  have hn := h.g.n2
  obtain ⟨m, hm⟩ : ∃ m, l.map (· * (kk : Int)) = m := ⟨_, rfl⟩
  have hlen : m.length = l.length := by rw [← hm, List.length_map]
  have hat : ∀ i, i < l.length → nthI m i = nthI l i * (kk : Int) := fun i hi => by
    rw [nthI_eq m i (by omega), nthI_eq l i hi]; simp [← hm]
  have hw : ∀ i, i < l.length → wN (nthI m) i = wN (nthI l) i * kk := fun i hi => by
    have h1 := hat i hi
    rw [h.w hi] at h1
    show (nthI m i).toNat = _
    rw [h1]; exact Int.toNat_natCast _
  have hmS : sumN (wN (nthI m)) m.length = sumN (wN (nthI l)) l.length * kk := by
    rw [hlen, Nat.mul_comm, ← StSort.sumN_mul]; exact StSort.sumN_congr fun i hi => by rw [hw i hi, Nat.mul_comm]
  have h2 : Shr t m := ⟨h.t1, h.t2, by have := h.g.n1; omega, by omega, fun i hi => by
    rw [hat i (by omega), h.w (by omega)]; exact Int.natCast_nonneg (_ * kk), by
    rw [hmS]; have := Nat.mul_le_mul h.g.s1 hk; simpa using this, by rw [hmS]; exact hS⟩
  have hp : pts t m = pts t l := by
    unfold pts
    rw [hlen]
    refine List.map_congr_left fun i hi => ?_
    unfold partV
    rw [StSort.part_mul hk hw (List.mem_range.1 hi)]
  intro d
  induction d with
  | zero =>
    intro i h1 h3
    obtain rfl : i = l.length := by omega
    refine (same_self (pts t l) (by rw [pts_length]; omega)).step fun k hk => ?_
    rw [daybooklaw01_MoneyShares.l3, if_neg (by omega), hm, ← hlen, List.take_length, h2.splitf, Option.bind_some, if_pos rfl, hp, hk]
    rfl
  | succ d ih =>
    intro i h1 h3
    refine (ih (i + 1) (by omega) (by omega)).step fun k hk => ?_
    have hi : i < l.length := by omega
    have hmul : rd l (i : Int) * (kk : Int) = nthI m i := by rw [hat i hi]; rfl
    have hle := h2.wle (i := i) (by omega)
    have hwm := h2.w (i := i) (by omega)
    have hs2 := h2.g.s2
    have hwr : wrap64 (nthI m i) = nthI m i := by rw [hwm]; unfold wrap64; omega
    rw [daybooklaw01_MoneyShares.l3, if_pos (by omega), if_pos (by omega), if_pos (by rw [List.length_take]; omega), hmul, hwr, wrap_next i (by omega), hm]
    rw [hm] at hk
    have e : m.take (i + 1) = m.take i ++ [nthI m i] := by rw [List.take_succ_eq_append_getElem (by omega), nthI_eq m i (by omega)]
    rw [← e]; exact hk
theorem l2_run (h : Shr t l) (kk : Int) (hkk : -9223372036854775808 ≤ kk ∧ kk ≤ 9223372036854775807) : ∀ (d i : Nat), l.length - i = d → i ≤ l.length →
    Ever fun k => daybooklaw01_MoneyShares.l2 k t l kk (pts t l) (sumN (wN (nthI l)) l.length : Int) (pts (-t) l) (i : Int) = some true := by
  have hn := h.g.n2
  intro d
  induction d with
  | zero =>
    intro i h1 h3
    obtain rfl : i = l.length := by omega
    have hs1 := h.g.s1
    have hs2 := h.g.s2
    have mulf : money_Mul.f (sumN (wN (nthI l)) l.length : Int) kk = some (mulV (sumN (wN (nthI l)) l.length : Int) kk, mulE (sumN (wN (nthI l)) l.length : Int) kk) := by
      unfold money_Mul.f; rw [if_pos ⟨in64_of (by omega), in64_of hkk⟩]
    by_cases c : kk < 1
    · refine ((Ever.all (P := fun _ => True) fun _ => trivial).step (Q := fun k => daybooklaw01_MoneyShares.j7 k t l kk (pts t l) true = some true) fun k _ => by rw [daybooklaw01_MoneyShares.j7, if_pos rfl]).step fun k hk => ?_
      rw [daybooklaw01_MoneyShares.l2, if_neg (by rw [pts_length]; omega), mulf, Option.bind_some, if_pos c]
      exact hk
    · obtain ⟨m, rfl⟩ : ∃ m : Nat, kk = m := ⟨kk.toNat, by omega⟩
      by_cases c2 : sumN (wN (nthI l)) l.length * m ≤ 9223372036854775807
      · have e0 : mulE (sumN (wN (nthI l)) l.length : Int) (m : Int) = 0 := by
          unfold mulE
          rw [if_neg (by omega), Int.natAbs_natCast, Int.natAbs_natCast, if_pos (by omega)]
        have e1 : mulV (sumN (wN (nthI l)) l.length : Int) (m : Int) = ((sumN (wN (nthI l)) l.length * m : Nat) : Int) := by
          unfold mulV
          rw [if_neg (by omega), Int.natAbs_natCast, Int.natAbs_natCast, if_pos (by omega)]
          have : mneg (sumN (wN (nthI l)) l.length : Int) (m : Int) = false := by
            unfold mneg; rw [decide_eq_false (by omega), decide_eq_false (by omega)]; rfl
          rw [this]; rfl
        have e2 : 1 ≤ sumN (wN (nthI l)) l.length * m := by have := Nat.mul_le_mul hs1 (show 1 ≤ m by omega); simpa using this
        refine ((l3_run h m (by omega) c2 _ 0 rfl (Nat.zero_le _)).step (Q := fun k => daybooklaw01_MoneyShares.j7 k t l (m : Int) (pts t l) false = some true) fun k hk => by
          rw [daybooklaw01_MoneyShares.j7, if_neg (by simp)]; exact hk).step fun k hk => ?_
        rw [daybooklaw01_MoneyShares.l2, if_neg (by rw [pts_length]; omega), mulf, Option.bind_some, if_neg c, e0, if_pos rfl, e1, decide_eq_false (by omega)]
        exact hk
      · have e0 : mulE (sumN (wN (nthI l)) l.length : Int) (m : Int) = 11 := by
          unfold mulE
          rw [if_neg (by omega), Int.natAbs_natCast, Int.natAbs_natCast, if_neg (by omega)]
        refine ((Ever.all (P := fun _ => True) fun _ => trivial).step (Q := fun k => daybooklaw01_MoneyShares.j7 k t l (m : Int) (pts t l) true = some true) fun k _ => by rw [daybooklaw01_MoneyShares.j7, if_pos rfl]).step fun k hk => ?_
        rw [daybooklaw01_MoneyShares.l2, if_neg (by rw [pts_length]; omega), mulf, Option.bind_some, if_neg c, e0, if_neg (by simp)]
        exact hk
  | succ d ih =>
    intro i h1 h3
    refine (ih (i + 1) (by omega) (by omega)).step fun k hk => ?_
    have hi : i < l.length := by omega
    have hp := (h.part hi).1
    have hle := (h.part hi).2
    have h4 := h.t1
    have h5 := h.t2
    have e : wrap64 (-(nthI (pts t l) i)) = -(nthI (pts t l) i) := by
      rw [pts_at t l i hi, hp]; unfold wrap64; split <;> omega
    rw [daybooklaw01_MoneyShares.l2, if_pos (by rw [pts_length]; omega), if_pos (by omega), if_pos (by rw [pts_length]; omega), rd_nth, rd_nth, e, if_pos (by rw [pts_at (-t) l i hi, pts_at t l i hi, StSort.part_neg t (by omega) h.pos.1 h.pos.2 hi]), wrap_next i (by omega)]
    exact hk
theorem l1_run (h : Shr t l) (kk : Int) (i : Nat) (hi : i < l.length) (hnext : Ever fun k => daybooklaw01_MoneyShares.l0 k t l kk (pts t l) (sumN (wN (nthI l)) l.length : Int) ((i + 1 : Nat) : Int) = some true) :
    ∀ (d j : Nat), i - j = d → j ≤ i → Ever fun k => daybooklaw01_MoneyShares.l1 k t l kk (pts t l) (sumN (wN (nthI l)) l.length : Int) (i : Int) (j : Int) = some true := by
  have hn := h.g.n2
  have hfalse : Ever fun k => daybooklaw01_MoneyShares.j4 k t l kk (pts t l) (sumN (wN (nthI l)) l.length : Int) (i : Int) (0 : Int) false = some true := hnext.step fun k hk => by
    rw [daybooklaw01_MoneyShares.j4, if_neg (by simp), wrap_next i (by omega)]; exact hk
  have hfalse2 : ∀ j : Int, Ever fun k => daybooklaw01_MoneyShares.j4 k t l kk (pts t l) (sumN (wN (nthI l)) l.length : Int) (i : Int) j false = some true := fun j => hnext.step fun k hk => by
    rw [daybooklaw01_MoneyShares.j4, if_neg (by simp), wrap_next i (by omega)]; exact hk
  intro d
  induction d with
  | zero =>
    intro j h1 h3
    obtain rfl : j = i := by omega
    refine (hfalse2 (j : Int)).step fun k hk => ?_
    rw [daybooklaw01_MoneyShares.l1, if_neg (by omega)]; exact hk
  | succ d ih =>
    intro j h1 h3
    by_cases ct : t < 0
    · refine (hfalse2 (j : Int)).step fun k hk => ?_
      rw [daybooklaw01_MoneyShares.l1, if_pos (by omega), decide_eq_false (by omega)]; exact hk
    · refine ((ih (j + 1) (by omega) (by omega)).step (Q := fun k => daybooklaw01_MoneyShares.j4 k t l kk (pts t l) (sumN (wN (nthI l)) l.length : Int) (i : Int) (j : Int) true = some true) fun k hk => ?_).step fun k hk => ?_
      · have hj : j < l.length := by omega
        have wi := h.w hi
        have wj := h.w hj
        have pi : nthI (pts t l) i = (partN t.natAbs (nthI l) l.length i : Int) := by rw [pts_at t l i hi, (h.part hi).1, if_neg ct]
        have pj : nthI (pts t l) j = (partN t.natAbs (nthI l) l.length j : Int) := by rw [pts_at t l j hj, (h.part hj).1, if_neg ct]
        rw [daybooklaw01_MoneyShares.j4, if_pos rfl, if_pos (by omega), if_pos (by omega), if_pos (by omega), if_pos (by omega)]
        rw [rd_nth, rd_nth, rd_nth, rd_nth, wi, wj, pi, pj]
        rw [wrap_next j (by omega)]
        by_cases c : wN (nthI l) j < wN (nthI l) i
        · have hle := StSort.part_more (s := t.natAbs) h.pos.1 h.pos.2 hi hj c
          rw [if_pos (by omega), if_pos (by rw [pts_length]; omega), if_pos (by rw [pts_length]; omega), if_neg (by omega), if_neg (by omega)]
          exact hk
        · have hle := StSort.part_less (s := t.natAbs) h.pos.1 h.pos.2 hi (show j < i by omega) (show wN (nthI l) i ≤ wN (nthI l) j by omega)
          rw [if_neg (by omega), if_pos (by omega), if_pos (by rw [pts_length]; omega), if_pos (by rw [pts_length]; omega), if_neg (by omega)]
          exact hk
      · rw [daybooklaw01_MoneyShares.l1, if_pos (by omega), decide_eq_true (by omega)]; exact hk
theorem l0_run (h : Shr t l) (kk : Int) (hkk : -9223372036854775808 ≤ kk ∧ kk ≤ 9223372036854775807) : ∀ (d i : Nat), l.length - i = d → i ≤ l.length →
    Ever fun k => daybooklaw01_MoneyShares.l0 k t l kk (pts t l) (sumN (wN (nthI l)) l.length : Int) (i : Int) = some true := by
  have hn := h.g.n2
  intro d
  induction d with
  | zero =>
    intro i h1 h3
    obtain rfl : i = l.length := by omega
    refine ((l2_run h kk hkk _ 0 rfl (Nat.zero_le _)).step (Q := fun k => daybooklaw01_MoneyShares.j5 k t l kk (pts t l) (sumN (wN (nthI l)) l.length : Int) (pts (-t) l) false = some true) fun k hk => by
      rw [daybooklaw01_MoneyShares.j5, if_neg (by simp)]; exact hk).step fun k hk => ?_
    have e : wrap64 (-t) = -t := by have := h.t1; have := h.t2; unfold wrap64; omega
    rw [daybooklaw01_MoneyShares.l0, if_neg (by omega), e, h.neg.splitf, Option.bind_some, if_pos rfl]
    simp only [pts_length, bne_self_eq_false]
    exact hk
  | succ d ih =>
    intro i h1 h3
    have hi : i < l.length := by omega
    refine ((l1_run h kk i hi (ih (i + 1) (by omega) (by omega)) _ 0 rfl (Nat.zero_le _)).step (Q := fun k => daybooklaw01_MoneyShares.j2 k t l kk (pts t l) (sumN (wN (nthI l)) l.length : Int) (i : Int) false = some true) fun k hk => by
      rw [daybooklaw01_MoneyShares.j2, if_neg (by simp)]; exact hk).step fun k hk => ?_
    obtain ⟨r0, r1⟩ := h.low hi
    rw [daybooklaw01_MoneyShares.l0, if_pos (by omega), if_pos (by omega), rd_nth, r0, Option.bind_some, r1, Option.bind_some, if_pos rfl, if_pos rfl, if_pos (by rw [pts_length]; omega), rd_nth]
    have hz : nthI l i = 0 → (nthI (pts t l) i != 0) = false := fun hz => by
      rw [pts_at t l i hi, (h.part hi).1, StSort.part_zero h.pos.1 h.pos.2 hi (by unfold wN; rw [hz]; rfl)]
      split <;> rfl
    have hcase := StSort.part_cases (s := t.natAbs) h.pos.1 h.pos.2 hi
    have hp : nthI (pts t l) i = if t < 0 then -(partN t.natAbs (nthI l) l.length i : Int) else (partN t.natAbs (nthI l) l.length i : Int) := by rw [pts_at t l i hi, (h.part hi).1]
    have fin : (if nthI l i = 0 then daybooklaw01_MoneyShares.j2 k t l kk (pts t l) (sumN (wN (nthI l)) l.length : Int) (i : Int) (nthI (pts t l) i != 0) else daybooklaw01_MoneyShares.j2 k t l kk (pts t l) (sumN (wN (nthI l)) l.length : Int) (i : Int) false) = some true := by
      by_cases c : nthI l i = 0
      · rw [if_pos c, hz c]; exact hk
      · rw [if_neg c]; exact hk
    rcases hcase with e | ⟨e, hne⟩
    · rw [if_pos (by rw [hp, e])]
      exact fin
    · by_cases c : nthI (pts t l) i = (if t < 0 then -((t.natAbs * wN (nthI l) i / sumN (wN (nthI l)) l.length : Nat) : Int) else ((t.natAbs * wN (nthI l) i / sumN (wN (nthI l)) l.length : Nat) : Int))
      · rw [if_pos c]; exact fin
      · rw [if_neg c, if_pos (by rw [hp, e, if_pos hne])]
        exact fin
end
theorem MoneyShares_pure : daybooklaw01_MoneyShares.Pure := by
  intro t l kk ht hl1 hl2 hl hk
  have ht := wf_in' ht
  have hk := wf_in' hk
  have hin := inR_of' hl
  have splitf : money_Split.f t l = some (splitP t l) := by
    unfold money_Split.f; rw [if_pos ⟨decide_eq_true (by omega), hin, in64_of ht⟩]
  have sumf : money_Sum.f l = some (sumOf l) := by
    unfold money_Sum.f; rw [if_pos ⟨decide_eq_true (by omega), hin⟩]
  by_cases c0 : t = -9223372036854775808
  · refine ⟨0, ?_⟩
    unfold daybooklaw01_MoneyShares.f daybooklaw01_first.f
    rw [Option.bind_some, if_pos rfl, splitf, Option.bind_some, sumf, Option.bind_some]
    unfold splitP
    rw [if_pos c0, if_neg (by simp)]; rfl
  · by_cases cg : goodB l = true
    · have h : Shr t l := ⟨by omega, ht.2, (good_iff l).2 cg⟩
      obtain ⟨K, hK⟩ := (l0_run h kk hk _ 0 rfl (Nat.zero_le _)).step (Q := fun k => daybooklaw01_MoneyShares.j0 k t l kk (pts t l) (sumN (wN (nthI l)) l.length : Int) false = some true) fun k hk => by
        rw [daybooklaw01_MoneyShares.j0, if_neg (by simp)]; exact hk
      refine ⟨K, ?_⟩
      unfold daybooklaw01_MoneyShares.f daybooklaw01_first.f
      rw [Option.bind_some, if_pos rfl, h.splitf, Option.bind_some, h.sumf, Option.bind_some, if_pos rfl, h.psumf, Option.bind_some, if_pos rfl, if_pos rfl, if_pos rfl]
      simp only [pts_length, bne_self_eq_false]
      exact hK K (Nat.le_refl _)
    · refine ⟨0, ?_⟩
      unfold daybooklaw01_MoneyShares.f daybooklaw01_first.f
      rw [Option.bind_some, if_pos rfl, splitf, Option.bind_some, sumf, Option.bind_some]
      unfold splitP
      rw [if_neg c0, if_neg cg, if_neg (by simp)]; rfl
theorem shares_walk (a0 : Int) (A1 : Option Addr) (c1 : Nat) (l1 : List Int) (a2 : Int) (w : World) (w0 : (Lit.int .i64 a0).wf = true) (hc1 : l1.length ≤ c1) (hr1 : ReadsInt w .i64 A1 l1.length l1) (w1 : ∀ x ∈ l1, (Lit.int .i64 x).wf = true) (n1 : l1.length * 8 ≤ 140737488351232) (w2 : (Lit.int .i64 a2).wf = true) (G : Glob w) :
    Calls Tryd.prog 5 #[.int .i64 a0, .slice A1 l1.length c1, .int .i64 a2] w fun e w' => e = .returned (.bool true) ∧ Below w.heap.size w w' := by
  obtain ⟨k, h⟩ := MoneyShares_pure a0 l1 a2 w0 (by simp only [maxLen]; omega) n1 w1 w2
  exact daybooklaw01_MoneyShares.calls k a0 A1 c1 l1 a2 true w (Kd.C_of_reads (d := (0 : Int)) (h1 := fun _ => rfl) hr1) hc1 h G
end Go.Proofs.YtncndmhmmfbklaaDoor.X
