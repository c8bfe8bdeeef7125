/- Stable sorting in place, in plain Lean: what the helpers of slices.SortStableFunc do to a row of numbers. -/
import Derived.Test.YtncndmhmmfbklaaDoorProg
import Derived.WalkKit
import Derived.ProofKit
import Derived.Below
import Derived.LoopN
import Derived.BigRegion
import Derived.RegionTactic
import Derived.Deep.QuietTactic
import Derived.BigQuiet
import Derived.IntWalk
import Derived.Lib.Hide
import Derived.Deep.LoopGhost
import Derived.Outline
import Derived.Deep.DeepCutAuto
namespace Go.Proofs.YtncndmhmmfbklaaDoor.StSort
set_option linter.unusedVariables false
set_option linter.unusedSimpArgs false
/-- the row behind an exchange of two places -/
def swp (f : Nat → Nat) (i j : Nat) : Nat → Nat := fun k => if k = i then f j else if k = j then f i else f k
/-- g is f with the places from a up to b turned about -/
def Rearr (a b : Nat) (f g : Nat → Nat) : Prop :=
  ∃ s t : Nat → Nat, (∀ k, a ≤ k → k < b → a ≤ s k ∧ s k < b) ∧ (∀ k, a ≤ k → k < b → a ≤ t k ∧ t k < b) ∧ (∀ k, a ≤ k → k < b → s (t k) = k) ∧ (∀ k, a ≤ k → k < b → t (s k) = k) ∧
    (∀ k, a ≤ k → k < b → g k = f (s k)) ∧ (∀ k, ¬ (a ≤ k ∧ k < b) → g k = f k)
theorem Rearr.refl (a b : Nat) (f : Nat → Nat) : Rearr a b f f :=
  ⟨id, id, fun k h1 h2 => ⟨h1, h2⟩, fun k h1 h2 => ⟨h1, h2⟩, fun _ _ _ => rfl, fun _ _ _ => rfl, fun _ _ _ => rfl, fun _ _ => rfl⟩
theorem Rearr.trans {a b : Nat} {f g h : Nat → Nat} (p : Rearr a b f g) (q : Rearr a b g h) : Rearr a b f h := by
  obtain ⟨s, t, s1, t1, st, ts, e, o⟩ := p
  obtain ⟨s', t', s1', t1', st', ts', e', o'⟩ := q
  refine ⟨fun k => s (s' k), fun k => t' (t k), fun k h1 h2 => ?_, fun k h1 h2 => ?_, fun k h1 h2 => ?_, fun k h1 h2 => ?_, fun k h1 h2 => ?_, fun k h1 => ?_⟩
  · obtain ⟨q1, q2⟩ := s1' k h1 h2; exact s1 _ q1 q2
  · obtain ⟨q1, q2⟩ := t1 k h1 h2; exact t1' _ q1 q2
  · obtain ⟨q1, q2⟩ := t1 k h1 h2
    show s (s' (t' (t k))) = k
    rw [st' _ q1 q2, st k h1 h2]
  · obtain ⟨q1, q2⟩ := s1' k h1 h2
    show t' (t (s (s' k))) = k
    rw [ts _ q1 q2, ts' k h1 h2]
  · obtain ⟨q1, q2⟩ := s1' k h1 h2
    rw [e' k h1 h2, e _ q1 q2]
  · rw [o' k h1, o k h1]
theorem Rearr.widen {a b a' b' : Nat} {f g : Nat → Nat} (p : Rearr a b f g) (ha : a' ≤ a) (hb : b ≤ b') : Rearr a' b' f g := by
  obtain ⟨s, t, s1, t1, st, ts, e, o⟩ := p
  refine ⟨fun k => if a ≤ k ∧ k < b then s k else k, fun k => if a ≤ k ∧ k < b then t k else k, fun k h1 h2 => ?_, fun k h1 h2 => ?_, fun k h1 h2 => ?_, fun k h1 h2 => ?_, fun k h1 h2 => ?_, fun k h1 => ?_⟩
  · show a' ≤ (if a ≤ k ∧ k < b then s k else k) ∧ (if a ≤ k ∧ k < b then s k else k) < b'
    by_cases c : a ≤ k ∧ k < b
    · rw [if_pos c]; have := s1 k c.1 c.2; omega
    · rw [if_neg c]; exact ⟨h1, h2⟩
  · show a' ≤ (if a ≤ k ∧ k < b then t k else k) ∧ (if a ≤ k ∧ k < b then t k else k) < b'
    by_cases c : a ≤ k ∧ k < b
    · rw [if_pos c]; have := t1 k c.1 c.2; omega
    · rw [if_neg c]; exact ⟨h1, h2⟩
  · show (if a ≤ (if a ≤ k ∧ k < b then t k else k) ∧ (if a ≤ k ∧ k < b then t k else k) < b then s (if a ≤ k ∧ k < b then t k else k) else (if a ≤ k ∧ k < b then t k else k)) = k
    by_cases c : a ≤ k ∧ k < b
    · rw [if_pos c, if_pos (t1 k c.1 c.2)]; exact st k c.1 c.2
    · rw [if_neg c, if_neg c]
  · show (if a ≤ (if a ≤ k ∧ k < b then s k else k) ∧ (if a ≤ k ∧ k < b then s k else k) < b then t (if a ≤ k ∧ k < b then s k else k) else (if a ≤ k ∧ k < b then s k else k)) = k
    by_cases c : a ≤ k ∧ k < b
    · rw [if_pos c, if_pos (s1 k c.1 c.2)]; exact ts k c.1 c.2
    · rw [if_neg c, if_neg c]
  · show g k = f (if a ≤ k ∧ k < b then s k else k)
    by_cases c : a ≤ k ∧ k < b
    · rw [if_pos c]; exact e k c.1 c.2
    · rw [if_neg c]; exact o k c
  · exact o k (fun c => h1 ⟨by omega, by omega⟩)
theorem Rearr.swap (a b : Nat) (f : Nat → Nat) {i j : Nat} (hi : a ≤ i ∧ i < b) (hj : a ≤ j ∧ j < b) : Rearr a b f (swp f i j) := by
  refine ⟨fun k => if k = i then j else if k = j then i else k, fun k => if k = i then j else if k = j then i else k, ?_, ?_, ?_, ?_, ?_, ?_⟩
  · intro k h1 h2
    show a ≤ (if k = i then j else if k = j then i else k) ∧ (if k = i then j else if k = j then i else k) < b
    split
    · exact hj
    · split
      · exact hi
      · exact ⟨h1, h2⟩
  · intro k h1 h2
    show a ≤ (if k = i then j else if k = j then i else k) ∧ (if k = i then j else if k = j then i else k) < b
    split
    · exact hj
    · split
      · exact hi
      · exact ⟨h1, h2⟩
  · intro k h1 h2
    by_cases c1 : k = i
    · subst c1; by_cases c2 : j = k <;> simp [c2]
    · by_cases c2 : k = j
      · subst c2; simp [c1]
      · simp [c1, c2]
  · intro k h1 h2
    by_cases c1 : k = i
    · subst c1; by_cases c2 : j = k <;> simp [c2]
    · by_cases c2 : k = j
      · subst c2; simp [c1]
      · simp [c1, c2]
  · intro k h1 h2
    unfold swp
    by_cases c1 : k = i
    · simp [c1]
    · by_cases c2 : k = j
      · subst c2; simp [c1]
      · simp [c1, c2]
  · intro k h
    unfold swp
    rw [if_neg (fun e => h (by omega)), if_neg (fun e => h (by omega))]
/-- what is said of all values of a stretch stays true -/
theorem Rearr.all {a b : Nat} {f g : Nat → Nat} (p : Rearr a b f g) {P : Nat → Prop} (h : ∀ k, a ≤ k → k < b → P (f k)) : ∀ k, a ≤ k → k < b → P (g k) := by
  obtain ⟨s, t, s1, t1, st, ts, e, o⟩ := p
  intro k h1 h2
  rw [e k h1 h2]
  obtain ⟨q1, q2⟩ := s1 k h1 h2
  exact h _ q1 q2
theorem Rearr.out {a b : Nat} {f g : Nat → Nat} (p : Rearr a b f g) {k : Nat} (h : ¬ (a ≤ k ∧ k < b)) : g k = f k := by
  obtain ⟨s, t, s1, t1, st, ts, e, o⟩ := p
  exact o k h
/-- sorted by T -/
def Srt (T : Nat → Nat → Prop) (a b : Nat) (f : Nat → Nat) : Prop := ∀ i j, a ≤ i → i < j → j < b → T (f i) (f j)
theorem Srt.congr {T : Nat → Nat → Prop} {a b : Nat} {f g : Nat → Nat} (h : Srt T a b f) (e : ∀ k, a ≤ k → k < b → g k = f k) : Srt T a b g := by
  intro i j h1 h2 h3
  rw [e i h1 (by omega), e j (by omega) h3]
  exact h i j h1 h2 h3
theorem Srt.sub {T : Nat → Nat → Prop} {a b a' b' : Nat} {f : Nat → Nat} (h : Srt T a b f) (ha : a ≤ a') (hb : b' ≤ b) : Srt T a' b' f := fun i j h1 h2 h3 => h i j (by omega) h2 (by omega)
theorem Srt.join {T : Nat → Nat → Prop} {a m b : Nat} {f : Nat → Nat} (h : Srt T a m f) (k : Srt T m b f) (hx : ∀ i j, a ≤ i → i < m → m ≤ j → j < b → T (f i) (f j)) : Srt T a b f := by
  intro i j h1 h2 h3
  by_cases c : j < m
  · exact h i j h1 h2 c
  · by_cases d : i < m
    · exact hx i j h1 d (by omega) h3
    · exact k i j (by omega) h2 h3
/-- a stretch of length n exchanged with another -/
def swpR (f : Nat → Nat) (i j n : Nat) : Nat → Nat := fun k => if i ≤ k ∧ k < i + n then f (j + (k - i)) else if j ≤ k ∧ k < j + n then f (i + (k - j)) else f k
/-- two neighbouring stretches exchanged -/
def rot (f : Nat → Nat) (a m b : Nat) : Nat → Nat := fun k => if a ≤ k ∧ k < b then (if k < a + (b - m) then f (m + (k - a)) else f (k - (b - m))) else f k
theorem swpR_step (f : Nat → Nat) (i j n l : Nat) (hl : l < n) (hd : i + n ≤ j) : swp (swpR f i j l) (i + l) (j + l) = swpR f i j (l + 1) := by
  funext k
  unfold swp swpR
  by_cases c1 : k = i + l
  · subst c1
    rw [if_pos rfl, if_neg (by omega), if_neg (by omega), if_pos (by omega)]
    congr 1; omega
  · by_cases c2 : k = j + l
    · subst c2
      rw [if_neg c1, if_pos rfl, if_neg (by omega), if_neg (by omega), if_neg (by omega), if_pos (by omega)]
      congr 1; omega
    · rw [if_neg c1, if_neg c2]
      by_cases c3 : i ≤ k ∧ k < i + l
      · rw [if_pos c3, if_pos (by omega)]
      · rw [if_neg c3, if_neg (show ¬ (i ≤ k ∧ k < i + (l + 1)) by omega)]
        by_cases c4 : j ≤ k ∧ k < j + l
        · rw [if_pos c4, if_pos (by omega)]
        · rw [if_neg c4, if_neg (show ¬ (j ≤ k ∧ k < j + (l + 1)) by omega)]
theorem swpR_zero (f : Nat → Nat) (i j : Nat) : swpR f i j 0 = f := by
  funext k
  unfold swpR
  rw [if_neg (by omega), if_neg (by omega)]
/-- a round of rotate where the left stretch is the longer one -/
theorem rot_left (f : Nat → Nat) (m i j : Nat) (hi : j < i) (hm : i ≤ m) : rot (swpR f (m - i) m j) (m - i + j) m (m + j) = rot f (m - i) m (m + j) := by
  funext k
  unfold rot swpR
  by_cases c : m - i ≤ k ∧ k < m + j
  · rw [if_pos (show m - i ≤ k ∧ k < m + j from c)]
    by_cases c1 : k < m - i + j
    · rw [if_neg (by omega), if_pos (show k < m - i + (m + j - m) by omega), if_pos (by omega)]
    · rw [if_pos (show m - i + j ≤ k ∧ k < m + j by omega), if_neg (show ¬ k < m - i + (m + j - m) by omega)]
      by_cases c2 : k < m - i + j + (m + j - m)
      · rw [if_pos c2, if_neg (by omega), if_pos (by omega)]
        congr 1; omega
      · rw [if_neg c2, if_neg (by omega), if_neg (by omega)]
  · rw [if_neg (show ¬ (m - i ≤ k ∧ k < m + j) from c), if_neg (by omega), if_neg (by omega), if_neg (by omega)]
/-- .. where the right one is -/
theorem rot_right (f : Nat → Nat) (m i j : Nat) (hi : i < j) (hm : i ≤ m) : rot (swpR f (m - i) (m + j - i) i) (m - i) m (m + j - i) = rot f (m - i) m (m + j) := by
  funext k
  unfold rot swpR
  by_cases c : m - i ≤ k ∧ k < m + j
  · rw [if_pos (show m - i ≤ k ∧ k < m + j from c)]
    by_cases c1 : k < m + j - i
    · rw [if_pos (show m - i ≤ k ∧ k < m + j - i by omega)]
      by_cases c2 : k < m - i + (m + j - i - m)
      · rw [if_pos c2, if_neg (by omega), if_neg (by omega), if_pos (by omega)]
      · rw [if_neg c2]
        rw [if_pos (show m - i ≤ k - (m + j - i - m) ∧ k - (m + j - i - m) < m - i + i by omega), if_pos (show k < m - i + (m + j - m) by omega)]
        congr 1; omega
    · rw [if_neg (show ¬ (m - i ≤ k ∧ k < m + j - i) by omega), if_neg (by omega), if_pos (by omega), if_neg (show ¬ k < m - i + (m + j - m) by omega)]
      congr 1; omega
  · rw [if_neg (show ¬ (m - i ≤ k ∧ k < m + j) from c), if_neg (by omega), if_neg (by omega), if_neg (by omega)]
/-- the last round -/
theorem rot_same (f : Nat → Nat) (m i : Nat) (hm : i ≤ m) : swpR f (m - i) m i = rot f (m - i) m (m + i) := by
  funext k
  unfold rot swpR
  by_cases c : m - i ≤ k ∧ k < m + i
  · rw [if_pos c]
    by_cases c1 : k < m
    · rw [if_pos (by omega), if_pos (by omega)]
    · rw [if_neg (by omega), if_pos (by omega), if_neg (by omega)]
      congr 1; omega
  · rw [if_neg c, if_neg (by omega), if_neg (by omega)]
theorem rot_rearr (f : Nat → Nat) (a m b : Nat) (h1 : a ≤ m) (h2 : m ≤ b) : Rearr a b f (rot f a m b) := by
  refine ⟨fun k => if k < a + (b - m) then m + (k - a) else k - (b - m), fun k => if k < m then k + (b - m) else a + (k - m), ?_, ?_, ?_, ?_, ?_, ?_⟩
  · intro k h3 h4
    show a ≤ (if k < a + (b - m) then m + (k - a) else k - (b - m)) ∧ (if k < a + (b - m) then m + (k - a) else k - (b - m)) < b
    split <;> omega
  · intro k h3 h4
    show a ≤ (if k < m then k + (b - m) else a + (k - m)) ∧ (if k < m then k + (b - m) else a + (k - m)) < b
    split <;> omega
  · intro k h3 h4
    show (if (if k < m then k + (b - m) else a + (k - m)) < a + (b - m) then m + ((if k < m then k + (b - m) else a + (k - m)) - a) else (if k < m then k + (b - m) else a + (k - m)) - (b - m)) = k
    by_cases c : k < m
    · rw [if_pos c, if_neg (by omega)]; omega
    · rw [if_neg c, if_pos (by omega)]; omega
  · intro k h3 h4
    show (if (if k < a + (b - m) then m + (k - a) else k - (b - m)) < m then (if k < a + (b - m) then m + (k - a) else k - (b - m)) + (b - m) else a + ((if k < a + (b - m) then m + (k - a) else k - (b - m)) - m)) = k
    by_cases c : k < a + (b - m)
    · rw [if_pos c, if_neg (by omega)]; omega
    · rw [if_neg c, if_pos (by omega)]; omega
  · intro k h3 h4
    unfold rot
    rw [if_pos ⟨h3, h4⟩]
    show _ = f (if k < a + (b - m) then m + (k - a) else k - (b - m))
    split <;> rfl
  · intro k h
    unfold rot
    rw [if_neg h]
/-! ### the order of the rests, falling, and of the places, rising -/
def TR (r : Nat → Nat) (x y : Nat) : Prop := r y < r x ∨ (r x = r y ∧ x < y)
theorem TR.trans {r : Nat → Nat} {x y z : Nat} (h : TR r x y) (k : TR r y z) : TR r x z := by unfold TR at *; omega
theorem TR.of_not {r : Nat → Nat} {x y : Nat} (h : x < y) (k : ¬ r x < r y) : TR r x y := by unfold TR; omega
theorem TR.of_lt {r : Nat → Nat} {x y : Nat} (k : r x < r y) : TR r y x := by unfold TR; omega
theorem TR.total {r : Nat → Nat} {x y : Nat} (h : x ≠ y) : TR r x y ∨ TR r y x := by unfold TR; omega
theorem TR.irrefl {r : Nat → Nat} {x : Nat} (h : TR r x x) : False := by unfold TR at h; omega
/-- the left part's values are less than the right one's -/
def LR (a m b : Nat) (f : Nat → Nat) : Prop := ∀ i j, a ≤ i → i < m → m ≤ j → j < b → f i < f j
theorem swp_up (f : Nat → Nat) (a c : Nat) (h : a + 1 ≤ c) : swp (rot f a (a + 1) c) (c - 1) c = rot f a (a + 1) (c + 1) := by
  funext k
  unfold swp rot
  by_cases c1 : k = c - 1
  · subst c1
    rw [if_pos rfl, if_neg (by omega), if_pos (by omega), if_pos (by omega)]
    congr 1; omega
  · rw [if_neg c1]
    by_cases c2 : k = c
    · subst c2
      rw [if_pos rfl, if_pos (by omega), if_neg (by omega), if_pos (by omega), if_neg (by omega)]
      congr 1; omega
    · rw [if_neg c2]
      by_cases c3 : a ≤ k ∧ k < c
      · rw [if_pos c3, if_pos (show a ≤ k ∧ k < c + 1 by omega), if_pos (by omega), if_pos (by omega)]
      · rw [if_neg c3, if_neg (by omega)]
theorem swp_down (f : Nat → Nat) (k m : Nat) (h : 1 ≤ k) (hm : k ≤ m) : swp (rot f k m (m + 1)) k (k - 1) = rot f (k - 1) m (m + 1) := by
  funext l
  unfold swp rot
  by_cases c1 : l = k
  · subst c1
    rw [if_pos rfl, if_neg (by omega), if_pos (by omega), if_neg (by omega)]
    congr 1; omega
  · rw [if_neg c1]
    by_cases c2 : l = k - 1
    · subst c2
      rw [if_pos rfl, if_pos (by omega), if_pos (by omega), if_pos (by omega), if_pos (by omega)]
      congr 1; omega
    · rw [if_neg c2]
      by_cases c3 : k ≤ l ∧ l < m + 1
      · rw [if_pos c3, if_pos (show k - 1 ≤ l ∧ l < m + 1 by omega), if_neg (by omega), if_neg (by omega)]
      · rw [if_neg c3, if_neg (by omega)]
theorem rot_none (f : Nat → Nat) (a b : Nat) : rot f a a b = f := by
  funext k
  unfold rot
  by_cases c : a ≤ k ∧ k < b
  · rw [if_pos c, if_pos (by omega)]; congr 1; omega
  · rw [if_neg c]
theorem rot_none' (f : Nat → Nat) (a b : Nat) (h : a ≤ b) : rot f a b b = f := by
  funext k
  unfold rot
  by_cases c : a ≤ k ∧ k < b
  · rw [if_pos c, if_neg (by omega)]; congr 1; omega
  · rw [if_neg c]
theorem rot_low (f : Nat → Nat) {a m b k : Nat} (h1 : a ≤ k) (h2 : k < a + (b - m)) (h3 : m ≤ b) (h4 : a ≤ m) : rot f a m b k = f (m + (k - a)) := by
  unfold rot; rw [if_pos ⟨h1, by omega⟩, if_pos h2]
theorem rot_high (f : Nat → Nat) {a m b k : Nat} (h1 : a + (b - m) ≤ k) (h2 : k < b) (h3 : m ≤ b) (h4 : a ≤ m) : rot f a m b k = f (k - (b - m)) := by
  unfold rot; rw [if_pos ⟨by omega, h2⟩, if_neg (by omega)]
theorem rot_out (f : Nat → Nat) {a m b k : Nat} (h : ¬ (a ≤ k ∧ k < b)) : rot f a m b k = f k := by unfold rot; rw [if_neg h]
/-- one element on the left, put into its place -/
theorem merge_one {T : Nat → Nat → Prop} {a b i : Nat} {f : Nat → Nat} (hs : Srt T (a + 1) b f) (hi : a + 1 ≤ i) (hb : i ≤ b) (hlo : ∀ k, a + 1 ≤ k → k < i → T (f k) (f a)) (hhi : ∀ k, i ≤ k → k < b → T (f a) (f k)) :
    Srt T a b (rot f a (a + 1) i) := by
  intro x y h1 h2 h3
  by_cases c1 : y < i - 1
  · rw [rot_low f h1 (by omega) (by omega) (by omega), rot_low f (by omega) (by omega) (by omega) (by omega)]
    exact hs _ _ (by omega) (by omega) (by omega)
  · by_cases c2 : y = i - 1
    · rw [rot_low f h1 (by omega) (by omega) (by omega), rot_high f (by omega) (by omega) (by omega) (by omega), show y - (i - (a + 1)) = a by omega]
      exact hlo _ (by omega) (by omega)
    · rw [rot_out f (show ¬ (a ≤ y ∧ y < i) by omega)]
      by_cases c3 : x < i - 1
      · rw [rot_low f h1 (by omega) (by omega) (by omega)]
        exact hs _ _ (by omega) (by omega) h3
      · by_cases c4 : x = i - 1
        · rw [rot_high f (by omega) (by omega) (by omega) (by omega), show x - (i - (a + 1)) = a by omega]
          exact hhi _ (by omega) h3
        · rw [rot_out f (show ¬ (a ≤ x ∧ x < i) by omega)]
          exact hs _ _ (by omega) h2 h3
/-- one element on the right -/
theorem merge_last {T : Nat → Nat → Prop} {a m i : Nat} {f : Nat → Nat} (hs : Srt T a m f) (hi : a ≤ i) (hm : i ≤ m) (hlo : ∀ k, a ≤ k → k < i → T (f k) (f m)) (hhi : ∀ k, i ≤ k → k < m → T (f m) (f k)) :
    Srt T a (m + 1) (rot f i m (m + 1)) := by
  intro x y h1 h2 h3
  by_cases c1 : y < i
  · rw [rot_out f (show ¬ (i ≤ x ∧ x < m + 1) by omega), rot_out f (show ¬ (i ≤ y ∧ y < m + 1) by omega)]
    exact hs _ _ h1 h2 (by omega)
  · by_cases c2 : y = i
    · rw [rot_out f (show ¬ (i ≤ x ∧ x < m + 1) by omega), rot_low f (by omega) (by omega) (by omega) (by omega), show m + (y - i) = m by omega]
      exact hlo _ h1 (by omega)
    · rw [rot_high f (k := y) (by omega) (by omega) (by omega) (by omega)]
      by_cases c3 : x < i
      · rw [rot_out f (show ¬ (i ≤ x ∧ x < m + 1) by omega)]
        exact hs _ _ h1 (by omega) (by omega)
      · by_cases c4 : x = i
        · rw [rot_low f (by omega) (by omega) (by omega) (by omega), show m + (x - i) = m by omega]
          exact hhi _ (by omega) (by omega)
        · rw [rot_high f (by omega) (by omega) (by omega) (by omega)]
          exact hs _ _ (by omega) (by omega) (by omega)
/-- the cut of a symmetric merge -/
theorem sym_cut {T : Nat → Nat → Prop} (tr : ∀ x y z, T x y → T y z → T x z) {a m b s e mid : Nat} {f : Nat → Nat} (h1 : Srt T a m f) (h2 : Srt T m b f)
    (b1 : a ≤ s) (b2 : s ≤ m) (b3 : m ≤ e) (b4 : e ≤ b) (hsum : s + e = mid + m) (b5 : a ≤ mid) (b6 : mid ≤ b)
    (hA : (a < s ∧ e < b) → T (f (s - 1)) (f e)) (hB : (s < m ∧ m < e) → T (f (e - 1)) (f s)) :
    Srt T a s (rot f s m e) ∧ Srt T s mid (rot f s m e) ∧ Srt T mid e (rot f s m e) ∧ Srt T e b (rot f s m e) ∧
    (∀ i j, a ≤ i → i < mid → mid ≤ j → j < b → T (rot f s m e i) (rot f s m e j)) := by
  have lo : ∀ k, s ≤ k → k < mid → rot f s m e k = f (m + (k - s)) := fun k q1 q2 => rot_low f q1 (by omega) b3 b2
  have hi : ∀ k, mid ≤ k → k < e → rot f s m e k = f (k - (e - m)) := fun k q1 q2 => rot_high f (by omega) q2 b3 b2
  have ou : ∀ k, ¬ (s ≤ k ∧ k < e) → rot f s m e k = f k := fun k q => rot_out f q
  refine ⟨?_, ?_, ?_, ?_, ?_⟩
  · exact (h1.sub (Nat.le_refl _) b2).congr fun k q1 q2 => ou k (by omega)
  · intro i j q1 q2 q3
    rw [lo i q1 (by omega), lo j (by omega) q3]
    exact h2 _ _ (by omega) (by omega) (by omega)
  · intro i j q1 q2 q3
    rw [hi i q1 (by omega), hi j (by omega) q3]
    exact h1 _ _ (by omega) (by omega) (by omega)
  · exact (h2.sub b3 (Nat.le_refl _)).congr fun k q1 q2 => ou k (by omega)
  · intro i j q1 q2 q3 q4
    by_cases ci : i < s
    · rw [ou i (by omega)]
      by_cases cj : j < e
      · rw [hi j q3 cj]
        exact h1 _ _ q1 (by omega) (by omega)
      · rw [ou j (by omega)]
        have hx := hA ⟨by omega, by omega⟩
        have hy : T (f i) (f e) := by
          by_cases c : i = s - 1
          · rw [c]; exact hx
          · exact tr _ _ _ (h1 i (s - 1) q1 (by omega) (by omega)) hx
        by_cases c : j = e
        · rw [c]; exact hy
        · exact tr _ _ _ hy (h2 e j (by omega) (by omega) q4)
    · rw [lo i (by omega) q2]
      by_cases cj : j < e
      · rw [hi j q3 cj]
        have hx := hB ⟨by omega, by omega⟩
        have hy : T (f (m + (i - s))) (f s) := by
          by_cases c : m + (i - s) = e - 1
          · rw [c]; exact hx
          · exact tr _ _ _ (h2 _ (e - 1) (by omega) (by omega) (by omega)) hx
        by_cases c : j - (e - m) = s
        · rw [c]; exact hy
        · exact tr _ _ _ hy (h1 s _ b1 (by omega) (by omega))
      · rw [ou j (by omega)]
        exact h2 _ _ (by omega) (by omega) q4
/-- both halves merged: all is sorted -/
theorem sym_join {T : Nat → Nat → Prop} {a mid b : Nat} {g g1 g2 : Nat → Nat} (hx : ∀ i j, a ≤ i → i < mid → mid ≤ j → j < b → T (g i) (g j)) (r1 : Rearr a mid g g1) (s1 : Srt T a mid g1) (r2 : Rearr mid b g1 g2) (s2 : Srt T mid b g2) :
    Srt T a b g2 := by
  refine Srt.join (m := mid) (s1.congr fun k q1 q2 => r2.out (by omega)) s2 ?_
  intro i j q1 q2 q3 q4
  have h3 : ∀ l, mid ≤ l → l < b → T (g2 i) (g2 l) := by
    refine r2.all (P := fun v => T (g2 i) v) ?_
    intro l p1 p2
    rw [r1.out (k := l) (by omega), r2.out (k := i) (by omega)]
    exact r1.all (P := fun v => T v (g l)) (fun k p3 p4 => hx k l p3 p4 p1 p2) i q1 q2
  exact h3 j q3 q4
end Go.Proofs.YtncndmhmmfbklaaDoor.StSort

namespace Go.Proofs.YtncndmhmmfbklaaDoor.StSort
set_option linter.unusedVariables false
set_option linter.unusedSimpArgs false
open Go.RowKit
/-- the row in memory -/
structure OrdF (ob n : Nat) (f : Nat → Nat) (w : World) : Prop where
  cell : ∀ i, i < n → w.cell? ⟨ob, i, none⟩ = some (.int .i64 (f i : Nat))
  fr : ∀ i, i < n → w.frozen? ⟨ob, i, none⟩ = false
/-- nothing but the row has turned -/
structure Only (ob : Nat) (w w' : World) : Prop where
  size : w'.heap.size = w.heap.size
  cell : ∀ p : Addr, p.block ≠ ob → w'.cell? p = w.cell? p
  frz : ∀ p : Addr, w'.frozen? p = w.frozen? p
  bel : ∀ B, B ≤ ob → Below B w w'
theorem Only.refl (ob : Nat) (w : World) : Only ob w w := ⟨rfl, fun _ _ => rfl, fun _ => rfl, fun B _ => Below.refl B w⟩
theorem Only.trans {ob : Nat} {w w1 w2 : World} (h : Only ob w w1) (k : Only ob w1 w2) : Only ob w w2 :=
  ⟨k.size.trans h.size, fun p q => (k.cell p q).trans (h.cell p q), fun p => (k.frz p).trans (h.frz p), fun B q => (h.bel B q).trans (k.bel B q)⟩
theorem Only.set {ob : Nat} {w w1 : World} (h : Only ob w w1) (i : Nat) (v : Value) : Only ob w (w1.setCell ⟨ob, i, none⟩ v) :=
  ⟨by simpa [World.setCell] using h.size, fun p q => (World.cell?_of_block (w := w1) (Below.heap_setCell w1 ⟨ob, i, none⟩ v p.block q)).trans (h.cell p q), fun p => by simpa using h.frz p, fun B q => (h.bel B q).setCell q v⟩
theorem Only.drew {ob : Nat} {w w1 : World} (h : Only ob w w1) : Only ob w w1.drew := ⟨h.size, h.cell, h.frz, fun B q => (h.bel B q).drew⟩
theorem OrdF.drew {ob n : Nat} {f : Nat → Nat} {w : World} (h : OrdF ob n f w) : OrdF ob n f w.drew := ⟨h.cell, h.fr⟩
theorem OrdF.swap {ob n i j : Nat} {f : Nat → Nat} {w : World} (h : OrdF ob n f w) (hi : i < n) (hj : j < n) (hij : i ≠ j) :
    OrdF ob n (swp f i j) ((w.setCell ⟨ob, i, none⟩ (.int .i64 (f j : Nat))).setCell ⟨ob, j, none⟩ (.int .i64 (f i : Nat))) := by
  refine ⟨fun k hk => ?_, fun k hk => by simpa using h.fr k hk⟩
  unfold swp
  by_cases c1 : k = j
  · subst c1
    rw [World.cell?_setCell_same _ _ _ ((World.cell?_setCell_other _ _ _ _ (by intro q; injection q; omega)).trans (h.cell k hk)), if_neg (fun e => hij e.symm), if_pos rfl]
  · rw [World.cell?_setCell_other _ _ _ _ (by intro q; injection q; omega)]
    by_cases c2 : k = i
    · subst c2
      rw [World.cell?_setCell_same _ _ _ (h.cell k hk), if_pos rfl]
    · rw [World.cell?_setCell_other _ _ _ _ (by intro q; injection q; omega), if_neg c2, if_neg c1]
      exact h.cell k hk
set_option maxHeartbeats 4000000 in
set_option maxRecDepth 100000 in
theorem swapRange_any (ob n a b l : Nat) (f : Nat → Nat) (V : Value) (w : World) (h : OrdF ob n f w) (hab : a + l ≤ b) (hbn : b + l ≤ n) (hn : n ≤ 100000) :
    Calls Tryd.prog 110 #[.slice (some ⟨ob, 0, none⟩) n n, .int .i64 a, .int .i64 b, .int .i64 l, V] w fun e w' => e = .returned (.tuple #[]) ∧ OrdF ob n (swpR f a b l) w' ∧ Only ob w w' := by
  have H0 := Lib.hid h
  clear h
  go_enter Tryd.func110, Tryd.ntmps110
  go_wp2_with fail
  go_loopg [10] l (fun g i wr => ∃ k : Nat, k ≤ l ∧ g = l - k ∧ i = .int .i64 k ∧ OrdF ob n (swpR f a b k) wr ∧ Only ob w wr)
  case atStart => exact ⟨0, by omega, by omega, rfl, by rw [swpR_zero]; exact H0.out, Only.refl ob w⟩
  case round =>
    obtain ⟨k, hk, hg, rfl, hO, hW⟩ := hrel
    have Hg := Lib.hid hg
    clear hg
    by_cases hlt : k < l
    · have ca := hO.cell (a + k) (by omega)
      have cb := hO.cell (b + k) (by omega)
      have fa := hO.fr (a + k) (by omega)
      have fb := hO.fr (b + k) (by omega)
      have HO := Lib.hid hO
      have HW := Lib.hid hW
      clear hO hW
      have e1 : IntKind.i64.wrap ((a : Int) + (k : Int)) = (a : Int) + (k : Int) := by rw [IntWalk.i64_in _ (by omega)]
      have e2 : IntKind.i64.wrap ((b : Int) + (k : Int)) = (b : Int) + (k : Int) := by rw [IntWalk.i64_in _ (by omega)]
      have n1 : ((a : Int) + (k : Int)).toNat = a + k := by omega
      have n2 : ((b : Int) + (k : Int)).toNat = b + k := by omega
      have p1 : (0 : Int) ≤ (a : Int) + (k : Int) := by omega
      have p2 : (0 : Int) ≤ (b : Int) + (k : Int) := by omega
      have q1 : (a : Int) + (k : Int) < (n : Int) := by omega
      have q2 : (b : Int) + (k : Int) < (n : Int) := by omega
      have ne : ¬ (a + k = b + k) := by omega
      have hsw := (HO.out.swap (i := a + k) (j := b + k) (by omega) (by omega) (by omega)).drew
      rw [swpR_step f a b l k hlt (by omega)] at hsw
      have HSW := Lib.hid hsw
      have HWW := Lib.hid (((HW.out.set (a + k) (.int .i64 (swpR f a b k (b + k) : Nat))).set (b + k) (.int .i64 (swpR f a b k (a + k) : Nat))).drew)
      clear hsw
      generalize swpR f a b k (a + k) = x at *
      generalize swpR f a b k (b + k) = y at *
      go_upto_region 3 with fail
      go_region
      clear e1 e2 n1 n2 p1 p2 q1 q2
      have HO2 := HSW.out
      have HW2 := HWW.out
      generalize ((wr.setCell ⟨ob, a + k, none⟩ (.int .i64 (y : Nat))).setCell ⟨ob, b + k, none⟩ (.int .i64 (x : Nat))).drew = w2 at HO2 HW2 ⊢
      have HO3 := Lib.hid HO2
      have HW3 := Lib.hid HW2
      clear HO2 HW2
      go_wp2_with fail
      have hg2 := Hg.out
      go_roundg (l - (k + 1))
      case measure => omega
      case rel => exact ⟨k + 1, by omega, rfl, by go_num, HO3.out, HW3.out⟩
    · obtain rfl : k = l := by omega
      have HO := Lib.hid hO
      have HW := Lib.hid hW
      clear hO hW
      go_wp2_with fail
      go_end0
      exact ⟨rfl, HO.out, HW.out⟩
set_option maxHeartbeats 4000000 in
set_option maxRecDepth 100000 in
theorem rotate_any (ob n a m b : Nat) (f : Nat → Nat) (V : Value) (w : World) (h : OrdF ob n f w) (ham : a < m) (hmb : m < b) (hbn : b ≤ n) (hn : n ≤ 100000) :
    Calls Tryd.prog 98 #[.slice (some ⟨ob, 0, none⟩) n n, .int .i64 a, .int .i64 m, .int .i64 b, V] w fun e w' => e = .returned (.tuple #[]) ∧ OrdF ob n (rot f a m b) w' ∧ Only ob w w' := by
  have H0 := Lib.hid h
  clear h
  have d1 : (m : Int) - (a : Int) = ((m - a : Nat) : Int) := by omega
  have d2 : (b : Int) - (m : Int) = ((b - m : Nat) : Int) := by omega
  have w1 : IntKind.i64.wrap ((m : Int) - (a : Int)) = ((m - a : Nat) : Int) := by rw [IntWalk.i64_in _ (by omega), d1]
  have w2 : IntKind.i64.wrap ((b : Int) - (m : Int)) = ((b - m : Nat) : Int) := by rw [IntWalk.i64_in _ (by omega), d2]
  go_enter Tryd.func98, Tryd.ntmps98
  go_wp2_with fail
  clear w1 w2 d1 d2
  go_loopg [10, 11] (m - a + (b - m)) (fun g u v wr => ∃ (i j p : Nat) (f' : Nat → Nat), 1 ≤ i ∧ 1 ≤ j ∧ p + i = m ∧ a ≤ p ∧ m + j ≤ b ∧ g = i + j ∧ u = .int .i64 i ∧ v = .int .i64 j ∧ OrdF ob n f' wr ∧ Hid (rot f' p m (m + j) = rot f a m b) ∧ Only ob w wr)
  case atStart => exact ⟨m - a, b - m, a, f, by omega, by omega, by omega, by omega, by omega, rfl, rfl, rfl, H0.out, Lib.hid (by rw [show m + (b - m) = b by omega]), Only.refl ob w⟩
  case round =>
    obtain ⟨i, j, p, f', hi, hj, hp, hap, hjb, hg, rfl, rfl, hO, hE, hW⟩ := hrel
    have Hg := Lib.hid hg
    have HO := Lib.hid hO
    have HW := Lib.hid hW
    clear hg hO hW
    have e1 : (m : Int) - (i : Int) = (p : Int) := by omega
    have wr1 : IntKind.i64.wrap ((m : Int) - (i : Int)) = (p : Int) := by rw [IntWalk.i64_in _ (by omega), e1]
    by_cases heq : i = j
    · subst heq
      have HS := Lib.hid (swapRange_any ob n p m i f' V wr HO.out (by omega) (by omega) hn)
      have HR := Lib.hid (show swpR f' p m i = rot f a m b by
        rw [← hE.out]
        have q := rot_same f' m i (by omega)
        rw [show m - i = p by omega] at q
        exact q)
      clear hE
      go_wp2_with fail
      refine HS.out.mono ?_
      rintro e w3 ⟨rfl, hO3, hW3⟩
      rw [HR.out] at hO3
      have HO3 := Lib.hid hO3
      have HW3 := Lib.hid (HW.out.trans hW3)
      clear hO3 hW3
      go_wp2_with fail
      go_end0
      exact ⟨rfl, HO3.out, HW3.out⟩
    · have hne : ((i : Int) == (j : Int)) = false := beq_eq_false_iff_ne.2 (by omega)
      have hne2 : (i == j) = false := beq_eq_false_iff_ne.2 heq
      by_cases hlt : j < i
      · have t1 : decide ((j : Int) < (i : Int)) = true := decide_eq_true (by omega)
        have t1' : decide (j < i) = true := decide_eq_true hlt
        have HS := Lib.hid (swapRange_any ob n p m j f' V wr HO.out (by omega) (by omega) hn)
        have HR := Lib.hid (show rot (swpR f' p m j) (p + j) m (m + j) = rot f a m b by
          rw [← hE.out]
          have q := rot_left f' m i j hlt (by omega)
          rw [show m - i = p by omega] at q
          exact q)
        have e3 : (i : Int) - (j : Int) = ((i - j : Nat) : Int) := by omega
        have wr3 : IntKind.i64.wrap ((i : Int) - (j : Int)) = ((i - j : Nat) : Int) := by rw [IntWalk.i64_in _ (by omega), e3]
        clear hE
        go_wp2_with fail
        refine HS.out.mono ?_
        rintro e w3 ⟨rfl, hO3, hW3⟩
        have HO3 := Lib.hid hO3
        have HW3 := Lib.hid (HW.out.trans hW3)
        clear hO3 hW3
        go_wp2_with fail
        have hg2 := Hg.out
        go_roundg (i - j + j)
        case measure => omega
        case rel => exact ⟨i - j, j, p + j, _, by omega, hj, by omega, by omega, hjb, rfl, rfl, rfl, HO3.out, HR, HW3.out⟩
      · have t1 : decide ((j : Int) < (i : Int)) = false := decide_eq_false (by omega)
        have t1' : decide (j < i) = false := decide_eq_false hlt
        have HS := Lib.hid (swapRange_any ob n p (m + j - i) i f' V wr HO.out (by omega) (by omega) hn)
        have HR := Lib.hid (show rot (swpR f' p (m + j - i) i) p m (m + (j - i)) = rot f a m b by
          rw [← hE.out]
          have q := rot_right f' m i j (by omega) (by omega)
          rw [show m - i = p by omega, show m + j - i = m + (j - i) by omega] at q
          rw [show m + j - i = m + (j - i) by omega]
          exact q)
        have e3 : (j : Int) - (i : Int) = ((j - i : Nat) : Int) := by omega
        have wr3 : IntKind.i64.wrap ((j : Int) - (i : Int)) = ((j - i : Nat) : Int) := by rw [IntWalk.i64_in _ (by omega), e3]
        have e4 : (m : Int) + (j : Int) - (i : Int) = ((m + j - i : Nat) : Int) := by omega
        have wr4 : IntKind.i64.wrap ((m : Int) + (j : Int)) = (m : Int) + (j : Int) := by rw [IntWalk.i64_in _ (by omega)]
        have wr5 : IntKind.i64.wrap ((m : Int) + (j : Int) - (i : Int)) = ((m + j - i : Nat) : Int) := by rw [IntWalk.i64_in _ (by omega), e4]
        clear hE
        go_wp2_with fail
        refine HS.out.mono ?_
        rintro e w3 ⟨rfl, hO3, hW3⟩
        have HO3 := Lib.hid hO3
        have HW3 := Lib.hid (HW.out.trans hW3)
        clear hO3 hW3
        go_wp2_with fail
        have hg2 := Hg.out
        go_roundg (i + (j - i))
        case measure => omega
        case rel => exact ⟨i, j - i, p, _, hi, by omega, by omega, hap, by omega, rfl, rfl, rfl, HO3.out, HR, HW3.out⟩
end Go.Proofs.YtncndmhmmfbklaaDoor.StSort

namespace Go.Proofs.YtncndmhmmfbklaaDoor.StSort
set_option linter.unusedVariables false
set_option linter.unusedSimpArgs false
open Go.RowKit
theorem nan_u (x : Int) (w : World) : Calls Tryd.prog 62 #[.int .u64 x] w fun e w' => e = .returned (.bool false) ∧ w = w' := by
  go_enter Tryd.func62, Tryd.ntmps62
  go_wp2
  go_ret
  exact ⟨by simp, rfl⟩
def cmpV (x y : Nat) : Int := if x < y then -1 else if y < x then 1 else 0
theorem cmp_u (x y : Nat) (w : World) : Calls Tryd.prog 42 #[.int .u64 (x : Nat), .int .u64 (y : Nat)] w fun e w' => e = .returned (.int .i64 (cmpV x y)) ∧ w = w' := by
  obtain ⟨V, hV⟩ : ∃ V, cmpV x y = V := ⟨_, rfl⟩
  rw [hV]
  have HV := Lib.hid hV
  clear hV
  by_cases h1 : x < y
  · have t1 : decide ((x : Int) < (y : Int)) = true := decide_eq_true (by omega)
    have t1' : decide (x < y) = true := decide_eq_true h1
    obtain rfl : V = -1 := by rw [← HV.out]; unfold cmpV; rw [if_pos h1]
    clear h1 HV
    go_enter Tryd.func42, Tryd.ntmps42
    go_wp2_with fail
    refine (nan_u x w).mono ?_
    rintro e w' ⟨rfl, rfl⟩
    go_wp2_with fail
    refine (nan_u y w).mono ?_
    rintro e w' ⟨rfl, rfl⟩
    go_wp2_with fail
    go_ret
    exact ⟨rfl, rfl⟩
  · have t1 : decide ((x : Int) < (y : Int)) = false := decide_eq_false (by omega)
    have t1' : decide (x < y) = false := decide_eq_false h1
    by_cases h2 : y < x
    · have t2 : decide ((y : Int) < (x : Int)) = true := decide_eq_true (by omega)
      have t2' : decide (y < x) = true := decide_eq_true h2
      obtain rfl : V = 1 := by rw [← HV.out]; unfold cmpV; rw [if_neg h1, if_pos h2]
      clear h1 h2 HV
      go_enter Tryd.func42, Tryd.ntmps42
      go_wp2_with fail
      refine (nan_u x w).mono ?_
      rintro e w' ⟨rfl, rfl⟩
      go_wp2_with fail
      refine (nan_u y w).mono ?_
      rintro e w' ⟨rfl, rfl⟩
      go_wp2_with fail
      go_ret
      exact ⟨rfl, rfl⟩
    · have t2 : decide ((y : Int) < (x : Int)) = false := decide_eq_false (by omega)
      have t2' : decide (y < x) = false := decide_eq_false h2
      obtain rfl : V = 0 := by rw [← HV.out]; unfold cmpV; rw [if_neg h1, if_neg h2]
      clear h1 h2 HV
      go_enter Tryd.func42, Tryd.ntmps42
      go_wp2_with fail
      refine (nan_u x w).mono ?_
      rintro e w' ⟨rfl, rfl⟩
      go_wp2_with fail
      refine (nan_u y w).mono ?_
      rintro e w' ⟨rfl, rfl⟩
      go_wp2_with fail
      go_ret
      exact ⟨rfl, rfl⟩
/-- the rests behind the captured variable -/
structure RestF (rp rb n : Nat) (r : Nat → Nat) (w : World) : Prop where
  box : w.cell? ⟨rp, 0, none⟩ = some (.slice (some ⟨rb, 0, none⟩) n n)
  cell : ∀ i, i < n → w.cell? ⟨rb, i, none⟩ = some (.int .u64 (r i : Nat))
theorem RestF.only {rp rb n ob : Nat} {r : Nat → Nat} {w w' : World} (h : RestF rp rb n r w) (k : Only ob w w') (h1 : rp ≠ ob) (h2 : rb ≠ ob) : RestF rp rb n r w' :=
  ⟨(k.cell ⟨rp, 0, none⟩ h1).trans h.box, fun i hi => (k.cell ⟨rb, i, none⟩ h2).trans (h.cell i hi)⟩
set_option maxHeartbeats 4000000 in
set_option maxRecDepth 100000 in
theorem clos_is (i j n : Nat) (hi : i < n) (hj : j < n) (hn : n ≤ 100000) (rp rb : Nat) (r : Nat → Nat) (w : World) (h : RestF rp rb n r w) :
    Calls Tryd.prog 41 #[.int .i64 (i : Nat), .int .i64 (j : Nat), .pointer (some ⟨rp, 0, none⟩)] w fun e w' => e = .returned (.int .i64 (cmpV (r j) (r i))) ∧ ∃ m, w' = w.drewN m := by
  obtain ⟨hb, hc⟩ := h
  have ci := hc i hi
  have cj := hc j hj
  have HC := Lib.hid (fun w => cmp_u (r j) (r i) w)
  clear hc
  generalize r i = x at *
  generalize r j = y at *
  have k1 : ((i : Int) < (n : Int)) = True := eq_true (by omega)
  have k2 : ((j : Int) < (n : Int)) = True := eq_true (by omega)
  go_enter Tryd.func41, Tryd.ntmps41
  go_upto_region 1 with fail
  go_quiet (exact Calls.quiet_of_same ((HC.out _).mono fun e w' ⟨he, hw⟩ => ⟨he, hw.symm⟩))
  go_wp2_with fail
  go_ret
  exact ⟨rfl, nq, rfl⟩
end Go.Proofs.YtncndmhmmfbklaaDoor.StSort

namespace Go.Proofs.YtncndmhmmfbklaaDoor.StSort
set_option linter.unusedVariables false
set_option linter.unusedSimpArgs false
open Go.RowKit
abbrev cloV (rp : Nat) : Value := .func (.func 41) #[] #[.pointer (some ⟨rp, 0, none⟩)]
theorem OrdF.drewN {ob n : Nat} {f : Nat → Nat} {w : World} (h : OrdF ob n f w) (k : Nat) : OrdF ob n f (w.drewN k) := ⟨h.cell, h.fr⟩
theorem Below.drewN' {B : Nat} {w w' : World} (h : Below B w w') (k : Nat) : Below B w (w'.drewN k) := by
  induction k with
  | zero => rw [World.drewN_zero]; exact h
  | succ k ih => 
    have := ih.drew
    first | exact this | simpa [World.drewN_succ] using this
theorem Only.drewN {ob : Nat} {w w1 : World} (h : Only ob w w1) (k : Nat) : Only ob w (w1.drewN k) := ⟨h.size, h.cell, h.frz, fun B q => Below.drewN' (h.bel B q) k⟩
theorem RestF.drewN {rp rb n : Nat} {r : Nat → Nat} {w : World} (h : RestF rp rb n r w) (k : Nat) : RestF rp rb n r (w.drewN k) := ⟨h.box, h.cell⟩
theorem clos_q (i j n : Nat) (hi : i < n) (hj : j < n) (hn : n ≤ 100000) (rp rb : Nat) (r : Nat → Nat) (w : World) (h : RestF rp rb n r w) (k : Nat) :
    Calls Tryd.prog 41 #[.int .i64 (i : Nat), .int .i64 (j : Nat), .pointer (some ⟨rp, 0, none⟩)] (w.drewN k) fun e w' => e = .returned (.int .i64 (cmpV (r j) (r i))) ∧ ∃ m, w' = w.drewN m :=
  (clos_is i j n hi hj hn rp rb r (w.drewN k) (h.drewN k)).mono fun e w' ⟨he, m, hm⟩ => ⟨he, k + m, by rw [hm, World.drewN_drewN]⟩
theorem cmpV_lt {x y : Nat} (h : x < y) : cmpV x y < 0 := by unfold cmpV; rw [if_pos h]; omega
theorem cmpV_ge {x y : Nat} (h : ¬ x < y) : ¬ cmpV x y < 0 := by unfold cmpV; rw [if_neg h]; split <;> omega
set_option maxHeartbeats 8000000 in
set_option maxRecDepth 100000 in
theorem insertion_any (ob n a b : Nat) (f : Nat → Nat) (rp rb : Nat) (r : Nat → Nat) (w : World) (h : OrdF ob n f w) (hR : RestF rp rb n r w) (h1 : rp ≠ ob) (h2 : rb ≠ ob) (hab : a ≤ b) (hbn : b ≤ n) (hn : n ≤ 100000)
    (hv : ∀ k, k < n → f k < n) (hasc : ∀ k l, a ≤ k → k < l → l < b → f k < f l) :
    Calls Tryd.prog 80 #[.slice (some ⟨ob, 0, none⟩) n n, .int .i64 a, .int .i64 b, cloV rp] w fun e w' => e = .returned (.tuple #[]) ∧ ∃ g, OrdF ob n g w' ∧ Rearr a b f g ∧ Srt (TR r) a b g ∧ Only ob w w' := by
  have H0 := Lib.hid h
  have HR := Lib.hid hR
  have HV := Lib.hid hv
  have HASC := Lib.hid hasc
  clear h hR hv hasc
  have w1 : IntKind.i64.wrap ((a : Int) + 1) = (a : Int) + 1 := by rw [IntWalk.i64_in _ (by omega)]
  go_enter Tryd.func80, Tryd.ntmps80
  go_wp2_with fail
  clear w1
  go_loopg [8] (b - a) (fun g u wr => ∃ (i : Nat) (f' : Nat → Nat), a + 1 ≤ i ∧ (i ≤ b ∨ i = a + 1) ∧ g = b + 1 - i ∧ u = .int .i64 i ∧ OrdF ob n f' wr ∧ Rearr a i f f' ∧ Srt (TR r) a i f' ∧ (i = a + 1 → f' = f) ∧ Only ob w wr)
  case atStart => exact ⟨a + 1, f, by omega, .inr rfl, by omega, by go_num, H0.out, Rearr.refl _ _ _, fun x y q1 q2 q3 => by omega, fun _ => rfl, Only.refl ob w⟩
  case round =>
    obtain ⟨i, f', hi, hib, hg, rfl, hO, hP, hS, hF, hW⟩ := hrel
    have Hg := Lib.hid hg
    have HO := Lib.hid hO
    have HP := Lib.hid hP
    have HS := Lib.hid hS
    have HF := Lib.hid hF
    have HW := Lib.hid hW
    clear hg hO hP hS hF hW
    by_cases hlt : i < b
    · have t1 : decide ((i : Int) < (b : Int)) = true := decide_eq_true (by omega)
      have t1' : decide (i < b) = true := decide_eq_true hlt
      have hfi : f' i = f i := HP.out.out (by omega)
      have hlow := Lib.hid (show ∀ k, a ≤ k → k < i → f' k < f' i from HP.out.all (P := fun v => v < f' i) (fun k q1 q2 => by rw [hfi]; exact HASC.out k i q1 q2 hlt))
      have hval := Lib.hid (show ∀ k, k < n → f' k < n from fun k hk => by
        by_cases c : a ≤ k ∧ k < i
        · exact HP.out.all (P := fun v => v < n) (fun l q1 q2 => HV.out l (by omega)) k c.1 c.2
        · rw [HP.out.out c]; exact HV.out k hk)
      have HFI := Lib.hid hfi
      clear hfi
      have HRW := Lib.hid (HR.out.only HW.out h1 h2)
      obtain ⟨wo, hwo⟩ : ∃ wo : World, wo = wr := ⟨_, rfl⟩
      subst hwo
      go_wp2_with fail
      go_loopg [9] (i - a) (fun g u wx => ∃ j : Nat, a ≤ j ∧ j ≤ i ∧ g = j - a ∧ u = .int .i64 j ∧ OrdF ob n (rot f' j i (i + 1)) wx ∧ (∀ k, j ≤ k → k < i → TR r (f' i) (f' k)) ∧ Only ob wo wx)
      case atStart => exact ⟨i, by omega, by omega, rfl, rfl, by rw [rot_none]; exact HO.out, fun k q1 q2 => by omega, Only.refl ob wo⟩
      case round =>
        obtain ⟨j, hj1, hj2, hg, rfl, hO, hT, hW⟩ := hrel
        have Hgj := Lib.hid hg
        have HOj := Lib.hid hO
        have HTj := Lib.hid hT
        have HWj := Lib.hid hW
        clear hg hO hT hW
        have fin : ∀ g : Nat → Nat, g = rot f' j i (i + 1) → (∀ k, a ≤ k → k < j → TR r (f' k) (f' i)) → Rearr a (i + 1) f g ∧ Srt (TR r) a (i + 1) g := fun g hg hlo => by
          subst hg
          refine ⟨(HP.out.widen (Nat.le_refl _) (by omega)).trans ((rot_rearr f' j i (i + 1) hj2 (by omega)).widen hj1 (Nat.le_refl _)), ?_⟩
          exact merge_last HS.out hj1 hj2 hlo HTj.out
        have FIN := Lib.hid fin
        clear fin
        by_cases hja : a < j
        · have hXn : f' i < n := hval.out i (by omega)
          have hYn : f' (j - 1) < n := hval.out (j - 1) (by omega)
          have e0 : rot f' j i (i + 1) j = f' i := by rw [rot_low f' (by omega) (by omega) (by omega) (by omega), show i + (j - j) = i by omega]
          have e1 : rot f' j i (i + 1) (j - 1) = f' (j - 1) := rot_out f' (by omega)
          have c0 := HOj.out.cell j (by omega)
          have c1 := HOj.out.cell (j - 1) (by omega)
          have q0 := HOj.out.fr j (by omega)
          have q1 := HOj.out.fr (j - 1) (by omega)
          have hsw := Lib.hid (fun k => ((HOj.out.drewN k).swap (i := j) (j := j - 1) (by omega) (by omega) (by omega)).drew)
          rw [swp_down f' j i (by omega) hj2, e0, e1] at hsw
          rw [e0] at c0
          rw [e1] at c1
          have CL := Lib.hid (clos_q (f' i) (f' (j - 1)) n hXn hYn hn rp rb r wr (HRW.out.only HWj.out h1 h2))
          have hTT := Lib.hid (show r (f' (j - 1)) < r (f' i) → ∀ k, j - 1 ≤ k → k < i → TR r (f' i) (f' k) from fun hh k p1 p2 => by
            by_cases c : k = j - 1
            · rw [c]; exact TR.of_lt hh
            · exact HTj.out k (by omega) p2)
          have hLO := Lib.hid (show ¬ r (f' (j - 1)) < r (f' i) → ∀ k, a ≤ k → k < j → TR r (f' k) (f' i) from fun hh k p1 p2 => by
            have hz : TR r (f' (j - 1)) (f' i) := TR.of_not (hlow.out (j - 1) (by omega) (by omega)) hh
            by_cases c : k = j - 1
            · rw [c]; exact hz
            · exact (HS.out k (j - 1) p1 (by omega) (by omega)).trans hz)
          have HLT := Lib.hid (@cmpV_lt (r (f' (j - 1))) (r (f' i)))
          have HGE := Lib.hid (@cmpV_ge (r (f' (j - 1))) (r (f' i)))
          clear e0 e1 hXn hYn
          generalize hX : f' i = X at c0 CL hsw hTT hLO HLT HGE FIN
          generalize hY : f' (j - 1) = Y at c1 CL hsw hTT hLO HLT HGE
          have HX := Lib.hid hX
          have HY := Lib.hid hY
          clear hX hY
          have g1 : decide ((a : Int) < (j : Int)) = true := decide_eq_true (by omega)
          have g1' : decide (a < j) = true := decide_eq_true hja
          have m1 : IntKind.i64.wrap ((j : Int) - 1) = (j : Int) - 1 := by rw [IntWalk.i64_in _ (by omega)]
          have m2 : ((j : Int) - 1).toNat = j - 1 := by omega
          have m3 : (0 : Int) ≤ (j : Int) - 1 := by omega
          have m3' : (1 : Int) ≤ (j : Int) := by omega
          have m4 : (j : Int) - 1 < (n : Int) := by omega
          have m5 : (j : Int) < (n : Int) := by omega
          by_cases hlt2 : r Y < r X
          · have hc : decide (cmpV (r Y) (r X) < 0) = true := decide_eq_true (HLT.out hlt2)
            have HT2 := Lib.hid (hTT.out hlt2)
            generalize cmpV (r Y) (r X) = C at CL hc
            clear HLT HGE hLO hTT hlt2
            go_upto_region 4 with fail
            go_quiet (exact CL.out _)
            have d0 : (wr.drewN nq).cell? ⟨ob, j, none⟩ = some (.int .i64 (X : Nat)) := c0
            have d1 : (wr.drewN nq).cell? ⟨ob, j - 1, none⟩ = some (.int .i64 (Y : Nat)) := c1
            have p0 : (wr.drewN nq).frozen? ⟨ob, j, none⟩ = false := q0
            have p1 : (wr.drewN nq).frozen? ⟨ob, j - 1, none⟩ = false := q1
            have HSW := hsw.out nq
            have HWW := (((HWj.out.drewN nq).set j (.int .i64 (Y : Nat))).set (j - 1) (.int .i64 (X : Nat))).drew
            clear c0 c1 q0 q1 hsw CL hc
            generalize hw2 : wr.drewN nq = w2 at d0 d1 p0 p1 HSW HWW ⊢
            have HSW2 := Lib.hid HSW
            have HWW2 := Lib.hid HWW
            have HW2 := Lib.hid hw2
            clear HSW HWW hw2
            go_upto_region 6 with fail
            go_region
            clear d0 d1 p0 p1
            have HS3 := HSW2.out
            have HW3 := HWW2.out
            generalize ((w2.setCell ⟨ob, j, none⟩ (.int .i64 (Y : Nat))).setCell ⟨ob, j - 1, none⟩ (.int .i64 (X : Nat))).drew = w3 at HS3 HW3 ⊢
            have HS4 := Lib.hid HS3
            have HW4 := Lib.hid HW3
            clear HS3 HW3
            go_wp2_with fail
            have hg2 := Hgj.out
            have hcast : (j : Int) - 1 = ((j - 1 : Nat) : Int) := by omega
            go_roundg (j - 1 - a)
            case measure => omega
            case rel => exact ⟨j - 1, by omega, by omega, rfl, by rw [hcast], HS4.out, by rw [HX.out]; exact HT2.out, HW4.out⟩
          · have hc : decide (cmpV (r Y) (r X) < 0) = false := decide_eq_false (HGE.out hlt2)
            have HLO := Lib.hid (hLO.out hlt2)
            generalize cmpV (r Y) (r X) = C at CL hc
            clear HLT HGE hLO hTT hlt2
            go_upto_region 4 with fail
            go_quiet (exact CL.out _)
            have HOn := Lib.hid (HOj.out.drewN nq)
            have HWn := Lib.hid (HW.out.trans (HWj.out.drewN nq))
            clear c0 c1 q0 q1 hsw CL hc
            go_wp2_with fail
            have hg2 := Hg.out
            have FF := FIN.out _ rfl HLO.out
            go_roundg (b + 1 - (i + 1))
            case measure => omega
            case rel => exact ⟨i + 1, _, by omega, .inl (by omega), rfl, by go_num, HOn.out, FF.1, FF.2, fun e => by omega, HWn.out⟩
        · obtain rfl : j = a := by omega
          have g1 : decide ((j : Int) < (j : Int)) = false := decide_eq_false (by omega)
          go_upto_region 4 with fail
          go_quiet (fail)
          have HOn := Lib.hid (HOj.out.drewN nq)
          have HWn := Lib.hid (HW.out.trans (HWj.out.drewN nq))
          go_wp2_with fail
          have hg2 := Hg.out
          have FF := FIN.out _ rfl (fun k q1 q2 => by omega)
          go_roundg (b + 1 - (i + 1))
          case measure => omega
          case rel => exact ⟨i + 1, _, by omega, .inl (by omega), rfl, by go_num, HOn.out, FF.1, FF.2, fun e => by omega, HWn.out⟩
    · have t1 : decide ((i : Int) < (b : Int)) = false := decide_eq_false (by omega)
      have t1' : decide (i < b) = false := decide_eq_false hlt
      go_wp2_with fail
      go_end0
      refine ⟨rfl, f', HO.out, ?_, ?_, HW.out⟩
      · rcases hib with q | q
        · rw [show b = i by omega]; exact HP.out
        · rw [HF.out q]; exact Rearr.refl _ _ _
      · exact HS.out.sub (Nat.le_refl _) (by omega)
end Go.Proofs.YtncndmhmmfbklaaDoor.StSort

namespace Go.Proofs.YtncndmhmmfbklaaDoor.StSort
set_option linter.unusedVariables false
set_option linter.unusedSimpArgs false
open Go.RowKit
/-- what a merge asks of its row -/
structure Mrg (r : Nat → Nat) (a m b n : Nat) (f : Nat → Nat) : Prop where
  am : a < m
  mb : m < b
  bn : b ≤ n
  s1 : Srt (TR r) a m f
  s2 : Srt (TR r) m b f
  lr : LR a m b f
  val : ∀ k, k < n → f k < n
set_option maxHeartbeats 8000000 in
set_option maxRecDepth 100000 in
theorem sym_one (ob n a m b : Nat) (f : Nat → Nat) (rp rb : Nat) (r : Nat → Nat) (w : World) (h : OrdF ob n f w) (hR : RestF rp rb n r w) (h1 : rp ≠ ob) (h2 : rb ≠ ob) (hM : Mrg r a m b n f) (hn : n ≤ 100000) (hm : m = a + 1) :
    Calls Tryd.prog 81 #[.slice (some ⟨ob, 0, none⟩) n n, .int .i64 a, .int .i64 m, .int .i64 b, cloV rp] w fun e w' => e = .returned (.tuple #[]) ∧ ∃ g, OrdF ob n g w' ∧ Rearr a b f g ∧ Srt (TR r) a b g ∧ Only ob w w' := by
  obtain ⟨am, mb, bn, s1, s2, lr, val⟩ := hM
  have H0 := Lib.hid h
  have HR := Lib.hid hR
  have HV := Lib.hid val
  have HS := Lib.hid s2
  have HL := Lib.hid lr
  clear h hR val s1 s2 lr
  have d1 : (m : Int) - (a : Int) = 1 := by omega
  have w1 : IntKind.i64.wrap ((m : Int) - (a : Int)) = 1 := by rw [IntWalk.i64_in _ (by omega), d1]
  have HMM := Lib.hid hm
  clear hm
  go_enter Tryd.func81, Tryd.ntmps81
  go_wp2_with fail
  clear d1 w1
  go_loopg [10, 11] (b - m) (fun g u v wr => ∃ i j : Nat, m ≤ i ∧ i ≤ j ∧ j ≤ b ∧ g = j - i ∧ u = .int .i64 i ∧ v = .int .i64 j ∧ OrdF ob n f wr ∧ (∀ k, m ≤ k → k < i → TR r (f k) (f a)) ∧ (∀ k, j ≤ k → k < b → TR r (f a) (f k)) ∧ Only ob w wr)
  case atStart => exact ⟨m, b, by omega, by omega, by omega, rfl, rfl, rfl, H0.out, fun k q1 q2 => by omega, fun k q1 q2 => by omega, Only.refl ob w⟩
  case round =>
    obtain ⟨i, j, hi, hij, hj, hg, rfl, rfl, hO, hlo, hhi, hW⟩ := hrel
    have Hg := Lib.hid hg
    have HO := Lib.hid hO
    have HW := Lib.hid hW
    have HLO := Lib.hid hlo
    have HHI := Lib.hid hhi
    clear hg hO hW hlo hhi
    by_cases hlt : i < j
    · have t1 : decide ((i : Int) < (j : Int)) = true := decide_eq_true (by omega)
      have t1' : decide (i < j) = true := decide_eq_true hlt
      obtain ⟨c, hc0⟩ : ∃ c, (i + j) / 2 = c := ⟨_, rfl⟩
      have hc1 : i ≤ c := by omega
      have hc2 : c < j := by omega
      have hce : ((i : Int) + (j : Int)) / 2 = (c : Int) := by omega
      have HC0 := Lib.hid hc0
      clear hc0
      have ca := HO.out.cell a (by omega)
      have cc := HO.out.cell c (by omega)
      have CL := Lib.hid (clos_q (f c) (f a) n (HV.out c (by omega)) (HV.out a (by omega)) hn rp rb r wr (HR.out.only HW.out h1 h2))
      have HLT := Lib.hid (@cmpV_lt (r (f a)) (r (f c)))
      have HGE := Lib.hid (@cmpV_ge (r (f a)) (r (f c)))
      have k1 : (0 : Int) ≤ (c : Int) := by omega
      have k2 : (c : Int) < (n : Int) := by omega
      have k3 : (a : Int) < (n : Int) := by omega
      by_cases hlt2 : r (f a) < r (f c)
      · have hcc : decide (cmpV (r (f a)) (r (f c)) < 0) = true := decide_eq_true (HLT.out hlt2)
        have HNEW := Lib.hid (show ∀ k, m ≤ k → k < c + 1 → TR r (f k) (f a) from fun k q1 q2 => by
          have hz : TR r (f c) (f a) := TR.of_lt hlt2
          by_cases e : k = c
          · rw [e]; exact hz
          · exact (HS.out k c q1 (by omega) (by omega)).trans hz)
        clear HLT HGE hlt2
        generalize cmpV (r (f a)) (r (f c)) = C at CL hcc
        generalize f a = X at ca CL
        generalize f c = Y at cc CL
        go_upto_region 5 with fail
        go_quiet (exact CL.out _)
        have HOn := Lib.hid (HO.out.drewN nq)
        have HWn := Lib.hid (HW.out.drewN nq)
        have kw : IntKind.i64.wrap ((c : Int) + 1) = (c : Int) + 1 := by rw [IntWalk.i64_in _ (by omega)]
        clear ca cc CL
        go_wp2_with fail
        have hg2 := Hg.out
        go_roundg (j - (c + 1))
        case measure => omega
        case rel => exact ⟨c + 1, j, by omega, by omega, hj, rfl, by go_num, rfl, HOn.out, HNEW.out, HHI.out, HWn.out⟩
      · have hcc : decide (cmpV (r (f a)) (r (f c)) < 0) = false := decide_eq_false (HGE.out hlt2)
        have HNEW := Lib.hid (show ∀ k, c ≤ k → k < b → TR r (f a) (f k) from fun k q1 q2 => by
          have hz : TR r (f a) (f c) := TR.of_not (HL.out a c (by omega) am (by omega) (by omega)) hlt2
          by_cases e : k = c
          · rw [e]; exact hz
          · exact hz.trans (HS.out c k (by omega) (by omega) q2))
        clear HLT HGE hlt2
        generalize cmpV (r (f a)) (r (f c)) = C at CL hcc
        generalize f a = X at ca CL
        generalize f c = Y at cc CL
        go_upto_region 5 with fail
        go_quiet (exact CL.out _)
        have HOn := Lib.hid (HO.out.drewN nq)
        have HWn := Lib.hid (HW.out.drewN nq)
        clear ca cc CL
        go_wp2_with fail
        have hg2 := Hg.out
        go_roundg (c - i)
        case measure => omega
        case rel => exact ⟨i, c, hi, hc1, by omega, rfl, rfl, rfl, HOn.out, HLO.out, HNEW.out, HWn.out⟩
    · obtain rfl : i = j := by omega
      have t1 : decide ((i : Int) < (i : Int)) = false := decide_eq_false (by omega)
      obtain ⟨wo, hwo⟩ : ∃ wo : World, wo = wr := ⟨_, rfl⟩
      subst hwo
      go_wp2_with fail
      go_loopg [13] (i - 1 - a) (fun g u wx => ∃ k : Nat, a ≤ k ∧ k + 1 ≤ i ∧ g = i - 1 - k ∧ u = .int .i64 k ∧ OrdF ob n (rot f a m (k + 1)) wx ∧ Only ob wo wx)
      case atStart => exact ⟨a, by omega, by have := HMM.out; omega, rfl, rfl, by rw [← HMM.out, rot_none' f a m (by omega)]; exact HO.out, Only.refl ob wo⟩
      case round =>
        obtain ⟨k, hk1, hk2, hg, rfl, hO, hW⟩ := hrel
        have Hgk := Lib.hid hg
        have HOk := Lib.hid hO
        have HWk := Lib.hid hW
        clear hg hO hW
        have kw0 : IntKind.i64.wrap ((i : Int) - 1) = (i : Int) - 1 := by rw [IntWalk.i64_in _ (by omega)]
        by_cases hk3 : k + 1 < i
        · have g1 : decide ((k : Int) < (i : Int) - 1) = true := decide_eq_true (by omega)
          have hsw := Lib.hid ((HOk.out.swap (i := k) (j := k + 1) (by omega) (by omega) (by omega)).drew)
          have esw := swp_up f a (k + 1) (by omega)
          rw [show k + 1 - 1 = k from rfl, ← HMM.out] at esw
          rw [esw] at hsw
          clear esw
          have c0 := HOk.out.cell k (by omega)
          have c1 := HOk.out.cell (k + 1) (by omega)
          have q0 := HOk.out.fr k (by omega)
          have q1 := HOk.out.fr (k + 1) (by omega)
          have hww := Lib.hid (((HWk.out.set k (.int .i64 (rot f a m (k + 1) (k + 1) : Nat))).set (k + 1) (.int .i64 (rot f a m (k + 1) k : Nat))).drew)
          generalize rot f a m (k + 1) (k + 1) = Y at c1 hsw hww
          generalize rot f a m (k + 1) k = X at c0 hsw hww
          have m1 : IntKind.i64.wrap ((k : Int) + 1) = (k : Int) + 1 := by rw [IntWalk.i64_in _ (by omega)]
          have m2 : ((k : Int) + 1).toNat = k + 1 := by omega
          have m3 : (0 : Int) ≤ (k : Int) + 1 := by omega
          have m4 : (k : Int) + 1 < (n : Int) := by omega
          have m5 : (k : Int) < (n : Int) := by omega
          go_upto_region 11 with fail
          go_region
          clear c0 c1 q0 q1
          have HS3 := hsw.out
          have HW3 := hww.out
          generalize ((wr.setCell ⟨ob, k, none⟩ (.int .i64 (Y : Nat))).setCell ⟨ob, k + 1, none⟩ (.int .i64 (X : Nat))).drew = w3 at HS3 HW3 ⊢
          have HS4 := Lib.hid HS3
          have HW4 := Lib.hid HW3
          clear HS3 HW3 hsw hww
          go_wp2_with fail
          have hg2 := Hgk.out
          go_roundg (i - 1 - (k + 1))
          case measure => omega
          case rel => exact ⟨k + 1, by omega, by omega, rfl, by go_num, HS4.out, HW4.out⟩
        · obtain rfl : i = k + 1 := by omega
          have g1 : decide ((k : Int) < ((k + 1 : Nat) : Int) - 1) = false := decide_eq_false (by omega)
          go_wp2_with fail
          refine bodyPost_ret (results_none rfl _ _ _) rfl ?_
          refine ⟨rfl, _, HOk.out, ?_, ?_, HW.out.trans HWk.out⟩
          · exact (rot_rearr f a m (k + 1) (by omega) (by omega)).widen (Nat.le_refl _) hj
          · have hmm := HMM.out
            subst hmm
            exact merge_one HS.out (by omega) hj HLO.out HHI.out
set_option maxHeartbeats 8000000 in
set_option maxRecDepth 100000 in
theorem sym_last (ob n a m b : Nat) (f : Nat → Nat) (rp rb : Nat) (r : Nat → Nat) (w : World) (h : OrdF ob n f w) (hR : RestF rp rb n r w) (h1 : rp ≠ ob) (h2 : rb ≠ ob) (hM : Mrg r a m b n f) (hn : n ≤ 100000) (hm : m ≠ a + 1) (hb : b = m + 1) :
    Calls Tryd.prog 81 #[.slice (some ⟨ob, 0, none⟩) n n, .int .i64 a, .int .i64 m, .int .i64 b, cloV rp] w fun e w' => e = .returned (.tuple #[]) ∧ ∃ g, OrdF ob n g w' ∧ Rearr a b f g ∧ Srt (TR r) a b g ∧ Only ob w w' := by
  obtain ⟨am, mb, bn, s1, s2, lr, val⟩ := hM
  have H0 := Lib.hid h
  have HR := Lib.hid hR
  have HV := Lib.hid val
  have HS := Lib.hid s1
  have HL := Lib.hid lr
  clear h hR val s1 s2 lr
  obtain ⟨dm, hdm⟩ : ∃ dm, m - a = dm := ⟨_, rfl⟩
  have d1 : (m : Int) - (a : Int) = (dm : Int) := by omega
  have w1 : IntKind.i64.wrap ((m : Int) - (a : Int)) = (dm : Int) := by rw [IntWalk.i64_in _ (by omega), d1]
  have u1 : ((dm : Int) == 1) = false := beq_eq_false_iff_ne.2 (by omega)
  have u1' : (dm == 1) = false := beq_eq_false_iff_ne.2 (by omega)
  have d2 : (b : Int) - (m : Int) = 1 := by omega
  have w2 : IntKind.i64.wrap ((b : Int) - (m : Int)) = 1 := by rw [IntWalk.i64_in _ (by omega), d2]
  have HBB := Lib.hid hb
  have HMD := Lib.hid hdm
  clear hb hdm
  go_enter Tryd.func81, Tryd.ntmps81
  go_wp2_with fail
  clear d1 w1 d2 w2
  go_loopg [14, 15] (m - a) (fun g u v wr => ∃ i j : Nat, a ≤ i ∧ i ≤ j ∧ j ≤ m ∧ g = j - i ∧ u = .int .i64 i ∧ v = .int .i64 j ∧ OrdF ob n f wr ∧ (∀ k, a ≤ k → k < i → TR r (f k) (f m)) ∧ (∀ k, j ≤ k → k < m → TR r (f m) (f k)) ∧ Only ob w wr)
  case atStart => exact ⟨a, m, by omega, by omega, by omega, rfl, rfl, rfl, H0.out, fun k q1 q2 => by omega, fun k q1 q2 => by omega, Only.refl ob w⟩
  case round =>
    obtain ⟨i, j, hi, hij, hj, hg, rfl, rfl, hO, hlo, hhi, hW⟩ := hrel
    have Hg := Lib.hid hg
    have HO := Lib.hid hO
    have HW := Lib.hid hW
    have HLO := Lib.hid hlo
    have HHI := Lib.hid hhi
    clear hg hO hW hlo hhi
    by_cases hlt : i < j
    · have t1 : decide ((i : Int) < (j : Int)) = true := decide_eq_true (by omega)
      have t1' : decide (i < j) = true := decide_eq_true hlt
      obtain ⟨c, hc0⟩ : ∃ c, (i + j) / 2 = c := ⟨_, rfl⟩
      have hc1 : i ≤ c := by omega
      have hc2 : c < j := by omega
      have hce : ((i : Int) + (j : Int)) / 2 = (c : Int) := by omega
      have HC0 := Lib.hid hc0
      clear hc0
      have cm := HO.out.cell m (by omega)
      have cc := HO.out.cell c (by omega)
      have CL := Lib.hid (clos_q (f m) (f c) n (HV.out m (by omega)) (HV.out c (by omega)) hn rp rb r wr (HR.out.only HW.out h1 h2))
      have HLT := Lib.hid (@cmpV_lt (r (f c)) (r (f m)))
      have HGE := Lib.hid (@cmpV_ge (r (f c)) (r (f m)))
      have k1 : (0 : Int) ≤ (c : Int) := by omega
      have k2 : (c : Int) < (n : Int) := by omega
      have k3 : (m : Int) < (n : Int) := by omega
      by_cases hlt2 : r (f c) < r (f m)
      · have hcc : decide (cmpV (r (f c)) (r (f m)) < 0) = true := decide_eq_true (HLT.out hlt2)
        have HNEW := Lib.hid (show ∀ k, c ≤ k → k < m → TR r (f m) (f k) from fun k q1 q2 => by
          have hz : TR r (f m) (f c) := TR.of_lt hlt2
          by_cases e : k = c
          · rw [e]; exact hz
          · exact hz.trans (HS.out c k (by omega) (by omega) q2))
        clear HLT HGE hlt2
        generalize cmpV (r (f c)) (r (f m)) = C at CL hcc
        generalize f m = X at cm CL
        generalize f c = Y at cc CL
        go_upto_region 17 with fail
        go_quiet (exact CL.out _)
        have HOn := Lib.hid (HO.out.drewN nq)
        have HWn := Lib.hid (HW.out.drewN nq)
        clear cm cc CL
        go_wp2_with fail
        have hg2 := Hg.out
        go_roundg (c - i)
        case measure => omega
        case rel => exact ⟨i, c, hi, hc1, by omega, rfl, rfl, rfl, HOn.out, HLO.out, HNEW.out, HWn.out⟩
      · have hcc : decide (cmpV (r (f c)) (r (f m)) < 0) = false := decide_eq_false (HGE.out hlt2)
        have HNEW := Lib.hid (show ∀ k, a ≤ k → k < c + 1 → TR r (f k) (f m) from fun k q1 q2 => by
          have hz : TR r (f c) (f m) := TR.of_not (HL.out c m (by omega) (by omega) (by omega) mb) hlt2
          by_cases e : k = c
          · rw [e]; exact hz
          · exact (HS.out k c q1 (by omega) (by omega)).trans hz)
        clear HLT HGE hlt2
        generalize cmpV (r (f c)) (r (f m)) = C at CL hcc
        generalize f m = X at cm CL
        generalize f c = Y at cc CL
        go_upto_region 17 with fail
        go_quiet (exact CL.out _)
        have HOn := Lib.hid (HO.out.drewN nq)
        have HWn := Lib.hid (HW.out.drewN nq)
        have kw : IntKind.i64.wrap ((c : Int) + 1) = (c : Int) + 1 := by rw [IntWalk.i64_in _ (by omega)]
        clear cm cc CL
        go_wp2_with fail
        have hg2 := Hg.out
        go_roundg (j - (c + 1))
        case measure => omega
        case rel => exact ⟨c + 1, j, by omega, by omega, hj, rfl, by go_num, rfl, HOn.out, HNEW.out, HHI.out, HWn.out⟩
    · obtain rfl : i = j := by omega
      have t1 : decide ((i : Int) < (i : Int)) = false := decide_eq_false (by omega)
      obtain ⟨wo, hwo⟩ : ∃ wo : World, wo = wr := ⟨_, rfl⟩
      subst hwo
      go_wp2_with fail
      go_loopg [17] (m - i) (fun g u wx => ∃ k : Nat, i ≤ k ∧ k ≤ m ∧ g = k - i ∧ u = .int .i64 k ∧ OrdF ob n (rot f k m (m + 1)) wx ∧ Only ob wo wx)
      case atStart => exact ⟨m, by omega, by omega, rfl, rfl, by rw [rot_none]; exact HO.out, Only.refl ob wo⟩
      case round =>
        obtain ⟨k, hk1, hk2, hg, rfl, hO, hW⟩ := hrel
        have Hgk := Lib.hid hg
        have HOk := Lib.hid hO
        have HWk := Lib.hid hW
        clear hg hO hW
        by_cases hk3 : i < k
        · have g1 : decide ((i : Int) < (k : Int)) = true := decide_eq_true (by omega)
          have g1' : decide (i < k) = true := decide_eq_true hk3
          have hsw := Lib.hid ((HOk.out.swap (i := k) (j := k - 1) (by have := HBB.out; omega) (by have := HBB.out; omega) (by omega)).drew)
          rw [swp_down f k m (by omega) hk2] at hsw
          have c0 := HOk.out.cell k (by have := HBB.out; omega)
          have c1 := HOk.out.cell (k - 1) (by have := HBB.out; omega)
          have q0 := HOk.out.fr k (by have := HBB.out; omega)
          have q1 := HOk.out.fr (k - 1) (by have := HBB.out; omega)
          have hww := Lib.hid (((HWk.out.set k (.int .i64 (rot f k m (m + 1) (k - 1) : Nat))).set (k - 1) (.int .i64 (rot f k m (m + 1) k : Nat))).drew)
          generalize rot f k m (m + 1) (k - 1) = Y at c1 hsw hww
          generalize rot f k m (m + 1) k = X at c0 hsw hww
          have m1 : IntKind.i64.wrap ((k : Int) - 1) = (k : Int) - 1 := by rw [IntWalk.i64_in _ (by omega)]
          have m2 : ((k : Int) - 1).toNat = k - 1 := by omega
          have m3 : (0 : Int) ≤ (k : Int) - 1 := by omega
          have m3' : (1 : Int) ≤ (k : Int) := by omega
          have m4 : (k : Int) - 1 < (n : Int) := by have := HBB.out; omega
          have m5 : (k : Int) < (n : Int) := by have := HBB.out; omega
          go_upto_region 23 with fail
          go_region
          clear c0 c1 q0 q1
          have HS3 := hsw.out
          have HW3 := hww.out
          generalize ((wr.setCell ⟨ob, k, none⟩ (.int .i64 (Y : Nat))).setCell ⟨ob, k - 1, none⟩ (.int .i64 (X : Nat))).drew = w3 at HS3 HW3 ⊢
          have HS4 := Lib.hid HS3
          have HW4 := Lib.hid HW3
          clear HS3 HW3 hsw hww
          go_wp2_with fail
          have hg2 := Hgk.out
          have hcast : (k : Int) - 1 = ((k - 1 : Nat) : Int) := by omega
          go_roundg (k - 1 - i)
          case measure => omega
          case rel => exact ⟨k - 1, by omega, by omega, rfl, by rw [hcast], HS4.out, HW4.out⟩
        · obtain rfl : k = i := by omega
          have g1 : decide ((k : Int) < (k : Int)) = false := decide_eq_false (by omega)
          go_wp2_with fail
          refine bodyPost_ret (results_none rfl _ _ _) rfl ?_
          have hbb := HBB.out
          subst hbb
          refine ⟨rfl, _, HOk.out, ?_, ?_, HW.out.trans HWk.out⟩
          · exact (rot_rearr f k m (m + 1) (by omega) (by omega)).widen hi (Nat.le_refl _)
          · exact merge_last HS.out hi hj HLO.out HHI.out
end Go.Proofs.YtncndmhmmfbklaaDoor.StSort

namespace Go.Proofs.YtncndmhmmfbklaaDoor.StSort
set_option linter.unusedVariables false
set_option linter.unusedSimpArgs false
open Go.RowKit
def StA (ob n : Nat) (g : Nat → Nat) (w wx : World) : Prop := OrdF ob n g wx ∧ Only ob w wx
def StB (ob n a mid : Nat) (r g : Nat → Nat) (w wx : World) : Prop := ∃ g1, OrdF ob n g1 wx ∧ Rearr a mid g g1 ∧ Srt (TR r) a mid g1 ∧ Only ob w wx
/-- the bounds of the search -/
structure Bds (a m b mid lo hi : Nat) : Prop where
  e : (mid < m ∧ lo + b = mid + m ∧ hi = mid) ∨ (m ≤ mid ∧ lo = a ∧ hi = m)
theorem Mrg.mid {r : Nat → Nat} {a m b n : Nat} {f : Nat → Nat} (h : Mrg r a m b n f) {mid s e : Nat} (hmid : (a + b) / 2 = mid) (hs : a ≤ s) (hsm : s ≤ m) (hme : m ≤ e) (heb : e ≤ b) (hsum : s + e = mid + m)
    (hA : (a < s ∧ e < b) → TR r (f (s - 1)) (f e)) (hB : (s < m ∧ m < e) → TR r (f (e - 1)) (f s)) :
    (a < s ∧ s < mid → Mrg r a s mid n (rot f s m e)) ∧ (¬ (a < s ∧ s < mid) → Srt (TR r) a mid (rot f s m e)) ∧
    (∀ g1, Rearr a mid (rot f s m e) g1 → (mid < e ∧ e < b → Mrg r mid e b n g1) ∧ (¬ (mid < e ∧ e < b) → Srt (TR r) mid b g1)) ∧
    (∀ i j, a ≤ i → i < mid → mid ≤ j → j < b → TR r (rot f s m e i) (rot f s m e j)) := by
  obtain ⟨am, mb, bn, s1, s2, lr, val⟩ := h
  have hmb : mid ≤ b := by omega
  have ham : a ≤ mid := by omega
  obtain ⟨q1, q2, q3, q4, q5⟩ := sym_cut (T := TR r) (fun x y z h k => h.trans k) s1 s2 hs hsm hme heb hsum ham hmb hA hB
  have hval : ∀ k, k < n → rot f s m e k < n := fun k hk => by
    by_cases c : s ≤ k ∧ k < e
    · exact (rot_rearr f s m e hsm hme).all (P := fun v => v < n) (fun l p1 p2 => val l (by omega)) k c.1 c.2
    · rw [rot_out f c]; exact val k hk
  refine ⟨fun c => ⟨c.1, c.2, by omega, q1, q2, fun i j p1 p2 p3 p4 => ?_, hval⟩, fun c => ?_, fun g1 hg => ⟨fun c => ⟨c.1, c.2, bn, ?_, ?_, fun i j p1 p2 p3 p4 => ?_, fun k hk => ?_⟩, fun c => ?_⟩, q5⟩
  · rw [rot_out f (show ¬ (s ≤ i ∧ i < e) by omega), rot_low f p3 (by omega) hme hsm]
    exact lr _ _ p1 (by omega) (by omega) (by omega)
  · by_cases c1 : a < s
    · have : s = mid := by omega
      subst this; exact q1
    · have : s = a := by omega
      subst this; exact q2
  · exact q3.congr fun k p1 p2 => hg.out (by omega)
  · exact q4.congr fun k p1 p2 => hg.out (by omega)
  · rw [hg.out (k := i) (by omega), hg.out (k := j) (by omega), rot_high f (by omega) (by omega) hme hsm, rot_out f (show ¬ (s ≤ j ∧ j < e) by omega)]
    exact lr _ _ (by omega) (by omega) (by omega) p4
  · by_cases c2 : a ≤ k ∧ k < mid
    · exact hg.all (P := fun v => v < n) (fun l p1 p2 => hval l (by omega)) k c2.1 c2.2
    · rw [hg.out c2]; exact hval k hk
  · by_cases c1 : mid < e
    · have : e = b := by omega
      subst this; exact q3.congr fun k p1 p2 => hg.out (by omega)
    · have : e = mid := by omega
      subst this; exact q4.congr fun k p1 p2 => hg.out (by omega)
set_option maxHeartbeats 16000000 in
set_option maxRecDepth 100000 in
theorem sym_any (ob n rp rb : Nat) (r : Nat → Nat) (h1 : rp ≠ ob) (h2 : rb ≠ ob) (hn : n ≤ 100000) : ∀ (N a m b : Nat) (f : Nat → Nat) (w : World), b - a ≤ N → OrdF ob n f w → RestF rp rb n r w → Mrg r a m b n f →
    Calls Tryd.prog 81 #[.slice (some ⟨ob, 0, none⟩) n n, .int .i64 a, .int .i64 m, .int .i64 b, cloV rp] w fun e w' => e = .returned (.tuple #[]) ∧ ∃ g, OrdF ob n g w' ∧ Rearr a b f g ∧ Srt (TR r) a b g ∧ Only ob w w' := by
  intro N
  induction N with
  | zero => intro a m b f w hN _ _ hM; have := hM.am; have := hM.mb; omega
  | succ N ih =>
    intro a m b f w hN h hR hM
    by_cases c1 : m = a + 1
    · exact sym_one ob n a m b f rp rb r w h hR h1 h2 hM hn c1
    by_cases c2 : b = m + 1
    · exact sym_last ob n a m b f rp rb r w h hR h1 h2 hM hn c1 c2
    have IH := Lib.hid ih
    have HM := Lib.hid hM
    have H0 := Lib.hid h
    have HR := Lib.hid hR
    have am := hM.am
    have mb := hM.mb
    have bn := hM.bn
    clear ih hM h hR
    obtain ⟨mid, hmid⟩ : ∃ mid, (a + b) / 2 = mid := ⟨_, rfl⟩
    have hm1 : a < mid := by omega
    have hm2 : mid < b := by omega
    have hm3 : 2 * mid ≤ a + b ∧ a + b ≤ 2 * mid + 1 := by omega
    obtain ⟨dm, hdm⟩ : ∃ dm, m - a = dm := ⟨_, rfl⟩
    obtain ⟨db, hdb⟩ : ∃ db, b - m = db := ⟨_, rfl⟩
    obtain ⟨nn, hnn⟩ : ∃ nn, mid + m = nn := ⟨_, rfl⟩
    obtain ⟨lo, hi, hB⟩ : ∃ lo hi, Bds a m b mid lo hi := by
      by_cases c : mid < m
      · exact ⟨mid + m - b, mid, ⟨.inl ⟨c, by omega, rfl⟩⟩⟩
      · exact ⟨a, m, ⟨.inr ⟨by omega, rfl, rfl⟩⟩⟩
    have d1 : (m : Int) - (a : Int) = (dm : Int) := by omega
    have w1 : IntKind.i64.wrap ((m : Int) - (a : Int)) = (dm : Int) := by rw [IntWalk.i64_in _ (by omega), d1]
    have u1 : ((dm : Int) == 1) = false := beq_eq_false_iff_ne.2 (by omega)
    have u1' : (dm == 1) = false := beq_eq_false_iff_ne.2 (by omega)
    have d2 : (b : Int) - (m : Int) = (db : Int) := by omega
    have w2 : IntKind.i64.wrap ((b : Int) - (m : Int)) = (db : Int) := by rw [IntWalk.i64_in _ (by omega), d2]
    have u2 : ((db : Int) == 1) = false := beq_eq_false_iff_ne.2 (by omega)
    have u2' : (db == 1) = false := beq_eq_false_iff_ne.2 (by omega)
    have hce : ((a : Int) + (b : Int)) / 2 = (mid : Int) := by omega
    have d3 : (mid : Int) + (m : Int) = (nn : Int) := by omega
    have w3 : IntKind.i64.wrap ((mid : Int) + (m : Int)) = (nn : Int) := by rw [IntWalk.i64_in _ (by omega), d3]
    have HMID := Lib.hid hmid
    have HNN := Lib.hid hnn
    have HBD := Lib.hid hB
    clear hmid hdm hdb hnn hB c1 c2
    go_enter Tryd.func81, Tryd.ntmps81
    go_upto_if 140 with fail
    go_cut [20, 21] (fun u v wx => u = .int .i64 (lo : Nat) ∧ v = .int .i64 (hi : Nat) ∧ w = wx)
    case first =>
      rcases HBD.out.e with ⟨q1, q2, q3⟩ | ⟨q1, q2, q3⟩
      · have t1 : decide ((mid : Int) < (m : Int)) = true := decide_eq_true (by omega)
        have t1' : decide (mid < m) = true := decide_eq_true q1
        have e5 : (nn : Int) - (b : Int) = (lo : Int) := by have := HNN.out; omega
        have e6 : IntKind.i64.wrap ((nn : Int) - (b : Int)) = (lo : Int) := by rw [IntWalk.i64_in _ (by have := HNN.out; omega), e5]
        subst q3
        clear q2
        go_wp2_with fail
        go_meet
        exact ⟨rfl, rfl, rfl⟩
      · have t1 : decide ((mid : Int) < (m : Int)) = false := decide_eq_false (by omega)
        have t1' : decide (mid < m) = false := decide_eq_false (by omega)
        subst q2
        subst q3
        go_wp2_with fail
        go_meet
        exact ⟨rfl, rfl, rfl⟩
    case rest =>
    obtain ⟨rfl, rfl, rfl⟩ := hcut
    clear d1 w1 u1 u1' d2 w2 u2 u2' hce d3 w3
    have hlohi : a ≤ lo ∧ lo ≤ hi ∧ hi ≤ m ∧ hi ≤ mid ∧ lo ≤ nn ∧ nn ≤ b + lo ∧ m + hi ≤ nn := by
      have := HNN.out
      rcases HBD.out.e with ⟨q1, q2, q3⟩ | ⟨q1, q2, q3⟩ <;> omega
    have hnn1 : nn ≤ 200000 := by have := HNN.out; omega
    have e7 : IntKind.i64.wrap ((nn : Int) - 1) = (nn : Int) - 1 := by rw [IntWalk.i64_in _ (by omega)]
    go_wp2_with fail
    go_loopg [20, 21] (hi - lo) (fun g u v wr => ∃ s q : Nat, lo ≤ s ∧ s ≤ q ∧ q ≤ hi ∧ g = q - s ∧ u = .int .i64 (s : Nat) ∧ v = .int .i64 (q : Nat) ∧ OrdF ob n f wr ∧ (lo < s → TR r (f (s - 1)) (f (nn - s))) ∧ (q < hi → TR r (f (nn - 1 - q)) (f q)) ∧ Only ob w wr)
    case atStart => exact ⟨lo, hi, by omega, by omega, by omega, rfl, rfl, rfl, H0.out, fun q => by omega, fun q => by omega, Only.refl ob w⟩
    case round =>
      obtain ⟨s, q, hs, hsq, hq, hg, rfl, rfl, hO, hlo, hhi, hW⟩ := hrel
      have Hg := Lib.hid hg
      have HO := Lib.hid hO
      have HW := Lib.hid hW
      have HLO := Lib.hid hlo
      have HHI := Lib.hid hhi
      clear hg hO hW hlo hhi
      by_cases hlt : s < q
      · have t1 : decide ((s : Int) < (q : Int)) = true := decide_eq_true (by omega)
        have t1' : decide (s < q) = true := decide_eq_true hlt
        obtain ⟨c, hc0⟩ : ∃ c, (s + q) / 2 = c := ⟨_, rfl⟩
        have hc1 : s ≤ c := by omega
        have hc2 : c < q := by omega
        have hce : ((s : Int) + (q : Int)) / 2 = (c : Int) := by omega
        have HC0 := Lib.hid hc0
        clear hc0
        obtain ⟨d, hd⟩ : ∃ d, nn - 1 - c = d := ⟨_, rfl⟩
        have hd1 : m ≤ d := by omega
        have hd2 : d < b := by omega
        have e8 : (nn : Int) - 1 - (c : Int) = (d : Int) := by omega
        have e9 : IntKind.i64.wrap ((nn : Int) - 1 - (c : Int)) = (d : Int) := by rw [IntWalk.i64_in _ (by omega), e8]
        have cd := HO.out.cell d (by omega)
        have cc := HO.out.cell c (by omega)
        have CL := Lib.hid (clos_q (f d) (f c) n (HM.out.val d (by omega)) (HM.out.val c (by omega)) hn rp rb r wr (HR.out.only HW.out h1 h2))
        have HLT := Lib.hid (@cmpV_lt (r (f c)) (r (f d)))
        have HGE := Lib.hid (@cmpV_ge (r (f c)) (r (f d)))
        have k1 : (0 : Int) ≤ (c : Int) := by omega
        have k2 : (c : Int) < (n : Int) := by omega
        have k3 : (d : Int) < (n : Int) := by omega
        have HD := Lib.hid hd
        clear hd
        by_cases hlt2 : r (f c) < r (f d)
        · have hcc : decide (cmpV (r (f c)) (r (f d)) < 0) = true := decide_eq_true (HLT.out hlt2)
          have HNEW := Lib.hid (show c < hi → TR r (f (nn - 1 - c)) (f c) from fun _ => by rw [HD.out]; exact TR.of_lt hlt2)
          clear HLT HGE hlt2
          generalize cmpV (r (f c)) (r (f d)) = C at CL hcc
          generalize f d = X at cd CL
          generalize f c = Y at cc CL
          go_upto_region 35 with fail
          go_quiet (exact CL.out _)
          have HOn := Lib.hid (HO.out.drewN nq)
          have HWn := Lib.hid (HW.out.drewN nq)
          clear cd cc CL
          go_wp2_with fail
          have hg2 := Hg.out
          go_roundg (c - s)
          case measure => omega
          case rel => exact ⟨s, c, hs, hc1, by omega, rfl, rfl, rfl, HOn.out, HLO.out, HNEW.out, HWn.out⟩
        · have hcc : decide (cmpV (r (f c)) (r (f d)) < 0) = false := decide_eq_false (HGE.out hlt2)
          have HNEW := Lib.hid (show lo < c + 1 → TR r (f (c + 1 - 1)) (f (nn - (c + 1))) from fun _ => by
            rw [show c + 1 - 1 = c from rfl, show nn - (c + 1) = d by have := HD.out; omega]
            exact TR.of_not (HM.out.lr c d (by omega) (by omega) hd1 hd2) hlt2)
          clear HLT HGE hlt2
          generalize cmpV (r (f c)) (r (f d)) = C at CL hcc
          generalize f d = X at cd CL
          generalize f c = Y at cc CL
          go_upto_region 35 with fail
          go_quiet (exact CL.out _)
          have HOn := Lib.hid (HO.out.drewN nq)
          have HWn := Lib.hid (HW.out.drewN nq)
          have kw : IntKind.i64.wrap ((c : Int) + 1) = (c : Int) + 1 := by rw [IntWalk.i64_in _ (by omega)]
          clear cd cc CL
          go_wp2_with fail
          have hg2 := Hg.out
          go_roundg (q - (c + 1))
          case measure => omega
          case rel => exact ⟨c + 1, q, by omega, by omega, hq, rfl, by go_num, rfl, HOn.out, HNEW.out, HHI.out, HWn.out⟩
      · obtain rfl : s = q := by omega
        have t1 : decide ((s : Int) < (s : Int)) = false := decide_eq_false (by omega)
        obtain ⟨e, he⟩ : ∃ e, nn - s = e := ⟨_, rfl⟩
        have he1 : m ≤ e := by omega
        have he2 : e ≤ b := by omega
        have hsm0 : s ≤ m := by omega
        have ee : (nn : Int) - (s : Int) = (e : Int) := by omega
        have ew : IntKind.i64.wrap ((nn : Int) - (s : Int)) = (e : Int) := by rw [IntWalk.i64_in _ (by omega), ee]
        have HSTEP := Lib.hid (HM.out.mid (mid := mid) (s := s) (e := e) HMID.out (by omega) (by omega) he1 he2 (by have := HNN.out; omega)
          (fun c => by
            rw [← he]
            refine HLO.out ?_
            rcases HBD.out.e with ⟨q1, q2, q3⟩ | ⟨q1, q2, q3⟩
            · have := HNN.out; omega
            · omega)
          (fun c => by
            rw [← he, show nn - s - 1 = nn - 1 - s by omega]
            refine HHI.out ?_
            rcases HBD.out.e with ⟨q1, q2, q3⟩ | ⟨q1, q2, q3⟩
            · have := HNN.out; omega
            · omega))
        have MM := HM.out
        have hae : a < e := by omega
        clear MM
        -- TAIL
        have hs2 := HNN.out
        have hse : s + e = mid + m := by omega
        have HRT0 := Lib.hid (show Rearr a b f (rot f s m e) from (rot_rearr f s m e hsm0 he1).widen (by omega) he2)
        clear hs2
        by_cases c1 : s < m
        · by_cases c2 : m < e
          · by_cases c3 : a < s
            · by_cases c4 : e < b
              · as_aux_lemma =>
                  have t2 : decide ((s : Int) < (m : Int)) = true := decide_eq_true (by omega)
                  have t2' : decide (s < m) = true := decide_eq_true (by omega)
                  have t3 : decide ((m : Int) < (e : Int)) = true := decide_eq_true (by omega)
                  have t3' : decide (m < e) = true := decide_eq_true (by omega)
                  have t4 : decide ((a : Int) < (s : Int)) = true := decide_eq_true (by omega)
                  have t4' : decide (a < s) = true := decide_eq_true (by omega)
                  have t5 : decide ((s : Int) < (mid : Int)) = true := decide_eq_true (by omega)
                  have t5' : decide (s < mid) = true := decide_eq_true (by omega)
                  have t6 : decide ((mid : Int) < (e : Int)) = true := decide_eq_true (by omega)
                  have t6' : decide (mid < e) = true := decide_eq_true (by omega)
                  have t7 : decide ((e : Int) < (b : Int)) = true := decide_eq_true (by omega)
                  have t7' : decide (e < b) = true := decide_eq_true (by omega)
                  have HC2 : Hid (a < s ∧ s < mid) := Lib.hid (by omega)
                  have HC3 : Hid (mid < e ∧ e < b) := Lib.hid (by omega)
                  have HRT := Lib.hid (rotate_any ob n s m e f (cloV rp) wr HO.out (by omega) (by omega) (by omega) hn)
                  go_wp2_with fail
                  refine HRT.out.mono ?_
                  rintro e0 wa ⟨rfl, hO3, hW3⟩
                  have HSA := Lib.hid (show StA ob n (rot f s m e) w wa from ⟨hO3, HW.out.trans hW3⟩)
                  clear hO3 hW3 HRT
                  have HLT := Lib.hid (IH.out a s mid (rot f s m e) wa (by omega) HSA.out.1 (HR.out.only HSA.out.2 h1 h2) (HSTEP.out.1 HC2.out))
                  go_wp2_with fail
                  refine HLT.out.mono ?_
                  rintro e0 wb ⟨rfl, g1, hO3, hre, hsr, hW3⟩
                  have HSB := Lib.hid (show StB ob n a mid r (rot f s m e) w wb from ⟨g1, hO3, hre, hsr, HSA.out.2.trans hW3⟩)
                  clear hO3 hre hsr hW3 HLT
                  have HX := HSB.out
                  obtain ⟨g1', hO4, hre4, hsr4, hW4⟩ := HX
                  have HRG := Lib.hid (IH.out mid e b g1' wb (by omega) hO4 (HR.out.only hW4 h1 h2) ((HSTEP.out.2.2.1 g1' hre4).1 HC3.out))
                  have HO4 := Lib.hid hO4
                  have HRE4 := Lib.hid hre4
                  have HSR4 := Lib.hid hsr4
                  have HW4 := Lib.hid hW4
                  clear hO4 hre4 hsr4 hW4
                  go_wp2_with fail
                  refine HRG.out.mono ?_
                  rintro e0 w3 ⟨rfl, g2, hO5, hre5, hsr5, hW5⟩
                  have HO5 := Lib.hid hO5
                  have HFIN := Lib.hid (show Srt (TR r) a b g2 from (sym_join (HSTEP.out.2.2.2) HRE4.out HSR4.out hre5 hsr5))
                  have HRR := Lib.hid (show Rearr a b f g2 from HRT0.out.trans ((HRE4.out.widen (Nat.le_refl _) (by omega)).trans (hre5.widen (by omega) (Nat.le_refl _))))
                  have HW5 := Lib.hid (HW4.out.trans hW5)
                  clear hO5 hre5 hsr5 hW5
                  go_wp2_with fail
                  first | go_end0 | refine bodyPost_ret (results_none rfl _ _ _) rfl ?_
                  exact ⟨rfl, g2, HO5.out, HRR.out, HFIN.out, HW5.out⟩
              · as_aux_lemma =>
                  have t2 : decide ((s : Int) < (m : Int)) = true := decide_eq_true (by omega)
                  have t2' : decide (s < m) = true := decide_eq_true (by omega)
                  have t3 : decide ((m : Int) < (e : Int)) = true := decide_eq_true (by omega)
                  have t3' : decide (m < e) = true := decide_eq_true (by omega)
                  have t4 : decide ((a : Int) < (s : Int)) = true := decide_eq_true (by omega)
                  have t4' : decide (a < s) = true := decide_eq_true (by omega)
                  have t5 : decide ((s : Int) < (mid : Int)) = true := decide_eq_true (by omega)
                  have t5' : decide (s < mid) = true := decide_eq_true (by omega)
                  have t6 : decide ((mid : Int) < (e : Int)) = true := decide_eq_true (by omega)
                  have t6' : decide (mid < e) = true := decide_eq_true (by omega)
                  have t7 : decide ((e : Int) < (b : Int)) = false := decide_eq_false (by omega)
                  have t7' : decide (e < b) = false := decide_eq_false (by omega)
                  have HC2 : Hid (a < s ∧ s < mid) := Lib.hid (by omega)
                  have HC3 : Hid (¬ (mid < e ∧ e < b)) := Lib.hid (by omega)
                  have HRT := Lib.hid (rotate_any ob n s m e f (cloV rp) wr HO.out (by omega) (by omega) (by omega) hn)
                  go_wp2_with fail
                  refine HRT.out.mono ?_
                  rintro e0 wa ⟨rfl, hO3, hW3⟩
                  have HSA := Lib.hid (show StA ob n (rot f s m e) w wa from ⟨hO3, HW.out.trans hW3⟩)
                  clear hO3 hW3 HRT
                  have HLT := Lib.hid (IH.out a s mid (rot f s m e) wa (by omega) HSA.out.1 (HR.out.only HSA.out.2 h1 h2) (HSTEP.out.1 HC2.out))
                  go_wp2_with fail
                  refine HLT.out.mono ?_
                  rintro e0 wb ⟨rfl, g1, hO3, hre, hsr, hW3⟩
                  have HSB := Lib.hid (show StB ob n a mid r (rot f s m e) w wb from ⟨g1, hO3, hre, hsr, HSA.out.2.trans hW3⟩)
                  clear hO3 hre hsr hW3 HLT
                  have HX := HSB.out
                  obtain ⟨g1', hO4, hre4, hsr4, hW4⟩ := HX
                  have HFIN := Lib.hid (show Srt (TR r) a b g1' from (sym_join (HSTEP.out.2.2.2) hre4 hsr4 (Rearr.refl _ _ _) ((HSTEP.out.2.2.1 g1' hre4).2 HC3.out)))
                  have HRR := Lib.hid (show Rearr a b f g1' from HRT0.out.trans (hre4.widen (Nat.le_refl _) (by omega)))
                  have HO4 := Lib.hid hO4
                  have HW4 := Lib.hid hW4
                  clear hO4 hre4 hsr4 hW4
                  go_wp2_with fail
                  first | go_end0 | refine bodyPost_ret (results_none rfl _ _ _) rfl ?_
                  exact ⟨rfl, g1', HO4.out, HRR.out, HFIN.out, HW4.out⟩
            · by_cases c4 : e < b
              · as_aux_lemma =>
                  have t2 : decide ((s : Int) < (m : Int)) = true := decide_eq_true (by omega)
                  have t2' : decide (s < m) = true := decide_eq_true (by omega)
                  have t3 : decide ((m : Int) < (e : Int)) = true := decide_eq_true (by omega)
                  have t3' : decide (m < e) = true := decide_eq_true (by omega)
                  have t4 : decide ((a : Int) < (s : Int)) = false := decide_eq_false (by omega)
                  have t4' : decide (a < s) = false := decide_eq_false (by omega)
                  have t5 : decide ((s : Int) < (mid : Int)) = true := decide_eq_true (by omega)
                  have t5' : decide (s < mid) = true := decide_eq_true (by omega)
                  have t6 : decide ((mid : Int) < (e : Int)) = true := decide_eq_true (by omega)
                  have t6' : decide (mid < e) = true := decide_eq_true (by omega)
                  have t7 : decide ((e : Int) < (b : Int)) = true := decide_eq_true (by omega)
                  have t7' : decide (e < b) = true := decide_eq_true (by omega)
                  have HC2 : Hid (¬ (a < s ∧ s < mid)) := Lib.hid (by omega)
                  have HC3 : Hid (mid < e ∧ e < b) := Lib.hid (by omega)
                  have HRT := Lib.hid (rotate_any ob n s m e f (cloV rp) wr HO.out (by omega) (by omega) (by omega) hn)
                  go_wp2_with fail
                  refine HRT.out.mono ?_
                  rintro e0 wa ⟨rfl, hO3, hW3⟩
                  have HSA := Lib.hid (show StA ob n (rot f s m e) w wa from ⟨hO3, HW.out.trans hW3⟩)
                  clear hO3 hW3 HRT
                  have HSB := Lib.hid (show StB ob n a mid r (rot f s m e) w wa from ⟨_, HSA.out.1, Rearr.refl _ _ _, HSTEP.out.2.1 HC2.out, HSA.out.2⟩)
                  have HX := HSB.out
                  obtain ⟨g1', hO4, hre4, hsr4, hW4⟩ := HX
                  have HRG := Lib.hid (IH.out mid e b g1' wa (by omega) hO4 (HR.out.only hW4 h1 h2) ((HSTEP.out.2.2.1 g1' hre4).1 HC3.out))
                  have HO4 := Lib.hid hO4
                  have HRE4 := Lib.hid hre4
                  have HSR4 := Lib.hid hsr4
                  have HW4 := Lib.hid hW4
                  clear hO4 hre4 hsr4 hW4
                  go_wp2_with fail
                  refine HRG.out.mono ?_
                  rintro e0 w3 ⟨rfl, g2, hO5, hre5, hsr5, hW5⟩
                  have HO5 := Lib.hid hO5
                  have HFIN := Lib.hid (show Srt (TR r) a b g2 from (sym_join (HSTEP.out.2.2.2) HRE4.out HSR4.out hre5 hsr5))
                  have HRR := Lib.hid (show Rearr a b f g2 from HRT0.out.trans ((HRE4.out.widen (Nat.le_refl _) (by omega)).trans (hre5.widen (by omega) (Nat.le_refl _))))
                  have HW5 := Lib.hid (HW4.out.trans hW5)
                  clear hO5 hre5 hsr5 hW5
                  go_wp2_with fail
                  first | go_end0 | refine bodyPost_ret (results_none rfl _ _ _) rfl ?_
                  exact ⟨rfl, g2, HO5.out, HRR.out, HFIN.out, HW5.out⟩
              · as_aux_lemma =>
                  have t2 : decide ((s : Int) < (m : Int)) = true := decide_eq_true (by omega)
                  have t2' : decide (s < m) = true := decide_eq_true (by omega)
                  have t3 : decide ((m : Int) < (e : Int)) = true := decide_eq_true (by omega)
                  have t3' : decide (m < e) = true := decide_eq_true (by omega)
                  have t4 : decide ((a : Int) < (s : Int)) = false := decide_eq_false (by omega)
                  have t4' : decide (a < s) = false := decide_eq_false (by omega)
                  have t5 : decide ((s : Int) < (mid : Int)) = true := decide_eq_true (by omega)
                  have t5' : decide (s < mid) = true := decide_eq_true (by omega)
                  have t6 : decide ((mid : Int) < (e : Int)) = true := decide_eq_true (by omega)
                  have t6' : decide (mid < e) = true := decide_eq_true (by omega)
                  have t7 : decide ((e : Int) < (b : Int)) = false := decide_eq_false (by omega)
                  have t7' : decide (e < b) = false := decide_eq_false (by omega)
                  have HC2 : Hid (¬ (a < s ∧ s < mid)) := Lib.hid (by omega)
                  have HC3 : Hid (¬ (mid < e ∧ e < b)) := Lib.hid (by omega)
                  have HRT := Lib.hid (rotate_any ob n s m e f (cloV rp) wr HO.out (by omega) (by omega) (by omega) hn)
                  go_wp2_with fail
                  refine HRT.out.mono ?_
                  rintro e0 wa ⟨rfl, hO3, hW3⟩
                  have HSA := Lib.hid (show StA ob n (rot f s m e) w wa from ⟨hO3, HW.out.trans hW3⟩)
                  clear hO3 hW3 HRT
                  have HSB := Lib.hid (show StB ob n a mid r (rot f s m e) w wa from ⟨_, HSA.out.1, Rearr.refl _ _ _, HSTEP.out.2.1 HC2.out, HSA.out.2⟩)
                  have HX := HSB.out
                  obtain ⟨g1', hO4, hre4, hsr4, hW4⟩ := HX
                  have HFIN := Lib.hid (show Srt (TR r) a b g1' from (sym_join (HSTEP.out.2.2.2) hre4 hsr4 (Rearr.refl _ _ _) ((HSTEP.out.2.2.1 g1' hre4).2 HC3.out)))
                  have HRR := Lib.hid (show Rearr a b f g1' from HRT0.out.trans (hre4.widen (Nat.le_refl _) (by omega)))
                  have HO4 := Lib.hid hO4
                  have HW4 := Lib.hid hW4
                  clear hO4 hre4 hsr4 hW4
                  go_wp2_with fail
                  first | go_end0 | refine bodyPost_ret (results_none rfl _ _ _) rfl ?_
                  exact ⟨rfl, g1', HO4.out, HRR.out, HFIN.out, HW4.out⟩
          · as_aux_lemma =>
              have t2 : decide ((s : Int) < (m : Int)) = true := decide_eq_true (by omega)
              have t2' : decide (s < m) = true := decide_eq_true (by omega)
              have t3 : decide ((m : Int) < (e : Int)) = false := decide_eq_false (by omega)
              have t3' : decide (m < e) = false := decide_eq_false (by omega)
              have t4 : decide ((a : Int) < (s : Int)) = true := decide_eq_true (by omega)
              have t4' : decide (a < s) = true := decide_eq_true (by omega)
              have t5 : decide ((s : Int) < (mid : Int)) = false := decide_eq_false (by omega)
              have t5' : decide (s < mid) = false := decide_eq_false (by omega)
              have t6 : decide ((mid : Int) < (e : Int)) = true := decide_eq_true (by omega)
              have t6' : decide (mid < e) = true := decide_eq_true (by omega)
              have t7 : decide ((e : Int) < (b : Int)) = true := decide_eq_true (by omega)
              have t7' : decide (e < b) = true := decide_eq_true (by omega)
              have HC2 : Hid (¬ (a < s ∧ s < mid)) := Lib.hid (by omega)
              have HC3 : Hid (mid < e ∧ e < b) := Lib.hid (by omega)
              have HOX : OrdF ob n (rot f s m e) wr := by
                obtain rfl : e = m := by omega
                rw [rot_none' f s e hsm0]; exact HO.out
              have HSA := Lib.hid (show StA ob n (rot f s m e) w wr from ⟨HOX, HW.out⟩)
              clear HOX
              have HSB := Lib.hid (show StB ob n a mid r (rot f s m e) w wr from ⟨_, HSA.out.1, Rearr.refl _ _ _, HSTEP.out.2.1 HC2.out, HSA.out.2⟩)
              have HX := HSB.out
              obtain ⟨g1', hO4, hre4, hsr4, hW4⟩ := HX
              have HRG := Lib.hid (IH.out mid e b g1' wr (by omega) hO4 (HR.out.only hW4 h1 h2) ((HSTEP.out.2.2.1 g1' hre4).1 HC3.out))
              have HO4 := Lib.hid hO4
              have HRE4 := Lib.hid hre4
              have HSR4 := Lib.hid hsr4
              have HW4 := Lib.hid hW4
              clear hO4 hre4 hsr4 hW4
              go_wp2_with fail
              refine HRG.out.mono ?_
              rintro e0 w3 ⟨rfl, g2, hO5, hre5, hsr5, hW5⟩
              have HO5 := Lib.hid hO5
              have HFIN := Lib.hid (show Srt (TR r) a b g2 from (sym_join (HSTEP.out.2.2.2) HRE4.out HSR4.out hre5 hsr5))
              have HRR := Lib.hid (show Rearr a b f g2 from HRT0.out.trans ((HRE4.out.widen (Nat.le_refl _) (by omega)).trans (hre5.widen (by omega) (Nat.le_refl _))))
              have HW5 := Lib.hid (HW4.out.trans hW5)
              clear hO5 hre5 hsr5 hW5
              go_wp2_with fail
              first | go_end0 | refine bodyPost_ret (results_none rfl _ _ _) rfl ?_
              exact ⟨rfl, g2, HO5.out, HRR.out, HFIN.out, HW5.out⟩
        · by_cases c2 : s < mid
          · as_aux_lemma =>
              have t2 : decide ((s : Int) < (m : Int)) = false := decide_eq_false (by omega)
              have t2' : decide (s < m) = false := decide_eq_false (by omega)
              have t4 : decide ((a : Int) < (s : Int)) = true := decide_eq_true (by omega)
              have t4' : decide (a < s) = true := decide_eq_true (by omega)
              have t5 : decide ((s : Int) < (mid : Int)) = true := decide_eq_true (by omega)
              have t5' : decide (s < mid) = true := decide_eq_true (by omega)
              have t6 : decide ((mid : Int) < (e : Int)) = false := decide_eq_false (by omega)
              have t6' : decide (mid < e) = false := decide_eq_false (by omega)
              have HC2 : Hid (a < s ∧ s < mid) := Lib.hid (by omega)
              have HC3 : Hid (¬ (mid < e ∧ e < b)) := Lib.hid (by omega)
              have HOX : OrdF ob n (rot f s m e) wr := by
                obtain rfl : s = m := by omega
                rw [rot_none f s e]; exact HO.out
              have HSA := Lib.hid (show StA ob n (rot f s m e) w wr from ⟨HOX, HW.out⟩)
              clear HOX
              have HLT := Lib.hid (IH.out a s mid (rot f s m e) wr (by omega) HSA.out.1 (HR.out.only HSA.out.2 h1 h2) (HSTEP.out.1 HC2.out))
              go_wp2_with fail
              refine HLT.out.mono ?_
              rintro e0 wb ⟨rfl, g1, hO3, hre, hsr, hW3⟩
              have HSB := Lib.hid (show StB ob n a mid r (rot f s m e) w wb from ⟨g1, hO3, hre, hsr, HSA.out.2.trans hW3⟩)
              clear hO3 hre hsr hW3 HLT
              have HX := HSB.out
              obtain ⟨g1', hO4, hre4, hsr4, hW4⟩ := HX
              have HFIN := Lib.hid (show Srt (TR r) a b g1' from (sym_join (HSTEP.out.2.2.2) hre4 hsr4 (Rearr.refl _ _ _) ((HSTEP.out.2.2.1 g1' hre4).2 HC3.out)))
              have HRR := Lib.hid (show Rearr a b f g1' from HRT0.out.trans (hre4.widen (Nat.le_refl _) (by omega)))
              have HO4 := Lib.hid hO4
              have HW4 := Lib.hid hW4
              clear hO4 hre4 hsr4 hW4
              go_wp2_with fail
              first | go_end0 | refine bodyPost_ret (results_none rfl _ _ _) rfl ?_
              exact ⟨rfl, g1', HO4.out, HRR.out, HFIN.out, HW4.out⟩
          · as_aux_lemma =>
              have t2 : decide ((s : Int) < (m : Int)) = false := decide_eq_false (by omega)
              have t2' : decide (s < m) = false := decide_eq_false (by omega)
              have t4 : decide ((a : Int) < (s : Int)) = true := decide_eq_true (by omega)
              have t4' : decide (a < s) = true := decide_eq_true (by omega)
              have t5 : decide ((s : Int) < (mid : Int)) = false := decide_eq_false (by omega)
              have t5' : decide (s < mid) = false := decide_eq_false (by omega)
              have t6 : decide ((mid : Int) < (e : Int)) = false := decide_eq_false (by omega)
              have t6' : decide (mid < e) = false := decide_eq_false (by omega)
              have HC2 : Hid (¬ (a < s ∧ s < mid)) := Lib.hid (by omega)
              have HC3 : Hid (¬ (mid < e ∧ e < b)) := Lib.hid (by omega)
              have HOX : OrdF ob n (rot f s m e) wr := by
                obtain rfl : s = m := by omega
                rw [rot_none f s e]; exact HO.out
              have HSA := Lib.hid (show StA ob n (rot f s m e) w wr from ⟨HOX, HW.out⟩)
              clear HOX
              have HSB := Lib.hid (show StB ob n a mid r (rot f s m e) w wr from ⟨_, HSA.out.1, Rearr.refl _ _ _, HSTEP.out.2.1 HC2.out, HSA.out.2⟩)
              have HX := HSB.out
              obtain ⟨g1', hO4, hre4, hsr4, hW4⟩ := HX
              have HFIN := Lib.hid (show Srt (TR r) a b g1' from (sym_join (HSTEP.out.2.2.2) hre4 hsr4 (Rearr.refl _ _ _) ((HSTEP.out.2.2.1 g1' hre4).2 HC3.out)))
              have HRR := Lib.hid (show Rearr a b f g1' from HRT0.out.trans (hre4.widen (Nat.le_refl _) (by omega)))
              have HO4 := Lib.hid hO4
              have HW4 := Lib.hid hW4
              clear hO4 hre4 hsr4 hW4
              go_wp2_with fail
              first | go_end0 | refine bodyPost_ret (results_none rfl _ _ _) rfl ?_
              exact ⟨rfl, g1', HO4.out, HRR.out, HFIN.out, HW4.out⟩
end Go.Proofs.YtncndmhmmfbklaaDoor.StSort
