/- Contracts of the document's wide numbers: Minus, Below, amount. -/
import Derived.Test.YtncndmhmmfbklaaDoorMonA
import Derived.Test.YtncndmhmmfbklaaDoorMonMul
import Derived.IntWalk
import Derived.Test.YtncndmhmmfbklaaDoorShelf
namespace Go.Proofs.YtncndmhmmfbklaaDoor
set_option linter.unusedVariables false
set_option linter.unusedSimpArgs false
open Go.RowKit
open MonMath (dig car bor)

/-- an amount out of its size and sign -/
def sg (v : Nat) (m : Bool) : Int := if m then -(v : Int) else v
end Go.Proofs.YtncndmhmmfbklaaDoor

namespace Go.Proofs.YtncndmhmmfbklaaDoor
set_option linter.unusedVariables false
set_option linter.unusedSimpArgs false
open Go.RowKit
open MonMath (dig car bor)

/-- the one int64 that is no amount -/
def none64 : Int := -9223372036854775808
theorem none64_eq : none64 = -9223372036854775808 := rfl
/-- what is above 0 of the first k, what is below it, their sum -/
def pS (f : Nat → Int) : Nat → Nat
  | 0 => 0
  | k + 1 => pS f k + (if 0 ≤ f k then (f k).natAbs else 0)
def nS (f : Nat → Int) : Nat → Nat
  | 0 => 0
  | k + 1 => nS f k + (if 0 ≤ f k then 0 else (f k).natAbs)
def tS (f : Nat → Int) : Nat → Int
  | 0 => 0
  | k + 1 => tS f k + f k
theorem tS_eq (f : Nat → Int) (k : Nat) : tS f k = (pS f k : Int) - (nS f k : Int) := by
  induction k with
  | zero => rfl
  | succ k ih => simp only [tS, pS, nS]; rw [ih]; split <;> omega
theorem pS_le (f : Nat → Int) (n M : Nat) (hf : ∀ i, i < n → (f i).natAbs ≤ M) (k : Nat) (hk : k ≤ n) : pS f k ≤ k * M ∧ nS f k ≤ k * M := by
  induction k with
  | zero => exact ⟨Nat.zero_le _, Nat.zero_le _⟩
  | succ k ih =>
    have h := ih (by omega)
    have h2 := hf k (by omega)
    simp only [pS, nS]
    rw [Nat.succ_mul]
    split <;> omega
theorem pS_lt (f : Nat → Int) (n : Nat) (hn : n ≤ 17592186044416) (hf : ∀ i, i < n → -9223372036854775808 ≤ f i ∧ f i ≤ 9223372036854775807) : pS f n < 4294967296 ^ 6 ∧ nS f n < 4294967296 ^ 6 := by
  have h := pS_le f n 9223372036854775808 (fun i hi => by have := hf i hi; omega) n (Nat.le_refl _)
  have h2 : n * 9223372036854775808 ≤ 17592186044416 * 9223372036854775808 := Nat.mul_le_mul_right _ hn
  have h3 : (17592186044416 * 9223372036854775808 : Nat) < 4294967296 ^ 6 := by decide
  omega
/-- what a sum of a list is, and its error -/
def allAm (f : Nat → Int) (n : Nat) : Prop := ∀ i, i < n → f i ≠ -9223372036854775808
def fitsI (x : Int) : Prop := -9223372036854775807 ≤ x ∧ x ≤ 9223372036854775807
open Classical in
noncomputable def sumV (f : Nat → Int) (n : Nat) : Int := if allAm f n ∧ fitsI (tS f n) then tS f n else 0
open Classical in
noncomputable def sumE (f : Nat → Int) (n : Nat) : Int := if allAm f n then (if fitsI (tS f n) then 0 else 11) else 10
theorem sum_bad {f : Nat → Int} {n : Nat} (h : ¬ allAm f n) : sumV f n = 0 ∧ sumE f n = 10 := by
  unfold sumV sumE; rw [if_neg (fun q => h q.1), if_neg h]; exact ⟨rfl, rfl⟩
theorem sum_over {f : Nat → Int} {n : Nat} (h : allAm f n) (h2 : ¬ fitsI (tS f n)) : sumV f n = 0 ∧ sumE f n = 11 := by
  unfold sumV sumE; rw [if_neg (fun q => h2 q.2), if_pos h, if_neg h2]; exact ⟨rfl, rfl⟩
theorem sum_ok {f : Nat → Int} {n : Nat} (h : allAm f n) (h2 : fitsI (tS f n)) : sumV f n = tS f n ∧ sumE f n = 0 := by
  unfold sumV sumE; rw [if_pos ⟨h, h2⟩, if_pos h, if_pos h2]; exact ⟨rfl, rfl⟩

/-- what the document's Sum knows of the world: the two wide numbers -/
structure SumRel (w wr : World) (U D : Nat) : Prop where
  bel : Below w.heap.size w wr
  size : w.heap.size + 1 < wr.heap.size
  u : WAt wr w.heap.size U
  d : WAt wr (w.heap.size + 1) D
  fu : ∀ o, wr.frozen? ⟨w.heap.size, o, none⟩ = false
  fd : ∀ o, wr.frozen? ⟨w.heap.size + 1, o, none⟩ = false
theorem SumRel.start (w : World) : SumRel w ((w.alloc (.cells #[.int .u64 0, .int .u64 0, .int .u64 0, .int .u64 0, .int .u64 0, .int .u64 0] 79)).alloc (.cells #[.int .u64 0, .int .u64 0, .int .u64 0, .int .u64 0, .int .u64 0, .int .u64 0] 79)) 0 0 where
  bel := fm_alloc (fm_alloc (Below.refl _ _) _) _
  size := by simp
  u := by
    intro j hj
    rw [MonMath.dig_zero]
    have : j = 0 ∨ j = 1 ∨ j = 2 ∨ j = 3 ∨ j = 4 ∨ j = 5 := by omega
    rcases this with rfl | rfl | rfl | rfl | rfl | rfl <;> simp [go_sem]
  d := by
    intro j hj
    rw [MonMath.dig_zero]
    have : j = 0 ∨ j = 1 ∨ j = 2 ∨ j = 3 ∨ j = 4 ∨ j = 5 := by omega
    rcases this with rfl | rfl | rfl | rfl | rfl | rfl <;> simp [go_sem]
  fu := fun o => by simp [go_sem]
  fd := fun o => by simp [go_sem]

theorem put6 {w2 : World} {B : Nat} {g : Nat → Int} (hc : ∀ j, j < 6 → ∃ v, w2.cell? ⟨B, j, none⟩ = some v) :
    (∀ j, j < 6 → ((((((w2.setCell ⟨B, 0, none⟩ (.int .u64 (g 0))).setCell ⟨B, 1, none⟩ (.int .u64 (g 1))).setCell ⟨B, 2, none⟩ (.int .u64 (g 2))).setCell ⟨B, 3, none⟩ (.int .u64 (g 3))).setCell ⟨B, 4, none⟩ (.int .u64 (g 4))).setCell ⟨B, 5, none⟩ (.int .u64 (g 5))).cell? ⟨B, j, none⟩ = some (.int .u64 (g j))) := by
  obtain ⟨v0, h0⟩ := hc 0 (by omega)
  obtain ⟨v1, h1⟩ := hc 1 (by omega)
  obtain ⟨v2, h2⟩ := hc 2 (by omega)
  obtain ⟨v3, h3⟩ := hc 3 (by omega)
  obtain ⟨v4, h4⟩ := hc 4 (by omega)
  obtain ⟨v5, h5⟩ := hc 5 (by omega)
  intro j hj
  have : j = 0 ∨ j = 1 ∨ j = 2 ∨ j = 3 ∨ j = 4 ∨ j = 5 := by omega
  rcases this with rfl | rfl | rfl | rfl | rfl | rfl <;> simp [go_sem, h0, h1, h2, h3, h4, h5]
theorem far6 {w2 : World} {B C o : Nat} {g : Nat → Int} (hne : C ≠ B) :
    ((((((w2.setCell ⟨B, 0, none⟩ (.int .u64 (g 0))).setCell ⟨B, 1, none⟩ (.int .u64 (g 1))).setCell ⟨B, 2, none⟩ (.int .u64 (g 2))).setCell ⟨B, 3, none⟩ (.int .u64 (g 3))).setCell ⟨B, 4, none⟩ (.int .u64 (g 4))).setCell ⟨B, 5, none⟩ (.int .u64 (g 5))).cell? ⟨C, o, none⟩ = w2.cell? ⟨C, o, none⟩ := by
  have hne' : B ≠ C := fun e => hne e.symm
  simp [go_sem, hne, hne']
theorem frz6 {w2 : World} {B C o : Nat} {g : Nat → Int} :
    ((((((w2.setCell ⟨B, 0, none⟩ (.int .u64 (g 0))).setCell ⟨B, 1, none⟩ (.int .u64 (g 1))).setCell ⟨B, 2, none⟩ (.int .u64 (g 2))).setCell ⟨B, 3, none⟩ (.int .u64 (g 3))).setCell ⟨B, 4, none⟩ (.int .u64 (g 4))).setCell ⟨B, 5, none⟩ (.int .u64 (g 5))).frozen? ⟨C, o, none⟩ = w2.frozen? ⟨C, o, none⟩ := by
  simp [go_sem]
theorem bel6 {w w2 : World} {B : Nat} {g : Nat → Int} (h : Below w.heap.size w w2) (hB : w.heap.size ≤ B) :
    Below w.heap.size w ((((((w2.setCell ⟨B, 0, none⟩ (.int .u64 (g 0))).setCell ⟨B, 1, none⟩ (.int .u64 (g 1))).setCell ⟨B, 2, none⟩ (.int .u64 (g 2))).setCell ⟨B, 3, none⟩ (.int .u64 (g 3))).setCell ⟨B, 4, none⟩ (.int .u64 (g 4))).setCell ⟨B, 5, none⟩ (.int .u64 (g 5))) :=
  (((((h.setCell hB _).setCell hB _).setCell hB _).setCell hB _).setCell hB _).setCell hB _
theorem siz6 {w2 : World} {B : Nat} {g : Nat → Int} :
    ((((((w2.setCell ⟨B, 0, none⟩ (.int .u64 (g 0))).setCell ⟨B, 1, none⟩ (.int .u64 (g 1))).setCell ⟨B, 2, none⟩ (.int .u64 (g 2))).setCell ⟨B, 3, none⟩ (.int .u64 (g 3))).setCell ⟨B, 4, none⟩ (.int .u64 (g 4))).setCell ⟨B, 5, none⟩ (.int .u64 (g 5))).heap.size = w2.heap.size := by
  simp [World.setCell]

theorem SumRel.later {w wr w2 : World} {U D : Nat} (h : SumRel w wr U D) (hq : Below wr.heap.size wr w2) : SumRel w w2 U D where
  bel := fm_call h.bel hq
  size := by have := h.size; have := hq.size; omega
  u := h.u.below hq (by have := h.size; omega)
  d := h.d.below hq (by have := h.size; omega)
  fu := fun o => by rw [hq.frozen (p := ⟨w.heap.size, o, none⟩) (show w.heap.size < wr.heap.size by have := h.size; omega)]; exact h.fu o
  fd := fun o => by rw [hq.frozen (p := ⟨w.heap.size + 1, o, none⟩) (show w.heap.size + 1 < wr.heap.size by have := h.size; omega)]; exact h.fd o
theorem SumRel.putU {w w2 : World} {U D : Nat} (h : SumRel w w2 U D) (U' : Nat) :
    SumRel w ((((((w2.setCell ⟨w.heap.size, 0, none⟩ (.int .u64 (dig U' 0))).setCell ⟨w.heap.size, 1, none⟩ (.int .u64 (dig U' 1))).setCell ⟨w.heap.size, 2, none⟩ (.int .u64 (dig U' 2))).setCell ⟨w.heap.size, 3, none⟩ (.int .u64 (dig U' 3))).setCell ⟨w.heap.size, 4, none⟩ (.int .u64 (dig U' 4))).setCell ⟨w.heap.size, 5, none⟩ (.int .u64 (dig U' 5))) U' D where
  bel := bel6 (g := fun j => (dig U' j : Int)) h.bel (Nat.le_refl _)
  size := by rw [siz6 (g := fun j => (dig U' j : Int))]; exact h.size
  u := put6 (g := fun j => (dig U' j : Int)) (fun j hj => ⟨_, h.u j hj⟩)
  d := fun j hj => by rw [far6 (g := fun j => (dig U' j : Int)) (by omega)]; exact h.d j hj
  fu := fun o => by rw [frz6 (g := fun j => (dig U' j : Int))]; exact h.fu o
  fd := fun o => by rw [frz6 (g := fun j => (dig U' j : Int))]; exact h.fd o
theorem SumRel.putD {w w2 : World} {U D : Nat} (h : SumRel w w2 U D) (D' : Nat) :
    SumRel w ((((((w2.setCell ⟨w.heap.size + 1, 0, none⟩ (.int .u64 (dig D' 0))).setCell ⟨w.heap.size + 1, 1, none⟩ (.int .u64 (dig D' 1))).setCell ⟨w.heap.size + 1, 2, none⟩ (.int .u64 (dig D' 2))).setCell ⟨w.heap.size + 1, 3, none⟩ (.int .u64 (dig D' 3))).setCell ⟨w.heap.size + 1, 4, none⟩ (.int .u64 (dig D' 4))).setCell ⟨w.heap.size + 1, 5, none⟩ (.int .u64 (dig D' 5))) U D' where
  bel := bel6 (g := fun j => (dig D' j : Int)) h.bel (by omega)
  size := by rw [siz6 (g := fun j => (dig D' j : Int))]; exact h.size
  u := fun j hj => by rw [far6 (g := fun j => (dig D' j : Int)) (by omega)]; exact h.u j hj
  d := put6 (g := fun j => (dig D' j : Int)) (fun j hj => ⟨_, h.d j hj⟩)
  fu := fun o => by rw [frz6 (g := fun j => (dig D' j : Int))]; exact h.fu o
  fd := fun o => by rw [frz6 (g := fun j => (dig D' j : Int))]; exact h.fd o

end Go.Proofs.YtncndmhmmfbklaaDoor

namespace Go.Proofs.YtncndmhmmfbklaaDoor
set_option linter.unusedVariables false
set_option linter.unusedSimpArgs false
open Go.RowKit
open MonMath (dig car bor)

set_option maxRecDepth 100000 in
theorem both_ok (a b : Int) (w : World) (ha : a ≠ -9223372036854775808) (hb : b ≠ -9223372036854775808) :
    Calls Tryd.prog 36 #[.int .i64 a, .int .i64 b] w fun e w' => e = .returned (.int .i64 0) ∧ w = w' := by
  have h1 : (a == -9223372036854775808) = false := beq_eq_false_iff_ne.mpr ha
  have h2 : (b == -9223372036854775808) = false := beq_eq_false_iff_ne.mpr hb
  clear ha hb
  go_enter Tryd.func36, Tryd.ntmps36
  go_wp2
  go_ret
  exact ⟨rfl, rfl⟩
set_option maxRecDepth 100000 in
theorem both_a (a b : Int) (w : World) (ha : a = -9223372036854775808) :
    Calls Tryd.prog 36 #[.int .i64 a, .int .i64 b] w fun e w' => e = .returned (.int .i64 10) ∧ w = w' := by
  have h1 : (a == -9223372036854775808) = true := beq_iff_eq.mpr ha
  clear ha
  go_enter Tryd.func36, Tryd.ntmps36
  go_wp2
  go_ret
  exact ⟨rfl, rfl⟩
set_option maxRecDepth 100000 in
theorem both_b (a b : Int) (w : World) (ha : a ≠ -9223372036854775808) (hb : b = -9223372036854775808) :
    Calls Tryd.prog 36 #[.int .i64 a, .int .i64 b] w fun e w' => e = .returned (.int .i64 10) ∧ w = w' := by
  have h1 : (a == -9223372036854775808) = false := beq_eq_false_iff_ne.mpr ha
  have h2 : (b == -9223372036854775808) = true := beq_iff_eq.mpr hb
  clear ha hb
  go_enter Tryd.func36, Tryd.ntmps36
  go_wp2
  go_ret
  exact ⟨rfl, rfl⟩
theorem both_bad (a b : Int) (w : World) (h : a = -9223372036854775808 ∨ b = -9223372036854775808) :
    Calls Tryd.prog 36 #[.int .i64 a, .int .i64 b] w fun e w' => e = .returned (.int .i64 10) ∧ w = w' := by
  by_cases ha : a = -9223372036854775808
  · exact both_a a b w ha
  · exact both_b a b w ha (by rcases h with q | q; exact absurd q ha; exact q)

/-- two numbers as a list -/
def pair (a b : Int) (i : Nat) : Int := if i = 0 then a else b
theorem pair_t (a b : Int) : tS (pair a b) 2 = a + b := by simp [tS, pair]
theorem pair_am (a b : Int) : allAm (pair a b) 2 ↔ a ≠ -9223372036854775808 ∧ b ≠ -9223372036854775808 := by
  constructor
  · intro h; exact ⟨h 0 (by omega), h 1 (by omega)⟩
  · rintro ⟨h1, h2⟩ i hi
    have : i = 0 ∨ i = 1 := by omega
    rcases this with rfl | rfl
    · exact h1
    · exact h2
def addV (a b : Int) : Int := if (a ≠ -9223372036854775808 ∧ b ≠ -9223372036854775808) ∧ (-9223372036854775807 ≤ a + b ∧ a + b ≤ 9223372036854775807) then a + b else 0
def addE (a b : Int) : Int := if a ≠ -9223372036854775808 ∧ b ≠ -9223372036854775808 then (if -9223372036854775807 ≤ a + b ∧ a + b ≤ 9223372036854775807 then 0 else 11) else 10
theorem add_sum (a b : Int) : sumV (pair a b) 2 = addV a b ∧ sumE (pair a b) 2 = addE a b := by
  by_cases h1 : allAm (pair a b) 2
  · have h1' := (pair_am a b).1 h1
    by_cases h2 : fitsI (tS (pair a b) 2)
    · have h2' : -9223372036854775807 ≤ a + b ∧ a + b ≤ 9223372036854775807 := by rw [pair_t] at h2; exact h2
      obtain ⟨e1, e2⟩ := sum_ok h1 h2
      rw [e1, e2, pair_t]
      unfold addV addE
      rw [if_pos ⟨h1', h2'⟩, if_pos h1', if_pos h2']
      exact ⟨rfl, rfl⟩
    · have h2' : ¬ (-9223372036854775807 ≤ a + b ∧ a + b ≤ 9223372036854775807) := by rw [pair_t] at h2; exact h2
      obtain ⟨e1, e2⟩ := sum_over h1 h2
      rw [e1, e2]
      unfold addV addE
      rw [if_neg (fun q => h2' q.2), if_pos h1', if_neg h2']
      exact ⟨rfl, rfl⟩
  · have h1' : ¬ (a ≠ -9223372036854775808 ∧ b ≠ -9223372036854775808) := fun q => h1 ((pair_am a b).2 q)
    obtain ⟨e1, e2⟩ := sum_bad h1
    rw [e1, e2]
    unfold addV addE
    rw [if_neg (fun q => h1' q.1), if_neg h1']
    exact ⟨rfl, rfl⟩

set_option maxRecDepth 100000 in
set_option maxHeartbeats 1000000 in
theorem add_bad (a b : Int) (w : World) (h : a = -9223372036854775808 ∨ b = -9223372036854775808) :
    Calls Tryd.prog 18 #[.int .i64 a, .int .i64 b] w fun e w' => e = .returned (.tuple #[.int .i64 0, .int .i64 10]) ∧ w = w' := by
  have H := Lib.hid h
  clear h
  go_enter Tryd.func18, Tryd.ntmps18
  go_wp2_with (go_at_call 36; refine (both_bad _ _ _ H.out).mono ?_; rintro e w' ⟨rfl, rfl⟩)
  go_ret2
  exact ⟨rfl, rfl⟩
set_option maxRecDepth 100000 in
set_option maxHeartbeats 1000000 in
theorem add_nn (a b : Int) (w : World) (ha : a ≠ -9223372036854775808) (hb : b ≠ -9223372036854775808) (s1 : -9223372036854775807 ≤ a + b) (s2 : a + b ≤ 9223372036854775807) (h1 : a < 0) (h2 : b < 0) :
    Calls Tryd.prog 18 #[.int .i64 a, .int .i64 b] w fun e w' => e = .returned (.tuple #[.int .i64 (a + b), .int .i64 0]) ∧ w = w' := by
  have HA := Lib.hid ha
  have HB := Lib.hid hb
  have s3 : -9223372036854775808 ≤ a + b := by omega
  have hn : (a + b == -9223372036854775808) = false := by rw [beq_eq_false_iff_ne]; omega
  have h3 : a + b < 0 := by omega
  clear ha hb
  go_enter Tryd.func18, Tryd.ntmps18
  go_wp2_with (go_at_call 36; refine (both_ok _ _ _ HA.out HB.out).mono ?_; rintro e w' ⟨rfl, rfl⟩)
  go_ret2
  exact ⟨rfl, rfl⟩
set_option maxRecDepth 100000 in
set_option maxHeartbeats 1000000 in
theorem add_np (a b : Int) (w : World) (ha : a ≠ -9223372036854775808) (hb : b ≠ -9223372036854775808) (s1 : -9223372036854775807 ≤ a + b) (s2 : a + b ≤ 9223372036854775807) (h1 : a < 0) (h2 : 0 ≤ b) :
    Calls Tryd.prog 18 #[.int .i64 a, .int .i64 b] w fun e w' => e = .returned (.tuple #[.int .i64 (a + b), .int .i64 0]) ∧ w = w' := by
  have HA := Lib.hid ha
  have HB := Lib.hid hb
  have s3 : -9223372036854775808 ≤ a + b := by omega
  have hn : (a + b == -9223372036854775808) = false := by rw [beq_eq_false_iff_ne]; omega
  have h4 : decide (b < 0) = false := by rw [decide_eq_false_iff_not]; omega
  clear ha hb
  go_enter Tryd.func18, Tryd.ntmps18
  go_wp2_with (go_at_call 36; refine (both_ok _ _ _ HA.out HB.out).mono ?_; rintro e w' ⟨rfl, rfl⟩)
  go_ret2
  exact ⟨rfl, rfl⟩
set_option maxRecDepth 100000 in
set_option maxHeartbeats 1000000 in
theorem add_pn (a b : Int) (w : World) (ha : a ≠ -9223372036854775808) (hb : b ≠ -9223372036854775808) (s1 : -9223372036854775807 ≤ a + b) (s2 : a + b ≤ 9223372036854775807) (h1 : 0 ≤ a) (h2 : b < 0) :
    Calls Tryd.prog 18 #[.int .i64 a, .int .i64 b] w fun e w' => e = .returned (.tuple #[.int .i64 (a + b), .int .i64 0]) ∧ w = w' := by
  have HA := Lib.hid ha
  have HB := Lib.hid hb
  have s3 : -9223372036854775808 ≤ a + b := by omega
  have hn : (a + b == -9223372036854775808) = false := by rw [beq_eq_false_iff_ne]; omega
  have h4 : decide (a < 0) = false := by rw [decide_eq_false_iff_not]; omega
  clear ha hb
  go_enter Tryd.func18, Tryd.ntmps18
  go_wp2_with (go_at_call 36; refine (both_ok _ _ _ HA.out HB.out).mono ?_; rintro e w' ⟨rfl, rfl⟩)
  go_ret2
  exact ⟨rfl, rfl⟩
set_option maxRecDepth 100000 in
set_option maxHeartbeats 1000000 in
theorem add_pp (a b : Int) (w : World) (ha : a ≠ -9223372036854775808) (hb : b ≠ -9223372036854775808) (s1 : -9223372036854775807 ≤ a + b) (s2 : a + b ≤ 9223372036854775807) (h1 : 0 ≤ a) (h2 : 0 ≤ b) :
    Calls Tryd.prog 18 #[.int .i64 a, .int .i64 b] w fun e w' => e = .returned (.tuple #[.int .i64 (a + b), .int .i64 0]) ∧ w = w' := by
  have HA := Lib.hid ha
  have HB := Lib.hid hb
  have s3 : -9223372036854775808 ≤ a + b := by omega
  have hn : (a + b == -9223372036854775808) = false := by rw [beq_eq_false_iff_ne]; omega
  have h3 : decide (a + b < 0) = false := by rw [decide_eq_false_iff_not]; omega
  have h4 : decide (a < 0) = false := by rw [decide_eq_false_iff_not]; omega
  have h5 : decide (b < 0) = false := by rw [decide_eq_false_iff_not]; omega
  clear ha hb
  go_enter Tryd.func18, Tryd.ntmps18
  go_wp2_with (go_at_call 36; refine (both_ok _ _ _ HA.out HB.out).mono ?_; rintro e w' ⟨rfl, rfl⟩)
  go_ret2
  exact ⟨rfl, rfl⟩
set_option maxRecDepth 100000 in
set_option maxHeartbeats 1000000 in
theorem add_high (a b : Int) (w : World) (ha : -9223372036854775808 ≤ a) (ha2 : a ≤ 9223372036854775807) (hb : -9223372036854775808 ≤ b) (hb2 : b ≤ 9223372036854775807) (na : a ≠ -9223372036854775808) (nb : b ≠ -9223372036854775808) (s : 9223372036854775807 < a + b) :
    Calls Tryd.prog 18 #[.int .i64 a, .int .i64 b] w fun e w' => e = .returned (.tuple #[.int .i64 0, .int .i64 11]) ∧ w = w' := by
  have HA := Lib.hid na
  have HB := Lib.hid nb
  obtain ⟨c, hc⟩ : ∃ c, wrap64 (a + b) = c := ⟨_, rfl⟩
  have h0 : c < 0 := by rw [← hc]; unfold wrap64; omega
  have h1 : decide (a < 0) = false := by rw [decide_eq_false_iff_not]; omega
  have h2 : decide (b < 0) = false := by rw [decide_eq_false_iff_not]; omega
  clear s
  clear na nb ha ha2 hb hb2
  go_enter Tryd.func18, Tryd.ntmps18
  go_wp2_with (go_at_call 36; refine (both_ok _ _ _ HA.out HB.out).mono ?_; rintro e w' ⟨rfl, rfl⟩)
  all_goals
    go_ret2
    exact ⟨rfl, rfl⟩
set_option maxRecDepth 100000 in
set_option maxHeartbeats 1000000 in
theorem add_low (a b : Int) (w : World) (ha : -9223372036854775808 ≤ a) (ha2 : a ≤ 9223372036854775807) (hb : -9223372036854775808 ≤ b) (hb2 : b ≤ 9223372036854775807) (na : a ≠ -9223372036854775808) (nb : b ≠ -9223372036854775808) (s : a + b < -9223372036854775808) :
    Calls Tryd.prog 18 #[.int .i64 a, .int .i64 b] w fun e w' => e = .returned (.tuple #[.int .i64 0, .int .i64 11]) ∧ w = w' := by
  have HA := Lib.hid na
  have HB := Lib.hid nb
  obtain ⟨c, hc⟩ : ∃ c, wrap64 (a + b) = c := ⟨_, rfl⟩
  have h0 : decide (c < 0) = false := by rw [decide_eq_false_iff_not, ← hc]; unfold wrap64; omega
  have h1 : a < 0 := by omega
  have h2 : b < 0 := by omega
  clear s
  clear na nb ha ha2 hb hb2
  go_enter Tryd.func18, Tryd.ntmps18
  go_wp2_with (go_at_call 36; refine (both_ok _ _ _ HA.out HB.out).mono ?_; rintro e w' ⟨rfl, rfl⟩)
  all_goals
    go_ret2
    exact ⟨rfl, rfl⟩
set_option maxRecDepth 100000 in
set_option maxHeartbeats 1000000 in
theorem add_none (a b : Int) (w : World) (ha : -9223372036854775808 ≤ a) (ha2 : a ≤ 9223372036854775807) (hb : -9223372036854775808 ≤ b) (hb2 : b ≤ 9223372036854775807) (na : a ≠ -9223372036854775808) (nb : b ≠ -9223372036854775808) (s : a + b = -9223372036854775808) :
    Calls Tryd.prog 18 #[.int .i64 a, .int .i64 b] w fun e w' => e = .returned (.tuple #[.int .i64 0, .int .i64 11]) ∧ w = w' := by
  have HA := Lib.hid na
  have HB := Lib.hid nb
  obtain ⟨c, hc⟩ : ∃ c, wrap64 (a + b) = c := ⟨_, rfl⟩
  have h0 : (c == -9223372036854775808) = true := by rw [beq_iff_eq, ← hc, s]; unfold wrap64; omega
  clear s
  clear na nb ha ha2 hb hb2
  go_enter Tryd.func18, Tryd.ntmps18
  go_wp2_with (go_at_call 36; refine (both_ok _ _ _ HA.out HB.out).mono ?_; rintro e w' ⟨rfl, rfl⟩)
  all_goals
    go_ret2
    exact ⟨rfl, rfl⟩
/-- money.Add -/
theorem add_any (a b : Int) (w : World) (ha : -9223372036854775808 ≤ a ∧ a ≤ 9223372036854775807) (hb : -9223372036854775808 ≤ b ∧ b ≤ 9223372036854775807) :
    Calls Tryd.prog 18 #[.int .i64 a, .int .i64 b] w fun e w' => e = .returned (.tuple #[.int .i64 (addV a b), .int .i64 (addE a b)]) ∧ w = w' := by
  unfold addV addE
  by_cases h : a ≠ -9223372036854775808 ∧ b ≠ -9223372036854775808
  · by_cases h2 : -9223372036854775807 ≤ a + b ∧ a + b ≤ 9223372036854775807
    · rw [if_pos ⟨h, h2⟩, if_pos h, if_pos h2]
      by_cases a0 : a < 0 <;> by_cases b0 : b < 0
      · exact add_nn a b w h.1 h.2 h2.1 h2.2 a0 b0
      · exact add_np a b w h.1 h.2 h2.1 h2.2 a0 (by omega)
      · exact add_pn a b w h.1 h.2 h2.1 h2.2 (by omega) b0
      · exact add_pp a b w h.1 h.2 h2.1 h2.2 (by omega) (by omega)
    · rw [if_neg (fun q => h2 q.2), if_pos h, if_neg h2]
      by_cases c1 : 9223372036854775807 < a + b
      · exact add_high a b w ha.1 ha.2 hb.1 hb.2 h.1 h.2 c1
      · by_cases c2 : a + b < -9223372036854775808
        · exact add_low a b w ha.1 ha.2 hb.1 hb.2 h.1 h.2 c2
        · exact add_none a b w ha.1 ha.2 hb.1 hb.2 h.1 h.2 (by omega)
  · rw [if_neg (fun q => h q.1), if_neg h]
    exact add_bad a b w (by omega)
end Go.Proofs.YtncndmhmmfbklaaDoor

namespace Go.Proofs.YtncndmhmmfbklaaDoor
set_option linter.unusedVariables false
set_option linter.unusedSimpArgs false
open Go.RowKit
open MonMath (dig car bor mc)

/-- what Times's loops know of the world -/
structure TimRel (w wr : World) (x y : Nat) (g : Nat → Nat) : Prop where
  bel : Below w.heap.size w wr
  xc : WAt wr w.heap.size x
  yc : WAt wr (w.heap.size + 1) y
  zc : ∀ j, j < 6 → wr.cell? ⟨w.heap.size + 1 + 1 + 1, j, none⟩ = some (.int .u64 (g j))
  rc : ∀ j, j < 6 → wr.cell? ⟨w.heap.size + 1 + 1, j, none⟩ = some (.int .u64 0)
  f3 : ∀ o, wr.frozen? ⟨w.heap.size + 1 + 1 + 1, o, none⟩ = false
  f2 : ∀ o, wr.frozen? ⟨w.heap.size + 1 + 1, o, none⟩ = false

theorem TimRel.step {w wr : World} {x y k v : Nat} {g g' : Nat → Nat} (h : TimRel w wr x y g) (hk : k < 6) (h1 : g' k = v) (h2 : ∀ j, j ≠ k → g' j = g j) :
    TimRel w (wr.drew.setCell ⟨w.heap.size + 1 + 1 + 1, k, none⟩ (.int .u64 v)) x y g' where
  bel := h.bel.drew.setCell (by show w.heap.size ≤ w.heap.size + 1 + 1 + 1; omega) _
  xc := fun j hj => by have := h.xc j hj; simp [go_sem, this]
  yc := fun j hj => by have := h.yc j hj; simp [go_sem, this]
  zc := fun j hj => by
    have := h.zc j hj
    by_cases e : j = k
    · subst e; rw [h1]; simp [go_sem, this]
    · rw [h2 j e, ← this]
      simp [go_sem, e, this]
  rc := fun j hj => by have := h.rc j hj; simp [go_sem, this]
  f3 := fun o => by have := h.f3 o; simp [go_sem, this]
  f2 := fun o => by have := h.f2 o; simp [go_sem, this]
theorem TimRel.of_plus {w wr : World} {x y s : Nat} (h : PlusRel w wr x y s 0) : TimRel w wr x y (fun _ => 0) :=
  ⟨h.bel, h.xc, h.yc, fun j hj => by have := h.zc j hj; simpa using this, h.rc, h.f3, h.f2⟩
theorem TimRel.congr {w wr : World} {x y : Nat} {g g' : Nat → Nat} (h : TimRel w wr x y g) (e : ∀ j, j < 6 → g j = g' j) : TimRel w wr x y g' :=
  ⟨h.bel, h.xc, h.yc, fun j hj => by rw [← e j hj]; exact h.zc j hj, h.rc, h.f3, h.f2⟩

end Go.Proofs.YtncndmhmmfbklaaDoor

namespace Go.Proofs.YtncndmhmmfbklaaDoor
set_option linter.unusedVariables false
set_option linter.unusedSimpArgs false
open Go.RowKit
open MonMath (dig car bor mc)

def chkE (a : Int) : Int := if a = -9223372036854775808 then 10 else 0
def negV (a : Int) : Int := if a = -9223372036854775808 then 0 else -a
set_option maxRecDepth 100000 in
theorem neg_any (a : Int) (w : World) (h1 : -9223372036854775808 ≤ a) (h2 : a ≤ 9223372036854775807) : Calls Tryd.prog 19 #[.int .i64 a] w fun e w' => e = .returned (.tuple #[.int .i64 (negV a), .int .i64 (chkE a)]) ∧ w = w' := by
  unfold chkE negV
  by_cases h : a = -9223372036854775808
  · rw [if_pos h, if_pos h]
    have hb : (a == -9223372036854775808) = true := beq_iff_eq.mpr h
    clear h h1 h2
    go_enter Tryd.func19, Tryd.ntmps19
    go_wp2
    go_ret2
    exact ⟨rfl, rfl⟩
  · rw [if_neg h, if_neg h]
    have hb : (a == -9223372036854775808) = false := beq_eq_false_iff_ne.mpr h
    have h3 : -a ≤ 9223372036854775807 := by omega
    have h4 : -9223372036854775808 ≤ -a := by omega
    clear h
    go_enter Tryd.func19, Tryd.ntmps19
    go_wp2
    go_ret2
    exact ⟨rfl, rfl⟩
def subV (a b : Int) : Int := if a = -9223372036854775808 ∨ b = -9223372036854775808 then 0 else addV a (-b)
def subE (a b : Int) : Int := if a = -9223372036854775808 ∨ b = -9223372036854775808 then 10 else addE a (-b)
set_option maxRecDepth 100000 in
/-- money.Sub -/
theorem sub_any (a b : Int) (w : World) (ha : -9223372036854775808 ≤ a ∧ a ≤ 9223372036854775807) (hb : -9223372036854775808 ≤ b ∧ b ≤ 9223372036854775807) :
    Calls Tryd.prog 20 #[.int .i64 a, .int .i64 b] w fun e w' => e = .returned (.tuple #[.int .i64 (subV a b), .int .i64 (subE a b)]) ∧ w = w' := by
  unfold subV subE
  by_cases h : a = -9223372036854775808 ∨ b = -9223372036854775808
  · rw [if_pos h, if_pos h]
    have H := Lib.hid h
    clear h ha hb
    go_enter Tryd.func20, Tryd.ntmps20
    go_wp2_with (go_at_call 36; refine (both_bad _ _ _ H.out).mono ?_; rintro e w' ⟨rfl, rfl⟩)
    go_ret2
    exact ⟨rfl, rfl⟩
  · rw [if_neg h, if_neg h]
    have HA := Lib.hid (show a ≠ -9223372036854775808 from fun q => h (Or.inl q))
    have HB := Lib.hid (show b ≠ -9223372036854775808 from fun q => h (Or.inr q))
    have h3 : -b ≤ 9223372036854775807 := by omega
    have h4 : -9223372036854775808 ≤ -b := by omega
    have H1 := Lib.hid ha
    clear h ha
    go_enter Tryd.func20, Tryd.ntmps20
    go_wp2_with (first
      | (go_at_call 36; refine (both_ok _ _ _ HA.out HB.out).mono ?_; rintro e w' ⟨rfl, rfl⟩)
      | (go_at_call 18; refine (add_any _ _ _ H1.out ⟨h4, h3⟩).mono ?_; rintro e w' ⟨rfl, rfl⟩))
    go_ret2
    exact ⟨rfl, rfl⟩
set_option maxRecDepth 100000 in
/-- money.size -/
theorem size_any (a : Int) (w : World) (h1 : -9223372036854775808 ≤ a) (h2 : a ≤ 9223372036854775807) :
    Calls Tryd.prog 25 #[.int .i64 a] w fun e w' => e = .returned (.int .u64 (a.natAbs : Int)) ∧ w = w' := by
  by_cases h : a < 0
  · by_cases hm : a = -9223372036854775808
    · have e1 : IntKind.u64.wrap (wrap64 (-a)) = 9223372036854775808 := by rw [hm, IntKind.wrap_u64]; unfold wrap64; omega
      have HE := Lib.hid (show (a.natAbs : Int) = 9223372036854775808 by omega)
      clear hm
      go_enter Tryd.func25, Tryd.ntmps25
      go_wp2
      go_ret
      exact ⟨by rw [HE.out]; rfl, rfl⟩
    · have h3 : -a ≤ 9223372036854775807 := by omega
      have h4 : 0 ≤ -a := by omega
      have HE := Lib.hid (show (a.natAbs : Int) = -a by omega)
      clear hm
      go_enter Tryd.func25, Tryd.ntmps25
      go_wp2
      go_ret
      exact ⟨by rw [HE.out]; rfl, rfl⟩
  · have h3 : 0 ≤ a := by omega
    have HE := Lib.hid (show (a.natAbs : Int) = a by omega)
    clear h
    go_enter Tryd.func25, Tryd.ntmps25
    go_wp2
    go_ret
    exact ⟨by rw [HE.out]; rfl, rfl⟩
set_option maxRecDepth 100000 in
/-- money.signed -/
theorem signed_no (n : Int) (m : Bool) (w : World) (h : 9223372036854775807 < n) :
    Calls Tryd.prog 39 #[.int .u64 n, .bool m] w fun e w' => e = .returned (.tuple #[.int .i64 0, .int .i64 11]) ∧ w = w' := by
  go_enter Tryd.func39, Tryd.ntmps39
  go_wp2
  go_ret2
  exact ⟨rfl, rfl⟩
set_option maxRecDepth 100000 in
theorem signed_plus (n : Int) (w : World) (h0 : 0 ≤ n) (h : n ≤ 9223372036854775807) :
    Calls Tryd.prog 39 #[.int .u64 n, .bool false] w fun e w' => e = .returned (.tuple #[.int .i64 n, .int .i64 0]) ∧ w = w' := by
  go_enter Tryd.func39, Tryd.ntmps39
  go_wp2
  go_ret2
  exact ⟨rfl, rfl⟩
set_option maxRecDepth 100000 in
theorem signed_minus (n : Int) (w : World) (h0 : 0 ≤ n) (h : n ≤ 9223372036854775807) :
    Calls Tryd.prog 39 #[.int .u64 n, .bool true] w fun e w' => e = .returned (.tuple #[.int .i64 (-n), .int .i64 0]) ∧ w = w' := by
  go_enter Tryd.func39, Tryd.ntmps39
  go_wp2
  go_ret2
  exact ⟨rfl, rfl⟩
theorem signed_ok (v : Nat) (m : Bool) (w : World) (h : (v : Int) ≤ 9223372036854775807) :
    Calls Tryd.prog 39 #[.int .u64 v, .bool m] w fun e w' => e = .returned (.tuple #[.int .i64 (sg v m), .int .i64 0]) ∧ w = w' := by
  cases m
  · exact signed_plus v w (by omega) h
  · exact signed_minus v w (by omega) h
end Go.Proofs.YtncndmhmmfbklaaDoor

namespace Go.Proofs.YtncndmhmmfbklaaDoor
set_option linter.unusedVariables false
set_option linter.unusedSimpArgs false
open Go.RowKit
open MonMath (dig car bor mc)

def mneg (a b : Int) : Bool := decide (a < 0) != decide (b < 0)
def mulV (a b : Int) : Int := if a = -9223372036854775808 ∨ b = -9223372036854775808 then 0 else if a.natAbs * b.natAbs < 9223372036854775808 then sg (a.natAbs * b.natAbs) (mneg a b) else 0
def mulE (a b : Int) : Int := if a = -9223372036854775808 ∨ b = -9223372036854775808 then 10 else if a.natAbs * b.natAbs < 9223372036854775808 then 0 else 11
set_option maxRecDepth 100000 in
set_option maxHeartbeats 1000000 in
/-- money.Mul -/
theorem mul_any (a b : Int) (w : World) (ha : -9223372036854775808 ≤ a ∧ a ≤ 9223372036854775807) (hb : -9223372036854775808 ≤ b ∧ b ≤ 9223372036854775807) :
    Calls Tryd.prog 16 #[.int .i64 a, .int .i64 b] w fun e w' => e = .returned (.tuple #[.int .i64 (mulV a b), .int .i64 (mulE a b)]) ∧ w = w' := by
  unfold mulV mulE
  by_cases h : a = -9223372036854775808 ∨ b = -9223372036854775808
  · rw [if_pos h, if_pos h]
    have H := Lib.hid h
    clear h ha hb
    go_enter Tryd.func16, Tryd.ntmps16
    go_wp2_with (go_at_call 36; refine (both_bad _ _ _ H.out).mono ?_; rintro e w' ⟨rfl, rfl⟩)
    go_ret2
    exact ⟨rfl, rfl⟩
  · rw [if_neg h, if_neg h]
    have HA := Lib.hid (show a ≠ -9223372036854775808 from fun q => h (Or.inl q))
    have HB := Lib.hid (show b ≠ -9223372036854775808 from fun q => h (Or.inr q))
    have H1 := Lib.hid ha
    have H2 := Lib.hid hb
    have L1 := Lib.hid (show a.natAbs < 18446744073709551616 by omega)
    have L2 := Lib.hid (show b.natAbs < 18446744073709551616 by omega)
    clear h ha hb
    obtain ⟨p, hp⟩ : ∃ p, a.natAbs * b.natAbs = p := ⟨_, rfl⟩
    rw [hp]
    have HP := Lib.hid hp
    clear hp
    by_cases hq : p < 9223372036854775808
    · rw [if_pos hq, if_pos hq]
      have e1 : ((p / 18446744073709551616 : Nat) : Int) = 0 := by omega
      have e2 : ((p % 18446744073709551616 : Nat) : Int) = p := by omega
      have E1 := Lib.hid e1
      have E2 := Lib.hid e2
      have Q := Lib.hid (show (p : Int) ≤ 9223372036854775807 by omega)
      clear e1 e2 hq
      go_enter Tryd.func16, Tryd.ntmps16
      go_wp2_with fail
      refine (both_ok _ _ _ HA.out HB.out).mono ?_
      rintro e w' ⟨rfl, rfl⟩
      go_wp2_with fail
      refine (size_any _ _ H1.out.1 H1.out.2).mono ?_
      rintro e w' ⟨rfl, rfl⟩
      go_wp2_with fail
      refine (size_any _ _ H2.out.1 H2.out.2).mono ?_
      rintro e w' ⟨rfl, rfl⟩
      go_wp2_with fail
      refine (Tryd.bits_Mul64 _ _ L1.out L2.out _).mono ?_
      rintro e w' ⟨rfl, rfl⟩
      rw [HP.out, E1.out, E2.out]
      go_wp2_with fail
      refine (signed_ok p (mneg a b) _ Q.out).mono ?_
      rintro e w' ⟨rfl, rfl⟩
      go_wp2
      go_ret2
      exact ⟨rfl, rfl⟩
    · rw [if_neg hq, if_neg hq]
      go_enter Tryd.func16, Tryd.ntmps16
      go_wp2_with fail
      refine (both_ok _ _ _ HA.out HB.out).mono ?_
      rintro e w' ⟨rfl, rfl⟩
      go_wp2_with fail
      refine (size_any _ _ H1.out.1 H1.out.2).mono ?_
      rintro e w' ⟨rfl, rfl⟩
      go_wp2_with fail
      refine (size_any _ _ H2.out.1 H2.out.2).mono ?_
      rintro e w' ⟨rfl, rfl⟩
      go_wp2_with fail
      refine (Tryd.bits_Mul64 _ _ L1.out L2.out _).mono ?_
      rintro e w' ⟨rfl, rfl⟩
      rw [HP.out]
      by_cases hz : p / 18446744073709551616 = 0
      · have e1 : ((p / 18446744073709551616 : Nat) : Int) = 0 := by omega
        have e2 : ((p % 18446744073709551616 : Nat) : Int) = p := by omega
        rw [e1, e2]
        have Q := Lib.hid (show 9223372036854775807 < (p : Int) by omega)
        clear e1 e2 hz hq
        go_wp2_with fail
        refine (signed_no p (mneg a b) _ Q.out).mono ?_
        rintro e w' ⟨rfl, rfl⟩
        go_wp2
        go_ret2
        exact ⟨rfl, rfl⟩
      · have hz1 : (((p / 18446744073709551616 : Nat) : Int) == 0) = false := beq_eq_false_iff_ne.mpr (by omega)
        revert hz1
        generalize ((p / 18446744073709551616 : Nat) : Int) = q1
        intro hz1
        clear hz hq
        go_wp2
        go_ret2
        exact ⟨rfl, rfl⟩

end Go.Proofs.YtncndmhmmfbklaaDoor
