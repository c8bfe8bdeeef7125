/- Contract of the document's Sum: the exact sum of a list. -/
import Derived.Test.YtncndmhmmfbklaaMonB
namespace Go.Proofs.Ytncndmhmmfbklaa
set_option linter.unusedVariables false
set_option linter.unusedSimpArgs false
open Go.RowKit
open MonMath (dig car bor)

/-- the one int64 that is no amount -/
def none64 : Int := -9223372036854775808
theorem none64_eq : none64 = -9223372036854775808 := rfl
/-- daybookref01.Is -/
theorem is_yes (a : Int) (w : World) (h : a ≠ -9223372036854775808) :
    Calls Try.prog 27 #[.int .i64 a] w fun e w' => e = .returned (.bool true) ∧ w = w' := by
  have hb : (a != -9223372036854775808) = true := bne_iff_ne.mpr h
  clear h
  go_enter Try.func27, Try.ntmps27
  go_wp2
  go_ret
  exact ⟨rfl, rfl⟩
theorem is_no (a : Int) (w : World) (h : a = -9223372036854775808) :
    Calls Try.prog 27 #[.int .i64 a] w fun e w' => e = .returned (.bool false) ∧ w = w' := by
  have hb : (a != -9223372036854775808) = false := by rw [bne_eq_false_iff_eq]; exact h
  clear h
  go_enter Try.func27, Try.ntmps27
  go_wp2
  go_ret
  exact ⟨rfl, rfl⟩

/-- what is above 0 of the first k, what is below it, their sum -/
def pS (f : Nat → Int) : Nat → Nat
  | 0 => 0
  | k + 1 => pS f k + (if 0 ≤ f k then (f k).natAbs else 0)
def nS (f : Nat → Int) : Nat → Nat
  | 0 => 0
  | k + 1 => nS f k + (if 0 ≤ f k then 0 else (f k).natAbs)
def tS (f : Nat → Int) : Nat → Int
  | 0 => 0
  | k + 1 => tS f k + f k
theorem tS_eq (f : Nat → Int) (k : Nat) : tS f k = (pS f k : Int) - (nS f k : Int) := by
  induction k with
  | zero => rfl
  | succ k ih => simp only [tS, pS, nS]; rw [ih]; split <;> omega
theorem pS_le (f : Nat → Int) (n M : Nat) (hf : ∀ i, i < n → (f i).natAbs ≤ M) (k : Nat) (hk : k ≤ n) : pS f k ≤ k * M ∧ nS f k ≤ k * M := by
  induction k with
  | zero => exact ⟨Nat.zero_le _, Nat.zero_le _⟩
  | succ k ih =>
    have h := ih (by omega)
    have h2 := hf k (by omega)
    simp only [pS, nS]
    rw [Nat.succ_mul]
    split <;> omega
theorem pS_lt (f : Nat → Int) (n : Nat) (hn : n ≤ 17592186044416) (hf : ∀ i, i < n → -9223372036854775808 ≤ f i ∧ f i ≤ 9223372036854775807) : pS f n < 4294967296 ^ 6 ∧ nS f n < 4294967296 ^ 6 := by
  have h := pS_le f n 9223372036854775808 (fun i hi => by have := hf i hi; omega) n (Nat.le_refl _)
  have h2 : n * 9223372036854775808 ≤ 17592186044416 * 9223372036854775808 := Nat.mul_le_mul_right _ hn
  have h3 : (17592186044416 * 9223372036854775808 : Nat) < 4294967296 ^ 6 := by decide
  omega
/-- what a sum of a list is, and its error -/
def allAm (f : Nat → Int) (n : Nat) : Prop := ∀ i, i < n → f i ≠ -9223372036854775808
def fitsI (x : Int) : Prop := -9223372036854775807 ≤ x ∧ x ≤ 9223372036854775807
open Classical in
noncomputable def sumV (f : Nat → Int) (n : Nat) : Int := if allAm f n ∧ fitsI (tS f n) then tS f n else 0
open Classical in
noncomputable def sumE (f : Nat → Int) (n : Nat) : Int := if allAm f n then (if fitsI (tS f n) then 0 else 11) else 10
theorem sum_bad {f : Nat → Int} {n : Nat} (h : ¬ allAm f n) : sumV f n = 0 ∧ sumE f n = 10 := by
  unfold sumV sumE; rw [if_neg (fun q => h q.1), if_neg h]; exact ⟨rfl, rfl⟩
theorem sum_over {f : Nat → Int} {n : Nat} (h : allAm f n) (h2 : ¬ fitsI (tS f n)) : sumV f n = 0 ∧ sumE f n = 11 := by
  unfold sumV sumE; rw [if_neg (fun q => h2 q.2), if_pos h, if_neg h2]; exact ⟨rfl, rfl⟩
theorem sum_ok {f : Nat → Int} {n : Nat} (h : allAm f n) (h2 : fitsI (tS f n)) : sumV f n = tS f n ∧ sumE f n = 0 := by
  unfold sumV sumE; rw [if_pos ⟨h, h2⟩, if_pos h, if_pos h2]; exact ⟨rfl, rfl⟩

/-- what the document's Sum knows of the world: the two wide numbers -/
structure SumRel (w wr : World) (U D : Nat) : Prop where
  bel : Below w.heap.size w wr
  size : w.heap.size + 1 < wr.heap.size
  u : WAt wr w.heap.size U
  d : WAt wr (w.heap.size + 1) D
  fu : ∀ o, wr.frozen? ⟨w.heap.size, o, none⟩ = false
  fd : ∀ o, wr.frozen? ⟨w.heap.size + 1, o, none⟩ = false
theorem SumRel.start (w : World) : SumRel w ((w.alloc (.cells #[.int .u64 0, .int .u64 0, .int .u64 0, .int .u64 0, .int .u64 0, .int .u64 0] 46)).alloc (.cells #[.int .u64 0, .int .u64 0, .int .u64 0, .int .u64 0, .int .u64 0, .int .u64 0] 46)) 0 0 where
  bel := fm_alloc (fm_alloc (Below.refl _ _) _) _
  size := by simp
  u := by
    intro j hj
    rw [MonMath.dig_zero]
    have : j = 0 ∨ j = 1 ∨ j = 2 ∨ j = 3 ∨ j = 4 ∨ j = 5 := by omega
    rcases this with rfl | rfl | rfl | rfl | rfl | rfl <;> simp [go_sem]
  d := by
    intro j hj
    rw [MonMath.dig_zero]
    have : j = 0 ∨ j = 1 ∨ j = 2 ∨ j = 3 ∨ j = 4 ∨ j = 5 := by omega
    rcases this with rfl | rfl | rfl | rfl | rfl | rfl <;> simp [go_sem]
  fu := fun o => by simp [go_sem]
  fd := fun o => by simp [go_sem]

theorem put6 {w2 : World} {B : Nat} {g : Nat → Int} (hc : ∀ j, j < 6 → ∃ v, w2.cell? ⟨B, j, none⟩ = some v) :
    (∀ j, j < 6 → ((((((w2.setCell ⟨B, 0, none⟩ (.int .u64 (g 0))).setCell ⟨B, 1, none⟩ (.int .u64 (g 1))).setCell ⟨B, 2, none⟩ (.int .u64 (g 2))).setCell ⟨B, 3, none⟩ (.int .u64 (g 3))).setCell ⟨B, 4, none⟩ (.int .u64 (g 4))).setCell ⟨B, 5, none⟩ (.int .u64 (g 5))).cell? ⟨B, j, none⟩ = some (.int .u64 (g j))) := by
  obtain ⟨v0, h0⟩ := hc 0 (by omega)
  obtain ⟨v1, h1⟩ := hc 1 (by omega)
  obtain ⟨v2, h2⟩ := hc 2 (by omega)
  obtain ⟨v3, h3⟩ := hc 3 (by omega)
  obtain ⟨v4, h4⟩ := hc 4 (by omega)
  obtain ⟨v5, h5⟩ := hc 5 (by omega)
  intro j hj
  have : j = 0 ∨ j = 1 ∨ j = 2 ∨ j = 3 ∨ j = 4 ∨ j = 5 := by omega
  rcases this with rfl | rfl | rfl | rfl | rfl | rfl <;> simp [go_sem, h0, h1, h2, h3, h4, h5]
theorem far6 {w2 : World} {B C o : Nat} {g : Nat → Int} (hne : C ≠ B) :
    ((((((w2.setCell ⟨B, 0, none⟩ (.int .u64 (g 0))).setCell ⟨B, 1, none⟩ (.int .u64 (g 1))).setCell ⟨B, 2, none⟩ (.int .u64 (g 2))).setCell ⟨B, 3, none⟩ (.int .u64 (g 3))).setCell ⟨B, 4, none⟩ (.int .u64 (g 4))).setCell ⟨B, 5, none⟩ (.int .u64 (g 5))).cell? ⟨C, o, none⟩ = w2.cell? ⟨C, o, none⟩ := by
  have hne' : B ≠ C := fun e => hne e.symm
  simp [go_sem, hne, hne']
theorem frz6 {w2 : World} {B C o : Nat} {g : Nat → Int} :
    ((((((w2.setCell ⟨B, 0, none⟩ (.int .u64 (g 0))).setCell ⟨B, 1, none⟩ (.int .u64 (g 1))).setCell ⟨B, 2, none⟩ (.int .u64 (g 2))).setCell ⟨B, 3, none⟩ (.int .u64 (g 3))).setCell ⟨B, 4, none⟩ (.int .u64 (g 4))).setCell ⟨B, 5, none⟩ (.int .u64 (g 5))).frozen? ⟨C, o, none⟩ = w2.frozen? ⟨C, o, none⟩ := by
  simp [go_sem]
theorem bel6 {w w2 : World} {B : Nat} {g : Nat → Int} (h : Below w.heap.size w w2) (hB : w.heap.size ≤ B) :
    Below w.heap.size w ((((((w2.setCell ⟨B, 0, none⟩ (.int .u64 (g 0))).setCell ⟨B, 1, none⟩ (.int .u64 (g 1))).setCell ⟨B, 2, none⟩ (.int .u64 (g 2))).setCell ⟨B, 3, none⟩ (.int .u64 (g 3))).setCell ⟨B, 4, none⟩ (.int .u64 (g 4))).setCell ⟨B, 5, none⟩ (.int .u64 (g 5))) :=
  (((((h.setCell hB _).setCell hB _).setCell hB _).setCell hB _).setCell hB _).setCell hB _
theorem siz6 {w2 : World} {B : Nat} {g : Nat → Int} :
    ((((((w2.setCell ⟨B, 0, none⟩ (.int .u64 (g 0))).setCell ⟨B, 1, none⟩ (.int .u64 (g 1))).setCell ⟨B, 2, none⟩ (.int .u64 (g 2))).setCell ⟨B, 3, none⟩ (.int .u64 (g 3))).setCell ⟨B, 4, none⟩ (.int .u64 (g 4))).setCell ⟨B, 5, none⟩ (.int .u64 (g 5))).heap.size = w2.heap.size := by
  simp [World.setCell]

theorem SumRel.later {w wr w2 : World} {U D : Nat} (h : SumRel w wr U D) (hq : Below wr.heap.size wr w2) : SumRel w w2 U D where
  bel := fm_call h.bel hq
  size := by have := h.size; have := hq.size; omega
  u := h.u.below hq (by have := h.size; omega)
  d := h.d.below hq (by have := h.size; omega)
  fu := fun o => by rw [hq.frozen (p := ⟨w.heap.size, o, none⟩) (show w.heap.size < wr.heap.size by have := h.size; omega)]; exact h.fu o
  fd := fun o => by rw [hq.frozen (p := ⟨w.heap.size + 1, o, none⟩) (show w.heap.size + 1 < wr.heap.size by have := h.size; omega)]; exact h.fd o
theorem SumRel.putU {w w2 : World} {U D : Nat} (h : SumRel w w2 U D) (U' : Nat) :
    SumRel w ((((((w2.setCell ⟨w.heap.size, 0, none⟩ (.int .u64 (dig U' 0))).setCell ⟨w.heap.size, 1, none⟩ (.int .u64 (dig U' 1))).setCell ⟨w.heap.size, 2, none⟩ (.int .u64 (dig U' 2))).setCell ⟨w.heap.size, 3, none⟩ (.int .u64 (dig U' 3))).setCell ⟨w.heap.size, 4, none⟩ (.int .u64 (dig U' 4))).setCell ⟨w.heap.size, 5, none⟩ (.int .u64 (dig U' 5))) U' D where
  bel := bel6 (g := fun j => (dig U' j : Int)) h.bel (Nat.le_refl _)
  size := by rw [siz6 (g := fun j => (dig U' j : Int))]; exact h.size
  u := put6 (g := fun j => (dig U' j : Int)) (fun j hj => ⟨_, h.u j hj⟩)
  d := fun j hj => by rw [far6 (g := fun j => (dig U' j : Int)) (by omega)]; exact h.d j hj
  fu := fun o => by rw [frz6 (g := fun j => (dig U' j : Int))]; exact h.fu o
  fd := fun o => by rw [frz6 (g := fun j => (dig U' j : Int))]; exact h.fd o
theorem SumRel.putD {w w2 : World} {U D : Nat} (h : SumRel w w2 U D) (D' : Nat) :
    SumRel w ((((((w2.setCell ⟨w.heap.size + 1, 0, none⟩ (.int .u64 (dig D' 0))).setCell ⟨w.heap.size + 1, 1, none⟩ (.int .u64 (dig D' 1))).setCell ⟨w.heap.size + 1, 2, none⟩ (.int .u64 (dig D' 2))).setCell ⟨w.heap.size + 1, 3, none⟩ (.int .u64 (dig D' 3))).setCell ⟨w.heap.size + 1, 4, none⟩ (.int .u64 (dig D' 4))).setCell ⟨w.heap.size + 1, 5, none⟩ (.int .u64 (dig D' 5))) U D' where
  bel := bel6 (g := fun j => (dig D' j : Int)) h.bel (by omega)
  size := by rw [siz6 (g := fun j => (dig D' j : Int))]; exact h.size
  u := fun j hj => by rw [far6 (g := fun j => (dig D' j : Int)) (by omega)]; exact h.u j hj
  d := put6 (g := fun j => (dig D' j : Int)) (fun j hj => ⟨_, h.d j hj⟩)
  fu := fun o => by rw [frz6 (g := fun j => (dig D' j : Int))]; exact h.fu o
  fd := fun o => by rw [frz6 (g := fun j => (dig D' j : Int))]; exact h.fd o

theorem of_at {w0 w' : World} (h : Below w0.heap.size w0 w') (a : Int) (h1 : -9223372036854775808 ≤ a) (h2 : a ≤ 9223372036854775807) :
    Calls Try.prog 29 #[.int .i64 a] w' fun e w'' => e = .returned (wide a.natAbs) ∧ Below w0.heap.size w0 w'' :=
  (of_any a w' h1 h2).mono fun _ _ ⟨he, hb⟩ => ⟨he, fm_call h hb⟩
theorem plus_at {w0 w' : World} (h : Below w0.heap.size w0 w') (x y : Nat) :
    Calls Try.prog 28 #[wide x, wide y] w' fun e w'' => e = .returned (wide (x + y)) ∧ Below w0.heap.size w0 w'' :=
  (plus_any x y w').mono fun _ _ ⟨he, hb⟩ => ⟨he, fm_call h hb⟩

set_option maxHeartbeats 4000000 in
/-- daybookref01.Sum, of a row of numbers -/
theorem rsum_row (b off n cap : Nat) (f : Nat → Int) (w : World) (hn : n ≤ 17592186044416) (hb : b < w.heap.size) (hcell : ∀ i, i < n → w.cell? ⟨b, off + i, none⟩ = some (.int .i64 (f i)))
    (hf : ∀ i, i < n → -9223372036854775808 ≤ f i ∧ f i ≤ 9223372036854775807) :
    Calls Try.prog 9 #[.slice (some ⟨b, off, none⟩) n cap] w fun e w' => e = .returned (.tuple #[.int .i64 (sumV f n), .int .i64 (sumE f n)]) ∧ Below w.heap.size w w' := by
  obtain ⟨V, hV⟩ : ∃ V, sumV f n = V := ⟨_, rfl⟩
  obtain ⟨E, hE⟩ : ∃ E, sumE f n = E := ⟨_, rfl⟩
  rw [hV, hE]
  have HV := Lib.hid hV
  have HE := Lib.hid hE
  have HC := Lib.hid hcell
  have HF := Lib.hid hf
  clear hV hE hcell hf
  go_enter Try.func9, Try.ntmps9
  go_wp2
  go_loopg [6, 7] n (fun g i o wr => ∃ k : Nat, k ≤ n ∧ g = n - k ∧ i = .int .i64 k ∧ allAm f k ∧ SumRel w wr (pS f k) (nS f k))
  case atStart => exact ⟨0, by omega, by omega, rfl, fun i hi => absurd hi (by omega), SumRel.start w⟩
  case round =>
    obtain ⟨k, hk, hg, rfl, ha, hR⟩ := hrel
    have Hg := Lib.hid hg
    have HA := Lib.hid ha
    clear hg ha
    by_cases hlt : k < n
    · have hx : wr.cell? ⟨b, off + k, none⟩ = some (.int .i64 (f k)) := by rw [hR.bel.cell (p := ⟨b, off + k, none⟩) hb]; exact HC.out k hlt
      have hfk := HF.out k hlt
      by_cases hm : f k = -9223372036854775808
      · obtain ⟨q1, q2⟩ := sum_bad (f := f) (n := n) (fun h => h k hlt hm)
        have Q1 := Lib.hid (HV.out.symm.trans q1)
        have Q2 := Lib.hid (HE.out.symm.trans q2)
        have HM := Lib.hid hm
        have hB := hR.bel
        clear hm q1 q2 hR
        go_wp2_with (go_at_call 27; refine (is_no _ _ HM.out).mono ?_; rintro e w' ⟨rfl, rfl⟩)
        go_ret2
        exact ⟨by rw [Q1.out, Q2.out]; rfl, hB⟩
      · have HM := Lib.hid hm
        clear hm
        by_cases hp : 0 ≤ f k
        · skip
          have e1 : pS f (k + 1) = pS f k + (f k).natAbs := by simp only [pS]; rw [if_pos hp]
          have e2 : nS f (k + 1) = nS f k := by simp only [nS]; rw [if_pos hp]; rfl
          have E1 := Lib.hid e1
          have E2 := Lib.hid e2
          have HA2 := Lib.hid (show allAm f (k + 1) from fun i hi => by
            rcases Nat.lt_or_ge i k with q | q
            · exact HA.out i q
            · have e : i = k := by omega
              rw [e]; exact HM.out)
          clear e1 e2
          go_wp2_with (go_at_call 27; refine (is_yes _ _ HM.out).mono ?_; rintro e w' ⟨rfl, rfl⟩)
          have hU := hR.u
          have WU := Lib.hid (show ∀ w', Below wr.heap.size wr w' → WAt w' w.heap.size (pS f k) from fun w' q => hU.below q (by have := hR.size; omega))
          have WF := Lib.hid (show ∀ w', Below wr.heap.size wr w' → ∀ o, w'.frozen? ⟨w.heap.size, o, none⟩ = false from fun w' q o => by rw [q.frozen (p := ⟨w.heap.size, o, none⟩) (show w.heap.size < wr.heap.size by have := hR.size; omega)]; exact hR.fu o)
          have u0 := hU 0 (by omega)
          have u1 := hU 1 (by omega)
          have u2 := hU 2 (by omega)
          have u3 := hU 3 (by omega)
          have u4 := hU 4 (by omega)
          have u5 := hU 5 (by omega)
          have HR := Lib.hid hR
          clear hR hU
          go_region_with (first
            | (go_at_call 29; refine (of_at (w0 := wr) (by repeat (first | exact Below.refl _ _ | apply fm_drewN | apply fm_drew)) _ hfk.1 hfk.2).mono ?_; rintro e w1 ⟨rfl, hq⟩; have v0 := WU.out _ hq 0 (by omega); have v1 := WU.out _ hq 1 (by omega); have v2 := WU.out _ hq 2 (by omega); have v3 := WU.out _ hq 3 (by omega); have v4 := WU.out _ hq 4 (by omega); have v5 := WU.out _ hq 5 (by omega); have vf := WF.out _ hq)
            | (go_at_call 28; refine (plus_at (w0 := wr) (by repeat (first | assumption | exact Below.refl _ _ | apply fm_drewN | apply fm_drew)) (pS f k) (f k).natAbs).mono ?_; rintro e w2 ⟨rfl, hq2⟩; unfold wide; have x0 := WU.out _ hq2 0 (by omega); have x1 := WU.out _ hq2 1 (by omega); have x2 := WU.out _ hq2 2 (by omega); have x3 := WU.out _ hq2 3 (by omega); have x4 := WU.out _ hq2 4 (by omega); have x5 := WU.out _ hq2 5 (by omega); have xf := WF.out _ hq2))
          all_goals
            go_wp2_with fail
            have hg2 := Hg.out
            go_roundg (n - (k + 1))
            case measure => omega
            case rel =>
              refine ⟨k + 1, by omega, rfl, by go_num, HA2.out, ?_⟩
              rw [E1.out, E2.out]
              exact (SumRel.later HR.out hq2).putU _
        · skip
          have e1 : nS f (k + 1) = nS f k + (f k).natAbs := by simp only [nS]; rw [if_neg hp]
          have e2 : pS f (k + 1) = pS f k := by simp only [pS]; rw [if_neg hp]; rfl
          have hp' : f k < 0 := by omega
          have hpb : decide (0 ≤ f k) = false := by rw [decide_eq_false_iff_not]; exact hp
          have E1 := Lib.hid e1
          have E2 := Lib.hid e2
          have HA2 := Lib.hid (show allAm f (k + 1) from fun i hi => by
            rcases Nat.lt_or_ge i k with q | q
            · exact HA.out i q
            · have e : i = k := by omega
              rw [e]; exact HM.out)
          clear e1 e2 hp
          go_wp2_with (go_at_call 27; refine (is_yes _ _ HM.out).mono ?_; rintro e w' ⟨rfl, rfl⟩)
          have hU := hR.d
          have WU := Lib.hid (show ∀ w', Below wr.heap.size wr w' → WAt w' (w.heap.size + 1) (nS f k) from fun w' q => hU.below q (by have := hR.size; omega))
          have WF := Lib.hid (show ∀ w', Below wr.heap.size wr w' → ∀ o, w'.frozen? ⟨w.heap.size + 1, o, none⟩ = false from fun w' q o => by rw [q.frozen (p := ⟨w.heap.size + 1, o, none⟩) (show w.heap.size + 1 < wr.heap.size by have := hR.size; omega)]; exact hR.fd o)
          have u0 := hU 0 (by omega)
          have u1 := hU 1 (by omega)
          have u2 := hU 2 (by omega)
          have u3 := hU 3 (by omega)
          have u4 := hU 4 (by omega)
          have u5 := hU 5 (by omega)
          have HR := Lib.hid hR
          clear hR hU
          go_region_with (first
            | (go_at_call 29; refine (of_at (w0 := wr) (by repeat (first | exact Below.refl _ _ | apply fm_drewN | apply fm_drew)) _ hfk.1 hfk.2).mono ?_; rintro e w1 ⟨rfl, hq⟩; have v0 := WU.out _ hq 0 (by omega); have v1 := WU.out _ hq 1 (by omega); have v2 := WU.out _ hq 2 (by omega); have v3 := WU.out _ hq 3 (by omega); have v4 := WU.out _ hq 4 (by omega); have v5 := WU.out _ hq 5 (by omega); have vf := WF.out _ hq)
            | (go_at_call 28; refine (plus_at (w0 := wr) (by repeat (first | assumption | exact Below.refl _ _ | apply fm_drewN | apply fm_drew)) (nS f k) (f k).natAbs).mono ?_; rintro e w2 ⟨rfl, hq2⟩; unfold wide; have x0 := WU.out _ hq2 0 (by omega); have x1 := WU.out _ hq2 1 (by omega); have x2 := WU.out _ hq2 2 (by omega); have x3 := WU.out _ hq2 3 (by omega); have x4 := WU.out _ hq2 4 (by omega); have x5 := WU.out _ hq2 5 (by omega); have xf := WF.out _ hq2))
          all_goals
            go_wp2_with fail
            have hg2 := Hg.out
            go_roundg (n - (k + 1))
            case measure => omega
            case rel =>
              refine ⟨k + 1, by omega, rfl, by go_num, HA2.out, ?_⟩
              rw [E1.out, E2.out]
              exact (SumRel.later HR.out hq2).putD _
    · obtain rfl : k = n := by omega
      have hsz := hR.size
      have hszB := hR.bel
      have hz0 : w.heap.size < wr.heap.size := by omega
      have hU := hR.u
      have hD := hR.d
      have u0 := hU 0 (by omega)
      have u1 := hU 1 (by omega)
      have u2 := hU 2 (by omega)
      have u3 := hU 3 (by omega)
      have u4 := hU 4 (by omega)
      have u5 := hU 5 (by omega)
      have d0 := hD 0 (by omega)
      have d1 := hD 1 (by omega)
      have d2 := hD 2 (by omega)
      have d3 := hD 3 (by omega)
      have d4 := hD 4 (by omega)
      have d5 := hD 5 (by omega)
      obtain ⟨U6, D6⟩ := pS_lt f k hn HF.out
      have H6 := Lib.hid (And.intro U6 D6)
      have ht := Lib.hid (tS_eq f k)
      clear hU hD hR U6 D6
      generalize pS f k = U at *
      generalize nS f k = D at *
      go_wp2_with fail
      refine (below_any U D _ H6.out.1 H6.out.2).mono ?_
      rintro e w1 ⟨rfl, hb1⟩
      obtain ⟨hc1, hf1⟩ := bcell hb1
      have hz1 := hb1.size
      have hz2 : w.heap.size < w1.heap.size := by omega
      have hz3 : w.heap.size + 1 < w1.heap.size := by omega
      have fb : Below w.heap.size w w1 := fm_call hszB hb1
      by_cases hlt2 : U < D
      · have HLT := Lib.hid (decide_eq_true hlt2)
        rw [HLT.out]
        go_wp2_with fail
        refine (minus_any D U _ (by omega)).mono ?_
        rintro e w2 ⟨rfl, hb2⟩
        unfold wide
        obtain ⟨hc2, hf2⟩ := bcell hb2
        have hz4 : w1.heap.size < w2.heap.size := by have := hb2.size; simp at this; omega
        have fb2 : Below w.heap.size w w2 := fm_call (fm_alloc fb _) hb2
        go_wp2_with fail
        by_cases hfit : D - U < 9223372036854775808
        · obtain ⟨q1, q2⟩ := sum_ok HA.out (show fitsI (tS f k) by unfold fitsI; have := ht.out; omega)
          have Q1 := Lib.hid (show V = -((D - U : Nat) : Int) by rw [← HV.out, q1]; have := ht.out; omega)
          have Q2 := Lib.hid (HE.out.symm.trans q2)
          clear q1 q2
          refine (amount_ok (D - U) true _ hfit).mono ?_
          rintro e w3 ⟨rfl, hb3⟩
          go_wp2
          go_ret2
          exact ⟨by rw [Q1.out, Q2.out]; rfl, fm_call (bel6 (g := fun j => (dig (D - U) j : Int)) fb2 (by have := hszB.size; omega)) hb3⟩
        · obtain ⟨q1, q2⟩ := sum_over HA.out (show ¬ fitsI (tS f k) by unfold fitsI; have := ht.out; omega)
          have Q1 := Lib.hid (HV.out.symm.trans q1)
          have Q2 := Lib.hid (HE.out.symm.trans q2)
          clear q1 q2
          refine (amount_no (D - U) true _ (Nat.lt_of_le_of_lt (Nat.sub_le _ _) H6.out.2) hfit).mono ?_
          rintro e w3 ⟨rfl, hb3⟩
          go_wp2
          go_ret2
          exact ⟨by rw [Q1.out, Q2.out]; rfl, fm_call (bel6 (g := fun j => (dig (D - U) j : Int)) fb2 (by have := hszB.size; omega)) hb3⟩
      · have HLT := Lib.hid (decide_eq_false hlt2)
        rw [HLT.out]
        go_wp2_with fail
        refine (minus_any U D _ (by omega)).mono ?_
        rintro e w2 ⟨rfl, hb2⟩
        unfold wide
        obtain ⟨hc2, hf2⟩ := bcell hb2
        have hz4 : w1.heap.size < w2.heap.size := by have := hb2.size; simp at this; omega
        have fb2 : Below w.heap.size w w2 := fm_call (fm_alloc fb _) hb2
        go_wp2_with fail
        by_cases hfit : U - D < 9223372036854775808
        · obtain ⟨q1, q2⟩ := sum_ok HA.out (show fitsI (tS f k) by unfold fitsI; have := ht.out; omega)
          have Q1 := Lib.hid (show V = ((U - D : Nat) : Int) by rw [← HV.out, q1]; have := ht.out; omega)
          have Q2 := Lib.hid (HE.out.symm.trans q2)
          clear q1 q2
          refine (amount_ok (U - D) false _ hfit).mono ?_
          rintro e w3 ⟨rfl, hb3⟩
          go_wp2
          go_ret2
          exact ⟨by rw [Q1.out, Q2.out]; rfl, fm_call (bel6 (g := fun j => (dig (U - D) j : Int)) fb2 (by have := hszB.size; omega)) hb3⟩
        · obtain ⟨q1, q2⟩ := sum_over HA.out (show ¬ fitsI (tS f k) by unfold fitsI; have := ht.out; omega)
          have Q1 := Lib.hid (HV.out.symm.trans q1)
          have Q2 := Lib.hid (HE.out.symm.trans q2)
          clear q1 q2
          refine (amount_no (U - D) false _ (Nat.lt_of_le_of_lt (Nat.sub_le _ _) H6.out.1) hfit).mono ?_
          rintro e w3 ⟨rfl, hb3⟩
          go_wp2
          go_ret2
          exact ⟨by rw [Q1.out, Q2.out]; rfl, fm_call (bel6 (g := fun j => (dig (U - D) j : Int)) fb2 (by have := hszB.size; omega)) hb3⟩
end Go.Proofs.Ytncndmhmmfbklaa
