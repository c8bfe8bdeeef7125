/- money.Sum as a function by hand: the sum of any list of numbers. -/
import Derived.Test.YtncndmhmmfbklaaDoorMonR
import Derived.Test.YtncndmhmmfbklaaDoorGlob
import Derived.Test.YtncndmhmmfbklaaDoorZ0
namespace Go.Proofs.YtncndmhmmfbklaaDoor.X
set_option linter.unusedVariables false
set_option linter.unusedSimpArgs false
open Go.RowKit Go.Lib Go.Proofs.YtncndmhmmfbklaaDoorW.PrintWords
/-- the list's numbers by their places -/
def nthI (l : List Int) (i : Nat) : Int := rd l (i : Int)
def amB (l : List Int) : Bool := l.all fun x => x != -9223372036854775808
def fitB (t : Int) : Bool := decide (-9223372036854775807 ≤ t ∧ t ≤ 9223372036854775807)
def sumOf (l : List Int) : Int × Int := if amB l = true then (if fitB l.sum = true then (l.sum, 0) else (0, 11)) else (0, 10)
def inR (l : List Int) : Bool := l.all fun x => decide (-9223372036854775808 ≤ x ∧ x ≤ 9223372036854775807)
theorem nthI_eq (l : List Int) (i : Nat) (h : i < l.length) : nthI l i = l[i] := by
  unfold nthI rd
  rw [Int.toNat_natCast, List.getD_eq_getElem?_getD, List.getElem?_eq_getElem h]; rfl
theorem tS_take (l : List Int) (k : Nat) (h : k ≤ l.length) : tS (nthI l) k = (l.take k).sum := by
  induction k with
  | zero => simp [tS]
  | succ k ih =>
    have e : l.take (k + 1) = l.take k ++ [l[k]] := by rw [List.take_succ_eq_append_getElem h]
    rw [e, List.sum_append_int, ← ih (by omega)]
    simp only [tS, List.sum_cons, List.sum_nil, Int.add_zero]
    rw [nthI_eq l k h]
theorem tS_all (l : List Int) : tS (nthI l) l.length = l.sum := by rw [tS_take l _ (Nat.le_refl _), List.take_length]
theorem allAm_iff (l : List Int) : allAm (nthI l) l.length ↔ amB l = true := by
  unfold allAm amB
  rw [List.all_eq_true]
  constructor
  · intro h x hx
    obtain ⟨i, hi, rfl⟩ := List.getElem_of_mem hx
    have := h i hi
    rw [nthI_eq l i hi] at this
    exact bne_iff_ne.2 this
  · intro h i hi
    rw [nthI_eq l i hi]
    exact bne_iff_ne.1 (h _ (List.getElem_mem hi))
theorem fits_iff (t : Int) : fitsI t ↔ fitB t = true := by unfold fitsI fitB; rw [decide_eq_true_iff]
theorem sum_is (l : List Int) : (sumV (nthI l) l.length, sumE (nthI l) l.length) = sumOf l := by
  unfold sumOf
  by_cases h : amB l = true
  · rw [if_pos h]
    have h' := (allAm_iff l).2 h
    by_cases k : fitB l.sum = true
    · rw [if_pos k]
      have k' : fitsI (tS (nthI l) l.length) := by rw [tS_all]; exact (fits_iff _).2 k
      obtain ⟨e1, e2⟩ := sum_ok h' k'
      rw [e1, e2, tS_all]
    · rw [if_neg k]
      have k' : ¬ fitsI (tS (nthI l) l.length) := by rw [tS_all]; exact fun q => k ((fits_iff _).1 q)
      obtain ⟨e1, e2⟩ := sum_over h' k'
      rw [e1, e2]
  · rw [if_neg h]
    obtain ⟨e1, e2⟩ := sum_bad (fun q => h ((allAm_iff l).1 q))
    rw [e1, e2]
def money_Sum.f (l : List Int) : Option (Int × Int) := if decide (l.length ≤ 17592186044416) = true ∧ inR l = true then some (sumOf l) else none
theorem money_Sum.calls (A0 : Option Addr) (c0 : Nat) (l0 : List Int) (r1 : Int) (r2 : Int) (w : World) (hr0 : Kd.C (Kd.int .i64) w A0 l0.length l0) (hc0 : l0.length ≤ c0) (h : money_Sum.f l0 = some (r1, r2)) (G : Glob w) :
    Calls Tryd.prog 15 #[.slice A0 l0.length c0] w fun e w' => e = .returned (.tuple #[.int .i64 r1, .int .i64 r2]) ∧ Below w.heap.size w w' := by
  unfold money_Sum.f at h
  split at h
  · rename_i hc
    have e := Option.some.inj h
    rw [← sum_is] at e
    obtain ⟨rfl, rfl⟩ := Prod.mk.inj e
    refine (sum_gen A0 l0.length c0 (nthI l0) w (of_decide_eq_true hc.1) (fun i hi => ?_) (fun i hi => ?_)).mono fun e w' ⟨he, hw⟩ => ⟨he, hw ▸ Below.refl _ _⟩
    · obtain ⟨ad, ha, hx⟩ := Kd.at_int hr0 (i : Int) (by omega) (by omega)
      exact ⟨ad, ha, by rw [Int.toNat_natCast] at hx; exact hx⟩
    · rw [nthI_eq l0 i hi]
      exact of_decide_eq_true (List.all_eq_true.1 hc.2 _ (List.getElem_mem hi))
  · cases h
end Go.Proofs.YtncndmhmmfbklaaDoor.X
