/- money.Split, money.Ratio and money.Mul as functions by hand. -/
import Derived.Test.YtncndmhmmfbklaaDoorStT
import Derived.Test.YtncndmhmmfbklaaDoorSumH
import Derived.Test.YtncndmhmmfbklaaDoorMonL
namespace Go.Proofs.YtncndmhmmfbklaaDoor.X
set_option linter.unusedVariables false
set_option linter.unusedSimpArgs false
open Go.RowKit Go.Lib Go.Proofs.YtncndmhmmfbklaaDoorW.PrintWords
open StSort (wN sumN GoodW partV partN)
def in64 (x : Int) : Bool := decide (-9223372036854775808 ≤ x ∧ x ≤ 9223372036854775807)
def goodB (l : List Int) : Bool := decide (1 ≤ l.length ∧ l.length ≤ 1000 ∧ 1 ≤ sumN (wN (nthI l)) l.length ∧ sumN (wN (nthI l)) l.length ≤ 9223372036854775807) && l.all fun x => decide (0 ≤ x)
theorem good_iff (l : List Int) : GoodW (nthI l) l.length ↔ goodB l = true := by
  unfold goodB
  rw [Bool.and_eq_true, decide_eq_true_iff, List.all_eq_true]
  constructor
  · intro h
    refine ⟨⟨h.n1, h.n2, h.s1, h.s2⟩, fun x hx => ?_⟩
    obtain ⟨i, hi, rfl⟩ := List.getElem_of_mem hx
    have := h.pos i hi
    rw [nthI_eq l i hi] at this
    exact decide_eq_true this
  · rintro ⟨⟨h1, h2, h3, h4⟩, h⟩
    refine ⟨h1, h2, fun i hi => ?_, h3, h4⟩
    rw [nthI_eq l i hi]
    exact of_decide_eq_true (h _ (List.getElem_mem hi))
def splitP (t : Int) (l : List Int) : List Int × Int :=
  if t = -9223372036854775808 then ([], 10) else if goodB l = true then ((List.range l.length).map (partV t (nthI l) l.length), 0) else ([], 13)
def money_Split.f (t : Int) (l : List Int) : Option (List Int × Int) := if decide (l.length ≤ 17592186044416) = true ∧ inR l = true ∧ in64 t = true then some (splitP t l) else none
theorem money_Split.calls (a0 : Int) (A1 : Option Addr) (c1 : Nat) (l1 : List Int) (r1 : List Int) (r2 : Int) (w : World) (hr1 : Kd.C (Kd.int .i64) w A1 l1.length l1) (hc1 : l1.length ≤ c1) (h : money_Split.f a0 l1 = some (r1, r2)) (G : Glob w) :
    Calls Tryd.prog 14 #[.int .i64 a0, .slice A1 l1.length c1] w fun e w' => ∃ v0_ : Value, e = .returned (.tuple #[v0_, .int .i64 r2]) ∧ Kd.R (Kd.int .i64) 2 w' w.heap.size (fun _ => True) v0_ r1 ∧ Below w.heap.size w w' := by
  unfold money_Split.f at h
  split at h
  · rename_i hc
    have e := Option.some.inj h
    have hcell : ∀ i, i < l1.length → ∃ ad, A1 = some ad ∧ w.cell? (ad.add i) = some (.int .i64 (nthI l1 i)) := fun i hi => by
      obtain ⟨ad, ha, hx⟩ := Kd.at_int hr1 (i : Int) (by omega) (by omega)
      exact ⟨ad, ha, by rw [Int.toNat_natCast] at hx; exact hx⟩
    have hf : ∀ i, i < l1.length → -9223372036854775808 ≤ nthI l1 i ∧ nthI l1 i ≤ 9223372036854775807 := fun i hi => by
      rw [nthI_eq l1 i hi]
      exact of_decide_eq_true (List.all_eq_true.1 hc.2.1 _ (List.getElem_mem hi))
    have ht : -9223372036854775808 ≤ a0 ∧ a0 ≤ 9223372036854775807 := of_decide_eq_true hc.2.2
    unfold splitP at e
    split at e
    · rename_i ht0
      obtain ⟨rfl, rfl⟩ := Prod.mk.inj e
      subst ht0
      refine (StSort.split_none A1 l1.length c1 w).mono fun e w' ⟨he, hw⟩ => ⟨_, he, Kd.R_nil _ _ _ _ _, hw ▸ Below.refl _ _⟩
    · rename_i ht0
      split at e
      · rename_i hg
        obtain ⟨rfl, rfl⟩ := Prod.mk.inj e
        have hg' := (good_iff l1).2 hg
        refine (StSort.split_good a0 A1 l1.length c1 (nthI l1) w ht0 ht.1 ht.2 hcell hf hg').mono fun e w' hp => ?_
        obtain ⟨he, hb, hrow⟩ := hp
        refine ⟨_, he, ?_, hb⟩
        have hlen : ((List.range l1.length).map (partV a0 (nthI l1) l1.length)).length = l1.length := by simp
        have ho := hrow.own (base := w.heap.size) (Nat.le_refl _) (by have := hg'.n2; simp only [maxLen]; omega) ((List.range l1.length).map (partV a0 (nthI l1) l1.length)) hlen (fun i hi => by simp [hi])
        refine Kd.R_of_own (enc := Value.int .i64) (h1 := fun _ => rfl) ?_ (fun _ _ => trivial)
        rw [hlen]
        exact ho
      · rename_i hg
        obtain ⟨rfl, rfl⟩ := Prod.mk.inj e
        refine (StSort.split_bad a0 A1 l1.length c1 (nthI l1) w ht0 (of_decide_eq_true hc.1) hcell hf (fun q => hg ((good_iff l1).1 q))).mono fun e w' ⟨he, hw⟩ => ⟨_, he, Kd.R_nil _ _ _ _ _, hw ▸ Below.refl _ _⟩
  · cases h
def money_Ratio.f (a n d how : Int) : Option (Int × Int) := if in64 a = true ∧ in64 n = true ∧ in64 d = true then some (ratV a n d how, ratE a n d how) else none
theorem money_Ratio.calls (a0 a1 a2 a3 : Int) (r1 r2 : Int) (w : World) (h : money_Ratio.f a0 a1 a2 a3 = some (r1, r2)) (G : Glob w) :
    Calls Tryd.prog 12 #[.int .i64 a0, .int .i64 a1, .int .i64 a2, .int .i64 a3] w fun e w' => e = .returned (.tuple #[.int .i64 r1, .int .i64 r2]) ∧ Below w.heap.size w w' := by
  unfold money_Ratio.f at h
  split at h
  · rename_i hc
    obtain ⟨rfl, rfl⟩ := Prod.mk.inj (Option.some.inj h)
    exact ratio_any a0 a1 a2 a3 w (of_decide_eq_true hc.1) (of_decide_eq_true hc.2.1) (of_decide_eq_true hc.2.2)
  · cases h
def money_Mul.f (a b : Int) : Option (Int × Int) := if in64 a = true ∧ in64 b = true then some (mulV a b, mulE a b) else none
theorem money_Mul.calls (a0 a1 : Int) (r1 r2 : Int) (w : World) (h : money_Mul.f a0 a1 = some (r1, r2)) (G : Glob w) :
    Calls Tryd.prog 16 #[.int .i64 a0, .int .i64 a1] w fun e w' => e = .returned (.tuple #[.int .i64 r1, .int .i64 r2]) ∧ Below w.heap.size w w' := by
  unfold money_Mul.f at h
  split at h
  · rename_i hc
    obtain ⟨rfl, rfl⟩ := Prod.mk.inj (Option.some.inj h)
    exact (mul_any a0 a1 w (of_decide_eq_true hc.1) (of_decide_eq_true hc.2)).mono fun e w' ⟨he, hw⟩ => ⟨he, hw ▸ Below.refl _ _⟩
  · cases h
end Go.Proofs.YtncndmhmmfbklaaDoor.X
