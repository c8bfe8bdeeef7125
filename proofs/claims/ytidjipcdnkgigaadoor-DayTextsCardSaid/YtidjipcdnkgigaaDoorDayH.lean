/- The laws DayNumbers and DayAdds, walked. -/
import Derived.Test.YtidjipcdnkgigaaDoorDayG
namespace Go.Proofs.YtidjipcdnkgigaaDoor
set_option linter.unusedVariables false
set_option linter.unusedSimpArgs false
open Go.RowKit
open DayMath (leapP lp dim long cum num valid dY dM dD monthsOn monthsOK)

theorem fm_alloc {w w' : World} (h : Below w.heap.size w w') (o : Obj) : Below w.heap.size w (w'.alloc o) := h.alloc h.size o
theorem fm_drewN {w w' : World} (h : Below w.heap.size w w') (n : Nat) : Below w.heap.size w (w'.drewN n) := below_drewN h n
theorem fm_drew {w w' : World} (h : Below w.heap.size w w') : Below w.heap.size w w'.drew := h.drew
theorem fm_call {w w1 w2 : World} (h : Below w.heap.size w w1) (k : Below w1.heap.size w1 w2) : Below w.heap.size w w2 := h.trans (k.mono h.size)

set_option maxHeartbeats 2000000 in
theorem dayNumbers_in (n : Int) (w : World) (hL : LD w) (h1 : 1 ≤ n) (h2 : n ≤ 3652059) :
    Calls Tryd.prog 5 #[.int .i64 n] w fun e w' => e = .returned (.bool true) ∧ Below w.heap.size w w' := by
  have HL : ∀ w' : World, Below w.heap.size w w' → LD w' := fun w' b => hL.below b hL.pos
  have HL' := Lib.hid HL
  clear hL HL
  go_enter Tryd.func5, Tryd.ntmps5
  go_wp2_with fail
  refine (to_any _ _ (HL'.out _ (by repeat (first | exact Below.refl _ _ | apply fm_alloc | apply fm_drewN | apply fm_drew | refine fm_call ?_ (by assumption)))) h1 h2).mono ?_
  rintro e w1 ⟨rfl, hb1⟩
  go_wp2_with fail
  refine (rto_any _ _ h1 h2).mono ?_
  rintro e w2 ⟨rfl, hb2⟩
  obtain ⟨hc2, hf2⟩ := bcell hb2
  have hz2 : w1.heap.size < w2.heap.size := by have := hb2.size; simp at this; omega
  go_wp2_with fail
  refine (first_yes _ _ (HL'.out _ (by repeat (first | exact Below.refl _ _ | apply fm_alloc | apply fm_drewN | apply fm_drew | refine fm_call ?_ (by assumption)))) h1 h2).mono ?_
  rintro e w3 ⟨rfl, hb3⟩
  go_wp2_with fail
  refine (rfirst_yes _ _ h1 h2).mono ?_
  rintro e w4 ⟨rfl, hb4⟩
  go_wp2_with (go_at_call 16; refine (alike_yes _ _ _).mono ?_; rintro e w' ⟨rfl, rfl⟩)
  refine (last_yes _ _ (HL'.out _ (by repeat (first | exact Below.refl _ _ | apply fm_alloc | apply fm_drewN | apply fm_drew | refine fm_call ?_ (by assumption)))) h1 h2).mono ?_
  rintro e w5 ⟨rfl, hb5⟩
  go_wp2_with fail
  refine (rlast_yes _ _ h1 h2).mono ?_
  rintro e w6 ⟨rfl, hb6⟩
  go_wp2_with (first
    | (go_at_call 16; refine (alike_yes _ _ _).mono ?_; rintro e w' ⟨rfl, rfl⟩)
    | (go_at_call 27; refine (week_yes _ _ h1 h2).mono ?_; rintro e w' ⟨rfl, rfl⟩)
    | (go_at_call 28; refine (rweek_yes _ _ h1 h2).mono ?_; rintro e w' ⟨rfl, rfl⟩))
  go_ret
  exact ⟨rfl, by repeat (first | exact Below.refl _ _ | apply fm_alloc | apply fm_drewN | apply fm_drew | refine fm_call ?_ (by assumption))⟩
set_option maxHeartbeats 2000000 in
theorem dayNumbers_out (n : Int) (w : World) (h : n < 1 ∨ 3652059 < n) :
    Calls Tryd.prog 5 #[.int .i64 n] w fun e w' => e = .returned (.bool true) ∧ Below w.heap.size w w' := by
  have H := Lib.hid h
  clear h
  go_enter Tryd.func5, Tryd.ntmps5
  go_wp2_with fail
  refine (to_no _ _ H.out).mono ?_
  rintro e w1 ⟨rfl, hb1⟩
  go_wp2_with fail
  refine (rto_no _ _ H.out).mono ?_
  rintro e w2 ⟨rfl, hb2⟩
  obtain ⟨hc2, hf2⟩ := bcell hb2
  have hz2 : w1.heap.size < w2.heap.size := by have := hb2.size; simp at this; omega
  go_wp2_with fail
  refine (first_no _ _ H.out).mono ?_
  rintro e w3 ⟨rfl, hb3⟩
  go_wp2_with fail
  refine (rfirst_no _ _ H.out).mono ?_
  rintro e w4 ⟨rfl, hb4⟩
  go_wp2_with (go_at_call 16; refine (alike_yes _ _ _).mono ?_; rintro e w' ⟨rfl, rfl⟩)
  refine (last_no _ _ H.out).mono ?_
  rintro e w5 ⟨rfl, hb5⟩
  go_wp2_with fail
  refine (rlast_no _ _ H.out).mono ?_
  rintro e w6 ⟨rfl, hb6⟩
  go_wp2_with (first
    | (go_at_call 16; refine (alike_yes _ _ _).mono ?_; rintro e w' ⟨rfl, rfl⟩)
    | (go_at_call 27; refine (week_no _ _ H.out).mono ?_; rintro e w' ⟨rfl, rfl⟩)
    | (go_at_call 28; refine (rweek_no _ _ H.out).mono ?_; rintro e w' ⟨rfl, rfl⟩))
  go_ret
  exact ⟨rfl, by repeat (first | exact Below.refl _ _ | apply fm_alloc | apply fm_drewN | apply fm_drew | refine fm_call ?_ (by assumption))⟩
theorem dayNumbers_walk (n : Int) (w : World) (hL : LD w) :
    Calls Tryd.prog 5 #[.int .i64 n] w fun e w' => e = .returned (.bool true) ∧ Below w.heap.size w w' := by
  by_cases h : n < 1 ∨ 3652059 < n
  · exact dayNumbers_out n w h
  · exact dayNumbers_in n w hL (by omega) (by omega)

open Classical in
noncomputable def addV (n k : Int) : Int := if addOK n k then n + k else 0
open Classical in
noncomputable def addE (n k : Int) : Int := if addOK n k then 0 else 20
open Classical in
noncomputable def monV (n k : Int) : Int := if monthsOK n k then DayMath.addMonths n k else 0
open Classical in
noncomputable def monE (n k : Int) : Int := if monthsOK n k then 0 else 20
theorem add_any (n k : Int) (w : World) : Calls Tryd.prog 29 #[.int .i64 n, .int .i64 k] w fun e w' => e = .returned (.tuple #[.int .i64 (addV n k), .int .i64 (addE n k)]) ∧ w = w' := by
  unfold addV addE
  by_cases h : addOK n k
  · rw [if_pos h, if_pos h]; exact add_yes n k w h
  · rw [if_neg h, if_neg h]; exact add_no n k w h
theorem radd_any (n k : Int) (w : World) : Calls Tryd.prog 30 #[.int .i64 n, .int .i64 k] w fun e w' => e = .returned (.tuple #[.int .i64 (addV n k), .int .i64 (addE n k)]) ∧ w = w' := by
  unfold addV addE
  by_cases h : addOK n k
  · rw [if_pos h, if_pos h]; exact radd_yes n k w h
  · rw [if_neg h, if_neg h]; exact radd_no n k w h
theorem addMonths_any (n k : Int) (w : World) (hL : LD w) : Calls Tryd.prog 31 #[.int .i64 n, .int .i64 k] w fun e w' => e = .returned (.tuple #[.int .i64 (monV n k), .int .i64 (monE n k)]) ∧ Below w.heap.size w w' := by
  unfold monV monE
  by_cases h : monthsOK n k
  · rw [if_pos h, if_pos h]; exact addMonths_yes n k w hL h
  · rw [if_neg h, if_neg h]; exact addMonths_no n k w hL h
theorem raddMonths_any (n k : Int) (w : World) : Calls Tryd.prog 32 #[.int .i64 n, .int .i64 k] w fun e w' => e = .returned (.tuple #[.int .i64 (monV n k), .int .i64 (monE n k)]) ∧ Below w.heap.size w w' := by
  unfold monV monE
  by_cases h : monthsOK n k
  · rw [if_pos h, if_pos h]; exact raddMonths_yes n k w h
  · rw [if_neg h, if_neg h]; exact raddMonths_no n k w h

set_option maxHeartbeats 2000000 in
theorem dayAdds_walk (n k : Int) (w : World) (hL : LD w) :
    Calls Tryd.prog 6 #[.int .i64 n, .int .i64 k] w fun e w' => e = .returned (.bool true) ∧ Below w.heap.size w w' := by
  have HL' := Lib.hid hL
  clear hL
  go_enter Tryd.func6, Tryd.ntmps6
  go_wp2_with (first
    | (go_at_call 29; refine (add_any _ _ _).mono ?_; rintro e w' ⟨rfl, rfl⟩)
    | (go_at_call 30; refine (radd_any _ _ _).mono ?_; rintro e w' ⟨rfl, rfl⟩)
    | (go_at_call 16; refine (alike_yes _ _ _).mono ?_; rintro e w' ⟨rfl, rfl⟩))
  refine (addMonths_any _ _ _ HL'.out).mono ?_
  rintro e w5 ⟨rfl, hb5⟩
  go_wp2_with fail
  refine (raddMonths_any _ _ _).mono ?_
  rintro e w6 ⟨rfl, hb6⟩
  go_wp2_with (go_at_call 16; refine (alike_yes _ _ _).mono ?_; rintro e w' ⟨rfl, rfl⟩)
  go_ret
  exact ⟨rfl, by repeat (first | exact Below.refl _ _ | apply fm_alloc | apply fm_drewN | apply fm_drew | refine fm_call ?_ (by assumption))⟩
end Go.Proofs.YtidjipcdnkgigaaDoor
