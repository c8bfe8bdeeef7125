/- Contracts of the small functions of the calendar: each computes what the plain arithmetic says, and leaves the world alone. -/
import Derived.Test.YtidjipcdnkgigaaDoorProg
import Derived.Test.YtidjipcdnkgigaaDoorMath
import Derived.Below
import Derived.WalkKit
import Derived.OwnWalk
import Derived.KernelRfl
import Derived.Deep.QuietTactic
import Derived.BigQuiet
import Derived.WalkLawsBesides
import Derived.WalkSpells
import Derived.Outline
import Derived.Lib.Hide
namespace Go.Proofs.YtidjipcdnkgigaaDoor
set_option linter.unusedVariables false
set_option linter.unusedSimpArgs false
open Go.RowKit
open DayMath (leapP lp dim long cum num valid)

theorem tmod0 (y k : Int) : (Int.tmod y k = 0) ↔ (y % k = 0) := by
  rw [← Int.dvd_iff_tmod_eq_zero, ← Int.dvd_iff_emod_eq_zero]

def leapB (y : Int) : Bool := decide (leapP y)

theorem leap_tt {y : Int} (h : leapP y) : leapB y = true := by unfold leapB; simpa using h
theorem leap_ff {y : Int} (h : ¬ leapP y) : leapB y = false := by unfold leapB; simpa using h

/-- day.Leap -/
theorem leap_any (y : Int) (w : World) : Calls Tryd.prog 17 #[.int .i64 y] w fun e w' => e = .returned (.bool (leapB y)) ∧ w = w' := by
  by_cases h4 : y.tmod 4 = 0
  · by_cases h100 : y.tmod 100 = 0
    · by_cases h400 : y.tmod 400 = 0
      · have hl := leap_tt (y := y) (by unfold leapP; simp only [tmod0] at h4 h100 h400; omega)
        have a := beq_iff_eq.mpr h4
        have b : (y.tmod 100 != 0) = false := bne_eq_false_iff_eq.mpr h100
        have c := beq_iff_eq.mpr h400
        have Hl := Lib.hid hl
        clear hl h4 h100 h400
        go_enter Tryd.func17, Tryd.ntmps17
        go_wp2
        go_ret
        exact ⟨by rw [Hl.out]; rfl, rfl⟩
      · have hl := leap_ff (y := y) (by unfold leapP; simp only [tmod0] at h4 h100 h400; omega)
        have a := beq_iff_eq.mpr h4
        have b : (y.tmod 100 != 0) = false := bne_eq_false_iff_eq.mpr h100
        have c := beq_eq_false_iff_ne.mpr h400
        have Hl := Lib.hid hl
        clear hl h4 h100 h400
        go_enter Tryd.func17, Tryd.ntmps17
        go_wp2
        go_ret
        exact ⟨by rw [Hl.out]; rfl, rfl⟩
    · have hl := leap_tt (y := y) (by unfold leapP; simp only [tmod0] at h4 h100; omega)
      have a := beq_iff_eq.mpr h4
      have b : (y.tmod 100 != 0) = true := bne_iff_ne.mpr h100
      have Hl := Lib.hid hl
      clear hl h4 h100
      go_enter Tryd.func17, Tryd.ntmps17
      go_wp2
      go_ret
      exact ⟨by rw [Hl.out]; rfl, rfl⟩
  · have hl := leap_ff (y := y) (by unfold leapP; simp only [tmod0] at h4; omega)
    have a := beq_eq_false_iff_ne.mpr h4
    have c : (y.tmod 400 == 0) = false := by rw [beq_eq_false_iff_ne]; simp only [ne_eq, tmod0] at h4 ⊢; omega
    have Hl := Lib.hid hl
    clear hl h4
    go_enter Tryd.func17, Tryd.ntmps17
    go_wp2
    go_ret
    exact ⟨by rw [Hl.out]; rfl, rfl⟩
/-- daybookref02.Leap -/
theorem rleap_any (y : Int) (w : World) : Calls Tryd.prog 18 #[.int .i64 y] w fun e w' => e = .returned (.bool (leapB y)) ∧ w = w' := by
  by_cases h4 : y.tmod 4 = 0
  · by_cases h100 : y.tmod 100 = 0
    · by_cases h400 : y.tmod 400 = 0
      · have hl := leap_tt (y := y) (by unfold leapP; simp only [tmod0] at h4 h100 h400; omega)
        have a := beq_iff_eq.mpr h4
        have b : (y.tmod 100 != 0) = false := bne_eq_false_iff_eq.mpr h100
        have c := beq_iff_eq.mpr h400
        have Hl := Lib.hid hl
        clear hl h4 h100 h400
        go_enter Tryd.func18, Tryd.ntmps18
        go_wp2
        go_ret
        exact ⟨by rw [Hl.out]; rfl, rfl⟩
      · have hl := leap_ff (y := y) (by unfold leapP; simp only [tmod0] at h4 h100 h400; omega)
        have a := beq_iff_eq.mpr h4
        have b : (y.tmod 100 != 0) = false := bne_eq_false_iff_eq.mpr h100
        have c := beq_eq_false_iff_ne.mpr h400
        have Hl := Lib.hid hl
        clear hl h4 h100 h400
        go_enter Tryd.func18, Tryd.ntmps18
        go_wp2
        go_ret
        exact ⟨by rw [Hl.out]; rfl, rfl⟩
    · have hl := leap_tt (y := y) (by unfold leapP; simp only [tmod0] at h4 h100; omega)
      have a := beq_iff_eq.mpr h4
      have b : (y.tmod 100 != 0) = true := bne_iff_ne.mpr h100
      have Hl := Lib.hid hl
      clear hl h4 h100
      go_enter Tryd.func18, Tryd.ntmps18
      go_wp2
      go_ret
      exact ⟨by rw [Hl.out]; rfl, rfl⟩
  · have hl := leap_ff (y := y) (by unfold leapP; simp only [tmod0] at h4; omega)
    have a := beq_eq_false_iff_ne.mpr h4
    have c : (y.tmod 400 == 0) = false := by rw [beq_eq_false_iff_ne]; simp only [ne_eq, tmod0] at h4 ⊢; omega
    have Hl := Lib.hid hl
    clear hl h4
    go_enter Tryd.func18, Tryd.ntmps18
    go_wp2
    go_ret
    exact ⟨by rw [Hl.out]; rfl, rfl⟩

theorem ret_int {k : IntKind} {a b : Int} (h : a = b) : Ending.returned (.int k a) = .returned (.int k b) := by rw [h]

/-- the months' lengths of a common year, as the table has them -/
def md (m : Int) : Int := if m = 2 then 28 else if m = 4 ∨ m = 6 ∨ m = 9 ∨ m = 11 then 30 else 31
/-- the table of the months lies in the world -/
def LD (w : World) : Prop := ∀ m : Int, 1 ≤ m → m ≤ 12 → w.cell? ⟨0, m.toNat - 1, none⟩ = some (.int .i64 (md m))

theorem LD.below {B : Nat} {w w' : World} (h : LD w) (hb : Below B w w') (hB : 0 < B) : LD w' := fun m h1 h2 => by
  rw [hb.cell (p := ⟨0, m.toNat - 1, none⟩) hB]; exact h m h1 h2
theorem LD.pos {w : World} (h : LD w) : 0 < w.heap.size := by
  have h1 := h 1 (by omega) (by omega)
  rcases Nat.eq_zero_or_pos w.heap.size with e | e
  · exfalso
    have : w.heap[0]? = none := by rw [Array.getElem?_eq_none]; omega
    simp [World.cell?, this] at h1
  · exact e

/-- day.length -/
theorem length_any (y m : Int) (w : World) (hL : LD w) (h1 : 1 ≤ m) (h2 : m ≤ 12) :
    Calls Tryd.prog 39 #[.int .i64 y, .int .i64 m] w fun e w' => e = .returned (.int .i64 (dim y m)) ∧ w = w' := by
  have hc := hL m h1 h2
  clear hL
  by_cases hm : m = 2
  · subst hm
    by_cases hl : leapP y
    · have h' := leap_tt hl
      have hd : dim y 2 = 29 := by simp [dim, lp, hl]
      have Hd := Lib.hid hd
      have H' := Lib.hid h'
      clear hl h' hd
      go_enter Tryd.func39, Tryd.ntmps39
      go_wp2_with (go_at_call 17; refine (leap_any _ _).mono ?_; rintro e w' ⟨rfl, rfl⟩; rw [H'.out])
      go_ret
      exact ⟨by rw [Hd.out]; rfl, rfl⟩
    · have h' := leap_ff hl
      have hd : dim y 2 = 28 := by simp [dim, lp, hl]
      have Hd := Lib.hid hd
      have H' := Lib.hid h'
      have hc2 : w.cell? ⟨0, 1, none⟩ = some (.int .i64 28) := hc
      clear hl h' hd hc
      go_enter Tryd.func39, Tryd.ntmps39
      go_wp2_with (go_at_call 17; refine (leap_any _ _).mono ?_; rintro e w' ⟨rfl, rfl⟩; rw [H'.out])
      go_ret
      exact ⟨by rw [Hd.out]; rfl, rfl⟩
  · have hd : dim y m = md m := by unfold dim md; rw [if_neg hm, if_neg hm]
    have Hd := Lib.hid hd
    have hm' := beq_eq_false_iff_ne.mpr hm
    have h3 : (0 : Int) ≤ m - 1 := by omega
    have h4 : m - 1 < 12 := by omega
    clear hd hm
    go_enter Tryd.func39, Tryd.ntmps39
    go_wp2

    go_ret
    exact ⟨by rw [Hd.out]; rfl, rfl⟩
end Go.Proofs.YtidjipcdnkgigaaDoor
