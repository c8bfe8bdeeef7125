/- The outright laws DayThere, DaySteps, DayRows, DayCycle, walked. -/
import Derived.Test.YtidjipcdnkgigaaDoorDayQ
namespace Go.Proofs.YtidjipcdnkgigaaDoor
set_option linter.unusedVariables false
set_option linter.unusedSimpArgs false
open Go.RowKit
open DayMath (leapP lp dim long cum num valid dY dM dD monthsOn monthsOK)

/-- To of the day of a date -/
theorem to_num (y m d : Int) (w : World) (hL : LD w) (h : valid y m d) :
    Calls Tryd.prog 21 #[.int .i64 (num y m d)] w fun e w' => e = .returned (.tuple #[.agg #[.int .i64 y, .int .i64 m, .int .i64 d], .int .i64 0]) ∧ Below w.heap.size w w' := by
  have hb := DayMath.num_bd h
  obtain ⟨a, b, c⟩ := DayMath.date_of h rfl
  have := to_any (num y m d) w hL hb.1 hb.2
  rw [← a, ← b, ← c] at this
  exact this

set_option maxHeartbeats 2000000 in
theorem dayThere_yes (y m d : Int) (w : World) (hL : LW w) (h : valid y m d) :
    Calls Tryd.prog 7 #[.agg #[.int .i64 y, .int .i64 m, .int .i64 d]] w fun e w' => e = .returned (.bool true) ∧ Below w.heap.size w w' := by
  have HV := Lib.hid h
  have HM := Lib.hid (show monthB y m from ⟨h.1, h.2.1, h.2.2.1, h.2.2.2.1⟩)
  obtain ⟨_, _, _, _, v5, v6⟩ := h
  have HL := Lib.hid hL
  have B0 : ∀ o, Below w.heap.size w (w.alloc o) := fun o => (Below.refl _ _).alloc (Nat.le_refl _) _
  have HB0 := Lib.hid B0
  clear hL B0
  go_enter Tryd.func7, Tryd.ntmps7
  go_wp2_with fail
  refine (lawfirst _ (HL.out.below (HB0.out _))).mono ?_
  rintro e w1 ⟨rfl, hb1⟩
  obtain ⟨hc1, hf1⟩ := bcell hb1
  have hz1 : w.heap.size < w1.heap.size := by have := hb1.size; simp at this; omega
  have f1 := fm_call (HB0.out _) hb1
  go_wp2_with fail
  refine (from_yes _ _ _ _ (HL.out.below f1).md HV.out).mono ?_
  rintro e w2 ⟨rfl, hb2⟩
  obtain ⟨hc2, hf2⟩ := bcell hb2
  have hz2 : w.heap.size < w2.heap.size := by have := hb2.size; omega
  have f2 := fm_call f1 hb2
  go_wp2_with fail
  refine (days_yes _ _ _ (HL.out.below f2).md HM.out).mono ?_
  rintro e w3 ⟨rfl, rfl⟩
  go_wp2_with fail
  refine (to_num _ _ _ _ (HL.out.below f2).md HV.out).mono ?_
  rintro e w3 ⟨rfl, hb3⟩
  obtain ⟨hc3, hf3⟩ := bcell hb3
  have hz3 : w.heap.size < w3.heap.size := by have := hb3.size; omega
  go_wp2
  go_ret
  exact ⟨by first | rfl | simp, by repeat (first | exact Below.refl _ _ | apply fm_alloc | apply fm_drewN | apply fm_drew | refine fm_call ?_ (by assumption))⟩

set_option maxHeartbeats 2000000 in
theorem dayThere_out (y m d : Int) (w : World) (hL : LW w) (h : ¬ valid y m d) (hM : ¬ monthB y m) :
    Calls Tryd.prog 7 #[.agg #[.int .i64 y, .int .i64 m, .int .i64 d]] w fun e w' => e = .returned (.bool true) ∧ Below w.heap.size w w' := by
  have HV := Lib.hid h
  have HM := Lib.hid hM
  have HL := Lib.hid hL
  have B0 : ∀ o, Below w.heap.size w (w.alloc o) := fun o => (Below.refl _ _).alloc (Nat.le_refl _) _
  have HB0 := Lib.hid B0
  clear hL B0 h hM
  go_enter Tryd.func7, Tryd.ntmps7
  go_wp2_with fail
  refine (lawfirst _ (HL.out.below (HB0.out _))).mono ?_
  rintro e w1 ⟨rfl, hb1⟩
  obtain ⟨hc1, hf1⟩ := bcell hb1
  have hz1 : w.heap.size < w1.heap.size := by have := hb1.size; simp at this; omega
  have f1 := fm_call (HB0.out _) hb1
  go_wp2_with fail
  refine (from_no _ _ _ _ (HL.out.below f1).md HV.out).mono ?_
  rintro e w2 ⟨rfl, hb2⟩
  obtain ⟨hc2, hf2⟩ := bcell hb2
  have hz2 : w.heap.size < w2.heap.size := by have := hb2.size; omega
  have f2 := fm_call f1 hb2
  go_wp2_with fail
  refine (days_no _ _ _ HM.out).mono ?_
  rintro e w3 ⟨rfl, rfl⟩
  go_wp2
  go_ret
  exact ⟨by first | rfl | simp, by repeat (first | exact Below.refl _ _ | apply fm_alloc | apply fm_drewN | apply fm_drew | refine fm_call ?_ (by assumption))⟩

set_option maxHeartbeats 2000000 in
theorem dayThere_low (y m d : Int) (w : World) (hL : LW w) (h : ¬ valid y m d) (hM : monthB y m) (hd : d < 1) :
    Calls Tryd.prog 7 #[.agg #[.int .i64 y, .int .i64 m, .int .i64 d]] w fun e w' => e = .returned (.bool true) ∧ Below w.heap.size w w' := by
  have HV := Lib.hid h
  have HM := Lib.hid hM
  have HL := Lib.hid hL
  have B0 : ∀ o, Below w.heap.size w (w.alloc o) := fun o => (Below.refl _ _).alloc (Nat.le_refl _) _
  have HB0 := Lib.hid B0
  clear hL B0 h hM
  go_enter Tryd.func7, Tryd.ntmps7
  go_wp2_with fail
  refine (lawfirst _ (HL.out.below (HB0.out _))).mono ?_
  rintro e w1 ⟨rfl, hb1⟩
  obtain ⟨hc1, hf1⟩ := bcell hb1
  have hz1 : w.heap.size < w1.heap.size := by have := hb1.size; simp at this; omega
  have f1 := fm_call (HB0.out _) hb1
  go_wp2_with fail
  refine (from_no _ _ _ _ (HL.out.below f1).md HV.out).mono ?_
  rintro e w2 ⟨rfl, hb2⟩
  obtain ⟨hc2, hf2⟩ := bcell hb2
  have hz2 : w.heap.size < w2.heap.size := by have := hb2.size; omega
  have f2 := fm_call f1 hb2
  go_wp2_with fail
  refine (days_yes _ _ _ (HL.out.below f2).md HM.out).mono ?_
  rintro e w3 ⟨rfl, rfl⟩
  go_wp2
  go_ret
  exact ⟨by first | rfl | simp, by repeat (first | exact Below.refl _ _ | apply fm_alloc | apply fm_drewN | apply fm_drew | refine fm_call ?_ (by assumption))⟩

set_option maxHeartbeats 2000000 in
theorem dayThere_high (y m d : Int) (w : World) (hL : LW w) (h : ¬ valid y m d) (hM : monthB y m) (hd : dim y m < d) :
    Calls Tryd.prog 7 #[.agg #[.int .i64 y, .int .i64 m, .int .i64 d]] w fun e w' => e = .returned (.bool true) ∧ Below w.heap.size w w' := by
  have HV := Lib.hid h
  have HM := Lib.hid hM
  have HL := Lib.hid hL
  have B0 : ∀ o, Below w.heap.size w (w.alloc o) := fun o => (Below.refl _ _).alloc (Nat.le_refl _) _
  have HB0 := Lib.hid B0
  have hd0 : 1 ≤ d := by have := DayMath.dim_bd y m; omega
  clear hL B0 h hM
  go_enter Tryd.func7, Tryd.ntmps7
  go_wp2_with fail
  refine (lawfirst _ (HL.out.below (HB0.out _))).mono ?_
  rintro e w1 ⟨rfl, hb1⟩
  obtain ⟨hc1, hf1⟩ := bcell hb1
  have hz1 : w.heap.size < w1.heap.size := by have := hb1.size; simp at this; omega
  have f1 := fm_call (HB0.out _) hb1
  go_wp2_with fail
  refine (from_no _ _ _ _ (HL.out.below f1).md HV.out).mono ?_
  rintro e w2 ⟨rfl, hb2⟩
  obtain ⟨hc2, hf2⟩ := bcell hb2
  have hz2 : w.heap.size < w2.heap.size := by have := hb2.size; omega
  have f2 := fm_call f1 hb2
  go_wp2_with fail
  refine (days_yes _ _ _ (HL.out.below f2).md HM.out).mono ?_
  rintro e w3 ⟨rfl, rfl⟩
  go_wp2
  go_ret
  exact ⟨by first | rfl | simp, by repeat (first | exact Below.refl _ _ | apply fm_alloc | apply fm_drewN | apply fm_drew | refine fm_call ?_ (by assumption))⟩

theorem dayThere_walk (y m d : Int) (w : World) (hL : LW w) :
    Calls Tryd.prog 7 #[.agg #[.int .i64 y, .int .i64 m, .int .i64 d]] w fun e w' => e = .returned (.bool true) ∧ Below w.heap.size w w' := by
  by_cases h : valid y m d
  · exact dayThere_yes y m d w hL h
  · by_cases hM : monthB y m
    · by_cases hd : d < 1
      · exact dayThere_low y m d w hL h hM hd
      · refine dayThere_high y m d w hL h hM ?_
        unfold valid at h
        unfold monthB at hM
        omega
    · exact dayThere_out y m d w hL h hM

end Go.Proofs.YtidjipcdnkgigaaDoor
