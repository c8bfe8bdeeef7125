/- The outright law DayMonthEnds, walked. -/
import Derived.Test.YtidjipcdnkgigaaDoorDayU0
namespace Go.Proofs.YtidjipcdnkgigaaDoor
set_option linter.unusedVariables false
set_option linter.unusedSimpArgs false
open Go.RowKit Go.ChangeShapes Go.WideShapes
open DayMath (leapP lp dim long cum num valid dY dM dD monthsOn monthsOK)

set_option maxHeartbeats 8000000 in
set_option maxRecDepth 100000 in
theorem dayMonthEnds_b_min (n k N : Int) (w : World) (hL : LW w) (n1 : -9223372036854775808 ≤ n) (n2 : n ≤ 9223372036854775807) (k3 : -9223372036854775808 ≤ k) (k4 : k ≤ 9223372036854775807) (hN : dayOf n = N) (N1 : 1 ≤ N) (N2 : N ≤ 3652059) (hy : dY N < 9999) (hm : dM N = 2) (hd : dD N ≠ 29) (k1 : -9223372036854775808 = k) :
    Calls Tryd.prog 13 #[.int .i64 n, .int .i64 k] w fun e w' => e = .returned (.bool true) ∧ Below w.heap.size w w' := by
  have HN := Lib.hid hN
  clear hN
  have HO := Lib.hid (DayMath.year_ok N N1 N2 hy)
  have hyb : (dY N == 9999) = false := by rw [beq_eq_false_iff_ne]; omega
  have Hyd := DayMath.year_date N N1 N2 hy
  have Y1 := Hyd.2.2.2.1
  have Y2 := Hyd.2.2.2.2
  clear Hyd
  have HX := Lib.hid (DayMath.year_plain N N1 N2 hy (Or.inr hd))
  have hmb : (dM N == 2) = true := beq_iff_eq.mpr hm
  have hdb9 : (dD N == 29) = false := beq_eq_false_iff_ne.mpr hd
  have hkb : (k == -9223372036854775808) = true := by rw [beq_iff_eq]; omega
  obtain ⟨v1, v2, v3, v4, v5, v6⟩ := (DayMath.date_spec N N1 (by omega)).1
  have HM := Lib.hid (show monthB (dY N) (dM N) from ⟨v1, v2, v3, v4⟩)
  have hdb := DayMath.dim_bd (dY N) (dM N)
  obtain ⟨A, hA⟩ : ∃ A, N - dD N + 1 = A := ⟨_, rfl⟩
  obtain ⟨B, hB⟩ : ∃ B, N - dD N + dim (dY N) (dM N) = B := ⟨_, rfl⟩
  have hA1 : A ≤ N := by omega
  have hB1 : N ≤ B := by omega
  have hA0 : -40 ≤ A := by omega
  have hB0 : B ≤ 3652159 := by omega
  have hAB : (B - A + 1 != dim (dY N) (dM N)) = false := by rw [bne_eq_false_iff_eq]; omega
  have hND : (N - A + 1 != dD N) = false := by rw [bne_eq_false_iff_eq]; omega
  have HA := Lib.hid hA
  have HBl := Lib.hid hB
  have HL := Lib.hid hL
  clear hL hA hB hm hd k1
  go_enter Tryd.func13, Tryd.ntmps13
  go_wp2_with fail
  refine (lawfirst _ HL.out).mono ?_
  rintro e w1 ⟨rfl, hb1⟩
  go_wp2_with fail
  refine (within_any _ _ n1 n2).mono ?_
  rintro e w2 ⟨rfl, rfl⟩
  have E := HN.out
  rw [E]
  clear E
  go_wp2_with fail
  refine (to_any _ _ (HL.out.below hb1).md N1 N2).mono ?_
  rintro e w3 ⟨rfl, hb3⟩
  have f3 : Below w.heap.size w w3 := fm_call hb1 hb3
  go_wp2_with fail
  refine (first_is _ _ _ (HL.out.below (by repeat (first | exact Below.refl _ _ | apply fm_alloc | apply fm_drewN | apply fm_drew | refine fm_call ?_ (by assumption)))).md N1 N2 HA.out).mono ?_
  rintro e w4 ⟨rfl, hb4⟩
  obtain ⟨hc4, hf4⟩ := bcell hb4
  have hz4 : w3.heap.size < w4.heap.size := by have := hb4.size; simp at this; omega
  have f4 : Below w.heap.size w w4 := by repeat (first | exact Below.refl _ _ | apply fm_alloc | apply fm_drewN | apply fm_drew | refine fm_call ?_ (by assumption))
  go_wp2_with fail
  refine (last_is _ _ _ (HL.out.below f4).md N1 N2 HBl.out).mono ?_
  rintro e w5 ⟨rfl, hb5⟩
  obtain ⟨hc5, hf5⟩ := bcell hb5
  have hz5 : w3.heap.size < w5.heap.size := by have := hb5.size; omega
  have f5 : Below w.heap.size w w5 := by repeat (first | exact Below.refl _ _ | apply fm_alloc | apply fm_drewN | apply fm_drew | refine fm_call ?_ (by assumption))
  go_wp2_with fail
  refine (days_yes _ _ _ (HL.out.below f5).md HM.out).mono ?_
  rintro e w6 ⟨rfl, rfl⟩
  go_wp2_with fail
  refine (addMonths_is _ _ _ _ (HL.out.below f5).md HO.out rfl).mono ?_
  rintro e w7 ⟨rfl, hb7⟩
  obtain ⟨hc7, hf7⟩ := bcell hb7
  have hz7 : w3.heap.size < w7.heap.size := by have := hb7.size; omega
  have f7 : Below w.heap.size w w7 := by repeat (first | exact Below.refl _ _ | apply fm_alloc | apply fm_drewN | apply fm_drew | refine fm_call ?_ (by assumption))
  go_wp2_with fail
  refine (to_is _ _ _ _ _ (HL.out.below f7).md Y1 Y2 HX.out).mono ?_
  rintro e w8 ⟨rfl, hb8⟩
  obtain ⟨hc8, hf8⟩ := bcell hb8
  have hz8 : w3.heap.size < w8.heap.size := by have := hb8.size; omega
  have f8 : Below w.heap.size w w8 := by repeat (first | exact Below.refl _ _ | apply fm_alloc | apply fm_drewN | apply fm_drew | refine fm_call ?_ (by assumption))
  go_wp2
  go_ret
  exact ⟨by first | rfl | simp, by repeat (first | exact Below.refl _ _ | assumption | apply fm_alloc | apply fm_drewN | apply fm_drew | refine fm_call ?_ (by assumption))⟩

set_option maxHeartbeats 8000000 in
set_option maxRecDepth 100000 in
theorem dayMonthEnds_b_no (n k N : Int) (w : World) (hL : LW w) (n1 : -9223372036854775808 ≤ n) (n2 : n ≤ 9223372036854775807) (k3 : -9223372036854775808 ≤ k) (k4 : k ≤ 9223372036854775807) (hN : dayOf n = N) (N1 : 1 ≤ N) (N2 : N ≤ 3652059) (hy : dY N < 9999) (hm : dM N = 2) (hd : dD N ≠ 29) (k1 : -9223372036854775808 ≠ k) (hk : ¬ monthsOK N k) :
    Calls Tryd.prog 13 #[.int .i64 n, .int .i64 k] w fun e w' => e = .returned (.bool true) ∧ Below w.heap.size w w' := by
  have HN := Lib.hid hN
  clear hN
  have HO := Lib.hid (DayMath.year_ok N N1 N2 hy)
  have hyb : (dY N == 9999) = false := by rw [beq_eq_false_iff_ne]; omega
  have Hyd := DayMath.year_date N N1 N2 hy
  have Y1 := Hyd.2.2.2.1
  have Y2 := Hyd.2.2.2.2
  clear Hyd
  have HX := Lib.hid (DayMath.year_plain N N1 N2 hy (Or.inr hd))
  have hmb : (dM N == 2) = true := beq_iff_eq.mpr hm
  have hdb9 : (dD N == 29) = false := beq_eq_false_iff_ne.mpr hd
  have hkb : (k == -9223372036854775808) = false := by rw [beq_eq_false_iff_ne]; omega
  have HK := Lib.hid hk
  obtain ⟨v1, v2, v3, v4, v5, v6⟩ := (DayMath.date_spec N N1 (by omega)).1
  have HM := Lib.hid (show monthB (dY N) (dM N) from ⟨v1, v2, v3, v4⟩)
  have hdb := DayMath.dim_bd (dY N) (dM N)
  obtain ⟨A, hA⟩ : ∃ A, N - dD N + 1 = A := ⟨_, rfl⟩
  obtain ⟨B, hB⟩ : ∃ B, N - dD N + dim (dY N) (dM N) = B := ⟨_, rfl⟩
  have hA1 : A ≤ N := by omega
  have hB1 : N ≤ B := by omega
  have hA0 : -40 ≤ A := by omega
  have hB0 : B ≤ 3652159 := by omega
  have hAB : (B - A + 1 != dim (dY N) (dM N)) = false := by rw [bne_eq_false_iff_eq]; omega
  have hND : (N - A + 1 != dD N) = false := by rw [bne_eq_false_iff_eq]; omega
  have HA := Lib.hid hA
  have HBl := Lib.hid hB
  have HL := Lib.hid hL
  clear hL hA hB hm hd k1 hk
  go_enter Tryd.func13, Tryd.ntmps13
  go_wp2_with fail
  refine (lawfirst _ HL.out).mono ?_
  rintro e w1 ⟨rfl, hb1⟩
  go_wp2_with fail
  refine (within_any _ _ n1 n2).mono ?_
  rintro e w2 ⟨rfl, rfl⟩
  have E := HN.out
  rw [E]
  clear E
  go_wp2_with fail
  refine (to_any _ _ (HL.out.below hb1).md N1 N2).mono ?_
  rintro e w3 ⟨rfl, hb3⟩
  have f3 : Below w.heap.size w w3 := fm_call hb1 hb3
  go_wp2_with fail
  refine (first_is _ _ _ (HL.out.below (by repeat (first | exact Below.refl _ _ | apply fm_alloc | apply fm_drewN | apply fm_drew | refine fm_call ?_ (by assumption)))).md N1 N2 HA.out).mono ?_
  rintro e w4 ⟨rfl, hb4⟩
  obtain ⟨hc4, hf4⟩ := bcell hb4
  have hz4 : w3.heap.size < w4.heap.size := by have := hb4.size; simp at this; omega
  have f4 : Below w.heap.size w w4 := by repeat (first | exact Below.refl _ _ | apply fm_alloc | apply fm_drewN | apply fm_drew | refine fm_call ?_ (by assumption))
  go_wp2_with fail
  refine (last_is _ _ _ (HL.out.below f4).md N1 N2 HBl.out).mono ?_
  rintro e w5 ⟨rfl, hb5⟩
  obtain ⟨hc5, hf5⟩ := bcell hb5
  have hz5 : w3.heap.size < w5.heap.size := by have := hb5.size; omega
  have f5 : Below w.heap.size w w5 := by repeat (first | exact Below.refl _ _ | apply fm_alloc | apply fm_drewN | apply fm_drew | refine fm_call ?_ (by assumption))
  go_wp2_with fail
  refine (days_yes _ _ _ (HL.out.below f5).md HM.out).mono ?_
  rintro e w6 ⟨rfl, rfl⟩
  go_wp2_with fail
  refine (addMonths_is _ _ _ _ (HL.out.below f5).md HO.out rfl).mono ?_
  rintro e w7 ⟨rfl, hb7⟩
  obtain ⟨hc7, hf7⟩ := bcell hb7
  have hz7 : w3.heap.size < w7.heap.size := by have := hb7.size; omega
  have f7 : Below w.heap.size w w7 := by repeat (first | exact Below.refl _ _ | apply fm_alloc | apply fm_drewN | apply fm_drew | refine fm_call ?_ (by assumption))
  go_wp2_with fail
  refine (to_is _ _ _ _ _ (HL.out.below f7).md Y1 Y2 HX.out).mono ?_
  rintro e w8 ⟨rfl, hb8⟩
  obtain ⟨hc8, hf8⟩ := bcell hb8
  have hz8 : w3.heap.size < w8.heap.size := by have := hb8.size; omega
  have f8 : Below w.heap.size w w8 := by repeat (first | exact Below.refl _ _ | apply fm_alloc | apply fm_drewN | apply fm_drew | refine fm_call ?_ (by assumption))
  go_wp2_with fail
  refine (addMonths_no _ _ _ (HL.out.below (by repeat (first | exact Below.refl _ _ | assumption | apply fm_alloc | apply fm_drewN | apply fm_drew | refine fm_call ?_ (by assumption)))).md HK.out).mono ?_
  rintro e w9 ⟨rfl, hb9⟩
  go_wp2
  go_ret
  exact ⟨by first | rfl | simp, by repeat (first | exact Below.refl _ _ | assumption | apply fm_alloc | apply fm_drewN | apply fm_drew | refine fm_call ?_ (by assumption))⟩

set_option maxHeartbeats 8000000 in
set_option maxRecDepth 100000 in
theorem dayMonthEnds_b_ok (n k N : Int) (w : World) (hL : LW w) (n1 : -9223372036854775808 ≤ n) (n2 : n ≤ 9223372036854775807) (k3 : -9223372036854775808 ≤ k) (k4 : k ≤ 9223372036854775807) (hN : dayOf n = N) (N1 : 1 ≤ N) (N2 : N ≤ 3652059) (hy : dY N < 9999) (hm : dM N = 2) (hd : dD N ≠ 29) (k1 : -9223372036854775808 ≠ k) (hk : monthsOK N k) :
    Calls Tryd.prog 13 #[.int .i64 n, .int .i64 k] w fun e w' => e = .returned (.bool true) ∧ Below w.heap.size w w' := by
  have HN := Lib.hid hN
  clear hN
  have HO := Lib.hid (DayMath.year_ok N N1 N2 hy)
  have hyb : (dY N == 9999) = false := by rw [beq_eq_false_iff_ne]; omega
  have Hyd := DayMath.year_date N N1 N2 hy
  have Y1 := Hyd.2.2.2.1
  have Y2 := Hyd.2.2.2.2
  clear Hyd
  have HX := Lib.hid (DayMath.year_plain N N1 N2 hy (Or.inr hd))
  have hmb : (dM N == 2) = true := beq_iff_eq.mpr hm
  have hdb9 : (dD N == 29) = false := beq_eq_false_iff_ne.mpr hd
  have hkb : (k == -9223372036854775808) = false := by rw [beq_eq_false_iff_ne]; omega
  have HK := Lib.hid hk
  have HB := Lib.hid (DayMath.months_back N k hk)
  obtain ⟨v1, v2, v3, v4, v5, v6⟩ := (DayMath.date_spec N N1 (by omega)).1
  have HM := Lib.hid (show monthB (dY N) (dM N) from ⟨v1, v2, v3, v4⟩)
  have hdb := DayMath.dim_bd (dY N) (dM N)
  obtain ⟨A, hA⟩ : ∃ A, N - dD N + 1 = A := ⟨_, rfl⟩
  obtain ⟨B, hB⟩ : ∃ B, N - dD N + dim (dY N) (dM N) = B := ⟨_, rfl⟩
  have hA1 : A ≤ N := by omega
  have hB1 : N ≤ B := by omega
  have hA0 : -40 ≤ A := by omega
  have hB0 : B ≤ 3652159 := by omega
  have hAB : (B - A + 1 != dim (dY N) (dM N)) = false := by rw [bne_eq_false_iff_eq]; omega
  have hND : (N - A + 1 != dD N) = false := by rw [bne_eq_false_iff_eq]; omega
  have HA := Lib.hid hA
  have HBl := Lib.hid hB
  have hzA : A ≤ DayMath.addMonths (DayMath.addMonths N k) (-k) := by have := HB.out.2.2; omega
  have hzN : DayMath.addMonths (DayMath.addMonths N k) (-k) ≤ N := HB.out.2.1
  have kb1 : -119988 ≤ k := hk.2.2.1
  have kb2 : k ≤ 119988 := hk.2.2.2.1
  have HL := Lib.hid hL
  clear hL hA hB hm hd k1 hk
  go_enter Tryd.func13, Tryd.ntmps13
  go_wp2_with fail
  refine (lawfirst _ HL.out).mono ?_
  rintro e w1 ⟨rfl, hb1⟩
  go_wp2_with fail
  refine (within_any _ _ n1 n2).mono ?_
  rintro e w2 ⟨rfl, rfl⟩
  have E := HN.out
  rw [E]
  clear E
  go_wp2_with fail
  refine (to_any _ _ (HL.out.below hb1).md N1 N2).mono ?_
  rintro e w3 ⟨rfl, hb3⟩
  have f3 : Below w.heap.size w w3 := fm_call hb1 hb3
  go_wp2_with fail
  refine (first_is _ _ _ (HL.out.below (by repeat (first | exact Below.refl _ _ | apply fm_alloc | apply fm_drewN | apply fm_drew | refine fm_call ?_ (by assumption)))).md N1 N2 HA.out).mono ?_
  rintro e w4 ⟨rfl, hb4⟩
  obtain ⟨hc4, hf4⟩ := bcell hb4
  have hz4 : w3.heap.size < w4.heap.size := by have := hb4.size; simp at this; omega
  have f4 : Below w.heap.size w w4 := by repeat (first | exact Below.refl _ _ | apply fm_alloc | apply fm_drewN | apply fm_drew | refine fm_call ?_ (by assumption))
  go_wp2_with fail
  refine (last_is _ _ _ (HL.out.below f4).md N1 N2 HBl.out).mono ?_
  rintro e w5 ⟨rfl, hb5⟩
  obtain ⟨hc5, hf5⟩ := bcell hb5
  have hz5 : w3.heap.size < w5.heap.size := by have := hb5.size; omega
  have f5 : Below w.heap.size w w5 := by repeat (first | exact Below.refl _ _ | apply fm_alloc | apply fm_drewN | apply fm_drew | refine fm_call ?_ (by assumption))
  go_wp2_with fail
  refine (days_yes _ _ _ (HL.out.below f5).md HM.out).mono ?_
  rintro e w6 ⟨rfl, rfl⟩
  go_wp2_with fail
  refine (addMonths_is _ _ _ _ (HL.out.below f5).md HO.out rfl).mono ?_
  rintro e w7 ⟨rfl, hb7⟩
  obtain ⟨hc7, hf7⟩ := bcell hb7
  have hz7 : w3.heap.size < w7.heap.size := by have := hb7.size; omega
  have f7 : Below w.heap.size w w7 := by repeat (first | exact Below.refl _ _ | apply fm_alloc | apply fm_drewN | apply fm_drew | refine fm_call ?_ (by assumption))
  go_wp2_with fail
  refine (to_is _ _ _ _ _ (HL.out.below f7).md Y1 Y2 HX.out).mono ?_
  rintro e w8 ⟨rfl, hb8⟩
  obtain ⟨hc8, hf8⟩ := bcell hb8
  have hz8 : w3.heap.size < w8.heap.size := by have := hb8.size; omega
  have f8 : Below w.heap.size w w8 := by repeat (first | exact Below.refl _ _ | apply fm_alloc | apply fm_drewN | apply fm_drew | refine fm_call ?_ (by assumption))
  go_wp2_with fail
  refine (addMonths_is _ _ _ _ (HL.out.below (by repeat (first | exact Below.refl _ _ | assumption | apply fm_alloc | apply fm_drewN | apply fm_drew | refine fm_call ?_ (by assumption)))).md HK.out rfl).mono ?_
  rintro e w9 ⟨rfl, hb9⟩
  go_wp2_with fail
  refine (addMonths_is _ _ _ _ (HL.out.below (by repeat (first | exact Below.refl _ _ | assumption | apply fm_alloc | apply fm_drewN | apply fm_drew | refine fm_call ?_ (by assumption)))).md HB.out.1 rfl).mono ?_
  rintro e w10 ⟨rfl, hb10⟩
  go_wp2
  go_ret
  exact ⟨by first | rfl | simp, by repeat (first | exact Below.refl _ _ | assumption | apply fm_alloc | apply fm_drewN | apply fm_drew | refine fm_call ?_ (by assumption))⟩

end Go.Proofs.YtidjipcdnkgigaaDoor
