/- The outright laws DayRows, DayCycle, walked. -/
import Derived.Test.YtidjipcdnkgigaaDoorDayS
namespace Go.Proofs.YtidjipcdnkgigaaDoor
set_option linter.unusedVariables false
set_option linter.unusedSimpArgs false
open Go.RowKit Go.ChangeShapes Go.WideShapes
open DayMath (leapP lp dim long cum num valid dY dM dD monthsOn monthsOK)

theorem add_is (n k v : Int) (w : World) (h : addOK n k) (hv : n + k = v) :
    Calls Tryd.prog 29 #[.int .i64 n, .int .i64 k] w fun e w' => e = .returned (.tuple #[.int .i64 v, .int .i64 0]) ∧ w = w' := by
  subst hv; exact add_yes n k w h

set_option maxHeartbeats 4000000 in
theorem dayRows_in (n a b N A B : Int) (w : World) (hL : LW w) (n1 : -9223372036854775808 ≤ n) (n2 : n ≤ 9223372036854775807) (a1 : -9223372036854775808 ≤ a) (a2 : a ≤ 9223372036854775807)
    (b1 : -9223372036854775808 ≤ b) (b2 : b ≤ 9223372036854775807) (hN : dayOf n = N) (hA : dayOf a = A) (hB : dayOf b = B)
    (N1 : 1 ≤ N) (N2 : N ≤ 3652059) (A1 : 1 ≤ A) (A2 : A ≤ 3652059) (B1 : 1 ≤ B) (B2 : B ≤ 3652059) (hc : 1 ≤ N + (A - B)) (hc2 : N + (A - B) ≤ 3652059) :
    Calls Tryd.prog 9 #[.int .i64 n, .int .i64 a, .int .i64 b] w fun e w' => e = .returned (.bool true) ∧ Below w.heap.size w w' := by
  have HN := Lib.hid hN
  have HA := Lib.hid hA
  have HB := Lib.hid hB
  clear hN hA hB
  have HL := Lib.hid hL
  clear hL
  go_enter Tryd.func9, Tryd.ntmps9
  go_wp2_with fail
  refine (lawfirst _ HL.out).mono ?_
  rintro e w1 ⟨rfl, hb1⟩
  go_wp2_with fail
  refine (within_any _ _ n1 n2).mono ?_
  rintro e w2 ⟨rfl, rfl⟩
  have E := HN.out
  rw [E]
  clear E
  go_wp2_with fail
  refine (within_any _ _ a1 a2).mono ?_
  rintro e w2 ⟨rfl, rfl⟩
  have E := HA.out
  rw [E]
  clear E
  go_wp2_with fail
  refine (within_any _ _ b1 b2).mono ?_
  rintro e w2 ⟨rfl, rfl⟩
  have E := HB.out
  rw [E]
  clear E
  go_wp2_with fail
  refine (within_any _ _ b1 b2).mono ?_
  rintro e w2 ⟨rfl, rfl⟩
  have E := HB.out
  rw [E]
  clear E
  go_wp2_with fail
  refine (add_is _ _ (N + (A - B)) _ (by unfold addOK; omega) rfl).mono ?_
  rintro e w2 ⟨rfl, rfl⟩
  go_wp2_with fail
  refine (add_is _ _ A _ (by unfold addOK; omega) (by omega)).mono ?_
  rintro e w2 ⟨rfl, rfl⟩
  go_wp2_with fail
  refine (add_is _ _ A _ (by unfold addOK; omega) (by omega)).mono ?_
  rintro e w2 ⟨rfl, rfl⟩
  go_wp2
  go_ret
  exact ⟨by first | rfl | simp, by repeat (first | exact Below.refl _ _ | apply fm_alloc | apply fm_drewN | apply fm_drew | refine fm_call ?_ (by assumption))⟩

set_option maxHeartbeats 4000000 in
theorem dayRows_low (n a b N A B : Int) (w : World) (hL : LW w) (n1 : -9223372036854775808 ≤ n) (n2 : n ≤ 9223372036854775807) (a1 : -9223372036854775808 ≤ a) (a2 : a ≤ 9223372036854775807)
    (b1 : -9223372036854775808 ≤ b) (b2 : b ≤ 9223372036854775807) (hN : dayOf n = N) (hA : dayOf a = A) (hB : dayOf b = B)
    (N1 : 1 ≤ N) (N2 : N ≤ 3652059) (A1 : 1 ≤ A) (A2 : A ≤ 3652059) (B1 : 1 ≤ B) (B2 : B ≤ 3652059) (hc : N + (A - B) < 1) :
    Calls Tryd.prog 9 #[.int .i64 n, .int .i64 a, .int .i64 b] w fun e w' => e = .returned (.bool true) ∧ Below w.heap.size w w' := by
  have HN := Lib.hid hN
  have HA := Lib.hid hA
  have HB := Lib.hid hB
  clear hN hA hB
  have HL := Lib.hid hL
  clear hL
  go_enter Tryd.func9, Tryd.ntmps9
  go_wp2_with fail
  refine (lawfirst _ HL.out).mono ?_
  rintro e w1 ⟨rfl, hb1⟩
  go_wp2_with fail
  refine (within_any _ _ n1 n2).mono ?_
  rintro e w2 ⟨rfl, rfl⟩
  have E := HN.out
  rw [E]
  clear E
  go_wp2_with fail
  refine (within_any _ _ a1 a2).mono ?_
  rintro e w2 ⟨rfl, rfl⟩
  have E := HA.out
  rw [E]
  clear E
  go_wp2_with fail
  refine (within_any _ _ b1 b2).mono ?_
  rintro e w2 ⟨rfl, rfl⟩
  have E := HB.out
  rw [E]
  clear E
  go_wp2_with fail
  refine (within_any _ _ b1 b2).mono ?_
  rintro e w2 ⟨rfl, rfl⟩
  have E := HB.out
  rw [E]
  clear E
  go_wp2_with fail
  refine (add_no _ _ _ (by unfold addOK; omega)).mono ?_
  rintro e w2 ⟨rfl, rfl⟩
  go_wp2
  go_ret
  exact ⟨by first | rfl | simp, by repeat (first | exact Below.refl _ _ | apply fm_alloc | apply fm_drewN | apply fm_drew | refine fm_call ?_ (by assumption))⟩

set_option maxHeartbeats 4000000 in
theorem dayRows_high (n a b N A B : Int) (w : World) (hL : LW w) (n1 : -9223372036854775808 ≤ n) (n2 : n ≤ 9223372036854775807) (a1 : -9223372036854775808 ≤ a) (a2 : a ≤ 9223372036854775807)
    (b1 : -9223372036854775808 ≤ b) (b2 : b ≤ 9223372036854775807) (hN : dayOf n = N) (hA : dayOf a = A) (hB : dayOf b = B)
    (N1 : 1 ≤ N) (N2 : N ≤ 3652059) (A1 : 1 ≤ A) (A2 : A ≤ 3652059) (B1 : 1 ≤ B) (B2 : B ≤ 3652059) (hc2 : 3652059 < N + (A - B)) (hc : 1 ≤ N + (A - B)) :
    Calls Tryd.prog 9 #[.int .i64 n, .int .i64 a, .int .i64 b] w fun e w' => e = .returned (.bool true) ∧ Below w.heap.size w w' := by
  have HN := Lib.hid hN
  have HA := Lib.hid hA
  have HB := Lib.hid hB
  clear hN hA hB
  have HL := Lib.hid hL
  clear hL
  go_enter Tryd.func9, Tryd.ntmps9
  go_wp2_with fail
  refine (lawfirst _ HL.out).mono ?_
  rintro e w1 ⟨rfl, hb1⟩
  go_wp2_with fail
  refine (within_any _ _ n1 n2).mono ?_
  rintro e w2 ⟨rfl, rfl⟩
  have E := HN.out
  rw [E]
  clear E
  go_wp2_with fail
  refine (within_any _ _ a1 a2).mono ?_
  rintro e w2 ⟨rfl, rfl⟩
  have E := HA.out
  rw [E]
  clear E
  go_wp2_with fail
  refine (within_any _ _ b1 b2).mono ?_
  rintro e w2 ⟨rfl, rfl⟩
  have E := HB.out
  rw [E]
  clear E
  go_wp2_with fail
  refine (within_any _ _ b1 b2).mono ?_
  rintro e w2 ⟨rfl, rfl⟩
  have E := HB.out
  rw [E]
  clear E
  go_wp2_with fail
  refine (add_no _ _ _ (by unfold addOK; omega)).mono ?_
  rintro e w2 ⟨rfl, rfl⟩
  go_wp2
  go_ret
  exact ⟨by first | rfl | simp, by repeat (first | exact Below.refl _ _ | apply fm_alloc | apply fm_drewN | apply fm_drew | refine fm_call ?_ (by assumption))⟩

theorem dayRows_walk (n a b : Int) (w : World) (hn : (Lit.int .i64 n).wf = true) (ha : (Lit.int .i64 a).wf = true) (hb : (Lit.int .i64 b).wf = true) (hL : LW w) :
    Calls Tryd.prog 9 #[.int .i64 n, .int .i64 a, .int .i64 b] w fun e w' => e = .returned (.bool true) ∧ Below w.heap.size w w' := by
  obtain ⟨n1, n2⟩ := bounds_i64 hn
  obtain ⟨a1, a2⟩ := bounds_i64 ha
  obtain ⟨b1, b2⟩ := bounds_i64 hb
  obtain ⟨N1, N2⟩ := dayOf_bd n
  obtain ⟨A1, A2⟩ := dayOf_bd a
  obtain ⟨B1, B2⟩ := dayOf_bd b
  by_cases h : dayOf n + (dayOf a - dayOf b) < 1
  · exact dayRows_low n a b _ _ _ w hL n1 n2 a1 a2 b1 b2 rfl rfl rfl N1 N2 A1 A2 B1 B2 h
  · by_cases h2 : 3652059 < dayOf n + (dayOf a - dayOf b)
    · exact dayRows_high n a b _ _ _ w hL n1 n2 a1 a2 b1 b2 rfl rfl rfl N1 N2 A1 A2 B1 B2 h2 (by omega)
    · exact dayRows_in n a b _ _ _ w hL n1 n2 a1 a2 b1 b2 rfl rfl rfl N1 N2 A1 A2 B1 B2 (by omega) (by omega)

theorem week_is (n v : Int) (w : World) (h1 : 1 ≤ n) (h2 : n ≤ 3652059) (hv : wk n = v) :
    Calls Tryd.prog 27 #[.int .i64 n] w fun e w' => e = .returned (.tuple #[.int .i64 v, .int .i64 0]) ∧ w = w' := by
  subst hv; exact week_yes n w h1 h2

set_option maxHeartbeats 4000000 in
theorem dayCycle_out (n N : Int) (w : World) (hL : LW w) (n1 : -9223372036854775808 ≤ n) (n2 : n ≤ 9223372036854775807) (hN : dayOf n = N) (N1 : 1 ≤ N) (N2 : N ≤ 3652059) (hc : 3505962 < N) :
    Calls Tryd.prog 10 #[.int .i64 n] w fun e w' => e = .returned (.bool true) ∧ Below w.heap.size w w' := by
  have HN := Lib.hid hN
  clear hN
  have HL := Lib.hid hL
  clear hL
  go_enter Tryd.func10, Tryd.ntmps10
  go_wp2_with fail
  refine (lawfirst _ HL.out).mono ?_
  rintro e w1 ⟨rfl, hb1⟩
  go_wp2_with fail
  refine (within_any _ _ n1 n2).mono ?_
  rintro e w2 ⟨rfl, rfl⟩
  have E := HN.out
  rw [E]
  clear E
  go_wp2_with fail
  refine (add_no _ _ _ (by unfold addOK; omega)).mono ?_
  rintro e w2 ⟨rfl, rfl⟩
  go_wp2
  go_ret
  exact ⟨by first | rfl | simp, by repeat (first | exact Below.refl _ _ | apply fm_alloc | apply fm_drewN | apply fm_drew | refine fm_call ?_ (by assumption))⟩

set_option maxHeartbeats 4000000 in
theorem dayCycle_in (n N : Int) (w : World) (hL : LW w) (n1 : -9223372036854775808 ≤ n) (n2 : n ≤ 9223372036854775807) (hN : dayOf n = N) (N1 : 1 ≤ N) (N2 : N ≤ 3652059) (hc : N ≤ 3505962) :
    Calls Tryd.prog 10 #[.int .i64 n] w fun e w' => e = .returned (.bool true) ∧ Below w.heap.size w w' := by
  have HX := Lib.hid (DayMath.cycle N N1 (by omega))
  have HW := Lib.hid (wk_cycle N)
  obtain ⟨v1, v2, v3, v4, v5, v6⟩ := (DayMath.date_spec N N1 (by omega)).1
  have HN := Lib.hid hN
  clear hN
  have HL := Lib.hid hL
  clear hL
  go_enter Tryd.func10, Tryd.ntmps10
  go_wp2_with fail
  refine (lawfirst _ HL.out).mono ?_
  rintro e w1 ⟨rfl, hb1⟩
  go_wp2_with fail
  refine (within_any _ _ n1 n2).mono ?_
  rintro e w2 ⟨rfl, rfl⟩
  have E := HN.out
  rw [E]
  clear E
  go_wp2_with fail
  refine (add_is _ _ (N + 146097) _ (by unfold addOK; omega) rfl).mono ?_
  rintro e w2 ⟨rfl, rfl⟩
  go_wp2_with fail
  refine (to_any _ _ (HL.out.below hb1).md N1 N2).mono ?_
  rintro e w3 ⟨rfl, hb3⟩
  go_wp2_with fail
  refine (to_is _ _ _ _ _ (HL.out.below (by repeat (first | exact Below.refl _ _ | apply fm_alloc | apply fm_drewN | apply fm_drew | refine fm_call ?_ (by assumption)))).md (by omega) (by omega) HX.out).mono ?_
  rintro e w4 ⟨rfl, hb4⟩
  obtain ⟨hc4, hf4⟩ := bcell hb4
  have hz4 : w3.heap.size < w4.heap.size := by have := hb4.size; simp at this; omega
  go_wp2_with fail
  refine (week_is _ (wk N) _ N1 N2 rfl).mono ?_
  rintro e w5 ⟨rfl, rfl⟩
  go_wp2_with fail
  refine (week_is _ (wk N) _ (by omega) (by omega) HW.out).mono ?_
  rintro e w5 ⟨rfl, rfl⟩
  go_wp2
  go_ret
  refine ⟨by first | rfl | simp, ?_⟩
  have hz3 := hb3.size
  have hz1 := hb1.size
  repeat (first | exact Below.refl _ _ | apply fm_alloc | apply fm_drewN | apply fm_drew | (refine Below.setCell ?_ (by simp; omega) _) | refine fm_call ?_ (by assumption))

theorem dayCycle_walk (n : Int) (w : World) (hn : (Lit.int .i64 n).wf = true) (hL : LW w) :
    Calls Tryd.prog 10 #[.int .i64 n] w fun e w' => e = .returned (.bool true) ∧ Below w.heap.size w w' := by
  obtain ⟨n1, n2⟩ := bounds_i64 hn
  obtain ⟨N1, N2⟩ := dayOf_bd n
  by_cases h : 3505962 < dayOf n
  · exact dayCycle_out n _ w hL n1 n2 rfl N1 N2 h
  · exact dayCycle_in n _ w hL n1 n2 rfl N1 N2 (by omega)

end Go.Proofs.YtidjipcdnkgigaaDoor
