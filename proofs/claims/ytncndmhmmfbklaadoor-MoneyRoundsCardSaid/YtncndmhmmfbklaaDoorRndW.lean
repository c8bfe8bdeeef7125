/- The law MoneyRounds walked. -/
import Derived.Test.YtncndmhmmfbklaaDoorRndP
import Derived.Outline
namespace Go.Proofs.YtncndmhmmfbklaaDoor
set_option linter.unusedVariables false
set_option linter.unusedSimpArgs false
open Go.RowKit
open X (Glob first_any)
open Go.Proofs.YtncndmhmmfbklaaDoorW.PrintWords
set_option maxHeartbeats 8000000 in
set_option maxRecDepth 100000 in
theorem rounds_bad (a n d : Int) (w : World) (G : Glob w) (ha : -9223372036854775808 ≤ a ∧ a ≤ 9223372036854775807) (hn : -9223372036854775808 ≤ n ∧ n ≤ 9223372036854775807) (hd : -9223372036854775808 ≤ d ∧ d ≤ 9223372036854775807)
    (h : a = -9223372036854775808 ∨ n = -9223372036854775808 ∨ d < 1) :
    Calls Tryd.prog 4 #[.int .i64 a, .int .i64 n, .int .i64 d] w fun e w' => e = .returned (.bool true) ∧ Below w.heap.size w w' := by
  have hE : ratE a n d 0 ≠ 0 := by
    by_cases c : ratArg d 0
    · rw [(rat_arg c).2]; decide
    · rw [(rat_bad c (by unfold ratArg at c; unfold ratBad; omega)).2]; decide
  have HR := Lib.hid (fun w => ratio_any a n d 0 w ha hn hd)
  obtain ⟨E, hEE⟩ : ∃ E, ratE a n d 0 = E := ⟨_, rfl⟩
  rw [hEE] at HR hE
  have t2 : (E != 0) = true := bne_iff_ne.2 hE
  have HF := Lib.hid (first_any w G)
  clear hEE hE G ha hn hd
  by_cases c1 : a = -9223372036854775808
  · have u1 : (a == -9223372036854775808) = true := beq_iff_eq.2 c1
    clear c1 h
    go_enter Tryd.func4, Tryd.ntmps4
    go_wp2_with fail
    refine HF.out.mono ?_
    rintro e w1 ⟨rfl, b1⟩
    have B1 := Lib.hid b1
    clear b1
    go_wp2_with fail
    refine (HR.out _).mono ?_
    rintro e w2 ⟨rfl, b2⟩
    have B2 := Lib.hid (fm_call B1.out b2)
    clear b2
    go_wp2_with fail
    go_ret
    exact ⟨rfl, B2.out⟩
  · have u1 : (a == -9223372036854775808) = false := beq_eq_false_iff_ne.2 c1
    by_cases c2 : n = -9223372036854775808
    · have u2 : (n == -9223372036854775808) = true := beq_iff_eq.2 c2
      clear c1 c2 h
      go_enter Tryd.func4, Tryd.ntmps4
      go_wp2_with fail
      refine HF.out.mono ?_
      rintro e w1 ⟨rfl, b1⟩
      have B1 := Lib.hid b1
      clear b1
      go_wp2_with fail
      refine (HR.out _).mono ?_
      rintro e w2 ⟨rfl, b2⟩
      have B2 := Lib.hid (fm_call B1.out b2)
      clear b2
      go_wp2_with fail
      go_ret
      exact ⟨rfl, B2.out⟩
    · have u2 : (n == -9223372036854775808) = false := beq_eq_false_iff_ne.2 c2
      have u3 : decide (d < 1) = true := decide_eq_true (by omega)
      clear c1 c2 h
      go_enter Tryd.func4, Tryd.ntmps4
      go_wp2_with fail
      refine HF.out.mono ?_
      rintro e w1 ⟨rfl, b1⟩
      have B1 := Lib.hid b1
      clear b1
      go_wp2_with fail
      refine (HR.out _).mono ?_
      rintro e w2 ⟨rfl, b2⟩
      have B2 := Lib.hid (fm_call B1.out b2)
      clear b2
      go_wp2_with fail
      go_ret
      exact ⟨rfl, B2.out⟩
set_option maxHeartbeats 8000000 in
set_option maxRecDepth 100000 in
theorem rounds_good (a n d : Int) (w : World) (G : Glob w) (ha : -9223372036854775808 < a ∧ a ≤ 9223372036854775807) (hn : -9223372036854775808 < n ∧ n ≤ 9223372036854775807) (hd : 1 ≤ d ∧ d ≤ 9223372036854775807) :
    Calls Tryd.prog 4 #[.int .i64 a, .int .i64 n, .int .i64 d] w fun e w' => e = .returned (.bool true) ∧ Below w.heap.size w w' := by
  have HS := Lib.hid (fun (how : Int) (h0 : 0 ≤ how) (h5 : how ≤ 5) (w : World) => show Calls Tryd.prog 12 #[.int .i64 a, .int .i64 d, .int .i64 d, .int .i64 how] w fun e w' => e = .returned (.tuple #[.int .i64 a, .int .i64 0]) ∧ Below w.heap.size w w' from by
    have := ratio_any a d d how w (by omega) (by omega) (by omega)
    obtain ⟨e1, e2⟩ := rat_self a d hd.1 (by omega) (by omega) how h0 h5
    rw [e1, e2] at this
    exact this)
  have HR := Lib.hid (fun w => round_any a n d w (by omega) (by omega) (by omega))
  have HO := Lib.hid (fun w => round_any (-a) n d w (by omega) (by omega) (by omega))
  have hb : ¬ ratBad a n := by unfold ratBad; omega
  have HP := Lib.hid (fun (h : allZ a n d) => rat_rf hd.1 hb h)
  have HQ := Lib.hid (fun (h : allZ a n d) => rat_opp hd.1 hb (by omega) h)
  have HF := Lib.hid (first_any w G)
  have u1 : (a == -9223372036854775808) = false := beq_eq_false_iff_ne.2 (by omega)
  have u2 : (n == -9223372036854775808) = false := beq_eq_false_iff_ne.2 (by omega)
  have u3 : decide (d < 1) = false := decide_eq_false (by omega)
  have u4 : wrap64 (-a) = -a := by unfold wrap64; omega
  clear hb G hn hd
  have HA := Lib.hid ha
  clear ha
  go_enter Tryd.func4, Tryd.ntmps4
  go_wp2_with fail
  refine HF.out.mono ?_
  rintro e w1 ⟨rfl, b1⟩
  have B := Lib.hid b1
  clear b1 HF
  go_wp2_with fail
  refine wp_loop_rounds 7 ?_
  rw [rounds_succ]
  go_wp2_with fail
  refine (HS.out 0 (by omega) (by omega) _).mono ?_
  rintro e w1 ⟨rfl, b1⟩
  have B := Lib.hid (fm_call B.out b1)
  clear b1
  go_wp2_with fail
  rw [rounds_succ]
  go_wp2_with fail
  refine (HS.out 1 (by omega) (by omega) _).mono ?_
  rintro e w1 ⟨rfl, b1⟩
  have B := Lib.hid (fm_call B.out b1)
  clear b1
  go_wp2_with fail
  rw [rounds_succ]
  go_wp2_with fail
  refine (HS.out 2 (by omega) (by omega) _).mono ?_
  rintro e w1 ⟨rfl, b1⟩
  have B := Lib.hid (fm_call B.out b1)
  clear b1
  go_wp2_with fail
  rw [rounds_succ]
  go_wp2_with fail
  refine (HS.out 3 (by omega) (by omega) _).mono ?_
  rintro e w1 ⟨rfl, b1⟩
  have B := Lib.hid (fm_call B.out b1)
  clear b1
  go_wp2_with fail
  rw [rounds_succ]
  go_wp2_with fail
  refine (HS.out 4 (by omega) (by omega) _).mono ?_
  rintro e w1 ⟨rfl, b1⟩
  have B := Lib.hid (fm_call B.out b1)
  clear b1
  go_wp2_with fail
  rw [rounds_succ]
  go_wp2_with fail
  refine (HS.out 5 (by omega) (by omega) _).mono ?_
  rintro e w1 ⟨rfl, b1⟩
  have B := Lib.hid (fm_call B.out b1)
  clear b1
  go_wp2_with fail
  rw [rounds_succ]
  go_wp2_with fail
  refine (HR.out _).mono ?_
  rintro e w2 ⟨hr, b1⟩
  have B := Lib.hid (fm_call B.out b1)
  clear b1
  rcases hr with ⟨hz, rfl⟩ | ⟨hz, a', b', c', d', f', g', rfl⟩
  · have hrf := HP.out hz
    obtain ⟨o1, o2, o3, o4, o5, o6, o7⟩ := HQ.out hz
    have HZ2 := Lib.hid o1
    have KO : Hid (ratV (-a) n d 0 = -ratV a n d 0 ∧ ratV (-a) n d 1 = -ratV a n d 1 ∧ ratV (-a) n d 2 = -ratV a n d 3 ∧ ratV (-a) n d 3 = -ratV a n d 2 ∧ ratV (-a) n d 4 = -ratV a n d 4 ∧ ratV (-a) n d 5 = -ratV a n d 5) := Lib.hid ⟨o2, o3, o4, o5, o6, o7⟩
    clear o1 o2 o3 o4 o5 o6 o7 hz HP HQ HS HR
    generalize ratV a n d 0 = v0 at *
    generalize ratV a n d 1 = v1 at *
    generalize ratV a n d 2 = v2 at *
    generalize ratV a n d 3 = v3 at *
    generalize ratV a n d 4 = v4 at *
    generalize ratV a n d 5 = v5 at *
    obtain ⟨hle, hone, hwh, i0, i1, i4, i5, hneg, hpos, hhalf, hb2, hb3⟩ := hrf
    have x1 : decide (v3 < v2) = false := decide_eq_false (by omega)
    have x2 : wrap64 (v3 - v2) = v3 - v2 := by unfold wrap64; omega
    have x3 : decide (1 < v3 - v2) = false := decide_eq_false (by omega)
    obtain ⟨q, hq1, hq2⟩ : ∃ q, (v0 == v1) = q ∧ (v2 == v3) = q := by
      by_cases q : v0 = v1
      · exact ⟨true, beq_iff_eq.2 q, beq_iff_eq.2 (hwh.1 q)⟩
      · exact ⟨false, beq_eq_false_iff_ne.2 q, beq_eq_false_iff_ne.2 (fun r => q (hwh.2 r))⟩
    have m0 : wrap64 (-v0) = -v0 := by unfold wrap64; omega
    have m1 : wrap64 (-v1) = -v1 := by unfold wrap64; omega
    have m2 : wrap64 (-v2) = -v2 := by unfold wrap64; omega
    have m3 : wrap64 (-v3) = -v3 := by unfold wrap64; omega
    have m4 : wrap64 (-v4) = -v4 := by unfold wrap64; omega
    have m5 : wrap64 (-v5) = -v5 := by unfold wrap64; omega
    have y0 : decide (v0 < v2) = false := decide_eq_false (by omega)
    have z0 : decide (v3 < v0) = false := decide_eq_false (by omega)
    have y1 : decide (v1 < v2) = false := decide_eq_false (by omega)
    have z1 : decide (v3 < v1) = false := decide_eq_false (by omega)
    have y4 : decide (v4 < v2) = false := decide_eq_false (by omega)
    have z4 : decide (v3 < v4) = false := decide_eq_false (by omega)
    have y5 : decide (v5 < v2) = false := decide_eq_false (by omega)
    have z5 : decide (v3 < v5) = false := decide_eq_false (by omega)
    have HNG := Lib.hid hneg
    have HPS := Lib.hid hpos
    have HHF := Lib.hid hhalf
    clear hneg hpos hhalf hle hone hwh i0 i1 i4 i5 hb2 hb3
    cases q
    all_goals
      go_upto_region 16 with fail
      go_quiet (fail)
      have B2 := Lib.hid (pw_below_drewN (fm_alloc B.out (.cells #[.int .i64 v0, .int .i64 v1, .int .i64 v2, .int .i64 v3, .int .i64 v4, .int .i64 v5] 29)) nq)
      go_wp2_with fail
      refine wp_loop_rounds 7 ?_
      rw [rounds_succ]
      go_wp2_with fail
      rw [rounds_succ]
      go_wp2_with fail
      rw [rounds_succ]
      go_wp2_with fail
      rw [rounds_succ]
      go_wp2_with fail
      rw [rounds_succ]
      go_wp2_with fail
      rw [rounds_succ]
      go_wp2_with fail
      rw [rounds_succ]
      have HX : Hid ((decide (v0 < 0) = true ∧ decide (0 < v0) = false ∧ (v0 != v3) = false) ∨ (decide (v0 < 0) = false ∧ decide (0 < v0) = true ∧ (v0 != v2) = false) ∨ (decide (v0 < 0) = false ∧ decide (0 < v0) = false ∧ True)) := by
        apply Lib.hid
        by_cases c1 : v0 < 0
        · exact .inl ⟨decide_eq_true c1, decide_eq_false (by omega), bne_eq_false_iff_eq.2 (HNG.out c1)⟩
        · by_cases c2 : 0 < v0
          · exact .inr (.inl ⟨decide_eq_false c1, decide_eq_true c2, bne_eq_false_iff_eq.2 (HPS.out c2)⟩)
          · exact .inr (.inr ⟨decide_eq_false c1, decide_eq_false c2, trivial⟩)
      have HY : Hid (((v4 == v5) = true ∧ (v4 != v5) = false ∧ True) ∨ ((v4 == v5) = false ∧ (v4 != v5) = true ∧ (Int.tmod v4 2 == 0) = false)) := by
        apply Lib.hid
        by_cases c : v4 = v5
        · exact .inl ⟨beq_iff_eq.2 c, bne_eq_false_iff_eq.2 c, trivial⟩
        · refine .inr ⟨beq_eq_false_iff_ne.2 c, bne_iff_ne.2 c, beq_eq_false_iff_ne.2 ?_⟩
          have := HHF.out c
          exact fun h => this (Int.emod_eq_zero_of_dvd (Int.dvd_of_tmod_eq_zero h))
      rcases HX.out with ⟨r1, r2, r3⟩ | ⟨r1, r2, r3⟩ | ⟨r1, r2, r3⟩
      all_goals
        rcases HY.out with ⟨s1, s2, s3⟩ | ⟨s1, s2, s3⟩
        all_goals
          go_wp2_with fail
          refine (HO.out _).mono ?_
          rintro e w3 ⟨hr, b3⟩
          have B3 := Lib.hid (fm_call B2.out b3)
          clear b3
          rcases hr with ⟨_, he⟩ | ⟨hz', _⟩
          rotate_left
          · exact absurd HZ2.out hz'
          obtain ⟨k0, k1, k2, k3, k4, k5⟩ := KO.out
          rw [k0, k1, k2, k3, k4, k5] at he
          clear k0 k1 k2 k3 k4 k5
          subst he
          go_wp2_with fail
          go_ret
          exact ⟨rfl, fm_alloc B3.out _⟩
  · go_wp2_with fail
    go_ret
    exact ⟨rfl, fm_alloc B.out _⟩
theorem rounds_law (a n d : Int) (w : World) (h1 : (Lit.int IntKind.i64 a).wf = true) (h2 : (Lit.int IntKind.i64 n).wf = true) (h3 : (Lit.int IntKind.i64 d).wf = true) (G : Glob w) :
    Calls Tryd.prog 4 #[.int .i64 a, .int .i64 n, .int .i64 d] w fun e w' => e = .returned (.bool true) ∧ Below w.heap.size w w' := by
  simp [Lit.wf, IntKind.min, IntKind.max, IntKind.bits, IntKind.signed] at h1 h2 h3
  by_cases h : a = -9223372036854775808 ∨ n = -9223372036854775808 ∨ d < 1
  · exact rounds_bad a n d w G h1 h2 h3 h
  · exact rounds_good a n d w G (by omega) (by omega) (by omega)
end Go.Proofs.YtncndmhmmfbklaaDoor
