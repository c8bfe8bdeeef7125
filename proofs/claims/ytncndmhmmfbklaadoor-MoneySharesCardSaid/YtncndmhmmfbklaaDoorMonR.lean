/- The document's Sum and money.Sum, of any slice of numbers. -/
import Derived.Test.YtncndmhmmfbklaaDoorMonI
namespace Go.Proofs.YtncndmhmmfbklaaDoor
set_option linter.unusedVariables false
set_option linter.unusedSimpArgs false
open Go.RowKit
open MonMath (dig car bor mc)

theorem Mon_block_of_add (a : Addr) (n : Nat) : (a.add n).block = a.block := by unfold Addr.add; split <;> rfl
set_option maxRecDepth 100000 in
set_option maxHeartbeats 2000000 in
theorem sum_gen (A : Option Addr) (n cap : Nat) (f : Nat → Int) (w : World) (hn : n ≤ 17592186044416) (hcell : ∀ i, i < n → ∃ ad, A = some ad ∧ w.cell? (ad.add i) = some (.int .i64 (f i)))
    (hf : ∀ i, i < n → -9223372036854775808 ≤ f i ∧ f i ≤ 9223372036854775807) :
    Calls Tryd.prog 15 #[.slice A n cap] w fun e w' => e = .returned (.tuple #[.int .i64 (sumV f n), .int .i64 (sumE f n)]) ∧ w = w' := by
  obtain ⟨V, hV⟩ : ∃ V, sumV f n = V := ⟨_, rfl⟩
  obtain ⟨E, hE⟩ : ∃ E, sumE f n = E := ⟨_, rfl⟩
  rw [hV, hE]
  have HV := Lib.hid hV
  have HE := Lib.hid hE
  have HC := Lib.hid hcell
  have HF := Lib.hid hf
  clear hV hE hcell hf
  go_enter Tryd.func15, Tryd.ntmps15
  go_wp2
  go_loop [14] (fun i => ∃ k : Nat, k ≤ n ∧ i = .int .i64 k ∧ allAm f k) (fun i => n - (intOf i).toNat)
  case atStart => exact ⟨0, by omega, rfl, fun i hi => absurd hi (by omega)⟩
  case round =>
    obtain ⟨k, hk, rfl, ha⟩ := hrel
    have HA := Lib.hid ha
    clear ha
    by_cases hlt : k < n
    · obtain ⟨ad, rfl, hx⟩ := HC.out k hlt
      by_cases hm : f k = -9223372036854775808
      · obtain ⟨q1, q2⟩ := sum_bad (f := f) (n := n) (fun h => h k hlt hm)
        have Q1 := Lib.hid (HV.out.symm.trans q1)
        have Q2 := Lib.hid (HE.out.symm.trans q2)
        have hmb : (f k == -9223372036854775808) = true := beq_iff_eq.mpr hm
        clear hm q1 q2
        go_wp2
        go_ret2
        exact ⟨by rw [Q1.out, Q2.out]; rfl, rfl⟩
      · have HA2 := Lib.hid (show allAm f (k + 1) from fun i hi => by
          rcases Nat.lt_or_ge i k with q | q
          · exact HA.out i q
          · have e : i = k := by omega
            rw [e]; exact hm)
        have hmb : (f k == -9223372036854775808) = false := beq_eq_false_iff_ne.mpr hm
        clear hm
        go_wp2
        go_round
        case rel => exact ⟨k + 1, by omega, by go_num, HA2.out⟩
        case measure => simp [intOf]; omega
    · obtain rfl : k = n := by omega
      go_wp2
      go_loop [4, 5, 23] (fun h l i => ∃ j : Nat, j ≤ k ∧ h = .int .i64 (tS f j / 18446744073709551616) ∧ l = .int .u64 (tS f j % 18446744073709551616) ∧ i = .int .i64 j) (fun _ _ i => k - (intOf i).toNat)
      case atStart => exact ⟨0, by omega, by simp [tS], by simp [tS], rfl⟩
      case round =>
        obtain ⟨j, hj, rfl, rfl, rfl⟩ := hrel
        have hT := tS_bd f k HF.out j hj
        by_cases hlt2 : j < k
        · obtain ⟨ad, rfl, hx⟩ := HC.out j hlt2
          have hfj := HF.out j hlt2
          obtain ⟨s1, s2⟩ := two_words (tS f j) (f j) hfj
          have S1 := Lib.hid (show tS f (j + 1) % 18446744073709551616 = _ from s1)
          have S2 := Lib.hid (show tS f (j + 1) / 18446744073709551616 = _ from s2)
          clear s1 s2
          have B1 : 0 ≤ tS f j % 18446744073709551616 := by omega
          have B2 : 0 ≤ f j % 18446744073709551616 := by omega
          have C1 : 0 ≤ (tS f j % 18446744073709551616 + f j % 18446744073709551616) / 18446744073709551616 := by omega
          have C2 : (tS f j % 18446744073709551616 + f j % 18446744073709551616) / 18446744073709551616 ≤ 1 := by omega
          have D1 : -1 ≤ f j / 9223372036854775808 := by omega
          have D2 : f j / 9223372036854775808 ≤ 0 := by omega
          have G1 : -17592186044416 ≤ tS f j / 18446744073709551616 := by omega
          have G2 : tS f j / 18446744073709551616 ≤ 17592186044416 := by omega
          have R1 := Lib.hid B1
          have R2 := Lib.hid B2
          have RC := Lib.hid (And.intro C1 C2)
          have RD := Lib.hid (And.intro D1 D2)
          have RG := Lib.hid (And.intro G1 G2)
          clear B1 B2 C1 C2 D1 D2 G1 G2 hT
          go_wp2_with fail
          rw [IntKind.wrap_u64, add64_run _ _ R1.out R2.out]
          have r1 := RC.out
          have r2 := RD.out
          have r3 := RG.out
          rw [← S1.out]
          have e2 := S2.out
          revert r1 r2 r3 e2
          generalize (tS f j % 18446744073709551616 + f j % 18446744073709551616) / 18446744073709551616 = cy
          generalize hd : f j / 9223372036854775808 = d
          generalize tS f j / 18446744073709551616 = H
          rintro ⟨c1, c2⟩ ⟨d1, d2⟩ ⟨g1, g2⟩ e2
          have E2 := Lib.hid e2
          clear e2
          have w1 : IntKind.i64.wrap cy = cy := IntWalk.i64_in _ (by omega)
          have w2 : IntKind.i64.wrap (d + cy) = d + cy := IntWalk.i64_in _ (by omega)
          have w3 : IntKind.i64.wrap (H + (d + cy)) = H + (d + cy) := IntWalk.i64_in _ (by omega)
          go_wp2
          go_round
          case rel => exact ⟨j + 1, by omega, by rw [E2.out], rfl, by go_num⟩
          case measure => simp [intOf]; omega
        · obtain rfl : j = k := by omega
          by_cases hfit : fitsI (tS f j)
          · obtain ⟨q1, q2⟩ := sum_ok HA.out hfit
            have Q1 := Lib.hid (HV.out.symm.trans q1)
            have Q2 := Lib.hid (HE.out.symm.trans q2)
            have hfit' := hfit
            unfold fitsI at hfit'
            have e1 : wrap64 (tS f j % 18446744073709551616) = tS f j := by unfold wrap64; omega
            have e2 : (tS f j / 18446744073709551616 != tS f j / 9223372036854775808) = false := by rw [bne_eq_false_iff_eq]; omega
            have e3 : (tS f j == -9223372036854775808) = false := beq_eq_false_iff_ne.mpr (by omega)
            clear q1 q2 hfit hfit' hT
            go_wp2
            go_ret2
            exact ⟨by rw [Q1.out, Q2.out]; rfl, rfl⟩
          · obtain ⟨q1, q2⟩ := sum_over HA.out hfit
            have Q1 := Lib.hid (HV.out.symm.trans q1)
            have Q2 := Lib.hid (HE.out.symm.trans q2)
            unfold fitsI at hfit
            by_cases hm : tS f j = -9223372036854775808
            · have e1 : wrap64 (tS f j % 18446744073709551616) = -9223372036854775808 := by rw [hm]; unfold wrap64; omega
              have e2 : tS f j / 18446744073709551616 = -1 := by rw [hm]; rfl
              clear q1 q2 hfit hT hm
              go_wp2
              go_ret2
              exact ⟨by rw [Q1.out, Q2.out]; rfl, rfl⟩
            · obtain ⟨c, e1⟩ : ∃ c, wrap64 (tS f j % 18446744073709551616) = c := ⟨_, rfl⟩
              have e2 : (tS f j / 18446744073709551616 != c / 9223372036854775808) = true := by rw [bne_iff_ne]; unfold wrap64 at e1; omega
              clear q1 q2 hfit hT hm
              go_wp2
              go_ret2
              exact ⟨by rw [Q1.out, Q2.out]; rfl, rfl⟩
end Go.Proofs.YtncndmhmmfbklaaDoor
