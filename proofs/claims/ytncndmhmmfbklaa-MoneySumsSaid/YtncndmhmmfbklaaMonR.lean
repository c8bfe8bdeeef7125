/- The document's Sum and money.Sum, of any slice of numbers. -/
import Derived.Test.YtncndmhmmfbklaaMonI
namespace Go.Proofs.Ytncndmhmmfbklaa
set_option linter.unusedVariables false
set_option linter.unusedSimpArgs false
open Go.RowKit
open MonMath (dig car bor mc)

theorem Mon_block_of_add (a : Addr) (n : Nat) : (a.add n).block = a.block := by unfold Addr.add; split <;> rfl
set_option maxHeartbeats 2000000 in
theorem sum_gen (A : Option Addr) (n cap : Nat) (f : Nat → Int) (w : World) (hn : n ≤ 17592186044416) (hcell : ∀ i, i < n → ∃ ad, A = some ad ∧ w.cell? (ad.add i) = some (.int .i64 (f i)))
    (hf : ∀ i, i < n → -9223372036854775808 ≤ f i ∧ f i ≤ 9223372036854775807) :
    Calls Try.prog 8 #[.slice A n cap] w fun e w' => e = .returned (.tuple #[.int .i64 (sumV f n), .int .i64 (sumE f n)]) ∧ w = w' := by
  obtain ⟨V, hV⟩ : ∃ V, sumV f n = V := ⟨_, rfl⟩
  obtain ⟨E, hE⟩ : ∃ E, sumE f n = E := ⟨_, rfl⟩
  rw [hV, hE]
  have HV := Lib.hid hV
  have HE := Lib.hid hE
  have HC := Lib.hid hcell
  have HF := Lib.hid hf
  clear hV hE hcell hf
  go_enter Try.func8, Try.ntmps8
  go_wp2
  go_loop [14] (fun i => ∃ k : Nat, k ≤ n ∧ i = .int .i64 k ∧ allAm f k) (fun i => n - (intOf i).toNat)
  case atStart => exact ⟨0, by omega, rfl, fun i hi => absurd hi (by omega)⟩
  case round =>
    obtain ⟨k, hk, rfl, ha⟩ := hrel
    have HA := Lib.hid ha
    clear ha
    by_cases hlt : k < n
    · obtain ⟨ad, rfl, hx⟩ := HC.out k hlt
      by_cases hm : f k = -9223372036854775808
      · obtain ⟨q1, q2⟩ := sum_bad (f := f) (n := n) (fun h => h k hlt hm)
        have Q1 := Lib.hid (HV.out.symm.trans q1)
        have Q2 := Lib.hid (HE.out.symm.trans q2)
        have hmb : (f k == -9223372036854775808) = true := beq_iff_eq.mpr hm
        clear hm q1 q2
        go_wp2
        go_ret2
        exact ⟨by rw [Q1.out, Q2.out]; rfl, rfl⟩
      · have HA2 := Lib.hid (show allAm f (k + 1) from fun i hi => by
          rcases Nat.lt_or_ge i k with q | q
          · exact HA.out i q
          · have e : i = k := by omega
            rw [e]; exact hm)
        have hmb : (f k == -9223372036854775808) = false := beq_eq_false_iff_ne.mpr hm
        clear hm
        go_wp2
        go_round
        case rel => exact ⟨k + 1, by omega, by go_num, HA2.out⟩
        case measure => simp [intOf]; omega
    · obtain rfl : k = n := by omega
      go_wp2
      go_loop [4, 5, 23] (fun h l i => ∃ j : Nat, j ≤ k ∧ h = .int .i64 (tS f j / 18446744073709551616) ∧ l = .int .u64 (tS f j % 18446744073709551616) ∧ i = .int .i64 j) (fun _ _ i => k - (intOf i).toNat)
      case atStart => exact ⟨0, by omega, by simp [tS], by simp [tS], rfl⟩
      case round =>
        obtain ⟨j, hj, rfl, rfl, rfl⟩ := hrel
        have hT := tS_bd f k HF.out j hj
        by_cases hlt2 : j < k
        · obtain ⟨ad, rfl, hx⟩ := HC.out j hlt2
          have hfj := HF.out j hlt2
          obtain ⟨s1, s2⟩ := two_words (tS f j) (f j) hfj
          have S1 := Lib.hid (show tS f (j + 1) % 18446744073709551616 = _ from s1)
          have S2 := Lib.hid (show tS f (j + 1) / 18446744073709551616 = _ from s2)
          clear s1 s2
          have B1 : 0 ≤ tS f j % 18446744073709551616 := by omega
          have B2 : 0 ≤ f j % 18446744073709551616 := by omega
          have C1 : 0 ≤ (tS f j % 18446744073709551616 + f j % 18446744073709551616) / 18446744073709551616 := by omega
          have C2 : (tS f j % 18446744073709551616 + f j % 18446744073709551616) / 18446744073709551616 ≤ 1 := by omega
          have D1 : -1 ≤ f j / 9223372036854775808 := by omega
          have D2 : f j / 9223372036854775808 ≤ 0 := by omega
          have G1 : -17592186044416 ≤ tS f j / 18446744073709551616 := by omega
          have G2 : tS f j / 18446744073709551616 ≤ 17592186044416 := by omega
          have R1 := Lib.hid B1
          have R2 := Lib.hid B2
          have RC := Lib.hid (And.intro C1 C2)
          have RD := Lib.hid (And.intro D1 D2)
          have RG := Lib.hid (And.intro G1 G2)
          clear B1 B2 C1 C2 D1 D2 G1 G2 hT
          go_wp2_with fail
          rw [IntKind.wrap_u64, add64_run _ _ R1.out R2.out]
          have r1 := RC.out
          have r2 := RD.out
          have r3 := RG.out
          rw [← S1.out]
          have e2 := S2.out
          revert r1 r2 r3 e2
          generalize (tS f j % 18446744073709551616 + f j % 18446744073709551616) / 18446744073709551616 = cy
          generalize hd : f j / 9223372036854775808 = d
          generalize tS f j / 18446744073709551616 = H
          rintro ⟨c1, c2⟩ ⟨d1, d2⟩ ⟨g1, g2⟩ e2
          have E2 := Lib.hid e2
          clear e2
          have w1 : IntKind.i64.wrap cy = cy := IntWalk.i64_in _ (by omega)
          have w2 : IntKind.i64.wrap (d + cy) = d + cy := IntWalk.i64_in _ (by omega)
          have w3 : IntKind.i64.wrap (H + (d + cy)) = H + (d + cy) := IntWalk.i64_in _ (by omega)
          go_wp2
          go_round
          case rel => exact ⟨j + 1, by omega, by rw [E2.out], rfl, by go_num⟩
          case measure => simp [intOf]; omega
        · obtain rfl : j = k := by omega
          by_cases hfit : fitsI (tS f j)
          · obtain ⟨q1, q2⟩ := sum_ok HA.out hfit
            have Q1 := Lib.hid (HV.out.symm.trans q1)
            have Q2 := Lib.hid (HE.out.symm.trans q2)
            have hfit' := hfit
            unfold fitsI at hfit'
            have e1 : wrap64 (tS f j % 18446744073709551616) = tS f j := by unfold wrap64; omega
            have e2 : (tS f j / 18446744073709551616 != tS f j / 9223372036854775808) = false := by rw [bne_eq_false_iff_eq]; omega
            have e3 : (tS f j == -9223372036854775808) = false := beq_eq_false_iff_ne.mpr (by omega)
            clear q1 q2 hfit hfit' hT
            go_wp2
            go_ret2
            exact ⟨by rw [Q1.out, Q2.out]; rfl, rfl⟩
          · obtain ⟨q1, q2⟩ := sum_over HA.out hfit
            have Q1 := Lib.hid (HV.out.symm.trans q1)
            have Q2 := Lib.hid (HE.out.symm.trans q2)
            unfold fitsI at hfit
            by_cases hm : tS f j = -9223372036854775808
            · have e1 : wrap64 (tS f j % 18446744073709551616) = -9223372036854775808 := by rw [hm]; unfold wrap64; omega
              have e2 : tS f j / 18446744073709551616 = -1 := by rw [hm]; rfl
              clear q1 q2 hfit hT hm
              go_wp2
              go_ret2
              exact ⟨by rw [Q1.out, Q2.out]; rfl, rfl⟩
            · obtain ⟨c, e1⟩ : ∃ c, wrap64 (tS f j % 18446744073709551616) = c := ⟨_, rfl⟩
              have e2 : (tS f j / 18446744073709551616 != c / 9223372036854775808) = true := by rw [bne_iff_ne]; unfold wrap64 at e1; omega
              clear q1 q2 hfit hT hm
              go_wp2
              go_ret2
              exact ⟨by rw [Q1.out, Q2.out]; rfl, rfl⟩
set_option maxHeartbeats 4000000 in
/-- daybookref01.Sum, of a slice of numbers, nil and empty ones let in -/
theorem rsum_gen (A : Option Addr) (n cap : Nat) (f : Nat → Int) (w : World) (hn : n ≤ 17592186044416) (hcell : ∀ i, i < n → ∃ ad, A = some ad ∧ ad.block < w.heap.size ∧ w.cell? (ad.add i) = some (.int .i64 (f i)))
    (hf : ∀ i, i < n → -9223372036854775808 ≤ f i ∧ f i ≤ 9223372036854775807) :
    Calls Try.prog 9 #[.slice A n cap] w fun e w' => e = .returned (.tuple #[.int .i64 (sumV f n), .int .i64 (sumE f n)]) ∧ Below w.heap.size w w' := by
  obtain ⟨V, hV⟩ : ∃ V, sumV f n = V := ⟨_, rfl⟩
  obtain ⟨E, hE⟩ : ∃ E, sumE f n = E := ⟨_, rfl⟩
  rw [hV, hE]
  have HV := Lib.hid hV
  have HE := Lib.hid hE
  have HC := Lib.hid hcell
  have HF := Lib.hid hf
  clear hV hE hcell hf
  go_enter Try.func9, Try.ntmps9
  go_wp2
  go_loopg [6, 7] n (fun g i o wr => ∃ k : Nat, k ≤ n ∧ g = n - k ∧ i = .int .i64 k ∧ allAm f k ∧ SumRel w wr (pS f k) (nS f k))
  case atStart => exact ⟨0, by omega, by omega, rfl, fun i hi => absurd hi (by omega), SumRel.start w⟩
  case round =>
    obtain ⟨k, hk, hg, rfl, ha, hR⟩ := hrel
    have Hg := Lib.hid hg
    have HA := Lib.hid ha
    clear hg ha
    by_cases hlt : k < n
    · obtain ⟨ad, rfl, hbk, hx0⟩ := HC.out k hlt
      have hx : wr.cell? (ad.add k) = some (.int .i64 (f k)) := by rw [hR.bel.cell (p := ad.add k) (by rw [Mon_block_of_add]; exact hbk)]; exact hx0
      clear hx0 hbk
      have hfk := HF.out k hlt
      by_cases hm : f k = -9223372036854775808
      · obtain ⟨q1, q2⟩ := sum_bad (f := f) (n := n) (fun h => h k hlt hm)
        have Q1 := Lib.hid (HV.out.symm.trans q1)
        have Q2 := Lib.hid (HE.out.symm.trans q2)
        have HM := Lib.hid hm
        have hB := hR.bel
        clear hm q1 q2 hR
        go_wp2_with (go_at_call 27; refine (is_no _ _ HM.out).mono ?_; rintro e w' ⟨rfl, rfl⟩)
        go_ret2
        exact ⟨by rw [Q1.out, Q2.out]; rfl, hB⟩
      · have HM := Lib.hid hm
        clear hm
        by_cases hp : 0 ≤ f k
        · skip
          have e1 : pS f (k + 1) = pS f k + (f k).natAbs := by simp only [pS]; rw [if_pos hp]
          have e2 : nS f (k + 1) = nS f k := by simp only [nS]; rw [if_pos hp]; rfl
          have E1 := Lib.hid e1
          have E2 := Lib.hid e2
          have HA2 := Lib.hid (show allAm f (k + 1) from fun i hi => by
            rcases Nat.lt_or_ge i k with q | q
            · exact HA.out i q
            · have e : i = k := by omega
              rw [e]; exact HM.out)
          clear e1 e2
          go_wp2_with (go_at_call 27; refine (is_yes _ _ HM.out).mono ?_; rintro e w' ⟨rfl, rfl⟩)
          have hU := hR.u
          have WU := Lib.hid (show ∀ w', Below wr.heap.size wr w' → WAt w' w.heap.size (pS f k) from fun w' q => hU.below q (by have := hR.size; omega))
          have WF := Lib.hid (show ∀ w', Below wr.heap.size wr w' → ∀ o, w'.frozen? ⟨w.heap.size, o, none⟩ = false from fun w' q o => by rw [q.frozen (p := ⟨w.heap.size, o, none⟩) (show w.heap.size < wr.heap.size by have := hR.size; omega)]; exact hR.fu o)
          have u0 := hU 0 (by omega)
          have u1 := hU 1 (by omega)
          have u2 := hU 2 (by omega)
          have u3 := hU 3 (by omega)
          have u4 := hU 4 (by omega)
          have u5 := hU 5 (by omega)
          have HR := Lib.hid hR
          clear hR hU
          go_region_with (first
            | (go_at_call 29; refine (of_at (w0 := wr) (by repeat (first | exact Below.refl _ _ | apply fm_drewN | apply fm_drew)) _ hfk.1 hfk.2).mono ?_; rintro e w1 ⟨rfl, hq⟩; have v0 := WU.out _ hq 0 (by omega); have v1 := WU.out _ hq 1 (by omega); have v2 := WU.out _ hq 2 (by omega); have v3 := WU.out _ hq 3 (by omega); have v4 := WU.out _ hq 4 (by omega); have v5 := WU.out _ hq 5 (by omega); have vf := WF.out _ hq)
            | (go_at_call 28; refine (plus_at (w0 := wr) (by repeat (first | assumption | exact Below.refl _ _ | apply fm_drewN | apply fm_drew)) (pS f k) (f k).natAbs).mono ?_; rintro e w2 ⟨rfl, hq2⟩; unfold wide; have x0 := WU.out _ hq2 0 (by omega); have x1 := WU.out _ hq2 1 (by omega); have x2 := WU.out _ hq2 2 (by omega); have x3 := WU.out _ hq2 3 (by omega); have x4 := WU.out _ hq2 4 (by omega); have x5 := WU.out _ hq2 5 (by omega); have xf := WF.out _ hq2))
          all_goals
            go_wp2_with fail
            have hg2 := Hg.out
            go_roundg (n - (k + 1))
            case measure => omega
            case rel =>
              refine ⟨k + 1, by omega, rfl, by go_num, HA2.out, ?_⟩
              rw [E1.out, E2.out]
              exact (SumRel.later HR.out hq2).putU _
        · skip
          have e1 : nS f (k + 1) = nS f k + (f k).natAbs := by simp only [nS]; rw [if_neg hp]
          have e2 : pS f (k + 1) = pS f k := by simp only [pS]; rw [if_neg hp]; rfl
          have hp' : f k < 0 := by omega
          have hpb : decide (0 ≤ f k) = false := by rw [decide_eq_false_iff_not]; exact hp
          have E1 := Lib.hid e1
          have E2 := Lib.hid e2
          have HA2 := Lib.hid (show allAm f (k + 1) from fun i hi => by
            rcases Nat.lt_or_ge i k with q | q
            · exact HA.out i q
            · have e : i = k := by omega
              rw [e]; exact HM.out)
          clear e1 e2 hp
          go_wp2_with (go_at_call 27; refine (is_yes _ _ HM.out).mono ?_; rintro e w' ⟨rfl, rfl⟩)
          have hU := hR.d
          have WU := Lib.hid (show ∀ w', Below wr.heap.size wr w' → WAt w' (w.heap.size + 1) (nS f k) from fun w' q => hU.below q (by have := hR.size; omega))
          have WF := Lib.hid (show ∀ w', Below wr.heap.size wr w' → ∀ o, w'.frozen? ⟨w.heap.size + 1, o, none⟩ = false from fun w' q o => by rw [q.frozen (p := ⟨w.heap.size + 1, o, none⟩) (show w.heap.size + 1 < wr.heap.size by have := hR.size; omega)]; exact hR.fd o)
          have u0 := hU 0 (by omega)
          have u1 := hU 1 (by omega)
          have u2 := hU 2 (by omega)
          have u3 := hU 3 (by omega)
          have u4 := hU 4 (by omega)
          have u5 := hU 5 (by omega)
          have HR := Lib.hid hR
          clear hR hU
          go_region_with (first
            | (go_at_call 29; refine (of_at (w0 := wr) (by repeat (first | exact Below.refl _ _ | apply fm_drewN | apply fm_drew)) _ hfk.1 hfk.2).mono ?_; rintro e w1 ⟨rfl, hq⟩; have v0 := WU.out _ hq 0 (by omega); have v1 := WU.out _ hq 1 (by omega); have v2 := WU.out _ hq 2 (by omega); have v3 := WU.out _ hq 3 (by omega); have v4 := WU.out _ hq 4 (by omega); have v5 := WU.out _ hq 5 (by omega); have vf := WF.out _ hq)
            | (go_at_call 28; refine (plus_at (w0 := wr) (by repeat (first | assumption | exact Below.refl _ _ | apply fm_drewN | apply fm_drew)) (nS f k) (f k).natAbs).mono ?_; rintro e w2 ⟨rfl, hq2⟩; unfold wide; have x0 := WU.out _ hq2 0 (by omega); have x1 := WU.out _ hq2 1 (by omega); have x2 := WU.out _ hq2 2 (by omega); have x3 := WU.out _ hq2 3 (by omega); have x4 := WU.out _ hq2 4 (by omega); have x5 := WU.out _ hq2 5 (by omega); have xf := WF.out _ hq2))
          all_goals
            go_wp2_with fail
            have hg2 := Hg.out
            go_roundg (n - (k + 1))
            case measure => omega
            case rel =>
              refine ⟨k + 1, by omega, rfl, by go_num, HA2.out, ?_⟩
              rw [E1.out, E2.out]
              exact (SumRel.later HR.out hq2).putD _
    · obtain rfl : k = n := by omega
      have hsz := hR.size
      have hszB := hR.bel
      have hz0 : w.heap.size < wr.heap.size := by omega
      have hU := hR.u
      have hD := hR.d
      have u0 := hU 0 (by omega)
      have u1 := hU 1 (by omega)
      have u2 := hU 2 (by omega)
      have u3 := hU 3 (by omega)
      have u4 := hU 4 (by omega)
      have u5 := hU 5 (by omega)
      have d0 := hD 0 (by omega)
      have d1 := hD 1 (by omega)
      have d2 := hD 2 (by omega)
      have d3 := hD 3 (by omega)
      have d4 := hD 4 (by omega)
      have d5 := hD 5 (by omega)
      obtain ⟨U6, D6⟩ := pS_lt f k hn HF.out
      have H6 := Lib.hid (And.intro U6 D6)
      have ht := Lib.hid (tS_eq f k)
      clear hU hD hR U6 D6
      generalize pS f k = U at *
      generalize nS f k = D at *
      go_wp2_with fail
      refine (below_any U D _ H6.out.1 H6.out.2).mono ?_
      rintro e w1 ⟨rfl, hb1⟩
      obtain ⟨hc1, hf1⟩ := bcell hb1
      have hz1 := hb1.size
      have hz2 : w.heap.size < w1.heap.size := by omega
      have hz3 : w.heap.size + 1 < w1.heap.size := by omega
      have fb : Below w.heap.size w w1 := fm_call hszB hb1
      by_cases hlt2 : U < D
      · have HLT := Lib.hid (decide_eq_true hlt2)
        rw [HLT.out]
        go_wp2_with fail
        refine (minus_any D U _ (by omega)).mono ?_
        rintro e w2 ⟨rfl, hb2⟩
        unfold wide
        obtain ⟨hc2, hf2⟩ := bcell hb2
        have hz4 : w1.heap.size < w2.heap.size := by have := hb2.size; simp at this; omega
        have fb2 : Below w.heap.size w w2 := fm_call (fm_alloc fb _) hb2
        go_wp2_with fail
        by_cases hfit : D - U < 9223372036854775808
        · obtain ⟨q1, q2⟩ := sum_ok HA.out (show fitsI (tS f k) by unfold fitsI; have := ht.out; omega)
          have Q1 := Lib.hid (show V = -((D - U : Nat) : Int) by rw [← HV.out, q1]; have := ht.out; omega)
          have Q2 := Lib.hid (HE.out.symm.trans q2)
          clear q1 q2
          refine (amount_ok (D - U) true _ hfit).mono ?_
          rintro e w3 ⟨rfl, hb3⟩
          go_wp2
          go_ret2
          exact ⟨by rw [Q1.out, Q2.out]; rfl, fm_call (bel6 (g := fun j => (dig (D - U) j : Int)) fb2 (by have := hszB.size; omega)) hb3⟩
        · obtain ⟨q1, q2⟩ := sum_over HA.out (show ¬ fitsI (tS f k) by unfold fitsI; have := ht.out; omega)
          have Q1 := Lib.hid (HV.out.symm.trans q1)
          have Q2 := Lib.hid (HE.out.symm.trans q2)
          clear q1 q2
          refine (amount_no (D - U) true _ (Nat.lt_of_le_of_lt (Nat.sub_le _ _) H6.out.2) hfit).mono ?_
          rintro e w3 ⟨rfl, hb3⟩
          go_wp2
          go_ret2
          exact ⟨by rw [Q1.out, Q2.out]; rfl, fm_call (bel6 (g := fun j => (dig (D - U) j : Int)) fb2 (by have := hszB.size; omega)) hb3⟩
      · have HLT := Lib.hid (decide_eq_false hlt2)
        rw [HLT.out]
        go_wp2_with fail
        refine (minus_any U D _ (by omega)).mono ?_
        rintro e w2 ⟨rfl, hb2⟩
        unfold wide
        obtain ⟨hc2, hf2⟩ := bcell hb2
        have hz4 : w1.heap.size < w2.heap.size := by have := hb2.size; simp at this; omega
        have fb2 : Below w.heap.size w w2 := fm_call (fm_alloc fb _) hb2
        go_wp2_with fail
        by_cases hfit : U - D < 9223372036854775808
        · obtain ⟨q1, q2⟩ := sum_ok HA.out (show fitsI (tS f k) by unfold fitsI; have := ht.out; omega)
          have Q1 := Lib.hid (show V = ((U - D : Nat) : Int) by rw [← HV.out, q1]; have := ht.out; omega)
          have Q2 := Lib.hid (HE.out.symm.trans q2)
          clear q1 q2
          refine (amount_ok (U - D) false _ hfit).mono ?_
          rintro e w3 ⟨rfl, hb3⟩
          go_wp2
          go_ret2
          exact ⟨by rw [Q1.out, Q2.out]; rfl, fm_call (bel6 (g := fun j => (dig (U - D) j : Int)) fb2 (by have := hszB.size; omega)) hb3⟩
        · obtain ⟨q1, q2⟩ := sum_over HA.out (show ¬ fitsI (tS f k) by unfold fitsI; have := ht.out; omega)
          have Q1 := Lib.hid (HV.out.symm.trans q1)
          have Q2 := Lib.hid (HE.out.symm.trans q2)
          clear q1 q2
          refine (amount_no (U - D) false _ (Nat.lt_of_le_of_lt (Nat.sub_le _ _) H6.out.1) hfit).mono ?_
          rintro e w3 ⟨rfl, hb3⟩
          go_wp2
          go_ret2
          exact ⟨by rw [Q1.out, Q2.out]; rfl, fm_call (bel6 (g := fun j => (dig (U - D) j : Int)) fb2 (by have := hszB.size; omega)) hb3⟩
end Go.Proofs.Ytncndmhmmfbklaa
