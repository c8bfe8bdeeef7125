/- Contract of the document's Ratio. -/
import Derived.Test.YtncndmhmmfbklaaMonO
import Derived.Test.YtncndmhmmfbklaaMonE
import Derived.ChangeKeysEq
import Derived.Deep.DeepCutAuto
namespace Go.Proofs.Ytncndmhmmfbklaa
set_option linter.unusedVariables false
set_option linter.unusedSimpArgs false
open Go.RowKit
open MonMath (dig car bor mc)

/-- the size of a ratio, rounded -/
def ratQ (p d : Nat) (m : Bool) (how : Int) : Nat := p / d + (if p % d ≠ 0 ∧ upV how m (p / d) (p % d) d = true then 1 else 0)
def ratBad (a n : Int) : Prop := a = -9223372036854775808 ∨ n = -9223372036854775808
instance (a n : Int) : Decidable (ratBad a n) := by unfold ratBad; infer_instance
def ratArg (d how : Int) : Prop := d < 1 ∨ how < 0 ∨ 5 < how
instance (d how : Int) : Decidable (ratArg d how) := by unfold ratArg; infer_instance
/-- what a ratio is, and its error -/
def ratV (a n d how : Int) : Int := if ratArg d how then 0 else if ratBad a n then 0 else
  if ratQ (a.natAbs * n.natAbs) d.natAbs (mneg a n) how < 9223372036854775808 then sg (ratQ (a.natAbs * n.natAbs) d.natAbs (mneg a n) how) (mneg a n) else 0
def ratE (a n d how : Int) : Int := if ratArg d how then 1 else if ratBad a n then 10 else
  if ratQ (a.natAbs * n.natAbs) d.natAbs (mneg a n) how < 9223372036854775808 then 0 else 11
theorem rat_arg {a n d how : Int} (h : ratArg d how) : ratV a n d how = 0 ∧ ratE a n d how = 1 := by unfold ratV ratE; rw [if_pos h, if_pos h]; exact ⟨rfl, rfl⟩
theorem rat_bad {a n d how : Int} (h : ¬ ratArg d how) (k : ratBad a n) : ratV a n d how = 0 ∧ ratE a n d how = 10 := by
  unfold ratV ratE; rw [if_neg h, if_neg h, if_pos k, if_pos k]; exact ⟨rfl, rfl⟩
theorem rat_ok {a n d how : Int} {q : Nat} (h : ¬ ratArg d how) (k : ¬ ratBad a n) (hq : ratQ (a.natAbs * n.natAbs) d.natAbs (mneg a n) how = q) (hl : q < 9223372036854775808) : ratV a n d how = sg q (mneg a n) ∧ ratE a n d how = 0 := by
  unfold ratV ratE; rw [if_neg h, if_neg h, if_neg k, if_neg k, hq, if_pos hl, if_pos hl]; exact ⟨rfl, rfl⟩
theorem rat_over {a n d how : Int} {q : Nat} (h : ¬ ratArg d how) (k : ¬ ratBad a n) (hq : ratQ (a.natAbs * n.natAbs) d.natAbs (mneg a n) how = q) (hl : ¬ q < 9223372036854775808) : ratV a n d how = 0 ∧ ratE a n d how = 11 := by
  unfold ratV ratE; rw [if_neg h, if_neg h, if_neg k, if_neg k, hq, if_neg hl, if_neg hl]; exact ⟨rfl, rfl⟩

theorem eq_any_wide (a b c d e f : Int) (w : World) : (Op.equalIn 9999 44 (.agg #[.int .u64 a, .int .u64 b, .int .u64 c, .int .u64 d, .int .u64 e, .int .u64 f]) (.agg #[.int .u64 0, .int .u64 0, .int .u64 0, .int .u64 0, .int .u64 0, .int .u64 0])).run Try.prog w = .ok (a == 0 && (b == 0 && (c == 0 && (d == 0 && (e == 0 && f == 0))))) w := by
  obtain ⟨i, hi⟩ : ∃ i, Try.prog.info? 40 = some i := ⟨_, rfl⟩
  have hu : Try.prog.underlying 44 = some (.array 6 40) := Try.underlying44
  have hc : Try.prog.cellsOf 40 = 1 := by kernel_rfl
  rw [show (9999 : Nat) = 9998 + 1 from rfl, run_equalIn_array w 9998 _ _ hu hi, hc]
  simp [Op.eqItems, List.range, List.range.loop, part, go_sem]
  repeat (split <;> simp_all)
theorem eq_wide_zero (w : World) : (Op.equalIn 9999 44 (.agg #[.int .u64 0, .int .u64 0, .int .u64 0, .int .u64 0, .int .u64 0, .int .u64 0]) (.agg #[.int .u64 0, .int .u64 0, .int .u64 0, .int .u64 0, .int .u64 0, .int .u64 0])).run Try.prog w = .ok true w := eq_any_wide 0 0 0 0 0 0 w
theorem eq_wide_more (r : Nat) (h0 : r ≠ 0) (h1 : r < 18446744073709551616) (w : World) : (Op.equalIn 9999 44 (.agg #[.int .u64 (dig r 0), .int .u64 (dig r 1), .int .u64 (dig r 2), .int .u64 (dig r 3), .int .u64 (dig r 4), .int .u64 (dig r 5)]) (.agg #[.int .u64 0, .int .u64 0, .int .u64 0, .int .u64 0, .int .u64 0, .int .u64 0])).run Try.prog w = .ok false w := by
  rw [eq_any_wide]
  congr 1
  obtain ⟨d0, d1, _⟩ := MonMath.dig_small h1
  by_cases c : dig r 0 = 0
  · have : ((dig r 1 : Int) == 0) = false := beq_eq_false_iff_ne.mpr (by omega)
    rw [this]; simp
  · have : ((dig r 0 : Int) == 0) = false := beq_eq_false_iff_ne.mpr (by omega)
    rw [this]; simp

theorem up_at {w0 w' : World} (h : Below w0.heap.size w0 w') (how : Int) (m : Bool) (q r d : Nat) (U : Bool) (hU : upV how m q r d = U) (h1 : r + r < 4294967296 ^ 6) (h2 : d < 4294967296 ^ 6) :
    Calls Try.prog 46 #[.int .i64 how, .bool m, wide q, wide r, wide d] w' fun e w'' => e = .returned (.bool U) ∧ Below w0.heap.size w0 w'' :=
  (up_any how m q r d w' h1 h2).mono fun _ _ ⟨he, hb⟩ => ⟨by rw [he, hU], fm_call h hb⟩

set_option maxHeartbeats 4000000 in
set_option maxRecDepth 100000 in
/-- daybookref01.Ratio -/
theorem rratio_any (a n d how : Int) (w : World) (ha : -9223372036854775808 ≤ a ∧ a ≤ 9223372036854775807) (hn : -9223372036854775808 ≤ n ∧ n ≤ 9223372036854775807) (hd : -9223372036854775808 ≤ d ∧ d ≤ 9223372036854775807) :
    Calls Try.prog 22 #[.int .i64 a, .int .i64 n, .int .i64 d, .int .i64 how] w fun e w' => e = .returned (.tuple #[.int .i64 (ratV a n d how), .int .i64 (ratE a n d how)]) ∧ Below w.heap.size w w' := by
  by_cases h1 : ratArg d how
  · obtain ⟨e1, e2⟩ := rat_arg (a := a) (n := n) h1
    rw [e1, e2]
    clear e1 e2 ha hn hd
    unfold ratArg at h1
    by_cases c1 : d < 1
    · clear h1
      go_enter Try.func22, Try.ntmps22
      go_wp2
      go_ret2
      exact ⟨rfl, by repeat (first | exact Below.refl _ _ | apply fm_alloc)⟩
    · by_cases c2 : how < 0
      · clear h1
        go_enter Try.func22, Try.ntmps22
        go_wp2
        go_ret2
        exact ⟨rfl, by repeat (first | exact Below.refl _ _ | apply fm_alloc)⟩
      · have c3 : 5 < how := by omega
        clear h1
        go_enter Try.func22, Try.ntmps22
        go_wp2
        go_ret2
        exact ⟨rfl, by repeat (first | exact Below.refl _ _ | apply fm_alloc)⟩
  · have g1 : 1 ≤ d := by unfold ratArg at h1; omega
    have g2 : 0 ≤ how := by unfold ratArg at h1; omega
    have g3 : how ≤ 5 := by unfold ratArg at h1; omega
    by_cases h2 : ratBad a n
    · obtain ⟨e1, e2⟩ := rat_bad h1 h2
      rw [e1, e2]
      clear e1 e2 ha hn hd h1
      unfold ratBad at h2
      have H2 := Lib.hid h2
      by_cases ka : a = -9223372036854775808
      · have HA := Lib.hid ka
        by_cases kn : n = -9223372036854775808
        · have HN := Lib.hid kn
          clear h2 ka kn
          go_enter Try.func22, Try.ntmps22
          go_wp2_with fail
          refine (is_no _ _ HA.out).mono ?_
          rintro e w' ⟨rfl, rfl⟩
          go_wp2_with fail
          refine (is_no _ _ HN.out).mono ?_
          rintro e w' ⟨rfl, rfl⟩
          go_wp2
          go_ret2
          exact ⟨rfl, by repeat (first | exact Below.refl _ _ | apply fm_alloc)⟩
        · have HN := Lib.hid kn
          clear h2 ka kn
          go_enter Try.func22, Try.ntmps22
          go_wp2_with fail
          refine (is_no _ _ HA.out).mono ?_
          rintro e w' ⟨rfl, rfl⟩
          go_wp2_with fail
          refine (is_yes _ _ HN.out).mono ?_
          rintro e w' ⟨rfl, rfl⟩
          go_wp2
          go_ret2
          exact ⟨rfl, by repeat (first | exact Below.refl _ _ | apply fm_alloc)⟩
      · have HA := Lib.hid ka
        have HN := Lib.hid (show n = -9223372036854775808 from h2.resolve_left ka)
        clear h2 ka
        go_enter Try.func22, Try.ntmps22
        go_wp2_with fail
        refine (is_yes _ _ HA.out).mono ?_
        rintro e w' ⟨rfl, rfl⟩
        go_wp2_with fail
        refine (is_no _ _ HN.out).mono ?_
        rintro e w' ⟨rfl, rfl⟩
        go_wp2
        go_ret2
        exact ⟨rfl, by repeat (first | exact Below.refl _ _ | apply fm_alloc)⟩
    · obtain ⟨V, hV⟩ : ∃ V, ratV a n d how = V := ⟨_, rfl⟩
      obtain ⟨E, hE⟩ : ∃ E, ratE a n d how = E := ⟨_, rfl⟩
      rw [hV, hE]
      have HH := Lib.hid (show ¬ ratArg d how ∧ ¬ ratBad a n ∧ ratV a n d how = V ∧ ratE a n d how = E from ⟨h1, h2, hV, hE⟩)
      have HA := Lib.hid (show a ≠ -9223372036854775808 from fun q => h2 (Or.inl q))
      have HN := Lib.hid (show n ≠ -9223372036854775808 from fun q => h2 (Or.inr q))
      have H1 := Lib.hid ha
      have H2 := Lib.hid hn
      have H3 := Lib.hid hd
      have HDD := Lib.hid (show 0 < d.natAbs ∧ d.natAbs < 9223372036854775808 by omega)
      clear h1 h2 hV hE ha hn hd
      go_enter Try.func22, Try.ntmps22
      go_wp2_with fail
      refine (is_yes _ _ HA.out).mono ?_
      rintro e w' ⟨rfl, rfl⟩
      go_wp2_with fail
      refine (is_yes _ _ HN.out).mono ?_
      rintro e w' ⟨rfl, rfl⟩
      go_wp2_with fail
      refine (of_any _ _ H1.out.1 H1.out.2).mono ?_
      rintro e w1 ⟨rfl, b1⟩
      go_wp2_with fail
      refine (of_any _ _ H2.out.1 H2.out.2).mono ?_
      rintro e w2 ⟨rfl, b2⟩
      go_wp2_with fail
      have HB6 := Lib.hid (show (9223372036854775808 : Nat) * 9223372036854775808 < 4294967296 ^ 6 ∧ 9223372036854775808 < 4294967296 ^ 6 by decide)
      have HP := Lib.hid (show a.natAbs * n.natAbs < 4294967296 ^ 6 ∧ a.natAbs < 4294967296 ^ 6 ∧ a.natAbs * n.natAbs ≤ 9223372036854775808 * 9223372036854775808 by
        have h1 := H1.out; have h2 := H2.out; have h3 := HB6.out
        have h4 : a.natAbs * n.natAbs ≤ 9223372036854775808 * 9223372036854775808 := Nat.mul_le_mul (by omega) (by omega)
        exact ⟨Nat.lt_of_le_of_lt h4 h3.1, Nat.lt_of_le_of_lt (by omega) h3.2, h4⟩)
      refine (times_any _ _ _ HP.out.2.1).mono ?_
      rintro e w3 ⟨rfl, b3⟩
      go_wp2_with fail
      refine (of_any _ _ H3.out.1 H3.out.2).mono ?_
      rintro e w4 ⟨rfl, b4⟩
      go_wp2_with fail
      refine (over_any _ _ _ HP.out.1 HDD.out.1 HDD.out.2).mono ?_
      rintro e w5 ⟨rfl, b5⟩
      obtain ⟨p, hp⟩ : ∃ p, a.natAbs * n.natAbs = p := ⟨_, rfl⟩
      obtain ⟨D, hD⟩ : ∃ D, d.natAbs = D := ⟨_, rfl⟩
      rw [hp, hD]
      obtain ⟨q, hq⟩ : ∃ q, p / D = q := ⟨_, rfl⟩
      obtain ⟨r, hr⟩ : ∃ r, p % D = r := ⟨_, rfl⟩
      rw [hq, hr]
      have HE := Lib.hid (show a.natAbs * n.natAbs = p ∧ d.natAbs = D ∧ p / D = q ∧ p % D = r from ⟨hp, hD, hq, hr⟩)
      clear hp hD hq hr
      have BB := Lib.hid (show Below w.heap.size w w5 from fm_call (fm_call (fm_call (fm_call (by repeat (first | exact b1 | apply fm_alloc)) b2) b3) b4) b5)
      clear b1 b2 b3 b4 b5
      unfold wide
      have hQ0 := HE.out.2.2.1
      by_cases hz : r = 0
      · subst hz
        have HQ := Lib.hid (show ratQ (a.natAbs * n.natAbs) d.natAbs (mneg a n) how = q by
          rw [HE.out.1, HE.out.2.1]; unfold ratQ; rw [if_neg (fun h => h.1 HE.out.2.2.2), HE.out.2.2.1]; rfl)
        simp only [MonMath.dig_zero]
        have hez := eq_wide_zero
        clear hQ0
        go_wp2_with fail
        by_cases hl : q < 9223372036854775808
        · obtain ⟨e1, e2⟩ := rat_ok HH.out.1 HH.out.2.1 HQ.out hl
          have F := Lib.hid (show V = sg q (mneg a n) ∧ E = 0 from ⟨HH.out.2.2.1.symm.trans e1, HH.out.2.2.2.symm.trans e2⟩)
          have HL := Lib.hid hl
          clear e1 e2 hl
          refine (amount_ok q (mneg a n) _ HL.out).mono ?_
          rintro e w6 ⟨rfl, b6⟩
          go_wp2_with fail
          go_ret2
          exact ⟨by rw [F.out.1, F.out.2]; rfl, fm_call (fm_alloc (fm_alloc BB.out _) _) b6⟩
        · obtain ⟨e1, e2⟩ := rat_over HH.out.1 HH.out.2.1 HQ.out hl
          have F := Lib.hid (show V = 0 ∧ E = 11 from ⟨HH.out.2.2.1.symm.trans e1, HH.out.2.2.2.symm.trans e2⟩)
          have HL := Lib.hid hl
          clear e1 e2 hl
          refine (amount_no q (mneg a n) _ (by
            have h1 := HP.out.1; have h2 := HE.out.1; have h3 := HE.out.2.2.1
            rw [← h3]; exact Nat.lt_of_le_of_lt (Nat.div_le_self _ _) (by rw [← h2]; exact h1)) HL.out).mono ?_
          rintro e w6 ⟨rfl, b6⟩
          go_wp2_with fail
          go_ret2
          exact ⟨by rw [F.out.1, F.out.2]; rfl, fm_call (fm_alloc (fm_alloc BB.out _) _) b6⟩
      · have hrD : r < 9223372036854775808 := by
          have h1 := HDD.out; have h2 := HE.out; have h3 := Nat.mod_lt p (show 0 < D by omega); omega
        have hez := eq_wide_more r hz (by omega)
        have HZ := Lib.hid hz
        have HRD := Lib.hid hrD
        clear hz hrD hQ0
        go_upto_region 10 with fail
        have cq : WAt ((w5.alloc (.cells #[.int .u64 (dig q 0), .int .u64 (dig q 1), .int .u64 (dig q 2), .int .u64 (dig q 3), .int .u64 (dig q 4), .int .u64 (dig q 5)] 46)).alloc (.cells #[.int .u64 (dig r 0), .int .u64 (dig r 1), .int .u64 (dig r 2), .int .u64 (dig r 3), .int .u64 (dig r 4), .int .u64 (dig r 5)] 46)) w5.heap.size q := six (by simp [go_sem]) (by simp [go_sem]) (by simp [go_sem]) (by simp [go_sem]) (by simp [go_sem]) (by simp [go_sem])
        have cr : WAt ((w5.alloc (.cells #[.int .u64 (dig q 0), .int .u64 (dig q 1), .int .u64 (dig q 2), .int .u64 (dig q 3), .int .u64 (dig q 4), .int .u64 (dig q 5)] 46)).alloc (.cells #[.int .u64 (dig r 0), .int .u64 (dig r 1), .int .u64 (dig r 2), .int .u64 (dig r 3), .int .u64 (dig r 4), .int .u64 (dig r 5)] 46)) (w5.heap.size + 1) r := six (by simp [go_sem]) (by simp [go_sem]) (by simp [go_sem]) (by simp [go_sem]) (by simp [go_sem]) (by simp [go_sem])
        have cf : ∀ o, ((w5.alloc (.cells #[.int .u64 (dig q 0), .int .u64 (dig q 1), .int .u64 (dig q 2), .int .u64 (dig q 3), .int .u64 (dig q 4), .int .u64 (dig q 5)] 46)).alloc (.cells #[.int .u64 (dig r 0), .int .u64 (dig r 1), .int .u64 (dig r 2), .int .u64 (dig r 3), .int .u64 (dig r 4), .int .u64 (dig r 5)] 46)).frozen? ⟨w5.heap.size, o, none⟩ = false := fun o => by simp [go_sem]
        have cs : w5.heap.size + 1 < ((w5.alloc (.cells #[.int .u64 (dig q 0), .int .u64 (dig q 1), .int .u64 (dig q 2), .int .u64 (dig q 3), .int .u64 (dig q 4), .int .u64 (dig q 5)] 46)).alloc (.cells #[.int .u64 (dig r 0), .int .u64 (dig r 1), .int .u64 (dig r 2), .int .u64 (dig r 3), .int .u64 (dig r 4), .int .u64 (dig r 5)] 46)).heap.size := by simp
        have cb : Below w.heap.size w ((w5.alloc (.cells #[.int .u64 (dig q 0), .int .u64 (dig q 1), .int .u64 (dig q 2), .int .u64 (dig q 3), .int .u64 (dig q 4), .int .u64 (dig q 5)] 46)).alloc (.cells #[.int .u64 (dig r 0), .int .u64 (dig r 1), .int .u64 (dig r 2), .int .u64 (dig r 3), .int .u64 (dig r 4), .int .u64 (dig r 5)] 46)) := fm_alloc (fm_alloc BB.out _) _
        have cw : w.heap.size ≤ w5.heap.size := BB.out.size
        generalize ((w5.alloc (.cells #[.int .u64 (dig q 0), .int .u64 (dig q 1), .int .u64 (dig q 2), .int .u64 (dig q 3), .int .u64 (dig q 4), .int .u64 (dig q 5)] 46)).alloc (.cells #[.int .u64 (dig r 0), .int .u64 (dig r 1), .int .u64 (dig r 2), .int .u64 (dig r 3), .int .u64 (dig r 4), .int .u64 (dig r 5)] 46)) = w9 at *
        generalize w5.heap.size = B at *
        have BB9 := Lib.hid cb
        have WQ := Lib.hid (show ∀ w', Below w9.heap.size w9 w' → WAt w' B q from fun w' h => cq.below h (by omega))
        have WR := Lib.hid (show ∀ w', Below w9.heap.size w9 w' → WAt w' (B + 1) r from fun w' h => cr.below h (by omega))
        have WF := Lib.hid (show ∀ w', Below w9.heap.size w9 w' → ∀ o, w'.frozen? ⟨B, o, none⟩ = false from fun w' h o => by rw [h.frozen (p := ⟨B, o, none⟩) (show B < w9.heap.size by omega)]; exact cf o)
        have HS := Lib.hid (And.intro cs cw)
        clear cb cf cs cw
        have q0 := cq 0 (by omega)
        have q1 := cq 1 (by omega)
        have q2 := cq 2 (by omega)
        have q3 := cq 3 (by omega)
        have q4 := cq 4 (by omega)
        have q5 := cq 5 (by omega)
        have r0 := cr 0 (by omega)
        have r1 := cr 1 (by omega)
        have r2 := cr 2 (by omega)
        have r3 := cr 3 (by omega)
        have r4 := cr 4 (by omega)
        have r5 := cr 5 (by omega)
        clear cq cr
        have HR6 := Lib.hid (show r + r < 4294967296 ^ 6 ∧ D < 4294967296 ^ 6 from by
          have h1 := HRD.out; have h2 := HB6.out; have h3 := HDD.out; have h4 := HE.out.2.1
          exact ⟨Nat.lt_trans (show r + r < 9223372036854775808 * 9223372036854775808 by omega) h2.1, Nat.lt_trans (show D < 9223372036854775808 by omega) h2.2⟩)
        have OF : ∀ w', Below w9.heap.size w9 w' → Calls Try.prog 29 #[.int .i64 d] w' fun e w'' => e = .returned (wide D) ∧ Below w9.heap.size w9 w'' := fun w' h => by
          have := of_at h d H3.out.1 H3.out.2
          rw [HE.out.2.1] at this
          exact this
        have HOF := Lib.hid OF
        clear OF
        have key : ∀ U : Bool, upV how (mneg a n) q r D = U → Hid (ratQ (a.natAbs * n.natAbs) d.natAbs (mneg a n) how = q + U.toNat) := fun U hU => Lib.hid (by
          rw [HE.out.1, HE.out.2.1]; unfold ratQ; rw [HE.out.2.2.1, HE.out.2.2.2]
          cases U
          · rw [if_neg (fun h => by rw [hU] at h; exact absurd h.2 (by decide))]; rfl
          · rw [if_pos ⟨HZ.out, hU⟩]; rfl)
        obtain ⟨U, hU⟩ : ∃ U, upV how (mneg a n) q r D = U := ⟨_, rfl⟩
        have HQ := key U hU
        have HU := Lib.hid hU
        clear key hU
        go_cut [15] (fun s15 wx => s15 = .bool U ∧ Below w9.heap.size w9 wx)
        case first =>
          go_region_with (first
            | (go_at_call 29; refine (HOF.out _ (by repeat (first | exact Below.refl _ _ | apply fm_drewN | apply fm_drew))).mono ?_; rintro e w6 ⟨rfl, hq⟩; have vq0 := WQ.out _ hq 0 (by omega); have vq1 := WQ.out _ hq 1 (by omega); have vq2 := WQ.out _ hq 2 (by omega); have vq3 := WQ.out _ hq 3 (by omega); have vq4 := WQ.out _ hq 4 (by omega); have vq5 := WQ.out _ hq 5 (by omega); have vr0 := WR.out _ hq 0 (by omega); have vr1 := WR.out _ hq 1 (by omega); have vr2 := WR.out _ hq 2 (by omega); have vr3 := WR.out _ hq 3 (by omega); have vr4 := WR.out _ hq 4 (by omega); have vr5 := WR.out _ hq 5 (by omega))
            | (go_at_call 46; refine (up_at (w0 := w9) (by repeat (first | assumption | exact Below.refl _ _ | apply fm_drewN | apply fm_drew)) how (mneg a n) q r D U HU.out HR6.out.1 HR6.out.2).mono ?_; rintro e w7 ⟨rfl, hq2⟩))
          all_goals (go_wp2_with fail; go_meet; exact ⟨rfl, by assumption⟩)
        case rest =>
          obtain ⟨rfl, hq⟩ := hcut
          clear q0 q1 q2 q3 q4 q5 r0 r1 r2 r3 r4 r5
          have vq0 := WQ.out _ hq 0 (by omega); have vq1 := WQ.out _ hq 1 (by omega); have vq2 := WQ.out _ hq 2 (by omega); have vq3 := WQ.out _ hq 3 (by omega); have vq4 := WQ.out _ hq 4 (by omega); have vq5 := WQ.out _ hq 5 (by omega)
          have vf := WF.out _ hq
          cases U
          · go_wp2_with fail
            rw [show q + Bool.toNat false = q from rfl] at HQ
            by_cases hl : q < 9223372036854775808
            · obtain ⟨e1, e2⟩ := rat_ok HH.out.1 HH.out.2.1 HQ.out hl
              have F := Lib.hid (show V = sg (q) (mneg a n) ∧ E = 0 from ⟨HH.out.2.2.1.symm.trans e1, HH.out.2.2.2.symm.trans e2⟩)
              have HL := Lib.hid hl
              clear e1 e2 hl
              refine (amount_ok (q) (mneg a n) _ HL.out).mono ?_
              rintro e w8 ⟨rfl, b8⟩
              go_wp2_with fail
              go_ret2
              exact ⟨by rw [F.out.1, F.out.2]; rfl, fm_call (fm_call BB9.out hq) b8⟩
            · obtain ⟨e1, e2⟩ := rat_over HH.out.1 HH.out.2.1 HQ.out hl
              have F := Lib.hid (show V = 0 ∧ E = 11 from ⟨HH.out.2.2.1.symm.trans e1, HH.out.2.2.2.symm.trans e2⟩)
              have HL := Lib.hid hl
              clear e1 e2 hl
              refine (amount_no (q) (mneg a n) _ (by
                have h1 := HP.out.2.2; have h2 := HE.out.1; have h3 := HE.out.2.2.1; have h4 := HB6.out.1; have h5 := Nat.div_le_self p D
                rw [h2] at h1; rw [h3] at h5
                exact Nat.lt_of_le_of_lt (show q ≤ 9223372036854775808 * 9223372036854775808 + 1 by omega) (by decide)) HL.out).mono ?_
              rintro e w8 ⟨rfl, b8⟩
              go_wp2_with fail
              go_ret2
              exact ⟨by rw [F.out.1, F.out.2]; rfl, fm_call (fm_call BB9.out hq) b8⟩
          · rw [show q + Bool.toNat true = q + 1 from rfl] at HQ
            have OF2 := Lib.hid (show ∀ w', Below w9.heap.size w9 w' → Calls Try.prog 29 #[.int .i64 1] w' fun e w'' => e = .returned (wide 1) ∧ Below w9.heap.size w9 w'' from fun w' h => of_at h 1 (by decide) (by decide))
            have HSS := HS.out
            go_wp2_with fail
            go_region_with (first
              | (go_at_call 29; refine (OF2.out _ (by repeat (first | assumption | exact Below.refl _ _ | apply fm_drewN | apply fm_drew))).mono ?_; rintro e w6 ⟨rfl, hq3⟩; have x0 := WQ.out _ hq3 0 (by omega); have x1 := WQ.out _ hq3 1 (by omega); have x2 := WQ.out _ hq3 2 (by omega); have x3 := WQ.out _ hq3 3 (by omega); have x4 := WQ.out _ hq3 4 (by omega); have x5 := WQ.out _ hq3 5 (by omega); have xf := WF.out _ hq3)
              | (go_at_call 28; refine (plus_at (w0 := w9) (by repeat (first | assumption | exact Below.refl _ _ | apply fm_drewN | apply fm_drew)) q 1).mono ?_; rintro e w7 ⟨rfl, hq4⟩; unfold wide; have y0 := WQ.out _ hq4 0 (by omega); have y1 := WQ.out _ hq4 1 (by omega); have y2 := WQ.out _ hq4 2 (by omega); have y3 := WQ.out _ hq4 3 (by omega); have y4 := WQ.out _ hq4 4 (by omega); have y5 := WQ.out _ hq4 5 (by omega); have yf := WF.out _ hq4))
            all_goals
              go_wp2_with fail
              have BF := Lib.hid (show Below w.heap.size w ((((((w7.setCell ⟨B, 0, none⟩ (.int .u64 (dig (q + 1) 0))).setCell ⟨B, 1, none⟩ (.int .u64 (dig (q + 1) 1))).setCell ⟨B, 2, none⟩ (.int .u64 (dig (q + 1) 2))).setCell ⟨B, 3, none⟩ (.int .u64 (dig (q + 1) 3))).setCell ⟨B, 4, none⟩ (.int .u64 (dig (q + 1) 4))).setCell ⟨B, 5, none⟩ (.int .u64 (dig (q + 1) 5))) from bel6 (g := fun j => (dig (q + 1) j : Int)) (fm_call BB9.out hq4) HSS.2)
              generalize ((((((w7.setCell ⟨B, 0, none⟩ (.int .u64 (dig (q + 1) 0))).setCell ⟨B, 1, none⟩ (.int .u64 (dig (q + 1) 1))).setCell ⟨B, 2, none⟩ (.int .u64 (dig (q + 1) 2))).setCell ⟨B, 3, none⟩ (.int .u64 (dig (q + 1) 3))).setCell ⟨B, 4, none⟩ (.int .u64 (dig (q + 1) 4))).setCell ⟨B, 5, none⟩ (.int .u64 (dig (q + 1) 5))) = w10 at *
              by_cases hl : q + 1 < 9223372036854775808
              · obtain ⟨e1, e2⟩ := rat_ok HH.out.1 HH.out.2.1 HQ.out hl
                have F := Lib.hid (show V = sg (q + 1) (mneg a n) ∧ E = 0 from ⟨HH.out.2.2.1.symm.trans e1, HH.out.2.2.2.symm.trans e2⟩)
                have HL := Lib.hid hl
                clear e1 e2 hl
                refine (amount_ok (q + 1) (mneg a n) _ HL.out).mono ?_
                rintro e w8 ⟨rfl, b8⟩
                go_wp2_with fail
                go_ret2
                exact ⟨by rw [F.out.1, F.out.2]; rfl, fm_call (BF.out) b8⟩
              · obtain ⟨e1, e2⟩ := rat_over HH.out.1 HH.out.2.1 HQ.out hl
                have F := Lib.hid (show V = 0 ∧ E = 11 from ⟨HH.out.2.2.1.symm.trans e1, HH.out.2.2.2.symm.trans e2⟩)
                have HL := Lib.hid hl
                clear e1 e2 hl
                refine (amount_no (q + 1) (mneg a n) _ (by
                  have h1 := HP.out.2.2; have h2 := HE.out.1; have h3 := HE.out.2.2.1; have h4 := HB6.out.1; have h5 := Nat.div_le_self p D
                  rw [h2] at h1; rw [h3] at h5
                  exact Nat.lt_of_le_of_lt (show q + 1 ≤ 9223372036854775808 * 9223372036854775808 + 1 by omega) (by decide)) HL.out).mono ?_
                rintro e w8 ⟨rfl, b8⟩
                go_wp2_with fail
                go_ret2
                exact ⟨by rw [F.out.1, F.out.2]; rfl, fm_call (BF.out) b8⟩
end Go.Proofs.Ytncndmhmmfbklaa
