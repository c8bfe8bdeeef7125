/- Contracts of the document's wide numbers that the reading of texts uses. -/
import Derived.Test.YtncndmhmmfbklaaDoorMonG
namespace Go.Proofs.YtncndmhmmfbklaaDoor
set_option linter.unusedVariables false
set_option linter.unusedSimpArgs false
open Go.RowKit
open MonMath (dig car bor mc)
set_option maxRecDepth 100000 in
set_option maxHeartbeats 4000000 in
/-- Wide.Times -/
theorem times_any (x y : Nat) (w : World) (hx : x < 4294967296 ^ 6) :
    Calls Tryd.prog 49 #[wide x, wide y] w fun e w' => e = .returned (wide (x * y)) ∧ Below w.heap.size w w' := by
  obtain ⟨s, hs⟩ : ∃ s, x * y = s := ⟨_, rfl⟩
  rw [hs]
  have HSS := Lib.hid (show (x % 4294967296 ^ 6) * y = s by rw [MonMath.dig_mod6 hx]; exact hs)
  clear hs hx
  unfold wide
  go_enter Tryd.func49, Tryd.ntmps49
  go_wp2
  go_loopg [6, 7, 8] 6 (fun g i c j wr => ∃ k : Nat, k ≤ 6 ∧ g = 6 - k ∧ i = .int .i64 k ∧ TimRel w wr x y (dig ((x % 4294967296 ^ k) * y)))
  case atStart =>
    refine ⟨0, by omega, by omega, rfl, ?_⟩
    have h := TimRel.of_plus (PlusRel.start w x y 0 79 #[.int .u64 (dig x 0), .int .u64 (dig x 1), .int .u64 (dig x 2), .int .u64 (dig x 3), .int .u64 (dig x 4), .int .u64 (dig x 5)] #[.int .u64 (dig y 0), .int .u64 (dig y 1), .int .u64 (dig y 2), .int .u64 (dig y 3), .int .u64 (dig y 4), .int .u64 (dig y 5)] rfl rfl)
    exact TimRel.congr h (fun j _ => by rw [Nat.pow_zero, Nat.mod_one, Nat.zero_mul, MonMath.dig_zero])
  case round =>
    obtain ⟨i, hk, hg, rfl, hR⟩ := hrel
    have Hg := Lib.hid hg
    clear hg
    by_cases hlt : i < 6
    · have HR := Lib.hid hR
      have hk2 : (i : Int) < 6 := by omega
      clear hR
      go_wp2_with fail
      obtain ⟨p, hp⟩ : ∃ p, (x % 4294967296 ^ i) * y = p := ⟨_, rfl⟩
      obtain ⟨xi, hxi⟩ : ∃ xi, dig x i = xi := ⟨_, rfl⟩
      have xil : xi < 4294967296 := by rw [← hxi]; exact MonMath.dig_lt x i
      have HP := Lib.hid hp
      have HXI := Lib.hid hxi
      clear hp hxi
      go_loopg [7, 8] (6 - i) (fun g c jj wx => ∃ j : Nat, i + j ≤ 6 ∧ g = 6 - i - j ∧ jj = .int .i64 j ∧ c = .int .u64 (mc p xi y i j) ∧
        TimRel w wx x y (fun l => if l < i + j then dig (p + xi * 4294967296 ^ i * y) l else dig p l))
      case atStart =>
        refine ⟨0, by omega, by omega, rfl, by rw [MonMath.mc_zero]; rfl, ?_⟩
        have h := HR.out
        rw [HP.out] at h
        refine TimRel.congr h (fun l hl => ?_)
        by_cases c : l < i + 0
        · rw [if_pos c]
          have hdv : dig (p + xi * 4294967296 ^ i * y) l = dig p l := by
            unfold MonMath.dig
            have e : xi * 4294967296 ^ i * y = 4294967296 ^ l * (4294967296 * (4294967296 ^ (i - l - 1) * (xi * y))) := by
              have e1 : (4294967296 : Nat) ^ i = 4294967296 ^ l * (4294967296 * 4294967296 ^ (i - l - 1)) := by
                rw [← Nat.pow_succ', ← Nat.pow_add]; congr 1; omega
              rw [e1]; ac_rfl
            rw [e, Nat.add_mul_div_left _ _ (Nat.pow_pos (by decide))]
            omega
          exact hdv.symm
        · rw [if_neg c]
      case round =>
        obtain ⟨j, hj, hg2, rfl, rfl, hR⟩ := hrel
        have Hg2 := Lib.hid hg2
        clear hg2
        by_cases hlt2 : i + j < 6
        · have hx := hR.xc i hlt
          rw [HXI.out] at hx
          have hy := hR.yc j (by omega)
          have hz := hR.zc (i + j) hlt2
          rw [if_neg (by omega)] at hz
          have hf := hR.f3
          have HR2 := Lib.hid hR
          have HS := Lib.hid (MonMath.mc_step p xi y i j)
          have d0 := MonMath.mc_le p xi y i j xil
          have d1 := MonMath.dig_lt p (i + j)
          have d2 := MonMath.dig_lt y j
          have d3 := MonMath.prod_le xil d2
          obtain ⟨c, hc⟩ : ∃ c : Int, (mc p xi y i j : Int) = c := ⟨_, rfl⟩
          obtain ⟨d, hd⟩ : ∃ d : Int, (dig p (i + j) : Int) = d := ⟨_, rfl⟩
          obtain ⟨q, hq⟩ : ∃ q : Int, (xi : Int) * (dig y j : Int) = q := ⟨_, rfl⟩
          have hc0 : 0 ≤ c ∧ c ≤ 4294967295 := by omega
          have hd0 : 0 ≤ d ∧ d ≤ 4294967295 := by omega
          have hq0 : 0 ≤ q ∧ q ≤ 18446744065119617025 := by rw [← hq, ← Int.natCast_mul]; omega
          obtain ⟨hc1, hc2⟩ := hc0
          obtain ⟨hd1, hd2⟩ := hd0
          obtain ⟨hq1, hq2⟩ := hq0
          have e1 : (c + d + q) % 4294967296 = (dig (p + xi * 4294967296 ^ i * y) (i + j) : Int) := by
            rw [← HS.out.1, ← hc, ← hd, ← hq, ← Int.natCast_mul]; omega
          have e2 : (c + d + q) / 4294967296 = (mc p xi y i (j + 1) : Int) := by
            rw [← HS.out.2, ← hc, ← hd, ← hq, ← Int.natCast_mul]; omega
          have E1 := Lib.hid e1
          have E2 := Lib.hid e2
          have hk3 : (j : Int) < 6 := by omega
          have hk4 : (i : Int) + (j : Int) < 6 := by omega
          have ht : ((i : Int) + (j : Int)).toNat = i + j := by omega
          have hk6 : 0 ≤ (i : Int) + (j : Int) := by omega
          have wu1 : IntKind.u64.wrap (c + d) = c + d := IntWalk.u64_in _ (by omega)
          have wu2 : IntKind.u64.wrap q = q := IntWalk.u64_in _ (by omega)
          have wu3 : IntKind.u64.wrap (c + d + q) = c + d + q := IntWalk.u64_in _ (by omega)
          have wi : IntKind.i64.wrap ((i : Int) + (j : Int)) = (i : Int) + (j : Int) := IntWalk.i64_in _ (by omega)
          rw [hd] at hz
          rw [hc]
          clear hR e1 e2 hc hd d0 d1 d3
          go_wp2_with fail
          go_still_tail 18, (by kernel_rfl)
          change wpList _ _ _ _ _ wr.drew
          go_wp2_with fail
          have hg3 := Hg2.out
          go_roundg (6 - i - (j + 1))
          case measure => omega
          case rel =>
            refine ⟨j + 1, by omega, rfl, by go_num, by rw [E2.out], ?_⟩
            rw [E1.out]
            refine TimRel.step HR2.out hlt2 ?_ ?_
            · show (if i + j < i + (j + 1) then dig (p + xi * 4294967296 ^ i * y) (i + j) else dig p (i + j)) = _
              rw [if_pos (by omega)]
            · intro l hl
              show (if l < i + (j + 1) then dig (p + xi * 4294967296 ^ i * y) l else dig p l) = (if l < i + j then dig (p + xi * 4294967296 ^ i * y) l else dig p l)
              by_cases c : l < i + j
              · rw [if_pos c, if_pos (by omega)]
              · rw [if_neg c, if_neg (by omega)]
        · have ej : i + j = 6 := by omega
          have HJ := Lib.hid ej
          have HR3 := Lib.hid hR
          have hk4 : 6 ≤ (i : Int) + (j : Int) := by omega
          have hk5 : (i : Int) + (j : Int) ≤ 6 := by omega
          clear ej hR
          go_wp2_with fail
          have hg3 := Hg.out
          go_roundg (6 - (i + 1))
          case measure => omega
          case rel =>
            refine ⟨i + 1, by omega, rfl, by go_num, ?_⟩
            refine TimRel.congr HR3.out (fun l hl => ?_)
            have := HJ.out
            rw [if_pos (by omega), ← HP.out, ← HXI.out, MonMath.row_sum]
    · obtain rfl : i = 6 := by omega
      rw [HSS.out] at hR
      have z0 := hR.zc 0 (by omega)
      have z1 := hR.zc 1 (by omega)
      have z2 := hR.zc 2 (by omega)
      have z3 := hR.zc 3 (by omega)
      have z4 := hR.zc 4 (by omega)
      have z5 := hR.zc 5 (by omega)
      have r0 := hR.rc 0 (by omega)
      have r1 := hR.rc 1 (by omega)
      have r2 := hR.rc 2 (by omega)
      have r3 := hR.rc 3 (by omega)
      have r4 := hR.rc 4 (by omega)
      have r5 := hR.rc 5 (by omega)
      have hf2 := hR.f2
      have hB := hR.bel
      clear hR
      go_wp2
      refine bodyPost_ret (v := .agg #[.int .u64 (dig s 0), .int .u64 (dig s 1), .int .u64 (dig s 2), .int .u64 (dig s 3), .int .u64 (dig s 4), .int .u64 (dig s 5)]) ?_ rfl ⟨rfl, ?_⟩
      · simp [results, Tryd.results49, go_sem, r0, r1, r2, r3, r4, r5]
      · repeat (first | (with_reducible exact hB) | (with_reducible refine Below.setCell ?_ ?_ _; rotate_left; · show w.heap.size ≤ w.heap.size + 1 + 1; omega))
set_option maxHeartbeats 2000000 in
set_option maxRecDepth 100000 in
theorem amount_plus (v : Nat) (w : World) (h : v < 9223372036854775808) :
    Calls Tryd.prog 52 #[wide v, .bool false] w fun e w' => e = .returned (.tuple #[.int .i64 (v), .bool true]) ∧ Below w.heap.size w w' := by
  obtain ⟨h0, h1, h2, h3, h4, h5, h6⟩ := MonMath.fits_dig h
  unfold wide
  rw [h0, h1, h3, h4, h5, h6]
  clear h0 h1 h3 h4 h5 h6
  have hv := Nat.div_add_mod v 4294967296
  have hm := Nat.mod_lt v (show 0 < 4294967296 by decide)
  obtain ⟨a, ha⟩ : ∃ a, v / 4294967296 = a := ⟨_, rfl⟩
  obtain ⟨b, hb⟩ : ∃ b, v % 4294967296 = b := ⟨_, rfl⟩
  rw [ha, hb] at hv
  rw [ha] at h2
  rw [hb] at hm
  rw [ha, hb]
  obtain ⟨A, hA⟩ : ∃ A : Int, (a : Int) = A := ⟨_, rfl⟩
  obtain ⟨C, hC⟩ : ∃ C : Int, (b : Int) = C := ⟨_, rfl⟩
  have hA0 : 0 ≤ A := by omega
  have hA1 : A < 2147483648 := by omega
  have hC0 : 0 ≤ C := by omega
  have hC1 : C < 4294967296 := by omega
  have HV := Lib.hid (show (v : Int) = A * 4294967296 + C by omega)
  rw [hA, hC]
  clear ha hb hv h h2 hm hA hC
  go_enter Tryd.func52, Tryd.ntmps52
  go_wp2
  go_ret2
  exact ⟨by rw [HV.out]; rfl, (Below.refl _ _).alloc (Nat.le_refl _) _⟩
set_option maxHeartbeats 2000000 in
set_option maxRecDepth 100000 in
theorem amount_minus (v : Nat) (w : World) (h : v < 9223372036854775808) :
    Calls Tryd.prog 52 #[wide v, .bool true] w fun e w' => e = .returned (.tuple #[.int .i64 (-(v : Int)), .bool true]) ∧ Below w.heap.size w w' := by
  obtain ⟨h0, h1, h2, h3, h4, h5, h6⟩ := MonMath.fits_dig h
  unfold wide
  rw [h0, h1, h3, h4, h5, h6]
  clear h0 h1 h3 h4 h5 h6
  have hv := Nat.div_add_mod v 4294967296
  have hm := Nat.mod_lt v (show 0 < 4294967296 by decide)
  obtain ⟨a, ha⟩ : ∃ a, v / 4294967296 = a := ⟨_, rfl⟩
  obtain ⟨b, hb⟩ : ∃ b, v % 4294967296 = b := ⟨_, rfl⟩
  rw [ha, hb] at hv
  rw [ha] at h2
  rw [hb] at hm
  rw [ha, hb]
  obtain ⟨A, hA⟩ : ∃ A : Int, (a : Int) = A := ⟨_, rfl⟩
  obtain ⟨C, hC⟩ : ∃ C : Int, (b : Int) = C := ⟨_, rfl⟩
  have hA0 : 0 ≤ A := by omega
  have hA1 : A < 2147483648 := by omega
  have hC0 : 0 ≤ C := by omega
  have hC1 : C < 4294967296 := by omega
  have HV := Lib.hid (show (v : Int) = A * 4294967296 + C by omega)
  rw [hA, hC]
  clear ha hb hv h h2 hm hA hC
  go_enter Tryd.func52, Tryd.ntmps52
  go_wp2
  go_ret2
  exact ⟨by rw [HV.out]; rfl, (Below.refl _ _).alloc (Nat.le_refl _) _⟩
set_option maxHeartbeats 2000000 in
set_option maxRecDepth 100000 in
theorem amount_no1 (v : Nat) (m : Bool) (w : World) (h1 : 2147483648 ≤ dig v 1) :
    Calls Tryd.prog 52 #[wide v, .bool m] w fun e w' => e = .returned (.tuple #[.int .i64 0, .bool false]) ∧ Below w.heap.size w w' := by
  unfold wide
  obtain ⟨D0, e0⟩ : ∃ D : Int, (dig v 0 : Int) = D := ⟨_, rfl⟩
  obtain ⟨D1, e1⟩ : ∃ D : Int, (dig v 1 : Int) = D := ⟨_, rfl⟩
  obtain ⟨D2, e2⟩ : ∃ D : Int, (dig v 2 : Int) = D := ⟨_, rfl⟩
  obtain ⟨D3, e3⟩ : ∃ D : Int, (dig v 3 : Int) = D := ⟨_, rfl⟩
  obtain ⟨D4, e4⟩ : ∃ D : Int, (dig v 4 : Int) = D := ⟨_, rfl⟩
  obtain ⟨D5, e5⟩ : ∃ D : Int, (dig v 5 : Int) = D := ⟨_, rfl⟩
  have g1 : 2147483648 ≤ D1 := by omega
  clear h1
  rw [e0, e1, e2, e3, e4, e5]
  clear e0 e1 e2 e3 e4 e5
  go_enter Tryd.func52, Tryd.ntmps52
  go_wp2
  go_ret2
  exact ⟨rfl, (Below.refl _ _).alloc (Nat.le_refl _) _⟩
set_option maxHeartbeats 2000000 in
set_option maxRecDepth 100000 in
theorem amount_no2 (v : Nat) (m : Bool) (w : World) (h1 : dig v 1 < 2147483648)  (h2 : dig v 2 ≠ 0) :
    Calls Tryd.prog 52 #[wide v, .bool m] w fun e w' => e = .returned (.tuple #[.int .i64 0, .bool false]) ∧ Below w.heap.size w w' := by
  unfold wide
  obtain ⟨D0, e0⟩ : ∃ D : Int, (dig v 0 : Int) = D := ⟨_, rfl⟩
  obtain ⟨D1, e1⟩ : ∃ D : Int, (dig v 1 : Int) = D := ⟨_, rfl⟩
  obtain ⟨D2, e2⟩ : ∃ D : Int, (dig v 2 : Int) = D := ⟨_, rfl⟩
  obtain ⟨D3, e3⟩ : ∃ D : Int, (dig v 3 : Int) = D := ⟨_, rfl⟩
  obtain ⟨D4, e4⟩ : ∃ D : Int, (dig v 4 : Int) = D := ⟨_, rfl⟩
  obtain ⟨D5, e5⟩ : ∃ D : Int, (dig v 5 : Int) = D := ⟨_, rfl⟩
  have g1 : decide (2147483648 ≤ D1) = false := by rw [decide_eq_false_iff_not]; omega
  have g2 : (D2 != 0) = true := by rw [bne_iff_ne]; omega
  clear h1 h2
  rw [e0, e1, e2, e3, e4, e5]
  clear e0 e1 e2 e3 e4 e5
  go_enter Tryd.func52, Tryd.ntmps52
  go_wp2
  go_ret2
  exact ⟨rfl, (Below.refl _ _).alloc (Nat.le_refl _) _⟩
set_option maxHeartbeats 2000000 in
set_option maxRecDepth 100000 in
theorem amount_no3 (v : Nat) (m : Bool) (w : World) (h1 : dig v 1 < 2147483648) (h2 : dig v 2 = 0) (h3 : dig v 3 ≠ 0) :
    Calls Tryd.prog 52 #[wide v, .bool m] w fun e w' => e = .returned (.tuple #[.int .i64 0, .bool false]) ∧ Below w.heap.size w w' := by
  unfold wide
  obtain ⟨D0, e0⟩ : ∃ D : Int, (dig v 0 : Int) = D := ⟨_, rfl⟩
  obtain ⟨D1, e1⟩ : ∃ D : Int, (dig v 1 : Int) = D := ⟨_, rfl⟩
  obtain ⟨D2, e2⟩ : ∃ D : Int, (dig v 2 : Int) = D := ⟨_, rfl⟩
  obtain ⟨D3, e3⟩ : ∃ D : Int, (dig v 3 : Int) = D := ⟨_, rfl⟩
  obtain ⟨D4, e4⟩ : ∃ D : Int, (dig v 4 : Int) = D := ⟨_, rfl⟩
  obtain ⟨D5, e5⟩ : ∃ D : Int, (dig v 5 : Int) = D := ⟨_, rfl⟩
  have g1 : decide (2147483648 ≤ D1) = false := by rw [decide_eq_false_iff_not]; omega
  have g2 : (D2 != 0) = false := by rw [bne_eq_false_iff_eq]; omega
  have g3 : (D3 != 0) = true := by rw [bne_iff_ne]; omega
  clear h1 h2 h3
  rw [e0, e1, e2, e3, e4, e5]
  clear e0 e1 e2 e3 e4 e5
  go_enter Tryd.func52, Tryd.ntmps52
  go_wp2
  go_ret2
  exact ⟨rfl, (Below.refl _ _).alloc (Nat.le_refl _) _⟩
set_option maxHeartbeats 2000000 in
set_option maxRecDepth 100000 in
theorem amount_no4 (v : Nat) (m : Bool) (w : World) (h1 : dig v 1 < 2147483648) (h2 : dig v 2 = 0) (h3 : dig v 3 = 0) (h4 : dig v 4 ≠ 0) :
    Calls Tryd.prog 52 #[wide v, .bool m] w fun e w' => e = .returned (.tuple #[.int .i64 0, .bool false]) ∧ Below w.heap.size w w' := by
  unfold wide
  obtain ⟨D0, e0⟩ : ∃ D : Int, (dig v 0 : Int) = D := ⟨_, rfl⟩
  obtain ⟨D1, e1⟩ : ∃ D : Int, (dig v 1 : Int) = D := ⟨_, rfl⟩
  obtain ⟨D2, e2⟩ : ∃ D : Int, (dig v 2 : Int) = D := ⟨_, rfl⟩
  obtain ⟨D3, e3⟩ : ∃ D : Int, (dig v 3 : Int) = D := ⟨_, rfl⟩
  obtain ⟨D4, e4⟩ : ∃ D : Int, (dig v 4 : Int) = D := ⟨_, rfl⟩
  obtain ⟨D5, e5⟩ : ∃ D : Int, (dig v 5 : Int) = D := ⟨_, rfl⟩
  have g1 : decide (2147483648 ≤ D1) = false := by rw [decide_eq_false_iff_not]; omega
  have g2 : (D2 != 0) = false := by rw [bne_eq_false_iff_eq]; omega
  have g3 : (D3 != 0) = false := by rw [bne_eq_false_iff_eq]; omega
  have g4 : (D4 != 0) = true := by rw [bne_iff_ne]; omega
  clear h1 h2 h3 h4
  rw [e0, e1, e2, e3, e4, e5]
  clear e0 e1 e2 e3 e4 e5
  go_enter Tryd.func52, Tryd.ntmps52
  go_wp2
  go_ret2
  exact ⟨rfl, (Below.refl _ _).alloc (Nat.le_refl _) _⟩
set_option maxHeartbeats 2000000 in
set_option maxRecDepth 100000 in
theorem amount_no5 (v : Nat) (m : Bool) (w : World) (h1 : dig v 1 < 2147483648) (h2 : dig v 2 = 0) (h3 : dig v 3 = 0) (h4 : dig v 4 = 0) (h5 : dig v 5 ≠ 0) :
    Calls Tryd.prog 52 #[wide v, .bool m] w fun e w' => e = .returned (.tuple #[.int .i64 0, .bool false]) ∧ Below w.heap.size w w' := by
  unfold wide
  obtain ⟨D0, e0⟩ : ∃ D : Int, (dig v 0 : Int) = D := ⟨_, rfl⟩
  obtain ⟨D1, e1⟩ : ∃ D : Int, (dig v 1 : Int) = D := ⟨_, rfl⟩
  obtain ⟨D2, e2⟩ : ∃ D : Int, (dig v 2 : Int) = D := ⟨_, rfl⟩
  obtain ⟨D3, e3⟩ : ∃ D : Int, (dig v 3 : Int) = D := ⟨_, rfl⟩
  obtain ⟨D4, e4⟩ : ∃ D : Int, (dig v 4 : Int) = D := ⟨_, rfl⟩
  obtain ⟨D5, e5⟩ : ∃ D : Int, (dig v 5 : Int) = D := ⟨_, rfl⟩
  have g1 : decide (2147483648 ≤ D1) = false := by rw [decide_eq_false_iff_not]; omega
  have g2 : (D2 != 0) = false := by rw [bne_eq_false_iff_eq]; omega
  have g3 : (D3 != 0) = false := by rw [bne_eq_false_iff_eq]; omega
  have g4 : (D4 != 0) = false := by rw [bne_eq_false_iff_eq]; omega
  have g5 : (D5 != 0) = true := by rw [bne_iff_ne]; omega
  clear h1 h2 h3 h4 h5
  rw [e0, e1, e2, e3, e4, e5]
  clear e0 e1 e2 e3 e4 e5
  go_enter Tryd.func52, Tryd.ntmps52
  go_wp2
  go_ret2
  exact ⟨rfl, (Below.refl _ _).alloc (Nat.le_refl _) _⟩
/-- daybookref01.amount, of what does not fit -/
theorem amount_no (v : Nat) (m : Bool) (w : World) (hv : v < 4294967296 ^ 6) (h : ¬ v < 9223372036854775808) :
    Calls Tryd.prog 52 #[wide v, .bool m] w fun e w' => e = .returned (.tuple #[.int .i64 0, .bool false]) ∧ Below w.heap.size w w' := by
  by_cases h1 : 2147483648 ≤ dig v 1
  · exact amount_no1 v m w h1
  · by_cases h2 : dig v 2 = 0
    · by_cases h3 : dig v 3 = 0
      · by_cases h4 : dig v 4 = 0
        · by_cases h5 : dig v 5 = 0
          · exact absurd (MonMath.fits_of hv (by omega) h2 h3 h4 h5) h
          · exact amount_no5 v m w (by omega) h2 h3 h4 h5
        · exact amount_no4 v m w (by omega) h2 h3 h4
      · exact amount_no3 v m w (by omega) h2 h3
    · exact amount_no2 v m w (by omega) h2
theorem amount_ok (v : Nat) (m : Bool) (w : World) (h : v < 9223372036854775808) :
    Calls Tryd.prog 52 #[wide v, .bool m] w fun e w' => e = .returned (.tuple #[.int .i64 (sg v m), .bool true]) ∧ Below w.heap.size w w' := by
  cases m
  · exact amount_plus v w h
  · exact amount_minus v w h
end Go.Proofs.YtncndmhmmfbklaaDoor
