/- Contracts of the document's wide numbers: Minus, Below, amount. -/
import Derived.Test.YtncndmhmmfbklaaMonA
namespace Go.Proofs.Ytncndmhmmfbklaa
set_option linter.unusedVariables false
set_option linter.unusedSimpArgs false
open Go.RowKit
open MonMath (dig car bor)

set_option maxHeartbeats 2000000 in
/-- Wide.Minus -/
theorem minus_any (x y : Nat) (w : World) (hxy : y ≤ x) :
    Calls Try.prog 31 #[wide x, wide y] w fun e w' => e = .returned (wide (x - y)) ∧ Below w.heap.size w w' := by
  have HXY := Lib.hid hxy
  clear hxy
  obtain ⟨s, hs⟩ : ∃ s, x - y = s := ⟨_, rfl⟩
  rw [hs]
  have HSS := Lib.hid hs
  clear hs
  unfold wide
  go_enter Try.func31, Try.ntmps31
  go_wp2
  go_loopg [6, 7, 8] 6 (fun g c i d wr => ∃ k : Nat, k ≤ 6 ∧ g = 6 - k ∧ i = .int .i64 k ∧ c = .int .u64 (bor x y k) ∧ PlusRel w wr x y s k)
  case atStart =>
    refine ⟨0, by omega, by omega, ?_, ?_, ?_⟩
    · rfl
    · rw [MonMath.bor_zero]; rfl
    · exact PlusRel.start w x y s 46 #[.int .u64 (dig x 0), .int .u64 (dig x 1), .int .u64 (dig x 2), .int .u64 (dig x 3), .int .u64 (dig x 4), .int .u64 (dig x 5)] #[.int .u64 (dig y 0), .int .u64 (dig y 1), .int .u64 (dig y 2), .int .u64 (dig y 3), .int .u64 (dig y 4), .int .u64 (dig y 5)] rfl rfl
  case round =>
    obtain ⟨k, hk, hg, rfl, rfl, hR⟩ := hrel
    have Hg := Lib.hid hg
    clear hg
    by_cases hlt : k < 6
    · have hx := hR.xc k hlt
      have hy := hR.yc k hlt
      obtain ⟨vz, hz⟩ : ∃ vz, wr.cell? ⟨w.heap.size + 1 + 1 + 1, k, none⟩ = some vz := ⟨_, hR.zc k hlt⟩
      have hf := hR.f3
      have HR := Lib.hid hR
      have HS := Lib.hid (MonMath.bor_step x y k HXY.out)
      have d1 := MonMath.dig_lt x k
      have d2 := MonMath.dig_lt y k
      have d3 := MonMath.bor_le x y k
      have hk2 : (k : Int) < 6 := by omega
      have b1 : 0 ≤ (dig x k : Int) + 4294967296 - (dig y k : Int) := by omega
      have b2 : 0 ≤ (dig x k : Int) + 4294967296 - (dig y k : Int) - (bor x y k : Int) := by omega
      have b3 : (dig x k : Int) + 4294967296 - (dig y k : Int) - (bor x y k : Int) < 8589934592 := by omega
      have b4 : ((dig x k : Int) + 4294967296 - (dig y k : Int) - (bor x y k : Int)) / 4294967296 ≤ 1 := by omega
      clear hR
      go_wp2_with fail
      go_still_tail 12, (by kernel_rfl)
      change wpList _ _ _ _ _ wr.drew
      go_wp2
      have hg2 := Hg.out
      go_roundg (6 - (k + 1))
      case measure => omega
      case rel =>
        have e1 : ((dig x k : Int) + 4294967296 - (dig y k : Int) - (bor x y k : Int)) % 4294967296 = (dig s k : Int) := by have := HS.out.1; rw [HSS.out] at this; omega
        have e2 : 1 - ((dig x k : Int) + 4294967296 - (dig y k : Int) - (bor x y k : Int)) / 4294967296 = (bor x y (k + 1) : Int) := by have := HS.out.2; omega
        refine ⟨k + 1, by omega, rfl, by go_num, by rw [e2], ?_⟩
        rw [e1]
        exact PlusRel.step HR.out hlt
    · obtain rfl : k = 6 := by omega
      have z : ∀ j, j < 6 → wr.cell? ⟨w.heap.size + 1 + 1 + 1, j, none⟩ = some (.int .u64 (dig s j)) := fun j hj => by have := hR.zc j hj; rw [if_pos hj] at this; exact this
      have z0 := z 0 (by omega)
      have z1 := z 1 (by omega)
      have z2 := z 2 (by omega)
      have z3 := z 3 (by omega)
      have z4 := z 4 (by omega)
      have z5 := z 5 (by omega)
      have r0 := hR.rc 0 (by omega)
      have r1 := hR.rc 1 (by omega)
      have r2 := hR.rc 2 (by omega)
      have r3 := hR.rc 3 (by omega)
      have r4 := hR.rc 4 (by omega)
      have r5 := hR.rc 5 (by omega)
      have hf2 := hR.f2
      have hB := hR.bel
      clear z hR
      go_wp2
      refine bodyPost_ret (v := .agg #[.int .u64 (dig s 0), .int .u64 (dig s 1), .int .u64 (dig s 2), .int .u64 (dig s 3), .int .u64 (dig s 4), .int .u64 (dig s 5)]) ?_ rfl ⟨rfl, ?_⟩
      · simp [results, Try.results31, go_sem, r0, r1, r2, r3, r4, r5]
      · repeat (first | (with_reducible exact hB) | (with_reducible refine Below.setCell ?_ ?_ _; rotate_left; · show w.heap.size ≤ w.heap.size + 1 + 1; omega))

set_option maxHeartbeats 2000000 in
/-- Wide.Below -/
theorem below_any (x y : Nat) (w : World) (hx : x < 4294967296 ^ 6) (hy : y < 4294967296 ^ 6) :
    Calls Try.prog 30 #[wide x, wide y] w fun e w' => e = .returned (.bool (decide (x < y))) ∧ Below w.heap.size w w' := by
  have HT := Lib.hid (MonMath.eq_top hx hy)
  obtain ⟨R, hR⟩ : ∃ R, decide (x < y) = R := ⟨_, rfl⟩
  rw [hR]
  have HR := Lib.hid hR
  clear hR hx hy
  unfold wide
  go_enter Try.func30, Try.ntmps30
  go_wp2
  go_loopg [5] 6 (fun g i wr => ∃ k : Nat, k ≤ 6 ∧ g = k ∧ i = .int .i64 ((k : Int) - 1) ∧ x / 4294967296 ^ k = y / 4294967296 ^ k ∧ Below w.heap.size w wr ∧ WAt wr w.heap.size x ∧ WAt wr (w.heap.size + 1) y)
  case atStart =>
    refine ⟨6, by omega, rfl, rfl, HT.out, fm_alloc (fm_alloc (Below.refl _ _) _) _, ?_, ?_⟩ <;>
    · intro j hj
      have : j = 0 ∨ j = 1 ∨ j = 2 ∨ j = 3 ∨ j = 4 ∨ j = 5 := by omega
      rcases this with rfl | rfl | rfl | rfl | rfl | rfl <;> simp [go_sem]
  case round =>
    obtain ⟨k, hk, hg, rfl, hu, hB, hwx, hwy⟩ := hrel
    have HU := Lib.hid hu
    have Hg := Lib.hid hg
    clear hu hg
    by_cases hlt : 0 < k
    · obtain ⟨j, rfl⟩ : ∃ j, k = j + 1 := ⟨k - 1, by omega⟩
      have ej : ((j + 1 : Nat) : Int) - 1 = (j : Int) := by omega
      rw [ej]
      have hx := hwx j (by omega)
      have hy := hwy j (by omega)
      have hk2 : (j : Int) < 6 := by omega
      have HX := Lib.hid hwx
      have HY := Lib.hid hwy
      clear hwx hwy ej
      by_cases hd : dig x j = dig y j
      · have hdb : ((dig x j : Int) != (dig y j : Int)) = false := by rw [bne_eq_false_iff_eq, hd]
        have HD := Lib.hid hd
        clear hd
        go_wp2_with fail
        go_quiet (fail)
        go_wp2
        have hg2 := Hg.out
        go_roundg j
        case measure => omega
        case rel => exact ⟨j, by omega, rfl, by go_num, MonMath.eq_down HU.out HD.out, below_drewN hB _, HX.out, HY.out⟩
      · have hdb : ((dig x j : Int) != (dig y j : Int)) = true := by rw [bne_iff_ne]; omega
        have hl := MonMath.lt_dig HU.out hd
        have hR2 : R = decide (dig x j < dig y j) := by
          rw [← HR.out]
          by_cases c : x < y
          · have := hl.2 c; rw [decide_eq_true c, decide_eq_true this]
          · have : ¬ dig x j < dig y j := fun q => c (hl.1 q)
            rw [decide_eq_false c, decide_eq_false this]
        have HR2 := Lib.hid hR2
        clear hR2 hl hd
        go_wp2_with fail
        go_quiet (fail)
        go_wp2_with fail
        go_quiet (fail)
        go_wp2
        go_ret
        exact ⟨by rw [HR2.out]; rfl, by repeat (first | (with_reducible exact hB) | (with_reducible apply fm_drewN) | (with_reducible apply fm_drew))⟩
    · obtain rfl : k = 0 := by omega
      have e : x = y := MonMath.eq_all HU.out
      have hR2 : R = false := by rw [← HR.out]; exact decide_eq_false (by omega)
      have HR2 := Lib.hid hR2
      clear hR2 e hwx hwy
      go_wp2
      go_ret
      exact ⟨by rw [HR2.out]; rfl, hB⟩

set_option maxHeartbeats 2000000 in
set_option maxRecDepth 100000 in
theorem amount_plus (v : Nat) (w : World) (h : v < 9223372036854775808) :
    Calls Try.prog 32 #[wide v, .bool false] w fun e w' => e = .returned (.tuple #[.int .i64 (v), .bool true]) ∧ Below w.heap.size w w' := by
  obtain ⟨h0, h1, h2, h3, h4, h5, h6⟩ := MonMath.fits_dig h
  unfold wide
  rw [h0, h1, h3, h4, h5, h6]
  clear h0 h1 h3 h4 h5 h6
  have hv := Nat.div_add_mod v 4294967296
  have hm := Nat.mod_lt v (show 0 < 4294967296 by decide)
  obtain ⟨a, ha⟩ : ∃ a, v / 4294967296 = a := ⟨_, rfl⟩
  obtain ⟨b, hb⟩ : ∃ b, v % 4294967296 = b := ⟨_, rfl⟩
  rw [ha, hb] at hv
  rw [ha] at h2
  rw [hb] at hm
  rw [ha, hb]
  obtain ⟨A, hA⟩ : ∃ A : Int, (a : Int) = A := ⟨_, rfl⟩
  obtain ⟨C, hC⟩ : ∃ C : Int, (b : Int) = C := ⟨_, rfl⟩
  have hA0 : 0 ≤ A := by omega
  have hA1 : A < 2147483648 := by omega
  have hC0 : 0 ≤ C := by omega
  have hC1 : C < 4294967296 := by omega
  have HV := Lib.hid (show (v : Int) = A * 4294967296 + C by omega)
  rw [hA, hC]
  clear ha hb hv h h2 hm hA hC
  go_enter Try.func32, Try.ntmps32
  go_wp2
  go_ret2
  exact ⟨by rw [HV.out]; rfl, (Below.refl _ _).alloc (Nat.le_refl _) _⟩
set_option maxHeartbeats 2000000 in
set_option maxRecDepth 100000 in
theorem amount_minus (v : Nat) (w : World) (h : v < 9223372036854775808) :
    Calls Try.prog 32 #[wide v, .bool true] w fun e w' => e = .returned (.tuple #[.int .i64 (-(v : Int)), .bool true]) ∧ Below w.heap.size w w' := by
  obtain ⟨h0, h1, h2, h3, h4, h5, h6⟩ := MonMath.fits_dig h
  unfold wide
  rw [h0, h1, h3, h4, h5, h6]
  clear h0 h1 h3 h4 h5 h6
  have hv := Nat.div_add_mod v 4294967296
  have hm := Nat.mod_lt v (show 0 < 4294967296 by decide)
  obtain ⟨a, ha⟩ : ∃ a, v / 4294967296 = a := ⟨_, rfl⟩
  obtain ⟨b, hb⟩ : ∃ b, v % 4294967296 = b := ⟨_, rfl⟩
  rw [ha, hb] at hv
  rw [ha] at h2
  rw [hb] at hm
  rw [ha, hb]
  obtain ⟨A, hA⟩ : ∃ A : Int, (a : Int) = A := ⟨_, rfl⟩
  obtain ⟨C, hC⟩ : ∃ C : Int, (b : Int) = C := ⟨_, rfl⟩
  have hA0 : 0 ≤ A := by omega
  have hA1 : A < 2147483648 := by omega
  have hC0 : 0 ≤ C := by omega
  have hC1 : C < 4294967296 := by omega
  have HV := Lib.hid (show (v : Int) = A * 4294967296 + C by omega)
  rw [hA, hC]
  clear ha hb hv h h2 hm hA hC
  go_enter Try.func32, Try.ntmps32
  go_wp2
  go_ret2
  exact ⟨by rw [HV.out]; rfl, (Below.refl _ _).alloc (Nat.le_refl _) _⟩
set_option maxHeartbeats 2000000 in
set_option maxRecDepth 100000 in
theorem amount_no1 (v : Nat) (m : Bool) (w : World) (h1 : 2147483648 ≤ dig v 1) :
    Calls Try.prog 32 #[wide v, .bool m] w fun e w' => e = .returned (.tuple #[.int .i64 0, .bool false]) ∧ Below w.heap.size w w' := by
  unfold wide
  obtain ⟨D0, e0⟩ : ∃ D : Int, (dig v 0 : Int) = D := ⟨_, rfl⟩
  obtain ⟨D1, e1⟩ : ∃ D : Int, (dig v 1 : Int) = D := ⟨_, rfl⟩
  obtain ⟨D2, e2⟩ : ∃ D : Int, (dig v 2 : Int) = D := ⟨_, rfl⟩
  obtain ⟨D3, e3⟩ : ∃ D : Int, (dig v 3 : Int) = D := ⟨_, rfl⟩
  obtain ⟨D4, e4⟩ : ∃ D : Int, (dig v 4 : Int) = D := ⟨_, rfl⟩
  obtain ⟨D5, e5⟩ : ∃ D : Int, (dig v 5 : Int) = D := ⟨_, rfl⟩
  have g1 : 2147483648 ≤ D1 := by omega
  clear h1
  rw [e0, e1, e2, e3, e4, e5]
  clear e0 e1 e2 e3 e4 e5
  go_enter Try.func32, Try.ntmps32
  go_wp2
  go_ret2
  exact ⟨rfl, (Below.refl _ _).alloc (Nat.le_refl _) _⟩
set_option maxHeartbeats 2000000 in
set_option maxRecDepth 100000 in
theorem amount_no2 (v : Nat) (m : Bool) (w : World) (h1 : dig v 1 < 2147483648)  (h2 : dig v 2 ≠ 0) :
    Calls Try.prog 32 #[wide v, .bool m] w fun e w' => e = .returned (.tuple #[.int .i64 0, .bool false]) ∧ Below w.heap.size w w' := by
  unfold wide
  obtain ⟨D0, e0⟩ : ∃ D : Int, (dig v 0 : Int) = D := ⟨_, rfl⟩
  obtain ⟨D1, e1⟩ : ∃ D : Int, (dig v 1 : Int) = D := ⟨_, rfl⟩
  obtain ⟨D2, e2⟩ : ∃ D : Int, (dig v 2 : Int) = D := ⟨_, rfl⟩
  obtain ⟨D3, e3⟩ : ∃ D : Int, (dig v 3 : Int) = D := ⟨_, rfl⟩
  obtain ⟨D4, e4⟩ : ∃ D : Int, (dig v 4 : Int) = D := ⟨_, rfl⟩
  obtain ⟨D5, e5⟩ : ∃ D : Int, (dig v 5 : Int) = D := ⟨_, rfl⟩
  have g1 : decide (2147483648 ≤ D1) = false := by rw [decide_eq_false_iff_not]; omega
  have g2 : (D2 != 0) = true := by rw [bne_iff_ne]; omega
  clear h1 h2
  rw [e0, e1, e2, e3, e4, e5]
  clear e0 e1 e2 e3 e4 e5
  go_enter Try.func32, Try.ntmps32
  go_wp2
  go_ret2
  exact ⟨rfl, (Below.refl _ _).alloc (Nat.le_refl _) _⟩
set_option maxHeartbeats 2000000 in
set_option maxRecDepth 100000 in
theorem amount_no3 (v : Nat) (m : Bool) (w : World) (h1 : dig v 1 < 2147483648) (h2 : dig v 2 = 0) (h3 : dig v 3 ≠ 0) :
    Calls Try.prog 32 #[wide v, .bool m] w fun e w' => e = .returned (.tuple #[.int .i64 0, .bool false]) ∧ Below w.heap.size w w' := by
  unfold wide
  obtain ⟨D0, e0⟩ : ∃ D : Int, (dig v 0 : Int) = D := ⟨_, rfl⟩
  obtain ⟨D1, e1⟩ : ∃ D : Int, (dig v 1 : Int) = D := ⟨_, rfl⟩
  obtain ⟨D2, e2⟩ : ∃ D : Int, (dig v 2 : Int) = D := ⟨_, rfl⟩
  obtain ⟨D3, e3⟩ : ∃ D : Int, (dig v 3 : Int) = D := ⟨_, rfl⟩
  obtain ⟨D4, e4⟩ : ∃ D : Int, (dig v 4 : Int) = D := ⟨_, rfl⟩
  obtain ⟨D5, e5⟩ : ∃ D : Int, (dig v 5 : Int) = D := ⟨_, rfl⟩
  have g1 : decide (2147483648 ≤ D1) = false := by rw [decide_eq_false_iff_not]; omega
  have g2 : (D2 != 0) = false := by rw [bne_eq_false_iff_eq]; omega
  have g3 : (D3 != 0) = true := by rw [bne_iff_ne]; omega
  clear h1 h2 h3
  rw [e0, e1, e2, e3, e4, e5]
  clear e0 e1 e2 e3 e4 e5
  go_enter Try.func32, Try.ntmps32
  go_wp2
  go_ret2
  exact ⟨rfl, (Below.refl _ _).alloc (Nat.le_refl _) _⟩
set_option maxHeartbeats 2000000 in
set_option maxRecDepth 100000 in
theorem amount_no4 (v : Nat) (m : Bool) (w : World) (h1 : dig v 1 < 2147483648) (h2 : dig v 2 = 0) (h3 : dig v 3 = 0) (h4 : dig v 4 ≠ 0) :
    Calls Try.prog 32 #[wide v, .bool m] w fun e w' => e = .returned (.tuple #[.int .i64 0, .bool false]) ∧ Below w.heap.size w w' := by
  unfold wide
  obtain ⟨D0, e0⟩ : ∃ D : Int, (dig v 0 : Int) = D := ⟨_, rfl⟩
  obtain ⟨D1, e1⟩ : ∃ D : Int, (dig v 1 : Int) = D := ⟨_, rfl⟩
  obtain ⟨D2, e2⟩ : ∃ D : Int, (dig v 2 : Int) = D := ⟨_, rfl⟩
  obtain ⟨D3, e3⟩ : ∃ D : Int, (dig v 3 : Int) = D := ⟨_, rfl⟩
  obtain ⟨D4, e4⟩ : ∃ D : Int, (dig v 4 : Int) = D := ⟨_, rfl⟩
  obtain ⟨D5, e5⟩ : ∃ D : Int, (dig v 5 : Int) = D := ⟨_, rfl⟩
  have g1 : decide (2147483648 ≤ D1) = false := by rw [decide_eq_false_iff_not]; omega
  have g2 : (D2 != 0) = false := by rw [bne_eq_false_iff_eq]; omega
  have g3 : (D3 != 0) = false := by rw [bne_eq_false_iff_eq]; omega
  have g4 : (D4 != 0) = true := by rw [bne_iff_ne]; omega
  clear h1 h2 h3 h4
  rw [e0, e1, e2, e3, e4, e5]
  clear e0 e1 e2 e3 e4 e5
  go_enter Try.func32, Try.ntmps32
  go_wp2
  go_ret2
  exact ⟨rfl, (Below.refl _ _).alloc (Nat.le_refl _) _⟩
set_option maxHeartbeats 2000000 in
set_option maxRecDepth 100000 in
theorem amount_no5 (v : Nat) (m : Bool) (w : World) (h1 : dig v 1 < 2147483648) (h2 : dig v 2 = 0) (h3 : dig v 3 = 0) (h4 : dig v 4 = 0) (h5 : dig v 5 ≠ 0) :
    Calls Try.prog 32 #[wide v, .bool m] w fun e w' => e = .returned (.tuple #[.int .i64 0, .bool false]) ∧ Below w.heap.size w w' := by
  unfold wide
  obtain ⟨D0, e0⟩ : ∃ D : Int, (dig v 0 : Int) = D := ⟨_, rfl⟩
  obtain ⟨D1, e1⟩ : ∃ D : Int, (dig v 1 : Int) = D := ⟨_, rfl⟩
  obtain ⟨D2, e2⟩ : ∃ D : Int, (dig v 2 : Int) = D := ⟨_, rfl⟩
  obtain ⟨D3, e3⟩ : ∃ D : Int, (dig v 3 : Int) = D := ⟨_, rfl⟩
  obtain ⟨D4, e4⟩ : ∃ D : Int, (dig v 4 : Int) = D := ⟨_, rfl⟩
  obtain ⟨D5, e5⟩ : ∃ D : Int, (dig v 5 : Int) = D := ⟨_, rfl⟩
  have g1 : decide (2147483648 ≤ D1) = false := by rw [decide_eq_false_iff_not]; omega
  have g2 : (D2 != 0) = false := by rw [bne_eq_false_iff_eq]; omega
  have g3 : (D3 != 0) = false := by rw [bne_eq_false_iff_eq]; omega
  have g4 : (D4 != 0) = false := by rw [bne_eq_false_iff_eq]; omega
  have g5 : (D5 != 0) = true := by rw [bne_iff_ne]; omega
  clear h1 h2 h3 h4 h5
  rw [e0, e1, e2, e3, e4, e5]
  clear e0 e1 e2 e3 e4 e5
  go_enter Try.func32, Try.ntmps32
  go_wp2
  go_ret2
  exact ⟨rfl, (Below.refl _ _).alloc (Nat.le_refl _) _⟩
/-- daybookref01.amount, of what does not fit -/
theorem amount_no (v : Nat) (m : Bool) (w : World) (hv : v < 4294967296 ^ 6) (h : ¬ v < 9223372036854775808) :
    Calls Try.prog 32 #[wide v, .bool m] w fun e w' => e = .returned (.tuple #[.int .i64 0, .bool false]) ∧ Below w.heap.size w w' := by
  by_cases h1 : 2147483648 ≤ dig v 1
  · exact amount_no1 v m w h1
  · by_cases h2 : dig v 2 = 0
    · by_cases h3 : dig v 3 = 0
      · by_cases h4 : dig v 4 = 0
        · by_cases h5 : dig v 5 = 0
          · exact absurd (MonMath.fits_of hv (by omega) h2 h3 h4 h5) h
          · exact amount_no5 v m w (by omega) h2 h3 h4 h5
        · exact amount_no4 v m w (by omega) h2 h3 h4
      · exact amount_no3 v m w (by omega) h2 h3
    · exact amount_no2 v m w (by omega) h2
/-- an amount out of its size and sign -/
def sg (v : Nat) (m : Bool) : Int := if m then -(v : Int) else v
theorem amount_ok (v : Nat) (m : Bool) (w : World) (h : v < 9223372036854775808) :
    Calls Try.prog 32 #[wide v, .bool m] w fun e w' => e = .returned (.tuple #[.int .i64 (sg v m), .bool true]) ∧ Below w.heap.size w w' := by
  cases m
  · exact amount_plus v w h
  · exact amount_minus v w h
end Go.Proofs.Ytncndmhmmfbklaa
