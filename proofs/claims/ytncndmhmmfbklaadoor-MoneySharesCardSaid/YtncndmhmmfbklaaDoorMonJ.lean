/- Contract of bits.Div64. -/
import Derived.Test.YtncndmhmmfbklaaDoorMonA
import Derived.Test.YtncndmhmmfbklaaDoorShelf
import Derived.Test.YtncndmhmmfbklaaDoorMonQuo
import Derived.IntWalk
import Derived.Lib.ItoaNum
namespace Go.Proofs.YtncndmhmmfbklaaDoor
set_option linter.unusedVariables false
set_option linter.unusedSimpArgs false
open Go.RowKit
open MonQuo (Est)

theorem wrap_u (n : Nat) (h : n < 18446744073709551616) : IntKind.u64.wrap (n : Int) = n := IntWalk.u64_in _ (by omega)
theorem nat_div_int (a b : Nat) : (a : Int) / (b : Int) = ((a / b : Nat) : Int) := rfl
theorem nat_mod_int (a b : Nat) : (a : Int) % (b : Int) = ((a % b : Nat) : Int) := rfl
set_option maxRecDepth 100000 in
set_option maxHeartbeats 1000000 in
theorem div64_low (lo y : Nat) (w : World) (h0 : 0 < y) (h1 : y < 9223372036854775808) (h3 : lo < 18446744073709551616) :
    Calls Tryd.prog 38 #[.int .u64 0, .int .u64 lo, .int .u64 y] w fun e w' => e = .returned (.tuple #[.int .u64 (lo / y : Nat), .int .u64 (lo % y : Nat)]) ∧ Below w.heap.size w w' := by
  have hb : ((y : Int) == 0) = false := beq_eq_false_iff_ne.mpr (by omega)
  have hl : lo / y ≤ lo := Nat.div_le_self _ _
  have E1 : IntKind.u64.wrap ((lo : Int) / (y : Int)) = ((lo / y : Nat) : Int) := by rw [nat_div_int]; exact wrap_u _ (by omega)
  have E2 : (lo : Int) % (y : Int) = ((lo % y : Nat) : Int) := rfl
  have E3 : Int.tmod (lo : Int) (y : Int) = ((lo % y : Nat) : Int) := rfl
  generalize hQ : ((lo / y : Nat) : Int) = Q at *
  generalize hM : ((lo % y : Nat) : Int) = M at *
  clear hQ hM hl
  go_enter Tryd.func38, Tryd.ntmps38
  go_wp2
  go_quiet (fail)
  go_wp2
  go_ret2
  exact ⟨rfl, by repeat (first | exact Below.refl _ _ | apply fm_drewN)⟩
theorem wrap_rest (a t k W : Int) (h : a * 4294967296 + t - k = W) (h0 : 0 ≤ W) (h1 : W < 18446744073709551616) :
    IntKind.u64.wrap (IntKind.u64.wrap (IntKind.u64.wrap (a * 4294967296) + t) - IntKind.u64.wrap k) = W := by
  simp only [IntKind.wrap_u64]; omega

set_option maxHeartbeats 4000000 in
set_option maxRecDepth 100000 in
theorem div64_high (hi lo y s Y v1 v0 H L U T t1 t0 : Nat) (w : World) (h0 : 0 < hi) (h1 : hi < y) (h2 : lo < 18446744073709551616) (hs : 64 - (Lib.bitLen y : Int) = (s : Int)) (hs1 : s ≤ 63) (hy : y < 9223372036854775808)
    (a1 : y * 2 ^ s = Y) (hY : Y < 18446744073709551616) (hv : v1 * 4294967296 + v0 = Y) (hv0 : v0 < 4294967296) (hv1 : 2147483648 ≤ v1)
    (a2 : hi * 2 ^ s = H) (a3 : lo / 2 ^ (64 - s) = L) (a4 : H + L = U) (hL : L < 2 ^ s) (hU : U < Y) (a5 : lo * 2 ^ s % 18446744073709551616 = T) (ht : t1 * 4294967296 + t0 = T) (ht0 : t0 < 4294967296) (ht1 : t1 < 4294967296) :
    Calls Tryd.prog 38 #[.int .u64 hi, .int .u64 lo, .int .u64 y] w fun e w' => e = .returned (.tuple #[.int .u64 ((hi * 18446744073709551616 + lo) / y : Nat), .int .u64 ((hi * 18446744073709551616 + lo) % y : Nat)]) ∧ Below w.heap.size w w' := by
  have hb : ((y : Int) == 0) = false := beq_eq_false_iff_ne.mpr (by omega)
  have hb2 : ((hi : Int) == 0) = false := beq_eq_false_iff_ne.mpr (by omega)
  have E1 : IntKind.u64.wrap ((y : Int) * 2 ^ s) = (Y : Int) := by
    rw [show ((y : Int) * 2 ^ s) = ((y * 2 ^ s : Nat) : Int) by push_cast; rfl, a1]; exact wrap_u _ hY
  have E2 : (Y : Int) / 4294967296 = (v1 : Int) := by omega
  have E3 : bits .and .u64 (Y : Int) 4294967295 = (v0 : Int) := by
    rw [show (4294967295 : Int) = ((4294967295 : Nat) : Int) from rfl, bits_and_u64_nat _ _ hY (by decide), show (4294967295 : Nat) = 2 ^ 32 - 1 from rfl, Nat.and_two_pow_sub_one_eq_mod]; omega
  have E4 : IntKind.u64.wrap ((hi : Int) * 2 ^ s) = (H : Int) := by
    rw [show ((hi : Int) * 2 ^ s) = ((hi * 2 ^ s : Nat) : Int) by push_cast; rfl, a2]; exact wrap_u _ (by omega)
  have E5 : (lo : Int) / 2 ^ (64 - s) = (L : Int) := by
    rw [show ((lo : Int) / 2 ^ (64 - s)) = ((lo / 2 ^ (64 - s) : Nat) : Int) by push_cast; rfl, a3]
  have E6 : bits .or .u64 (H : Int) (L : Int) = (U : Int) := by
    rw [bits_or_u64_nat _ _ (by omega) (by omega), nat_join s H L (by rw [← a2]; exact Nat.mul_mod_left _ _) hL, a4]
  have E7 : IntKind.u64.wrap ((lo : Int) * 2 ^ s) = (T : Int) := by
    rw [show ((lo : Int) * 2 ^ s) = ((lo * 2 ^ s : Nat) : Int) by push_cast; rfl, IntKind.wrap_u64]; omega
  have hT : T < 18446744073709551616 := by omega
  have E8 : (T : Int) / 4294967296 = (t1 : Int) := by omega
  have E9 : bits .and .u64 (T : Int) 4294967295 = (t0 : Int) := by
    rw [show (4294967295 : Int) = ((4294967295 : Nat) : Int) from rfl, bits_and_u64_nat _ _ hT (by decide), show (4294967295 : Nat) = 2 ^ 32 - 1 from rfl, Nat.and_two_pow_sub_one_eq_mod]; omega
  have S1 := Est.start (u1 := U) (u0 := t1) (v1 := v1) (v0 := v0) (by omega) ht1
  have hqm : U / v1 * v1 ≤ U := Nat.div_mul_le_self _ _
  have hql : U / v1 < 8589934592 := by rw [Nat.div_lt_iff_lt_mul (by omega)]; omega
  have E10 : (U : Int) / (v1 : Int) = ((U / v1 : Nat) : Int) := rfl
  have E12 : Int.tdiv (U : Int) (v1 : Int) = ((U / v1 : Nat) : Int) := rfl
  have E11 : IntKind.u64.wrap ((U : Int) - IntKind.u64.wrap (((U / v1 : Nat) : Int) * (v1 : Int))) = ((U - U / v1 * v1 : Nat) : Int) := by
    rw [show (((U / v1 : Nat) : Int) * (v1 : Int)) = ((U / v1 * v1 : Nat) : Int) by push_cast; rfl, wrap_u _ (by omega), show (U : Int) - ((U / v1 * v1 : Nat) : Int) = ((U - U / v1 * v1 : Nat) : Int) by omega]
    exact wrap_u _ (by omega)
  have hr1 : U - U / v1 * v1 < v1 := by
    have := Nat.mod_lt U (show 0 < v1 by omega); have := Nat.div_add_mod U v1; rw [Nat.mul_comm] at this; omega
  have E13 : IntKind.u64.wrap ((U / v1 : Nat) : Int) = ((U / v1 : Nat) : Int) := wrap_u _ (by omega)
  generalize U / v1 = qa at *
  generalize U - qa * v1 = ra at *
  clear hqm
  have B1 := Lib.hid (And.intro S1 (And.intro hql hr1))
  have HS := Lib.hid hs
  have HA := Lib.hid (show y * 2 ^ s = Y ∧ H + L = U ∧ hi * 2 ^ s = H ∧ lo / 2 ^ (64 - s) = L ∧ lo * 2 ^ s % 18446744073709551616 = T ∧ t1 * 4294967296 + t0 = T from ⟨a1, a4, a2, a3, a5, ht⟩)
  have HV := Lib.hid hv
  have hUY := Lib.hid hU
  have hvp := Lib.hid (show 2147483648 ≤ v1 ∧ 2147483648 * 4294967296 ≤ Y ∧ Y < 18446744073709551616 by omega)
  obtain ⟨V1, e1⟩ : ∃ V : Int, (v1 : Int) = V := ⟨_, rfl⟩
  obtain ⟨V0, e2⟩ : ∃ V : Int, (v0 : Int) = V := ⟨_, rfl⟩
  obtain ⟨T1, e3⟩ : ∃ V : Int, (t1 : Int) = V := ⟨_, rfl⟩
  obtain ⟨T0, e4⟩ : ∃ V : Int, (t0 : Int) = V := ⟨_, rfl⟩
  obtain ⟨UU, e5⟩ : ∃ V : Int, (U : Int) = V := ⟨_, rfl⟩
  obtain ⟨YY, e6⟩ : ∃ V : Int, (Y : Int) = V := ⟨_, rfl⟩
  have i1 : 2147483648 ≤ V1 := by omega
  have i2 : V1 < 4294967296 := by omega
  have i3 : 0 ≤ V0 := by omega
  have i4 : V0 < 4294967296 := by omega
  have i5 : 0 ≤ T1 := by omega
  have i6 : T1 < 4294967296 := by omega
  have i7 : 0 ≤ T0 := by omega
  have i8 : T0 < 4294967296 := by omega
  have i9 : 0 ≤ UU := by omega
  have i10 : UU < YY := by omega
  have i11 : YY < 18446744073709551616 := by omega
  rw [e1] at E2 E10 E11 E12
  rw [e2] at E3
  rw [e3] at E8
  rw [e4] at E9
  rw [e5] at E6 E10 E11 E12
  rw [e6] at E1 E2 E3
  have eV := Lib.hid (show (v1 : Int) = V1 ∧ (v0 : Int) = V0 ∧ (t1 : Int) = T1 ∧ (t0 : Int) = T0 ∧ (U : Int) = UU ∧ (Y : Int) = YY from ⟨e1, e2, e3, e4, e5, e6⟩)
  have hv0' := Lib.hid hv0
  have ht1' := Lib.hid ht1
  have ht0' := Lib.hid ht0
  have hs2 : (s : Int) ≤ 63 := by omega
  have hs3 : 0 ≤ (64 : Int) - s := by omega
  clear hs S1 a1 a2 a3 a4 a5 hv ht hU hY hv1 hT hql hr1 hL e1 e2 e3 e4 e5 e6 hv0 ht1 ht0
  have hv0 := hv0'
  have ht1 := ht1'
  have ht0 := ht0'
  clear hv0' ht1' ht0'
  have hv3 : (V1 == 0) = false := beq_eq_false_iff_ne.mpr (by omega)
  have hv4 : decide (V1 = 0) = false := decide_eq_false (by omega)
  obtain ⟨Rq, hRq⟩ : ∃ Rq : Int, (((hi * 18446744073709551616 + lo) / y : Nat) : Int) = Rq := ⟨_, rfl⟩
  obtain ⟨Rr, hRr⟩ : ∃ Rr : Int, (((hi * 18446744073709551616 + lo) % y : Nat) : Int) = Rr := ⟨_, rfl⟩
  rw [hRq, hRr]
  have HRR := Lib.hid (And.intro hRq hRr)
  have HS1 := Lib.hid hs1
  clear hRq hRr
  go_enter Tryd.func38, Tryd.ntmps38
  go_wp2_with fail
  refine (Tryd.bits_LeadingZeros64 _ _ (by omega) (by omega)).mono ?_
  rintro e w' ⟨rfl, rfl⟩
  rw [show ((y : Int).toNat) = y from rfl, HS.out]
  go_wp2_with fail
  go_loopg [15, 16] qa (fun g a b wr => ∃ q r : Nat, g = q ∧ a = .int .u64 q ∧ b = .int .u64 r ∧ Est U t1 v1 v0 q r ∧ q < 8589934592 ∧ r < 4294967296 ∧ w' = wr)
  case atStart => exact ⟨qa, ra, rfl, rfl, rfl, B1.out.1, B1.out.2.1, by have := B1.out.2.2; have := eV.out; omega, rfl⟩
  case round =>
    obtain ⟨q, r, hg, rfl, rfl, hE, hq, hr, rfl⟩ := hrel
    have Hg := Lib.hid hg
    have HE := Lib.hid hE
    clear hg hE
    obtain ⟨Q, hQ⟩ : ∃ Q : Int, (q : Int) = Q := ⟨_, rfl⟩
    obtain ⟨R, hR⟩ : ∃ R : Int, (r : Int) = R := ⟨_, rfl⟩
    rw [hQ, hR]
    have q0 : 0 ≤ Q := by omega
    have q1 : Q < 8589934592 := by omega
    have r0 : 0 ≤ R := by omega
    have r1 : R < 4294967296 := by omega
    have HQR := Lib.hid (show (q : Int) = Q ∧ (r : Int) = R ∧ q < 8589934592 ∧ r < 4294967296 from ⟨hQ, hR, hq, hr⟩)
    clear hQ hR hq hr
    by_cases hbig : 4294967296 ≤ Q
    · have hd := HE.out.down (by rw [HV.out]; exact hUY.out) ht1.out (Or.inl (by have := HQR.out; omega))
      have HD := Lib.hid hd.2
      have hp : (((q - 1 : Nat)) : Int) = Q - 1 := by have := HQR.out; have := hd.1; omega
      have HP := Lib.hid hp
      clear hd hp
      by_cases hfar : 4294967296 ≤ R + V1
      · obtain ⟨f1, f2⟩ := HD.out.far (by rw [HV.out]; exact hUY.out) hv0.out (by have := HQR.out; have := eV.out; omega)
        rw [HV.out] at f2
        have HQ1 := Lib.hid f2
        clear f1 f2
        have hk1q := HQ1.out
        obtain ⟨k1, hk1⟩ : ∃ k1, (q - 1) = k1 := ⟨_, rfl⟩
        rw [hk1] at hk1q
        have hk1e : (k1 : Int) = Q - 1 := by rw [← hk1]; exact HP.out
        have hk1p : (Q - 1) * YY = ((k1 * Y : Nat) : Int) := by rw [← hk1e, ← eV.out.2.2.2.2.2]; push_cast; rfl
        obtain ⟨g1, g2⟩ := MonQuo.rest_lt (by have := hvp.out; omega : 0 < Y) hk1q
        obtain ⟨W, hW⟩ : ∃ W, U * 4294967296 + t1 - k1 * Y = W := ⟨_, rfl⟩
        rw [hW] at g2
        obtain ⟨WW, hWW⟩ : ∃ WW : Int, (W : Int) = WW := ⟨_, rfl⟩
        have F1 : IntKind.u64.wrap (IntKind.u64.wrap (IntKind.u64.wrap (UU * 4294967296) + T1) - IntKind.u64.wrap ((Q - 1) * YY)) = WW := wrap_rest UU T1 _ WW (by rw [hk1p]; have := eV.out; omega) (by omega) (by have := hvp.out; omega)
        have d1 : k1 < 4294967296 := by rw [hk1q, ← HV.out]; exact MonQuo.digit_lt (by rw [HV.out]; exact hUY.out) ht1.out
        have c1 : 0 ≤ Q - 1 := by omega
        have c2 : Q - 1 < 4294967296 := by omega
        have S2 := Est.start (u1 := W) (u0 := t0) (v1 := v1) (v0 := v0) (by have := hvp.out; omega) ht0.out
        have hqm : W / v1 * v1 ≤ W := Nat.div_mul_le_self _ _
        have hql : W / v1 < 8589934592 := by rw [Nat.div_lt_iff_lt_mul (by have := hvp.out; omega)]; have := hvp.out; have := HV.out; have := hv0.out; omega
        have hr1 : W - W / v1 * v1 < v1 := by
          have h1 := Nat.mod_lt W (show 0 < v1 by have := hvp.out; omega)
          have h2 := Nat.div_add_mod W v1
          rw [Nat.mul_comm] at h2; omega
        have D1 : WW / V1 = ((W / v1 : Nat) : Int) := by rw [← hWW, ← eV.out.1]; rfl
        have D2 : Int.tdiv WW V1 = ((W / v1 : Nat) : Int) := by rw [← hWW, ← eV.out.1]; rfl
        have D3 : IntKind.u64.wrap (WW - IntKind.u64.wrap (((W / v1 : Nat) : Int) * V1)) = ((W - W / v1 * v1 : Nat) : Int) := by
          rw [← eV.out.1, show (((W / v1 : Nat) : Int) * (v1 : Int)) = ((W / v1 * v1 : Nat) : Int) by push_cast; rfl, wrap_u _ (by have := hvp.out; omega), show WW - ((W / v1 * v1 : Nat) : Int) = ((W - W / v1 * v1 : Nat) : Int) by omega]
          exact wrap_u _ (by have := hvp.out; omega)
        have D4 : IntKind.u64.wrap ((W / v1 : Nat) : Int) = ((W / v1 : Nat) : Int) := wrap_u _ (by omega)
        generalize W / v1 = qb at *
        generalize W - qb * v1 = rb at *
        have B2 := Lib.hid (And.intro S2 (And.intro hql hr1))
        have hWY := Lib.hid g2
        have HWW := Lib.hid hWW
        have j1 : 0 ≤ WW := by omega
        have j2 : WW < YY := by have := eV.out; omega
        have HK1 := Lib.hid (show (k1 : Int) = Q - 1 ∧ k1 = (U * 4294967296 + t1) / Y ∧ W = U * 4294967296 + t1 - k1 * Y from ⟨hk1e, hk1q, hW.symm⟩)
        clear hk1q hk1 hk1e hk1p g1 g2 hW hWW d1 S2 hqm hql hr1
        go_wp2_with fail
        go_loopg [18, 16] qb (fun g a b wr => ∃ q2 r2 : Nat, g = q2 ∧ a = .int .u64 q2 ∧ b = .int .u64 r2 ∧ Est W t0 v1 v0 q2 r2 ∧ q2 < 8589934592 ∧ r2 < 4294967296 ∧ w' = wr)
        case atStart => exact ⟨qb, rb, rfl, rfl, rfl, B2.out.1, B2.out.2.1, by have := B2.out.2.2; have := hvp.out; have := HV.out; omega, rfl⟩
        case round =>
          obtain ⟨q2, r2, hg, rfl, rfl, hE, hq, hr, rfl⟩ := hrel
          have Hg2 := Lib.hid hg
          have HE2 := Lib.hid hE
          clear hg hE
          obtain ⟨Q2, hQ2⟩ : ∃ Q2 : Int, (q2 : Int) = Q2 := ⟨_, rfl⟩
          obtain ⟨R2, hR2⟩ : ∃ R2 : Int, (r2 : Int) = R2 := ⟨_, rfl⟩
          rw [hQ2, hR2]
          have q0 : 0 ≤ Q2 := by omega
          have q1 : Q2 < 8589934592 := by omega
          have r0 : 0 ≤ R2 := by omega
          have r1 : R2 < 4294967296 := by omega
          have HQR2 := Lib.hid (show (q2 : Int) = Q2 ∧ (r2 : Int) = R2 ∧ q2 < 8589934592 ∧ r2 < 4294967296 from ⟨hQ2, hR2, hq, hr⟩)
          clear hQ2 hR2 hq hr
          by_cases hbig : 4294967296 ≤ Q2
          · have hd := HE2.out.down (by rw [HV.out]; exact hWY.out) ht0.out (Or.inl (by have := HQR2.out; omega))
            have HD2 := Lib.hid hd.2
            have hp : (((q2 - 1 : Nat)) : Int) = Q2 - 1 := by have := HQR2.out; have := hd.1; omega
            have HP2 := Lib.hid hp
            clear hd hp
            by_cases hfar : 4294967296 ≤ R2 + V1
            · obtain ⟨f1, f2⟩ := HD2.out.far (by rw [HV.out]; exact hWY.out) hv0.out (by have := HQR2.out; have := eV.out; omega)
              rw [HV.out] at f2
              have HQ2 := Lib.hid f2
              clear f1 f2
              have hk2q := HQ2.out
              obtain ⟨k2, hk2⟩ : ∃ k2, (q2 - 1) = k2 := ⟨_, rfl⟩
              rw [hk2] at hk2q
              have hk2e : (k2 : Int) = Q2 - 1 := by rw [← hk2]; exact HP2.out
              have hk2p : (Q2 - 1) * YY = ((k2 * Y : Nat) : Int) := by rw [← hk2e, ← eV.out.2.2.2.2.2]; push_cast; rfl
              obtain ⟨K1, K2⟩ := MonQuo.fin HS1.out (by have := hvp.out; omega) HA.out.1 HA.out.2.1 HA.out.2.2.1 HA.out.2.2.2.1 HA.out.2.2.2.2.1 HA.out.2.2.2.2.2 ht0.out HK1.out.2.1 HK1.out.2.2 hk2q
              obtain ⟨g3, g4⟩ := MonQuo.rest_lt (by have := hvp.out; omega : 0 < Y) hk2q
              obtain ⟨X, hX⟩ : ∃ X, W * 4294967296 + t0 - k2 * Y = X := ⟨_, rfl⟩
              rw [hX] at g4 K2
              obtain ⟨XX, hXX⟩ : ∃ XX : Int, (X : Int) = XX := ⟨_, rfl⟩
              have F4 : IntKind.u64.wrap (IntKind.u64.wrap (IntKind.u64.wrap (WW * 4294967296) + T0) - IntKind.u64.wrap ((Q2 - 1) * YY)) = XX := wrap_rest WW T0 _ XX (by rw [hk2p]; have := eV.out; have := HWW.out; omega) (by omega) (by have := hvp.out; omega)
              have F5 : XX / 2 ^ s = Rr := by rw [← HRR.out.2, K2, ← hXX]; push_cast; rfl
              have d2 : k2 < 4294967296 := by rw [hk2q, ← HV.out]; exact MonQuo.digit_lt (by rw [HV.out]; exact hWY.out) ht0.out
              have d3 : 0 ≤ Q2 - 1 := by omega
              have d4 : Q2 - 1 < 4294967296 := by omega
              have F6 : (Q - 1) * 4294967296 + (Q2 - 1) = Rq := by rw [← HRR.out.1, K1]; have := HK1.out.1; omega
              clear hk2q hk2 hk2e hk2p K1 K2 g3 g4 hX hXX d2
              go_wp2_with fail
              go_ret2
              exact ⟨rfl, Below.refl _ _⟩
            · go_wp2_with fail
              have hg2 := Hg2.out
              go_roundg (q2 - 1)
              case measure => have := HQR2.out; omega
              case rel => exact ⟨q2 - 1, r2 + v1, rfl, congrArg (Value.int .u64) HP2.out.symm, congrArg (Value.int .u64) (by have := HQR2.out; have := eV.out; omega), HD2.out, by have := HQR2.out; omega, by have := HQR2.out; have := eV.out; omega, rfl⟩
          · have hql : q2 < 4294967296 := by have := HQR2.out; omega
            have hpl : q2 * v0 ≤ 4294967295 * 4294967295 := Nat.mul_le_mul (by omega) (by have := hv0.out; omega)
            obtain ⟨M2, hM⟩ : ∃ M2 : Int, ((q2 * v0 : Nat) : Int) = M2 := ⟨_, rfl⟩
            have G12 : IntKind.u64.wrap (Q2 * V0) = M2 := by
              rw [← HQR2.out.1, ← eV.out.2.1, show ((q2 : Int) * (v0 : Int)) = ((q2 * v0 : Nat) : Int) by push_cast; rfl, wrap_u _ (by omega), hM]
            have HM2 := Lib.hid hM
            have HL2 := Lib.hid hql
            clear hM hpl hql
            by_cases hc : 4294967296 * R2 + T0 < M2
            · have hd := HE2.out.down (by rw [HV.out]; exact hWY.out) ht0.out (Or.inr (by have := HQR2.out; have := HM2.out; have := eV.out; omega))
              have HD2 := Lib.hid hd.2
              have hp : (((q2 - 1 : Nat)) : Int) = Q2 - 1 := by have := HQR2.out; have := hd.1; omega
              have HP2 := Lib.hid hp
              have hq1 : 1 ≤ Q2 := by have := HQR2.out; have := hd.1; omega
              clear hd hp
              by_cases hfar : 4294967296 ≤ R2 + V1
              · obtain ⟨f1, f2⟩ := HD2.out.far (by rw [HV.out]; exact hWY.out) hv0.out (by have := HQR2.out; have := eV.out; omega)
                rw [HV.out] at f2
                have HQ2 := Lib.hid f2
                clear f1 f2
                have hk2q := HQ2.out
                obtain ⟨k2, hk2⟩ : ∃ k2, (q2 - 1) = k2 := ⟨_, rfl⟩
                rw [hk2] at hk2q
                have hk2e : (k2 : Int) = Q2 - 1 := by rw [← hk2]; exact HP2.out
                have hk2p : (Q2 - 1) * YY = ((k2 * Y : Nat) : Int) := by rw [← hk2e, ← eV.out.2.2.2.2.2]; push_cast; rfl
                obtain ⟨K1, K2⟩ := MonQuo.fin HS1.out (by have := hvp.out; omega) HA.out.1 HA.out.2.1 HA.out.2.2.1 HA.out.2.2.2.1 HA.out.2.2.2.2.1 HA.out.2.2.2.2.2 ht0.out HK1.out.2.1 HK1.out.2.2 hk2q
                obtain ⟨g3, g4⟩ := MonQuo.rest_lt (by have := hvp.out; omega : 0 < Y) hk2q
                obtain ⟨X, hX⟩ : ∃ X, W * 4294967296 + t0 - k2 * Y = X := ⟨_, rfl⟩
                rw [hX] at g4 K2
                obtain ⟨XX, hXX⟩ : ∃ XX : Int, (X : Int) = XX := ⟨_, rfl⟩
                have F4 : IntKind.u64.wrap (IntKind.u64.wrap (IntKind.u64.wrap (WW * 4294967296) + T0) - IntKind.u64.wrap ((Q2 - 1) * YY)) = XX := wrap_rest WW T0 _ XX (by rw [hk2p]; have := eV.out; have := HWW.out; omega) (by omega) (by have := hvp.out; omega)
                have F5 : XX / 2 ^ s = Rr := by rw [← HRR.out.2, K2, ← hXX]; push_cast; rfl
                have d2 : k2 < 4294967296 := by rw [hk2q, ← HV.out]; exact MonQuo.digit_lt (by rw [HV.out]; exact hWY.out) ht0.out
                have d3 : 0 ≤ Q2 - 1 := by omega
                have d4 : Q2 - 1 < 4294967296 := by omega
                have F6 : (Q - 1) * 4294967296 + (Q2 - 1) = Rq := by rw [← HRR.out.1, K1]; have := HK1.out.1; omega
                clear hk2q hk2 hk2e hk2p K1 K2 g3 g4 hX hXX d2
                go_wp2_with fail
                go_ret2
                exact ⟨rfl, Below.refl _ _⟩
              · go_wp2_with fail
                have hg2 := Hg2.out
                go_roundg (q2 - 1)
                case measure => have := HQR2.out; omega
                case rel => exact ⟨q2 - 1, r2 + v1, rfl, congrArg (Value.int .u64) HP2.out.symm, congrArg (Value.int .u64) (by have := HQR2.out; have := eV.out; omega), HD2.out, by have := HQR2.out; omega, by have := HQR2.out; have := eV.out; omega, rfl⟩
            · have f2 := HE2.out.done (by have := hvp.out; omega) (show q2 * v0 ≤ 4294967296 * r2 + t0 by have := HQR2.out; have := HM2.out; have := eV.out; omega)
              rw [HV.out] at f2
              have HQ2 := Lib.hid f2
              clear f2
              have hk2q := HQ2.out
              obtain ⟨k2, hk2⟩ : ∃ k2, q2 = k2 := ⟨_, rfl⟩
              rw [hk2] at hk2q
              have hk2e : (k2 : Int) = Q2 := by rw [← hk2]; exact HQR2.out.1
              have hk2p : (Q2) * YY = ((k2 * Y : Nat) : Int) := by rw [← hk2e, ← eV.out.2.2.2.2.2]; push_cast; rfl
              obtain ⟨K1, K2⟩ := MonQuo.fin HS1.out (by have := hvp.out; omega) HA.out.1 HA.out.2.1 HA.out.2.2.1 HA.out.2.2.2.1 HA.out.2.2.2.2.1 HA.out.2.2.2.2.2 ht0.out HK1.out.2.1 HK1.out.2.2 hk2q
              obtain ⟨g3, g4⟩ := MonQuo.rest_lt (by have := hvp.out; omega : 0 < Y) hk2q
              obtain ⟨X, hX⟩ : ∃ X, W * 4294967296 + t0 - k2 * Y = X := ⟨_, rfl⟩
              rw [hX] at g4 K2
              obtain ⟨XX, hXX⟩ : ∃ XX : Int, (X : Int) = XX := ⟨_, rfl⟩
              have F4 : IntKind.u64.wrap (IntKind.u64.wrap (IntKind.u64.wrap (WW * 4294967296) + T0) - IntKind.u64.wrap ((Q2) * YY)) = XX := wrap_rest WW T0 _ XX (by rw [hk2p]; have := eV.out; have := HWW.out; omega) (by omega) (by have := hvp.out; omega)
              have F5 : XX / 2 ^ s = Rr := by rw [← HRR.out.2, K2, ← hXX]; push_cast; rfl
              have d2 : k2 < 4294967296 := by rw [hk2q, ← HV.out]; exact MonQuo.digit_lt (by rw [HV.out]; exact hWY.out) ht0.out
              have d3 : 0 ≤ Q2 := by omega
              have d4 : Q2 < 4294967296 := by omega
              have F6 : (Q - 1) * 4294967296 + (Q2) = Rq := by rw [← HRR.out.1, K1]; have := HK1.out.1; omega
              clear hk2q hk2 hk2e hk2p K1 K2 g3 g4 hX hXX d2
              go_wp2_with fail
              go_ret2
              exact ⟨rfl, Below.refl _ _⟩
      · go_wp2_with fail
        have hg2 := Hg.out
        go_roundg (q - 1)
        case measure => have := HQR.out; omega
        case rel => exact ⟨q - 1, r + v1, rfl, congrArg (Value.int .u64) HP.out.symm, congrArg (Value.int .u64) (by have := HQR.out; have := eV.out; omega), HD.out, by have := HQR.out; omega, by have := HQR.out; have := eV.out; omega, rfl⟩
    · have hql : q < 4294967296 := by have := HQR.out; omega
      have hpl : q * v0 ≤ 4294967295 * 4294967295 := Nat.mul_le_mul (by omega) (by have := hv0.out; omega)
      obtain ⟨M, hM⟩ : ∃ M : Int, ((q * v0 : Nat) : Int) = M := ⟨_, rfl⟩
      have G1 : IntKind.u64.wrap (Q * V0) = M := by
        rw [← HQR.out.1, ← eV.out.2.1, show ((q : Int) * (v0 : Int)) = ((q * v0 : Nat) : Int) by push_cast; rfl, wrap_u _ (by omega), hM]
      have HM := Lib.hid hM
      have HL := Lib.hid hql
      clear hM hpl hql
      by_cases hc : 4294967296 * R + T1 < M
      · have hd := HE.out.down (by rw [HV.out]; exact hUY.out) ht1.out (Or.inr (by have := HQR.out; have := HM.out; have := eV.out; omega))
        have HD := Lib.hid hd.2
        have hp : (((q - 1 : Nat)) : Int) = Q - 1 := by have := HQR.out; have := hd.1; omega
        have HP := Lib.hid hp
        have hq1 : 1 ≤ Q := by have := HQR.out; have := hd.1; omega
        clear hd hp
        by_cases hfar : 4294967296 ≤ R + V1
        · obtain ⟨f1, f2⟩ := HD.out.far (by rw [HV.out]; exact hUY.out) hv0.out (by have := HQR.out; have := eV.out; omega)
          rw [HV.out] at f2
          have HQ1 := Lib.hid f2
          clear f1 f2
          have hk1q := HQ1.out
          obtain ⟨k1, hk1⟩ : ∃ k1, (q - 1) = k1 := ⟨_, rfl⟩
          rw [hk1] at hk1q
          have hk1e : (k1 : Int) = Q - 1 := by rw [← hk1]; exact HP.out
          have hk1p : (Q - 1) * YY = ((k1 * Y : Nat) : Int) := by rw [← hk1e, ← eV.out.2.2.2.2.2]; push_cast; rfl
          obtain ⟨g1, g2⟩ := MonQuo.rest_lt (by have := hvp.out; omega : 0 < Y) hk1q
          obtain ⟨W, hW⟩ : ∃ W, U * 4294967296 + t1 - k1 * Y = W := ⟨_, rfl⟩
          rw [hW] at g2
          obtain ⟨WW, hWW⟩ : ∃ WW : Int, (W : Int) = WW := ⟨_, rfl⟩
          have F1 : IntKind.u64.wrap (IntKind.u64.wrap (IntKind.u64.wrap (UU * 4294967296) + T1) - IntKind.u64.wrap ((Q - 1) * YY)) = WW := wrap_rest UU T1 _ WW (by rw [hk1p]; have := eV.out; omega) (by omega) (by have := hvp.out; omega)
          have d1 : k1 < 4294967296 := by rw [hk1q, ← HV.out]; exact MonQuo.digit_lt (by rw [HV.out]; exact hUY.out) ht1.out
          have c1 : 0 ≤ Q - 1 := by omega
          have c2 : Q - 1 < 4294967296 := by omega
          have S2 := Est.start (u1 := W) (u0 := t0) (v1 := v1) (v0 := v0) (by have := hvp.out; omega) ht0.out
          have hqm : W / v1 * v1 ≤ W := Nat.div_mul_le_self _ _
          have hql : W / v1 < 8589934592 := by rw [Nat.div_lt_iff_lt_mul (by have := hvp.out; omega)]; have := hvp.out; have := HV.out; have := hv0.out; omega
          have hr1 : W - W / v1 * v1 < v1 := by
            have h1 := Nat.mod_lt W (show 0 < v1 by have := hvp.out; omega)
            have h2 := Nat.div_add_mod W v1
            rw [Nat.mul_comm] at h2; omega
          have D1 : WW / V1 = ((W / v1 : Nat) : Int) := by rw [← hWW, ← eV.out.1]; rfl
          have D2 : Int.tdiv WW V1 = ((W / v1 : Nat) : Int) := by rw [← hWW, ← eV.out.1]; rfl
          have D3 : IntKind.u64.wrap (WW - IntKind.u64.wrap (((W / v1 : Nat) : Int) * V1)) = ((W - W / v1 * v1 : Nat) : Int) := by
            rw [← eV.out.1, show (((W / v1 : Nat) : Int) * (v1 : Int)) = ((W / v1 * v1 : Nat) : Int) by push_cast; rfl, wrap_u _ (by have := hvp.out; omega), show WW - ((W / v1 * v1 : Nat) : Int) = ((W - W / v1 * v1 : Nat) : Int) by omega]
            exact wrap_u _ (by have := hvp.out; omega)
          have D4 : IntKind.u64.wrap ((W / v1 : Nat) : Int) = ((W / v1 : Nat) : Int) := wrap_u _ (by omega)
          generalize W / v1 = qb at *
          generalize W - qb * v1 = rb at *
          have B2 := Lib.hid (And.intro S2 (And.intro hql hr1))
          have hWY := Lib.hid g2
          have HWW := Lib.hid hWW
          have j1 : 0 ≤ WW := by omega
          have j2 : WW < YY := by have := eV.out; omega
          have HK1 := Lib.hid (show (k1 : Int) = Q - 1 ∧ k1 = (U * 4294967296 + t1) / Y ∧ W = U * 4294967296 + t1 - k1 * Y from ⟨hk1e, hk1q, hW.symm⟩)
          clear hk1q hk1 hk1e hk1p g1 g2 hW hWW d1 S2 hqm hql hr1
          go_wp2_with fail
          go_loopg [18, 16] qb (fun g a b wr => ∃ q2 r2 : Nat, g = q2 ∧ a = .int .u64 q2 ∧ b = .int .u64 r2 ∧ Est W t0 v1 v0 q2 r2 ∧ q2 < 8589934592 ∧ r2 < 4294967296 ∧ w' = wr)
          case atStart => exact ⟨qb, rb, rfl, rfl, rfl, B2.out.1, B2.out.2.1, by have := B2.out.2.2; have := hvp.out; have := HV.out; omega, rfl⟩
          case round =>
            obtain ⟨q2, r2, hg, rfl, rfl, hE, hq, hr, rfl⟩ := hrel
            have Hg2 := Lib.hid hg
            have HE2 := Lib.hid hE
            clear hg hE
            obtain ⟨Q2, hQ2⟩ : ∃ Q2 : Int, (q2 : Int) = Q2 := ⟨_, rfl⟩
            obtain ⟨R2, hR2⟩ : ∃ R2 : Int, (r2 : Int) = R2 := ⟨_, rfl⟩
            rw [hQ2, hR2]
            have q0 : 0 ≤ Q2 := by omega
            have q1 : Q2 < 8589934592 := by omega
            have r0 : 0 ≤ R2 := by omega
            have r1 : R2 < 4294967296 := by omega
            have HQR2 := Lib.hid (show (q2 : Int) = Q2 ∧ (r2 : Int) = R2 ∧ q2 < 8589934592 ∧ r2 < 4294967296 from ⟨hQ2, hR2, hq, hr⟩)
            clear hQ2 hR2 hq hr
            by_cases hbig : 4294967296 ≤ Q2
            · have hd := HE2.out.down (by rw [HV.out]; exact hWY.out) ht0.out (Or.inl (by have := HQR2.out; omega))
              have HD2 := Lib.hid hd.2
              have hp : (((q2 - 1 : Nat)) : Int) = Q2 - 1 := by have := HQR2.out; have := hd.1; omega
              have HP2 := Lib.hid hp
              clear hd hp
              by_cases hfar : 4294967296 ≤ R2 + V1
              · obtain ⟨f1, f2⟩ := HD2.out.far (by rw [HV.out]; exact hWY.out) hv0.out (by have := HQR2.out; have := eV.out; omega)
                rw [HV.out] at f2
                have HQ2 := Lib.hid f2
                clear f1 f2
                have hk2q := HQ2.out
                obtain ⟨k2, hk2⟩ : ∃ k2, (q2 - 1) = k2 := ⟨_, rfl⟩
                rw [hk2] at hk2q
                have hk2e : (k2 : Int) = Q2 - 1 := by rw [← hk2]; exact HP2.out
                have hk2p : (Q2 - 1) * YY = ((k2 * Y : Nat) : Int) := by rw [← hk2e, ← eV.out.2.2.2.2.2]; push_cast; rfl
                obtain ⟨K1, K2⟩ := MonQuo.fin HS1.out (by have := hvp.out; omega) HA.out.1 HA.out.2.1 HA.out.2.2.1 HA.out.2.2.2.1 HA.out.2.2.2.2.1 HA.out.2.2.2.2.2 ht0.out HK1.out.2.1 HK1.out.2.2 hk2q
                obtain ⟨g3, g4⟩ := MonQuo.rest_lt (by have := hvp.out; omega : 0 < Y) hk2q
                obtain ⟨X, hX⟩ : ∃ X, W * 4294967296 + t0 - k2 * Y = X := ⟨_, rfl⟩
                rw [hX] at g4 K2
                obtain ⟨XX, hXX⟩ : ∃ XX : Int, (X : Int) = XX := ⟨_, rfl⟩
                have F4 : IntKind.u64.wrap (IntKind.u64.wrap (IntKind.u64.wrap (WW * 4294967296) + T0) - IntKind.u64.wrap ((Q2 - 1) * YY)) = XX := wrap_rest WW T0 _ XX (by rw [hk2p]; have := eV.out; have := HWW.out; omega) (by omega) (by have := hvp.out; omega)
                have F5 : XX / 2 ^ s = Rr := by rw [← HRR.out.2, K2, ← hXX]; push_cast; rfl
                have d2 : k2 < 4294967296 := by rw [hk2q, ← HV.out]; exact MonQuo.digit_lt (by rw [HV.out]; exact hWY.out) ht0.out
                have d3 : 0 ≤ Q2 - 1 := by omega
                have d4 : Q2 - 1 < 4294967296 := by omega
                have F6 : (Q - 1) * 4294967296 + (Q2 - 1) = Rq := by rw [← HRR.out.1, K1]; have := HK1.out.1; omega
                clear hk2q hk2 hk2e hk2p K1 K2 g3 g4 hX hXX d2
                go_wp2_with fail
                go_ret2
                exact ⟨rfl, Below.refl _ _⟩
              · go_wp2_with fail
                have hg2 := Hg2.out
                go_roundg (q2 - 1)
                case measure => have := HQR2.out; omega
                case rel => exact ⟨q2 - 1, r2 + v1, rfl, congrArg (Value.int .u64) HP2.out.symm, congrArg (Value.int .u64) (by have := HQR2.out; have := eV.out; omega), HD2.out, by have := HQR2.out; omega, by have := HQR2.out; have := eV.out; omega, rfl⟩
            · have hql : q2 < 4294967296 := by have := HQR2.out; omega
              have hpl : q2 * v0 ≤ 4294967295 * 4294967295 := Nat.mul_le_mul (by omega) (by have := hv0.out; omega)
              obtain ⟨M2, hM⟩ : ∃ M2 : Int, ((q2 * v0 : Nat) : Int) = M2 := ⟨_, rfl⟩
              have G12 : IntKind.u64.wrap (Q2 * V0) = M2 := by
                rw [← HQR2.out.1, ← eV.out.2.1, show ((q2 : Int) * (v0 : Int)) = ((q2 * v0 : Nat) : Int) by push_cast; rfl, wrap_u _ (by omega), hM]
              have HM2 := Lib.hid hM
              have HL2 := Lib.hid hql
              clear hM hpl hql
              by_cases hc : 4294967296 * R2 + T0 < M2
              · have hd := HE2.out.down (by rw [HV.out]; exact hWY.out) ht0.out (Or.inr (by have := HQR2.out; have := HM2.out; have := eV.out; omega))
                have HD2 := Lib.hid hd.2
                have hp : (((q2 - 1 : Nat)) : Int) = Q2 - 1 := by have := HQR2.out; have := hd.1; omega
                have HP2 := Lib.hid hp
                have hq1 : 1 ≤ Q2 := by have := HQR2.out; have := hd.1; omega
                clear hd hp
                by_cases hfar : 4294967296 ≤ R2 + V1
                · obtain ⟨f1, f2⟩ := HD2.out.far (by rw [HV.out]; exact hWY.out) hv0.out (by have := HQR2.out; have := eV.out; omega)
                  rw [HV.out] at f2
                  have HQ2 := Lib.hid f2
                  clear f1 f2
                  have hk2q := HQ2.out
                  obtain ⟨k2, hk2⟩ : ∃ k2, (q2 - 1) = k2 := ⟨_, rfl⟩
                  rw [hk2] at hk2q
                  have hk2e : (k2 : Int) = Q2 - 1 := by rw [← hk2]; exact HP2.out
                  have hk2p : (Q2 - 1) * YY = ((k2 * Y : Nat) : Int) := by rw [← hk2e, ← eV.out.2.2.2.2.2]; push_cast; rfl
                  obtain ⟨K1, K2⟩ := MonQuo.fin HS1.out (by have := hvp.out; omega) HA.out.1 HA.out.2.1 HA.out.2.2.1 HA.out.2.2.2.1 HA.out.2.2.2.2.1 HA.out.2.2.2.2.2 ht0.out HK1.out.2.1 HK1.out.2.2 hk2q
                  obtain ⟨g3, g4⟩ := MonQuo.rest_lt (by have := hvp.out; omega : 0 < Y) hk2q
                  obtain ⟨X, hX⟩ : ∃ X, W * 4294967296 + t0 - k2 * Y = X := ⟨_, rfl⟩
                  rw [hX] at g4 K2
                  obtain ⟨XX, hXX⟩ : ∃ XX : Int, (X : Int) = XX := ⟨_, rfl⟩
                  have F4 : IntKind.u64.wrap (IntKind.u64.wrap (IntKind.u64.wrap (WW * 4294967296) + T0) - IntKind.u64.wrap ((Q2 - 1) * YY)) = XX := wrap_rest WW T0 _ XX (by rw [hk2p]; have := eV.out; have := HWW.out; omega) (by omega) (by have := hvp.out; omega)
                  have F5 : XX / 2 ^ s = Rr := by rw [← HRR.out.2, K2, ← hXX]; push_cast; rfl
                  have d2 : k2 < 4294967296 := by rw [hk2q, ← HV.out]; exact MonQuo.digit_lt (by rw [HV.out]; exact hWY.out) ht0.out
                  have d3 : 0 ≤ Q2 - 1 := by omega
                  have d4 : Q2 - 1 < 4294967296 := by omega
                  have F6 : (Q - 1) * 4294967296 + (Q2 - 1) = Rq := by rw [← HRR.out.1, K1]; have := HK1.out.1; omega
                  clear hk2q hk2 hk2e hk2p K1 K2 g3 g4 hX hXX d2
                  go_wp2_with fail
                  go_ret2
                  exact ⟨rfl, Below.refl _ _⟩
                · go_wp2_with fail
                  have hg2 := Hg2.out
                  go_roundg (q2 - 1)
                  case measure => have := HQR2.out; omega
                  case rel => exact ⟨q2 - 1, r2 + v1, rfl, congrArg (Value.int .u64) HP2.out.symm, congrArg (Value.int .u64) (by have := HQR2.out; have := eV.out; omega), HD2.out, by have := HQR2.out; omega, by have := HQR2.out; have := eV.out; omega, rfl⟩
              · have f2 := HE2.out.done (by have := hvp.out; omega) (show q2 * v0 ≤ 4294967296 * r2 + t0 by have := HQR2.out; have := HM2.out; have := eV.out; omega)
                rw [HV.out] at f2
                have HQ2 := Lib.hid f2
                clear f2
                have hk2q := HQ2.out
                obtain ⟨k2, hk2⟩ : ∃ k2, q2 = k2 := ⟨_, rfl⟩
                rw [hk2] at hk2q
                have hk2e : (k2 : Int) = Q2 := by rw [← hk2]; exact HQR2.out.1
                have hk2p : (Q2) * YY = ((k2 * Y : Nat) : Int) := by rw [← hk2e, ← eV.out.2.2.2.2.2]; push_cast; rfl
                obtain ⟨K1, K2⟩ := MonQuo.fin HS1.out (by have := hvp.out; omega) HA.out.1 HA.out.2.1 HA.out.2.2.1 HA.out.2.2.2.1 HA.out.2.2.2.2.1 HA.out.2.2.2.2.2 ht0.out HK1.out.2.1 HK1.out.2.2 hk2q
                obtain ⟨g3, g4⟩ := MonQuo.rest_lt (by have := hvp.out; omega : 0 < Y) hk2q
                obtain ⟨X, hX⟩ : ∃ X, W * 4294967296 + t0 - k2 * Y = X := ⟨_, rfl⟩
                rw [hX] at g4 K2
                obtain ⟨XX, hXX⟩ : ∃ XX : Int, (X : Int) = XX := ⟨_, rfl⟩
                have F4 : IntKind.u64.wrap (IntKind.u64.wrap (IntKind.u64.wrap (WW * 4294967296) + T0) - IntKind.u64.wrap ((Q2) * YY)) = XX := wrap_rest WW T0 _ XX (by rw [hk2p]; have := eV.out; have := HWW.out; omega) (by omega) (by have := hvp.out; omega)
                have F5 : XX / 2 ^ s = Rr := by rw [← HRR.out.2, K2, ← hXX]; push_cast; rfl
                have d2 : k2 < 4294967296 := by rw [hk2q, ← HV.out]; exact MonQuo.digit_lt (by rw [HV.out]; exact hWY.out) ht0.out
                have d3 : 0 ≤ Q2 := by omega
                have d4 : Q2 < 4294967296 := by omega
                have F6 : (Q - 1) * 4294967296 + (Q2) = Rq := by rw [← HRR.out.1, K1]; have := HK1.out.1; omega
                clear hk2q hk2 hk2e hk2p K1 K2 g3 g4 hX hXX d2
                go_wp2_with fail
                go_ret2
                exact ⟨rfl, Below.refl _ _⟩
        · go_wp2_with fail
          have hg2 := Hg.out
          go_roundg (q - 1)
          case measure => have := HQR.out; omega
          case rel => exact ⟨q - 1, r + v1, rfl, congrArg (Value.int .u64) HP.out.symm, congrArg (Value.int .u64) (by have := HQR.out; have := eV.out; omega), HD.out, by have := HQR.out; omega, by have := HQR.out; have := eV.out; omega, rfl⟩
      · have f2 := HE.out.done (by have := hvp.out; omega) (show q * v0 ≤ 4294967296 * r + t1 by have := HQR.out; have := HM.out; have := eV.out; omega)
        rw [HV.out] at f2
        have HQ1 := Lib.hid f2
        clear f2
        have hk1q := HQ1.out
        obtain ⟨k1, hk1⟩ : ∃ k1, q = k1 := ⟨_, rfl⟩
        rw [hk1] at hk1q
        have hk1e : (k1 : Int) = Q := by rw [← hk1]; exact HQR.out.1
        have hk1p : (Q) * YY = ((k1 * Y : Nat) : Int) := by rw [← hk1e, ← eV.out.2.2.2.2.2]; push_cast; rfl
        obtain ⟨g1, g2⟩ := MonQuo.rest_lt (by have := hvp.out; omega : 0 < Y) hk1q
        obtain ⟨W, hW⟩ : ∃ W, U * 4294967296 + t1 - k1 * Y = W := ⟨_, rfl⟩
        rw [hW] at g2
        obtain ⟨WW, hWW⟩ : ∃ WW : Int, (W : Int) = WW := ⟨_, rfl⟩
        have F1 : IntKind.u64.wrap (IntKind.u64.wrap (IntKind.u64.wrap (UU * 4294967296) + T1) - IntKind.u64.wrap ((Q) * YY)) = WW := wrap_rest UU T1 _ WW (by rw [hk1p]; have := eV.out; omega) (by omega) (by have := hvp.out; omega)
        have d1 : k1 < 4294967296 := by rw [hk1q, ← HV.out]; exact MonQuo.digit_lt (by rw [HV.out]; exact hUY.out) ht1.out
        have c1 : 0 ≤ Q := by omega
        have c2 : Q < 4294967296 := by omega
        have S2 := Est.start (u1 := W) (u0 := t0) (v1 := v1) (v0 := v0) (by have := hvp.out; omega) ht0.out
        have hqm : W / v1 * v1 ≤ W := Nat.div_mul_le_self _ _
        have hql : W / v1 < 8589934592 := by rw [Nat.div_lt_iff_lt_mul (by have := hvp.out; omega)]; have := hvp.out; have := HV.out; have := hv0.out; omega
        have hr1 : W - W / v1 * v1 < v1 := by
          have h1 := Nat.mod_lt W (show 0 < v1 by have := hvp.out; omega)
          have h2 := Nat.div_add_mod W v1
          rw [Nat.mul_comm] at h2; omega
        have D1 : WW / V1 = ((W / v1 : Nat) : Int) := by rw [← hWW, ← eV.out.1]; rfl
        have D2 : Int.tdiv WW V1 = ((W / v1 : Nat) : Int) := by rw [← hWW, ← eV.out.1]; rfl
        have D3 : IntKind.u64.wrap (WW - IntKind.u64.wrap (((W / v1 : Nat) : Int) * V1)) = ((W - W / v1 * v1 : Nat) : Int) := by
          rw [← eV.out.1, show (((W / v1 : Nat) : Int) * (v1 : Int)) = ((W / v1 * v1 : Nat) : Int) by push_cast; rfl, wrap_u _ (by have := hvp.out; omega), show WW - ((W / v1 * v1 : Nat) : Int) = ((W - W / v1 * v1 : Nat) : Int) by omega]
          exact wrap_u _ (by have := hvp.out; omega)
        have D4 : IntKind.u64.wrap ((W / v1 : Nat) : Int) = ((W / v1 : Nat) : Int) := wrap_u _ (by omega)
        generalize W / v1 = qb at *
        generalize W - qb * v1 = rb at *
        have B2 := Lib.hid (And.intro S2 (And.intro hql hr1))
        have hWY := Lib.hid g2
        have HWW := Lib.hid hWW
        have j1 : 0 ≤ WW := by omega
        have j2 : WW < YY := by have := eV.out; omega
        have HK1 := Lib.hid (show (k1 : Int) = Q ∧ k1 = (U * 4294967296 + t1) / Y ∧ W = U * 4294967296 + t1 - k1 * Y from ⟨hk1e, hk1q, hW.symm⟩)
        clear hk1q hk1 hk1e hk1p g1 g2 hW hWW d1 S2 hqm hql hr1
        go_wp2_with fail
        go_loopg [18, 16] qb (fun g a b wr => ∃ q2 r2 : Nat, g = q2 ∧ a = .int .u64 q2 ∧ b = .int .u64 r2 ∧ Est W t0 v1 v0 q2 r2 ∧ q2 < 8589934592 ∧ r2 < 4294967296 ∧ w' = wr)
        case atStart => exact ⟨qb, rb, rfl, rfl, rfl, B2.out.1, B2.out.2.1, by have := B2.out.2.2; have := hvp.out; have := HV.out; omega, rfl⟩
        case round =>
          obtain ⟨q2, r2, hg, rfl, rfl, hE, hq, hr, rfl⟩ := hrel
          have Hg2 := Lib.hid hg
          have HE2 := Lib.hid hE
          clear hg hE
          obtain ⟨Q2, hQ2⟩ : ∃ Q2 : Int, (q2 : Int) = Q2 := ⟨_, rfl⟩
          obtain ⟨R2, hR2⟩ : ∃ R2 : Int, (r2 : Int) = R2 := ⟨_, rfl⟩
          rw [hQ2, hR2]
          have q0 : 0 ≤ Q2 := by omega
          have q1 : Q2 < 8589934592 := by omega
          have r0 : 0 ≤ R2 := by omega
          have r1 : R2 < 4294967296 := by omega
          have HQR2 := Lib.hid (show (q2 : Int) = Q2 ∧ (r2 : Int) = R2 ∧ q2 < 8589934592 ∧ r2 < 4294967296 from ⟨hQ2, hR2, hq, hr⟩)
          clear hQ2 hR2 hq hr
          by_cases hbig : 4294967296 ≤ Q2
          · have hd := HE2.out.down (by rw [HV.out]; exact hWY.out) ht0.out (Or.inl (by have := HQR2.out; omega))
            have HD2 := Lib.hid hd.2
            have hp : (((q2 - 1 : Nat)) : Int) = Q2 - 1 := by have := HQR2.out; have := hd.1; omega
            have HP2 := Lib.hid hp
            clear hd hp
            by_cases hfar : 4294967296 ≤ R2 + V1
            · obtain ⟨f1, f2⟩ := HD2.out.far (by rw [HV.out]; exact hWY.out) hv0.out (by have := HQR2.out; have := eV.out; omega)
              rw [HV.out] at f2
              have HQ2 := Lib.hid f2
              clear f1 f2
              have hk2q := HQ2.out
              obtain ⟨k2, hk2⟩ : ∃ k2, (q2 - 1) = k2 := ⟨_, rfl⟩
              rw [hk2] at hk2q
              have hk2e : (k2 : Int) = Q2 - 1 := by rw [← hk2]; exact HP2.out
              have hk2p : (Q2 - 1) * YY = ((k2 * Y : Nat) : Int) := by rw [← hk2e, ← eV.out.2.2.2.2.2]; push_cast; rfl
              obtain ⟨K1, K2⟩ := MonQuo.fin HS1.out (by have := hvp.out; omega) HA.out.1 HA.out.2.1 HA.out.2.2.1 HA.out.2.2.2.1 HA.out.2.2.2.2.1 HA.out.2.2.2.2.2 ht0.out HK1.out.2.1 HK1.out.2.2 hk2q
              obtain ⟨g3, g4⟩ := MonQuo.rest_lt (by have := hvp.out; omega : 0 < Y) hk2q
              obtain ⟨X, hX⟩ : ∃ X, W * 4294967296 + t0 - k2 * Y = X := ⟨_, rfl⟩
              rw [hX] at g4 K2
              obtain ⟨XX, hXX⟩ : ∃ XX : Int, (X : Int) = XX := ⟨_, rfl⟩
              have F4 : IntKind.u64.wrap (IntKind.u64.wrap (IntKind.u64.wrap (WW * 4294967296) + T0) - IntKind.u64.wrap ((Q2 - 1) * YY)) = XX := wrap_rest WW T0 _ XX (by rw [hk2p]; have := eV.out; have := HWW.out; omega) (by omega) (by have := hvp.out; omega)
              have F5 : XX / 2 ^ s = Rr := by rw [← HRR.out.2, K2, ← hXX]; push_cast; rfl
              have d2 : k2 < 4294967296 := by rw [hk2q, ← HV.out]; exact MonQuo.digit_lt (by rw [HV.out]; exact hWY.out) ht0.out
              have d3 : 0 ≤ Q2 - 1 := by omega
              have d4 : Q2 - 1 < 4294967296 := by omega
              have F6 : (Q) * 4294967296 + (Q2 - 1) = Rq := by rw [← HRR.out.1, K1]; have := HK1.out.1; omega
              clear hk2q hk2 hk2e hk2p K1 K2 g3 g4 hX hXX d2
              go_wp2_with fail
              go_ret2
              exact ⟨rfl, Below.refl _ _⟩
            · go_wp2_with fail
              have hg2 := Hg2.out
              go_roundg (q2 - 1)
              case measure => have := HQR2.out; omega
              case rel => exact ⟨q2 - 1, r2 + v1, rfl, congrArg (Value.int .u64) HP2.out.symm, congrArg (Value.int .u64) (by have := HQR2.out; have := eV.out; omega), HD2.out, by have := HQR2.out; omega, by have := HQR2.out; have := eV.out; omega, rfl⟩
          · have hql : q2 < 4294967296 := by have := HQR2.out; omega
            have hpl : q2 * v0 ≤ 4294967295 * 4294967295 := Nat.mul_le_mul (by omega) (by have := hv0.out; omega)
            obtain ⟨M2, hM⟩ : ∃ M2 : Int, ((q2 * v0 : Nat) : Int) = M2 := ⟨_, rfl⟩
            have G12 : IntKind.u64.wrap (Q2 * V0) = M2 := by
              rw [← HQR2.out.1, ← eV.out.2.1, show ((q2 : Int) * (v0 : Int)) = ((q2 * v0 : Nat) : Int) by push_cast; rfl, wrap_u _ (by omega), hM]
            have HM2 := Lib.hid hM
            have HL2 := Lib.hid hql
            clear hM hpl hql
            by_cases hc : 4294967296 * R2 + T0 < M2
            · have hd := HE2.out.down (by rw [HV.out]; exact hWY.out) ht0.out (Or.inr (by have := HQR2.out; have := HM2.out; have := eV.out; omega))
              have HD2 := Lib.hid hd.2
              have hp : (((q2 - 1 : Nat)) : Int) = Q2 - 1 := by have := HQR2.out; have := hd.1; omega
              have HP2 := Lib.hid hp
              have hq1 : 1 ≤ Q2 := by have := HQR2.out; have := hd.1; omega
              clear hd hp
              by_cases hfar : 4294967296 ≤ R2 + V1
              · obtain ⟨f1, f2⟩ := HD2.out.far (by rw [HV.out]; exact hWY.out) hv0.out (by have := HQR2.out; have := eV.out; omega)
                rw [HV.out] at f2
                have HQ2 := Lib.hid f2
                clear f1 f2
                have hk2q := HQ2.out
                obtain ⟨k2, hk2⟩ : ∃ k2, (q2 - 1) = k2 := ⟨_, rfl⟩
                rw [hk2] at hk2q
                have hk2e : (k2 : Int) = Q2 - 1 := by rw [← hk2]; exact HP2.out
                have hk2p : (Q2 - 1) * YY = ((k2 * Y : Nat) : Int) := by rw [← hk2e, ← eV.out.2.2.2.2.2]; push_cast; rfl
                obtain ⟨K1, K2⟩ := MonQuo.fin HS1.out (by have := hvp.out; omega) HA.out.1 HA.out.2.1 HA.out.2.2.1 HA.out.2.2.2.1 HA.out.2.2.2.2.1 HA.out.2.2.2.2.2 ht0.out HK1.out.2.1 HK1.out.2.2 hk2q
                obtain ⟨g3, g4⟩ := MonQuo.rest_lt (by have := hvp.out; omega : 0 < Y) hk2q
                obtain ⟨X, hX⟩ : ∃ X, W * 4294967296 + t0 - k2 * Y = X := ⟨_, rfl⟩
                rw [hX] at g4 K2
                obtain ⟨XX, hXX⟩ : ∃ XX : Int, (X : Int) = XX := ⟨_, rfl⟩
                have F4 : IntKind.u64.wrap (IntKind.u64.wrap (IntKind.u64.wrap (WW * 4294967296) + T0) - IntKind.u64.wrap ((Q2 - 1) * YY)) = XX := wrap_rest WW T0 _ XX (by rw [hk2p]; have := eV.out; have := HWW.out; omega) (by omega) (by have := hvp.out; omega)
                have F5 : XX / 2 ^ s = Rr := by rw [← HRR.out.2, K2, ← hXX]; push_cast; rfl
                have d2 : k2 < 4294967296 := by rw [hk2q, ← HV.out]; exact MonQuo.digit_lt (by rw [HV.out]; exact hWY.out) ht0.out
                have d3 : 0 ≤ Q2 - 1 := by omega
                have d4 : Q2 - 1 < 4294967296 := by omega
                have F6 : (Q) * 4294967296 + (Q2 - 1) = Rq := by rw [← HRR.out.1, K1]; have := HK1.out.1; omega
                clear hk2q hk2 hk2e hk2p K1 K2 g3 g4 hX hXX d2
                go_wp2_with fail
                go_ret2
                exact ⟨rfl, Below.refl _ _⟩
              · go_wp2_with fail
                have hg2 := Hg2.out
                go_roundg (q2 - 1)
                case measure => have := HQR2.out; omega
                case rel => exact ⟨q2 - 1, r2 + v1, rfl, congrArg (Value.int .u64) HP2.out.symm, congrArg (Value.int .u64) (by have := HQR2.out; have := eV.out; omega), HD2.out, by have := HQR2.out; omega, by have := HQR2.out; have := eV.out; omega, rfl⟩
            · have f2 := HE2.out.done (by have := hvp.out; omega) (show q2 * v0 ≤ 4294967296 * r2 + t0 by have := HQR2.out; have := HM2.out; have := eV.out; omega)
              rw [HV.out] at f2
              have HQ2 := Lib.hid f2
              clear f2
              have hk2q := HQ2.out
              obtain ⟨k2, hk2⟩ : ∃ k2, q2 = k2 := ⟨_, rfl⟩
              rw [hk2] at hk2q
              have hk2e : (k2 : Int) = Q2 := by rw [← hk2]; exact HQR2.out.1
              have hk2p : (Q2) * YY = ((k2 * Y : Nat) : Int) := by rw [← hk2e, ← eV.out.2.2.2.2.2]; push_cast; rfl
              obtain ⟨K1, K2⟩ := MonQuo.fin HS1.out (by have := hvp.out; omega) HA.out.1 HA.out.2.1 HA.out.2.2.1 HA.out.2.2.2.1 HA.out.2.2.2.2.1 HA.out.2.2.2.2.2 ht0.out HK1.out.2.1 HK1.out.2.2 hk2q
              obtain ⟨g3, g4⟩ := MonQuo.rest_lt (by have := hvp.out; omega : 0 < Y) hk2q
              obtain ⟨X, hX⟩ : ∃ X, W * 4294967296 + t0 - k2 * Y = X := ⟨_, rfl⟩
              rw [hX] at g4 K2
              obtain ⟨XX, hXX⟩ : ∃ XX : Int, (X : Int) = XX := ⟨_, rfl⟩
              have F4 : IntKind.u64.wrap (IntKind.u64.wrap (IntKind.u64.wrap (WW * 4294967296) + T0) - IntKind.u64.wrap ((Q2) * YY)) = XX := wrap_rest WW T0 _ XX (by rw [hk2p]; have := eV.out; have := HWW.out; omega) (by omega) (by have := hvp.out; omega)
              have F5 : XX / 2 ^ s = Rr := by rw [← HRR.out.2, K2, ← hXX]; push_cast; rfl
              have d2 : k2 < 4294967296 := by rw [hk2q, ← HV.out]; exact MonQuo.digit_lt (by rw [HV.out]; exact hWY.out) ht0.out
              have d3 : 0 ≤ Q2 := by omega
              have d4 : Q2 < 4294967296 := by omega
              have F6 : (Q) * 4294967296 + (Q2) = Rq := by rw [← HRR.out.1, K1]; have := HK1.out.1; omega
              clear hk2q hk2 hk2e hk2p K1 K2 g3 g4 hX hXX d2
              go_wp2_with fail
              go_ret2
              exact ⟨rfl, Below.refl _ _⟩

/-- bits.Div64 -/
theorem div64_any (hi lo y : Nat) (w : World) (h1 : hi < y) (h2 : lo < 18446744073709551616) (hy : y < 9223372036854775808) :
    Calls Tryd.prog 38 #[.int .u64 hi, .int .u64 lo, .int .u64 y] w fun e w' => e = .returned (.tuple #[.int .u64 ((hi * 18446744073709551616 + lo) / y : Nat), .int .u64 ((hi * 18446744073709551616 + lo) % y : Nat)]) ∧ Below w.heap.size w w' := by
  by_cases h0 : hi = 0
  · subst h0
    rw [Nat.zero_mul, Nat.zero_add]
    exact div64_low lo y w h1 hy h2
  · obtain ⟨b1, b2, b3⟩ := Lib.bitLenAux_bounds 64 y (by omega) (by omega)
    have b4 : Lib.bitLen y ≤ 64 := Lib.bitLen_le y 64 (by omega) (by omega)
    have hb : Lib.bitLen y = Lib.bitLenAux 64 y := rfl
    rw [← hb] at b1 b2 b3
    obtain ⟨s, hs⟩ : ∃ s, 64 - Lib.bitLen y = s := ⟨_, rfl⟩
    have e1 : Lib.bitLen y - 1 = 63 - s := by omega
    have e2 : Lib.bitLen y = 64 - s := by omega
    rw [e1] at b2
    rw [e2] at b3
    obtain ⟨n1, n2⟩ := MonQuo.norm b2 b3 (by omega)
    have hp : 0 < 2 ^ s := Nat.pow_pos (by decide)
    have hL : lo / 2 ^ (64 - s) < 2 ^ s := by
      rw [Nat.div_lt_iff_lt_mul (Nat.pow_pos (by decide)), ← Nat.pow_add, show s + (64 - s) = 64 by omega]; exact h2
    have hU : hi * 2 ^ s + lo / 2 ^ (64 - s) < y * 2 ^ s := by
      have := Nat.mul_le_mul_right (2 ^ s) h1
      rw [Nat.succ_mul] at this
      omega
    have hT : lo * 2 ^ s % 18446744073709551616 < 18446744073709551616 := Nat.mod_lt _ (by decide)
    generalize hYe : y * 2 ^ s = Y at *
    generalize hTe : lo * 2 ^ s % 18446744073709551616 = T at *
    exact div64_high hi lo y s Y (Y / 4294967296) (Y % 4294967296) _ _ _ T (T / 4294967296) (T % 4294967296) w (by omega) h1 h2 (by omega) (by omega) hy hYe n2 (by omega) (by omega) (by omega) rfl rfl rfl hL hU hTe (by omega) (by omega) (by omega)
end Go.Proofs.YtncndmhmmfbklaaDoor
