/- A day's text reads back as the day; of two days the earlier one has the lesser text: the law DayBack, walked. -/
import Derived.Test.YtidjipcdnkgigaaDoorDayV
namespace Go.Proofs.YtidjipcdnkgigaaDoor
set_option linter.unusedVariables false
set_option linter.unusedSimpArgs false
open Go.RowKit Go.ChangeShapes Go.WideShapes
open DayMath (leapP lp dim long cum num valid dY dM dD monthsOn monthsOK)

/-- a day's text, as Go has it -/
noncomputable def dayT (n : Int) : ByteArray := ⟨(dtext n).toArray⟩

theorem dgt_nat {u : Nat} (h : u < 10) : (dgt u).toNat = 48 + u := by
  have : u = 0 ∨ u = 1 ∨ u = 2 ∨ u = 3 ∨ u = 4 ∨ u = 5 ∨ u = 6 ∨ u = 7 ∨ u = 8 ∨ u = 9 := by omega
  rcases this with rfl | rfl | rfl | rfl | rfl | rfl | rfl | rfl | rfl | rfl <;> rfl
theorem bt_list (l : List UInt8) (i : Nat) (x : UInt8) (h : l[i]? = some x) : bt ⟨l.toArray⟩ i = (x.toNat : Int) := by
  have hl : i < l.length := by
    rcases Nat.lt_or_ge i l.length with a | a
    · exact a
    · rw [List.getElem?_eq_none a] at h; cases h
  have e : i < (⟨l.toArray⟩ : ByteArray).size := by simpa [ByteArray.size] using hl
  rw [← bt_eq e]
  have h2 : (⟨l.toArray⟩ : ByteArray)[i] = l[i] := rfl
  rw [h2]
  rw [List.getElem?_eq_getElem hl] at h
  rw [Option.some.inj h]
theorem bt_text (y m d : Nat) (hy : y < 10000) (hm : m < 100) (hd : d < 100) :
    bt ⟨(dateText y m d).toArray⟩ 0 = 48 + y / 1000 ∧ bt ⟨(dateText y m d).toArray⟩ 1 = 48 + y / 100 % 10 ∧ bt ⟨(dateText y m d).toArray⟩ 2 = 48 + y / 10 % 10 ∧
    bt ⟨(dateText y m d).toArray⟩ 3 = 48 + y % 10 ∧ bt ⟨(dateText y m d).toArray⟩ 4 = 45 ∧ bt ⟨(dateText y m d).toArray⟩ 5 = 48 + m / 10 ∧ bt ⟨(dateText y m d).toArray⟩ 6 = 48 + m % 10 ∧
    bt ⟨(dateText y m d).toArray⟩ 7 = 45 ∧ bt ⟨(dateText y m d).toArray⟩ 8 = 48 + d / 10 ∧ bt ⟨(dateText y m d).toArray⟩ 9 = 48 + d % 10 := by
  refine ⟨?_, ?_, ?_, ?_, ?_, ?_, ?_, ?_, ?_, ?_⟩
  · rw [bt_list _ 0 (dgt (y / 1000)) rfl, dgt_nat (by omega)]; omega
  · rw [bt_list _ 1 (dgt (y / 100 % 10)) rfl, dgt_nat (by omega)]; omega
  · rw [bt_list _ 2 (dgt (y / 10 % 10)) rfl, dgt_nat (by omega)]; omega
  · rw [bt_list _ 3 (dgt (y % 10)) rfl, dgt_nat (by omega)]; omega
  · rw [bt_list _ 4 45 rfl]; rfl
  · rw [bt_list _ 5 (dgt (m / 10)) rfl, dgt_nat (by omega)]; omega
  · rw [bt_list _ 6 (dgt (m % 10)) rfl, dgt_nat (by omega)]; omega
  · rw [bt_list _ 7 45 rfl]; rfl
  · rw [bt_list _ 8 (dgt (d / 10)) rfl, dgt_nat (by omega)]; omega
  · rw [bt_list _ 9 (dgt (d % 10)) rfl, dgt_nat (by omega)]; omega
theorem nv4 (c : Nat → Int) (a : Nat) : nv c a 4 = 1000 * (c a - 48) + 100 * (c (a + 1) - 48) + 10 * (c (a + 2) - 48) + (c (a + 3) - 48) := by simp only [nv, Nat.add_zero]; omega
theorem nv2 (c : Nat → Int) (a : Nat) : nv c a 2 = 10 * (c a - 48) + (c (a + 1) - 48) := by simp only [nv, Nat.add_zero]; omega
theorem parse_text (n : Int) (h1 : 1 ≤ n) (h2 : n ≤ 3652059) : parseV (dayT n) = n ∧ parseE (dayT n) = 0 := by
  obtain ⟨hv, hn⟩ := DayMath.date_spec n h1 h2
  have hv' := hv
  obtain ⟨v1, v2, v3, v4, v5, v6⟩ := hv
  have hdb := DayMath.dim_bd (dY n) (dM n)
  obtain ⟨b0, b1, b2, b3, b4, b5, b6, b7, b8, b9⟩ := bt_text (dY n).toNat (dM n).toNat (dD n).toNat (by omega) (by omega) (by omega)
  have eY : pY (dayT n) = dY n := by unfold pY dayT dtext; rw [nv4, b0, b1, b2, b3]; omega
  have eM : pM (dayT n) = dM n := by unfold pM dayT dtext; rw [nv2, b5, b6]; omega
  have eD : pD (dayT n) = dD n := by unfold pD dayT dtext; rw [nv2, b8, b9]; omega
  have hok : parseOK (dayT n) := by
    refine ⟨rfl, ?_, ?_⟩
    · intro j hj
      unfold okAt dayT dtext
      have : j = 0 ∨ j = 1 ∨ j = 2 ∨ j = 3 ∨ j = 4 ∨ j = 5 ∨ j = 6 ∨ j = 7 ∨ j = 8 ∨ j = 9 := by omega
      rcases this with rfl | rfl | rfl | rfl | rfl | rfl | rfl | rfl | rfl | rfl
      · rw [if_neg (by omega), b0]; omega
      · rw [if_neg (by omega), b1]; omega
      · rw [if_neg (by omega), b2]; omega
      · rw [if_neg (by omega), b3]; omega
      · rw [if_pos (by omega), b4]
      · rw [if_neg (by omega), b5]; omega
      · rw [if_neg (by omega), b6]; omega
      · rw [if_pos (by omega), b7]
      · rw [if_neg (by omega), b8]; omega
      · rw [if_neg (by omega), b9]; omega
    · rw [eY, eM, eD]; exact hv'
  obtain ⟨g1, g2⟩ := parse_good hok
  rw [eY, eM, eD, hn] at g1
  exact ⟨g1, g2⟩

theorem dgt_lt {u v : Nat} (hu : u < 10) (hv : v < 10) : (dgt u < dgt v) ↔ u < v := by
  rw [UInt8.lt_iff_toNat_lt, dgt_nat hu, dgt_nat hv]; omega
theorem dgt_eq {u v : Nat} (hu : u < 10) (hv : v < 10) : (dgt u = dgt v) ↔ u = v := by
  constructor
  · intro h
    have := congrArg UInt8.toNat h
    rw [dgt_nat hu, dgt_nat hv] at this; omega
  · intro h; rw [h]
theorem less_cons (a b : UInt8) (x y : List UInt8) : (Op.bytesLess (a :: x) (b :: y) = true) ↔ (a < b ∨ (a = b ∧ Op.bytesLess x y = true)) := by
  simp [Op.bytesLess]
theorem less_dgt {a b : Nat} (ha : a < 10) (hb : b < 10) (x y : List UInt8) : (Op.bytesLess (dgt a :: x) (dgt b :: y) = true) ↔ (a < b ∨ (a = b ∧ Op.bytesLess x y = true)) := by
  rw [less_cons, dgt_lt ha hb, dgt_eq ha hb]
theorem less2 {a b : Nat} (ha : a < 100) (hb : b < 100) (x y : List UInt8) : (Op.bytesLess (dgt (a / 10) :: dgt (a % 10) :: x) (dgt (b / 10) :: dgt (b % 10) :: y) = true) ↔ (a < b ∨ (a = b ∧ Op.bytesLess x y = true)) := by
  rw [less_dgt (by omega) (by omega), less_dgt (by omega) (by omega)]
  generalize (Op.bytesLess x y = true) = P
  by_cases h : P <;> simp only [h, and_true, and_false, or_false] <;> omega
theorem less4 {a b : Nat} (ha : a < 10000) (hb : b < 10000) (x y : List UInt8) :
    (Op.bytesLess (dgt (a / 1000) :: dgt (a / 100 % 10) :: dgt (a / 10 % 10) :: dgt (a % 10) :: x) (dgt (b / 1000) :: dgt (b / 100 % 10) :: dgt (b / 10 % 10) :: dgt (b % 10) :: y) = true) ↔ (a < b ∨ (a = b ∧ Op.bytesLess x y = true)) := by
  rw [less_dgt (by omega) (by omega), less_dgt (by omega) (by omega), less_dgt (by omega) (by omega), less_dgt (by omega) (by omega)]
  generalize (Op.bytesLess x y = true) = P
  by_cases h : P <;> simp only [h, and_true, and_false, or_false] <;> omega
theorem less_dash (x y : List UInt8) : (Op.bytesLess (45 :: x) (45 :: y) = true) ↔ (Op.bytesLess x y = true) := by
  rw [less_cons]; simp
theorem less_text (n m : Int) (h1 : 1 ≤ n) (h2 : n ≤ 3652059) (k1 : 1 ≤ m) (k2 : m ≤ 3652059) : (Op.bytesLess (dayT n).toList (dayT m).toList = true) ↔ n < m := by
  obtain ⟨hv, hn⟩ := DayMath.date_spec n h1 h2
  obtain ⟨kv, kn⟩ := DayMath.date_spec m k1 k2
  have hlt := DayMath.num_lt hv kv
  rw [hn, kn] at hlt
  rw [hlt]
  obtain ⟨v1, v2, v3, v4, v5, v6⟩ := hv
  obtain ⟨u1, u2, u3, u4, u5, u6⟩ := kv
  have hdb := DayMath.dim_bd (dY n) (dM n)
  have kdb := DayMath.dim_bd (dY m) (dM m)
  have e1 : (dayT n).toList = dtext n := by unfold dayT; simp [ByteArray.toList_eq]
  have e2 : (dayT m).toList = dtext m := by unfold dayT; simp [ByteArray.toList_eq]
  rw [e1, e2]
  unfold dtext dateText
  rw [less4 (by omega) (by omega), less_dash, less2 (by omega) (by omega), less_dash, less2 (by omega) (by omega)]
  have e0 : (Op.bytesLess [] [] = true) ↔ False := by simp [Op.bytesLess]
  rw [e0]
  simp only [and_false, or_false]
  omega

theorem from_is (y m d v : Int) (w : World) (hL : LD w) (h : valid y m d) (hv : num y m d = v) :
    Calls Tryd.prog 19 #[.agg #[.int .i64 y, .int .i64 m, .int .i64 d]] w fun e w' => e = .returned (.tuple #[.int .i64 v, .int .i64 0]) ∧ Below w.heap.size w w' := by
  subst hv; exact from_yes y m d w hL h
theorem print_T (n : Int) (w : World) (hL : LW w) (h1 : 1 ≤ n) (h2 : n ≤ 3652059) :
    Calls Tryd.prog 37 #[.int .i64 n] w fun e w' => e = .returned (.tuple #[.string (dayT n), .int .i64 0]) ∧ Below w.heap.size w w' := print_yes n w hL h1 h2
theorem parse_T (n : Int) (w : World) (hL : LD w) (h1 : 1 ≤ n) (h2 : n ≤ 3652059) :
    Calls Tryd.prog 35 #[.string (dayT n)] w fun e w' => e = .returned (.tuple #[.int .i64 n, .int .i64 0]) ∧ Below w.heap.size w w' := by
  obtain ⟨a, b⟩ := parse_text n h1 h2
  have hp := parse_ten (dayT n) w hL rfl
  rw [a, b] at hp
  exact hp

set_option maxHeartbeats 8000000 in
set_option maxRecDepth 100000 in
theorem dayBack_a (n m N M : Int) (w : World) (hL : LW w) (n1 : -9223372036854775808 ≤ n) (n2 : n ≤ 9223372036854775807) (m1 : -9223372036854775808 ≤ m) (m2 : m ≤ 9223372036854775807)
    (hN : dayOf n = N) (hM : dayOf m = M) (N1 : 1 ≤ N) (N2 : N ≤ 3652059) (M1 : 1 ≤ M) (M2 : M ≤ 3652059) (c1 : dY N < dY M) :
    Calls Tryd.prog 12 #[.int .i64 n, .int .i64 m] w fun e w' => e = .returned (.bool true) ∧ Below w.heap.size w w' := by
  have HN := Lib.hid hN
  have HM := Lib.hid hM
  clear hN hM
  obtain ⟨hv, hn⟩ := DayMath.date_spec N N1 N2
  obtain ⟨kv, kn⟩ := DayMath.date_spec M M1 M2
  have hlt := DayMath.num_lt hv kv
  rw [hn, kn] at hlt
  have hlx : N < M := by rw [hlt]; omega
  have hbl : Op.bytesLess (dayT N).toList (dayT M).toList = true := by
    rw [less_text N M N1 N2 M1 M2]; exact hlx
  have t1 : (dY N == dY M) = false := by rw [beq_eq_false_iff_ne]; omega
  have HV := Lib.hid hv
  have Hn := Lib.hid hn
  have HL := Lib.hid hL
  clear hL hlt hv hn kv kn 
  go_enter Tryd.func12, Tryd.ntmps12
  go_wp2_with fail
  refine (lawfirst _ HL.out).mono ?_
  rintro e w1 ⟨rfl, hb1⟩
  go_wp2_with fail
  refine (within_any _ _ n1 n2).mono ?_
  rintro e w2 ⟨rfl, rfl⟩
  have E := HN.out
  rw [E]
  clear E
  go_wp2_with fail
  refine (within_any _ _ m1 m2).mono ?_
  rintro e w2 ⟨rfl, rfl⟩
  have E := HM.out
  rw [E]
  clear E
  go_wp2_with fail
  refine (to_any _ _ (HL.out.below hb1).md N1 N2).mono ?_
  rintro e w3 ⟨rfl, hb3⟩
  have f3 : Below w.heap.size w w3 := fm_call hb1 hb3
  go_wp2_with fail
  refine (from_is _ _ _ _ _ (HL.out.below (by repeat (first | exact Below.refl _ _ | assumption | apply fm_alloc | apply fm_drewN | apply fm_drew | refine fm_call ?_ (by assumption)))).md HV.out Hn.out).mono ?_
  rintro e w4 ⟨rfl, hb4⟩
  obtain ⟨hc4, hf4⟩ := bcell hb4
  have hz4 : w3.heap.size < w4.heap.size := by have := hb4.size; simp at this; omega
  have f4 : Below w.heap.size w w4 := by repeat (first | exact Below.refl _ _ | assumption | apply fm_alloc | apply fm_drewN | apply fm_drew | refine fm_call ?_ (by assumption))
  go_wp2_with fail
  refine (print_T _ _ (HL.out.below f4) N1 N2).mono ?_
  rintro e w5 ⟨rfl, hb5⟩
  obtain ⟨hc5, hf5⟩ := bcell hb5
  have hz5 : w3.heap.size < w5.heap.size := by have := hb5.size; omega
  have f5 : Below w.heap.size w w5 := by repeat (first | exact Below.refl _ _ | assumption | apply fm_alloc | apply fm_drewN | apply fm_drew | refine fm_call ?_ (by assumption))
  go_wp2_with fail
  refine (parse_T _ _ (HL.out.below f5).md N1 N2).mono ?_
  rintro e w6 ⟨rfl, hb6⟩
  obtain ⟨hc6, hf6⟩ := bcell hb6
  have hz6 : w3.heap.size < w6.heap.size := by have := hb6.size; omega
  have f6 : Below w.heap.size w w6 := by repeat (first | exact Below.refl _ _ | assumption | apply fm_alloc | apply fm_drewN | apply fm_drew | refine fm_call ?_ (by assumption))
  go_wp2_with fail
  refine (print_T _ _ (HL.out.below f6) M1 M2).mono ?_
  rintro e w7 ⟨rfl, hb7⟩
  obtain ⟨hc7, hf7⟩ := bcell hb7
  have hz7 : w3.heap.size < w7.heap.size := by have := hb7.size; omega
  have f7 : Below w.heap.size w w7 := by repeat (first | exact Below.refl _ _ | assumption | apply fm_alloc | apply fm_drewN | apply fm_drew | refine fm_call ?_ (by assumption))
  go_wp2_with fail
  refine (to_any _ _ (HL.out.below f7).md M1 M2).mono ?_
  rintro e w8 ⟨rfl, hb8⟩
  obtain ⟨hc8, hf8⟩ := bcell hb8
  have hz8 : w3.heap.size < w8.heap.size := by have := hb8.size; omega
  go_wp2
  go_ret
  exact ⟨by first | rfl | (simp; done) | (simp; exact hlx), by repeat (first | exact Below.refl _ _ | assumption | apply fm_alloc | apply fm_drewN | apply fm_drew | refine fm_call ?_ (by assumption))⟩

set_option maxHeartbeats 8000000 in
set_option maxRecDepth 100000 in
theorem dayBack_b (n m N M : Int) (w : World) (hL : LW w) (n1 : -9223372036854775808 ≤ n) (n2 : n ≤ 9223372036854775807) (m1 : -9223372036854775808 ≤ m) (m2 : m ≤ 9223372036854775807)
    (hN : dayOf n = N) (hM : dayOf m = M) (N1 : 1 ≤ N) (N2 : N ≤ 3652059) (M1 : 1 ≤ M) (M2 : M ≤ 3652059) (c1 : dY M < dY N) :
    Calls Tryd.prog 12 #[.int .i64 n, .int .i64 m] w fun e w' => e = .returned (.bool true) ∧ Below w.heap.size w w' := by
  have HN := Lib.hid hN
  have HM := Lib.hid hM
  clear hN hM
  obtain ⟨hv, hn⟩ := DayMath.date_spec N N1 N2
  obtain ⟨kv, kn⟩ := DayMath.date_spec M M1 M2
  have hlt := DayMath.num_lt hv kv
  rw [hn, kn] at hlt
  have hlx : M ≤ N := by exact Int.not_lt.mp (by rw [hlt]; omega)
  have hbl : Op.bytesLess (dayT N).toList (dayT M).toList = false := by
    have h := less_text N M N1 N2 M1 M2; rw [Bool.eq_false_iff]; intro h3; have := h.1 h3; omega
  have t1 : (dY N == dY M) = false := by rw [beq_eq_false_iff_ne]; omega
  have t2 : decide (dY N < dY M) = false := by rw [decide_eq_false_iff_not]; omega
  have HV := Lib.hid hv
  have Hn := Lib.hid hn
  have HL := Lib.hid hL
  clear hL hlt hv hn kv kn 
  go_enter Tryd.func12, Tryd.ntmps12
  go_wp2_with fail
  refine (lawfirst _ HL.out).mono ?_
  rintro e w1 ⟨rfl, hb1⟩
  go_wp2_with fail
  refine (within_any _ _ n1 n2).mono ?_
  rintro e w2 ⟨rfl, rfl⟩
  have E := HN.out
  rw [E]
  clear E
  go_wp2_with fail
  refine (within_any _ _ m1 m2).mono ?_
  rintro e w2 ⟨rfl, rfl⟩
  have E := HM.out
  rw [E]
  clear E
  go_wp2_with fail
  refine (to_any _ _ (HL.out.below hb1).md N1 N2).mono ?_
  rintro e w3 ⟨rfl, hb3⟩
  have f3 : Below w.heap.size w w3 := fm_call hb1 hb3
  go_wp2_with fail
  refine (from_is _ _ _ _ _ (HL.out.below (by repeat (first | exact Below.refl _ _ | assumption | apply fm_alloc | apply fm_drewN | apply fm_drew | refine fm_call ?_ (by assumption)))).md HV.out Hn.out).mono ?_
  rintro e w4 ⟨rfl, hb4⟩
  obtain ⟨hc4, hf4⟩ := bcell hb4
  have hz4 : w3.heap.size < w4.heap.size := by have := hb4.size; simp at this; omega
  have f4 : Below w.heap.size w w4 := by repeat (first | exact Below.refl _ _ | assumption | apply fm_alloc | apply fm_drewN | apply fm_drew | refine fm_call ?_ (by assumption))
  go_wp2_with fail
  refine (print_T _ _ (HL.out.below f4) N1 N2).mono ?_
  rintro e w5 ⟨rfl, hb5⟩
  obtain ⟨hc5, hf5⟩ := bcell hb5
  have hz5 : w3.heap.size < w5.heap.size := by have := hb5.size; omega
  have f5 : Below w.heap.size w w5 := by repeat (first | exact Below.refl _ _ | assumption | apply fm_alloc | apply fm_drewN | apply fm_drew | refine fm_call ?_ (by assumption))
  go_wp2_with fail
  refine (parse_T _ _ (HL.out.below f5).md N1 N2).mono ?_
  rintro e w6 ⟨rfl, hb6⟩
  obtain ⟨hc6, hf6⟩ := bcell hb6
  have hz6 : w3.heap.size < w6.heap.size := by have := hb6.size; omega
  have f6 : Below w.heap.size w w6 := by repeat (first | exact Below.refl _ _ | assumption | apply fm_alloc | apply fm_drewN | apply fm_drew | refine fm_call ?_ (by assumption))
  go_wp2_with fail
  refine (print_T _ _ (HL.out.below f6) M1 M2).mono ?_
  rintro e w7 ⟨rfl, hb7⟩
  obtain ⟨hc7, hf7⟩ := bcell hb7
  have hz7 : w3.heap.size < w7.heap.size := by have := hb7.size; omega
  have f7 : Below w.heap.size w w7 := by repeat (first | exact Below.refl _ _ | assumption | apply fm_alloc | apply fm_drewN | apply fm_drew | refine fm_call ?_ (by assumption))
  go_wp2_with fail
  refine (to_any _ _ (HL.out.below f7).md M1 M2).mono ?_
  rintro e w8 ⟨rfl, hb8⟩
  obtain ⟨hc8, hf8⟩ := bcell hb8
  have hz8 : w3.heap.size < w8.heap.size := by have := hb8.size; omega
  go_wp2
  go_ret
  exact ⟨by first | rfl | (simp; done) | (simp; exact hlx), by repeat (first | exact Below.refl _ _ | assumption | apply fm_alloc | apply fm_drewN | apply fm_drew | refine fm_call ?_ (by assumption))⟩

set_option maxHeartbeats 8000000 in
set_option maxRecDepth 100000 in
theorem dayBack_c (n m N M : Int) (w : World) (hL : LW w) (n1 : -9223372036854775808 ≤ n) (n2 : n ≤ 9223372036854775807) (m1 : -9223372036854775808 ≤ m) (m2 : m ≤ 9223372036854775807)
    (hN : dayOf n = N) (hM : dayOf m = M) (N1 : 1 ≤ N) (N2 : N ≤ 3652059) (M1 : 1 ≤ M) (M2 : M ≤ 3652059) (c1 : dY N = dY M) (c2 : dM N < dM M) :
    Calls Tryd.prog 12 #[.int .i64 n, .int .i64 m] w fun e w' => e = .returned (.bool true) ∧ Below w.heap.size w w' := by
  have HN := Lib.hid hN
  have HM := Lib.hid hM
  clear hN hM
  obtain ⟨hv, hn⟩ := DayMath.date_spec N N1 N2
  obtain ⟨kv, kn⟩ := DayMath.date_spec M M1 M2
  have hlt := DayMath.num_lt hv kv
  rw [hn, kn] at hlt
  have hlx : N < M := by rw [hlt]; omega
  have hbl : Op.bytesLess (dayT N).toList (dayT M).toList = true := by
    rw [less_text N M N1 N2 M1 M2]; exact hlx
  have t1 : (dY N == dY M) = true := by rw [beq_iff_eq]; omega
  have t2 : decide (dY N < dY M) = false := by rw [decide_eq_false_iff_not]; omega
  have t3 : (dM N == dM M) = false := by rw [beq_eq_false_iff_ne]; omega
  have HV := Lib.hid hv
  have Hn := Lib.hid hn
  have HL := Lib.hid hL
  clear hL hlt hv hn kv kn c1
  go_enter Tryd.func12, Tryd.ntmps12
  go_wp2_with fail
  refine (lawfirst _ HL.out).mono ?_
  rintro e w1 ⟨rfl, hb1⟩
  go_wp2_with fail
  refine (within_any _ _ n1 n2).mono ?_
  rintro e w2 ⟨rfl, rfl⟩
  have E := HN.out
  rw [E]
  clear E
  go_wp2_with fail
  refine (within_any _ _ m1 m2).mono ?_
  rintro e w2 ⟨rfl, rfl⟩
  have E := HM.out
  rw [E]
  clear E
  go_wp2_with fail
  refine (to_any _ _ (HL.out.below hb1).md N1 N2).mono ?_
  rintro e w3 ⟨rfl, hb3⟩
  have f3 : Below w.heap.size w w3 := fm_call hb1 hb3
  go_wp2_with fail
  refine (from_is _ _ _ _ _ (HL.out.below (by repeat (first | exact Below.refl _ _ | assumption | apply fm_alloc | apply fm_drewN | apply fm_drew | refine fm_call ?_ (by assumption)))).md HV.out Hn.out).mono ?_
  rintro e w4 ⟨rfl, hb4⟩
  obtain ⟨hc4, hf4⟩ := bcell hb4
  have hz4 : w3.heap.size < w4.heap.size := by have := hb4.size; simp at this; omega
  have f4 : Below w.heap.size w w4 := by repeat (first | exact Below.refl _ _ | assumption | apply fm_alloc | apply fm_drewN | apply fm_drew | refine fm_call ?_ (by assumption))
  go_wp2_with fail
  refine (print_T _ _ (HL.out.below f4) N1 N2).mono ?_
  rintro e w5 ⟨rfl, hb5⟩
  obtain ⟨hc5, hf5⟩ := bcell hb5
  have hz5 : w3.heap.size < w5.heap.size := by have := hb5.size; omega
  have f5 : Below w.heap.size w w5 := by repeat (first | exact Below.refl _ _ | assumption | apply fm_alloc | apply fm_drewN | apply fm_drew | refine fm_call ?_ (by assumption))
  go_wp2_with fail
  refine (parse_T _ _ (HL.out.below f5).md N1 N2).mono ?_
  rintro e w6 ⟨rfl, hb6⟩
  obtain ⟨hc6, hf6⟩ := bcell hb6
  have hz6 : w3.heap.size < w6.heap.size := by have := hb6.size; omega
  have f6 : Below w.heap.size w w6 := by repeat (first | exact Below.refl _ _ | assumption | apply fm_alloc | apply fm_drewN | apply fm_drew | refine fm_call ?_ (by assumption))
  go_wp2_with fail
  refine (print_T _ _ (HL.out.below f6) M1 M2).mono ?_
  rintro e w7 ⟨rfl, hb7⟩
  obtain ⟨hc7, hf7⟩ := bcell hb7
  have hz7 : w3.heap.size < w7.heap.size := by have := hb7.size; omega
  have f7 : Below w.heap.size w w7 := by repeat (first | exact Below.refl _ _ | assumption | apply fm_alloc | apply fm_drewN | apply fm_drew | refine fm_call ?_ (by assumption))
  go_wp2_with fail
  refine (to_any _ _ (HL.out.below f7).md M1 M2).mono ?_
  rintro e w8 ⟨rfl, hb8⟩
  obtain ⟨hc8, hf8⟩ := bcell hb8
  have hz8 : w3.heap.size < w8.heap.size := by have := hb8.size; omega
  go_wp2
  go_ret
  exact ⟨by first | rfl | (simp; done) | (simp; exact hlx), by repeat (first | exact Below.refl _ _ | assumption | apply fm_alloc | apply fm_drewN | apply fm_drew | refine fm_call ?_ (by assumption))⟩

set_option maxHeartbeats 8000000 in
set_option maxRecDepth 100000 in
theorem dayBack_d (n m N M : Int) (w : World) (hL : LW w) (n1 : -9223372036854775808 ≤ n) (n2 : n ≤ 9223372036854775807) (m1 : -9223372036854775808 ≤ m) (m2 : m ≤ 9223372036854775807)
    (hN : dayOf n = N) (hM : dayOf m = M) (N1 : 1 ≤ N) (N2 : N ≤ 3652059) (M1 : 1 ≤ M) (M2 : M ≤ 3652059) (c1 : dY N = dY M) (c2 : dM M < dM N) :
    Calls Tryd.prog 12 #[.int .i64 n, .int .i64 m] w fun e w' => e = .returned (.bool true) ∧ Below w.heap.size w w' := by
  have HN := Lib.hid hN
  have HM := Lib.hid hM
  clear hN hM
  obtain ⟨hv, hn⟩ := DayMath.date_spec N N1 N2
  obtain ⟨kv, kn⟩ := DayMath.date_spec M M1 M2
  have hlt := DayMath.num_lt hv kv
  rw [hn, kn] at hlt
  have hlx : M ≤ N := by exact Int.not_lt.mp (by rw [hlt]; omega)
  have hbl : Op.bytesLess (dayT N).toList (dayT M).toList = false := by
    have h := less_text N M N1 N2 M1 M2; rw [Bool.eq_false_iff]; intro h3; have := h.1 h3; omega
  have t1 : (dY N == dY M) = true := by rw [beq_iff_eq]; omega
  have t2 : decide (dY N < dY M) = false := by rw [decide_eq_false_iff_not]; omega
  have t3 : (dM N == dM M) = false := by rw [beq_eq_false_iff_ne]; omega
  have t4 : decide (dM N < dM M) = false := by rw [decide_eq_false_iff_not]; omega
  have HV := Lib.hid hv
  have Hn := Lib.hid hn
  have HL := Lib.hid hL
  clear hL hlt hv hn kv kn c1
  go_enter Tryd.func12, Tryd.ntmps12
  go_wp2_with fail
  refine (lawfirst _ HL.out).mono ?_
  rintro e w1 ⟨rfl, hb1⟩
  go_wp2_with fail
  refine (within_any _ _ n1 n2).mono ?_
  rintro e w2 ⟨rfl, rfl⟩
  have E := HN.out
  rw [E]
  clear E
  go_wp2_with fail
  refine (within_any _ _ m1 m2).mono ?_
  rintro e w2 ⟨rfl, rfl⟩
  have E := HM.out
  rw [E]
  clear E
  go_wp2_with fail
  refine (to_any _ _ (HL.out.below hb1).md N1 N2).mono ?_
  rintro e w3 ⟨rfl, hb3⟩
  have f3 : Below w.heap.size w w3 := fm_call hb1 hb3
  go_wp2_with fail
  refine (from_is _ _ _ _ _ (HL.out.below (by repeat (first | exact Below.refl _ _ | assumption | apply fm_alloc | apply fm_drewN | apply fm_drew | refine fm_call ?_ (by assumption)))).md HV.out Hn.out).mono ?_
  rintro e w4 ⟨rfl, hb4⟩
  obtain ⟨hc4, hf4⟩ := bcell hb4
  have hz4 : w3.heap.size < w4.heap.size := by have := hb4.size; simp at this; omega
  have f4 : Below w.heap.size w w4 := by repeat (first | exact Below.refl _ _ | assumption | apply fm_alloc | apply fm_drewN | apply fm_drew | refine fm_call ?_ (by assumption))
  go_wp2_with fail
  refine (print_T _ _ (HL.out.below f4) N1 N2).mono ?_
  rintro e w5 ⟨rfl, hb5⟩
  obtain ⟨hc5, hf5⟩ := bcell hb5
  have hz5 : w3.heap.size < w5.heap.size := by have := hb5.size; omega
  have f5 : Below w.heap.size w w5 := by repeat (first | exact Below.refl _ _ | assumption | apply fm_alloc | apply fm_drewN | apply fm_drew | refine fm_call ?_ (by assumption))
  go_wp2_with fail
  refine (parse_T _ _ (HL.out.below f5).md N1 N2).mono ?_
  rintro e w6 ⟨rfl, hb6⟩
  obtain ⟨hc6, hf6⟩ := bcell hb6
  have hz6 : w3.heap.size < w6.heap.size := by have := hb6.size; omega
  have f6 : Below w.heap.size w w6 := by repeat (first | exact Below.refl _ _ | assumption | apply fm_alloc | apply fm_drewN | apply fm_drew | refine fm_call ?_ (by assumption))
  go_wp2_with fail
  refine (print_T _ _ (HL.out.below f6) M1 M2).mono ?_
  rintro e w7 ⟨rfl, hb7⟩
  obtain ⟨hc7, hf7⟩ := bcell hb7
  have hz7 : w3.heap.size < w7.heap.size := by have := hb7.size; omega
  have f7 : Below w.heap.size w w7 := by repeat (first | exact Below.refl _ _ | assumption | apply fm_alloc | apply fm_drewN | apply fm_drew | refine fm_call ?_ (by assumption))
  go_wp2_with fail
  refine (to_any _ _ (HL.out.below f7).md M1 M2).mono ?_
  rintro e w8 ⟨rfl, hb8⟩
  obtain ⟨hc8, hf8⟩ := bcell hb8
  have hz8 : w3.heap.size < w8.heap.size := by have := hb8.size; omega
  go_wp2
  go_ret
  exact ⟨by first | rfl | (simp; done) | (simp; exact hlx), by repeat (first | exact Below.refl _ _ | assumption | apply fm_alloc | apply fm_drewN | apply fm_drew | refine fm_call ?_ (by assumption))⟩

set_option maxHeartbeats 8000000 in
set_option maxRecDepth 100000 in
theorem dayBack_e (n m N M : Int) (w : World) (hL : LW w) (n1 : -9223372036854775808 ≤ n) (n2 : n ≤ 9223372036854775807) (m1 : -9223372036854775808 ≤ m) (m2 : m ≤ 9223372036854775807)
    (hN : dayOf n = N) (hM : dayOf m = M) (N1 : 1 ≤ N) (N2 : N ≤ 3652059) (M1 : 1 ≤ M) (M2 : M ≤ 3652059) (c1 : dY N = dY M) (c2 : dM N = dM M) (c3 : dD N < dD M) :
    Calls Tryd.prog 12 #[.int .i64 n, .int .i64 m] w fun e w' => e = .returned (.bool true) ∧ Below w.heap.size w w' := by
  have HN := Lib.hid hN
  have HM := Lib.hid hM
  clear hN hM
  obtain ⟨hv, hn⟩ := DayMath.date_spec N N1 N2
  obtain ⟨kv, kn⟩ := DayMath.date_spec M M1 M2
  have hlt := DayMath.num_lt hv kv
  rw [hn, kn] at hlt
  have hlx : N < M := by rw [hlt]; omega
  have hbl : Op.bytesLess (dayT N).toList (dayT M).toList = true := by
    rw [less_text N M N1 N2 M1 M2]; exact hlx
  have t1 : (dY N == dY M) = true := by rw [beq_iff_eq]; omega
  have t2 : decide (dY N < dY M) = false := by rw [decide_eq_false_iff_not]; omega
  have t3 : (dM N == dM M) = true := by rw [beq_iff_eq]; omega
  have t4 : decide (dM N < dM M) = false := by rw [decide_eq_false_iff_not]; omega
  have HV := Lib.hid hv
  have Hn := Lib.hid hn
  have HL := Lib.hid hL
  clear hL hlt hv hn kv kn c1 c2
  go_enter Tryd.func12, Tryd.ntmps12
  go_wp2_with fail
  refine (lawfirst _ HL.out).mono ?_
  rintro e w1 ⟨rfl, hb1⟩
  go_wp2_with fail
  refine (within_any _ _ n1 n2).mono ?_
  rintro e w2 ⟨rfl, rfl⟩
  have E := HN.out
  rw [E]
  clear E
  go_wp2_with fail
  refine (within_any _ _ m1 m2).mono ?_
  rintro e w2 ⟨rfl, rfl⟩
  have E := HM.out
  rw [E]
  clear E
  go_wp2_with fail
  refine (to_any _ _ (HL.out.below hb1).md N1 N2).mono ?_
  rintro e w3 ⟨rfl, hb3⟩
  have f3 : Below w.heap.size w w3 := fm_call hb1 hb3
  go_wp2_with fail
  refine (from_is _ _ _ _ _ (HL.out.below (by repeat (first | exact Below.refl _ _ | assumption | apply fm_alloc | apply fm_drewN | apply fm_drew | refine fm_call ?_ (by assumption)))).md HV.out Hn.out).mono ?_
  rintro e w4 ⟨rfl, hb4⟩
  obtain ⟨hc4, hf4⟩ := bcell hb4
  have hz4 : w3.heap.size < w4.heap.size := by have := hb4.size; simp at this; omega
  have f4 : Below w.heap.size w w4 := by repeat (first | exact Below.refl _ _ | assumption | apply fm_alloc | apply fm_drewN | apply fm_drew | refine fm_call ?_ (by assumption))
  go_wp2_with fail
  refine (print_T _ _ (HL.out.below f4) N1 N2).mono ?_
  rintro e w5 ⟨rfl, hb5⟩
  obtain ⟨hc5, hf5⟩ := bcell hb5
  have hz5 : w3.heap.size < w5.heap.size := by have := hb5.size; omega
  have f5 : Below w.heap.size w w5 := by repeat (first | exact Below.refl _ _ | assumption | apply fm_alloc | apply fm_drewN | apply fm_drew | refine fm_call ?_ (by assumption))
  go_wp2_with fail
  refine (parse_T _ _ (HL.out.below f5).md N1 N2).mono ?_
  rintro e w6 ⟨rfl, hb6⟩
  obtain ⟨hc6, hf6⟩ := bcell hb6
  have hz6 : w3.heap.size < w6.heap.size := by have := hb6.size; omega
  have f6 : Below w.heap.size w w6 := by repeat (first | exact Below.refl _ _ | assumption | apply fm_alloc | apply fm_drewN | apply fm_drew | refine fm_call ?_ (by assumption))
  go_wp2_with fail
  refine (print_T _ _ (HL.out.below f6) M1 M2).mono ?_
  rintro e w7 ⟨rfl, hb7⟩
  obtain ⟨hc7, hf7⟩ := bcell hb7
  have hz7 : w3.heap.size < w7.heap.size := by have := hb7.size; omega
  have f7 : Below w.heap.size w w7 := by repeat (first | exact Below.refl _ _ | assumption | apply fm_alloc | apply fm_drewN | apply fm_drew | refine fm_call ?_ (by assumption))
  go_wp2_with fail
  refine (to_any _ _ (HL.out.below f7).md M1 M2).mono ?_
  rintro e w8 ⟨rfl, hb8⟩
  obtain ⟨hc8, hf8⟩ := bcell hb8
  have hz8 : w3.heap.size < w8.heap.size := by have := hb8.size; omega
  go_wp2
  go_ret
  exact ⟨by first | rfl | (simp; done) | (simp; exact hlx), by repeat (first | exact Below.refl _ _ | assumption | apply fm_alloc | apply fm_drewN | apply fm_drew | refine fm_call ?_ (by assumption))⟩

set_option maxHeartbeats 8000000 in
set_option maxRecDepth 100000 in
theorem dayBack_f (n m N M : Int) (w : World) (hL : LW w) (n1 : -9223372036854775808 ≤ n) (n2 : n ≤ 9223372036854775807) (m1 : -9223372036854775808 ≤ m) (m2 : m ≤ 9223372036854775807)
    (hN : dayOf n = N) (hM : dayOf m = M) (N1 : 1 ≤ N) (N2 : N ≤ 3652059) (M1 : 1 ≤ M) (M2 : M ≤ 3652059) (c1 : dY N = dY M) (c2 : dM N = dM M) (c3 : dD M ≤ dD N) :
    Calls Tryd.prog 12 #[.int .i64 n, .int .i64 m] w fun e w' => e = .returned (.bool true) ∧ Below w.heap.size w w' := by
  have HN := Lib.hid hN
  have HM := Lib.hid hM
  clear hN hM
  obtain ⟨hv, hn⟩ := DayMath.date_spec N N1 N2
  obtain ⟨kv, kn⟩ := DayMath.date_spec M M1 M2
  have hlt := DayMath.num_lt hv kv
  rw [hn, kn] at hlt
  have hlx : M ≤ N := by exact Int.not_lt.mp (by rw [hlt]; omega)
  have hbl : Op.bytesLess (dayT N).toList (dayT M).toList = false := by
    have h := less_text N M N1 N2 M1 M2; rw [Bool.eq_false_iff]; intro h3; have := h.1 h3; omega
  have t1 : (dY N == dY M) = true := by rw [beq_iff_eq]; omega
  have t2 : decide (dY N < dY M) = false := by rw [decide_eq_false_iff_not]; omega
  have t3 : (dM N == dM M) = true := by rw [beq_iff_eq]; omega
  have t4 : decide (dM N < dM M) = false := by rw [decide_eq_false_iff_not]; omega
  have t5 : decide (dD N < dD M) = false := by rw [decide_eq_false_iff_not]; omega
  have HV := Lib.hid hv
  have Hn := Lib.hid hn
  have HL := Lib.hid hL
  clear hL hlt hv hn kv kn c1 c2
  go_enter Tryd.func12, Tryd.ntmps12
  go_wp2_with fail
  refine (lawfirst _ HL.out).mono ?_
  rintro e w1 ⟨rfl, hb1⟩
  go_wp2_with fail
  refine (within_any _ _ n1 n2).mono ?_
  rintro e w2 ⟨rfl, rfl⟩
  have E := HN.out
  rw [E]
  clear E
  go_wp2_with fail
  refine (within_any _ _ m1 m2).mono ?_
  rintro e w2 ⟨rfl, rfl⟩
  have E := HM.out
  rw [E]
  clear E
  go_wp2_with fail
  refine (to_any _ _ (HL.out.below hb1).md N1 N2).mono ?_
  rintro e w3 ⟨rfl, hb3⟩
  have f3 : Below w.heap.size w w3 := fm_call hb1 hb3
  go_wp2_with fail
  refine (from_is _ _ _ _ _ (HL.out.below (by repeat (first | exact Below.refl _ _ | assumption | apply fm_alloc | apply fm_drewN | apply fm_drew | refine fm_call ?_ (by assumption)))).md HV.out Hn.out).mono ?_
  rintro e w4 ⟨rfl, hb4⟩
  obtain ⟨hc4, hf4⟩ := bcell hb4
  have hz4 : w3.heap.size < w4.heap.size := by have := hb4.size; simp at this; omega
  have f4 : Below w.heap.size w w4 := by repeat (first | exact Below.refl _ _ | assumption | apply fm_alloc | apply fm_drewN | apply fm_drew | refine fm_call ?_ (by assumption))
  go_wp2_with fail
  refine (print_T _ _ (HL.out.below f4) N1 N2).mono ?_
  rintro e w5 ⟨rfl, hb5⟩
  obtain ⟨hc5, hf5⟩ := bcell hb5
  have hz5 : w3.heap.size < w5.heap.size := by have := hb5.size; omega
  have f5 : Below w.heap.size w w5 := by repeat (first | exact Below.refl _ _ | assumption | apply fm_alloc | apply fm_drewN | apply fm_drew | refine fm_call ?_ (by assumption))
  go_wp2_with fail
  refine (parse_T _ _ (HL.out.below f5).md N1 N2).mono ?_
  rintro e w6 ⟨rfl, hb6⟩
  obtain ⟨hc6, hf6⟩ := bcell hb6
  have hz6 : w3.heap.size < w6.heap.size := by have := hb6.size; omega
  have f6 : Below w.heap.size w w6 := by repeat (first | exact Below.refl _ _ | assumption | apply fm_alloc | apply fm_drewN | apply fm_drew | refine fm_call ?_ (by assumption))
  go_wp2_with fail
  refine (print_T _ _ (HL.out.below f6) M1 M2).mono ?_
  rintro e w7 ⟨rfl, hb7⟩
  obtain ⟨hc7, hf7⟩ := bcell hb7
  have hz7 : w3.heap.size < w7.heap.size := by have := hb7.size; omega
  have f7 : Below w.heap.size w w7 := by repeat (first | exact Below.refl _ _ | assumption | apply fm_alloc | apply fm_drewN | apply fm_drew | refine fm_call ?_ (by assumption))
  go_wp2_with fail
  refine (to_any _ _ (HL.out.below f7).md M1 M2).mono ?_
  rintro e w8 ⟨rfl, hb8⟩
  obtain ⟨hc8, hf8⟩ := bcell hb8
  have hz8 : w3.heap.size < w8.heap.size := by have := hb8.size; omega
  go_wp2
  go_ret
  exact ⟨by first | rfl | (simp; done) | (simp; exact hlx), by repeat (first | exact Below.refl _ _ | assumption | apply fm_alloc | apply fm_drewN | apply fm_drew | refine fm_call ?_ (by assumption))⟩

theorem dayBack_walk (n m : Int) (w : World) (hn : (Lit.int .i64 n).wf = true) (hm : (Lit.int .i64 m).wf = true) (hL : LW w) :
    Calls Tryd.prog 12 #[.int .i64 n, .int .i64 m] w fun e w' => e = .returned (.bool true) ∧ Below w.heap.size w w' := by
  obtain ⟨n1, n2⟩ := bounds_i64 hn
  obtain ⟨m1, m2⟩ := bounds_i64 hm
  obtain ⟨N1, N2⟩ := dayOf_bd n
  obtain ⟨M1, M2⟩ := dayOf_bd m
  rcases Int.lt_trichotomy (dY (dayOf n)) (dY (dayOf m)) with c | c | c
  · exact dayBack_a n m _ _ w hL n1 n2 m1 m2 rfl rfl N1 N2 M1 M2 c
  · rcases Int.lt_trichotomy (dM (dayOf n)) (dM (dayOf m)) with d | d | d
    · exact dayBack_c n m _ _ w hL n1 n2 m1 m2 rfl rfl N1 N2 M1 M2 c d
    · rcases Int.lt_or_le (dD (dayOf n)) (dD (dayOf m)) with f | f
      · exact dayBack_e n m _ _ w hL n1 n2 m1 m2 rfl rfl N1 N2 M1 M2 c d f
      · exact dayBack_f n m _ _ w hL n1 n2 m1 m2 rfl rfl N1 N2 M1 M2 c d f
    · exact dayBack_d n m _ _ w hL n1 n2 m1 m2 rfl rfl N1 N2 M1 M2 c d
  · exact dayBack_b n m _ _ w hL n1 n2 m1 m2 rfl rfl N1 N2 M1 M2 c

end Go.Proofs.YtidjipcdnkgigaaDoor
