/- The document's Print and Parse; the law DayTexts, walked. -/
import Derived.Test.YtidjipcdnkgigaaDoorDayW
import Derived.Lib.ConvBytes
namespace Go.Proofs.YtidjipcdnkgigaaDoor
set_option linter.unusedVariables false
set_option linter.unusedSimpArgs false
open Go.RowKit Go.ChangeShapes Go.WideShapes
open DayMath (leapP lp dim long cum num valid dY dM dD monthsOn monthsOK)

def allDig (c : Nat → Int) (a m : Nat) : Prop := ∀ j, j < m → 48 ≤ c (a + j) ∧ c (a + j) ≤ 57
open Classical in
/-- what the document's number gives -/
noncomputable def numV (c : Nat → Int) (a m : Nat) : Int := if allDig c a m then nv c a m else -1
theorem numV_ok {c : Nat → Int} {a m : Nat} (h : allDig c a m) : numV c a m = nv c a m := by unfold numV; rw [if_pos h]
theorem numV_bad {c : Nat → Int} {a m : Nat} (h : ¬ allDig c a m) : numV c a m = -1 := by unfold numV; rw [if_neg h]

set_option maxHeartbeats 2000000 in
/-- daybookref02.number -/
theorem number_any (s : ByteArray) (x y : Int) (a m : Nat) (w : World) (hx : x = a) (hy : y = a + m) (hm : m ≤ 4) (hs : a + m ≤ s.size) (hs2 : s.size ≤ 140737488351232) :
    Calls Tryd.prog 44 #[.string s, .int .i64 x, .int .i64 y] w fun e w' => e = .returned (.int .i64 (numV (bt s) a m)) ∧ w = w' := by
  subst hx hy
  obtain ⟨V, hV⟩ : ∃ V, numV (bt s) a m = V := ⟨_, rfl⟩
  rw [hV]
  have HV := Lib.hid hV
  clear hV
  go_enter Tryd.func44, Tryd.ntmps44
  go_wp2
  go_loop [7, 8] (fun n i => ∃ k : Nat, k ≤ m ∧ i = .int .i64 ((a : Int) + k) ∧ n = .int .i64 (nv (bt s) a k) ∧ allDig (bt s) a k) (fun _ i => (((a : Int) + m) - intOf i).toNat)
  case atStart => exact ⟨0, by omega, by rw [show ((0 : Nat) : Int) = 0 from rfl, Int.add_zero], rfl, fun j hj => absurd hj (by omega)⟩
  case round =>
    obtain ⟨k, hk, rfl, rfl, hd⟩ := hrel
    have Hd := Lib.hid hd
    have hnb := nv_bd (bt s) a k hd
    have hp : (10 : Int) ^ k ≤ 10000 := by
      have : k = 0 ∨ k = 1 ∨ k = 2 ∨ k = 3 ∨ k = 4 := by omega
      rcases this with rfl | rfl | rfl | rfl | rfl <;> decide
    have hn0 := hnb.1
    have hn1 : nv (bt s) a k < 10000 := by omega
    clear hd hnb hp
    by_cases hlt : k < m
    · have hks : a + k < s.size := by omega
      have hks' : (a : Int) + (k : Int) < (s.size : Int) := by omega
      have hbx := bt_eq hks
      have hc : (a : Int) + (k : Int) < (a : Int) + (m : Int) := by omega
      have ht : ((a : Int) + (k : Int)).toNat = a + k := by omega
      by_cases hlo : bt s (a + k) < 48
      · have q := numV_bad (c := bt s) (a := a) (m := m) (fun h => by have := h k hlt; omega)
        have Q := Lib.hid (HV.out.symm.trans q)
        clear q
        go_wp2
        go_ret
        exact ⟨by rw [Q.out]; rfl, rfl⟩
      by_cases hhi : 57 < bt s (a + k)
      · have q := numV_bad (c := bt s) (a := a) (m := m) (fun h => by have := h k hlt; omega)
        have Q := Lib.hid (HV.out.symm.trans q)
        clear q
        go_wp2
        go_ret
        exact ⟨by rw [Q.out]; rfl, rfl⟩
      have hlo' : 48 ≤ bt s (a + k) := by omega
      have hhi' : bt s (a + k) ≤ 57 := by omega
      have Hd2 := Lib.hid (show allDig (bt s) a (k + 1) from fun j hj => by
        rcases Nat.lt_or_ge j k with q | q
        · exact Hd.out j q
        · have e : j = k := by omega
          rw [e]; exact ⟨hlo', hhi'⟩)
      clear hlo hhi
      go_wp2
      go_round
      case rel => exact ⟨k + 1, by omega, by go_num, rfl, Hd2.out⟩
      case measure => simp [intOf]; omega
    · obtain rfl : k = m := by omega
      have q := numV_ok Hd.out
      have Q := Lib.hid (HV.out.symm.trans q)
      clear q
      go_wp2
      go_ret
      exact ⟨by rw [Q.out]; rfl, rfl⟩

/-- the last k digits of a number -/
def dl (n : Int) : Nat → List UInt8
  | 0 => []
  | k + 1 => dgt (n.toNat / 10 ^ k % 10) :: dl n k

theorem conv1 (w : World) (x : Int) :
    Sem.run Tryd.prog (convert 52 9 (.slice (some ⟨w.heap.size, 0, none⟩) 1 1)) (w.alloc (.cells #[.int .u8 x] 5)) = .ok (.string (strOfNums [x])) (w.alloc (.cells #[.int .u8 x] 5)) :=
  run_convert_bytes_arg _ 52 5 Tryd.underlying52 Tryd.underlying5 _ _ 1 1 [x] rfl (fun i hi => by
    obtain rfl : i = 0 := by omega
    simp [go_sem]) 9 Tryd.underlying9
theorem div_pow (n : Int) (k : Nat) : n / 10 ^ k / 10 = n / 10 ^ (k + 1) := by
  rw [Int.pow_succ, Int.ediv_ediv_of_nonneg (Int.pow_nonneg (by omega))]
theorem dgt_of (n : Int) (k : Nat) (h : 0 ≤ n) : strOfNums [48 + n / 10 ^ k % 10] = ⟨[dgt (n.toNat / 10 ^ k % 10)].toArray⟩ := by
  obtain ⟨m, rfl⟩ := Int.eq_ofNat_of_zero_le h
  unfold strOfNums dgt
  have e : (48 + (m : Int) / 10 ^ k % 10).toNat = 48 + m / 10 ^ k % 10 := by
    have : ((m / 10 ^ k % 10 : Nat) : Int) = (m : Int) / 10 ^ k % 10 := by simp
    rw [← this]; omega
  simp only [List.map_cons, List.map_nil, e, Int.toNat_natCast]

set_option maxHeartbeats 2000000 in
/-- daybookref02.digits -/
theorem digits_any (n : Int) (m : Int) (w : World) (h0 : 0 ≤ n) (h1 : n ≤ 9999) (m0 : 0 ≤ m) (m1 : m ≤ 4) :
    Calls Tryd.prog 46 #[.int .i64 n, .int .i64 m] w fun e w' => e = .returned (.string ⟨(dl n m.toNat).toArray⟩) ∧ Below w.heap.size w w' := by
  go_enter Tryd.func46, Tryd.ntmps46
  go_wp2
  go_loopw [0, 5, 6] (fun x s i wr => ∃ k : Nat, (k : Int) ≤ m ∧ i = .int .i64 k ∧ s = .string ⟨(dl n k).toArray⟩ ∧ x = .int .i64 (n / 10 ^ k) ∧ Below w.heap.size w wr) (fun _ _ i _ => (m - intOf i).toNat)
  case atStart => exact ⟨0, by omega, rfl, rfl, by simp, Below.refl _ _⟩
  case round =>
    obtain ⟨k, hk, rfl, rfl, rfl, hb⟩ := hrel
    obtain ⟨q, hq⟩ : ∃ q, n / 10 ^ k = q := ⟨_, rfl⟩
    have hq0 : 0 ≤ q := by rw [← hq]; exact Int.ediv_nonneg h0 (Int.pow_nonneg (by omega))
    have hq1 : q ≤ 9999 := by rw [← hq]; exact Int.le_trans (Int.ediv_le_self _ h0) h1
    rw [hq]
    have HQ := Lib.hid hq
    clear hq
    by_cases hlt : (k : Int) < m
    · have kc := conv1 wr (48 + q % 10)
      have e256 : (48 + q % 10) % 256 = 48 + q % 10 := by omega
      have hstr : strOfNums [48 + q % 10] = ⟨[dgt (n.toNat / 10 ^ k % 10)].toArray⟩ := by rw [← HQ.out]; exact dgt_of n k h0
      have hlen : (dl n k).length ≤ 4 := by
        have : ∀ j : Nat, (dl n j).length = j := fun j => by induction j with
          | zero => rfl
          | succ j ih => simp [dl, ih]
        rw [this]; omega
      rw [hstr] at kc
      clear hstr
      go_wp2
      go_roundw
      case rel => exact ⟨k + 1, by omega, by go_num, by rw [bytes_app]; rfl, by rw [← HQ.out, div_pow], hb.alloc hb.size _⟩
      case measure => simp [intOf]; omega
    · have e : m.toNat = k := by omega
      have HE := Lib.hid e
      clear e
      go_wp2
      go_ret
      exact ⟨by rw [HE.out]; rfl, hb⟩
end Go.Proofs.YtidjipcdnkgigaaDoor
