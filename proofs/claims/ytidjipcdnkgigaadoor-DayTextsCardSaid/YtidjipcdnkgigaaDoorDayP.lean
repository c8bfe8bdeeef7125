/- Contracts of pad and Print: a day's text is its year in four digits, its month and day in two. -/
import Derived.Test.YtidjipcdnkgigaaDoorDayH
import Derived.Test.YtidjipcdnkgigaaDoorShelf
import Derived.Lib.AppendIntMem
namespace Go.Proofs.YtidjipcdnkgigaaDoor
set_option linter.unusedVariables false
set_option linter.unusedSimpArgs false
open Go.RowKit
open DayMath (leapP lp dim long cum num valid dY dM dD monthsOn monthsOK)

/-- the two tables that the day's texts read -/
structure LW (w : World) : Prop where
  md : LD w
  tab : Lib.TabIs Tryd.prog w "internal/strconv.uint64pow10" .u64 Lib.pow10Tab

theorem gPow : Tryd.prog.globalNamed "internal/strconv.uint64pow10" = some 1 := by kernel_rfl
theorem LW.size {w : World} (h : LW w) : 1 < w.heap.size := by
  have h1 := h.tab.cell gPow 0 (by simp [Lib.pow10Tab])
  rcases Nat.lt_or_ge 1 w.heap.size with e | e
  · exact e
  · exfalso
    have : w.heap[1]? = none := by rw [Array.getElem?_eq_none]; omega
    simp [World.cell?, this] at h1
theorem LW.below {w w' : World} (h : LW w) (hb : Below w.heap.size w w') : LW w' :=
  ⟨h.md.below hb h.md.pos, var?_below hb gPow h.size h.tab⟩

/-- a list of digits, filled up with zeros in front -/
def padL (k : Nat) (l : List UInt8) : List UInt8 := List.replicate (k - l.length) 48 ++ l
theorem padL_done (k : Nat) (l : List UInt8) (h : k ≤ l.length) : padL k l = l := by
  unfold padL; rw [Nat.sub_eq_zero_of_le h]; rfl
theorem padL_cons (k : Nat) (l : List UInt8) (h : l.length < k) : padL k (48 :: l) = padL k l := by
  unfold padL
  obtain ⟨j, hj⟩ : ∃ j, k - l.length = j + 1 := ⟨k - l.length - 1, by omega⟩
  have h2 : k - (48 :: l).length = j := by simp only [List.length_cons]; omega
  rw [hj, h2, List.replicate_succ']
  simp

theorem itoa_nat (n : Int) (h : 0 ≤ n) : Lib.itoa n = Lib.decDigits n.toNat := by
  unfold Lib.itoa; rw [if_neg (by omega)]

theorem bytes_app (a b : List UInt8) : (⟨a.toArray⟩ ++ ⟨b.toArray⟩ : ByteArray) = ⟨(a ++ b).toArray⟩ := by
  apply ByteArray.ext
  simp

def strSz : Value → Nat | .string t => t.size | _ => 0

set_option maxHeartbeats 1000000 in
/-- day.pad -/
theorem pad_any (n k : Int) (w : World) (hT : Lib.TabIs Tryd.prog w "internal/strconv.uint64pow10" .u64 Lib.pow10Tab) (h0 : 0 ≤ n) (h1 : n ≤ 9999) (k0 : 0 ≤ k) (k1 : k ≤ 4) :
    Calls Tryd.prog 45 #[.int .i64 n, .int .i64 k] w fun e w' => e = .returned (.string ⟨(padL k.toNat (Lib.decDigits n.toNat)).toArray⟩) ∧ Below w.heap.size w w' := by
  have HT := Lib.hid hT
  have hi := Lib.hid (itoa_nat n h0)
  clear hT
  go_enter Tryd.func45, Tryd.ntmps45
  go_wp2_with fail
  refine (Tryd.strconv_Itoa n (by omega) (by omega) _ HT.out).mono ?_
  rintro e w1 ⟨rfl, hw1⟩
  have HI := hi.out
  rw [HI]
  clear HI
  have hb1 : Below w.heap.size w w1 := by obtain ⟨q, os, rfl⟩ := hw1; exact Lib.below_grow _ _ (Nat.le_refl _) _ _
  clear hw1
  generalize hD : Lib.decDigits n.toNat = D
  have HD := Lib.hid hD
  clear hD
  go_wp2_with fail
  go_loop [5] (fun s => ∃ l : List UInt8, s = .string ⟨l.toArray⟩ ∧ padL k.toNat l = padL k.toNat D) (fun s => k.toNat - strSz s)
  case atStart => exact ⟨D, rfl, rfl⟩
  case round =>
    obtain ⟨l, rfl, hl⟩ := hrel
    have Hl := Lib.hid hl
    clear hl
    by_cases hlt : (l.length : Int) < k
    · go_wp2
      go_round
      case rel => exact ⟨48 :: l, by rw [show (⟨#[48]⟩ : ByteArray) = ⟨[48].toArray⟩ from rfl, bytes_app]; rfl, by rw [← Hl.out]; exact padL_cons _ _ (by omega)⟩
      case measure =>
        simp [strSz, ByteArray.size]
        omega
    · go_wp2
      go_ret
      refine ⟨?_, hb1⟩
      have h2 := padL_done k.toNat l (by omega)
      rw [HD.out, ← Hl.out, h2]
      rfl

/-- the digit of a number from 0 to 9 -/
def dgt (u : Nat) : UInt8 := UInt8.ofNat (48 + u)
theorem dec_lt {u : Nat} (h : u < 10) : Lib.decDigits u = [dgt u] := by rw [Lib.decDigits, dif_pos h]; rfl
theorem dec_ge {u : Nat} (h : 10 ≤ u) : Lib.decDigits u = Lib.decDigits (u / 10) ++ [dgt (u % 10)] := by rw [Lib.decDigits, dif_neg (by omega)]; rfl
theorem pad2 {u : Nat} (h : u < 100) : padL 2 (Lib.decDigits u) = [dgt (u / 10), dgt (u % 10)] := by
  by_cases h1 : u < 10
  · rw [dec_lt h1, show u / 10 = 0 by omega, show u % 10 = u by omega]; rfl
  · rw [dec_ge (by omega), dec_lt (u := u / 10) (by omega)]; rfl
theorem pad4 {u : Nat} (h : u < 10000) : padL 4 (Lib.decDigits u) = [dgt (u / 1000), dgt (u / 100 % 10), dgt (u / 10 % 10), dgt (u % 10)] := by
  by_cases h1 : u < 10
  · rw [dec_lt h1, show u / 1000 = 0 by omega, show u / 100 % 10 = 0 by omega, show u / 10 % 10 = 0 by omega, show u % 10 = u by omega]; rfl
  · by_cases h2 : u < 100
    · rw [dec_ge (by omega), dec_lt (u := u / 10) (by omega), show u / 1000 = 0 by omega, show u / 100 % 10 = 0 by omega, show u / 10 % 10 = u / 10 by omega]; rfl
    · by_cases h3 : u < 1000
      · rw [dec_ge (by omega), dec_ge (u := u / 10) (by omega), dec_lt (u := u / 10 / 10) (by omega), show u / 1000 = 0 by omega, show u / 100 % 10 = u / 10 / 10 by omega]; rfl
      · rw [dec_ge (by omega), dec_ge (u := u / 10) (by omega), dec_ge (u := u / 10 / 10) (by omega), dec_lt (u := u / 10 / 10 / 10) (by omega), show u / 1000 = u / 10 / 10 / 10 by omega, show u / 100 % 10 = u / 10 / 10 % 10 by omega]; rfl

/-- a date's text, in ten bytes -/
def dateText (y m d : Nat) : List UInt8 :=
  [dgt (y / 1000), dgt (y / 100 % 10), dgt (y / 10 % 10), dgt (y % 10), 45, dgt (m / 10), dgt (m % 10), 45, dgt (d / 10), dgt (d % 10)]
/-- a day's text -/
noncomputable def dtext (n : Int) : List UInt8 := dateText (dY n).toNat (dM n).toNat (dD n).toNat

theorem pad4_at {w2 w' : World} (h : Below w2.heap.size w2 w') (hL : LW w2) (n : Int) (h0 : 0 ≤ n) (h1 : n ≤ 9999) :
    Calls Tryd.prog 45 #[.int .i64 n, .int .i64 4] w' fun e w'' => e = .returned (.string ⟨#[dgt (n.toNat / 1000), dgt (n.toNat / 100 % 10), dgt (n.toNat / 10 % 10), dgt (n.toNat % 10)]⟩) ∧ Below w2.heap.size w2 w'' :=
  (pad_any n 4 w' (hL.below h).tab h0 h1 (by omega) (by omega)).mono fun _ _ ⟨he, hb⟩ => ⟨by rw [he, show (4 : Int).toNat = 4 from rfl, pad4 (by omega)], fm_call h hb⟩
theorem pad2_at {w2 w' : World} (h : Below w2.heap.size w2 w') (hL : LW w2) (n : Int) (h0 : 0 ≤ n) (h1 : n ≤ 99) :
    Calls Tryd.prog 45 #[.int .i64 n, .int .i64 2] w' fun e w'' => e = .returned (.string ⟨#[dgt (n.toNat / 10), dgt (n.toNat % 10)]⟩) ∧ Below w2.heap.size w2 w'' :=
  (pad_any n 2 w' (hL.below h).tab h0 (by omega) (by omega) (by omega)).mono fun _ _ ⟨he, hb⟩ => ⟨by rw [he, show (2 : Int).toNat = 2 from rfl, pad2 (by omega)], fm_call h hb⟩

set_option maxHeartbeats 2000000 in
/-- day.Print, of a day -/
theorem print_yes (n : Int) (w : World) (hL : LW w) (h1 : 1 ≤ n) (h2 : n ≤ 3652059) :
    Calls Tryd.prog 37 #[.int .i64 n] w fun e w' => e = .returned (.tuple #[.string ⟨(dtext n).toArray⟩, .int .i64 0]) ∧ Below w.heap.size w w' := by
  have hs := (DayMath.date_spec n h1 h2).1
  unfold valid at hs
  obtain ⟨v1, v2, v3, v4, v5, v6⟩ := hs
  have hdb := DayMath.dim_bd (dY n) (dM n)
  have HL := Lib.hid hL
  clear hL
  go_enter Tryd.func37, Tryd.ntmps37
  go_wp2_with fail
  refine (to_any _ _ HL.out.md h1 h2).mono ?_
  rintro e w1 ⟨rfl, hb1⟩
  have hsz := hb1.size
  go_wp2_with fail
  obtain ⟨w2, hw2⟩ : ∃ w2, w2 = w1.alloc (.cells #[.int .i64 (dY n), .int .i64 (dM n), .int .i64 (dD n)] 29) := ⟨_, rfl⟩
  have hb2 : Below w.heap.size w w2 := by rw [hw2]; exact hb1.alloc hsz _
  have q0 : w2.cell? ⟨w1.heap.size, 0, none⟩ = some (.int .i64 (dY n)) := by rw [hw2]; simp [go_sem]
  have q1 : w2.cell? ⟨w1.heap.size, 1, none⟩ = some (.int .i64 (dM n)) := by rw [hw2]; simp [go_sem]
  have q2 : w2.cell? ⟨w1.heap.size, 2, none⟩ = some (.int .i64 (dD n)) := by rw [hw2]; simp [go_sem]
  have hz2 : w1.heap.size < w2.heap.size := by rw [hw2]; simp
  rw [← hw2]
  clear hw2
  have L2 := Lib.hid (HL.out.below hb2)
  have C0 := Lib.hid (show ∀ w', Below w2.heap.size w2 w' → w'.cell? ⟨w1.heap.size, 0, none⟩ = some (.int .i64 (dY n)) from fun w' b => by rw [b.cell hz2]; exact q0)
  have C1 := Lib.hid (show ∀ w', Below w2.heap.size w2 w' → w'.cell? ⟨w1.heap.size, 1, none⟩ = some (.int .i64 (dM n)) from fun w' b => by rw [b.cell hz2]; exact q1)
  have C2 := Lib.hid (show ∀ w', Below w2.heap.size w2 w' → w'.cell? ⟨w1.heap.size, 2, none⟩ = some (.int .i64 (dD n)) from fun w' b => by rw [b.cell hz2]; exact q2)
  have R2 := (Below.refl w2.heap.size w2).drew
  go_region_held3 (fun w' => Below w2.heap.size w2 w' ∧ w'.cell? ⟨w1.heap.size, 0, none⟩ = some (.int .i64 (dY n)) ∧ w'.cell? ⟨w1.heap.size, 1, none⟩ = some (.int .i64 (dM n)) ∧ w'.cell? ⟨w1.heap.size, 2, none⟩ = some (.int .i64 (dD n)))
    (first | exact ⟨R2, C0.out _ R2, C1.out _ R2, C2.out _ R2⟩ | exact ⟨hbq, C0.out _ hbq, C1.out _ hbq, C2.out _ hbq⟩ | go_keep)
    (first
      | (go_at_call 45; ((with_reducible refine (pad4_at (by assumption) L2.out _ (by omega) (by omega)).mono ?_); rintro e w' ⟨rfl, hbq⟩))
      | (go_at_call 45; ((with_reducible refine (pad2_at (by assumption) L2.out _ (by omega) (by omega)).mono ?_); rintro e w' ⟨rfl, hbq⟩)))
  go_wp2
  go_ret2
  refine ⟨?_, fm_call hb2 (by first | assumption | (apply fm_drew; assumption))⟩
  rfl
end Go.Proofs.YtidjipcdnkgigaaDoor
