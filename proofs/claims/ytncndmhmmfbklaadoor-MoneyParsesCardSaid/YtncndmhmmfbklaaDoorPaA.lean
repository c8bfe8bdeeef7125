/- money.decimal, and plain words for the reading of an amount's text. -/
import Derived.Test.YtncndmhmmfbklaaDoorPrW
import Derived.Outline
import Derived.Lib.IndexMore
import Derived.Lib.ParseIntBCases
import Derived.Lib.TrimByte
namespace Go.Proofs.YtncndmhmmfbklaaDoor.X
set_option linter.unusedVariables false
set_option linter.unusedSimpArgs false
open Go.RowKit Go.Lib Go.Proofs.YtncndmhmmfbklaaDoorW.PrintWords
def digB (c : UInt8) : Bool := decide (48 ≤ c.toNat) && decide (c.toNat ≤ 57)
def isDec (l : List UInt8) : Bool := l.all digB && !l.isEmpty
theorem all_take_snoc (s : ByteArray) (k : Nat) (h : k < s.size) (ha : (s.data.toList.take k).all digB = true) (hd : digB s[k] = true) : (s.data.toList.take (k + 1)).all digB = true := by
  have e : s.data.toList.take (k + 1) = s.data.toList.take k ++ [s[k]] := by rw [List.take_succ_eq_append_getElem (by simpa using h)]; rfl
  rw [e, List.all_append, ha]; simp [hd]
theorem all_no (s : ByteArray) (k : Nat) (h : k < s.size) (hd : digB s[k] = false) : isDec s.data.toList = false := by
  unfold isDec
  have : s.data.toList.all digB = false := by
    rw [List.all_eq_false]
    exact ⟨s[k], by rw [show s[k] = s.data.toList[k]'(by simpa using h) from rfl]; exact List.getElem_mem _, by rw [hd]; simp⟩
  rw [this]; rfl
theorem to_data (s : ByteArray) : s.toList = s.data.toList := by
  obtain ⟨⟨l⟩⟩ := s
  exact ByteArray.toList_mk l
theorem ret_b {a b : Bool} (h : a = b) : Ending.returned (.bool a) = .returned (.bool b) := by rw [h]
set_option maxHeartbeats 4000000 in
set_option maxRecDepth 100000 in
theorem decimal_any (s : ByteArray) (w : World) (hs : s.size ≤ 4294967296) : Calls Tryd.prog 46 #[.string s] w fun e w' => e = .returned (.bool (isDec s.data.toList)) ∧ w = w' := by
  obtain ⟨R, hR⟩ : ∃ R, isDec s.data.toList = R := ⟨_, rfl⟩
  rw [hR]
  have HR := Lib.hid hR
  clear hR
  go_enter Tryd.func46, Tryd.ntmps46
  go_wp2
  go_loop [6] (fun i => ∃ k : Nat, k ≤ s.size ∧ i = .int .i64 k ∧ (s.data.toList.take k).all digB = true) (fun i => s.size - (RowKit.intOf i).toNat)
  case atStart => exact ⟨0, Nat.zero_le _, rfl, rfl⟩
  case round =>
    obtain ⟨k, hk, rfl, ha⟩ := hrel
    have HA := Lib.hid ha
    clear ha
    by_cases hlt : k < s.size
    · by_cases c1 : (s[k].toNat : Int) < 48
      · have HF := Lib.hid (all_no s k hlt (by unfold digB; rw [decide_eq_false (by omega)]; rfl))
        have t1 : decide ((s[k].toNat : Int) < 48) = true := decide_eq_true c1
        go_wp2
        go_ret
        exact ⟨ret_b (HF.out.symm.trans HR.out), rfl⟩
      · have t1 : decide ((s[k].toNat : Int) < 48) = false := decide_eq_false c1
        by_cases c2 : 57 < (s[k].toNat : Int)
        · have HF := Lib.hid (all_no s k hlt (by unfold digB; rw [decide_eq_false (show ¬ s[k].toNat ≤ 57 by omega)]; simp))
          have t2 : decide (57 < (s[k].toNat : Int)) = true := decide_eq_true c2
          go_wp2
          go_ret
          exact ⟨ret_b (HF.out.symm.trans HR.out), rfl⟩
        · have HF := Lib.hid (all_take_snoc s k hlt HA.out (by unfold digB; rw [decide_eq_true (show 48 ≤ s[k].toNat by omega), decide_eq_true (show s[k].toNat ≤ 57 by omega)]; rfl))
          have t2 : decide (57 < (s[k].toNat : Int)) = false := decide_eq_false c2
          go_wp2
          go_round
          case rel => exact ⟨k + 1, by omega, by go_num, HF.out⟩
          case measure => simp [RowKit.intOf]; omega
    · obtain rfl : k = s.size := by omega
      go_wp2
      go_ret
      refine ⟨ret_b ?_, rfl⟩
      rw [← HR.out]
      have := HA.out
      rw [List.take_of_length_le (by simp)] at this
      unfold isDec
      rw [this, to_data]
      simp
end Go.Proofs.YtncndmhmmfbklaaDoor.X
