/- The law's piece: the row and 64 marks behind it. -/
import Derived.Test.YtncndmhmmfbklaaMonG
import Derived.Test.YtncndmhmmfbklaaWWords
namespace Go.Proofs.Ytncndmhmmfbklaa
set_option linter.unusedVariables false
set_option linter.unusedSimpArgs false
open Go.RowKit
open Go.Proofs.YtncndmhmmfbklaaW.PrintWords

def marks (m : Nat) : List Int := (List.range m).map fun (j : Nat) => -7 - (j : Int)
theorem marks_succ (m : Nat) : marks (m + 1) = marks m ++ [-7 - (m : Int)] := by simp [marks, List.range_succ]
theorem marks_length (m : Nat) : (marks m).length = m := by simp [marks]
theorem i64_info : (Try.prog.info? 2).map (fun i => (i.zero, i.size, i.bytes)) = some (some (.int .i64 0), 1, 8) := by kernel_rfl

set_option maxHeartbeats 2000000 in
theorem piece_any (A : Option Addr) (cap : Nat) (l : List Int) (w : World) (hr : ReadsInt w .i64 A l.length l) (hl : l.length ≤ 17592186044352) :
    Calls Try.prog 7 #[.slice A l.length cap] w fun e w' => ∃ v, e = .returned v ∧ w'.ownsRow w.heap.size 2 1 v (l ++ marks 64).length (nums .i64 (l ++ marks 64)) ∧ Below w.heap.size w w' := by
  have HR := Lib.hid hr
  clear hr
  go_enter Try.func7, Try.ntmps7
  go_wp2_with (at_builtin
               refine print_append_row (w0 := w) w.heap.size rfl _ (.tmp 5) 22 2 .i64 8 rfl Try.underlying22 i64_info (by omega) (.slice none 0 0) [] l A l.length cap rfl rfl (own_nil w _ _ _) HR.out (Below.refl _ _) (Nat.le_refl _) (by simp; omega) ?_
               intro v1 w1 hown1 hbel1 hg1 hat1
               have HO1 := Lib.hid hown1
               have HB1 := Lib.hid hbel1
               clear hown1 hbel1 hg1 hat1)
  go_loopw [3, 4] (fun v i wr => ∃ k : Nat, k ≤ 64 ∧ i = .int .i64 k ∧ wr.ownsRow w.heap.size 2 1 v (l ++ marks k).length (nums .i64 (l ++ marks k)) ∧ Below w.heap.size w wr) (fun _ i _ => 64 - (intOf i).toNat)
  case atStart => exact ⟨0, by omega, rfl, by simpa [marks] using HO1.out, HB1.out⟩
  case round =>
    obtain ⟨k, hk, rfl, hO, hB⟩ := hrel
    have HO := Lib.hid hO
    have HB := Lib.hid hB
    clear hO hB
    by_cases hlt : k < 64
    · have hlen : ((l ++ marks k).length + 1) * 8 ≤ 140737488355328 := by simp [marks_length]; omega
      have HL := Lib.hid hlen
      clear hlen
      go_wp2_with (at_builtin
                   go_loud (refine print_append_num (w0 := w) w.heap.size rfl (.tmp 11) (.tmp 14) 22 2 .i64 8 rfl Try.underlying22 i64_info (by omega) _ (l ++ marks k) (-7 - (k : Int)) (by rfl) (by rfl) HO.out HB.out HB.out.size HL.out ?_)
                   intro v2 w2 hown2 hbel2 hg2 hat2
                   have HO2 := Lib.hid hown2
                   have HB2 := Lib.hid hbel2
                   clear hown2 hbel2 hg2 hat2)
      go_round
      case rel => exact ⟨k + 1, by omega, by go_num, by rw [marks_succ, ← List.append_assoc]; exact HO2.out, HB2.out⟩
      case measure => simp [intOf]; omega
    · obtain rfl : k = 64 := by omega
      go_wp2
      go_ret
      exact ⟨_, rfl, HO.out, HB.out⟩
end Go.Proofs.Ytncndmhmmfbklaa
