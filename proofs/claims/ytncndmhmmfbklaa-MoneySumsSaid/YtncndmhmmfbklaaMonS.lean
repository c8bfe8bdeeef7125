/- The law's kept: a piece that was not touched shows what it showed. -/
import Derived.Test.YtncndmhmmfbklaaMonP
import Derived.Deep.QuietTactic
import Derived.BigQuiet
namespace Go.Proofs.Ytncndmhmmfbklaa
set_option linter.unusedVariables false
set_option linter.unusedSimpArgs false
open Go.RowKit
open Go.Proofs.YtncndmhmmfbklaaW.PrintWords

set_option maxHeartbeats 2000000 in
theorem kept_any (A0 A1 : Option Addr) (c0 c1 : Nat) (l : List Int) (w : World) (h0 : ReadsInt w .i64 A0 (l.length + 64) (l ++ marks 64)) (h1 : ReadsInt w .i64 A1 l.length l) (hn : l.length ≤ 17592186044352) :
    Calls Try.prog 10 #[.slice A0 (l.length + 64) c0, .slice A1 l.length c1] w fun e w' => e = .returned (.bool true) ∧ Below w.heap.size w w' := by
  have H0 := Lib.hid (show ∀ j, j < l.length → ∃ ad, A0 = some ad ∧ ∀ w', Below w.heap.size w w' → w'.cell? (ad.add j) = some (.int .i64 (l.getD j 0)) from fun j hj => by
    obtain ⟨ad, e, hc⟩ := h0.2.2 (by omega)
    refine ⟨ad, e, fun w' hb => ?_⟩
    have h2 := hc j (by omega)
    have e2 : (l ++ marks 64).getD j 0 = l.getD j 0 := by simp [List.getD_eq_getElem?_getD, List.getElem?_append_left hj]
    rw [e2] at h2
    exact pw_cell_below hb h2)
  have H1 := Lib.hid (show ∀ j, j < l.length → ∃ ad, A1 = some ad ∧ ∀ w', Below w.heap.size w w' → w'.cell? (ad.add j) = some (.int .i64 (l.getD j 0)) from fun j hj => by
    obtain ⟨ad, e, hc⟩ := h1.2.2 (by omega)
    exact ⟨ad, e, fun w' hb => pw_cell_below hb (hc j hj)⟩)
  have H2 := Lib.hid (show ∀ j, j < 64 → ∃ ad, A0 = some ad ∧ ∀ w', Below w.heap.size w w' → w'.cell? (ad.add (l.length + j)) = some (.int .i64 (-7 - (j : Int))) from fun j hj => by
    obtain ⟨ad, e, hc⟩ := h0.2.2 (by omega)
    refine ⟨ad, e, fun w' hb => ?_⟩
    have h2 := hc (l.length + j) (by omega)
    have e2 : (l ++ marks 64).getD (l.length + j) 0 = -7 - (j : Int) := by
      rw [List.getD_eq_getElem?_getD, List.getElem?_append_right (by omega)]
      simp [marks, hj]
    rw [e2] at h2
    exact pw_cell_below hb h2)
  clear h0 h1
  generalize l.length = n at *
  go_enter Try.func10, Try.ntmps10
  go_wp2
  go_loopw [5] (fun i wr => ∃ k : Nat, k ≤ n ∧ i = .int .i64 k ∧ Below w.heap.size w wr) (fun i _ => n - (intOf i).toNat)
  case atStart => exact ⟨0, by omega, rfl, Below.refl _ _⟩
  case round =>
    obtain ⟨k, hk, rfl, hB⟩ := hrel
    by_cases hlt : k < n
    · obtain ⟨a0, rfl, x0⟩ := H0.out k hlt
      obtain ⟨a1, rfl, x1⟩ := H1.out k hlt
      have x0 := x0 wr hB
      have x1 := x1 wr hB
      generalize l.getD k 0 = y at x0 x1
      have q0 : (y == y) = true := beq_self_eq_true _
      have HB := Lib.hid hB
      have t1 : (0 : Int) ≤ (k : Int) := by omega
      have t2 : (k : Int) < (n : Int) + 64 := by omega
      have t3 : ((k : Int)).toNat = k := by omega
      clear hB
      go_wp2
      go_quiet ((fail))
      go_wp2
      go_round
      case rel => exact ⟨k + 1, by omega, by go_num, by repeat (first | exact HB.out | apply fm_drewN | apply fm_drew)⟩
      case measure => simp [intOf]; omega
    · obtain rfl : k = n := by omega
      have hz : (0 : Int) < 64 := by omega
      go_wp2
      go_loopw [6] (fun i wr => ∃ m : Nat, m ≤ 64 ∧ i = .int .i64 m ∧ Below w.heap.size w wr) (fun i _ => 64 - (intOf i).toNat)
      case atStart => exact ⟨0, by omega, rfl, hB⟩
      case round =>
        obtain ⟨m, hm, rfl, hB2⟩ := hrel
        by_cases hlt2 : m < 64
        · obtain ⟨a0, rfl, x0⟩ := H2.out m hlt2
          have x0 := x0 _ hB2
          have s1 : IntKind.i64.wrap ((k : Int) + (m : Int)) = (k : Int) + (m : Int) := IntWalk.i64_in _ (by omega)
          have s2 : 0 ≤ (k : Int) + (m : Int) := by omega
          have s3 : ((k : Int) + (m : Int)).toNat = k + m := by omega
          have s4 : (k : Int) + (m : Int) < (k : Int) + 64 := by omega
          have HB := Lib.hid hB2
          clear hB2
          go_wp2
          go_round
          case rel => exact ⟨m + 1, by omega, by go_num, by repeat (first | exact HB.out | apply fm_drewN | apply fm_drew)⟩
          case measure => simp [intOf]; omega
        · obtain rfl : m = 64 := by omega
          go_wp2
          go_ret
          exact ⟨rfl, hB2⟩
end Go.Proofs.Ytncndmhmmfbklaa
