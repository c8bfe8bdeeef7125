/- The document's up. -/
import Derived.Test.YtncndmhmmfbklaaMonW
namespace Go.Proofs.Ytncndmhmmfbklaa
set_option linter.unusedVariables false
set_option linter.unusedSimpArgs false
open Go.RowKit
open MonMath (dig car bor mc)

def upV (how : Int) (m : Bool) (q r d : Nat) : Bool :=
  bif how == 1 then true else bif how == 2 then m else bif how == 3 then !m else bif how == 4 then !(decide (r + r < d))
  else bif how == 5 then (decide (d < r + r) || (!(decide (r + r < d)) && ((dig q 0 : Int) % 2 == 1))) else false
theorem upV_1 {how : Int} {m : Bool} {q r d : Nat} (h : (how == 1) = true) : true = upV how m q r d := by unfold upV; rw [h]; rfl
theorem upV_2 {how : Int} {m : Bool} {q r d : Nat} (h1 : (how == 1) = false) (h : (how == 2) = true) : m = upV how m q r d := by unfold upV; rw [h1, h]; rfl
theorem upV_3 {how : Int} {m : Bool} {q r d : Nat} (h1 : (how == 1) = false) (h2 : (how == 2) = false) (h : (how == 3) = true) : (!m) = upV how m q r d := by unfold upV; rw [h1, h2, h]; rfl
theorem upV_4 {how : Int} {m : Bool} {q r d : Nat} (h1 : (how == 1) = false) (h2 : (how == 2) = false) (h3 : (how == 3) = false) (h : (how == 4) = true) : (!(decide (r + r < d))) = upV how m q r d := by unfold upV; rw [h1, h2, h3, h]; rfl
theorem upV_5a {how : Int} {m : Bool} {q r d : Nat} (h1 : (how == 1) = false) (h2 : (how == 2) = false) (h3 : (how == 3) = false) (h4 : (how == 4) = false) (h : (how == 5) = true) (ha : r + r ≤ d) (hb : d ≤ r + r) : ((dig q 0 : Int) % 2 == 1) = upV how m q r d := by
  unfold upV; rw [h1, h2, h3, h4, h, decide_eq_false (show ¬ d < r + r by omega), decide_eq_false (show ¬ r + r < d by omega)]; simp
theorem upV_5b {how : Int} {m : Bool} {q r d : Nat} (h1 : (how == 1) = false) (h2 : (how == 2) = false) (h3 : (how == 3) = false) (h4 : (how == 4) = false) (h : (how == 5) = true) (ha : r + r ≤ d) (hb : ¬ d ≤ r + r) : false = upV how m q r d := by
  unfold upV; rw [h1, h2, h3, h4, h, decide_eq_false (show ¬ d < r + r by omega), decide_eq_true (show r + r < d by omega)]; rfl
theorem upV_5c {how : Int} {m : Bool} {q r d : Nat} (h1 : (how == 1) = false) (h2 : (how == 2) = false) (h3 : (how == 3) = false) (h4 : (how == 4) = false) (h : (how == 5) = true) (ha : ¬ r + r ≤ d) : true = upV how m q r d := by
  unfold upV; rw [h1, h2, h3, h4, h, decide_eq_true (show d < r + r by omega)]; rfl
theorem upV_5d {how : Int} {m : Bool} {q r d : Nat} (h1 : (how == 1) = false) (h2 : (how == 2) = false) (h3 : (how == 3) = false) (h4 : (how == 4) = false) (h : (how == 5) = true) : (decide (d < r + r) || (!decide (r + r < d) && ((dig q 0 : Int) % 2 == 1))) = upV how m q r d := by
  unfold upV; rw [h1, h2, h3, h4, h]; rfl
theorem upV_5e {how : Int} {m : Bool} {q r d : Nat} (h1 : (how == 1) = false) (h2 : (how == 2) = false) (h3 : (how == 3) = false) (h4 : (how == 4) = false) (h : (how == 5) = true) (ha : ¬ d ≤ r + r) : decide (d < r + r) = upV how m q r d := by
  unfold upV; rw [h1, h2, h3, h4, h, decide_eq_false (show ¬ d < r + r by omega), decide_eq_true (show r + r < d by omega)]; rfl
theorem upV_6 {how : Int} {m : Bool} {q r d : Nat} (h1 : (how == 1) = false) (h2 : (how == 2) = false) (h3 : (how == 3) = false) (h4 : (how == 4) = false) (h : (how == 5) = false) : false = upV how m q r d := by unfold upV; rw [h1, h2, h3, h4, h]; rfl

set_option maxHeartbeats 2000000 in
theorem up_any (how : Int) (m : Bool) (q r d : Nat) (w : World) (h1 : r + r < 4294967296 ^ 6) (h2 : d < 4294967296 ^ 6) :
    Calls Try.prog 46 #[.int .i64 how, .bool m, wide q, wide r, wide d] w fun e w' => e = .returned (.bool (upV how m q r d)) ∧ Below w.heap.size w w' := by
  obtain ⟨V, hV⟩ : ∃ V, upV how m q r d = V := ⟨_, rfl⟩
  rw [hV]
  have HV := Lib.hid hV
  have H1 := Lib.hid h1
  have H2 := Lib.hid h2
  clear hV h1 h2
  unfold wide
  go_enter Try.func46, Try.ntmps46
  go_wp2_with fail
  refine (plus_any r r _).mono ?_
  rintro e w1 ⟨rfl, hb1⟩
  obtain ⟨hc1, hf1⟩ := bcell hb1
  have hz := hb1.size
  simp at hz
  have z0 : w.heap.size < w1.heap.size := by omega
  have z1 : w.heap.size + 1 < w1.heap.size := by omega
  have z2 : w.heap.size + 1 + 1 < w1.heap.size := by omega
  unfold wide
  go_wp2_with fail
  refine (below_any (r + r) d _ H1.out H2.out).mono ?_
  rintro e w2 ⟨rfl, hb2⟩
  obtain ⟨hc2, hf2⟩ := bcell hb2
  have hy := hb2.size
  simp at hy
  have y0 : w.heap.size < w2.heap.size := by omega
  have y1 : w.heap.size + 1 < w2.heap.size := by omega
  have y2 : w.heap.size + 1 + 1 < w2.heap.size := by omega
  have y3 : w1.heap.size < w2.heap.size := by omega
  go_wp2_with fail
  refine (below_any d (r + r) _ H2.out H1.out).mono ?_
  rintro e w3 ⟨rfl, hb3⟩
  obtain ⟨hc3, hf3⟩ := bcell hb3
  have hx := hb3.size
  try simp at hx
  have x0 : w.heap.size < w3.heap.size := by omega
  have B1 : Below w.heap.size w w1 := fm_call (fm_alloc (fm_alloc (fm_alloc (Below.refl _ _) _) _) _) hb1
  have q0 : w.heap.size ≤ w1.heap.size := B1.size
  have B2 : Below w.heap.size w w2 := by
    refine fm_call ?_ hb2
    repeat (with_reducible refine Below.setCell ?_ q0 _)
    exact fm_alloc B1 _
  have B3 := Lib.hid (fm_call B2 hb3)
  clear B1 B2
  go_wp2_with fail
  all_goals
    go_ret
    refine ⟨?_, B3.out⟩
    rw [← HV.out]
    with_reducible first
      | exact congrArg (fun z => Ending.returned (.bool z)) (upV_1 (by assumption))
      | exact congrArg (fun z => Ending.returned (.bool z)) (upV_2 (by assumption) (by assumption))
      | exact congrArg (fun z => Ending.returned (.bool z)) (upV_3 (by assumption) (by assumption) (by assumption))
      | exact congrArg (fun z => Ending.returned (.bool z)) (upV_4 (by assumption) (by assumption) (by assumption) (by assumption))
      | skip
    all_goals first
      | (refine congrArg (fun z => Ending.returned (.bool z)) (?_ : _ = upV how m q r d); first
          | exact upV_1 (by assumption)
          | exact upV_2 (by assumption) (by assumption)
          | exact upV_3 (by assumption) (by assumption) (by assumption)
          | exact upV_4 (by assumption) (by assumption) (by assumption) (by assumption)
          | exact upV_5a (by assumption) (by assumption) (by assumption) (by assumption) (by assumption) (by assumption) (by assumption)
          | exact upV_5b (by assumption) (by assumption) (by assumption) (by assumption) (by assumption) (by assumption) (by assumption)
          | exact upV_5c (by assumption) (by assumption) (by assumption) (by assumption) (by assumption) (by assumption)
          | exact upV_6 (by assumption) (by assumption) (by assumption) (by assumption) (by assumption))
      | exact congrArg (fun z => Ending.returned (.bool z)) (upV_5d (by assumption) (by assumption) (by assumption) (by assumption) (by assumption))
      | exact congrArg (fun z => Ending.returned (.bool z)) (upV_5e (by assumption) (by assumption) (by assumption) (by assumption) (by assumption) (by assumption))
end Go.Proofs.Ytncndmhmmfbklaa
