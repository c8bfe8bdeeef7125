/- The ways of rounding (money.ratio's methods). -/
import Derived.Test.YtncndmhmmfbklaaDoorMonG
import Derived.Test.YtncndmhmmfbklaaDoorMonDiv
import Derived.IntWalk
import Derived.ChangeKeysEq
import Derived.Deep.DeepCutAuto
import Derived.Test.YtncndmhmmfbklaaDoorMonJ
import Derived.Laws.EntriesVeiled
namespace Go.Proofs.YtncndmhmmfbklaaDoor
set_option linter.unusedVariables false
set_option linter.unusedSimpArgs false
open Go.RowKit

def ratioV (q r d : Int) (m : Bool) : Value := .agg #[.int .u64 q, .int .u64 r, .int .u64 d, .bool m]
set_option maxRecDepth 100000 in
theorem way_down (q r d : Int) (m : Bool) (w : World) (h0 : 0 ≤ r) :
    Calls Tryd.prog 30 #[ratioV q r d m] w fun e w' => e = .returned (.bool (false)) ∧ Below w.heap.size w w' := by
  unfold ratioV
  by_cases h : 0 < r
  · have h1 : decide (0 < r) = true := decide_eq_true h
    try rw [h1]
    cases m <;>
    (go_enter Tryd.func30, Tryd.ntmps30
     go_wp2
     go_ret
     exact ⟨rfl, by repeat (first | exact Below.refl _ _ | apply fm_alloc | apply fm_drewN)⟩)
  · have h1 : r = 0 := by omega
    subst h1
    cases m <;>
    (go_enter Tryd.func30, Tryd.ntmps30
     go_wp2
     go_ret
     exact ⟨rfl, by repeat (first | exact Below.refl _ _ | apply fm_alloc | apply fm_drewN)⟩)
set_option maxRecDepth 100000 in
theorem way_up (q r d : Int) (m : Bool) (w : World) (h0 : 0 ≤ r) :
    Calls Tryd.prog 31 #[ratioV q r d m] w fun e w' => e = .returned (.bool (decide (0 < r))) ∧ Below w.heap.size w w' := by
  unfold ratioV
  by_cases h : 0 < r
  · have h1 : decide (0 < r) = true := decide_eq_true h
    try rw [h1]
    cases m <;>
    (go_enter Tryd.func31, Tryd.ntmps31
     go_wp2
     go_ret
     exact ⟨rfl, by repeat (first | exact Below.refl _ _ | apply fm_alloc | apply fm_drewN)⟩)
  · have h1 : r = 0 := by omega
    subst h1
    cases m <;>
    (go_enter Tryd.func31, Tryd.ntmps31
     go_wp2
     go_ret
     exact ⟨rfl, by repeat (first | exact Below.refl _ _ | apply fm_alloc | apply fm_drewN)⟩)
set_option maxRecDepth 100000 in
theorem way_floor (q r d : Int) (m : Bool) (w : World) (h0 : 0 ≤ r) :
    Calls Tryd.prog 32 #[ratioV q r d m] w fun e w' => e = .returned (.bool ((decide (0 < r) && m))) ∧ Below w.heap.size w w' := by
  unfold ratioV
  by_cases h : 0 < r
  · have h1 : decide (0 < r) = true := decide_eq_true h
    try rw [h1]
    cases m <;>
    (go_enter Tryd.func32, Tryd.ntmps32
     go_wp2
     go_ret
     exact ⟨rfl, by repeat (first | exact Below.refl _ _ | apply fm_alloc | apply fm_drewN)⟩)
  · have h1 : r = 0 := by omega
    subst h1
    cases m <;>
    (go_enter Tryd.func32, Tryd.ntmps32
     go_wp2
     go_ret
     exact ⟨rfl, by repeat (first | exact Below.refl _ _ | apply fm_alloc | apply fm_drewN)⟩)
set_option maxRecDepth 100000 in
theorem way_ceil (q r d : Int) (m : Bool) (w : World) (h0 : 0 ≤ r) :
    Calls Tryd.prog 33 #[ratioV q r d m] w fun e w' => e = .returned (.bool ((decide (0 < r) && !m))) ∧ Below w.heap.size w w' := by
  unfold ratioV
  by_cases h : 0 < r
  · have h1 : decide (0 < r) = true := decide_eq_true h
    try rw [h1]
    cases m <;>
    (go_enter Tryd.func33, Tryd.ntmps33
     go_wp2
     go_ret
     exact ⟨rfl, by repeat (first | exact Below.refl _ _ | apply fm_alloc | apply fm_drewN)⟩)
  · have h1 : r = 0 := by omega
    subst h1
    cases m <;>
    (go_enter Tryd.func33, Tryd.ntmps33
     go_wp2
     go_ret
     exact ⟨rfl, by repeat (first | exact Below.refl _ _ | apply fm_alloc | apply fm_drewN)⟩)
set_option maxRecDepth 100000 in
theorem way_half (q r d : Int) (m : Bool) (w : World) (h0 : 0 ≤ r) (h1 : r < d) (h2 : d ≤ 9223372036854775807) :
    Calls Tryd.prog 34 #[ratioV q r d m] w fun e w' => e = .returned (.bool (decide (d ≤ 2 * r))) ∧ Below w.heap.size w w' := by
  unfold ratioV
  have e1 : IntKind.u64.wrap (d - r) = d - r := by rw [IntKind.wrap_u64]; omega
  by_cases h : d ≤ 2 * r
  · rw [decide_eq_true h]
    have e2 : d - r ≤ r := by omega
    have e3 : 0 < r := by omega
    clear h
    (go_enter Tryd.func34, Tryd.ntmps34; go_wp2; go_ret; exact ⟨rfl, by repeat (first | exact Below.refl _ _ | apply fm_alloc | apply fm_drewN)⟩)
  · rw [decide_eq_false h]
    have e2 : r < d - r := by omega
    have e3 : decide (d - r ≤ r) = false := decide_eq_false (by omega)
    clear h
    (go_enter Tryd.func34, Tryd.ntmps34; go_wp2; go_ret; exact ⟨rfl, by repeat (first | exact Below.refl _ _ | apply fm_alloc | apply fm_drewN)⟩)
set_option maxRecDepth 100000 in
theorem way_even (q r d : Int) (m : Bool) (w : World) (h0 : 0 ≤ r) (h1 : r < d) (h2 : d ≤ 9223372036854775807) (hq : 0 ≤ q) (hq2 : q ≤ 18446744073709551615) :
    Calls Tryd.prog 35 #[ratioV q r d m] w fun e w' => e = .returned (.bool (decide (d < 2 * r) || (decide (d = 2 * r) && decide (q % 2 = 1)))) ∧ Below w.heap.size w w' := by
  unfold ratioV
  have e1 : IntKind.u64.wrap (d - r) = d - r := by rw [IntKind.wrap_u64]; omega
  by_cases h : d < 2 * r
  · rw [decide_eq_true h, Bool.true_or]
    have e2 : d - r < r := by omega
    clear h
    (go_enter Tryd.func35, Tryd.ntmps35; go_wp2; go_ret; exact ⟨rfl, by repeat (first | exact Below.refl _ _ | apply fm_alloc | apply fm_drewN)⟩)
  · rw [decide_eq_false h, Bool.false_or]
    have e3 : decide (d - r < r) = false := decide_eq_false (by omega)
    by_cases h5 : d = 2 * r
    · rw [decide_eq_true h5, Bool.true_and]
      have e4 : (r == d - r) = true := beq_iff_eq.mpr (by omega)
      by_cases h6 : q % 2 = 1
      · rw [decide_eq_true h6]
        have e5 : q.tmod 2 = 1 := by rw [Int.tmod_eq_emod_of_nonneg hq]; exact h6
        clear h h5 h6
        (go_enter Tryd.func35, Tryd.ntmps35; go_wp2; go_ret; exact ⟨rfl, by repeat (first | exact Below.refl _ _ | apply fm_alloc | apply fm_drewN)⟩)
      · rw [decide_eq_false h6]
        have e5 : q.tmod 2 = 0 := by rw [Int.tmod_eq_emod_of_nonneg hq]; omega
        clear h h5 h6
        (go_enter Tryd.func35, Tryd.ntmps35; go_wp2; go_ret; exact ⟨rfl, by repeat (first | exact Below.refl _ _ | apply fm_alloc | apply fm_drewN)⟩)
    · rw [decide_eq_false h5, Bool.false_and]
      have e4 : (r == d - r) = false := beq_eq_false_iff_ne.mpr (by omega)
      clear h h5
      (go_enter Tryd.func35, Tryd.ntmps35; go_wp2; go_ret; exact ⟨rfl, by repeat (first | exact Below.refl _ _ | apply fm_alloc | apply fm_drewN)⟩)
end Go.Proofs.YtncndmhmmfbklaaDoor

namespace Go.Proofs.YtncndmhmmfbklaaDoor
set_option linter.unusedVariables false
set_option linter.unusedSimpArgs false
open Go.RowKit
open MonMath (dig car bor mc)

def upV (how : Int) (m : Bool) (q r d : Nat) : Bool :=
  bif how == 1 then true else bif how == 2 then m else bif how == 3 then !m else bif how == 4 then !(decide (r + r < d))
  else bif how == 5 then (decide (d < r + r) || (!(decide (r + r < d)) && ((dig q 0 : Int) % 2 == 1))) else false
theorem upV_1 {how : Int} {m : Bool} {q r d : Nat} (h : (how == 1) = true) : true = upV how m q r d := by unfold upV; rw [h]; rfl
theorem upV_2 {how : Int} {m : Bool} {q r d : Nat} (h1 : (how == 1) = false) (h : (how == 2) = true) : m = upV how m q r d := by unfold upV; rw [h1, h]; rfl
theorem upV_3 {how : Int} {m : Bool} {q r d : Nat} (h1 : (how == 1) = false) (h2 : (how == 2) = false) (h : (how == 3) = true) : (!m) = upV how m q r d := by unfold upV; rw [h1, h2, h]; rfl
theorem upV_4 {how : Int} {m : Bool} {q r d : Nat} (h1 : (how == 1) = false) (h2 : (how == 2) = false) (h3 : (how == 3) = false) (h : (how == 4) = true) : (!(decide (r + r < d))) = upV how m q r d := by unfold upV; rw [h1, h2, h3, h]; rfl
theorem upV_5a {how : Int} {m : Bool} {q r d : Nat} (h1 : (how == 1) = false) (h2 : (how == 2) = false) (h3 : (how == 3) = false) (h4 : (how == 4) = false) (h : (how == 5) = true) (ha : r + r ≤ d) (hb : d ≤ r + r) : ((dig q 0 : Int) % 2 == 1) = upV how m q r d := by
  unfold upV; rw [h1, h2, h3, h4, h, decide_eq_false (show ¬ d < r + r by omega), decide_eq_false (show ¬ r + r < d by omega)]; simp
theorem upV_5b {how : Int} {m : Bool} {q r d : Nat} (h1 : (how == 1) = false) (h2 : (how == 2) = false) (h3 : (how == 3) = false) (h4 : (how == 4) = false) (h : (how == 5) = true) (ha : r + r ≤ d) (hb : ¬ d ≤ r + r) : false = upV how m q r d := by
  unfold upV; rw [h1, h2, h3, h4, h, decide_eq_false (show ¬ d < r + r by omega), decide_eq_true (show r + r < d by omega)]; rfl
theorem upV_5c {how : Int} {m : Bool} {q r d : Nat} (h1 : (how == 1) = false) (h2 : (how == 2) = false) (h3 : (how == 3) = false) (h4 : (how == 4) = false) (h : (how == 5) = true) (ha : ¬ r + r ≤ d) : true = upV how m q r d := by
  unfold upV; rw [h1, h2, h3, h4, h, decide_eq_true (show d < r + r by omega)]; rfl
theorem upV_5d {how : Int} {m : Bool} {q r d : Nat} (h1 : (how == 1) = false) (h2 : (how == 2) = false) (h3 : (how == 3) = false) (h4 : (how == 4) = false) (h : (how == 5) = true) : (decide (d < r + r) || (!decide (r + r < d) && ((dig q 0 : Int) % 2 == 1))) = upV how m q r d := by
  unfold upV; rw [h1, h2, h3, h4, h]; rfl
theorem upV_5e {how : Int} {m : Bool} {q r d : Nat} (h1 : (how == 1) = false) (h2 : (how == 2) = false) (h3 : (how == 3) = false) (h4 : (how == 4) = false) (h : (how == 5) = true) (ha : ¬ d ≤ r + r) : decide (d < r + r) = upV how m q r d := by
  unfold upV; rw [h1, h2, h3, h4, h, decide_eq_false (show ¬ d < r + r by omega), decide_eq_true (show r + r < d by omega)]; rfl
theorem upV_6 {how : Int} {m : Bool} {q r d : Nat} (h1 : (how == 1) = false) (h2 : (how == 2) = false) (h3 : (how == 3) = false) (h4 : (how == 4) = false) (h : (how == 5) = false) : false = upV how m q r d := by unfold upV; rw [h1, h2, h3, h4, h]; rfl

end Go.Proofs.YtncndmhmmfbklaaDoor

namespace Go.Proofs.YtncndmhmmfbklaaDoor
set_option linter.unusedVariables false
set_option linter.unusedSimpArgs false
open Go.RowKit
open MonMath (dig car bor mc)

/-- what Over's loop knows of the world -/
structure OvRel (w wr : World) (x y q r : Nat) : Prop where
  bel : Below w.heap.size w wr
  size : w.heap.size + 5 < wr.heap.size
  xc : WAt wr w.heap.size x
  yc : WAt wr (w.heap.size + 1) y
  z2 : WAt wr (w.heap.size + 1 + 1) 0
  z3 : WAt wr (w.heap.size + 1 + 1 + 1) 0
  qc : WAt wr (w.heap.size + 1 + 1 + 1 + 1) q
  rc : WAt wr (w.heap.size + 1 + 1 + 1 + 1 + 1) r
  fz : ∀ b o, w.heap.size ≤ b → b ≤ w.heap.size + 5 → wr.frozen? ⟨b, o, none⟩ = false

def put6W (w2 : World) (B v : Nat) : World := ((((((w2.setCell ⟨B, 0, none⟩ (.int .u64 (dig v 0))).setCell ⟨B, 1, none⟩ (.int .u64 (dig v 1))).setCell ⟨B, 2, none⟩ (.int .u64 (dig v 2))).setCell ⟨B, 3, none⟩ (.int .u64 (dig v 3))).setCell ⟨B, 4, none⟩ (.int .u64 (dig v 4))).setCell ⟨B, 5, none⟩ (.int .u64 (dig v 5)))
theorem OvRel.later {w wr w2 : World} {x y q r : Nat} (h : OvRel w wr x y q r) (hq : Below wr.heap.size wr w2) : OvRel w w2 x y q r where
  bel := fm_call h.bel hq
  size := by have := h.size; have := hq.size; omega
  xc := h.xc.below hq (by have := h.size; omega)
  yc := h.yc.below hq (by have := h.size; omega)
  z2 := h.z2.below hq (by have := h.size; omega)
  z3 := h.z3.below hq (by have := h.size; omega)
  qc := h.qc.below hq (by have := h.size; omega)
  rc := h.rc.below hq (by have := h.size; omega)
  fz := fun b o h1 h2 => by rw [hq.frozen (p := ⟨b, o, none⟩) (show b < wr.heap.size by have := h.size; omega)]; exact h.fz b o h1 h2
theorem OvRel.putR {w w2 : World} {x y q r : Nat} (h : OvRel w w2 x y q r) (r' : Nat) : OvRel w (put6W w2 (w.heap.size + 1 + 1 + 1 + 1 + 1) r') x y q r' where
  bel := bel6 (g := fun j => (dig r' j : Int)) h.bel (by omega)
  size := by have := h.size; show _ < (put6W w2 (w.heap.size + 1 + 1 + 1 + 1 + 1) r').heap.size; unfold put6W; rw [siz6 (g := fun j => (dig r' j : Int))]; omega
  xc := fun j hj => by unfold put6W; rw [far6 (g := fun j => (dig r' j : Int)) (by omega)]; exact h.xc j hj
  yc := fun j hj => by unfold put6W; rw [far6 (g := fun j => (dig r' j : Int)) (by omega)]; exact h.yc j hj
  z2 := fun j hj => by unfold put6W; rw [far6 (g := fun j => (dig r' j : Int)) (by omega)]; exact h.z2 j hj
  z3 := fun j hj => by unfold put6W; rw [far6 (g := fun j => (dig r' j : Int)) (by omega)]; exact h.z3 j hj
  qc := fun j hj => by unfold put6W; rw [far6 (g := fun j => (dig r' j : Int)) (by omega)]; exact h.qc j hj
  rc := put6 (g := fun j => (dig r' j : Int)) (fun j hj => ⟨_, h.rc j hj⟩)
  fz := fun b o h1 h2 => by unfold put6W; rw [frz6 (g := fun j => (dig r' j : Int))]; exact h.fz b o h1 h2
theorem WAt.put {w2 : World} {B v v' k : Nat} {t : Int} (h : WAt w2 B v) (hk : k < 6) (ht : t = (dig v' k : Int)) (he : ∀ l, l ≠ k → dig v' l = dig v l) :
    WAt (w2.drew.setCell ⟨B, k, none⟩ (.int .u64 t)) B v' := fun j hj => by
  have hz := h j hj
  by_cases e : j = k
  · subst e; rw [ht]; simp [go_sem, hz]
  · rw [he j e, ← hz]; simp [go_sem, e, hz]
theorem WAt.far {w2 : World} {B C v k : Nat} {t : Value} (h : WAt w2 C v) (hne : C ≠ B) : WAt (w2.drew.setCell ⟨B, k, none⟩ t) C v := fun j hj => by
  have hz := h j hj
  rw [← hz]
  simp [go_sem, hne]
theorem OvRel.bitR {w w2 : World} {x y q r r' : Nat} {t : Int} (h : OvRel w w2 x y q r) (ht : t = (dig r' 0 : Int)) (he : ∀ l, l ≠ 0 → dig r' l = dig r l) :
    OvRel w (w2.drew.setCell ⟨w.heap.size + 1 + 1 + 1 + 1 + 1, 0, none⟩ (.int .u64 t)) x y q r' where
  bel := h.bel.drew.setCell (by show w.heap.size ≤ w.heap.size + 1 + 1 + 1 + 1 + 1; omega) _
  size := by have := h.size; simpa using this
  xc := h.xc.far (by omega)
  yc := h.yc.far (by omega)
  z2 := h.z2.far (by omega)
  z3 := h.z3.far (by omega)
  qc := h.qc.far (by omega)
  rc := h.rc.put (by omega) ht he
  fz := fun b o h1 h2 => by have := h.fz b o h1 h2; simp [go_sem, this]
theorem OvRel.bitQ {w w2 : World} {x y q q' r k : Nat} {t : Int} (h : OvRel w w2 x y q r) (hk : k < 6) (ht : t = (dig q' k : Int)) (he : ∀ l, l ≠ k → dig q' l = dig q l) :
    OvRel w (w2.drew.setCell ⟨w.heap.size + 1 + 1 + 1 + 1, k, none⟩ (.int .u64 t)) x y q' r where
  bel := h.bel.drew.setCell (by show w.heap.size ≤ w.heap.size + 1 + 1 + 1 + 1; omega) _
  size := by have := h.size; simpa using this
  xc := h.xc.far (by omega)
  yc := h.yc.far (by omega)
  z2 := h.z2.far (by omega)
  z3 := h.z3.far (by omega)
  qc := h.qc.put hk ht he
  rc := h.rc.far (by omega)
  fz := fun b o h1 h2 => by have := h.fz b o h1 h2; simp [go_sem, this]
theorem OvRel.start (w : World) (x y : Nat) (t : TypeId) (a b : Array Value) (ha : a = #[.int .u64 (dig x 0), .int .u64 (dig x 1), .int .u64 (dig x 2), .int .u64 (dig x 3), .int .u64 (dig x 4), .int .u64 (dig x 5)])
    (hb : b = #[.int .u64 (dig y 0), .int .u64 (dig y 1), .int .u64 (dig y 2), .int .u64 (dig y 3), .int .u64 (dig y 4), .int .u64 (dig y 5)]) :
    OvRel w ((((((w.alloc (.cells a t)).alloc (.cells b t)).alloc (.cells #[.int .u64 0, .int .u64 0, .int .u64 0, .int .u64 0, .int .u64 0, .int .u64 0] t)).alloc (.cells #[.int .u64 0, .int .u64 0, .int .u64 0, .int .u64 0, .int .u64 0, .int .u64 0] t)).alloc (.cells #[.int .u64 0, .int .u64 0, .int .u64 0, .int .u64 0, .int .u64 0, .int .u64 0] t)).alloc (.cells #[.int .u64 0, .int .u64 0, .int .u64 0, .int .u64 0, .int .u64 0, .int .u64 0] t)) x y 0 0 where
  bel := fm_alloc (fm_alloc (fm_alloc (fm_alloc (fm_alloc (fm_alloc (Below.refl _ _) _) _) _) _) _) _
  size := by simp
  xc := by subst ha; exact six (by simp [go_sem]) (by simp [go_sem]) (by simp [go_sem]) (by simp [go_sem]) (by simp [go_sem]) (by simp [go_sem])
  yc := by subst hb; exact six (by simp [go_sem]) (by simp [go_sem]) (by simp [go_sem]) (by simp [go_sem]) (by simp [go_sem]) (by simp [go_sem])
  z2 := fun j hj => by rw [MonMath.dig_zero]; revert j hj; exact six (by simp [go_sem]) (by simp [go_sem]) (by simp [go_sem]) (by simp [go_sem]) (by simp [go_sem]) (by simp [go_sem])
  z3 := fun j hj => by rw [MonMath.dig_zero]; revert j hj; exact six (by simp [go_sem]) (by simp [go_sem]) (by simp [go_sem]) (by simp [go_sem]) (by simp [go_sem]) (by simp [go_sem])
  qc := fun j hj => by rw [MonMath.dig_zero]; revert j hj; exact six (by simp [go_sem]) (by simp [go_sem]) (by simp [go_sem]) (by simp [go_sem]) (by simp [go_sem]) (by simp [go_sem])
  rc := fun j hj => by rw [MonMath.dig_zero]; revert j hj; exact six (by simp [go_sem]) (by simp [go_sem]) (by simp [go_sem]) (by simp [go_sem]) (by simp [go_sem]) (by simp [go_sem])
  fz := fun b o h1 h2 => by
    have : b = w.heap.size ∨ b = w.heap.size + 1 ∨ b = w.heap.size + 1 + 1 ∨ b = w.heap.size + 1 + 1 + 1 ∨ b = w.heap.size + 1 + 1 + 1 + 1 ∨ b = w.heap.size + 1 + 1 + 1 + 1 + 1 := by omega
    rcases this with rfl | rfl | rfl | rfl | rfl | rfl <;> simp [go_sem]

end Go.Proofs.YtncndmhmmfbklaaDoor

namespace Go.Proofs.YtncndmhmmfbklaaDoor
set_option linter.unusedVariables false
set_option linter.unusedSimpArgs false
open Go.RowKit
open MonMath (dig car bor mc)

/-- the size of a ratio, rounded -/
def ratQ (p d : Nat) (m : Bool) (how : Int) : Nat := p / d + (if p % d ≠ 0 ∧ upV how m (p / d) (p % d) d = true then 1 else 0)
def ratBad (a n : Int) : Prop := a = -9223372036854775808 ∨ n = -9223372036854775808
instance (a n : Int) : Decidable (ratBad a n) := by unfold ratBad; infer_instance
def ratArg (d how : Int) : Prop := d < 1 ∨ how < 0 ∨ 5 < how
instance (d how : Int) : Decidable (ratArg d how) := by unfold ratArg; infer_instance
/-- what a ratio is, and its error -/
def ratV (a n d how : Int) : Int := if ratArg d how then 0 else if ratBad a n then 0 else
  if ratQ (a.natAbs * n.natAbs) d.natAbs (mneg a n) how < 9223372036854775808 then sg (ratQ (a.natAbs * n.natAbs) d.natAbs (mneg a n) how) (mneg a n) else 0
def ratE (a n d how : Int) : Int := if ratArg d how then 1 else if ratBad a n then 10 else
  if ratQ (a.natAbs * n.natAbs) d.natAbs (mneg a n) how < 9223372036854775808 then 0 else 11
theorem rat_arg {a n d how : Int} (h : ratArg d how) : ratV a n d how = 0 ∧ ratE a n d how = 1 := by unfold ratV ratE; rw [if_pos h, if_pos h]; exact ⟨rfl, rfl⟩
theorem rat_bad {a n d how : Int} (h : ¬ ratArg d how) (k : ratBad a n) : ratV a n d how = 0 ∧ ratE a n d how = 10 := by
  unfold ratV ratE; rw [if_neg h, if_neg h, if_pos k, if_pos k]; exact ⟨rfl, rfl⟩
theorem rat_ok {a n d how : Int} {q : Nat} (h : ¬ ratArg d how) (k : ¬ ratBad a n) (hq : ratQ (a.natAbs * n.natAbs) d.natAbs (mneg a n) how = q) (hl : q < 9223372036854775808) : ratV a n d how = sg q (mneg a n) ∧ ratE a n d how = 0 := by
  unfold ratV ratE; rw [if_neg h, if_neg h, if_neg k, if_neg k, hq, if_pos hl, if_pos hl]; exact ⟨rfl, rfl⟩
theorem rat_over {a n d how : Int} {q : Nat} (h : ¬ ratArg d how) (k : ¬ ratBad a n) (hq : ratQ (a.natAbs * n.natAbs) d.natAbs (mneg a n) how = q) (hl : ¬ q < 9223372036854775808) : ratV a n d how = 0 ∧ ratE a n d how = 11 := by
  unfold ratV ratE; rw [if_neg h, if_neg h, if_neg k, if_neg k, hq, if_neg hl, if_neg hl]; exact ⟨rfl, rfl⟩

end Go.Proofs.YtncndmhmmfbklaaDoor

namespace Go.Proofs.YtncndmhmmfbklaaDoor
set_option linter.unusedVariables false
set_option linter.unusedSimpArgs false
open Go.RowKit
open MonMath (dig car bor mc)

/-- the ways by their numbers -/
theorem way_any (how : Int) (h0 : 0 ≤ how) (h6 : how < 6) (q r d : Nat) (m : Bool) (hr : r < d) (hd : d < 9223372036854775808) (hq : q < 18446744073709551616) :
    ∃ F : Nat, (#[.func (Fn.func 30) #[] #[], .func (Fn.func 31) #[] #[], .func (Fn.func 32) #[] #[], .func (Fn.func 33) #[] #[], .func (Fn.func 34) #[] #[], .func (Fn.func 35) #[] #[]] : Array Value)[how.toNat]? = some (.func (Fn.func F) #[] #[]) ∧ (∀ (args : Array Value) (w : World), (callFunc F args).run Tryd.prog w = .ok (.enter F args) w) ∧ ∀ w, Calls Tryd.prog F #[ratioV q r d m] w fun e w' => e = .returned (.bool (decide (r ≠ 0 ∧ upV how m q r d = true))) ∧ Below w.heap.size w w' := by
  have h : how = 0 ∨ how = 1 ∨ how = 2 ∨ how = 3 ∨ how = 4 ∨ how = 5 := by omega
  have z : decide (0 < (r : Int)) = decide (r ≠ 0) := by
    by_cases c : r = 0
    · rw [decide_eq_false (by omega), decide_eq_false (by omega)]
    · rw [decide_eq_true (by omega), decide_eq_true (by omega)]
  rcases h with rfl | rfl | rfl | rfl | rfl | rfl
  · refine ⟨_, rfl, Go.Proofs.enters_of Tryd.func30 (by kernel_rfl) rfl, fun w => (way_down q r d m w (by omega)).mono fun _ _ ⟨he, hb⟩ => ⟨he.trans (congrArg (fun b => Ending.returned (.bool b)) ?_), hb⟩⟩
    exact (decide_eq_false (fun h => by have := h.2; simp [upV] at this)).symm
  · refine ⟨_, rfl, Go.Proofs.enters_of Tryd.func31 (by kernel_rfl) rfl, fun w => (way_up q r d m w (by omega)).mono fun _ _ ⟨he, hb⟩ => ⟨he.trans (congrArg (fun b => Ending.returned (.bool b)) ?_), hb⟩⟩
    rw [z]; simp [upV]
  · refine ⟨_, rfl, Go.Proofs.enters_of Tryd.func32 (by kernel_rfl) rfl, fun w => (way_floor q r d m w (by omega)).mono fun _ _ ⟨he, hb⟩ => ⟨he.trans (congrArg (fun b => Ending.returned (.bool b)) ?_), hb⟩⟩
    rw [z]; cases m <;> simp [upV]
  · refine ⟨_, rfl, Go.Proofs.enters_of Tryd.func33 (by kernel_rfl) rfl, fun w => (way_ceil q r d m w (by omega)).mono fun _ _ ⟨he, hb⟩ => ⟨he.trans (congrArg (fun b => Ending.returned (.bool b)) ?_), hb⟩⟩
    rw [z]; cases m <;> simp [upV]
  · refine ⟨_, rfl, Go.Proofs.enters_of Tryd.func34 (by kernel_rfl) rfl, fun w => (way_half q r d m w (by omega) (by omega) (by omega)).mono fun _ _ ⟨he, hb⟩ => ⟨he.trans (congrArg (fun b => Ending.returned (.bool b)) ?_), hb⟩⟩
    by_cases c : d ≤ r + r
    · rw [decide_eq_true (by omega), decide_eq_true ⟨by omega, by simp [upV]; omega⟩]
    · rw [decide_eq_false (by omega), decide_eq_false (fun h => by have := h.2; simp [upV] at this; omega)]
  · refine ⟨_, rfl, Go.Proofs.enters_of Tryd.func35 (by kernel_rfl) rfl, fun w => (way_even q r d m w (by omega) (by omega) (by omega) (by omega) (by omega)).mono fun _ _ ⟨he, hb⟩ => ⟨he.trans (congrArg (fun b => Ending.returned (.bool b)) ?_), hb⟩⟩
    have hq0 : ((dig q 0 : Int) % 2 == 1) = decide ((q : Int) % 2 = 1) := by
      have : dig q 0 = q % 4294967296 := by unfold MonMath.dig; rw [Nat.pow_zero, Nat.div_one]
      by_cases c : (q : Int) % 2 = 1
      · rw [decide_eq_true c]; exact beq_iff_eq.2 (by omega)
      · rw [decide_eq_false c]; exact beq_eq_false_iff_ne.2 (by omega)
    by_cases c1 : d < r + r
    · have e1 : decide ((d : Int) < 2 * (r : Int)) = true := decide_eq_true (by omega)
      have : upV 5 m q r d = true := by unfold upV; simp [c1]
      have hz : r ≠ 0 := by omega
      rw [e1, this]; simp [hz]
    · by_cases c2 : d = r + r
      · have e1 : decide ((d : Int) < 2 * (r : Int)) = false := decide_eq_false (by omega)
        have e2 : decide ((d : Int) = 2 * (r : Int)) = true := decide_eq_true (by omega)
        rw [e1, e2, ← hq0]
        have : upV 5 m q r d = ((dig q 0 : Int) % 2 == 1) := by
          unfold upV; rw [decide_eq_false c1, decide_eq_false (show ¬ r + r < d by omega)]; simp
        rw [this]
        have hz : r ≠ 0 := by omega
        simp [hz]
        rfl
      · have e1 : decide ((d : Int) < 2 * (r : Int)) = false := decide_eq_false (by omega)
        have e2 : decide ((d : Int) = 2 * (r : Int)) = false := decide_eq_false (by omega)
        rw [e1, e2]
        have : upV 5 m q r d = false := by
          unfold upV; rw [decide_eq_false c1, decide_eq_true (show r + r < d by omega)]; simp
        rw [this]; simp

set_option maxHeartbeats 4000000 in
set_option maxRecDepth 100000 in
/-- money.Ratio -/
theorem ratio_any (a n d how : Int) (w : World) (ha : -9223372036854775808 ≤ a ∧ a ≤ 9223372036854775807) (hn : -9223372036854775808 ≤ n ∧ n ≤ 9223372036854775807) (hd : -9223372036854775808 ≤ d ∧ d ≤ 9223372036854775807) :
    Calls Tryd.prog 12 #[.int .i64 a, .int .i64 n, .int .i64 d, .int .i64 how] w fun e w' => e = .returned (.tuple #[.int .i64 (ratV a n d how), .int .i64 (ratE a n d how)]) ∧ Below w.heap.size w w' := by
  have hmf : ∀ (fn : Fn) (first cap : Array Value) (w : World), (Instr.makeFunc fn first cap).run Tryd.prog w = .ok (.func fn first cap) w := fun _ _ _ _ => rfl
  by_cases h1 : ratArg d how
  · obtain ⟨e1, e2⟩ := rat_arg (a := a) (n := n) h1
    rw [e1, e2]
    clear e1 e2 ha hn hd
    unfold ratArg at h1
    by_cases c1 : d < 1
    · clear h1
      go_enter Tryd.func12, Tryd.ntmps12
      go_wp2
      go_ret2
      exact ⟨rfl, by repeat (first | exact Below.refl _ _ | apply fm_alloc)⟩
    · by_cases c2 : how < 0
      · clear h1
        go_enter Tryd.func12, Tryd.ntmps12
        go_wp2
        go_ret2
        exact ⟨rfl, by repeat (first | exact Below.refl _ _ | apply fm_alloc)⟩
      · have c3 : 6 ≤ how := by omega
        clear h1
        go_enter Tryd.func12, Tryd.ntmps12
        go_wp2
        go_ret2
        exact ⟨rfl, by repeat (first | exact Below.refl _ _ | apply fm_alloc)⟩
  · have g1 : 1 ≤ d := by unfold ratArg at h1; omega
    have g2 : 0 ≤ how := by unfold ratArg at h1; omega
    have g3 : how < 6 := by unfold ratArg at h1; omega
    by_cases h2 : ratBad a n
    · obtain ⟨e1, e2⟩ := rat_bad h1 h2
      rw [e1, e2]
      clear e1 e2 ha hn hd h1
      have H2 := Lib.hid h2
      clear h2
      go_enter Tryd.func12, Tryd.ntmps12
      go_wp2_with fail
      refine (both_bad _ _ _ H2.out).mono ?_
      rintro e w' ⟨rfl, rfl⟩
      go_wp2
      go_ret2
      exact ⟨rfl, by repeat (first | exact Below.refl _ _ | apply fm_alloc)⟩
    · obtain ⟨V, hV⟩ : ∃ V, ratV a n d how = V := ⟨_, rfl⟩
      obtain ⟨E, hE⟩ : ∃ E, ratE a n d how = E := ⟨_, rfl⟩
      rw [hV, hE]
      have HH := Lib.hid (show ¬ ratArg d how ∧ ¬ ratBad a n ∧ ratV a n d how = V ∧ ratE a n d how = E from ⟨h1, h2, hV, hE⟩)
      have HA := Lib.hid (show a ≠ -9223372036854775808 from fun q => h2 (Or.inl q))
      have HN := Lib.hid (show n ≠ -9223372036854775808 from fun q => h2 (Or.inr q))
      have H1 := Lib.hid ha
      have H2 := Lib.hid hn
      have H3 := Lib.hid hd
      obtain ⟨D, hD⟩ : ∃ D : Nat, d = (D : Int) := ⟨d.toNat, by omega⟩
      subst hD
      have L1 := Lib.hid (show a.natAbs < 18446744073709551616 by omega)
      have L2 := Lib.hid (show n.natAbs < 18446744073709551616 by omega)
      have HD := Lib.hid (show 0 < D ∧ D < 9223372036854775808 by omega)
      obtain ⟨p, hp⟩ : ∃ p, a.natAbs * n.natAbs = p := ⟨_, rfl⟩
      have HP := Lib.hid hp
      clear h1 h2 hV hE ha hn hp
      have hd2 : (D : Int) ≤ 9223372036854775807 := hd.2
      clear hd
      go_enter Tryd.func12, Tryd.ntmps12
      go_wp2_with fail
      refine (both_ok _ _ _ HA.out HN.out).mono ?_
      rintro e w' ⟨rfl, rfl⟩
      go_wp2_with fail
      refine (size_any _ _ H1.out.1 H1.out.2).mono ?_
      rintro e w' ⟨rfl, rfl⟩
      go_wp2_with fail
      refine (size_any _ _ H2.out.1 H2.out.2).mono ?_
      rintro e w' ⟨rfl, rfl⟩
      go_wp2_with fail
      refine (Tryd.bits_Mul64 _ _ L1.out L2.out _).mono ?_
      rintro e w' ⟨rfl, rfl⟩
      rw [HP.out]
      obtain ⟨hi, hhi⟩ : ∃ hi, p / 18446744073709551616 = hi := ⟨_, rfl⟩
      obtain ⟨lo, hlo⟩ : ∃ lo, p % 18446744073709551616 = lo := ⟨_, rfl⟩
      rw [hhi, hlo]
      have HHL := Lib.hid (show hi * 18446744073709551616 + lo = p ∧ lo < 18446744073709551616 by omega)
      clear hhi hlo
      by_cases hc : D ≤ hi
      · have hcb : decide (D ≤ hi) = true := decide_eq_true hc
        have HC := Lib.hid hc
        clear hc
        have hwd : IntKind.u64.wrap (D : Int) = (D : Int) := wrap_u _ (by have := HD.out; omega)
        have F := Lib.hid (show V = 0 ∧ E = 11 from by
          have hov : ¬ ratQ (a.natAbs * n.natAbs) (D : Int).natAbs (mneg a n) how < 9223372036854775808 := by
            rw [HP.out, show (D : Int).natAbs = D from rfl]; unfold ratQ
            have h1 := HC.out; have h2 := HHL.out.1; have h3 := HD.out.1
            have h4 : 18446744073709551616 ≤ p / D := by rw [Nat.le_div_iff_mul_le h3]; have := Nat.mul_le_mul_right 18446744073709551616 h1; omega
            omega
          obtain ⟨e1, e2⟩ := rat_over HH.out.1 HH.out.2.1 rfl hov
          exact ⟨HH.out.2.2.1.symm.trans e1, HH.out.2.2.2.symm.trans e2⟩)
        go_wp2_with fail
        go_ret2
        exact ⟨by rw [F.out.1, F.out.2]; rfl, by repeat (first | exact Below.refl _ _ | apply fm_alloc)⟩
      · have hcb : decide (D ≤ hi) = false := decide_eq_false hc
        have HC := Lib.hid (show hi < D by omega)
        clear hc
        have hwd : IntKind.u64.wrap (D : Int) = (D : Int) := wrap_u _ (by have := HD.out; omega)
        go_wp2_with fail
        refine (div64_any hi lo D _ HC.out HHL.out.2 HD.out.2).mono ?_
        rintro e w1 ⟨rfl, hb1⟩
        rw [HHL.out.1]
        obtain ⟨q, hq⟩ : ∃ q, p / D = q := ⟨_, rfl⟩
        obtain ⟨r, hr⟩ : ∃ r, p % D = r := ⟨_, rfl⟩
        rw [hq, hr]
        have HQR := Lib.hid (And.intro hq hr)
        clear hq hr
        obtain ⟨hc1, hf1⟩ := bcell hb1
        have hz := hb1.size
        simp at hz
        have z0 : w.heap.size < w1.heap.size := by omega
        have z1 : w.heap.size + 1 < w1.heap.size := by omega
        have hql : q < 18446744073709551616 := by
          rw [← HQR.out.1, Nat.div_lt_iff_lt_mul HD.out.1]
          have h1 := HC.out; have h2 := HHL.out
          have := Nat.mul_le_mul_right 18446744073709551616 h1
          rw [Nat.succ_mul] at this
          omega
        have hrl : r < D := by rw [← HQR.out.2]; exact Nat.mod_lt _ HD.out.1
        obtain ⟨FN, hFN, hFE, hFW⟩ := way_any how g2 g3 q r D (mneg a n) hrl HD.out.2 hql
        unfold ratioV at hFW
        have HFW := Lib.hid hFW
        have HQL := Lib.hid hql
        go_upto_region 12 with fail
        have k0 : w1.cell? ⟨w.heap.size + 1, 0, none⟩ = some (.int .u64 0) := by rw [hc1 _ _ (by simp)]; simp [go_sem]
        have k1 : w1.cell? ⟨w.heap.size + 1, 1, none⟩ = some (.int .u64 0) := by rw [hc1 _ _ (by simp)]; simp [go_sem]
        have k2 : w1.cell? ⟨w.heap.size + 1, 2, none⟩ = some (.int .u64 D) := by rw [hc1 _ _ (by simp)]; simp [go_sem]
        have k3 : w1.cell? ⟨w.heap.size + 1, 3, none⟩ = some (.bool (mneg a n)) := by rw [hc1 _ _ (by simp)]; simp [go_sem, mneg]; cases decide (a < 0) <;> cases decide (n < 0) <;> rfl
        have kf : w1.cell? ⟨w.heap.size, how.toNat, none⟩ = some (.func (Fn.func FN) #[] #[]) := by rw [hc1 _ _ (by simp; omega)]; rw [← hFN]; simp [go_sem]
        have kz : ∀ o, w1.frozen? ⟨w.heap.size + 1, o, none⟩ = false := fun o => by rw [hf1 _ _ (by simp)]; simp [go_sem]
        have c0 : ((w1.setCell ⟨w.heap.size + 1, 0, none⟩ (.int .u64 q)).setCell ⟨w.heap.size + 1, 1, none⟩ (.int .u64 r)).cell? ⟨w.heap.size + 1, 0, none⟩ = some (.int .u64 q) := by simp [go_sem, k0, k1]
        have c1 : ((w1.setCell ⟨w.heap.size + 1, 0, none⟩ (.int .u64 q)).setCell ⟨w.heap.size + 1, 1, none⟩ (.int .u64 r)).cell? ⟨w.heap.size + 1, 1, none⟩ = some (.int .u64 r) := by simp [go_sem, k0, k1]
        have c2 : ((w1.setCell ⟨w.heap.size + 1, 0, none⟩ (.int .u64 q)).setCell ⟨w.heap.size + 1, 1, none⟩ (.int .u64 r)).cell? ⟨w.heap.size + 1, 2, none⟩ = some (.int .u64 D) := by simp [go_sem, k2]
        have c3 : ((w1.setCell ⟨w.heap.size + 1, 0, none⟩ (.int .u64 q)).setCell ⟨w.heap.size + 1, 1, none⟩ (.int .u64 r)).cell? ⟨w.heap.size + 1, 3, none⟩ = some (.bool (mneg a n)) := by simp [go_sem, k3]
        have cf : ((w1.setCell ⟨w.heap.size + 1, 0, none⟩ (.int .u64 q)).setCell ⟨w.heap.size + 1, 1, none⟩ (.int .u64 r)).cell? ⟨w.heap.size, how.toNat, none⟩ = some (.func (Fn.func FN) #[] #[]) := by simp [go_sem, kf]
        have cz : ∀ o, ((w1.setCell ⟨w.heap.size + 1, 0, none⟩ (.int .u64 q)).setCell ⟨w.heap.size + 1, 1, none⟩ (.int .u64 r)).frozen? ⟨w.heap.size + 1, o, none⟩ = false := fun o => by simp [go_sem, kz]
        have cs : w.heap.size + 1 < ((w1.setCell ⟨w.heap.size + 1, 0, none⟩ (.int .u64 q)).setCell ⟨w.heap.size + 1, 1, none⟩ (.int .u64 r)).heap.size := by simpa using z1
        have cb : Below w.heap.size w ((w1.setCell ⟨w.heap.size + 1, 0, none⟩ (.int .u64 q)).setCell ⟨w.heap.size + 1, 1, none⟩ (.int .u64 r)) := by
          have h : Below w.heap.size w w1 := fm_call (fm_alloc (fm_alloc (Below.refl _ _) _) _) hb1
          exact (h.setCell (by show w.heap.size ≤ w.heap.size + 1; omega) _).setCell (by show w.heap.size ≤ w.heap.size + 1; omega) _
        generalize ((w1.setCell ⟨w.heap.size + 1, 0, none⟩ (.int .u64 q)).setCell ⟨w.heap.size + 1, 1, none⟩ (.int .u64 r)) = w2 at *
        have CB := Lib.hid cb
        have CS := Lib.hid cs
        have C0 := Lib.hid c0
        have C1 := Lib.hid c1
        have C2 := Lib.hid c2
        have C3 := Lib.hid c3
        have CZ := Lib.hid cz
        clear k0 k1 k2 k3 kf kz hc1 hf1 hz z0 z1 hb1 cb cz cs hFN hFW hql hrl
        have i1 : (how.toNat : Int) = how := by omega
        obtain ⟨U, hU⟩ : ∃ U, decide (r ≠ 0 ∧ upV how (mneg a n) q r D = true) = U := ⟨_, rfl⟩
        rw [hU] at HFW
        have HQ := Lib.hid (show ratQ (a.natAbs * n.natAbs) (D : Int).natAbs (mneg a n) how = q + U.toNat by
          rw [HP.out, show (D : Int).natAbs = D from rfl]; unfold ratQ; rw [HQR.out.1, HQR.out.2]
          cases U
          · rw [if_neg (of_decide_eq_false hU)]; rfl
          · rw [if_pos (of_decide_eq_true hU)]; rfl)
        clear hU
        go_cut [66] (fun s66 wx => s66 = .bool U ∧ Below w2.heap.size w2 wx)
        case first =>
          go_region_with ((with_reducible refine (HFW.out _).mono ?_); rintro e w3 ⟨rfl, hb3⟩)
          all_goals (go_wp2_with fail; go_meet; exact ⟨rfl, by first | assumption | exact fm_call (w1 := w2.drew) (fm_drew (Below.refl _ _)) (by assumption)⟩)
        case rest =>
          obtain ⟨rfl, hb3⟩ := hcut
          obtain ⟨hc3, hf3⟩ := bcell hb3
          have d0 : wc.cell? ⟨w.heap.size + 1, 0, none⟩ = some (.int .u64 q) := by rw [hc3 _ _ CS.out]; exact C0.out
          have d1 : wc.cell? ⟨w.heap.size + 1, 1, none⟩ = some (.int .u64 r) := by rw [hc3 _ _ CS.out]; exact C1.out
          have d3 : wc.cell? ⟨w.heap.size + 1, 3, none⟩ = some (.bool (mneg a n)) := by rw [hc3 _ _ CS.out]; exact C3.out
          have dz : ∀ o, wc.frozen? ⟨w.heap.size + 1, o, none⟩ = false := fun o => by rw [hf3 _ _ CS.out]; exact CZ.out o
          have BW := Lib.hid (fm_call CB.out hb3)
          clear c0 c1 c2 c3 cf hc3 hf3 hb3
          cases U
          · rw [show q + Bool.toNat false = q from rfl] at HQ
            have BX := BW
            by_cases hl : q < 9223372036854775808
            · obtain ⟨e1, e2⟩ := rat_ok HH.out.1 HH.out.2.1 HQ.out hl
              have F := Lib.hid (show V = sg (q) (mneg a n) ∧ E = 0 from ⟨HH.out.2.2.1.symm.trans e1, HH.out.2.2.2.symm.trans e2⟩)
              have HL := Lib.hid (show ((q : Nat) : Int) ≤ 9223372036854775807 by omega)
              clear e1 e2 hl
              go_wp2_with fail
              refine (signed_ok (q) (mneg a n) _ HL.out).mono ?_
              rintro e w' ⟨rfl, rfl⟩
              go_wp2_with fail
              go_ret2
              exact ⟨by rw [F.out.1, F.out.2]; rfl, BX.out⟩
            · obtain ⟨e1, e2⟩ := rat_over HH.out.1 HH.out.2.1 HQ.out hl
              have F := Lib.hid (show V = 0 ∧ E = 11 from ⟨HH.out.2.2.1.symm.trans e1, HH.out.2.2.2.symm.trans e2⟩)
              have HL := Lib.hid (show 9223372036854775807 < ((q : Nat) : Int) by omega)
              clear e1 e2 hl
              go_wp2_with fail
              refine (signed_no (q) (mneg a n) _ HL.out).mono ?_
              rintro e w' ⟨rfl, rfl⟩
              go_wp2_with fail
              go_ret2
              exact ⟨by rw [F.out.1, F.out.2]; rfl, BX.out⟩
          · rw [show q + Bool.toNat true = q + 1 from rfl] at HQ
            have HQL2 := HQL.out
            obtain ⟨t, ht⟩ : ∃ t, q + 1 = t := ⟨_, rfl⟩
            rw [ht] at HQ
            by_cases hmax : t < 18446744073709551616
            · have V1 : IntKind.u64.wrap ((q : Int) + 1) = (t : Int) := by
                rw [show ((q : Int) + 1) = (t : Int) by omega]; exact wrap_u _ hmax
              have V2 : ((t : Int) == 0) = false := beq_eq_false_iff_ne.mpr (by omega)
              have V3 : (t == 0) = false := beq_eq_false_iff_ne.mpr (by omega)
              have BX := Lib.hid (show Below w.heap.size w (wc.setCell ⟨w.heap.size + 1, 0, none⟩ (.int .u64 (t : Int))) from BW.out.setCell (by show w.heap.size ≤ w.heap.size + 1; omega) _)
              clear hmax ht HQL2
              by_cases hl : t < 9223372036854775808
              · obtain ⟨e1, e2⟩ := rat_ok HH.out.1 HH.out.2.1 HQ.out hl
                have F := Lib.hid (show V = sg (t) (mneg a n) ∧ E = 0 from ⟨HH.out.2.2.1.symm.trans e1, HH.out.2.2.2.symm.trans e2⟩)
                have HL := Lib.hid (show ((t : Nat) : Int) ≤ 9223372036854775807 by omega)
                clear e1 e2 hl
                go_wp2_with fail
                refine (signed_ok (t) (mneg a n) _ HL.out).mono ?_
                rintro e w' ⟨rfl, rfl⟩
                go_wp2_with fail
                go_ret2
                exact ⟨by rw [F.out.1, F.out.2]; rfl, BX.out⟩
              · obtain ⟨e1, e2⟩ := rat_over HH.out.1 HH.out.2.1 HQ.out hl
                have F := Lib.hid (show V = 0 ∧ E = 11 from ⟨HH.out.2.2.1.symm.trans e1, HH.out.2.2.2.symm.trans e2⟩)
                have HL := Lib.hid (show 9223372036854775807 < ((t : Nat) : Int) by omega)
                clear e1 e2 hl
                go_wp2_with fail
                refine (signed_no (t) (mneg a n) _ HL.out).mono ?_
                rintro e w' ⟨rfl, rfl⟩
                go_wp2_with fail
                go_ret2
                exact ⟨by rw [F.out.1, F.out.2]; rfl, BX.out⟩
            · have V1 : IntKind.u64.wrap ((q : Int) + 1) = 0 := by
                rw [show ((q : Int) + 1) = 18446744073709551616 by omega]; rfl
              obtain ⟨e1, e2⟩ := rat_over HH.out.1 HH.out.2.1 HQ.out (by omega)
              have F := Lib.hid (show V = 0 ∧ E = 11 from ⟨HH.out.2.2.1.symm.trans e1, HH.out.2.2.2.symm.trans e2⟩)
              clear e1 e2 hmax ht HQL2
              go_wp2_with fail
              go_ret2
              exact ⟨by rw [F.out.1, F.out.2]; rfl, BW.out.setCell (by show w.heap.size ≤ w.heap.size + 1; omega) _⟩
end Go.Proofs.YtncndmhmmfbklaaDoor
