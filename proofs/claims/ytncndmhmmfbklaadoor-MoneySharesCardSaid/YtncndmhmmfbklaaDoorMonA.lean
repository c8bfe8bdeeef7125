/- Contracts of the document's wide numbers: Of, Plus. -/
import Derived.Test.YtncndmhmmfbklaaDoorProg
import Derived.Test.YtncndmhmmfbklaaDoorMonMath
import Derived.Below
import Derived.WalkKit
import Derived.OwnWalk
import Derived.KernelRfl
import Derived.Deep.QuietTactic
import Derived.BigQuiet
import Derived.WalkLawsBesides
import Derived.WalkSpells
import Derived.Outline
import Derived.Lib.Hide
import Derived.StillTailTactics
import Derived.Deep.RegionWith
import Derived.Deep.RegionHeld3
import Derived.Deep.LoopGhost
namespace Go.Proofs.YtncndmhmmfbklaaDoor
set_option linter.unusedVariables false
set_option linter.unusedSimpArgs false
open Go.RowKit
open MonMath (dig car bor)

/-- behind a call that keeps what was there: cells and marks read as before -/
theorem bcell {W w1 : World} (hb : Below W.heap.size W w1) : (∀ b o, b < W.heap.size → w1.cell? ⟨b, o, none⟩ = W.cell? ⟨b, o, none⟩) ∧ (∀ b o, b < W.heap.size → w1.frozen? ⟨b, o, none⟩ = W.frozen? ⟨b, o, none⟩) :=
  ⟨fun b o h => hb.cell (p := ⟨b, o, none⟩) h, fun b o h => hb.frozen (p := ⟨b, o, none⟩) h⟩
theorem fm_alloc {w w' : World} (h : Below w.heap.size w w') (o : Obj) : Below w.heap.size w (w'.alloc o) := h.alloc h.size o
theorem fm_drewN {w w' : World} (h : Below w.heap.size w w') (n : Nat) : Below w.heap.size w (w'.drewN n) := below_drewN h n
theorem fm_drew {w w' : World} (h : Below w.heap.size w w') : Below w.heap.size w w'.drew := h.drew
theorem fm_call {w w1 w2 : World} (h : Below w.heap.size w w1) (k : Below w1.heap.size w1 w2) : Below w.heap.size w w2 := h.trans (k.mono h.size)
theorem ret_int {k : IntKind} {a b : Int} (h : a = b) : Ending.returned (.int k a) = .returned (.int k b) := by rw [h]

/-- a number from 0 on, in six words of 32 bits -/
def wide (v : Nat) : Value := .agg #[.int .u64 (dig v 0), .int .u64 (dig v 1), .int .u64 (dig v 2), .int .u64 (dig v 3), .int .u64 (dig v 4), .int .u64 (dig v 5)]

theorem wide_small {v : Nat} (h : v < 18446744073709551616) {a b : Int} (ha : a = ((v % 4294967296 : Nat) : Int)) (hb : b = ((v / 4294967296 : Nat) : Int)) :
    wide v = .agg #[.int .u64 a, .int .u64 b, .int .u64 0, .int .u64 0, .int .u64 0, .int .u64 0] := by
  obtain ⟨h0, h1, h2, h3, h4, h5⟩ := MonMath.dig_small h
  unfold wide
  rw [h0, h1, h2, h3, h4, h5, ha, hb]
  rfl
theorem wide_zero : wide 0 = .agg #[.int .u64 0, .int .u64 0, .int .u64 0, .int .u64 0, .int .u64 0, .int .u64 0] := by
  unfold wide; simp only [MonMath.dig_zero]; rfl

set_option maxRecDepth 100000 in
set_option maxHeartbeats 1000000 in
/-- daybookref01.Of -/
theorem of_pos (a : Int) (w : World) (h0 : 0 ≤ a) (h1 : a ≤ 9223372036854775807) :
    Calls Tryd.prog 50 #[.int .i64 a] w fun e w' => e = .returned (wide a.natAbs) ∧ Below w.heap.size w w' := by
  rw [wide_small (a := a % 4294967296) (b := a / 4294967296) (by omega) (by omega) (by omega)]
  go_enter Tryd.func50, Tryd.ntmps50
  go_wp2
  refine bodyPost_ret (v := .agg #[.int .u64 (a % 4294967296), .int .u64 (a / 4294967296), .int .u64 0, .int .u64 0, .int .u64 0, .int .u64 0]) ?_ rfl ⟨rfl, ?_⟩
  · simp [results, Tryd.results50, go_sem]
  · exact ((Below.refl _ _).alloc (Nat.le_refl _) _).alloc (by simp) _
set_option maxRecDepth 100000 in
set_option maxHeartbeats 1000000 in
theorem of_neg (b : Int) (w : World) (h0 : 0 < b) (h1 : b ≤ 9223372036854775808) :
    Calls Tryd.prog 50 #[.int .i64 (-b)] w fun e w' => e = .returned (wide (-b).natAbs) ∧ Below w.heap.size w w' := by
  have e1 : IntKind.u64.wrap (-IntKind.u64.wrap (-b)) = b := by simp only [IntKind.wrap, IntKind.bits, IntKind.signed]; simp; omega
  have h2 : -b < 0 := by omega
  rw [wide_small (a := b % 4294967296) (b := b / 4294967296) (by omega) (by omega) (by omega)]
  go_enter Tryd.func50, Tryd.ntmps50
  go_wp2
  refine bodyPost_ret (v := .agg #[.int .u64 (b % 4294967296), .int .u64 (b / 4294967296), .int .u64 0, .int .u64 0, .int .u64 0, .int .u64 0]) ?_ rfl ⟨rfl, ?_⟩
  · simp [results, Tryd.results50, go_sem]
  · exact ((Below.refl _ _).alloc (Nat.le_refl _) _).alloc (by simp) _
theorem of_any (a : Int) (w : World) (h1 : -9223372036854775808 ≤ a) (h2 : a ≤ 9223372036854775807) :
    Calls Tryd.prog 50 #[.int .i64 a] w fun e w' => e = .returned (wide a.natAbs) ∧ Below w.heap.size w w' := by
  by_cases h : a < 0
  · obtain ⟨b, rfl⟩ : ∃ b, a = -b := ⟨-a, by omega⟩
    exact of_neg b w (by omega) (by omega)
  · exact of_pos a w (by omega) h2

/-- a block that holds a wide number -/
def WAt (w : World) (b : Nat) (v : Nat) : Prop := ∀ j, j < 6 → w.cell? ⟨b, j, none⟩ = some (.int .u64 (dig v j))
theorem WAt.below {w w' : World} {B b v : Nat} (h : WAt w b v) (hb : Below B w w') (hB : b < B) : WAt w' b v := fun j hj => by
  rw [hb.cell (p := ⟨b, j, none⟩) hB]; exact h j hj
theorem WAt.drewN {w : World} {b v : Nat} (h : WAt w b v) (n : Nat) : WAt (w.drewN n) b v := h

/-- what Plus's loop knows of the world -/
structure PlusRel (w wr : World) (x y s k : Nat) : Prop where
  bel : Below w.heap.size w wr
  size : wr.heap.size = w.heap.size + 4
  xc : WAt wr w.heap.size x
  yc : WAt wr (w.heap.size + 1) y
  zc : ∀ j, j < 6 → wr.cell? ⟨w.heap.size + 1 + 1 + 1, j, none⟩ = some (.int .u64 ((if j < k then dig s j else 0 : Nat) : Int))
  rc : ∀ j, j < 6 → wr.cell? ⟨w.heap.size + 1 + 1, j, none⟩ = some (.int .u64 0)
  f3 : ∀ o, wr.frozen? ⟨w.heap.size + 1 + 1 + 1, o, none⟩ = false
  f2 : ∀ o, wr.frozen? ⟨w.heap.size + 1 + 1, o, none⟩ = false

theorem six {P : Nat → Prop} (h0 : P 0) (h1 : P 1) (h2 : P 2) (h3 : P 3) (h4 : P 4) (h5 : P 5) : ∀ j, j < 6 → P j := fun j hj => by
  have : j = 0 ∨ j = 1 ∨ j = 2 ∨ j = 3 ∨ j = 4 ∨ j = 5 := by omega
  rcases this with rfl | rfl | rfl | rfl | rfl | rfl <;> assumption

theorem PlusRel.step {w wr : World} {x y s k : Nat} (h : PlusRel w wr x y s k) (hk : k < 6) : PlusRel w (wr.drew.setCell ⟨w.heap.size + 1 + 1 + 1, k, none⟩ (.int .u64 (dig s k))) x y s (k + 1) where
  bel := h.bel.drew.setCell (by show w.heap.size ≤ w.heap.size + 1 + 1 + 1; omega) _
  size := by have := h.size; simp; exact this
  xc := fun j hj => by have := h.xc j hj; simp [go_sem, this]
  yc := fun j hj => by have := h.yc j hj; simp [go_sem, this]
  zc := fun j hj => by
    have := h.zc j hj
    by_cases e : j = k
    · subst e; simp [go_sem, this]
    · have e2 : (if j < k + 1 then dig s j else 0) = (if j < k then dig s j else 0) := by
        by_cases a : j < k
        · rw [if_pos a, if_pos (by omega)]
        · rw [if_neg a, if_neg (by omega)]
      rw [e2, ← this]
      simp [go_sem, e, this]
  rc := fun j hj => by have := h.rc j hj; simp [go_sem, this]
  f3 := fun o => by have := h.f3 o; simp [go_sem, this]
  f2 := fun o => by have := h.f2 o; simp [go_sem, this]

theorem PlusRel.start (w : World) (x y s : Nat) (t : TypeId) (a b : Array Value) (ha : a = #[.int .u64 (dig x 0), .int .u64 (dig x 1), .int .u64 (dig x 2), .int .u64 (dig x 3), .int .u64 (dig x 4), .int .u64 (dig x 5)])
    (hb : b = #[.int .u64 (dig y 0), .int .u64 (dig y 1), .int .u64 (dig y 2), .int .u64 (dig y 3), .int .u64 (dig y 4), .int .u64 (dig y 5)]) :
    PlusRel w ((((w.alloc (.cells a t)).alloc (.cells b t)).alloc (.cells #[.int .u64 0, .int .u64 0, .int .u64 0, .int .u64 0, .int .u64 0, .int .u64 0] t)).alloc (.cells #[.int .u64 0, .int .u64 0, .int .u64 0, .int .u64 0, .int .u64 0, .int .u64 0] t)) x y s 0 where
  bel := fm_alloc (fm_alloc (fm_alloc (fm_alloc (Below.refl _ _) _) _) _) _
  size := by simp
  xc := by
    subst ha
    intro j hj
    have : j = 0 ∨ j = 1 ∨ j = 2 ∨ j = 3 ∨ j = 4 ∨ j = 5 := by omega
    rcases this with rfl | rfl | rfl | rfl | rfl | rfl <;> simp [go_sem]
  yc := by
    subst hb
    intro j hj
    have : j = 0 ∨ j = 1 ∨ j = 2 ∨ j = 3 ∨ j = 4 ∨ j = 5 := by omega
    rcases this with rfl | rfl | rfl | rfl | rfl | rfl <;> simp [go_sem]
  zc := by
    intro j hj
    have : j = 0 ∨ j = 1 ∨ j = 2 ∨ j = 3 ∨ j = 4 ∨ j = 5 := by omega
    rcases this with rfl | rfl | rfl | rfl | rfl | rfl <;> simp [go_sem]
  rc := by
    intro j hj
    have : j = 0 ∨ j = 1 ∨ j = 2 ∨ j = 3 ∨ j = 4 ∨ j = 5 := by omega
    rcases this with rfl | rfl | rfl | rfl | rfl | rfl <;> simp [go_sem]
  f3 := fun o => by simp [go_sem]
  f2 := fun o => by simp [go_sem]

set_option maxRecDepth 100000 in
set_option maxHeartbeats 2000000 in
/-- Wide.Plus -/
theorem plus_any (x y : Nat) (w : World) :
    Calls Tryd.prog 51 #[wide x, wide y] w fun e w' => e = .returned (wide (x + y)) ∧ Below w.heap.size w w' := by
  unfold wide
  go_enter Tryd.func51, Tryd.ntmps51
  go_wp2
  go_loopg [6, 7] 6 (fun g c i wr => ∃ k : Nat, k ≤ 6 ∧ g = 6 - k ∧ i = .int .i64 k ∧ c = .int .u64 (car x y k) ∧ PlusRel w wr x y (x + y) k)
  case atStart =>
    refine ⟨0, by omega, by omega, ?_, ?_, ?_⟩
    · rfl
    · rw [MonMath.car_zero]; rfl
    · exact PlusRel.start w x y (x + y) 79 #[.int .u64 (dig x 0), .int .u64 (dig x 1), .int .u64 (dig x 2), .int .u64 (dig x 3), .int .u64 (dig x 4), .int .u64 (dig x 5)] #[.int .u64 (dig y 0), .int .u64 (dig y 1), .int .u64 (dig y 2), .int .u64 (dig y 3), .int .u64 (dig y 4), .int .u64 (dig y 5)] rfl rfl
  case round =>
    obtain ⟨k, hk, hg, rfl, rfl, hR⟩ := hrel
    have Hg := Lib.hid hg
    clear hg
    by_cases hlt : k < 6
    · have hx := hR.xc k hlt
      have hy := hR.yc k hlt
      obtain ⟨vz, hz⟩ : ∃ vz, wr.cell? ⟨w.heap.size + 1 + 1 + 1, k, none⟩ = some vz := ⟨_, hR.zc k hlt⟩
      have hf := hR.f3
      have HR := Lib.hid hR
      have HS := Lib.hid (MonMath.car_step x y k)
      have d1 := MonMath.dig_lt x k
      have d2 := MonMath.dig_lt y k
      have d3 := MonMath.car_le x y k
      have hk2 : (k : Int) < 6 := by omega
      clear hR
      go_wp2_with fail
      go_still_tail 11, (by kernel_rfl)
      change wpList _ _ _ _ _ wr.drew
      go_wp2
      have hg2 := Hg.out
      go_roundg (6 - (k + 1))
      case measure => omega
      case rel =>
        have e1 : ((car x y k : Int) + (dig x k : Int) + (dig y k : Int)) % 4294967296 = (dig (x + y) k : Int) := by have := HS.out.1; omega
        have e2 : ((car x y k : Int) + (dig x k : Int) + (dig y k : Int)) / 4294967296 = (car x y (k + 1) : Int) := by have := HS.out.2; omega
        refine ⟨k + 1, by omega, rfl, by go_num, by rw [e2], ?_⟩
        rw [e1]
        exact PlusRel.step HR.out hlt
    · obtain rfl : k = 6 := by omega
      have z : ∀ j, j < 6 → wr.cell? ⟨w.heap.size + 1 + 1 + 1, j, none⟩ = some (.int .u64 (dig (x + y) j)) := fun j hj => by have := hR.zc j hj; rw [if_pos hj] at this; exact this
      have z0 := z 0 (by omega)
      have z1 := z 1 (by omega)
      have z2 := z 2 (by omega)
      have z3 := z 3 (by omega)
      have z4 := z 4 (by omega)
      have z5 := z 5 (by omega)
      have r0 := hR.rc 0 (by omega)
      have r1 := hR.rc 1 (by omega)
      have r2 := hR.rc 2 (by omega)
      have r3 := hR.rc 3 (by omega)
      have r4 := hR.rc 4 (by omega)
      have r5 := hR.rc 5 (by omega)
      have hf2 := hR.f2
      have hB := hR.bel
      clear z hR
      go_wp2
      refine bodyPost_ret (v := .agg #[.int .u64 (dig (x + y) 0), .int .u64 (dig (x + y) 1), .int .u64 (dig (x + y) 2), .int .u64 (dig (x + y) 3), .int .u64 (dig (x + y) 4), .int .u64 (dig (x + y) 5)]) ?_ rfl ⟨rfl, ?_⟩
      · simp [results, Tryd.results51, go_sem, r0, r1, r2, r3, r4, r5]
      · repeat (first | (with_reducible exact hB) | (with_reducible refine Below.setCell ?_ ?_ _; rotate_left; · show w.heap.size ≤ w.heap.size + 1 + 1; omega))
end Go.Proofs.YtncndmhmmfbklaaDoor
