/- slices.SortStableFunc at three equal keys: nothing moves. -/
import Derived.Test.YtncndmhmmfbklaaDoorProg
import Derived.Test.YtncndmhmmfbklaaDoorWWords
import Derived.WalkKit
import Derived.ProofKit
import Derived.Below
import Derived.LoopN
import Derived.Deep.QuietTactic
import Derived.BigQuiet
import Derived.IntWalk
import Derived.Lib.Hide
import Derived.Test.YtncndmhmmfbklaaDoorMonJ
import Derived.Test.YtncndmhmmfbklaaDoorMonG
import Derived.Laws.MakeOwn
import Derived.Test.YtncndmhmmfbklaaDoorMonL
import Derived.Test.YtncndmhmmfbklaaDoorPrW
import Derived.Outline
namespace Go.Proofs.YtncndmhmmfbklaaDoor.X
set_option linter.unusedVariables false
set_option linter.unusedSimpArgs false
open Go.RowKit Go.Proofs.YtncndmhmmfbklaaDoorW.PrintWords
theorem nan_any (x : Int) (w : World) : Calls Tryd.prog 62 #[.int .u64 x] w fun e w' => e = .returned (.bool false) ∧ w = w' := by
  go_enter Tryd.func62, Tryd.ntmps62
  go_wp2
  go_ret
  exact ⟨by simp, rfl⟩
theorem cmp_same (x : Int) (w : World) : Calls Tryd.prog 42 #[.int .u64 x, .int .u64 x] w fun e w' => e = .returned (.int .i64 0) ∧ w = w' := by
  go_enter Tryd.func42, Tryd.ntmps42
  go_wp2_with fail
  refine (nan_any x w).mono ?_
  rintro e w' ⟨rfl, rfl⟩
  go_wp2_with fail
  refine (nan_any x w).mono ?_
  rintro e w' ⟨rfl, rfl⟩
  go_wp2_with fail
  go_ret
  exact ⟨rfl, rfl⟩
/-- the rests: three ones, behind the captured variable -/
structure Rests (rp rb : Nat) (w : World) : Prop where
  box : w.cell? ⟨rp, 0, none⟩ = some (.slice (some ⟨rb, 0, none⟩) 3 3)
  c0 : w.cell? ⟨rb, 0, none⟩ = some (.int .u64 1)
  c1 : w.cell? ⟨rb, 1, none⟩ = some (.int .u64 1)
  c2 : w.cell? ⟨rb, 2, none⟩ = some (.int .u64 1)
theorem clos_any (i j : Nat) (hi : i < 3) (hj : j < 3) (rp rb : Nat) (w : World) (h : Rests rp rb w) (n : Nat) :
    Calls Tryd.prog 41 #[.int .i64 (i : Int), .int .i64 (j : Int), .pointer (some ⟨rp, 0, none⟩)] (w.drewN n) fun e w' => e = .returned (.int .i64 0) ∧ ∃ m, w' = w.drewN m := by
  obtain ⟨hb, h0, h1, h2⟩ := h
  have ci : w.cell? ⟨rb, i, none⟩ = some (.int .u64 1) := by
    have : i = 0 ∨ i = 1 ∨ i = 2 := by omega
    rcases this with rfl | rfl | rfl <;> assumption
  have cj : w.cell? ⟨rb, j, none⟩ = some (.int .u64 1) := by
    have : j = 0 ∨ j = 1 ∨ j = 2 := by omega
    rcases this with rfl | rfl | rfl <;> assumption
  have k1 : ((i : Int) < 3) = True := eq_true (by omega)
  have k2 : ((j : Int) < 3) = True := eq_true (by omega)
  have HC := Lib.hid (fun w => cmp_same 1 w)
  clear h0 h1 h2
  have hbn : (w.drewN n).cell? ⟨rp, 0, none⟩ = some (.slice (some ⟨rb, 0, none⟩) 3 3) := hb
  have cin : (w.drewN n).cell? ⟨rb, i, none⟩ = some (.int .u64 1) := ci
  have cjn : (w.drewN n).cell? ⟨rb, j, none⟩ = some (.int .u64 1) := cj
  generalize hW : w.drewN n = W at hbn cin cjn ⊢
  have HW := Lib.hid hW
  clear hW hb ci cj
  go_enter Tryd.func41, Tryd.ntmps41
  go_upto_region 1 with fail
  go_quiet (exact Calls.quiet_of_same ((HC.out _).mono fun e w' ⟨he, hw⟩ => ⟨he, hw.symm⟩))
  go_wp2_with fail
  go_ret
  exact ⟨rfl, n + nq, by rw [← HW.out, World.drewN_drewN]⟩
abbrev closV (rp : Nat) : Value := .func (.func 41) #[] #[.pointer (some ⟨rp, 0, none⟩)]
/-- the order: 0, 1, 2 -/
structure Ord3 (ob : Nat) (w : World) : Prop where
  c0 : w.cell? ⟨ob, 0, none⟩ = some (.int .i64 0)
  c1 : w.cell? ⟨ob, 1, none⟩ = some (.int .i64 1)
  c2 : w.cell? ⟨ob, 2, none⟩ = some (.int .i64 2)
theorem Rests.drew {rp rb : Nat} {w : World} (h : Rests rp rb w) (n : Nat) : Rests rp rb (w.drewN n) := ⟨h.1, h.2, h.3, h.4⟩
theorem Ord3.drew {ob : Nat} {w : World} (h : Ord3 ob w) (n : Nat) : Ord3 ob (w.drewN n) := ⟨h.1, h.2, h.3⟩
set_option maxHeartbeats 4000000 in
set_option maxRecDepth 100000 in
theorem insertion3 (ob rp rb : Nat) (w : World) (h : Rests rp rb w) (ho : Ord3 ob w) :
    Calls Tryd.prog 80 #[.slice (some ⟨ob, 0, none⟩) 3 3, .int .i64 0, .int .i64 3, closV rp] w fun e w' => e = .returned (.tuple #[]) ∧ ∃ m, w' = w.drewN m := by
  obtain ⟨o0, o1, o2⟩ := ho
  have HC := Lib.hid (fun i j hi hj n => clos_any i j hi hj rp rb w h n)
  have HR := Lib.hid (fun k => h.drew k)
  clear h
  go_enter Tryd.func80, Tryd.ntmps80
  go_wp2_with fail
  refine wp_loop_rounds 3 ?_
  rw [rounds_succ]
  go_upto_region 4 with fail
  refine wp_loop_rounds 1 ?_
  rw [rounds_succ]
  go_upto_region 4 with fail
  go_quiet (exact HC.out 1 0 (by decide) (by decide) _)
  have o0' : (w.drewN nq).cell? ⟨ob, 0, none⟩ = some (.int .i64 0) := o0
  have o1' : (w.drewN nq).cell? ⟨ob, 1, none⟩ = some (.int .i64 1) := o1
  have o2' : (w.drewN nq).cell? ⟨ob, 2, none⟩ = some (.int .i64 2) := o2
  have HD := Lib.hid (fun i j hi hj n => clos_any i j hi hj rp rb (w.drewN nq) (HR.out nq) n)
  clear HR HC o0 o1 o2
  generalize hW : w.drewN nq = W at HD o0' o1' o2' ⊢
  have HW := Lib.hid hW
  clear hW
  go_wp2_with fail
  rw [rounds_succ]
  go_upto_region 4 with fail
  refine wp_loop_rounds 1 ?_
  rw [rounds_succ]
  go_upto_region 4 with fail
  have w1 : IntKind.i64.wrap 1 = 1 := by decide
  refine wp_region_quiet_lit (by kernel_rfl) (by kernel_rfl) ?_
  repeat (quiet_step (exact HD.out 2 1 (by decide) (by decide) _))
  refine wpQuiet_nil ?_
  intro _ hw'
  obtain ⟨nq', hw''⟩ := hw'
  subst hw''
  go_wp2_with fail
  rw [rounds_succ]
  go_wp2_with fail
  go_end0
  exact ⟨rfl, nq + nq', by rw [← HW.out, World.drewN_drewN]⟩
set_option maxHeartbeats 4000000 in
set_option maxRecDepth 100000 in
theorem stable3 (ob rp rb : Nat) (w : World) (h : Rests rp rb w) (ho : Ord3 ob w) :
    Calls Tryd.prog 61 #[.slice (some ⟨ob, 0, none⟩) 3 3, .int .i64 3, closV rp] w fun e w' => e = .returned (.tuple #[]) ∧ ∃ m, w' = w.drewN m := by
  have HI := Lib.hid (insertion3 ob rp rb w h ho)
  clear h ho
  go_enter Tryd.func61, Tryd.ntmps61
  go_wp2_with fail
  refine wp_loop_rounds 1 ?_
  rw [rounds_succ]
  go_wp2_with fail
  refine HI.out.mono ?_
  rintro e w' ⟨rfl, m, rfl⟩
  go_wp2_with fail
  refine wp_loop_rounds 1 ?_
  rw [rounds_succ]
  go_wp2_with fail
  go_end0
  exact ⟨rfl, m, rfl⟩
set_option maxHeartbeats 4000000 in
set_option maxRecDepth 100000 in
theorem sort3 (ob rp rb : Nat) (w : World) (h : Rests rp rb w) (ho : Ord3 ob w) :
    Calls Tryd.prog 40 #[.slice (some ⟨ob, 0, none⟩) 3 3, closV rp] w fun e w' => e = .returned (.tuple #[]) ∧ ∃ m, w' = w.drewN m := by
  have HI := Lib.hid (stable3 ob rp rb w h ho)
  clear h ho
  go_enter Tryd.func40, Tryd.ntmps40
  go_wp2_with fail
  refine HI.out.mono ?_
  rintro e w' ⟨rfl, m, rfl⟩
  go_wp2_with fail
  go_end0
  exact ⟨rfl, m, rfl⟩
end Go.Proofs.YtncndmhmmfbklaaDoor.X

namespace Go.Proofs.YtncndmhmmfbklaaDoor.X
set_option linter.unusedVariables false
set_option linter.unusedSimpArgs false
open Go.RowKit Go.Proofs.YtncndmhmmfbklaaDoorW.PrintWords
theorem mk3 (T e : Nat) (k : IntKind) (hT : Tryd.prog.underlying T = some (TypeDesc.slice e)) (hz : (Tryd.prog.info? e).map (fun i => (i.zero, i.size, i.bytes)) = some (some (.int k 0), 1, 8)) : ∀ w : World, (Instr.makeSlice T (.int .i64 3) (.int .i64 3)).run Tryd.prog w = .ok (.slice (some ⟨w.heap.size, 0, none⟩) 3 3) (w.alloc (.cells #[.int k 0, .int k 0, .int k 0] e)) := by
  intro w
  obtain ⟨i, hi, hzz⟩ := Option.map_eq_some_iff.1 hz
  simp only [Prod.mk.injEq] at hzz
  obtain ⟨hz0, hz1, hz2⟩ := hzz
  have := run_make (P := Tryd.prog) w T e i (.int k 0) hT hi hz0 .i64 .i64 3 3 (by omega) (by omega) (by rw [hz2]; omega) (by omega)
  refine this.trans ?_
  rw [hz1]
  have : madeCells (Value.int k 0).cells ((3:Int).toNat * 1) = #[.int k 0, .int k 0, .int k 0] := by first | rfl | kernel_rfl | (simp [madeCells, Value.cells]; rfl)
  exact congrArg (fun c => Result.ok (Value.slice (some { block := w.heap.size, off := 0 }) 3 3) (w.alloc (Obj.cells c e))) this
/-- the state of Split's second loop -/
structure SpSt (H b : Nat) (w0 : World) (p r o : Nat → Int) (W : World) : Prop where
  below : Below H w0 W
  size : H + 4 ≤ W.heap.size
  weights : ∀ i < 3, W.cell? ⟨b, i, none⟩ = some (.int .i64 1)
  box : W.cell? ⟨H + 2, 0, none⟩ = some (.slice (some ⟨H + 1, 0, none⟩) 3 3)
  parts : ∀ i < 3, W.cell? ⟨H, i, none⟩ = some (.int .i64 (p i))
  rests : ∀ i < 3, W.cell? ⟨H + 1, i, none⟩ = some (.int .u64 (r i))
  order : ∀ i < 3, W.cell? ⟨H + 3, i, none⟩ = some (.int .i64 (o i))
  frp : ∀ i < 3, W.frozen? ⟨H, i, none⟩ = false
  frr : ∀ i < 3, W.frozen? ⟨H + 1, i, none⟩ = false
  fro : ∀ i < 3, W.frozen? ⟨H + 3, i, none⟩ = false
theorem cell_lt {w : World} {b i : Nat} {v : Value} (h : w.cell? ⟨b, i, none⟩ = some v) : b < w.heap.size := by
  by_cases hb : b < w.heap.size
  · exact hb
  · exfalso
    have : w.heap[b]? = none := by simp; omega
    simp [World.cell?, this] at h
theorem three {P : Nat → Prop} (h0 : P 0) (h1 : P 1) (h2 : P 2) : ∀ i < 3, P i := by
  intro i hi
  have : i = 0 ∨ i = 1 ∨ i = 2 := by omega
  rcases this with rfl | rfl | rfl <;> assumption
theorem spst_made (b : Nat) (w : World) (h0 : w.cell? ⟨b, 0, none⟩ = some (.int .i64 1)) (h1 : w.cell? ⟨b, 1, none⟩ = some (.int .i64 1)) (h2 : w.cell? ⟨b, 2, none⟩ = some (.int .i64 1)) :
    SpSt w.heap.size b w (fun _ => 0) (fun _ => 0) (fun _ => 0) ((((w.alloc (Obj.cells #[.int .i64 0, .int .i64 0, .int .i64 0] 2)).alloc (Obj.cells #[.int .u64 0, .int .u64 0, .int .u64 0] 46)).alloc (Obj.cells #[.slice (some { block := w.heap.size + 1, off := 0 }) 3 3] 61)).alloc (Obj.cells #[.int .i64 0, .int .i64 0, .int .i64 0] 3)) := by
  have hb := cell_lt h0
  have hB : Below w.heap.size w ((((w.alloc (Obj.cells #[.int .i64 0, .int .i64 0, .int .i64 0] 2)).alloc (Obj.cells #[.int .u64 0, .int .u64 0, .int .u64 0] 46)).alloc (Obj.cells #[.slice (some { block := w.heap.size + 1, off := 0 }) 3 3] 61)).alloc (Obj.cells #[.int .i64 0, .int .i64 0, .int .i64 0] 3)) :=
    ((((Below.refl _ _).alloc (by simp) _).alloc (by simp) _).alloc (by simp; try omega) _).alloc (by simp; try omega) _
  refine ⟨hB, by simp, ?_, ?_, ?_, ?_, ?_, ?_, ?_, ?_⟩
  · exact three ((hB.cell (p := ⟨b, 0, none⟩) hb).trans h0) ((hB.cell (p := ⟨b, 1, none⟩) hb).trans h1) ((hB.cell (p := ⟨b, 2, none⟩) hb).trans h2)
  · rw [World.cell?_alloc_past _ _ _ (by simp), World.cell?_alloc_at _ _ _ _ (by simp)]; rfl
  · refine three ?_ ?_ ?_ <;> (rw [World.cell?_alloc_past _ _ _ (by simp; try omega), World.cell?_alloc_past _ _ _ (by simp; try omega), World.cell?_alloc_past _ _ _ (by simp), World.cell?_alloc_at _ _ _ _ (by simp)]; rfl)
  · refine three ?_ ?_ ?_ <;> (rw [World.cell?_alloc_past _ _ _ (by simp; try omega), World.cell?_alloc_past _ _ _ (by simp), World.cell?_alloc_at _ _ _ _ (by simp)]; rfl)
  · refine three ?_ ?_ ?_ <;> (rw [World.cell?_alloc_at _ _ _ _ (by simp)]; rfl)
  · refine three ?_ ?_ ?_ <;> (rw [World.frozen?_alloc_past _ _ _ (by simp; try omega), World.frozen?_alloc_past _ _ _ (by simp; try omega), World.frozen?_alloc_past _ _ _ (by simp; try omega), World.frozen?_alloc_at _ _ _ _ (by simp)])
  · refine three ?_ ?_ ?_ <;> (rw [World.frozen?_alloc_past _ _ _ (by simp; try omega), World.frozen?_alloc_past _ _ _ (by simp; try omega), World.frozen?_alloc_at _ _ _ _ (by simp)])
  · refine three ?_ ?_ ?_ <;> (rw [World.frozen?_alloc_at _ _ _ _ (by simp)])
theorem SpSt.stored {H b : Nat} {w0 W : World} {p r o : Nat → Int} (h : SpSt H b w0 p r o W) (hb : b < H) (j : Nat) (hj : j < 3) (x y z : Int) :
    SpSt H b w0 (fun i => if i = j then x else p i) (fun i => if i = j then y else r i) (fun i => if i = j then z else o i)
      (((W.setCell ⟨H, j, none⟩ (.int .i64 x)).setCell ⟨H + 1, j, none⟩ (.int .u64 y)).setCell ⟨H + 3, j, none⟩ (.int .i64 z)).drew := by
  obtain ⟨hB, hz, hw, hx, hp, hr, ho, fp, fr, fo⟩ := h
  have oth : ∀ (w : World) (a q : Addr) (u : Value), q.block ≠ a.block → (w.setCell a u).cell? q = w.cell? q := fun w a q u hq => World.cell?_of_block (w := w) (Below.heap_setCell w a u q.block hq)
  have dr : ∀ (w : World) (q : Addr), w.drew.cell? q = w.cell? q := fun _ _ => rfl
  refine ⟨(((hB.setCell (by simp) _).setCell (by simp) _).setCell (by simp) _).drew, ?_, ?_, ?_, ?_, ?_, ?_, ?_, ?_, ?_⟩
  · simpa [World.setCell, World.drew] using hz
  · intro i hi
    rw [dr, oth _ _ _ _ (by show b ≠ H + 3; omega), oth _ _ _ _ (by show b ≠ H + 1; omega), oth _ _ _ _ (by show b ≠ H; omega)]
    exact hw i hi
  · rw [dr, oth _ _ _ _ (by show H + 2 ≠ H + 3; omega), oth _ _ _ _ (by show H + 2 ≠ H + 1; omega), oth _ _ _ _ (by show H + 2 ≠ H; omega)]
    exact hx
  · intro i hi
    rw [dr, oth _ _ _ _ (by show H ≠ H + 3; omega), oth _ _ _ _ (by show H ≠ H + 1; omega)]
    by_cases e : i = j
    · subst e; rw [if_pos rfl]; exact World.cell?_setCell_same _ _ _ (hp i hi)
    · rw [if_neg e]; exact (World.cell?_setCell_other _ _ _ _ (by intro q; injection q; omega)).trans (hp i hi)
  · intro i hi
    rw [dr, oth _ _ _ _ (by show H + 1 ≠ H + 3; omega)]
    have hri := (oth W ⟨H, j, none⟩ ⟨H + 1, i, none⟩ (.int .i64 x) (by show H + 1 ≠ H; omega)).trans (hr i hi)
    by_cases e : i = j
    · subst e; rw [if_pos rfl]; exact World.cell?_setCell_same _ _ _ hri
    · rw [if_neg e]; exact (World.cell?_setCell_other _ _ _ _ (by intro q; injection q; omega)).trans hri
  · intro i hi
    rw [dr]
    have hoi := (oth (W.setCell ⟨H, j, none⟩ (.int .i64 x)) ⟨H + 1, j, none⟩ ⟨H + 3, i, none⟩ (.int .u64 y) (by show H + 3 ≠ H + 1; omega)).trans ((oth W ⟨H, j, none⟩ ⟨H + 3, i, none⟩ (.int .i64 x) (by show H + 3 ≠ H; omega)).trans (ho i hi))
    by_cases e : i = j
    · subst e; rw [if_pos rfl]; exact World.cell?_setCell_same _ _ _ hoi
    · rw [if_neg e]; exact (World.cell?_setCell_other _ _ _ _ (by intro q; injection q; omega)).trans hoi
  · intro i hi; simpa using fp i hi
  · intro i hi; simpa using fr i hi
  · intro i hi; simpa using fo i hi
theorem SpSt.over {H b : Nat} {w0 W W' : World} {p r o : Nat → Int} (h : SpSt H b w0 p r o W) (k : Below W.heap.size W W') : SpSt H b w0 p r o W' := by
  obtain ⟨hB, hz, hw, hx, hp, hr, ho, fp, fr, fo⟩ := h
  have hb := cell_lt (hw 0 (by omega))
  exact ⟨hB.trans (k.mono (by omega)), by have := k.size; omega,
     fun i hi => (k.cell (p := ⟨b, i, none⟩) hb).trans (hw i hi),
     (k.cell (p := ⟨H + 2, 0, none⟩) (by show H + 2 < _; omega)).trans hx,
     fun i hi => (k.cell (p := ⟨H, i, none⟩) (by show H < _; omega)).trans (hp i hi),
     fun i hi => (k.cell (p := ⟨H + 1, i, none⟩) (by show H + 1 < _; omega)).trans (hr i hi),
     fun i hi => (k.cell (p := ⟨H + 3, i, none⟩) (by show H + 3 < _; omega)).trans (ho i hi),
     fun i hi => (k.frozen (p := ⟨H, i, none⟩) (by show H < _; omega)).trans (fp i hi),
     fun i hi => (k.frozen (p := ⟨H + 1, i, none⟩) (by show H + 1 < _; omega)).trans (fr i hi),
     fun i hi => (k.frozen (p := ⟨H + 3, i, none⟩) (by show H + 3 < _; omega)).trans (fo i hi)⟩
set_option maxHeartbeats 4000000 in
set_option maxRecDepth 100000 in
theorem split_first (b : Nat) (w : World) (h0 : w.cell? ⟨b, 0, none⟩ = some (.int .i64 1)) (h1 : w.cell? ⟨b, 1, none⟩ = some (.int .i64 1)) (h2 : w.cell? ⟨b, 2, none⟩ = some (.int .i64 1)) :
    Calls Tryd.prog 14 #[.int .i64 100, .slice (some ⟨b, 0, none⟩) 3 3] w fun e w' => e = .returned (.tuple #[.slice (some ⟨w.heap.size, 0, none⟩) 3 3, .int .i64 0]) ∧ Below w.heap.size w w' ∧ w'.cell? ⟨w.heap.size, 0, none⟩ = some (.int .i64 34) ∧ w'.cell? ⟨w.heap.size, 1, none⟩ = some (.int .i64 33) ∧ w'.cell? ⟨w.heap.size, 2, none⟩ = some (.int .i64 33) := by
  have m33 := mk3 33 2 .i64 Tryd.underlying33 (by kernel_rfl)
  have m61 := mk3 61 46 .u64 Tryd.underlying61 (by kernel_rfl)
  have m62 := mk3 62 3 .i64 Tryd.underlying62 (by kernel_rfl)
  go_enter Tryd.func14, Tryd.ntmps14
  go_wp2_with fail
  refine wp_loop_rounds 4 ?_
  rw [rounds_succ]
  go_wp2_with fail
  rw [rounds_succ]
  go_wp2_with fail
  rw [rounds_succ]
  go_wp2_with fail
  rw [rounds_succ]
  go_wp2_with fail
  have HS := Lib.hid (fun w => size_any 100 w (by omega) (by omega))
  refine (HS.out _).mono ?_
  rintro e w' ⟨rfl, rfl⟩
  go_wp2_with fail
  have hS := spst_made b w h0 h1 h2
  generalize ((((w.alloc (Obj.cells #[.int .i64 0, .int .i64 0, .int .i64 0] 2)).alloc (Obj.cells #[.int .u64 0, .int .u64 0, .int .u64 0] 46)).alloc (Obj.cells #[.slice (some { block := w.heap.size + 1, off := 0 }) 3 3] 61)).alloc (Obj.cells #[.int .i64 0, .int .i64 0, .int .i64 0] 3)) = W at hS ⊢
  have hbH := cell_lt h0
  obtain ⟨H, hH⟩ : ∃ H, w.heap.size = H := ⟨_, rfl⟩
  rw [hH] at hS hbH ⊢
  have HHH := Lib.hid hH
  clear hH
  obtain ⟨hB, hz, hw, hx, hp, hr, ho, fp, fr, fo⟩ := hS
  have hw0 := hw 0 (by omega)
  have hw1 := hw 1 (by omega)
  have hw2 := hw 2 (by omega)
  refine wp_loop_rounds 4 ?_
  rw [rounds_succ]
  go_upto_region 24 with fail
  clear m33 m61 m62
  refine (HS.out _).mono ?_
  rintro e w' ⟨rfl, rfl⟩
  go_upto_region 24 with fail
  have HM := Lib.hid (fun w => Tryd.bits_Mul64 100 1 (by omega) (by omega) w)
  have HD := Lib.hid (fun w => div64_any 0 100 3 w (by omega) (by omega) (by omega))
  refine (HM.out _).mono ?_
  rintro e w' ⟨rfl, rfl⟩
  go_upto_region 24 with fail
  have hbl := hw 0 (by omega)
  have hb := cell_lt hbl
  refine (HD.out _).mono ?_
  rintro e w1 ⟨rfl, hb1⟩
  have hS1 : SpSt H b w (fun _ => 0) (fun _ => 0) (fun _ => 0) w1 :=
    ⟨hB.trans (hb1.mono (by omega)), by have := hb1.size; omega,
     fun i hi => (hb1.cell (p := ⟨b, i, none⟩) hb).trans (hw i hi),
     (hb1.cell (p := ⟨H + 2, 0, none⟩) (by show H + 2 < _; omega)).trans hx,
     fun i hi => (hb1.cell (p := ⟨H, i, none⟩) (by show H < _; omega)).trans (hp i hi),
     fun i hi => (hb1.cell (p := ⟨H + 1, i, none⟩) (by show H + 1 < _; omega)).trans (hr i hi),
     fun i hi => (hb1.cell (p := ⟨H + 3, i, none⟩) (by show H + 3 < _; omega)).trans (ho i hi),
     fun i hi => (hb1.frozen (p := ⟨H, i, none⟩) (by show H < _; omega)).trans (fp i hi),
     fun i hi => (hb1.frozen (p := ⟨H + 1, i, none⟩) (by show H + 1 < _; omega)).trans (fr i hi),
     fun i hi => (hb1.frozen (p := ⟨H + 3, i, none⟩) (by show H + 3 < _; omega)).trans (fo i hi)⟩
  clear hB hz hw hx hp hr ho fp fr fo hw0 hw1 hw2 hb1
  obtain ⟨hB, hz, hw, hx, hp, hr, ho, fp, fr, fo⟩ := hS1
  have p0 := hp 0 (by omega)
  have r0 := hr 0 (by omega)
  have o0 := ho 0 (by omega)
  have p0f := fp 0 (by omega)
  have r0f := fr 0 (by omega)
  have o0f := fo 0 (by omega)
  have w33 : IntKind.i64.wrap 33 = 33 := by decide
  go_upto_region 24 with fail
  go_region
  have hS2 := SpSt.stored ⟨hB, hz, hw, hx, hp, hr, ho, fp, fr, fo⟩ hbH 0 (by omega) 33 1 0
  rw [show H + 3 = H + 1 + 1 + 1 from rfl] at hS2
  generalize (((w1.setCell ⟨H, 0, none⟩ (.int .i64 33)).setCell ⟨H + 1, 0, none⟩ (.int .u64 1)).setCell ⟨H + 1 + 1 + 1, 0, none⟩ (.int .i64 0)).drew = w2 at hS2 ⊢
  clear hB hz hw hx hp hr ho fp fr fo p0 r0 o0 p0f r0f o0f
  obtain ⟨hB, hz, hw, hx, hp, hr, ho, fp, fr, fo⟩ := hS2
  have hw1 := hw 1 (by omega)
  go_wp2_with fail
  rw [rounds_succ]
  go_upto_region 24 with fail
  refine (HS.out _).mono ?_
  rintro e w' ⟨rfl, rfl⟩
  go_upto_region 24 with fail
  refine (HM.out _).mono ?_
  rintro e w' ⟨rfl, rfl⟩
  go_upto_region 24 with fail
  have hbl := hw 0 (by omega)
  have hb := cell_lt hbl
  refine (HD.out _).mono ?_
  rintro e w1 ⟨rfl, hb1⟩
  have hS1 := SpSt.over ⟨hB, hz, hw, hx, hp, hr, ho, fp, fr, fo⟩ hb1
  clear hB hz hw hx hp hr ho fp fr fo hw1 hb1
  obtain ⟨hB, hz, hw, hx, hp, hr, ho, fp, fr, fo⟩ := hS1
  have p0 := hp 1 (by omega)
  have r0 := hr 1 (by omega)
  have o0 := ho 1 (by omega)
  have p0f := fp 1 (by omega)
  have r0f := fr 1 (by omega)
  have o0f := fo 1 (by omega)
  go_upto_region 24 with fail
  go_region
  have hS2 := SpSt.stored ⟨hB, hz, hw, hx, hp, hr, ho, fp, fr, fo⟩ hbH 1 (by omega) 33 1 1
  rw [show H + 3 = H + 1 + 1 + 1 from rfl] at hS2
  generalize (((w1.setCell ⟨H, 1, none⟩ (.int .i64 33)).setCell ⟨H + 1, 1, none⟩ (.int .u64 1)).setCell ⟨H + 1 + 1 + 1, 1, none⟩ (.int .i64 1)).drew = w2 at hS2 ⊢
  clear hB hz hw hx hp hr ho fp fr fo p0 r0 o0 p0f r0f o0f
  obtain ⟨hB, hz, hw, hx, hp, hr, ho, fp, fr, fo⟩ := hS2
  have hw2 := hw 2 (by omega)
  go_wp2_with fail
  rw [rounds_succ]
  go_upto_region 24 with fail
  refine (HS.out _).mono ?_
  rintro e w' ⟨rfl, rfl⟩
  go_upto_region 24 with fail
  refine (HM.out _).mono ?_
  rintro e w' ⟨rfl, rfl⟩
  go_upto_region 24 with fail
  have hbl := hw 0 (by omega)
  have hb := cell_lt hbl
  refine (HD.out _).mono ?_
  rintro e w1 ⟨rfl, hb1⟩
  have hS1 := SpSt.over ⟨hB, hz, hw, hx, hp, hr, ho, fp, fr, fo⟩ hb1
  clear hB hz hw hx hp hr ho fp fr fo hw2 hb1
  obtain ⟨hB, hz, hw, hx, hp, hr, ho, fp, fr, fo⟩ := hS1
  have p0 := hp 2 (by omega)
  have r0 := hr 2 (by omega)
  have o0 := ho 2 (by omega)
  have p0f := fp 2 (by omega)
  have r0f := fr 2 (by omega)
  have o0f := fo 2 (by omega)
  go_upto_region 24 with fail
  go_region
  have hS2 := SpSt.stored ⟨hB, hz, hw, hx, hp, hr, ho, fp, fr, fo⟩ hbH 2 (by omega) 33 1 2
  rw [show H + 3 = H + 1 + 1 + 1 from rfl] at hS2
  generalize (((w1.setCell ⟨H, 2, none⟩ (.int .i64 33)).setCell ⟨H + 1, 2, none⟩ (.int .u64 1)).setCell ⟨H + 1 + 1 + 1, 2, none⟩ (.int .i64 2)).drew = w2 at hS2 ⊢
  clear hB hz hw hx hp hr ho fp fr fo p0 r0 o0 p0f r0f o0f
  obtain ⟨hB, hz, hw, hx, hp, hr, ho, fp, fr, fo⟩ := hS2
  go_wp2_with fail
  rw [rounds_succ]
  go_wp2_with fail
  have hQ := sort3 (H + 1 + 1 + 1) (H + 1 + 1) (H + 1) w2 ⟨hx, hr 0 (by omega), hr 1 (by omega), hr 2 (by omega)⟩ ⟨ho 0 (by omega), ho 1 (by omega), ho 2 (by omega)⟩
  refine hQ.mono ?_
  rintro e w3 ⟨rfl, m, rfl⟩
  go_wp2_with fail
  have oz : (w2.drewN m).cell? ⟨H + 1 + 1 + 1, 0, none⟩ = some (.int .i64 0) := ho 0 (by omega)
  have pz : (w2.drewN m).cell? ⟨H, 0, none⟩ = some (.int .i64 33) := hp 0 (by omega)
  have pf : (w2.drewN m).frozen? ⟨H, 0, none⟩ = false := fp 0 (by omega)
  refine wp_loop_rounds 2 ?_
  rw [rounds_succ]
  go_wp2_with fail
  rw [rounds_succ]
  go_wp2_with fail
  go_ret2
  have hp0 := hp 0 (by omega)
  have hp1 := hp 1 (by omega)
  have hp2 := hp 2 (by omega)
  rw [HHH.out]
  refine ⟨rfl, (pw_below_drewN hB m).setCell (by simp) _, World.cell?_setCell_same _ _ _ pz, ?_, ?_⟩
  · exact (World.cell?_setCell_other _ _ _ _ (by intro q; injection q; omega)).trans hp1
  · exact (World.cell?_setCell_other _ _ _ _ (by intro q; injection q; omega)).trans hp2
end Go.Proofs.YtncndmhmmfbklaaDoor.X

namespace Go.Proofs.YtncndmhmmfbklaaDoor.X
set_option linter.unusedVariables false
set_option linter.unusedSimpArgs false
open Go.RowKit Go.Lib Go.Proofs.YtncndmhmmfbklaaDoorW.PrintWords
theorem first_rat : ratV 7 1 2 5 = 4 ∧ ratE 7 1 2 5 = 0 := by decide +kernel
theorem first_print : printP (-5) 2 = (⟨#[45, 48, 46, 48, 53]⟩, 0) := by
  unfold printP
  rw [if_neg (by omega), if_neg (by omega), if_pos (by omega)]
  decide +kernel
set_option maxHeartbeats 4000000 in
set_option maxRecDepth 100000 in
theorem first_any (w : World) (G : Glob w) : Calls Tryd.prog 11 #[] w fun e w' => e = .returned (.bool true) ∧ Below w.heap.size w w' := by
  have HG := Lib.hid G
  clear G
  have HA := Lib.hid (fun w => add_any 2 3 w (by omega) (by omega))
  have HR := Lib.hid (fun w => ratio_any 7 1 2 5 w (by omega) (by omega) (by omega))
  rw [first_rat.1, first_rat.2] at HR
  have HP := Lib.hid (fun w G => print_any (-5) 2 (by omega) (by omega) w G)
  rw [first_print] at HP
  have e1 : addV 2 3 = 5 := by decide +kernel
  have e2 : addE 2 3 = 0 := by decide +kernel
  rw [e1, e2] at HA
  clear e1 e2
  go_enter Tryd.func11, Tryd.ntmps11
  go_wp2_with fail
  refine (HA.out _).mono ?_
  rintro e w' ⟨rfl, rfl⟩
  go_wp2_with fail
  refine (HR.out _).mono ?_
  rintro e w1 ⟨rfl, b1⟩
  have B1 := Lib.hid b1
  clear b1
  go_wp2_with fail
  refine (HP.out _ (HG.out.step B1.out)).mono ?_
  rintro e w2 ⟨rfl, b2⟩
  have B2 := Lib.hid (below_step B1.out b2)
  clear b2 B1
  go_wp2_with fail
  have hS := split_first w2.heap.size (w2.alloc (Obj.cells #[Value.int IntKind.i64 1, Value.int IntKind.i64 1, Value.int IntKind.i64 1] 2)) (by rw [World.cell?_alloc_at _ _ _ _ rfl]; rfl) (by rw [World.cell?_alloc_at _ _ _ _ rfl]; rfl) (by rw [World.cell?_alloc_at _ _ _ _ rfl]; rfl)
  obtain ⟨K, hK⟩ : ∃ K, (w2.alloc (Obj.cells #[Value.int IntKind.i64 1, Value.int IntKind.i64 1, Value.int IntKind.i64 1] 2)).heap.size = K := ⟨_, rfl⟩
  rw [hK] at hS
  have HK := Lib.hid hK
  clear hK
  have hS' := hS
  clear hS
  refine hS'.mono ?_
  rintro e w3 ⟨rfl, b3, c0, c1, c2⟩
  have B3 := Lib.hid (below_step (fm_alloc B2.out (.cells #[Value.int IntKind.i64 1, Value.int IntKind.i64 1, Value.int IntKind.i64 1] 2)) (by rw [HK.out]; exact b3))
  clear b3 hS' B2
  go_wp2_with fail
  go_ret
  exact ⟨rfl, B3.out⟩
def daybooklaw01_first.f : Option Bool := some true
theorem daybooklaw01_first.calls (r : Bool) (w : World) (h : daybooklaw01_first.f = some r) (G : Glob w) :
    Calls Tryd.prog 11 #[] w fun e w' => e = .returned (.bool r) ∧ Below w.heap.size w w' := by
  obtain rfl := Option.some.inj h
  exact first_any w G
end Go.Proofs.YtncndmhmmfbklaaDoor.X
