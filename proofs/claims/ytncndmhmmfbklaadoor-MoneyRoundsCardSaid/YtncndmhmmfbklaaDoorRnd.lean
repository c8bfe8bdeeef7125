/- The helper 'round' of the law MoneyRounds: all six ways, or that one of them is refused. -/
import Derived.Test.YtncndmhmmfbklaaDoorFst
namespace Go.Proofs.YtncndmhmmfbklaaDoor
set_option linter.unusedVariables false
set_option linter.unusedSimpArgs false
open Go.RowKit
open X (cell_lt)
/-- the state of round's loop -/
structure Rd (H : Nat) (w0 W : World) (f : Nat → Int) : Prop where
  below : Below H w0 W
  size : H + 2 ≤ W.heap.size
  res : ∀ i < 6, W.cell? ⟨H, i, none⟩ = some (.int .i64 0)
  v : ∀ i < 6, W.cell? ⟨H + 1, i, none⟩ = some (.int .i64 (f i))
  fr0 : ∀ i < 6, W.frozen? ⟨H, i, none⟩ = false
  fr1 : ∀ i < 6, W.frozen? ⟨H + 1, i, none⟩ = false
theorem six6 {P : Nat → Prop} (h0 : P 0) (h1 : P 1) (h2 : P 2) (h3 : P 3) (h4 : P 4) (h5 : P 5) : ∀ i < 6, P i := by
  intro i hi
  have : i = 0 ∨ i = 1 ∨ i = 2 ∨ i = 3 ∨ i = 4 ∨ i = 5 := by omega
  rcases this with rfl | rfl | rfl | rfl | rfl | rfl <;> assumption
theorem Rd.over {H : Nat} {w0 W W' : World} {f : Nat → Int} (h : Rd H w0 W f) (k : Below W.heap.size W W') : Rd H w0 W' f := by
  obtain ⟨hB, hz, hr, hv, f0, f1⟩ := h
  exact ⟨hB.trans (k.mono (by omega)), by have := k.size; omega,
     fun i hi => (k.cell (p := ⟨H, i, none⟩) (by show H < _; omega)).trans (hr i hi),
     fun i hi => (k.cell (p := ⟨H + 1, i, none⟩) (by show H + 1 < _; omega)).trans (hv i hi),
     fun i hi => (k.frozen (p := ⟨H, i, none⟩) (by show H < _; omega)).trans (f0 i hi),
     fun i hi => (k.frozen (p := ⟨H + 1, i, none⟩) (by show H + 1 < _; omega)).trans (f1 i hi)⟩
theorem Rd.stored {H : Nat} {w0 W : World} {f : Nat → Int} (h : Rd H w0 W f) (j : Nat) (hj : j < 6) (x : Int) :
    Rd H w0 (W.setCell ⟨H + 1, j, none⟩ (.int .i64 x)) (fun i => if i = j then x else f i) := by
  obtain ⟨hB, hz, hr, hv, f0, f1⟩ := h
  have oth : ∀ (w : World) (a q : Addr) (u : Value), q.block ≠ a.block → (w.setCell a u).cell? q = w.cell? q := fun w a q u hq => World.cell?_of_block (w := w) (Below.heap_setCell w a u q.block hq)
  refine ⟨hB.setCell (by simp) _, by simpa [World.setCell] using hz, ?_, ?_, fun i hi => by simpa using f0 i hi, fun i hi => by simpa using f1 i hi⟩
  · intro i hi
    rw [oth _ _ _ _ (by show H ≠ H + 1; omega)]
    exact hr i hi
  · intro i hi
    by_cases e : i = j
    · subst e; rw [if_pos rfl]; exact World.cell?_setCell_same _ _ _ (hv i hi)
    · rw [if_neg e]; exact (World.cell?_setCell_other _ _ _ _ (by intro q; injection q; omega)).trans (hv i hi)
theorem Rd.made (w : World) (t : TypeId) : Rd w.heap.size w ((w.alloc (.cells #[.int .i64 0, .int .i64 0, .int .i64 0, .int .i64 0, .int .i64 0, .int .i64 0] t)).alloc (.cells #[.int .i64 0, .int .i64 0, .int .i64 0, .int .i64 0, .int .i64 0, .int .i64 0] t)) (fun _ => 0) := by
  refine ⟨((Below.refl _ _).alloc (by simp) _).alloc (by simp) _, by simp, ?_, ?_, ?_, ?_⟩
  · refine six6 ?_ ?_ ?_ ?_ ?_ ?_ <;> (rw [World.cell?_alloc_past _ _ _ (by simp), World.cell?_alloc_at _ _ _ _ rfl]; rfl)
  · refine six6 ?_ ?_ ?_ ?_ ?_ ?_ <;> (rw [World.cell?_alloc_at _ _ _ _ (by simp)]; rfl)
  · refine six6 ?_ ?_ ?_ ?_ ?_ ?_ <;> (rw [World.frozen?_alloc_past _ _ _ (by simp), World.frozen?_alloc_at _ _ _ _ rfl])
  · refine six6 ?_ ?_ ?_ ?_ ?_ ?_ <;> (rw [World.frozen?_alloc_at _ _ _ _ (by simp)])
def NoR (e : Ending) : Prop := ∃ a b c d f g : Int, e = .returned (.tuple #[.agg #[.int .i64 a, .int .i64 b, .int .i64 c, .int .i64 d, .int .i64 f, .int .i64 g], .bool false])
def allZ (a n d : Int) : Prop := ratE a n d 0 = 0 ∧ ratE a n d 1 = 0 ∧ ratE a n d 2 = 0 ∧ ratE a n d 3 = 0 ∧ ratE a n d 4 = 0 ∧ ratE a n d 5 = 0
def RndPost (a n d : Int) (e : Ending) : Prop :=
  (allZ a n d ∧ e = .returned (.tuple #[.agg #[.int .i64 (ratV a n d 0), .int .i64 (ratV a n d 1), .int .i64 (ratV a n d 2), .int .i64 (ratV a n d 3), .int .i64 (ratV a n d 4), .int .i64 (ratV a n d 5)], .bool true])) ∨ (¬ allZ a n d ∧ NoR e)
theorem RndPost.no {a n d : Int} {e : Ending} (h : ¬ allZ a n d) (k : NoR e) : RndPost a n d e := .inr ⟨h, k⟩

set_option maxHeartbeats 8000000 in
set_option maxRecDepth 100000 in
theorem round_any (a n d : Int) (w : World) (ha : -9223372036854775808 ≤ a ∧ a ≤ 9223372036854775807) (hn : -9223372036854775808 ≤ n ∧ n ≤ 9223372036854775807) (hd : -9223372036854775808 ≤ d ∧ d ≤ 9223372036854775807) :
    Calls Tryd.prog 13 #[.int .i64 a, .int .i64 n, .int .i64 d] w fun e w' => RndPost a n d e ∧ Below w.heap.size w w' := by
  have HR := Lib.hid (fun how w => ratio_any a n d how w ha hn hd)
  clear ha hn hd
  obtain ⟨V0, hV0⟩ : ∃ V, ratV a n d 0 = V := ⟨_, rfl⟩
  obtain ⟨E0, hE0⟩ : ∃ E, ratE a n d 0 = E := ⟨_, rfl⟩
  have HR0 := Lib.hid (fun w => HR.out 0 w)
  rw [hV0, hE0] at HR0
  have KV0 := Lib.hid hV0
  have KE0 := Lib.hid hE0
  clear hV0 hE0
  obtain ⟨V1, hV1⟩ : ∃ V, ratV a n d 1 = V := ⟨_, rfl⟩
  obtain ⟨E1, hE1⟩ : ∃ E, ratE a n d 1 = E := ⟨_, rfl⟩
  have HR1 := Lib.hid (fun w => HR.out 1 w)
  rw [hV1, hE1] at HR1
  have KV1 := Lib.hid hV1
  have KE1 := Lib.hid hE1
  clear hV1 hE1
  obtain ⟨V2, hV2⟩ : ∃ V, ratV a n d 2 = V := ⟨_, rfl⟩
  obtain ⟨E2, hE2⟩ : ∃ E, ratE a n d 2 = E := ⟨_, rfl⟩
  have HR2 := Lib.hid (fun w => HR.out 2 w)
  rw [hV2, hE2] at HR2
  have KV2 := Lib.hid hV2
  have KE2 := Lib.hid hE2
  clear hV2 hE2
  obtain ⟨V3, hV3⟩ : ∃ V, ratV a n d 3 = V := ⟨_, rfl⟩
  obtain ⟨E3, hE3⟩ : ∃ E, ratE a n d 3 = E := ⟨_, rfl⟩
  have HR3 := Lib.hid (fun w => HR.out 3 w)
  rw [hV3, hE3] at HR3
  have KV3 := Lib.hid hV3
  have KE3 := Lib.hid hE3
  clear hV3 hE3
  obtain ⟨V4, hV4⟩ : ∃ V, ratV a n d 4 = V := ⟨_, rfl⟩
  obtain ⟨E4, hE4⟩ : ∃ E, ratE a n d 4 = E := ⟨_, rfl⟩
  have HR4 := Lib.hid (fun w => HR.out 4 w)
  rw [hV4, hE4] at HR4
  have KV4 := Lib.hid hV4
  have KE4 := Lib.hid hE4
  clear hV4 hE4
  obtain ⟨V5, hV5⟩ : ∃ V, ratV a n d 5 = V := ⟨_, rfl⟩
  obtain ⟨E5, hE5⟩ : ∃ E, ratE a n d 5 = E := ⟨_, rfl⟩
  have HR5 := Lib.hid (fun w => HR.out 5 w)
  rw [hV5, hE5] at HR5
  have KV5 := Lib.hid hV5
  have KE5 := Lib.hid hE5
  clear hV5 hE5
  clear HR
  go_enter Tryd.func13, Tryd.ntmps13
  go_wp2_with fail
  have S := Rd.made w 29
  generalize ((w.alloc (.cells #[.int .i64 0, .int .i64 0, .int .i64 0, .int .i64 0, .int .i64 0, .int .i64 0] 29)).alloc (.cells #[.int .i64 0, .int .i64 0, .int .i64 0, .int .i64 0, .int .i64 0, .int .i64 0] 29)) = W at S ⊢
  obtain ⟨H, hH⟩ : ∃ H, w.heap.size = H := ⟨_, rfl⟩
  rw [hH] at S ⊢
  have HHH := Lib.hid hH
  clear hH
  refine wp_loop_rounds 7 ?_
  rw [rounds_succ]
  go_wp2_with fail
  refine (HR0.out _).mono ?_
  rintro e w0 ⟨rfl, b0⟩
  have S := Rd.over S b0
  clear b0
  by_cases c0 : E0 = 0
  rotate_left
  · have t1 : (E0 == 0) = false := beq_eq_false_iff_ne.2 c0
    have t2 : (E0 != 0) = true := bne_iff_ne.2 c0
    have HN := Lib.hid (show ¬ allZ a n d from fun h => c0 (KE0.out.symm.trans h.1))
    clear c0
    have v0 : w0.cell? ⟨H + 1, 0, none⟩ = some (.int .i64 0) := S.v 0 (by omega)
    have r0 := S.res 0 (by omega)
    have q0 := S.fr0 0 (by omega)
    have v1 : w0.cell? ⟨H + 1, 1, none⟩ = some (.int .i64 0) := S.v 1 (by omega)
    have r1 := S.res 1 (by omega)
    have q1 := S.fr0 1 (by omega)
    have v2 : w0.cell? ⟨H + 1, 2, none⟩ = some (.int .i64 0) := S.v 2 (by omega)
    have r2 := S.res 2 (by omega)
    have q2 := S.fr0 2 (by omega)
    have v3 : w0.cell? ⟨H + 1, 3, none⟩ = some (.int .i64 0) := S.v 3 (by omega)
    have r3 := S.res 3 (by omega)
    have q3 := S.fr0 3 (by omega)
    have v4 : w0.cell? ⟨H + 1, 4, none⟩ = some (.int .i64 0) := S.v 4 (by omega)
    have r4 := S.res 4 (by omega)
    have q4 := S.fr0 4 (by omega)
    have v5 : w0.cell? ⟨H + 1, 5, none⟩ = some (.int .i64 0) := S.v 5 (by omega)
    have r5 := S.res 5 (by omega)
    have q5 := S.fr0 5 (by omega)
    have HB := Lib.hid S.below
    have HZ := Lib.hid S.size
    clear S
    go_wp2_with fail
    refine bodyPost_ret (v := .tuple #[.agg #[.int .i64 0, .int .i64 0, .int .i64 0, .int .i64 0, .int .i64 0, .int .i64 0], .bool false]) (by simp [results, Tryd.results13, go_sem, r0, r1, r2, r3, r4, r5]) rfl ⟨?_, ?_⟩
    · exact .no HN.out ⟨_, _, _, _, _, _, rfl⟩
    · rw [HHH.out]; exact (((((HB.out.setCell (by simp) _).setCell (by simp) _).setCell (by simp) _).setCell (by simp) _).setCell (by simp) _).setCell (by simp) _
  subst c0
  have p0 := S.fr1 0 (by omega)
  have v0 := S.v 0 (by omega)
  go_upto_region 4 with fail
  clear p0 v0
  have S := Rd.stored S 0 (by omega) V0
  generalize w0.setCell ⟨H + 1, 0, none⟩ (.int .i64 V0) = x0 at S ⊢
  go_wp2_with fail
  rw [rounds_succ]
  go_wp2_with fail
  refine (HR1.out _).mono ?_
  rintro e w1 ⟨rfl, b1⟩
  have S := Rd.over S b1
  clear b1
  by_cases c1 : E1 = 0
  rotate_left
  · have t1 : (E1 == 0) = false := beq_eq_false_iff_ne.2 c1
    have t2 : (E1 != 0) = true := bne_iff_ne.2 c1
    have HN := Lib.hid (show ¬ allZ a n d from fun h => c1 (KE1.out.symm.trans h.2.1))
    clear c1
    have v0 : w1.cell? ⟨H + 1, 0, none⟩ = some (.int .i64 V0) := S.v 0 (by omega)
    have r0 := S.res 0 (by omega)
    have q0 := S.fr0 0 (by omega)
    have v1 : w1.cell? ⟨H + 1, 1, none⟩ = some (.int .i64 0) := S.v 1 (by omega)
    have r1 := S.res 1 (by omega)
    have q1 := S.fr0 1 (by omega)
    have v2 : w1.cell? ⟨H + 1, 2, none⟩ = some (.int .i64 0) := S.v 2 (by omega)
    have r2 := S.res 2 (by omega)
    have q2 := S.fr0 2 (by omega)
    have v3 : w1.cell? ⟨H + 1, 3, none⟩ = some (.int .i64 0) := S.v 3 (by omega)
    have r3 := S.res 3 (by omega)
    have q3 := S.fr0 3 (by omega)
    have v4 : w1.cell? ⟨H + 1, 4, none⟩ = some (.int .i64 0) := S.v 4 (by omega)
    have r4 := S.res 4 (by omega)
    have q4 := S.fr0 4 (by omega)
    have v5 : w1.cell? ⟨H + 1, 5, none⟩ = some (.int .i64 0) := S.v 5 (by omega)
    have r5 := S.res 5 (by omega)
    have q5 := S.fr0 5 (by omega)
    have HB := Lib.hid S.below
    have HZ := Lib.hid S.size
    clear S
    go_wp2_with fail
    refine bodyPost_ret (v := .tuple #[.agg #[.int .i64 V0, .int .i64 0, .int .i64 0, .int .i64 0, .int .i64 0, .int .i64 0], .bool false]) (by simp [results, Tryd.results13, go_sem, r0, r1, r2, r3, r4, r5]) rfl ⟨?_, ?_⟩
    · exact .no HN.out ⟨_, _, _, _, _, _, rfl⟩
    · rw [HHH.out]; exact (((((HB.out.setCell (by simp) _).setCell (by simp) _).setCell (by simp) _).setCell (by simp) _).setCell (by simp) _).setCell (by simp) _
  subst c1
  have p0 := S.fr1 1 (by omega)
  have v0 := S.v 1 (by omega)
  go_upto_region 4 with fail
  clear p0 v0
  have S := Rd.stored S 1 (by omega) V1
  generalize w1.setCell ⟨H + 1, 1, none⟩ (.int .i64 V1) = x1 at S ⊢
  go_wp2_with fail
  rw [rounds_succ]
  go_wp2_with fail
  refine (HR2.out _).mono ?_
  rintro e w2 ⟨rfl, b2⟩
  have S := Rd.over S b2
  clear b2
  by_cases c2 : E2 = 0
  rotate_left
  · have t1 : (E2 == 0) = false := beq_eq_false_iff_ne.2 c2
    have t2 : (E2 != 0) = true := bne_iff_ne.2 c2
    have HN := Lib.hid (show ¬ allZ a n d from fun h => c2 (KE2.out.symm.trans h.2.2.1))
    clear c2
    have v0 : w2.cell? ⟨H + 1, 0, none⟩ = some (.int .i64 V0) := S.v 0 (by omega)
    have r0 := S.res 0 (by omega)
    have q0 := S.fr0 0 (by omega)
    have v1 : w2.cell? ⟨H + 1, 1, none⟩ = some (.int .i64 V1) := S.v 1 (by omega)
    have r1 := S.res 1 (by omega)
    have q1 := S.fr0 1 (by omega)
    have v2 : w2.cell? ⟨H + 1, 2, none⟩ = some (.int .i64 0) := S.v 2 (by omega)
    have r2 := S.res 2 (by omega)
    have q2 := S.fr0 2 (by omega)
    have v3 : w2.cell? ⟨H + 1, 3, none⟩ = some (.int .i64 0) := S.v 3 (by omega)
    have r3 := S.res 3 (by omega)
    have q3 := S.fr0 3 (by omega)
    have v4 : w2.cell? ⟨H + 1, 4, none⟩ = some (.int .i64 0) := S.v 4 (by omega)
    have r4 := S.res 4 (by omega)
    have q4 := S.fr0 4 (by omega)
    have v5 : w2.cell? ⟨H + 1, 5, none⟩ = some (.int .i64 0) := S.v 5 (by omega)
    have r5 := S.res 5 (by omega)
    have q5 := S.fr0 5 (by omega)
    have HB := Lib.hid S.below
    have HZ := Lib.hid S.size
    clear S
    go_wp2_with fail
    refine bodyPost_ret (v := .tuple #[.agg #[.int .i64 V0, .int .i64 V1, .int .i64 0, .int .i64 0, .int .i64 0, .int .i64 0], .bool false]) (by simp [results, Tryd.results13, go_sem, r0, r1, r2, r3, r4, r5]) rfl ⟨?_, ?_⟩
    · exact .no HN.out ⟨_, _, _, _, _, _, rfl⟩
    · rw [HHH.out]; exact (((((HB.out.setCell (by simp) _).setCell (by simp) _).setCell (by simp) _).setCell (by simp) _).setCell (by simp) _).setCell (by simp) _
  subst c2
  have p0 := S.fr1 2 (by omega)
  have v0 := S.v 2 (by omega)
  go_upto_region 4 with fail
  clear p0 v0
  have S := Rd.stored S 2 (by omega) V2
  generalize w2.setCell ⟨H + 1, 2, none⟩ (.int .i64 V2) = x2 at S ⊢
  go_wp2_with fail
  rw [rounds_succ]
  go_wp2_with fail
  refine (HR3.out _).mono ?_
  rintro e w3 ⟨rfl, b3⟩
  have S := Rd.over S b3
  clear b3
  by_cases c3 : E3 = 0
  rotate_left
  · have t1 : (E3 == 0) = false := beq_eq_false_iff_ne.2 c3
    have t2 : (E3 != 0) = true := bne_iff_ne.2 c3
    have HN := Lib.hid (show ¬ allZ a n d from fun h => c3 (KE3.out.symm.trans h.2.2.2.1))
    clear c3
    have v0 : w3.cell? ⟨H + 1, 0, none⟩ = some (.int .i64 V0) := S.v 0 (by omega)
    have r0 := S.res 0 (by omega)
    have q0 := S.fr0 0 (by omega)
    have v1 : w3.cell? ⟨H + 1, 1, none⟩ = some (.int .i64 V1) := S.v 1 (by omega)
    have r1 := S.res 1 (by omega)
    have q1 := S.fr0 1 (by omega)
    have v2 : w3.cell? ⟨H + 1, 2, none⟩ = some (.int .i64 V2) := S.v 2 (by omega)
    have r2 := S.res 2 (by omega)
    have q2 := S.fr0 2 (by omega)
    have v3 : w3.cell? ⟨H + 1, 3, none⟩ = some (.int .i64 0) := S.v 3 (by omega)
    have r3 := S.res 3 (by omega)
    have q3 := S.fr0 3 (by omega)
    have v4 : w3.cell? ⟨H + 1, 4, none⟩ = some (.int .i64 0) := S.v 4 (by omega)
    have r4 := S.res 4 (by omega)
    have q4 := S.fr0 4 (by omega)
    have v5 : w3.cell? ⟨H + 1, 5, none⟩ = some (.int .i64 0) := S.v 5 (by omega)
    have r5 := S.res 5 (by omega)
    have q5 := S.fr0 5 (by omega)
    have HB := Lib.hid S.below
    have HZ := Lib.hid S.size
    clear S
    go_wp2_with fail
    refine bodyPost_ret (v := .tuple #[.agg #[.int .i64 V0, .int .i64 V1, .int .i64 V2, .int .i64 0, .int .i64 0, .int .i64 0], .bool false]) (by simp [results, Tryd.results13, go_sem, r0, r1, r2, r3, r4, r5]) rfl ⟨?_, ?_⟩
    · exact .no HN.out ⟨_, _, _, _, _, _, rfl⟩
    · rw [HHH.out]; exact (((((HB.out.setCell (by simp) _).setCell (by simp) _).setCell (by simp) _).setCell (by simp) _).setCell (by simp) _).setCell (by simp) _
  subst c3
  have p0 := S.fr1 3 (by omega)
  have v0 := S.v 3 (by omega)
  go_upto_region 4 with fail
  clear p0 v0
  have S := Rd.stored S 3 (by omega) V3
  generalize w3.setCell ⟨H + 1, 3, none⟩ (.int .i64 V3) = x3 at S ⊢
  go_wp2_with fail
  rw [rounds_succ]
  go_wp2_with fail
  refine (HR4.out _).mono ?_
  rintro e w4 ⟨rfl, b4⟩
  have S := Rd.over S b4
  clear b4
  by_cases c4 : E4 = 0
  rotate_left
  · have t1 : (E4 == 0) = false := beq_eq_false_iff_ne.2 c4
    have t2 : (E4 != 0) = true := bne_iff_ne.2 c4
    have HN := Lib.hid (show ¬ allZ a n d from fun h => c4 (KE4.out.symm.trans h.2.2.2.2.1))
    clear c4
    have v0 : w4.cell? ⟨H + 1, 0, none⟩ = some (.int .i64 V0) := S.v 0 (by omega)
    have r0 := S.res 0 (by omega)
    have q0 := S.fr0 0 (by omega)
    have v1 : w4.cell? ⟨H + 1, 1, none⟩ = some (.int .i64 V1) := S.v 1 (by omega)
    have r1 := S.res 1 (by omega)
    have q1 := S.fr0 1 (by omega)
    have v2 : w4.cell? ⟨H + 1, 2, none⟩ = some (.int .i64 V2) := S.v 2 (by omega)
    have r2 := S.res 2 (by omega)
    have q2 := S.fr0 2 (by omega)
    have v3 : w4.cell? ⟨H + 1, 3, none⟩ = some (.int .i64 V3) := S.v 3 (by omega)
    have r3 := S.res 3 (by omega)
    have q3 := S.fr0 3 (by omega)
    have v4 : w4.cell? ⟨H + 1, 4, none⟩ = some (.int .i64 0) := S.v 4 (by omega)
    have r4 := S.res 4 (by omega)
    have q4 := S.fr0 4 (by omega)
    have v5 : w4.cell? ⟨H + 1, 5, none⟩ = some (.int .i64 0) := S.v 5 (by omega)
    have r5 := S.res 5 (by omega)
    have q5 := S.fr0 5 (by omega)
    have HB := Lib.hid S.below
    have HZ := Lib.hid S.size
    clear S
    go_wp2_with fail
    refine bodyPost_ret (v := .tuple #[.agg #[.int .i64 V0, .int .i64 V1, .int .i64 V2, .int .i64 V3, .int .i64 0, .int .i64 0], .bool false]) (by simp [results, Tryd.results13, go_sem, r0, r1, r2, r3, r4, r5]) rfl ⟨?_, ?_⟩
    · exact .no HN.out ⟨_, _, _, _, _, _, rfl⟩
    · rw [HHH.out]; exact (((((HB.out.setCell (by simp) _).setCell (by simp) _).setCell (by simp) _).setCell (by simp) _).setCell (by simp) _).setCell (by simp) _
  subst c4
  have p0 := S.fr1 4 (by omega)
  have v0 := S.v 4 (by omega)
  go_upto_region 4 with fail
  clear p0 v0
  have S := Rd.stored S 4 (by omega) V4
  generalize w4.setCell ⟨H + 1, 4, none⟩ (.int .i64 V4) = x4 at S ⊢
  go_wp2_with fail
  rw [rounds_succ]
  go_wp2_with fail
  refine (HR5.out _).mono ?_
  rintro e w5 ⟨rfl, b5⟩
  have S := Rd.over S b5
  clear b5
  by_cases c5 : E5 = 0
  rotate_left
  · have t1 : (E5 == 0) = false := beq_eq_false_iff_ne.2 c5
    have t2 : (E5 != 0) = true := bne_iff_ne.2 c5
    have HN := Lib.hid (show ¬ allZ a n d from fun h => c5 (KE5.out.symm.trans h.2.2.2.2.2))
    clear c5
    have v0 : w5.cell? ⟨H + 1, 0, none⟩ = some (.int .i64 V0) := S.v 0 (by omega)
    have r0 := S.res 0 (by omega)
    have q0 := S.fr0 0 (by omega)
    have v1 : w5.cell? ⟨H + 1, 1, none⟩ = some (.int .i64 V1) := S.v 1 (by omega)
    have r1 := S.res 1 (by omega)
    have q1 := S.fr0 1 (by omega)
    have v2 : w5.cell? ⟨H + 1, 2, none⟩ = some (.int .i64 V2) := S.v 2 (by omega)
    have r2 := S.res 2 (by omega)
    have q2 := S.fr0 2 (by omega)
    have v3 : w5.cell? ⟨H + 1, 3, none⟩ = some (.int .i64 V3) := S.v 3 (by omega)
    have r3 := S.res 3 (by omega)
    have q3 := S.fr0 3 (by omega)
    have v4 : w5.cell? ⟨H + 1, 4, none⟩ = some (.int .i64 V4) := S.v 4 (by omega)
    have r4 := S.res 4 (by omega)
    have q4 := S.fr0 4 (by omega)
    have v5 : w5.cell? ⟨H + 1, 5, none⟩ = some (.int .i64 0) := S.v 5 (by omega)
    have r5 := S.res 5 (by omega)
    have q5 := S.fr0 5 (by omega)
    have HB := Lib.hid S.below
    have HZ := Lib.hid S.size
    clear S
    go_wp2_with fail
    refine bodyPost_ret (v := .tuple #[.agg #[.int .i64 V0, .int .i64 V1, .int .i64 V2, .int .i64 V3, .int .i64 V4, .int .i64 0], .bool false]) (by simp [results, Tryd.results13, go_sem, r0, r1, r2, r3, r4, r5]) rfl ⟨?_, ?_⟩
    · exact .no HN.out ⟨_, _, _, _, _, _, rfl⟩
    · rw [HHH.out]; exact (((((HB.out.setCell (by simp) _).setCell (by simp) _).setCell (by simp) _).setCell (by simp) _).setCell (by simp) _).setCell (by simp) _
  subst c5
  have p0 := S.fr1 5 (by omega)
  have v0 := S.v 5 (by omega)
  go_upto_region 4 with fail
  clear p0 v0
  have S := Rd.stored S 5 (by omega) V5
  generalize w5.setCell ⟨H + 1, 5, none⟩ (.int .i64 V5) = x5 at S ⊢
  go_wp2_with fail
  rw [rounds_succ]
  have HY := Lib.hid (show allZ a n d from ⟨KE0.out, KE1.out, KE2.out, KE3.out, KE4.out, KE5.out⟩)
  have v0 : x5.cell? ⟨H + 1, 0, none⟩ = some (.int .i64 V0) := S.v 0 (by omega)
  have r0 := S.res 0 (by omega)
  have q0 := S.fr0 0 (by omega)
  have v1 : x5.cell? ⟨H + 1, 1, none⟩ = some (.int .i64 V1) := S.v 1 (by omega)
  have r1 := S.res 1 (by omega)
  have q1 := S.fr0 1 (by omega)
  have v2 : x5.cell? ⟨H + 1, 2, none⟩ = some (.int .i64 V2) := S.v 2 (by omega)
  have r2 := S.res 2 (by omega)
  have q2 := S.fr0 2 (by omega)
  have v3 : x5.cell? ⟨H + 1, 3, none⟩ = some (.int .i64 V3) := S.v 3 (by omega)
  have r3 := S.res 3 (by omega)
  have q3 := S.fr0 3 (by omega)
  have v4 : x5.cell? ⟨H + 1, 4, none⟩ = some (.int .i64 V4) := S.v 4 (by omega)
  have r4 := S.res 4 (by omega)
  have q4 := S.fr0 4 (by omega)
  have v5 : x5.cell? ⟨H + 1, 5, none⟩ = some (.int .i64 V5) := S.v 5 (by omega)
  have r5 := S.res 5 (by omega)
  have q5 := S.fr0 5 (by omega)
  have HB := Lib.hid S.below
  have HZ := Lib.hid S.size
  clear S
  go_wp2_with fail
  refine bodyPost_ret (v := .tuple #[.agg #[.int .i64 V0, .int .i64 V1, .int .i64 V2, .int .i64 V3, .int .i64 V4, .int .i64 V5], .bool true]) (by simp [results, Tryd.results13, go_sem, r0, r1, r2, r3, r4, r5]) rfl ⟨?_, ?_⟩
  · exact .inl ⟨HY.out, by rw [KV0.out, KV1.out, KV2.out, KV3.out, KV4.out, KV5.out]⟩
  · rw [HHH.out]; exact (((((HB.out.setCell (by simp) _).setCell (by simp) _).setCell (by simp) _).setCell (by simp) _).setCell (by simp) _).setCell (by simp) _
end Go.Proofs.YtncndmhmmfbklaaDoor
