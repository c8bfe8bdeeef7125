/- errors.Join of two: nothing, or an error whose first part is the first of the two that is one. -/
import Derived.Test.YtoamflnkaaconaaDoorErr
import Derived.Test.YtoamflnkaaconaaDoorWWords
import Derived.OneCell
namespace Go.Proofs.YtoamflnkaaconaaDoor.X
set_option linter.unusedVariables false
set_option linter.unusedSimpArgs false
open Go.RowKit Go.Extern.Stop Go.Stop Go.Extern Go.Proofs.YtoamflnkaaconaaDoorW.PrintWords

theorem mkK (n : Int) (h0 : 0 ≤ n) (h2 : n ≤ 2) : ∀ w : World, (Instr.makeSlice 106 (.int .i64 0) (.int .i64 n)).run Tryd.prog w = .ok (.slice (some ⟨w.heap.size, 0, none⟩) 0 n.toNat) (w.alloc (.cells (madeCells #[.nilIface] n.toNat) 62)) := by
  intro w
  obtain ⟨i, hi, hzz⟩ := Option.map_eq_some_iff.1 (show (Tryd.prog.info? 62).map (fun i => (i.zero, i.size, i.bytes)) = some (some .nilIface, 1, 16) by kernel_rfl)
  simp only [Prod.mk.injEq] at hzz
  obtain ⟨hz0, hz1, hz2⟩ := hzz
  have := run_make (P := Tryd.prog) w 106 62 i .nilIface Tryd.underlying106 hi hz0 .i64 .i64 0 n (by omega) (by omega) (by rw [hz2]; omega) (by omega)
  rw [this, hz1]
  simp [Value.cells]
set_option maxHeartbeats 4000000 in
set_option maxRecDepth 100000 in
theorem join_nn (b : Nat) (w : World) (h1 : w.cell? ⟨b, 0, none⟩ = some .nilIface) (h2 : w.cell? ⟨b, 1, none⟩ = some .nilIface) :
    Calls Tryd.prog 42 #[.slice (some ⟨b, 0, none⟩) 2 2] w fun e w' => e = .returned .nilIface ∧ w = w' := by
  go_enter Tryd.func42, Tryd.ntmps42
  go_wp2_with fail
  refine wp_loop_rounds 3 ?_
  rw [rounds_succ]
  go_wp2_with fail
  rw [rounds_succ]
  go_wp2_with fail
  rw [rounds_succ]
  go_wp2_with fail
  go_ret
  exact ⟨rfl, rfl⟩
/-- the world once the row and the joined error are made -/
structure Made (w W : World) (n : Nat) : Prop where
  own : W.ownsRow w.heap.size 62 1 (.slice (some ⟨w.heap.size, 0, none⟩) 0 n) 0 []
  row : W.heap[w.heap.size + 1]? = some (.cells #[.slice (some ⟨w.heap.size, 0, none⟩) 0 n] 109 (0, 0))
  below : Below w.heap.size w W
  size : w.heap.size + 1 < W.heap.size
theorem made_of (w : World) (n : Nat) (hn : n ≤ 2) : Made w ((w.alloc (.cells (madeCells #[.nilIface] n) 62)).alloc (.cells #[.slice (some ⟨w.heap.size, 0, none⟩) 0 n] 109)) n where
  own := (World.ownsRow_made w (madeCells #[.nilIface] n) n (Nat.le_refl _) (by simp [maxLen]; omega) (by simp [size_madeCells])).alloc _
  row := by
    have := heap_alloc_new (w.alloc (.cells (madeCells #[.nilIface] n) 62)) (.cells #[.slice (some ⟨w.heap.size, 0, none⟩) 0 n] 109)
    simpa using this
  below := fm_alloc (fm_alloc (Below.refl _ _) _) _
  size := by simp
theorem made_row {w W w1 : World} {n g : Nat} {v : Value} (M : Made w W n) (hg : w.heap.size = g) (h : W.grownBy w1 v.ownBlock) (hv : v.ownBlock = some g) : w1.heap[g + 1]? = some (.cells #[.slice (some ⟨g, 0, none⟩) 0 n] 109 (0, 0)) := by
  subst hg
  rw [hv] at h
  rw [h.block (w.heap.size + 1) M.size (by simp)]
  exact M.row
theorem row_slice {w1 : World} {g n : Nat} {v1 : Value} {xs : List Value} (h : w1.ownsRow g 62 1 v1 n xs) (hn : 1 ≤ n) : ∃ q c cur, v1 = .slice (some ⟨q, 0, none⟩) n c ∧ w1.heap[q]? = some (.cells cur 62 (0, 0)) ∧ cur.toList.take n = xs := by
  rcases h.2 with ⟨_, h0⟩ | ⟨q, c, cur, h1, _, h2, _, _, _, h3⟩
  · omega
  · exact ⟨q, c, cur, h1, h2, by simpa using h3⟩
/-- what the joined error looks like: the first of its row is x -/
def Joined (w : World) (x v : Value) (w' : World) : Prop :=
  ∃ p q c m, v = .iface 107 (.pointer (some ⟨p, 0, none⟩)) ∧ w'.cell? ⟨p, 0, none⟩ = some (.slice (some ⟨q, 0, none⟩) m c) ∧ 1 ≤ m ∧ m ≤ 2 ∧ w'.cell? ⟨q, 0, none⟩ = some x ∧ Below w.heap.size w w'
theorem joined_of {w w1 : World} {g q n c : Nat} {x v0 : Value} {cur : Array Value} {rest : List Value} (r1 : w1.heap[g + 1]? = some (.cells #[v0] 109 (0, 0))) (hq : w1.heap[q]? = some (.cells cur 62 (0, 0))) (hx : cur.toList.take n = x :: rest)
    (hn : n ≤ 2) (hb : Below w.heap.size w w1) (hg : w.heap.size ≤ g + 1) (hne : q ≠ g + 1) :
    Joined w x (.iface 107 (.pointer (some ⟨g + 1, 0, none⟩))) (w1.setCell ⟨g + 1, 0, none⟩ (.slice (some ⟨q, 0, none⟩) n c)) := by
  have hn1 : 1 ≤ n := by
    cases n with
    | zero => simp at hx
    | succ n => omega
  refine ⟨g + 1, q, c, n, rfl, ?_, hn1, hn, ?_, hb.setCell (p := ⟨g + 1, 0, none⟩) hg _⟩
  · have := one_setCell (u := .slice (some ⟨q, 0, none⟩) n c) r1
    simp [World.cell?, this]
  · have h0 : cur[0]? = some x := by
      have : (cur.toList.take n)[0]? = some x := by rw [hx]; rfl
      rw [List.getElem?_take] at this
      split at this
      · simpa using this
      · cases this
    have : (w1.setCell ⟨g + 1, 0, none⟩ (.slice (some ⟨q, 0, none⟩) n c)).heap[q]? = w1.heap[q]? := Below.heap_setCell w1 ⟨g + 1, 0, none⟩ _ q hne
    simp [World.cell?, this, hq, h0]
set_option maxHeartbeats 4000000 in
set_option maxRecDepth 100000 in
theorem join_ne (b : Nat) (t : Nat) (u : Value) (w : World) (h1 : w.cell? ⟨b, 0, none⟩ = some .nilIface) (h2 : w.cell? ⟨b, 1, none⟩ = some (.iface t u)) :
    Calls Tryd.prog 42 #[.slice (some ⟨b, 0, none⟩) 2 2] w fun e w' => ∃ v, e = .returned v ∧ Joined w (.iface t u) v w' := by
  have mk := mkK 1 (by omega) (by omega)
  have hb := lt_of_cell h1
  have hM := made_of w 1 (by omega)
  go_enter Tryd.func42, Tryd.ntmps42
  go_wp2_with fail
  refine wp_loop_rounds 3 ?_
  rw [rounds_succ]
  go_wp2_with fail
  rw [rounds_succ]
  go_wp2_with fail
  rw [rounds_succ]
  go_wp2_with fail
  obtain ⟨W, hW⟩ : ∃ W, ((w.alloc (.cells (madeCells #[.nilIface] 1) 62)).alloc (.cells #[.slice (some ⟨w.heap.size, 0, none⟩) 0 1] 109)) = W := ⟨_, rfl⟩
  rw [hW] at hM ⊢
  clear hW
  have c1 : W.cell? ⟨b, 0, none⟩ = some .nilIface := by rw [hM.below.cell (p := ⟨b, 0, none⟩) hb]; exact h1
  have c2 : W.cell? ⟨b, 1, none⟩ = some (.iface t u) := by rw [hM.below.cell (p := ⟨b, 1, none⟩) hb]; exact h2
  have c3 : W.cell? ⟨w.heap.size + 1, 0, none⟩ = some (.slice (some ⟨w.heap.size, 0, none⟩) 0 1) := by simp [World.cell?, hM.row]
  have HM := Lib.hid hM
  have hs := hM.size
  clear hM h1 h2 mk
  obtain ⟨g, hg⟩ : ∃ g, w.heap.size = g := ⟨_, rfl⟩
  have Hg := Lib.hid hg
  rw [hg] at c3 hs ⊢
  clear hg
  refine wp_loop_rounds 3 ?_
  rw [rounds_succ]
  go_wp2_with fail
  rw [rounds_succ]
  go_wp2_with (at_builtin
               go_loud (refine print_append (w0 := W) g rfl _ (.tmp 40) 106 62 .nilIface 16 rfl Tryd.underlying106 (by kernel_rfl) rfl (by omega) (.slice (some ⟨g, 0, none⟩) 0 1) [] (.iface t u) (by rfl) (by rfl) rfl (by have := HM.out.own; rw [Hg.out] at this; exact this) (Below.refl _ _) (by omega) (by simp) ?_)
               intro v1 w1 hown1 hbel1 hg1 hat1
               have HO1 := Lib.hid hown1
               obtain ⟨q, c, cur, hv1, hq1, hx1⟩ := row_slice hown1 (by simp)
               subst hv1
               have HQ1 := Lib.hid hq1
               have HX1 := Lib.hid hx1
               have HA1 := Lib.hid hat1
               have HB1 := Lib.hid hbel1
               have HG1 := Lib.hid hg1
               have r1 := made_row HM.out Hg.out hg1 (by rfl)
               have r2 : w1.cell? ⟨g + 1, 0, none⟩ = some (.slice (some ⟨g, 0, none⟩) 0 1) := by simp [World.cell?, r1]
               have r3 : w1.frozen? ⟨g + 1, 0, none⟩ = false := by simp [World.frozen?, r1]
               clear hown1 hbel1 hg1 hat1 hq1 hx1)
  rw [rounds_succ]
  go_wp2_with fail
  go_ret
  refine ⟨_, rfl, joined_of r1 HQ1.out HX1.out (by simp) (HM.out.below.trans (HB1.out.mono (by have := Hg.out; omega))) (by have := Hg.out; omega) ?_⟩
  rcases HA1.out with h | ⟨k, h, hk⟩
  · simp [Value.ownBlock] at h; omega
  · simp [Value.ownBlock] at h; omega
set_option maxHeartbeats 4000000 in
set_option maxRecDepth 100000 in
theorem join_en (b : Nat) (t : Nat) (u : Value) (w : World) (h1 : w.cell? ⟨b, 0, none⟩ = some (.iface t u)) (h2 : w.cell? ⟨b, 1, none⟩ = some .nilIface) :
    Calls Tryd.prog 42 #[.slice (some ⟨b, 0, none⟩) 2 2] w fun e w' => ∃ v, e = .returned v ∧ Joined w (.iface t u) v w' := by
  have mk := mkK 1 (by omega) (by omega)
  have hb := lt_of_cell h1
  have hM := made_of w 1 (by omega)
  go_enter Tryd.func42, Tryd.ntmps42
  go_wp2_with fail
  refine wp_loop_rounds 3 ?_
  rw [rounds_succ]
  go_wp2_with fail
  rw [rounds_succ]
  go_wp2_with fail
  rw [rounds_succ]
  go_wp2_with fail
  obtain ⟨W, hW⟩ : ∃ W, ((w.alloc (.cells (madeCells #[.nilIface] 1) 62)).alloc (.cells #[.slice (some ⟨w.heap.size, 0, none⟩) 0 1] 109)) = W := ⟨_, rfl⟩
  rw [hW] at hM ⊢
  clear hW
  have c1 : W.cell? ⟨b, 0, none⟩ = some (.iface t u) := by rw [hM.below.cell (p := ⟨b, 0, none⟩) hb]; exact h1
  have c2 : W.cell? ⟨b, 1, none⟩ = some .nilIface := by rw [hM.below.cell (p := ⟨b, 1, none⟩) hb]; exact h2
  have c3 : W.cell? ⟨w.heap.size + 1, 0, none⟩ = some (.slice (some ⟨w.heap.size, 0, none⟩) 0 1) := by simp [World.cell?, hM.row]
  have HM := Lib.hid hM
  have hs := hM.size
  clear hM h1 h2 mk
  obtain ⟨g, hg⟩ : ∃ g, w.heap.size = g := ⟨_, rfl⟩
  have Hg := Lib.hid hg
  rw [hg] at c3 hs ⊢
  clear hg
  refine wp_loop_rounds 3 ?_
  rw [rounds_succ]
  go_wp2_with (at_builtin
               go_loud (refine print_append (w0 := W) g rfl _ (.tmp 40) 106 62 .nilIface 16 rfl Tryd.underlying106 (by kernel_rfl) rfl (by omega) (.slice (some ⟨g, 0, none⟩) 0 1) [] (.iface t u) (by rfl) (by rfl) rfl (by have := HM.out.own; rw [Hg.out] at this; exact this) (Below.refl _ _) (by omega) (by simp) ?_)
               intro v1 w1 hown1 hbel1 hg1 hat1
               have HO1 := Lib.hid hown1
               obtain ⟨q, c, cur, hv1, hq1, hx1⟩ := row_slice hown1 (by simp)
               subst hv1
               have HQ1 := Lib.hid hq1
               have HX1 := Lib.hid hx1
               have HA1 := Lib.hid hat1
               have HB1 := Lib.hid hbel1
               have HG1 := Lib.hid hg1
               have r1 := made_row HM.out Hg.out hg1 (by rfl)
               have r2 : w1.cell? ⟨g + 1, 0, none⟩ = some (.slice (some ⟨g, 0, none⟩) 0 1) := by simp [World.cell?, r1]
               have r3 : w1.frozen? ⟨g + 1, 0, none⟩ = false := by simp [World.frozen?, r1]
               clear hown1 hbel1 hg1 hat1 hq1 hx1)
  have d2 : (w1.setCell ⟨g + 1, 0, none⟩ (.slice (some ⟨q, 0, none⟩) 1 c)).cell? ⟨b, 1, none⟩ = some .nilIface := by
    have : (w1.setCell ⟨g + 1, 0, none⟩ (.slice (some ⟨q, 0, none⟩) 1 c)).heap[b]? = w1.heap[b]? := Below.heap_setCell w1 ⟨g + 1, 0, none⟩ _ b (by have := Hg.out; simp; omega)
    rw [World.cell?_of_block this, HB1.out.cell (p := ⟨b, 1, none⟩) (by have := Hg.out; simp; omega)]
    exact c2
  rw [rounds_succ]
  go_wp2_with fail
  rw [rounds_succ]
  go_wp2_with fail
  go_ret
  refine ⟨_, rfl, joined_of r1 HQ1.out HX1.out (by simp) (HM.out.below.trans (HB1.out.mono (by have := Hg.out; omega))) (by have := Hg.out; omega) ?_⟩
  rcases HA1.out with h | ⟨k, h, hk⟩
  · simp [Value.ownBlock] at h; omega
  · simp [Value.ownBlock] at h; omega
set_option maxHeartbeats 4000000 in
set_option maxRecDepth 100000 in
theorem join_ee (b : Nat) (t : Nat) (u : Value) (t2 : Nat) (u2 : Value) (w : World) (h1 : w.cell? ⟨b, 0, none⟩ = some (.iface t u)) (h2 : w.cell? ⟨b, 1, none⟩ = some (.iface t2 u2)) :
    Calls Tryd.prog 42 #[.slice (some ⟨b, 0, none⟩) 2 2] w fun e w' => ∃ v, e = .returned v ∧ Joined w (.iface t u) v w' := by
  have mk := mkK 2 (by omega) (by omega)
  have hb := lt_of_cell h1
  have hM := made_of w 2 (by omega)
  go_enter Tryd.func42, Tryd.ntmps42
  go_wp2_with fail
  refine wp_loop_rounds 3 ?_
  rw [rounds_succ]
  go_wp2_with fail
  rw [rounds_succ]
  go_wp2_with fail
  rw [rounds_succ]
  go_wp2_with fail
  obtain ⟨W, hW⟩ : ∃ W, ((w.alloc (.cells (madeCells #[.nilIface] 2) 62)).alloc (.cells #[.slice (some ⟨w.heap.size, 0, none⟩) 0 2] 109)) = W := ⟨_, rfl⟩
  rw [hW] at hM ⊢
  clear hW
  have c1 : W.cell? ⟨b, 0, none⟩ = some (.iface t u) := by rw [hM.below.cell (p := ⟨b, 0, none⟩) hb]; exact h1
  have c2 : W.cell? ⟨b, 1, none⟩ = some (.iface t2 u2) := by rw [hM.below.cell (p := ⟨b, 1, none⟩) hb]; exact h2
  have c3 : W.cell? ⟨w.heap.size + 1, 0, none⟩ = some (.slice (some ⟨w.heap.size, 0, none⟩) 0 2) := by simp [World.cell?, hM.row]
  have HM := Lib.hid hM
  have hs := hM.size
  clear hM h1 h2 mk
  obtain ⟨g, hg⟩ : ∃ g, w.heap.size = g := ⟨_, rfl⟩
  have Hg := Lib.hid hg
  rw [hg] at c3 hs ⊢
  clear hg
  refine wp_loop_rounds 3 ?_
  rw [rounds_succ]
  go_wp2_with (at_builtin
               go_loud (refine print_append (w0 := W) g rfl _ (.tmp 40) 106 62 .nilIface 16 rfl Tryd.underlying106 (by kernel_rfl) rfl (by omega) (.slice (some ⟨g, 0, none⟩) 0 2) [] (.iface t u) (by rfl) (by rfl) rfl (by have := HM.out.own; rw [Hg.out] at this; exact this) (Below.refl _ _) (by omega) (by simp) ?_)
               intro v1 w1 hown1 hbel1 hg1 hat1
               have HO1 := Lib.hid hown1
               obtain ⟨q, c, cur, hv1, hq1, hx1⟩ := row_slice hown1 (by simp)
               subst hv1
               have HQ1 := Lib.hid hq1
               have HX1 := Lib.hid hx1
               have HA1 := Lib.hid hat1
               have HB1 := Lib.hid hbel1
               have HG1 := Lib.hid hg1
               have r1 := made_row HM.out Hg.out hg1 (by rfl)
               have r2 : w1.cell? ⟨g + 1, 0, none⟩ = some (.slice (some ⟨g, 0, none⟩) 0 2) := by simp [World.cell?, r1]
               have r3 : w1.frozen? ⟨g + 1, 0, none⟩ = false := by simp [World.frozen?, r1]
               clear hown1 hbel1 hg1 hat1 hq1 hx1)
  have d2 : (w1.setCell ⟨g + 1, 0, none⟩ (.slice (some ⟨q, 0, none⟩) 1 c)).cell? ⟨b, 1, none⟩ = some (.iface t2 u2) := by
    have : (w1.setCell ⟨g + 1, 0, none⟩ (.slice (some ⟨q, 0, none⟩) 1 c)).heap[b]? = w1.heap[b]? := Below.heap_setCell w1 ⟨g + 1, 0, none⟩ _ b (by have := Hg.out; simp; omega)
    rw [World.cell?_of_block this, HB1.out.cell (p := ⟨b, 1, none⟩) (by have := Hg.out; simp; omega)]
    exact c2
  have hqg : q ≠ g + 1 := by
    rcases HA1.out with h | ⟨k, h, hk⟩
    · simp [Value.ownBlock] at h; omega
    · simp [Value.ownBlock] at h; omega
  have e1 : (w1.setCell ⟨g + 1, 0, none⟩ (.slice (some ⟨q, 0, none⟩) 1 c)).heap[g + 1]? = some (.cells #[.slice (some ⟨q, 0, none⟩) 1 c] 109 (0, 0)) := one_setCell r1
  have e3 : (w1.setCell ⟨g + 1, 0, none⟩ (.slice (some ⟨q, 0, none⟩) 1 c)).ownsRow g 62 1 (.slice (some ⟨q, 0, none⟩) 1 c) 1 [.iface t u] := ownsRow_setCell_other HO1.out (by simpa [Value.ownBlock] using hqg) _
  have e4 : Below w.heap.size w (w1.setCell ⟨g + 1, 0, none⟩ (.slice (some ⟨q, 0, none⟩) 1 c)) := (HM.out.below.trans (HB1.out.mono (by have := Hg.out; omega))).setCell (p := ⟨g + 1, 0, none⟩) (by have := Hg.out; simp; omega) _
  have e5 : g + 1 < (w1.setCell ⟨g + 1, 0, none⟩ (.slice (some ⟨q, 0, none⟩) 1 c)).heap.size := (Array.getElem?_eq_some_iff.1 e1).1
  obtain ⟨W2, hW2⟩ : ∃ W2, w1.setCell ⟨g + 1, 0, none⟩ (.slice (some ⟨q, 0, none⟩) 1 c) = W2 := ⟨_, rfl⟩
  rw [hW2] at d2 e1 e3 e4 e5 ⊢
  have e2 : W2.cell? ⟨g + 1, 0, none⟩ = some (.slice (some ⟨q, 0, none⟩) 1 c) := by simp [World.cell?, e1]
  have E3 := Lib.hid e3
  have E4 := Lib.hid e4
  clear r1 r2 r3 e3 e4 c1 c2 c3 hW2
  rw [rounds_succ]
  go_wp2_with (at_builtin
               go_loud (refine print_append (w0 := W2) g rfl _ (.tmp 40) 106 62 .nilIface 16 rfl Tryd.underlying106 (by kernel_rfl) rfl (by omega) (.slice (some ⟨q, 0, none⟩) 1 c) [.iface t u] (.iface t2 u2) (by rfl) (by rfl) rfl E3.out (Below.refl _ _) (by omega) (by simp) ?_)
               intro v2 w2 hown2 hbel2 hg2 hat2
               have HO2 := Lib.hid hown2
               obtain ⟨q2, c2, cur2, hv2, hq2, hx2⟩ := row_slice hown2 (by simp)
               subst hv2
               have HQ2 := Lib.hid hq2
               have HX2 := Lib.hid hx2
               have HA2 := Lib.hid hat2
               have HB2 := Lib.hid hbel2
               have HG2 := Lib.hid hg2
               have s1 : w2.heap[g + 1]? = some (.cells #[.slice (some ⟨q, 0, none⟩) 1 c] 109 (0, 0)) := by
                 rw [hg2.block (g + 1) (by omega) (by simp [Value.ownBlock]; omega)]
                 exact e1
               have s2 : w2.cell? ⟨g + 1, 0, none⟩ = some (.slice (some ⟨q, 0, none⟩) 1 c) := by simp [World.cell?, s1]
               have s3 : w2.frozen? ⟨g + 1, 0, none⟩ = false := by simp [World.frozen?, s1]
               clear hown2 hbel2 hg2 hat2 hq2 hx2)
  rw [rounds_succ]
  go_wp2_with fail
  go_ret
  refine ⟨_, rfl, joined_of s1 HQ2.out HX2.out (by simp) (E4.out.trans (HB2.out.mono (by have := Hg.out; omega))) (by have := Hg.out; omega) ?_⟩
  rcases HA2.out with h | ⟨k, h, hk⟩
  · simp [Value.ownBlock] at h; omega
  · simp [Value.ownBlock] at h; omega
/-- nothing, or an error that leads to the sentinel -/
def Wr (w : World) (a : Addr) : Bool → Value → Prop
  | true, v => v = .nilIface
  | false, v => ∃ d, Bad w a d v
theorem Wr.step {w w' : World} {a : Addr} (b : Below w.heap.size w w') : ∀ {ok : Bool} {v : Value}, Wr w a ok v → Wr w' a ok v
  | true, _, h => h
  | false, _, ⟨d, h⟩ => ⟨d, h.step b⟩
theorem Bad.iface {w : World} {a : Addr} : ∀ {d : Nat} {v : Value}, Bad w a d v → ∃ t u, v = .iface t u
  | 0, _, h => ⟨_, _, h⟩
  | d + 1, _, ⟨_, _, _, _, _, h, _⟩ => ⟨_, _, h⟩
theorem Bad.joined {w w' : World} {a : Addr} {d : Nat} {x v : Value} (h : Bad w a d x) (hj : Joined w x v w') : Wr w' a false v := by
  obtain ⟨p, q, c, m, h1, h2, h3, h4, h5, h6⟩ := hj
  exact ⟨d + 1, p, q, c, m, x, h1, h2, h3, h4, h5, h.step h6⟩
theorem join_any (b : Nat) (a : Addr) (x y : Value) (p q : Bool) (w : World) (h1 : w.cell? ⟨b, 0, none⟩ = some x) (h2 : w.cell? ⟨b, 1, none⟩ = some y) (hx : Wr w a p x) (hy : Wr w a q y) :
    Calls Tryd.prog 42 #[.slice (some ⟨b, 0, none⟩) 2 2] w fun e w' => ∃ v, e = .returned v ∧ Wr w' a (p && q) v ∧ Below w.heap.size w w' := by
  cases p <;> cases q
  · obtain ⟨d, hx⟩ := hx
    obtain ⟨e, hy⟩ := hy
    obtain ⟨t, u, rfl⟩ := hx.iface
    obtain ⟨t2, u2, rfl⟩ := hy.iface
    refine (join_ee b t u t2 u2 w h1 h2).mono ?_
    rintro e w' ⟨v, rfl, hj⟩
    exact ⟨v, rfl, hx.joined hj, by obtain ⟨_, _, _, _, _, _, _, _, _, hb⟩ := hj; exact hb⟩
  · obtain ⟨d, hx⟩ := hx
    have : y = .nilIface := hy
    subst this
    obtain ⟨t, u, rfl⟩ := hx.iface
    refine (join_en b t u w h1 h2).mono ?_
    rintro e w' ⟨v, rfl, hj⟩
    exact ⟨v, rfl, hx.joined hj, by obtain ⟨_, _, _, _, _, _, _, _, _, hb⟩ := hj; exact hb⟩
  · obtain ⟨d, hy⟩ := hy
    have : x = .nilIface := hx
    subst this
    obtain ⟨t, u, rfl⟩ := hy.iface
    refine (join_ne b t u w h1 h2).mono ?_
    rintro e w' ⟨v, rfl, hj⟩
    exact ⟨v, rfl, hy.joined hj, by obtain ⟨_, _, _, _, _, _, _, _, _, hb⟩ := hj; exact hb⟩
  · have e1 : x = .nilIface := hx
    have e2 : y = .nilIface := hy
    subst e1 e2
    refine (join_nn b w h1 h2).mono ?_
    rintro e w' ⟨rfl, rfl⟩
    exact ⟨_, rfl, rfl, Below.refl _ _⟩
end Go.Proofs.YtoamflnkaaconaaDoor.X
