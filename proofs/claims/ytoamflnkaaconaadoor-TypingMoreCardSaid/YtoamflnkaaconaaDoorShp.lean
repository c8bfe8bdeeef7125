/- typing.shape: what a node is by itself. -/
import Derived.Test.YtoamflnkaaconaaDoorJoin
namespace Go.Proofs.YtoamflnkaaconaaDoor.X
set_option linter.unusedVariables false
set_option linter.unusedSimpArgs false
open Go.RowKit Go.Extern.Stop Go.Stop Go.Extern

inductive Shp where
  | leaf (t : Int)
  | un (op l : Int)
  | bin (op l r : Int)
  | no
def shp (op l r f n : Int) : Shp :=
  if op = 16 then (if fldT f = 0 then .no else .leaf (fldT f))
  else if op = 17 then .leaf 1
  else if op = 18 then .leaf 2
  else if op = 19 then (if 1 ≤ n ∧ n ≤ 3652059 then .leaf 3 else .no)
  else if op = 20 then (if n = 0 ∨ n = 1 then .leaf 4 else .no)
  else if op = 3 ∨ op = 15 then .un op l
  else if 1 ≤ op ∧ op ≤ 14 then .bin op l r
  else .no
def shpV : Shp → Value
  | .leaf t => .iface 83 (.agg #[.int .i64 t])
  | .un op l => .iface 85 (.agg #[.int .i64 op, .int .i64 l])
  | .bin op l r => .iface 87 (.agg #[.int .i64 op, .int .i64 l, .int .i64 r])
  | .no => .nilIface
def shpE (a : Addr) : Shp → Value
  | .no => .iface 128 (.pointer (some a))
  | _ => .nilIface

def nodeV (op l r f n : Int) (s : ByteArray) : Value := .agg #[.int .i64 op, .int .i64 l, .int .i64 r, .int .i64 f, .int .i64 n, .string s]

set_option maxHeartbeats 4000000 in
theorem shape_any (op l r f n : Int) (s : ByteArray) (a : Addr) (w : World) (G : GlobF w) (ha : w.cell? ⟨1, 0, none⟩ = some (.iface 128 (.pointer (some a)))) :
    Calls Tryd.prog 40 #[nodeV op l r f n s] w fun e w' => e = .returned (.tuple #[shpV (shp op l r f n), shpE a (shp op l r f n)]) ∧ Below w.heap.size w w' := by
  have hg := lt_of_cell ha
  have ha2 : ∀ o, (w.alloc o).cell? ⟨1, 0, none⟩ = some (.iface 128 (.pointer (some a))) := fun o => by
    rw [(fm_alloc (Below.refl _ w) o).cell (p := ⟨1, 0, none⟩) hg]; exact ha
  have fin : ∀ w', Below w.heap.size w w' → Below w.heap.size w w' := fun _ h => h
  unfold nodeV
  by_cases h16 : op = 16
  · subst h16
    have hs : shp 16 l r f n = if fldT f = 0 then .no else .leaf (fldT f) := by simp [shp]
    rw [hs]
    clear hs
    have HF := fun w (G : GlobF w) => field_any f w G
    by_cases h0 : fldT f = 0
    · rw [if_pos h0]
      rw [h0] at HF
      clear h0
      go_enter Tryd.func40, Tryd.ntmps40
      go_wp2_with fail
      refine (HF _ (G.step (fm_alloc (Below.refl _ w) _))).mono ?_
      rintro e w2 ⟨rfl, hB⟩
      have hB2 : Below w.heap.size w w2 := fm_call (fm_alloc (Below.refl _ w) _) hB
      have ha3 : w2.cell? ⟨1, 0, none⟩ = some (.iface 128 (.pointer (some a))) := by rw [hB2.cell (p := ⟨1, 0, none⟩) hg]; exact ha
      clear hB ha2 HF
      have HB := Lib.hid hB2
      clear hB2
      go_wp2_with fail
      go_quiet (fail)
      go_wp2_with fail
      go_ret2
      exact ⟨rfl, by repeat (first | exact HB.out | apply fm_drewN | apply fm_alloc)⟩
    · rw [if_neg h0]
      generalize fldT f = t at *
      have hb : (t == 0) = false := beq_eq_false_iff_ne.2 h0
      clear h0
      go_enter Tryd.func40, Tryd.ntmps40
      go_wp2_with fail
      refine (HF _ (G.step (fm_alloc (Below.refl _ w) _))).mono ?_
      rintro e w2 ⟨rfl, hB⟩
      have hB2 : Below w.heap.size w w2 := fm_call (fm_alloc (Below.refl _ w) _) hB
      clear hB ha2 HF
      have HB := Lib.hid hB2
      clear hB2
      go_wp2_with fail
      go_ret2
      exact ⟨rfl, by repeat (first | exact HB.out | apply fm_drewN | apply fm_alloc)⟩
  by_cases h17 : op = 17
  · subst h17
    have hs : shp 17 l r f n = .leaf 1 := by simp [shp]
    rw [hs]
    clear hs
    go_enter Tryd.func40, Tryd.ntmps40
    go_wp2_with fail
    go_ret2
    exact ⟨rfl, by repeat (first | exact Below.refl _ _ | apply fm_drewN | apply fm_alloc)⟩
  by_cases h18 : op = 18
  · subst h18
    have hs : shp 18 l r f n = .leaf 2 := by simp [shp]
    rw [hs]
    clear hs
    go_enter Tryd.func40, Tryd.ntmps40
    go_wp2_with fail
    go_ret2
    exact ⟨rfl, by repeat (first | exact Below.refl _ _ | apply fm_drewN | apply fm_alloc)⟩
  by_cases h19 : op = 19
  · subst h19
    have hs : shp 19 l r f n = if 1 ≤ n ∧ n ≤ 3652059 then .leaf 3 else .no := by simp [shp]
    rw [hs]
    clear hs
    by_cases c1 : 1 ≤ n
    · by_cases c2 : n ≤ 3652059
      · rw [if_pos ⟨c1, c2⟩]
        go_enter Tryd.func40, Tryd.ntmps40
        go_wp2_with fail
        go_ret2
        exact ⟨rfl, by repeat (first | exact Below.refl _ _ | apply fm_drewN | apply fm_alloc)⟩
      · rw [if_neg (fun h => c2 h.2)]
        have c3 : 3652059 < n := by omega
        clear c2
        go_enter Tryd.func40, Tryd.ntmps40
        go_wp2_with fail
        go_quiet (fail)
        go_wp2_with fail
        go_ret2
        exact ⟨rfl, by repeat (first | exact Below.refl _ _ | apply fm_drewN | apply fm_alloc)⟩
    · rw [if_neg (fun h => c1 h.1)]
      have c3 : n < 1 := by omega
      clear c1
      go_enter Tryd.func40, Tryd.ntmps40
      go_wp2_with fail
      go_quiet (fail)
      go_wp2_with fail
      go_ret2
      exact ⟨rfl, by repeat (first | exact Below.refl _ _ | apply fm_drewN | apply fm_alloc)⟩
  by_cases h20 : op = 20
  · subst h20
    have hs : shp 20 l r f n = if n = 0 ∨ n = 1 then .leaf 4 else .no := by simp [shp]
    rw [hs]
    clear hs
    by_cases c1 : n = 0
    · subst c1
      rw [if_pos (Or.inl rfl)]
      go_enter Tryd.func40, Tryd.ntmps40
      go_wp2_with fail
      go_ret2
      exact ⟨rfl, by repeat (first | exact Below.refl _ _ | apply fm_drewN | apply fm_alloc)⟩
    · by_cases c2 : n = 1
      · subst c2
        rw [if_pos (Or.inr rfl)]
        go_enter Tryd.func40, Tryd.ntmps40
        go_wp2_with fail
        go_ret2
        exact ⟨rfl, by repeat (first | exact Below.refl _ _ | apply fm_drewN | apply fm_alloc)⟩
      · rw [if_neg (fun h => h.elim c1 c2)]
        have b1 : (n == 0) = false := beq_eq_false_iff_ne.2 c1
        have b2 : (n == 1) = false := beq_eq_false_iff_ne.2 c2
        clear c1 c2
        go_enter Tryd.func40, Tryd.ntmps40
        go_wp2_with fail
        go_quiet (fail)
        go_wp2_with fail
        go_ret2
        exact ⟨rfl, by repeat (first | exact Below.refl _ _ | apply fm_drewN | apply fm_alloc)⟩
  by_cases h3 : op = 3
  · subst h3
    have hs : shp 3 l r f n = .un 3 l := by simp [shp]
    rw [hs]
    clear hs
    go_enter Tryd.func40, Tryd.ntmps40
    go_wp2_with fail
    go_ret2
    exact ⟨rfl, by repeat (first | exact Below.refl _ _ | apply fm_drewN | apply fm_alloc)⟩
  by_cases h15 : op = 15
  · subst h15
    have hs : shp 15 l r f n = .un 15 l := by simp [shp]
    rw [hs]
    clear hs
    go_enter Tryd.func40, Tryd.ntmps40
    go_wp2_with fail
    go_ret2
    exact ⟨rfl, by repeat (first | exact Below.refl _ _ | apply fm_drewN | apply fm_alloc)⟩
  have b16 : (op == 16) = false := beq_eq_false_iff_ne.2 h16
  have b17 : (op == 17) = false := beq_eq_false_iff_ne.2 h17
  have b18 : (op == 18) = false := beq_eq_false_iff_ne.2 h18
  have b19 : (op == 19) = false := beq_eq_false_iff_ne.2 h19
  have b20 : (op == 20) = false := beq_eq_false_iff_ne.2 h20
  have b3 : (op == 3) = false := beq_eq_false_iff_ne.2 h3
  have b15 : (op == 15) = false := beq_eq_false_iff_ne.2 h15
  have hs : shp op l r f n = if 1 ≤ op ∧ op ≤ 14 then .bin op l r else .no := by simp [shp, h16, h17, h18, h19, h20, h3, h15]
  rw [hs]
  clear hs h16 h17 h18 h19 h20 h3 h15
  by_cases c1 : 1 ≤ op
  · by_cases c2 : op ≤ 14
    · rw [if_pos ⟨c1, c2⟩]
      go_enter Tryd.func40, Tryd.ntmps40
      go_wp2_with fail
      go_ret2
      exact ⟨rfl, by repeat (first | exact Below.refl _ _ | apply fm_drewN | apply fm_alloc)⟩
    · rw [if_neg (fun h => c2 h.2)]
      have c3 : 14 < op := by omega
      clear c2
      go_enter Tryd.func40, Tryd.ntmps40
      go_wp2_with fail
      go_quiet (fail)
      go_wp2_with fail
      go_ret2
      exact ⟨rfl, by repeat (first | exact Below.refl _ _ | apply fm_drewN | apply fm_alloc)⟩
  · rw [if_neg (fun h => c1 h.1)]
    have c3 : op < 1 := by omega
    clear c1
    go_enter Tryd.func40, Tryd.ntmps40
    go_wp2_with fail
    go_quiet (fail)
    go_wp2_with fail
    go_ret2
    exact ⟨rfl, by repeat (first | exact Below.refl _ _ | apply fm_drewN | apply fm_alloc)⟩
end Go.Proofs.YtoamflnkaaconaaDoor.X
