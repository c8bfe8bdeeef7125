/- The closures of typing that read a type at a place. -/
import Derived.Test.YtoamflnkaaconaaDoorTyPl
import Derived.Test.YtoamflnkaaconaaDoorY4
namespace Go.Proofs.YtoamflnkaaconaaDoor.X
set_option linter.unusedVariables false
set_option linter.unusedSimpArgs false
open Go.RowKit

/-- cells that hold whole numbers -/
def Row (w : World) (q : Nat) (n : Nat) (T : Nat → Int) : Prop := ∃ cur : Array Value, w.heap[q]? = some (.cells cur 3 (0, 0)) ∧ cur.size = n ∧ ∀ j, j < n → cur[j]? = some (.int .i64 (T j))
theorem Row.cell {w : World} {q n : Nat} {T : Nat → Int} (h : Row w q n T) (j : Nat) (hj : j < n) : w.cell? ⟨q, j, none⟩ = some (.int .i64 (T j)) := by
  obtain ⟨cur, h1, h2, h3⟩ := h
  simp [World.cell?, h1, h3 j hj]
theorem Row.frozen {w : World} {q n : Nat} {T : Nat → Int} (h : Row w q n T) (j : Nat) : w.frozen? ⟨q, j, none⟩ = false := by
  obtain ⟨cur, h1, h2, h3⟩ := h
  simp [World.frozen?, h1]
theorem Row.lt {w : World} {q n : Nat} {T : Nat → Int} (h : Row w q n T) : q < w.heap.size := by
  obtain ⟨cur, h1, h2, h3⟩ := h
  exact (Array.getElem?_eq_some_iff.1 h1).1
theorem Row.step {w w' : World} {q n : Nat} {T : Nat → Int} (h : Row w q n T) (b : Below w.heap.size w w') : Row w' q n T := by
  have hl := h.lt
  obtain ⟨cur, h1, h2, h3⟩ := h
  exact ⟨cur, by rw [b.block q hl]; exact h1, h2, h3⟩
theorem Row.far {w : World} {q n : Nat} {T : Nat → Int} (h : Row w q n T) {p : Addr} (hp : p.block ≠ q) (u : Value) : Row (w.setCell p u) q n T := by
  obtain ⟨cur, h1, h2, h3⟩ := h
  exact ⟨cur, by rw [Below.heap_setCell w p u q (Ne.symm hp)]; exact h1, h2, h3⟩
theorem Row.eq {w : World} {q n : Nat} {T T' : Nat → Int} (h : Row w q n T) (ht : ∀ j, j < n → T j = T' j) : Row w q n T' := by
  obtain ⟨cur, h1, h2, h3⟩ := h
  exact ⟨cur, h1, h2, fun j hj => by rw [h3 j hj, ht j hj]⟩
theorem Row.set {w : World} {q n : Nat} {T : Nat → Int} (h : Row w q n T) (k : Nat) (hk : k < n) (x : Int) : Row (w.setCell ⟨q, k, none⟩ (.int .i64 x)) q n (fun j => if j = k then x else T j) := by
  obtain ⟨cur, h1, h2, h3⟩ := h
  refine ⟨cur.setIfInBounds k (.int .i64 x), ?_, by simpa using h2, fun j hj => ?_⟩
  · have hlt := (Array.getElem?_eq_some_iff.1 h1).1
    have hv := (Array.getElem?_eq_some_iff.1 h1).2
    unfold World.setCell
    simp [Array.getElem?_modify, h1]
  · by_cases e : j = k
    · subst e
      simp [Array.getElem?_setIfInBounds, h2, hj]
    · rw [Array.getElem?_setIfInBounds_ne (Ne.symm e), h3 j hj]
      simp [e]

set_option maxHeartbeats 1000000 in
theorem at39 (k : Int) (i N : Nat) (p o q : Nat) (T : Nat → Int) (w : World) (h1 : w.cell? ⟨p, 0, none⟩ = some (.int .i64 (i : Int))) (h2 : w.cell? ⟨o, 0, none⟩ = some (.slice (some ⟨q, 0, none⟩) N N)) (h3 : Row w q N T) (hi : i ≤ N) :
    Calls Tryd.prog 39 #[.int .i64 k, .pointer (some ⟨p, 0, none⟩), .pointer (some ⟨o, 0, none⟩)] w fun e w' => e = .returned (.int .i64 (if k < 0 ∨ (i : Int) ≤ k then 0 else T k.toNat)) ∧ w = w' := by
  by_cases c1 : k < 0
  · rw [if_pos (Or.inl c1)]
    clear h3
    go_enter Tryd.func39, Tryd.ntmps39
    go_wp2
    go_ret
    exact ⟨rfl, rfl⟩
  · by_cases c2 : (i : Int) ≤ k
    · rw [if_pos (Or.inr c2)]
      have c3 : 0 ≤ k := by omega
      clear h3 c1
      go_enter Tryd.func39, Tryd.ntmps39
      go_wp2
      go_ret
      exact ⟨rfl, rfl⟩
    · rw [if_neg (fun h => h.elim c1 c2)]
      obtain ⟨m, rfl⟩ : ∃ m : Nat, k = (m : Int) := ⟨k.toNat, by omega⟩
      rw [show ((m : Int)).toNat = m from rfl]
      have c3 : (m : Int) < (i : Int) := by omega
      have c4 : (m : Int) < (N : Int) := by omega
      have c5 : (0 : Int) ≤ (m : Int) := by omega
      have h4 := h3.cell m (by omega)
      clear h3 c1 c2
      generalize T m = t at *
      go_enter Tryd.func39, Tryd.ntmps39
      go_wp2
      go_ret
      exact ⟨rfl, rfl⟩
set_option maxHeartbeats 1000000 in
theorem at27 (k : Int) (N : Nat) (o q : Nat) (T : Nat → Int) (w : World) (h2 : w.cell? ⟨o, 0, none⟩ = some (.slice (some ⟨q, 0, none⟩) N N)) (h3 : Row w q N T) :
    Calls Tryd.prog 27 #[.int .i64 k, .pointer (some ⟨o, 0, none⟩)] w fun e w' => e = .returned (.int .i64 (if k < 0 ∨ (N : Int) ≤ k then 0 else T k.toNat)) ∧ w = w' := by
  by_cases c1 : k < 0
  · rw [if_pos (Or.inl c1)]
    clear h3
    go_enter Tryd.func27, Tryd.ntmps27
    go_wp2
    go_ret
    exact ⟨rfl, rfl⟩
  · by_cases c2 : (N : Int) ≤ k
    · rw [if_pos (Or.inr c2)]
      have c3 : 0 ≤ k := by omega
      clear h3 c1
      go_enter Tryd.func27, Tryd.ntmps27
      go_wp2
      go_ret
      exact ⟨rfl, rfl⟩
    · rw [if_neg (fun h => h.elim c1 c2)]
      obtain ⟨m, rfl⟩ : ∃ m : Nat, k = (m : Int) := ⟨k.toNat, by omega⟩
      rw [show ((m : Int)).toNat = m from rfl]
      have c4 : (m : Int) < (N : Int) := by omega
      have c5 : (0 : Int) ≤ (m : Int) := by omega
      have h4 := h3.cell m (by omega)
      clear h3 c1 c2
      generalize T m = t at *
      go_enter Tryd.func27, Tryd.ntmps27
      go_wp2
      go_ret
      exact ⟨rfl, rfl⟩
end Go.Proofs.YtoamflnkaaconaaDoor.X
