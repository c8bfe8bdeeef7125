/- What the package-level variables of typing hold: the premise of contracts that read them. -/
import Derived.Test.YtoamflnkaaconaaDoorProg
import Derived.Below
import Derived.FnData
import Derived.WalkKit
namespace Go.Proofs.YtoamflnkaaconaaDoor.X
set_option linter.unusedVariables false
open Go.RowKit

def tabN : List ByteArray := [⟨#[]⟩, ⟨#[115, 101, 113]⟩, ⟨#[108, 105, 110, 101]⟩, ⟨#[100, 97, 121]⟩, ⟨#[107, 105, 110, 100]⟩, ⟨#[107, 101, 121]⟩, ⟨#[97, 99, 99, 111, 117, 110, 116]⟩, ⟨#[97, 109, 111, 117, 110, 116]⟩, ⟨#[100, 101, 98, 105, 116]⟩, ⟨#[99, 114, 101, 100, 105, 116]⟩, ⟨#[116, 97, 103]⟩, ⟨#[109, 101, 109, 111]⟩, ⟨#[109, 111, 110, 116, 104]⟩, ⟨#[121, 101, 97, 114]⟩, ⟨#[114, 111, 111, 116]⟩]
def tabT : List Int := [0, 1, 1, 3, 1, 2, 2, 5, 5, 5, 2, 2, 1, 1, 2]
def nameAt (i : Nat) : ByteArray := tabN.getD i ⟨#[]⟩
def typAt (i : Nat) : Int := tabT.getD i 0
/-- the table as one value -/
def tabA : Array Value := #[.string (nameAt 0), .int .i64 (typAt 0), .string (nameAt 1), .int .i64 (typAt 1), .string (nameAt 2), .int .i64 (typAt 2), .string (nameAt 3), .int .i64 (typAt 3), .string (nameAt 4), .int .i64 (typAt 4), .string (nameAt 5), .int .i64 (typAt 5), .string (nameAt 6), .int .i64 (typAt 6), .string (nameAt 7), .int .i64 (typAt 7), .string (nameAt 8), .int .i64 (typAt 8), .string (nameAt 9), .int .i64 (typAt 9), .string (nameAt 10), .int .i64 (typAt 10), .string (nameAt 11), .int .i64 (typAt 11), .string (nameAt 12), .int .i64 (typAt 12), .string (nameAt 13), .int .i64 (typAt 13), .string (nameAt 14), .int .i64 (typAt 14)]
theorem fifteen {P : Nat → Prop} (h0 : P 0) (h1 : P 1) (h2 : P 2) (h3 : P 3) (h4 : P 4) (h5 : P 5) (h6 : P 6) (h7 : P 7) (h8 : P 8) (h9 : P 9) (h10 : P 10) (h11 : P 11) (h12 : P 12) (h13 : P 13) (h14 : P 14) : ∀ k, k < 15 → P k := fun k hk => by
  have : k = 0 ∨ k = 1 ∨ k = 2 ∨ k = 3 ∨ k = 4 ∨ k = 5 ∨ k = 6 ∨ k = 7 ∨ k = 8 ∨ k = 9 ∨ k = 10 ∨ k = 11 ∨ k = 12 ∨ k = 13 ∨ k = 14 := by omega
  rcases this with h | h | h | h | h | h | h | h | h | h | h | h | h | h | h <;> subst h <;> assumption
theorem tabA_name : ∀ k, k < 15 → tabA[k * 2]? = some (.string (nameAt k)) := fifteen rfl rfl rfl rfl rfl rfl rfl rfl rfl rfl rfl rfl rfl rfl rfl
theorem tabA_typ : ∀ k, k < 15 → tabA[k * 2 + 1]? = some (.int .i64 (typAt k)) := fifteen rfl rfl rfl rfl rfl rfl rfl rfl rfl rfl rfl rfl rfl rfl rfl
/-- the table of the fields -/
structure GlobF (w : World) : Prop where
  row : ∃ t fr, w.heap[0]? = some (.cells tabA t fr)
theorem GlobF.name {w : World} (h : GlobF w) (i : Nat) (hi : i < 15) : w.cell? ⟨0, i * 2, none⟩ = some (.string (nameAt i)) := by
  obtain ⟨t, fr, hr⟩ := h.row
  rw [← tabA_name i hi]; simp [World.cell?, hr]
theorem GlobF.typ {w : World} (h : GlobF w) (i : Nat) (hi : i < 15) : w.cell? ⟨0, i * 2 + 1, none⟩ = some (.int .i64 (typAt i)) := by
  obtain ⟨t, fr, hr⟩ := h.row
  rw [← tabA_typ i hi]; simp [World.cell?, hr]
theorem GlobF.size {w : World} (h : GlobF w) : 0 < w.heap.size := by
  obtain ⟨t, fr, hr⟩ := h.row
  exact (Array.getElem?_eq_some_iff.1 hr).1
theorem GlobF.step {w w' : World} (h : GlobF w) (b : Below w.heap.size w w') : GlobF w' where
  row := by
    obtain ⟨t, fr, hr⟩ := h.row
    exact ⟨t, fr, by rw [b.block 0 h.size]; exact hr⟩
theorem lt_of_cell {w : World} {g : Nat} {o : Nat} {v : Value} (h : w.cell? ⟨g, o, none⟩ = some v) : g < w.heap.size := by
  unfold World.cell? at h
  split at h
  · rename_i hr; exact (Array.getElem?_eq_some_iff.1 hr).1
  · cases h
/-- and the error -/
structure Glob (w : World) : Prop extends GlobF w where
  err : ∃ a : Addr, w.cell? ⟨1, 0, none⟩ = some (.iface 128 (.pointer (some a)))
theorem Glob.step {w w' : World} (h : Glob w) (b : Below w.heap.size w w') : Glob w' where
  toGlobF := h.toGlobF.step b
  err := by
    obtain ⟨a, ha⟩ := h.err
    exact ⟨a, by rw [b.cell (p := ⟨1, 0, none⟩) (lt_of_cell ha)]; exact ha⟩
end Go.Proofs.YtoamflnkaaconaaDoor.X
