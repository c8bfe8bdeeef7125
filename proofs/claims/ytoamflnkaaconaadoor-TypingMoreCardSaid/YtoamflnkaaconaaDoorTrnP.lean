/- The law TypingTurned in plain Lean: what the printed functions answer. -/
import Derived.Test.YtoamflnkaaconaaDoorTrnd
import Derived.Test.YtoamflnkaaconaaDoorX4
namespace Go.Proofs.YtoamflnkaaconaaDoor.X
set_option linter.unusedVariables false
set_option linter.unusedSimpArgs false
open Go.Proofs.YtoamflnkaaconaaDoorW.PrintWords Go.RowKit

theorem sameInts_l0 (l : List Int) (hl : l.length < 4611686018427387904) : ∀ (d e i : Nat), i + d = l.length → daybooklaw14_sameInts.l0 (d + e + 1) l l (i : Int) = some true
  | 0, e, i, h => by
    unfold daybooklaw14_sameInts.l0
    rw [if_neg (by omega)]
  | d + 1, e, i, h => by
    rw [show d + 1 + e + 1 = (d + e + 1) + 1 by omega]
    unfold daybooklaw14_sameInts.l0
    rw [if_pos (by omega), if_pos (by omega), if_pos (by omega), if_pos rfl]
    have ew : wrap64 ((i : Int) + 1) = ((i + 1 : Nat) : Int) := by unfold wrap64; omega
    rw [ew]
    exact sameInts_l0 l hl d e (i + 1) (by omega)
theorem sameInts_same (l : List Int) (hl : l.length < 4611686018427387904) (e : Nat) : daybooklaw14_sameInts.f (l.length + e + 1) l l = some true := by
  unfold daybooklaw14_sameInts.f
  rw [if_pos rfl]
  exact sameInts_l0 l hl l.length e 0 (by omega)
theorem twin_is (l0 : List S37) (a : Int) (l2 : List Int) (l3 : List S47) (l4 : List S69) (b : Int) (h0 : l0.length < 2513169434916) (h2 : l2.length < 17592186044416) (h3 : l3.length < 8796093022208) (h4 : l4.length < 8796093022208) :
    daybooklaw14_twin.f l0 a l2 l3 l4 b = some (l0, a, l2, l3, l4, b) := by
  simp [daybooklaw14_twin.f, h0, h2, h3, h4]
theorem turned_is (k : Nat) (op : Int) : daybooklaw14_turned.f (k + 1) op = some (match turnP op with | some o => (o, true) | none => (op, false)) := by
  unfold daybooklaw14_turned.f turnP
  by_cases h4 : op = 4
  · subst h4; rfl
  by_cases h5 : op = 5
  · subst h5; rfl
  by_cases h1 : op = 1
  · subst h1; rfl
  by_cases h2 : op = 2
  · subst h2; rfl
  by_cases h12 : op = 12
  · subst h12; rfl
  by_cases h14 : op = 14
  · subst h14; rfl
  by_cases h6 : op = 6
  · subst h6; rfl
  by_cases h8 : op = 8
  · subst h8; rfl
  by_cases h7 : op = 7
  · subst h7; rfl
  by_cases h9 : op = 9
  · subst h9; rfl
  simp [daybooklaw14_turned.j0, h4, h5, h1, h2, h12, h14, h6, h8, h7, h9]
end Go.Proofs.YtoamflnkaaconaaDoor.X
