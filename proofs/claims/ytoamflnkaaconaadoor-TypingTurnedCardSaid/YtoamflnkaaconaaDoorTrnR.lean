/- The law TypingTurned in plain Lean: it answers true. -/
import Derived.Test.YtoamflnkaaconaaDoorTrnQ
import Derived.Test.YtoamflnkaaconaaDoorX21
namespace Go.Proofs.YtoamflnkaaconaaDoor.X
set_option linter.unusedVariables false
set_option linter.unusedSimpArgs false
open Go.Proofs.YtoamflnkaaconaaDoorW.PrintWords Go.RowKit

theorem rd_set (l : List S37) (i : Int) (n : S37) (h0 : 0 ≤ i) (h : i < l.length) : rd_T37 (l.set i.toNat n) i = n := by
  unfold rd_T37
  rw [List.getD_eq_getElem?_getD, List.getElem?_set_self (by omega)]; rfl
theorem turned_law (l0 : List S37) (a : Int) (l2 : List Int) (l3 : List S47) (l4 : List S69) (b at_ : Int)
    (h0 : l0.length < 2513169434916) (h2 : l2.length < 17592186044416) (h3 : l3.length < 8796093022208) (h4 : l4.length < 8796093022208) (h23 : l2.length + l3.length < 28147497670000) :
    daybooklaw14_TypingTurned.f ((l2.length + l3.length + 2) + 1) l0 a l2 l3 l4 b at_ = some true := by
  unfold daybooklaw14_TypingTurned.f
  rw [first_is, Option.bind_some, twin_is l0 a l2 l3 l4 b h0 h2 h3 h4, Option.bind_some]
  by_cases n0 : at_ < 0
  · rw [if_pos n0]; simp only [daybooklaw14_TypingTurned.j0]; rw [if_pos trivial]
  rw [if_neg n0]
  by_cases n1 : at_ ≥ (l0.length : Int)
  · have e : decide (at_ ≥ (l0.length : Int)) = true := decide_eq_true n1
    simp only [e]; simp only [daybooklaw14_TypingTurned.j0]; rw [if_pos trivial]
  have e : decide (at_ ≥ (l0.length : Int)) = false := decide_eq_false n1
  simp only [e]
  simp only [daybooklaw14_TypingTurned.j0]
  rw [if_neg (by simp), if_pos (by omega), if_pos (by omega)]
  rw [show l2.length + l3.length + 2 = (l2.length + l3.length + 1) + 1 by omega, turned_is, Option.bind_some]
  have hrd : rd_T37 l0 at_ = l0.getD at_.toNat z37 := rfl
  cases ht : turnP (rd_T37 l0 at_).f0 with
  | none => rfl
  | some o =>
    simp only [if_true, Option.bind_some]
    rw [if_pos (by omega)]
    rw [rd_set l0 at_ _ (by omega) (by omega)]
    simp only [List.set_set]
    rw [rd_set l0 at_ _ (by omega) (by omega)]
    simp only [List.set_set]
    have hts := tys_set l0 at_.toNat ⟨o, (rd_T37 l0 at_).f2, (rd_T37 l0 at_).f1, (rd_T37 l0 at_).f3, (rd_T37 l0 at_).f4, (rd_T37 l0 at_).f5⟩ (by omega) (by
      rw [← hrd]
      exact tyAt_turn _ o ht _ (tys_in _))
    have := like_is 1 _ l0 a l2 l3 l4 b (by rw [List.length_set]; omega) (by omega) h23 hts
    rw [show l2.length + l3.length + 1 + 1 = l2.length + l3.length + 1 + 1 by rfl] at this
    rw [this]
    rfl
end Go.Proofs.YtoamflnkaaconaaDoor.X
