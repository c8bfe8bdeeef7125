/- The law TypingTurned in plain Lean, joined.. -/
import Derived.Test.YtoamflnkaaconaaDoorTrnP
import Derived.Test.YtoamflnkaaconaaDoorX20
namespace Go.Proofs.YtoamflnkaaconaaDoor.X
set_option linter.unusedVariables false
set_option linter.unusedSimpArgs false
open Go.Proofs.YtoamflnkaaconaaDoorW.PrintWords Go.RowKit

theorem first_is : daybooklaw14_first.f = some true := by decide +kernel
theorem chk_len (ns : List S37) (wh : Int) (b : List Int) (s : List S47) (o : List S69) (lim : Int) : (chkP ns wh b s o lim).1.length ≤ b.length + s.length := by
  unfold chkP
  split
  · simp
  · split
    · simp [colsP]
    · simp
theorem like_is (k : Nat) (l0 m0 : List S37) (a : Int) (l2 : List Int) (l3 : List S47) (l4 : List S69) (b : Int) (h0 : l0.length < 17592186044416) (h1 : m0.length < 17592186044416) (h2 : l2.length + l3.length < 28147497670000) (ht : tys l0 = tys m0) :
    daybooklaw14_like.f (l2.length + l3.length + k + 1) l0 a l2 l3 l4 b m0 a l2 l3 l4 b = some true := by
  have e1 : typing_Check.f l0 a l2 l3 l4 b = some (chkP m0 a l2 l3 l4 b) := by unfold typing_Check.f; rw [if_pos ⟨h0, h2⟩, chk_types ht]
  have e2 : typing_Check.f m0 a l2 l3 l4 b = some (chkP m0 a l2 l3 l4 b) := by unfold typing_Check.f; rw [if_pos ⟨h1, h2⟩]
  unfold daybooklaw14_like.f
  rw [e1, Option.bind_some, e2, Option.bind_some, if_pos rfl]
  have hl := chk_len m0 a l2 l3 l4 b
  have := sameInts_same (chkP m0 a l2 l3 l4 b).1 (by omega) (l2.length + l3.length + k - (chkP m0 a l2 l3 l4 b).1.length)
  rw [show (chkP m0 a l2 l3 l4 b).1.length + (l2.length + l3.length + k - (chkP m0 a l2 l3 l4 b).1.length) + 1 = l2.length + l3.length + k + 1 by omega] at this
  rw [this, Option.bind_some]
end Go.Proofs.YtoamflnkaaconaaDoor.X
