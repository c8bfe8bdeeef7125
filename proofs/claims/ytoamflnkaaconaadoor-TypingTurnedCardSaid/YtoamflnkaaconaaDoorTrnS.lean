/- The law TypingTurned walked at every query that came in. -/
import Derived.Test.YtoamflnkaaconaaDoorTrnR
import Derived.Test.YtoamflnkaaconaaDoorQry
namespace Go.Proofs.YtoamflnkaaconaaDoor
set_option linter.unusedVariables false
open Go.RowKit X
theorem turned_walk (A0 : Option Addr) (c0 : Nat) (l0 : List S37) (wh : Int) (A2 : Option Addr) (c2 : Nat) (l2 : List Int) (A3 : Option Addr) (c3 : Nat) (l3 : List S47) (A4 : Option Addr) (c4 : Nat) (l4 : List S69) (lim a1 : Int) (W : World)
    (Q : Qry W A0 c0 l0 wh A2 c2 l2 A3 c3 l3 A4 c4 l4 lim) (w1 : I64 a1) (G : X.Glob W) :
    Calls Tryd.prog 5 #[qv A0 c0 l0 wh A2 c2 l2 A3 c3 l3 A4 c4 l4 lim, .int .i64 a1] W fun e W' => e = .returned (.bool true) ∧ Below W.heap.size W W' :=
  X.daybooklaw14_TypingTurned.calls ((l2.length + l3.length + 2) + 1) A0 c0 l0 wh A2 c2 l2 A3 c3 l3 A4 c4 l4 lim a1 true W Q.r0 Q.s0 Q.r2 Q.s2 Q.r3 Q.s3 Q.r4 Q.s4
    (turned_law l0 wh l2 l3 l4 lim a1 (by have := Q.n0; omega) (by have := Q.n2; omega) (by have := Q.n3; omega) (by have := Q.n4; omega) (by have := Q.n2; have := Q.n3; omega)) G
end Go.Proofs.YtoamflnkaaconaaDoor
