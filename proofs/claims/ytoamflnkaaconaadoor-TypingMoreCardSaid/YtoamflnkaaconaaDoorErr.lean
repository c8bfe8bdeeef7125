/- Contracts of errors.Join (of two) and errors.Is, for the one sentinel of typing. -/
import Derived.Test.YtoamflnkaaconaaDoorHandField
import Derived.Test.YtoamflnkaaconaaDoorChecked
import Derived.LaidEql
import Derived.Stop.Asserts
import Derived.RowKitTokens
import Derived.OwnWalk
import Derived.Laws.AppendOwn
namespace Go.Proofs.YtoamflnkaaconaaDoor.X
set_option linter.unusedVariables false
set_option linter.unusedSimpArgs false
open Go.RowKit Go.Extern.Stop Go.Stop Go.Extern

/-- the sentinel, or errors joined of which the first leads to it -/
def Bad (w : World) (a : Addr) : Nat → Value → Prop
  | 0, v => v = .iface 128 (.pointer (some a))
  | d + 1, v => ∃ (p q c m : Nat) (v' : Value), v = .iface 107 (.pointer (some ⟨p, 0, none⟩)) ∧ w.cell? ⟨p, 0, none⟩ = some (.slice (some ⟨q, 0, none⟩) m c) ∧ 1 ≤ m ∧ m ≤ 2 ∧ w.cell? ⟨q, 0, none⟩ = some v' ∧ Bad w a d v'
theorem Bad.step {w w' : World} {a : Addr} (b : Below w.heap.size w w') : ∀ {d : Nat} {v : Value}, Bad w a d v → Bad w' a d v
  | 0, _, h => h
  | d + 1, _, h => by
    obtain ⟨p, q, c, m, v', rfl, h1, h2, h3, h4, h5⟩ := h
    exact ⟨p, q, c, m, v', rfl, by rw [b.cell (p := ⟨p, 0, none⟩) (lt_of_cell h1)]; exact h1, h2, h3, by rw [b.cell (p := ⟨q, 0, none⟩) (lt_of_cell h4)]; exact h4, Bad.step b h5⟩

/-! closed facts -/
theorem eTypeOf (v : Value) (w : World) : (Extern.ReflectliteType.typeOf #[.iface 128 v]).run Tryd.prog w = .ok (.iface 111 (.agg #[.pointer (some ⟨2, 128, none⟩)])) w := by kernel_rfl
theorem eComparable (w : World) : ((Extern.ReflectliteType.method fun t => do Extern.Rtype.noPackHeld "Comparable" t; (fun a => Value.bool a.comparable) <$> typeInfo t) #[.agg #[.pointer (some ⟨2, 128, none⟩)]]).run Tryd.prog w = .ok (.bool true) w := by kernel_rfl
theorem eComp : (Tryd.prog.info? 128).map (·.comparable) = some true := by kernel_rfl
theorem eSize : (Tryd.prog.info? 154).map (·.size) = some 1 := by kernel_rfl
theorem jNoIs (v : Value) (xT : TypeId) (w : World) : (Instr.typeAssert (.iface 107 v) xT 113 true).run Tryd.prog w = .ok (.tuple #[.nilIface, .bool false]) w := run_typeAssert_lacksB Tryd.underlying113 (by kernel_rfl) (by kernel_rfl) v xT w
theorem jNoUnwrap (v : Value) (xT : TypeId) (w : World) : (Instr.typeAssert (.iface 107 v) xT 116 true).run Tryd.prog w = .ok (.tuple #[.nilIface, .bool false]) w := run_typeAssert_lacksB Tryd.underlying116 (by kernel_rfl) (by kernel_rfl) v xT w
theorem jHasUnwraps (v : Value) (xT : TypeId) (w : World) : (Instr.typeAssert (.iface 107 v) xT 118 true).run Tryd.prog w = .ok (.tuple #[.iface 107 v, .bool true]) w := run_typeAssert_hasB Tryd.underlying118 (by kernel_rfl) v xT w
theorem jMethod (v : Value) (w : World) : (Go.method 266 107 v "Unwrap").run Tryd.prog w = .ok (78, v) w := by kernel_rfl

theorem unwrap_any (p : Nat) (v : Value) (w : World) (h1 : w.cell? ⟨p, 0, none⟩ = some v) (hv : ∃ A m c, v = .slice A m c) :
    Calls Tryd.prog 78 #[.pointer (some ⟨p, 0, none⟩)] w fun e w' => e = .returned v ∧ w = w' := by
  obtain ⟨A, m, c, rfl⟩ := hv
  go_enter Tryd.func78, Tryd.ntmps78
  go_wp2
  go_ret
  exact ⟨rfl, rfl⟩
set_option maxHeartbeats 1000000 in
theorem is0 (a : Addr) (w : World) :
    Calls Tryd.prog 44 #[.iface 128 (.pointer (some a)), .iface 128 (.pointer (some a)), .bool true] w fun e w' => e = .returned (.bool true) ∧ w = w' := by
  obtain ⟨i, hi, hcmp⟩ := Option.map_eq_some_iff.1 eComp
  obtain ⟨j, hj, hjs⟩ := Option.map_eq_some_iff.1 eSize
  have heq := run_eql_iface_ptr_same (P := Tryd.prog) w a Tryd.underlying62 Tryd.underlying128 hi hcmp hj
  go_enter Tryd.func44, Tryd.ntmps44
  go_wp2
  refine wp_loop_rounds 1 ?_
  rw [rounds_succ]
  go_wp2
  go_ret
  exact ⟨rfl, rfl⟩
set_option maxHeartbeats 2000000 in
set_option maxRecDepth 100000 in
theorem is_step (a : Addr) (w : World) (p q c m : Nat) (v' : Value) (h1 : w.cell? ⟨p, 0, none⟩ = some (.slice (some ⟨q, 0, none⟩) m c)) (h2 : 1 ≤ m) (h3 : m ≤ 2) (h4 : w.cell? ⟨q, 0, none⟩ = some v')
    (ih : Hid (Calls Tryd.prog 44 #[v', .iface 128 (.pointer (some a)), .bool true] w fun e w' => e = .returned (.bool true) ∧ w = w')) :
    Calls Tryd.prog 44 #[.iface 107 (.pointer (some ⟨p, 0, none⟩)), .iface 128 (.pointer (some a)), .bool true] w fun e w' => e = .returned (.bool true) ∧ w = w' := by
  have hty := run_eql_iface_types (P := Tryd.prog) 107 128 (.pointer (some ⟨p, 0, none⟩)) (.pointer (some a)) Tryd.underlying62 (by decide) w
  have f1 := jNoIs
  have f2 := jNoUnwrap
  have f3 := jHasUnwraps
  go_enter Tryd.func44, Tryd.ntmps44
  go_wp2
  refine wp_loop_rounds 1 ?_
  rw [rounds_succ]
  have f4 := jMethod
  have m1 : (0 : Int) < (m : Int) := by omega
  go_wp2_with fail
  refine (unwrap_any p _ _ h1 ⟨_, _, _, rfl⟩).mono ?_
  rintro e w' ⟨rfl, rfl⟩
  go_wp2_with fail
  refine wp_loop_rounds 1 ?_
  rw [rounds_succ]
  go_wp2_with fail
  refine ih.out.mono ?_
  rintro e w' ⟨rfl, rfl⟩
  go_wp2_with fail
  go_ret
  exact ⟨rfl, rfl⟩
theorem is_bad (a : Addr) : ∀ (d : Nat) (v : Value) (w : World), Bad w a d v → Calls Tryd.prog 44 #[v, .iface 128 (.pointer (some a)), .bool true] w fun e w' => e = .returned (.bool true) ∧ w = w'
  | 0, _, w, h => by
    have : _ = _ := h
    subst this
    exact is0 a w
  | d + 1, _, w, h => by
    obtain ⟨p, q, c, m, v', rfl, h1, h2, h3, h4, h5⟩ := h
    exact is_step a w p q c m v' h1 h2 h3 h4 (Lib.hid (is_bad a d v' w h5))
set_option maxHeartbeats 1000000 in
/-- errors.Is, of nothing -/
theorem isTop_nil (a : Addr) (w : World) :
    Calls Tryd.prog 26 #[.nilIface, .iface 128 (.pointer (some a))] w fun e w' => e = .returned (.bool false) ∧ w = w' := by
  have hn := run_eql_iface_nil_left (P := Tryd.prog) w 128 (.pointer (some a)) Tryd.underlying62
  go_enter Tryd.func26, Tryd.ntmps26
  go_wp2
  go_ret
  exact ⟨rfl, rfl⟩
set_option maxHeartbeats 1000000 in
set_option maxRecDepth 100000 in
/-- errors.Is, of what leads to the sentinel -/
theorem isTop_bad (a : Addr) (w : World) (d t : Nat) (u : Value) (h : Bad w a d (.iface t u)) :
    Calls Tryd.prog 26 #[.iface t u, .iface 128 (.pointer (some a))] w fun e w' => e = .returned (.bool true) ∧ w = w' := by
  have H := Lib.hid (is_bad a d _ w h)
  clear h
  have h8 := @run_callFunc_extern Tryd.prog 43 _ Extern.ReflectliteType.typeOf Tryd.func43 (by kernel_rfl) (by kernel_rfl) (by kernel_rfl) (by kernel_rfl)
  have h32 := @run_callFunc_extern Tryd.prog 82 _ (Extern.ReflectliteType.method fun t => do Go.Extern.Rtype.noPackHeld "Comparable" t; pure (.bool (← typeInfo t).comparable)) Tryd.func82 (by kernel_rfl) (by kernel_rfl) (by kernel_rfl) (by kernel_rfl)
  have eM : ∀ (v : Value) (w : World), (Go.method 266 111 v "Comparable").run Tryd.prog w = .ok (82, v) w := by intro v w; kernel_rfl
  have tT := eTypeOf
  have cT := eComparable
  go_enter Tryd.func26, Tryd.ntmps26
  go_wp2_with fail
  refine H.out.mono ?_
  rintro e w' ⟨rfl, rfl⟩
  go_wp2
  go_ret
  exact ⟨rfl, rfl⟩
end Go.Proofs.YtoamflnkaaconaaDoor.X
