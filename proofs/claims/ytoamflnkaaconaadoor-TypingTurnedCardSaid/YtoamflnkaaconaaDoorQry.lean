/- A query as an argument: opened by its kind, with its bounds. -/
import Derived.Test.YtoamflnkaaconaaDoorOpens
import Derived.Test.YtoamflnkaaconaaDoorX0
import Derived.Test.YtoamflnkaaconaaDoorProg
namespace Go.Proofs.YtoamflnkaaconaaDoor.X
set_option linter.unusedVariables false
set_option linter.unusedSimpArgs false
open Go.RowKit Go.Proofs.YtoamflnkaaconaaDoorW.PrintWords Go.Proofs.YtoamflnkaaconaaDoorW.PrintLast Go.WideShapes

abbrev I64 (n : Int) : Prop := (Lit.int IntKind.i64 n).wf = true
def ok37 (x : S37) : Prop := I64 x.f0 ∧ I64 x.f1 ∧ I64 x.f2 ∧ I64 x.f3 ∧ I64 x.f4 ∧ x.f5.size ≤ 140737488351232
def ok47 (x : S47) : Prop := I64 x.f0 ∧ I64 x.f1
def ok69 (x : S69) : Prop := I64 x.f0
theorem op_int : Opens Tryd.prog (Kd.int .i64) 3 I64 := Opens.int Tryd.underlying3 (by kernel_rfl)
theorem op_i64 {t : TypeId} (hu : Tryd.prog.underlying t = some (.int .i64)) (hc : Tryd.prog.cellsOf t = 1) : Opens Tryd.prog (Kd.int .i64) t I64 := Opens.int hu hc
theorem op37 : Opens Tryd.prog k37 37 ok37 :=
  have h1 := (OpensF.more rfl (op_i64 (by kernel_rfl) (by kernel_rfl)) (OpensF.more rfl (op_i64 (by kernel_rfl) (by kernel_rfl)) (OpensF.more rfl (op_i64 (by kernel_rfl) (by kernel_rfl)) (OpensF.more rfl (op_i64 (by kernel_rfl) (by kernel_rfl)) (OpensF.more rfl (op_i64 (by kernel_rfl) (by kernel_rfl)) (OpensF.one rfl (Opens.string (by kernel_rfl) (by kernel_rfl))))))))
  have h2 := Opens.struct Tryd.underlying37 rfl (by kernel_rfl) h1
  Opens.iso h2 _ (fun p => ⟨p.1, p.2.1, p.2.2.1, p.2.2.2.1, p.2.2.2.2.1, p.2.2.2.2.2⟩) (fun _ => rfl) (fun y h => h)
theorem op47 : Opens Tryd.prog k47 47 ok47 :=
  have h1 := (OpensF.more rfl (op_i64 (by kernel_rfl) (by kernel_rfl)) (OpensF.one rfl (op_i64 (by kernel_rfl) (by kernel_rfl))))
  have h2 := Opens.struct Tryd.underlying47 rfl (by kernel_rfl) h1
  Opens.iso h2 _ (fun p => ⟨p.1, p.2⟩) (fun _ => rfl) (fun y h => h)
theorem op69 : Opens Tryd.prog k69 69 ok69 :=
  have h1 := (OpensF.more rfl (op_i64 (by kernel_rfl) (by kernel_rfl)) (OpensF.one rfl (Opens.bool (by kernel_rfl) (by kernel_rfl))))
  have h2 := Opens.struct Tryd.underlying69 rfl (by kernel_rfl) h1
  Opens.iso h2 _ (fun p => ⟨p.1, p.2⟩) (fun _ => rfl) (fun y h => h.1)
/-- what is known of a query that came in -/
structure Qry (w : World) (A0 : Option Addr) (c0 : Nat) (l0 : List S37) (wh : Int) (A2 : Option Addr) (c2 : Nat) (l2 : List Int) (A3 : Option Addr) (c3 : Nat) (l3 : List S47) (A4 : Option Addr) (c4 : Nat) (l4 : List S69) (lim : Int) : Prop where
  r0 : Kd.C k37 w A0 l0.length l0
  s0 : l0.length ≤ c0
  r2 : Kd.C (Kd.int .i64) w A2 l2.length l2
  s2 : l2.length ≤ c2
  r3 : Kd.C k47 w A3 l3.length l3
  s3 : l3.length ≤ c3
  r4 : Kd.C k69 w A4 l4.length l4
  s4 : l4.length ≤ c4
  n0 : l0.length * 56 ≤ 140737488351232
  n2 : l2.length * 8 ≤ 140737488351232
  n3 : l3.length * 16 ≤ 140737488351232
  n4 : l4.length * 16 ≤ 140737488351232
  o0 : ∀ x ∈ l0, ok37 x
  o1 : I64 wh
  o2 : ∀ x ∈ l2, I64 x
  o3 : ∀ x ∈ l3, ok47 x
  o4 : ∀ x ∈ l4, ok69 x
  o5 : I64 lim
abbrev qv (A0 : Option Addr) (c0 : Nat) (l0 : List S37) (wh : Int) (A2 : Option Addr) (c2 : Nat) (l2 : List Int) (A3 : Option Addr) (c3 : Nat) (l3 : List S47) (A4 : Option Addr) (c4 : Nat) (l4 : List S69) (lim : Int) : Value := .agg #[.slice A0 l0.length c0, .int .i64 wh, .slice A2 l2.length c2, .slice A3 l3.length c3, .slice A4 l4.length c4, .int .i64 lim]
def ok32 (x : S32) : Prop := (x.f0.length * 56 ≤ 140737488351232 ∧ ∀ y ∈ x.f0, ok37 y) ∧ I64 x.f1 ∧ (x.f2.length * 8 ≤ 140737488351232 ∧ ∀ y ∈ x.f2, I64 y) ∧ (x.f3.length * 16 ≤ 140737488351232 ∧ ∀ y ∈ x.f3, ok47 y) ∧ (x.f4.length * 16 ≤ 140737488351232 ∧ ∀ y ∈ x.f4, ok69 y) ∧ I64 x.f5
set_option maxRecDepth 100000 in
theorem op32 : Opens Tryd.prog k32 32 ok32 :=
  have h1 := (OpensF.more rfl (Opens.slice (B := 56) (by kernel_rfl) (by kernel_rfl) (by kernel_rfl) op37) (OpensF.more rfl (op_i64 (by kernel_rfl) (by kernel_rfl)) (OpensF.more rfl (Opens.slice (B := 8) (by kernel_rfl) (by kernel_rfl) (by kernel_rfl) op_int) (OpensF.more rfl (Opens.slice (B := 16) (by kernel_rfl) (by kernel_rfl) (by kernel_rfl) op47) (OpensF.more rfl (Opens.slice (B := 16) (by kernel_rfl) (by kernel_rfl) (by kernel_rfl) op69) (OpensF.one rfl (op_i64 (by kernel_rfl) (by kernel_rfl))))))))
  have h2 := Opens.struct Tryd.underlying32 rfl (by kernel_rfl) h1
  Opens.iso h2 _ (fun p => ⟨p.1, p.2.1, p.2.2.1, p.2.2.2.1, p.2.2.2.2.1, p.2.2.2.2.2⟩) (fun _ => rfl) (fun y h => by obtain ⟨⟨a1, a2⟩, b, ⟨c1, c2⟩, ⟨d1, d2⟩, ⟨e1, e2⟩, f⟩ := h; exact ⟨⟨a1, a2⟩, b, ⟨c1, c2⟩, ⟨d1, d2⟩, ⟨e1, e2⟩, f⟩)
set_option maxRecDepth 100000 in
theorem open_query {H : Type} {enc : TypeId × Value → H} {w : World} {r : Reach} {b0 base : Nat} {sp : Nat → Bool} {held : Bool} {v : Value} {d : DataW H} {p : List MemPlace}
    (hv : Value.okWide Tryd.prog w r b0 32 v) (h : DataW.Trod enc Tryd.prog w base sp held 32 v d p) (hw : (d.weights Tryd.prog 32).all (· ≤ reachBytes) = true) :
    ∃ A0 c0 l0 wh A2 c2 l2 A3 c3 l3 A4 c4 l4 lim, v = qv A0 c0 l0 wh A2 c2 l2 A3 c3 l3 A4 c4 l4 lim ∧ Qry w A0 c0 l0 wh A2 c2 l2 A3 c3 l3 A4 c4 l4 lim := by
  obtain ⟨cs, rfl, hsz⟩ := okWide_struct (P := Tryd.prog) (t := 32) (v := v) Tryd.underlying32 hv
  obtain ⟨fuel, hf⟩ := h
  obtain ⟨x, hk, hok⟩ := op32.op hf hw
  obtain ⟨c1, c1', e1, ⟨A0, c0, rfl, s0, r0⟩, c2', c2'', rfl, rfl, c3', c3'', rfl, ⟨A2, c2, rfl, s2, r2⟩, c4', c4'', rfl, ⟨A3, c3, rfl, s3, r3⟩, c5', c5'', rfl, ⟨A4, c4, rfl, s4, r4⟩, rfl⟩ := hk
  obtain ⟨⟨n0, o0⟩, o1, ⟨n2, o2⟩, ⟨n3, o3⟩, ⟨n4, o4⟩, o5⟩ := hok
  refine ⟨A0, c0, x.f0, x.f1, A2, c2, x.f2, A3, c3, x.f3, A4, c4, x.f4, x.f5, ?_, ⟨r0, s0, r2, s2, r3, s3, r4, s4, n0, n2, n3, n4, o0, o1, o2, o3, o4, o5⟩⟩
  show Value.agg cs = _
  have : cs.toList = _ := e1
  congr 1
  rw [← Array.toList_inj, this]
  rfl
end Go.Proofs.YtoamflnkaaconaaDoor.X
