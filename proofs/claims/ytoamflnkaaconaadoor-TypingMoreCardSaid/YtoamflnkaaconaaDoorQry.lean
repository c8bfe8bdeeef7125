/- A query as an argument: opened by its kind, with its bounds. -/
import Derived.Test.YtoamflnkaaconaaDoorOpens
import Derived.Test.YtoamflnkaaconaaDoorX0
import Derived.Test.YtoamflnkaaconaaDoorProg
import Derived.Test.YtoamflnkaaconaaDoorTrnQ
namespace Go.Proofs.YtoamflnkaaconaaDoor.X
set_option linter.unusedVariables false
set_option linter.unusedSimpArgs false
open Go.RowKit Go.Proofs.YtoamflnkaaconaaDoorW.PrintWords Go.Proofs.YtoamflnkaaconaaDoorW.PrintLast Go.WideShapes

abbrev I64 (n : Int) : Prop := (Lit.int IntKind.i64 n).wf = true
def ok37 (x : S37) : Prop := I64 x.f0 ∧ I64 x.f1 ∧ I64 x.f2 ∧ I64 x.f3 ∧ I64 x.f4 ∧ x.f5.size ≤ 140737488351232
def ok47 (x : S47) : Prop := I64 x.f0 ∧ I64 x.f1
def ok69 (x : S69) : Prop := I64 x.f0
theorem op_int : Opens Tryd.prog (Kd.int .i64) 3 I64 := Opens.int Tryd.underlying3 (by kernel_rfl)
theorem op_i64 {t : TypeId} (hu : Tryd.prog.underlying t = some (.int .i64)) (hc : Tryd.prog.cellsOf t = 1) : Opens Tryd.prog (Kd.int .i64) t I64 := Opens.int hu hc
theorem op37 : Opens Tryd.prog k37 37 ok37 :=
  have h1 := (OpensF.more rfl (op_i64 (by kernel_rfl) (by kernel_rfl)) (OpensF.more rfl (op_i64 (by kernel_rfl) (by kernel_rfl)) (OpensF.more rfl (op_i64 (by kernel_rfl) (by kernel_rfl)) (OpensF.more rfl (op_i64 (by kernel_rfl) (by kernel_rfl)) (OpensF.more rfl (op_i64 (by kernel_rfl) (by kernel_rfl)) (OpensF.one rfl (Opens.string (by kernel_rfl) (by kernel_rfl))))))))
  have h2 := Opens.struct Tryd.underlying37 rfl (by kernel_rfl) h1
  Opens.iso h2 _ (fun p => ⟨p.1, p.2.1, p.2.2.1, p.2.2.2.1, p.2.2.2.2.1, p.2.2.2.2.2⟩) (fun _ => rfl) (fun y h => h)
theorem op47 : Opens Tryd.prog k47 47 ok47 :=
  have h1 := (OpensF.more rfl (op_i64 (by kernel_rfl) (by kernel_rfl)) (OpensF.one rfl (op_i64 (by kernel_rfl) (by kernel_rfl))))
  have h2 := Opens.struct Tryd.underlying47 rfl (by kernel_rfl) h1
  Opens.iso h2 _ (fun p => ⟨p.1, p.2⟩) (fun _ => rfl) (fun y h => h)
theorem op69 : Opens Tryd.prog k69 69 ok69 :=
  have h1 := (OpensF.more rfl (op_i64 (by kernel_rfl) (by kernel_rfl)) (OpensF.one rfl (Opens.bool (by kernel_rfl) (by kernel_rfl))))
  have h2 := Opens.struct Tryd.underlying69 rfl (by kernel_rfl) h1
  Opens.iso h2 _ (fun p => ⟨p.1, p.2⟩) (fun _ => rfl) (fun y h => h.1)
/-- what is known of a query that came in -/
structure Qry (w : World) (A0 : Option Addr) (c0 : Nat) (l0 : List S37) (wh : Int) (A2 : Option Addr) (c2 : Nat) (l2 : List Int) (A3 : Option Addr) (c3 : Nat) (l3 : List S47) (A4 : Option Addr) (c4 : Nat) (l4 : List S69) (lim : Int) : Prop where
  r0 : Kd.C k37 w A0 l0.length l0
  s0 : l0.length ≤ c0
  r2 : Kd.C (Kd.int .i64) w A2 l2.length l2
  s2 : l2.length ≤ c2
  r3 : Kd.C k47 w A3 l3.length l3
  s3 : l3.length ≤ c3
  r4 : Kd.C k69 w A4 l4.length l4
  s4 : l4.length ≤ c4
  n0 : l0.length * 56 ≤ 140737488351232
  n2 : l2.length * 8 ≤ 140737488351232
  n3 : l3.length * 16 ≤ 140737488351232
  n4 : l4.length * 16 ≤ 140737488351232
  o0 : ∀ x ∈ l0, ok37 x
  o1 : I64 wh
  o2 : ∀ x ∈ l2, I64 x
  o3 : ∀ x ∈ l3, ok47 x
  o4 : ∀ x ∈ l4, ok69 x
  o5 : I64 lim
abbrev qv (A0 : Option Addr) (c0 : Nat) (l0 : List S37) (wh : Int) (A2 : Option Addr) (c2 : Nat) (l2 : List Int) (A3 : Option Addr) (c3 : Nat) (l3 : List S47) (A4 : Option Addr) (c4 : Nat) (l4 : List S69) (lim : Int) : Value := .agg #[.slice A0 l0.length c0, .int .i64 wh, .slice A2 l2.length c2, .slice A3 l3.length c3, .slice A4 l4.length c4, .int .i64 lim]
def ok32 (x : S32) : Prop := (x.f0.length * 56 ≤ 140737488351232 ∧ ∀ y ∈ x.f0, ok37 y) ∧ I64 x.f1 ∧ (x.f2.length * 8 ≤ 140737488351232 ∧ ∀ y ∈ x.f2, I64 y) ∧ (x.f3.length * 16 ≤ 140737488351232 ∧ ∀ y ∈ x.f3, ok47 y) ∧ (x.f4.length * 16 ≤ 140737488351232 ∧ ∀ y ∈ x.f4, ok69 y) ∧ I64 x.f5
set_option maxRecDepth 100000 in
theorem op32 : Opens Tryd.prog k32 32 ok32 :=
  have h1 := (OpensF.more rfl (Opens.slice (B := 56) (by kernel_rfl) (by kernel_rfl) (by kernel_rfl) op37) (OpensF.more rfl (op_i64 (by kernel_rfl) (by kernel_rfl)) (OpensF.more rfl (Opens.slice (B := 8) (by kernel_rfl) (by kernel_rfl) (by kernel_rfl) op_int) (OpensF.more rfl (Opens.slice (B := 16) (by kernel_rfl) (by kernel_rfl) (by kernel_rfl) op47) (OpensF.more rfl (Opens.slice (B := 16) (by kernel_rfl) (by kernel_rfl) (by kernel_rfl) op69) (OpensF.one rfl (op_i64 (by kernel_rfl) (by kernel_rfl))))))))
  have h2 := Opens.struct Tryd.underlying32 rfl (by kernel_rfl) h1
  Opens.iso h2 _ (fun p => ⟨p.1, p.2.1, p.2.2.1, p.2.2.2.1, p.2.2.2.2.1, p.2.2.2.2.2⟩) (fun _ => rfl) (fun y h => by obtain ⟨⟨a1, a2⟩, b, ⟨c1, c2⟩, ⟨d1, d2⟩, ⟨e1, e2⟩, f⟩ := h; exact ⟨⟨a1, a2⟩, b, ⟨c1, c2⟩, ⟨d1, d2⟩, ⟨e1, e2⟩, f⟩)
set_option maxRecDepth 100000 in
theorem open_query {H : Type} {enc : TypeId × Value → H} {w : World} {r : Reach} {b0 base : Nat} {sp : Nat → Bool} {held : Bool} {v : Value} {d : DataW H} {p : List MemPlace}
    (hv : Value.okWide Tryd.prog w r b0 32 v) (h : DataW.Trod enc Tryd.prog w base sp held 32 v d p) (hw : (d.weights Tryd.prog 32).all (· ≤ reachBytes) = true) :
    ∃ A0 c0 l0 wh A2 c2 l2 A3 c3 l3 A4 c4 l4 lim, v = qv A0 c0 l0 wh A2 c2 l2 A3 c3 l3 A4 c4 l4 lim ∧ Qry w A0 c0 l0 wh A2 c2 l2 A3 c3 l3 A4 c4 l4 lim := by
  obtain ⟨cs, rfl, hsz⟩ := okWide_struct (P := Tryd.prog) (t := 32) (v := v) Tryd.underlying32 hv
  obtain ⟨fuel, hf⟩ := h
  obtain ⟨x, hk, hok⟩ := op32.op hf hw
  obtain ⟨c1, c1', e1, ⟨A0, c0, rfl, s0, r0⟩, c2', c2'', rfl, rfl, c3', c3'', rfl, ⟨A2, c2, rfl, s2, r2⟩, c4', c4'', rfl, ⟨A3, c3, rfl, s3, r3⟩, c5', c5'', rfl, ⟨A4, c4, rfl, s4, r4⟩, rfl⟩ := hk
  obtain ⟨⟨n0, o0⟩, o1, ⟨n2, o2⟩, ⟨n3, o3⟩, ⟨n4, o4⟩, o5⟩ := hok
  refine ⟨A0, c0, x.f0, x.f1, A2, c2, x.f2, A3, c3, x.f3, A4, c4, x.f4, x.f5, ?_, ⟨r0, s0, r2, s2, r3, s3, r4, s4, n0, n2, n3, n4, o0, o1, o2, o3, o4, o5⟩⟩
  show Value.agg cs = _
  have : cs.toList = _ := e1
  congr 1
  rw [← Array.toList_inj, this]
  rfl
end Go.Proofs.YtoamflnkaaconaaDoor.X

namespace Go.Proofs.YtoamflnkaaconaaDoor.X
set_option linter.unusedVariables false
set_option linter.unusedSimpArgs false
open Go.RowKit Go.Proofs.YtoamflnkaaconaaDoorW.PrintWords

/-- a query's lists, as the world holds them -/
structure QC (w : World) (A0 : Option Addr) (c0 : Nat) (l0 : List S37) (A2 : Option Addr) (c2 : Nat) (l2 : List Int) (A3 : Option Addr) (c3 : Nat) (l3 : List S47) (A4 : Option Addr) (c4 : Nat) (l4 : List S69) : Prop where
  r0 : Kd.C k37 w A0 l0.length l0
  s0 : l0.length ≤ c0
  r2 : Kd.C (Kd.int .i64) w A2 l2.length l2
  s2 : l2.length ≤ c2
  r3 : Kd.C k47 w A3 l3.length l3
  s3 : l3.length ≤ c3
  r4 : Kd.C k69 w A4 l4.length l4
  s4 : l4.length ≤ c4
section
variable {w w' : World} {A0 : Option Addr} {c0 : Nat} {l0 : List S37} {A2 : Option Addr} {c2 : Nat} {l2 : List Int} {A3 : Option Addr} {c3 : Nat} {l3 : List S47} {A4 : Option Addr} {c4 : Nat} {l4 : List S69}
theorem QC.step (h : QC w A0 c0 l0 A2 c2 l2 A3 c3 l3 A4 c4 l4) (b : Below w.heap.size w w') : QC w' A0 c0 l0 A2 c2 l2 A3 c3 l3 A4 c4 l4 :=
  ⟨Kd.C_below h.r0 b, h.s0, Kd.C_below h.r2 b, h.s2, Kd.C_below h.r3 b, h.s3, Kd.C_below h.r4 b, h.s4⟩
theorem Qry.qc {wh lim : Int} (h : Qry w A0 c0 l0 wh A2 c2 l2 A3 c3 l3 A4 c4 l4 lim) : QC w A0 c0 l0 A2 c2 l2 A3 c3 l3 A4 c4 l4 := ⟨h.r0, h.s0, h.r2, h.s2, h.r3, h.s3, h.r4, h.s4⟩
/-- sizes within which all is answered -/
structure Sz (a b c d : Nat) : Prop where
  n0 : a < 2513169434916
  n2 : b < 17592186044416
  n3 : c < 8796093022208
  n4 : d < 8796093022208
  n5 : b + c < 28147497670000
theorem Qry.sz {wh lim : Int} (h : Qry w A0 c0 l0 wh A2 c2 l2 A3 c3 l3 A4 c4 l4 lim) : Sz l0.length l2.length l3.length l4.length := by
  have := h.n0; have := h.n2; have := h.n3; have := h.n4
  exact ⟨by omega, by omega, by omega, by omega, by omega⟩
/-- a query of the call's own -/
structure QR (w : World) (base : Nat) (v0 v2 v3 v4 : Value) (l0 : List S37) (l2 : List Int) (l3 : List S47) (l4 : List S69) : Prop where
  r0 : Kd.R k37 37 w base (fun _ => True) v0 l0
  r2 : Kd.R (Kd.int .i64) 3 w base (fun _ => True) v2 l2
  r3 : Kd.R k47 47 w base (fun _ => True) v3 l3
  r4 : Kd.R k69 69 w base (fun _ => True) v4 l4
theorem QR.form {base : Nat} {v0 v2 v3 v4 : Value} (h : QR w base v0 v2 v3 v4 l0 l2 l3 l4) :
    ∃ A0 c0 A2 c2 A3 c3 A4 c4, v0 = .slice A0 l0.length c0 ∧ v2 = .slice A2 l2.length c2 ∧ v3 = .slice A3 l3.length c3 ∧ v4 = .slice A4 l4.length c4 ∧ QC w A0 c0 l0 A2 c2 l2 A3 c3 l3 A4 c4 l4 := by
  obtain ⟨h0, h2, h3, h4⟩ := h
  obtain ⟨A0, c0, rfl⟩ := Kd.R_slice h0
  obtain ⟨A2, c2, rfl⟩ := Kd.R_slice h2
  obtain ⟨A3, c3, rfl⟩ := Kd.R_slice h3
  obtain ⟨A4, c4, rfl⟩ := Kd.R_slice h4
  have r0 := Kd.R_reads' h0
  have r2 := Kd.R_reads' h2
  have r3 := Kd.R_reads' h3
  have r4 := Kd.R_reads' h4
  exact ⟨A0, c0, A2, c2, A3, c3, A4, c4, rfl, rfl, rfl, rfl, ⟨r0.2.2, r0.2.1, r2.2.2, r2.2.1, r3.2.2, r3.2.1, r4.2.2, r4.2.1⟩⟩
theorem twin_any (wh lim : Int) (Q : QC w A0 c0 l0 A2 c2 l2 A3 c3 l3 A4 c4 l4) (S : Sz l0.length l2.length l3.length l4.length) :
    Calls Tryd.prog 14 #[qv A0 c0 l0 wh A2 c2 l2 A3 c3 l3 A4 c4 l4 lim] w fun e w' => ∃ v0 v2 v3 v4, e = .returned (.agg #[v0, .int .i64 wh, v2, v3, v4, .int .i64 lim]) ∧ QR w' w.heap.size v0 v2 v3 v4 l0 l2 l3 l4 ∧ Below w.heap.size w w' :=
  (daybooklaw14_twin.calls A0 c0 l0 wh A2 c2 l2 A3 c3 l3 A4 c4 l4 lim l0 wh l2 l3 l4 lim w Q.r0 Q.s0 Q.r2 Q.s2 Q.r3 Q.s3 Q.r4 Q.s4 (twin_is l0 wh l2 l3 l4 lim S.n0 S.n2 S.n3 S.n4)).mono
    fun e w' ⟨v0, v2, v3, v4, he, h0, h2, h3, h4, hb⟩ => ⟨v0, v2, v3, v4, he, ⟨h0, h2, h3, h4⟩, hb⟩
/-- the copy as one that is read -/
theorem twin_c (wh lim : Int) (Q : QC w A0 c0 l0 A2 c2 l2 A3 c3 l3 A4 c4 l4) (S : Sz l0.length l2.length l3.length l4.length) :
    Calls Tryd.prog 14 #[qv A0 c0 l0 wh A2 c2 l2 A3 c3 l3 A4 c4 l4 lim] w fun e w' => ∃ B0 d0 B2 d2 B3 d3 B4 d4, e = .returned (qv B0 d0 l0 wh B2 d2 l2 B3 d3 l3 B4 d4 l4 lim) ∧ QC w' B0 d0 l0 B2 d2 l2 B3 d3 l3 B4 d4 l4 ∧ Below w.heap.size w w' :=
  (twin_any wh lim Q S).mono fun e w' ⟨v0, v2, v3, v4, he, h, hb⟩ => by
    obtain ⟨B0, d0, B2, d2, B3, d3, B4, d4, rfl, rfl, rfl, rfl, hq⟩ := h.form
    exact ⟨B0, d0, B2, d2, B3, d3, B4, d4, he, hq, hb⟩
theorem check_q (wh lim : Int) (Q : QC w A0 c0 l0 A2 c2 l2 A3 c3 l3 A4 c4 l4) (h0 : l0.length < 17592186044416) (h2 : l2.length + l3.length < 28147497670000) (G : Glob w) :
    Calls Tryd.prog 17 #[qv A0 c0 l0 wh A2 c2 l2 A3 c3 l3 A4 c4 l4 lim] w fun e w' => ∃ B d, e = .returned (.tuple #[.slice B (chkP l0 wh l2 l3 l4 lim).1.length d, .int .i64 (chkP l0 wh l2 l3 l4 lim).2]) ∧ Kd.R (Kd.int .i64) 3 w' w.heap.size (fun _ => True) (.slice B (chkP l0 wh l2 l3 l4 lim).1.length d) (chkP l0 wh l2 l3 l4 lim).1 ∧ Below w.heap.size w w' :=
  (check_any A0 c0 l0 wh A2 c2 l2 A3 c3 l3 A4 c4 l4 lim w G Q.r0 Q.r2 Q.r3 Q.r4 h0 h2).mono fun e w' ⟨v, he, hr, hb⟩ => by
    obtain ⟨B, d, rfl⟩ := Kd.R_slice hr
    exact ⟨B, d, he, hr, hb⟩
theorem like_q {B0 : Option Addr} {d0 : Nat} {m0 : List S37} {B2 : Option Addr} {d2 : Nat} {m2 : List Int} {B3 : Option Addr} {d3 : Nat} {m3 : List S47} {B4 : Option Addr} {d4 : Nat} {m4 : List S69} {k : Nat} {r : Bool} (wh lim wh' lim' : Int)
    (Q : QC w A0 c0 l0 A2 c2 l2 A3 c3 l3 A4 c4 l4) (Q' : QC w B0 d0 m0 B2 d2 m2 B3 d3 m3 B4 d4 m4) (h : daybooklaw14_like.f k l0 wh l2 l3 l4 lim m0 wh' m2 m3 m4 lim' = some r) (G : Glob w) :
    Calls Tryd.prog 15 #[qv A0 c0 l0 wh A2 c2 l2 A3 c3 l3 A4 c4 l4 lim, qv B0 d0 m0 wh' B2 d2 m2 B3 d3 m3 B4 d4 m4 lim'] w fun e w' => e = .returned (.bool r) ∧ Below w.heap.size w w' :=
  daybooklaw14_like.calls k A0 c0 l0 wh A2 c2 l2 A3 c3 l3 A4 c4 l4 lim B0 d0 m0 wh' B2 d2 m2 B3 d3 m3 B4 d4 m4 lim' r w Q.r0 Q.s0 Q.r2 Q.s2 Q.r3 Q.s3 Q.r4 Q.s4 Q'.r0 Q'.s0 Q'.r2 Q'.s2 Q'.r3 Q'.s3 Q'.r4 Q'.s4 h G
end
theorem first_q (w : World) (G : Glob w) : Calls Tryd.prog 13 #[] w fun e w' => e = .returned (.bool true) ∧ Below w.heap.size w w' := daybooklaw14_first.calls true w first_is G
/-- the cells of a boxed query -/
theorem box6 {w : World} {g : Nat} {v0 v1 v2 v3 v4 v5 : Value} {t : TypeId} {fr : Nat × Nat} (h : w.heap[g]? = some (.cells #[v0, v1, v2, v3, v4, v5] t fr)) :
    w.cell? ⟨g, 0, none⟩ = some v0 ∧ w.cell? ⟨g, 1, none⟩ = some v1 ∧ w.cell? ⟨g, 2, none⟩ = some v2 ∧ w.cell? ⟨g, 3, none⟩ = some v3 ∧ w.cell? ⟨g, 4, none⟩ = some v4 ∧ w.cell? ⟨g, 5, none⟩ = some v5 := by
  simp only [World.cell?, h]
  exact ⟨rfl, rfl, rfl, rfl, rfl, rfl⟩
/-- what stands while the law runs: the boxed query, its lists, the variables -/
structure Fr (w0 : World) (A0 : Option Addr) (c0 : Nat) (l0 : List S37) (wh : Int) (A2 : Option Addr) (c2 : Nat) (l2 : List Int) (A3 : Option Addr) (c3 : Nat) (l3 : List S47) (A4 : Option Addr) (c4 : Nat) (l4 : List S69) (lim : Int) (w : World) : Prop where
  below : Below w0.heap.size w0 w
  box : w.heap[w0.heap.size]? = some (.cells #[.slice A0 l0.length c0, .int .i64 wh, .slice A2 l2.length c2, .slice A3 l3.length c3, .slice A4 l4.length c4, .int .i64 lim] 32 (0, 0))
  qc : QC w A0 c0 l0 A2 c2 l2 A3 c3 l3 A4 c4 l4
  glob : Glob w
theorem Fr.step {w0 : World} {A0 : Option Addr} {c0 : Nat} {l0 : List S37} {wh : Int} {A2 : Option Addr} {c2 : Nat} {l2 : List Int} {A3 : Option Addr} {c3 : Nat} {l3 : List S47} {A4 : Option Addr} {c4 : Nat} {l4 : List S69} {lim : Int} {w w' : World}
    (h : Fr w0 A0 c0 l0 wh A2 c2 l2 A3 c3 l3 A4 c4 l4 lim w) (b : Below w.heap.size w w') : Fr w0 A0 c0 l0 wh A2 c2 l2 A3 c3 l3 A4 c4 l4 lim w' :=
  ⟨fm_call h.below b, by rw [b.block _ ((Array.getElem?_eq_some_iff.1 h.box).1)]; exact h.box, h.qc.step b, h.glob.step b⟩
theorem Fr.start {w0 : World} {A0 : Option Addr} {c0 : Nat} {l0 : List S37} {wh : Int} {A2 : Option Addr} {c2 : Nat} {l2 : List Int} {A3 : Option Addr} {c3 : Nat} {l3 : List S47} {A4 : Option Addr} {c4 : Nat} {l4 : List S69} {lim : Int}
    (q : QC w0 A0 c0 l0 A2 c2 l2 A3 c3 l3 A4 c4 l4) (g : Glob w0) : Fr w0 A0 c0 l0 wh A2 c2 l2 A3 c3 l3 A4 c4 l4 lim (w0.alloc (.cells #[.slice A0 l0.length c0, .int .i64 wh, .slice A2 l2.length c2, .slice A3 l3.length c3, .slice A4 l4.length c4, .int .i64 lim] 32)) :=
  have b := fm_alloc (Below.refl _ w0) (.cells #[.slice A0 l0.length c0, .int .i64 wh, .slice A2 l2.length c2, .slice A3 l3.length c3, .slice A4 l4.length c4, .int .i64 lim] 32)
  ⟨b, heap_alloc_new w0 _, q.step b, g.step b⟩
end Go.Proofs.YtoamflnkaaconaaDoor.X
