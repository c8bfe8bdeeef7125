/- A copied query whose nodes are written over: its lists, its block, the stores. The law TypingParts in plain Lean. -/
import Derived.Test.YtoamflnkaaconaaDoorQry
namespace Go.Proofs.YtoamflnkaaconaaDoor.X
set_option linter.unusedVariables false
set_option linter.unusedSimpArgs false
open Go.RowKit Go.Proofs.YtoamflnkaaconaaDoorW.PrintWords

theorem QR.alloc {w : World} {base : Nat} {v0 v2 v3 v4 : Value} {l0 : List S37} {l2 : List Int} {l3 : List S47} {l4 : List S69} (h : QR w base v0 v2 v3 v4 l0 l2 l3 l4) (o : Obj) : QR (w.alloc o) base v0 v2 v3 v4 l0 l2 l3 l4 :=
  ⟨Kd.R_alloc h.r0 o, Kd.R_alloc h.r2 o, Kd.R_alloc h.r3 o, Kd.R_alloc h.r4 o⟩
theorem QR.below {w w' : World} {base : Nat} {v0 v2 v3 v4 : Value} {l0 : List S37} {l2 : List Int} {l3 : List S47} {l4 : List S69} (h : QR w base v0 v2 v3 v4 l0 l2 l3 l4) (b : Below w.heap.size w w') : QR w' base v0 v2 v3 v4 l0 l2 l3 l4 :=
  ⟨Kd.R_below h.r0 b, Kd.R_below h.r2 b, Kd.R_below h.r3 b, Kd.R_below h.r4 b⟩
/-- the copy: its lists are the call's own, its block g9 -/
structure PS (w6 : World) (g9 g cap : Nat) (v2 v3 v4 : Value) (x1 x5 : Int) (l0 : List S37) (l2 : List Int) (l3 : List S47) (l4 : List S69) (w : World) : Prop where
  below : Below w6.heap.size w6 w
  qr : QR w w6.heap.size (.slice (some ⟨g, 0, none⟩) l0.length cap) v2 v3 v4 l0 l2 l3 l4
  g0 : w6.heap.size ≤ g
  g1 : g < g9
  box : w.heap[g9]? = some (.cells #[.slice (some ⟨g, 0, none⟩) l0.length cap, .int .i64 x1, v2, v3, v4, .int .i64 x5] 32 (0, 0))
section
variable {w6 : World} {g9 g cap : Nat} {v2 v3 v4 : Value} {x1 x5 : Int} {l0 : List S37} {l2 : List Int} {l3 : List S47} {l4 : List S69} {w : World}
theorem PS.step {w' : World} (h : PS w6 g9 g cap v2 v3 v4 x1 x5 l0 l2 l3 l4 w) (b : Below w.heap.size w w') : PS w6 g9 g cap v2 v3 v4 x1 x5 l0 l2 l3 l4 w' :=
  ⟨fm_call h.below b, h.qr.below b, h.g0, h.g1, blk_below h.box b⟩
theorem PS.mk1 {v0 : Value} (q : QR w w6.heap.size v0 v2 v3 v4 l0 l2 l3 l4) (hl : 0 < l0.length) (b : Below w6.heap.size w6 w) (x1 x5 : Int) :
    ∃ g cap, v0 = .slice (some ⟨g, 0, none⟩) l0.length cap ∧ PS w6 w.heap.size g cap v2 v3 v4 x1 x5 l0 l2 l3 l4 (w.alloc (.cells #[v0, .int .i64 x1, v2, v3, v4, .int .i64 x5] 32)) := by
  obtain ⟨g, cap, rfl, g0, g1, _⟩ := Kd.R_form q.r0 hl
  exact ⟨g, cap, rfl, fm_alloc b _, q.alloc _, g0, g1, heap_alloc_new w _⟩
theorem PS.cells (h : PS w6 g9 g cap v2 v3 v4 x1 x5 l0 l2 l3 l4 w) (i : Int) (h0 : 0 ≤ i) (h1 : i < l0.length) :
    (w.cell? ⟨g, i.toNat * 6, none⟩ = some (.int .i64 (rd_T37 l0 i).f0) ∧ w.cell? ⟨g, i.toNat * 6 + 1, none⟩ = some (.int .i64 (rd_T37 l0 i).f1) ∧ w.cell? ⟨g, i.toNat * 6 + 2, none⟩ = some (.int .i64 (rd_T37 l0 i).f2) ∧
      w.cell? ⟨g, i.toNat * 6 + 3, none⟩ = some (.int .i64 (rd_T37 l0 i).f3) ∧ w.cell? ⟨g, i.toNat * 6 + 4, none⟩ = some (.int .i64 (rd_T37 l0 i).f4) ∧ w.cell? ⟨g, i.toNat * 6 + 5, none⟩ = some (.string (rd_T37 l0 i).f5)) ∧
    ∀ j, w.frozen? ⟨g, i.toNat * 6 + j, none⟩ = false := by
  obtain ⟨c, hcl, hM, hcc, hfr⟩ := Kd.R_elem h.qr.r0 z37 i h0 h1
  obtain rfl := k37_openM hM
  exact ⟨⟨hcc 0 _ rfl, hcc 1 _ rfl, hcc 2 _ rfl, hcc 3 _ rfl, hcc 4 _ rfl, hcc 5 _ rfl⟩, hfr⟩
theorem PS.store (h : PS w6 g9 g cap v2 v3 v4 x1 x5 l0 l2 l3 l4 w) (i : Int) (h0 : 0 ≤ i) (h1 : i < l0.length) (j : Nat) (hj : j + 1 ≤ 6) (u : Value) (x' : S37)
    (hx : ([.int .i64 (rd_T37 l0 i).f0, .int .i64 (rd_T37 l0 i).f1, .int .i64 (rd_T37 l0 i).f2, .int .i64 (rd_T37 l0 i).f3, .int .i64 (rd_T37 l0 i).f4, .string (rd_T37 l0 i).f5] : List Value).take j ++ [u] ++ ([.int .i64 (rd_T37 l0 i).f0, .int .i64 (rd_T37 l0 i).f1, .int .i64 (rd_T37 l0 i).f2, .int .i64 (rd_T37 l0 i).f3, .int .i64 (rd_T37 l0 i).f4, .string (rd_T37 l0 i).f5] : List Value).drop (j + 1) = [.int .i64 x'.f0, .int .i64 x'.f1, .int .i64 x'.f2, .int .i64 x'.f3, .int .i64 x'.f4, .string x'.f5]) :
    PS w6 g9 g cap v2 v3 v4 x1 x5 (l0.set i.toNat x') l2 l3 l4 (w.setCell ⟨g, i.toNat * 6 + j, none⟩ u) := by
  obtain ⟨c, hcl, hM, hcc, hfr⟩ := Kd.R_elem h.qr.r0 z37 i h0 h1
  obtain rfl := k37_openM hM
  obtain ⟨hp, hg⟩ := Kd.R_seg h.qr.r0 i h0 h1 (seg := [u]) (j := j) hcl hcc hj (x' := x') (okp := fun k => True ∧ k ≠ g) (by
    rw [show ([u] : List Value).length = 1 from rfl]
    have := k37_mkM w w6.heap.size (fun k => True ∧ k ≠ g) x'
    rw [← hx] at this
    exact this) (fun k hk => hk)
  have hl : (l0.set i.toNat x').length = l0.length := List.length_set
  refine ⟨below_set h.below h.g0, ⟨?_, ?_, ?_, ?_⟩, h.g0, h.g1, ?_⟩
  · rw [hl]; exact hp
  · exact Kd.R_over' (v := .slice (some ⟨g, 0, none⟩) l0.length cap) h.qr.r2 (Kd.R_typed h.qr.r0) (by decide) hg
  · exact Kd.R_over' (v := .slice (some ⟨g, 0, none⟩) l0.length cap) h.qr.r3 (Kd.R_typed h.qr.r0) (by decide) hg
  · exact Kd.R_over' (v := .slice (some ⟨g, 0, none⟩) l0.length cap) h.qr.r4 (Kd.R_typed h.qr.r0) (by decide) hg
  · rw [hl]; exact blk_far h.box (p := ⟨g, i.toNat * 6 + j, none⟩) (by have := h.g1; show g9 ≠ g; omega) u
theorem PS.qc {A2 A3 A4 : Option Addr} {c2 c3 c4 n2 n3 n4 : Nat} (h : PS w6 g9 g cap (.slice A2 n2 c2) (.slice A3 n3 c3) (.slice A4 n4 c4) x1 x5 l0 l2 l3 l4 w) : QC w (some ⟨g, 0, none⟩) cap l0 A2 c2 l2 A3 c3 l3 A4 c4 l4 := by
  have r0 := Kd.R_reads' h.qr.r0
  have r2 := Kd.R_reads' h.qr.r2
  have r3 := Kd.R_reads' h.qr.r3
  have r4 := Kd.R_reads' h.qr.r4
  exact ⟨r0.2.2, r0.2.1, r2.2.2, by have := r2.1; have := r2.2.1; omega, r3.2.2, by have := r3.1; have := r3.2.1; omega, r4.2.2, by have := r4.1; have := r4.2.1; omega⟩
end
theorem Fr.far {w0 : World} {A0 : Option Addr} {c0 : Nat} {l0 : List S37} {wh : Int} {A2 : Option Addr} {c2 : Nat} {l2 : List Int} {A3 : Option Addr} {c3 : Nat} {l3 : List S47} {A4 : Option Addr} {c4 : Nat} {l4 : List S69} {lim : Int} {w6 : World} {g9 g cap : Nat} {v2 v3 v4 : Value} {x1 x5 : Int} {m0 : List S37} {m2 : List Int} {m3 : List S47} {m4 : List S69} {w : World}
    (h : Fr w0 A0 c0 l0 wh A2 c2 l2 A3 c3 l3 A4 c4 l4 lim w6) (p : PS w6 g9 g cap v2 v3 v4 x1 x5 m0 m2 m3 m4 w) : Fr w0 A0 c0 l0 wh A2 c2 l2 A3 c3 l3 A4 c4 l4 lim w := h.step p.below

/-- the node with another number, text, day or field of the same type -/
def partP (n : S37) (num : Int) (text : ByteArray) (fld : Int) : S37 :=
  if n.f0 = 17 then ⟨n.f0, n.f1, n.f2, n.f3, num, n.f5⟩
  else if n.f0 = 18 then ⟨n.f0, n.f1, n.f2, n.f3, n.f4, text⟩
  else if n.f0 = 19 then (if (1 ≤ n.f4 ∧ n.f4 ≤ 3652059) ∧ 1 ≤ num ∧ num ≤ 3652059 then ⟨n.f0, n.f1, n.f2, n.f3, num, n.f5⟩ else n)
  else if n.f0 = 16 then (if fldT n.f3 = fldT fld then ⟨n.f0, n.f1, n.f2, fld, n.f4, n.f5⟩ else n)
  else n
theorem part_ty (n : S37) (num : Int) (text : ByteArray) (fld : Int) (ts : List Int) : tyAt (partP n num text fld) ts = tyAt n ts := by
  unfold partP
  by_cases h17 : n.f0 = 17
  · rw [if_pos h17]; unfold tyAt shpN shp; simp [h17]
  rw [if_neg h17]
  by_cases h18 : n.f0 = 18
  · rw [if_pos h18]; unfold tyAt shpN shp; simp [h18]
  rw [if_neg h18]
  by_cases h19 : n.f0 = 19
  · rw [if_pos h19]
    split
    · rename_i h; unfold tyAt shpN shp; simp [h19, h]
    · rfl
  rw [if_neg h19]
  by_cases h16 : n.f0 = 16
  · rw [if_pos h16]
    split
    · rename_i h; unfold tyAt shpN shp; simp [h16, h]
    · rfl
  rw [if_neg h16]
theorem part_tys (l0 : List S37) (i : Int) (h0 : 0 ≤ i) (h1 : i < l0.length) (num : Int) (text : ByteArray) (fld : Int) : tys (l0.set i.toNat (partP (rd_T37 l0 i) num text fld)) = tys l0 :=
  tys_set l0 i.toNat _ (by omega) (part_ty (rd_T37 l0 i) num text fld _)
end Go.Proofs.YtoamflnkaaconaaDoor.X
