/- Contracts of typing.Field and typing.FieldOf: they tell what the table says. -/
import Derived.Test.YtoamflnkaaconaaDoorGlob
import Derived.OwnWalk
import Derived.KernelRfl
import Derived.Deep.QuietTactic
import Derived.BigQuiet
import Derived.WalkLawsBesides
import Derived.WalkSpells
import Derived.Outline
import Derived.Lib.Hide
import Derived.Laws.Rows
import Derived.Deep.LoopGhost
namespace Go.Proofs.YtoamflnkaaconaaDoor.X
set_option linter.unusedVariables false
set_option linter.unusedSimpArgs false
open Go.RowKit

theorem fm_alloc {w w' : World} (h : Below w.heap.size w w') (o : Obj) : Below w.heap.size w (w'.alloc o) := h.alloc h.size o
theorem fm_drewN {w w' : World} (h : Below w.heap.size w w') (n : Nat) : Below w.heap.size w (w'.drewN n) := below_drewN h n
theorem fm_drew {w w' : World} (h : Below w.heap.size w w') : Below w.heap.size w w'.drew := h.drew
theorem fm_call {w w1 w2 : World} (h : Below w.heap.size w w1) (k : Below w1.heap.size w1 w2) : Below w.heap.size w w2 := h.trans (k.mono h.size)

/-- a field's name and type -/
def fldN (f : Int) : ByteArray := if f < 1 ∨ 15 ≤ f then ⟨#[]⟩ else nameAt f.toNat
def fldT (f : Int) : Int := if f < 1 ∨ 15 ≤ f then 0 else typAt f.toNat

set_option maxHeartbeats 1000000 in
theorem field_any (f : Int) (w : World) (G : GlobF w) :
    Calls Tryd.prog 9 #[.int .i64 f] w fun e w' => e = .returned (.tuple #[.string (fldN f), .int .i64 (fldT f)]) ∧ Below w.heap.size w w' := by
  unfold fldN fldT
  by_cases h : f < 1 ∨ 15 ≤ f
  · rw [if_pos h, if_pos h]
    by_cases c : f < 1
    · clear h
      go_enter Tryd.func9, Tryd.ntmps9
      go_wp2
      go_ret2
      exact ⟨rfl, Below.refl _ _⟩
    · have c2 : 15 ≤ f := by omega
      clear h
      go_enter Tryd.func9, Tryd.ntmps9
      go_wp2
      go_ret2
      exact ⟨rfl, Below.refl _ _⟩
  · rw [if_neg h, if_neg h]
    have h1 : 1 ≤ f := by omega
    have h2 : f < 15 := by omega
    obtain ⟨k, rfl⟩ : ∃ k : Nat, f = (k : Int) := ⟨f.toNat, by omega⟩
    rw [show ((k : Int)).toNat = k from rfl]
    have n1 := G.name k (by omega)
    have n2 := G.typ k (by omega)
    generalize nameAt k = s at *
    generalize typAt k = t at *
    clear h G
    go_enter Tryd.func9, Tryd.ntmps9
    go_wp2
    go_quiet (fail)
    go_wp2
    go_ret2
    exact ⟨rfl, by repeat (first | exact Below.refl _ _ | apply fm_drewN)⟩
theorem tab_index : ∀ k, k < 15 → ∀ w, (Instr.index 56 (.agg tabA) (.int .i64 ((k : Nat) : Int))).run Tryd.prog w = .ok (.agg #[.string (nameAt k), .int .i64 (typAt k)]) w :=
  fifteen (fun _ => by kernel_rfl) (fun _ => by kernel_rfl) (fun _ => by kernel_rfl) (fun _ => by kernel_rfl) (fun _ => by kernel_rfl) (fun _ => by kernel_rfl) (fun _ => by kernel_rfl) (fun _ => by kernel_rfl) (fun _ => by kernel_rfl) (fun _ => by kernel_rfl) (fun _ => by kernel_rfl) (fun _ => by kernel_rfl) (fun _ => by kernel_rfl) (fun _ => by kernel_rfl) (fun _ => by kernel_rfl)
/-- a name's field: the first of that name -/
def fofFrom (s : ByteArray) : Nat → Nat → Int × Bool
  | 0, _ => (0, false)
  | d + 1, k => if (nameAt k).toList = s.toList then ((k : Int), true) else fofFrom s d (k + 1)
set_option maxHeartbeats 1000000 in
set_option maxRecDepth 100000 in
theorem fieldOf_any (s : ByteArray) (w : World) (G : GlobF w) :
    Calls Tryd.prog 11 #[.string s] w fun e w' => e = .returned (.tuple #[.int .i64 (fofFrom s 14 1).1, .bool (fofFrom s 14 1).2]) ∧ Below w.heap.size w w' := by
  obtain ⟨t, fr, hr⟩ := G.row
  obtain ⟨R, hR⟩ : ∃ R, fofFrom s 14 1 = R := ⟨_, rfl⟩
  rw [hR]
  have HR := Lib.hid hR
  clear hR G
  obtain ⟨A, hA⟩ : ∃ A, tabA = A := ⟨_, rfl⟩
  rw [hA] at hr
  have HA := Lib.hid hA
  have hsz : (Tryd.prog.info? 56).map (·.size) = some A.size := by rw [← hA]; kernel_rfl
  clear hA
  go_enter Tryd.func11, Tryd.ntmps11
  go_wp2_with (first | (refine wpList_load_row rfl 56 _ rfl 0 rfl t A fr _ hr Tryd.underlying56 rfl hsz ?_))
  go_loopg [4, 5, 7] 15 (fun g v4 v5 i wr => ∃ k : Nat, k ≤ 15 ∧ g = 15 - k ∧ i = .int .i64 k ∧ (k = 0 ∨ fofFrom s (15 - k) k = R) ∧ Below w.heap.size w wr)
  case atStart => exact ⟨0, by omega, rfl, rfl, Or.inl rfl, Below.refl _ _⟩
  case round =>
    obtain ⟨k, hk, hg, rfl, hs, hB⟩ := hrel
    have Hg := Lib.hid hg
    have HS := Lib.hid hs
    clear hg hs
    by_cases hlt : k < 15
    · have hidx := tab_index k hlt
      rw [HA.out] at hidx
      by_cases h0 : 0 < k
      · have hs1 : fofFrom s (15 - k) k = R := HS.out.resolve_left (by omega)
        obtain ⟨d, hd⟩ : ∃ d, 15 - k = d + 1 := ⟨14 - k, by omega⟩
        rw [hd] at hs1
        unfold fofFrom at hs1
        by_cases he : (nameAt k).toList = s.toList
        · have hb : ((nameAt k).toList == s.toList) = true := beq_iff_eq.2 he
          rw [if_pos he] at hs1
          have HE := Lib.hid hs1
          generalize nameAt k = nm at *
          generalize typAt k = tp at *
          clear he hs1 hd
          go_wp2_with fail
          go_ret2
          exact ⟨by rw [← HE.out]; rfl, by repeat (first | exact hB | apply fm_alloc | apply fm_drewN | apply fm_drew)⟩
        · have hb : ((nameAt k).toList == s.toList) = false := beq_eq_false_iff_ne.2 he
          rw [if_neg he] at hs1
          have HE := Lib.hid hs1
          have HD := Lib.hid hd
          generalize nameAt k = nm at *
          generalize typAt k = tp at *
          clear he hs1 hd
          go_wp2_with fail
          have hg2 := Hg.out
          go_roundg (15 - (k + 1))
          case measure => omega
          case rel =>
            refine ⟨k + 1, by omega, rfl, by go_num, Or.inr ?_, by repeat (first | exact hB | apply fm_alloc | apply fm_drewN | apply fm_drew)⟩
            rw [show 15 - (k + 1) = d by have := HD.out; omega]; exact HE.out
      · obtain rfl : k = 0 := by omega
        rw [show ((0 : Nat) : Int) = 0 from rfl] at hidx
        generalize nameAt 0 = nm at *
        generalize typAt 0 = tp at *
        go_wp2_with fail
        have hg2 := Hg.out
        go_roundg 14
        case measure => omega
        case rel => exact ⟨1, by omega, rfl, by go_num, Or.inr HR.out, by repeat (first | exact hB | apply fm_alloc | apply fm_drewN | apply fm_drew)⟩
    · obtain rfl : k = 15 := by omega
      have hs1 : (0, false) = R := HS.out.resolve_left (by omega)
      have HE := Lib.hid hs1
      clear hs1
      go_wp2_with fail
      go_ret2
      exact ⟨by rw [← HE.out]; rfl, hB⟩
def typing_Field.f (a0 : Int) : Option (ByteArray × Int) := some (fldN a0, fldT a0)
theorem typing_Field.calls (a0 : Int) (r1 : ByteArray) (r2 : Int) (w : World) (h : typing_Field.f a0 = some (r1, r2)) (G : Glob w) :
    Calls Tryd.prog 9 #[.int .i64 a0] w fun e w' => e = .returned (.tuple #[.string r1, .int .i64 r2]) ∧ Below w.heap.size w w' := by
  simp only [typing_Field.f, Option.some.injEq, Prod.mk.injEq] at h
  obtain ⟨rfl, rfl⟩ := h
  exact field_any a0 w G.toGlobF
end Go.Proofs.YtoamflnkaaconaaDoor.X
