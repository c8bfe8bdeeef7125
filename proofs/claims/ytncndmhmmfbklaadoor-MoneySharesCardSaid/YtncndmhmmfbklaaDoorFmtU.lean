/- strconv.FormatUint at base 10: the decimal numeral of every uint64. -/
import Derived.Test.YtncndmhmmfbklaaDoorGlob
import Derived.Lib.ItoaMem
import Derived.Lib.Hide
import Derived.Lib.AppendIntMem
namespace Go.Proofs.YtncndmhmmfbklaaDoor.X
set_option linter.unusedVariables false
set_option linter.unusedSimpArgs false
open Go.RowKit Go.Lib Go.Sort Go.Joins Go.Shelf Go.Proofs.YtncndmhmmfbklaaDoorW.PrintWords

abbrev byteV : UInt8 → Value := fun b => .int .u8 (b.toNat : Int)
theorem zeros_from0 (w : World) (T : TypeId) (nd : Nat) (hs : nd ≤ 24) : Holds byteV (w.alloc (.cells zeros24 T)) w.heap.size 0 (Array.replicate nd (0 : UInt8)) := fun j hj => by
  have hj' : j < nd := by simpa using hj
  refine ⟨?_, World.frozen?_alloc_new _ _ _ _⟩
  rw [World.cell?_alloc_new, zeros24_at _ (by omega), getElem!_pos _ j hj]
  simp
theorem below_row (w : World) (o : Obj) (dk : Array UInt8) (k : Nat) : Below w.heap.size w ((putRow byteV (w.alloc o) w.heap.size 0 dk).drewN k) := by
  rw [alloc_eq_grow]
  obtain ⟨os', _, e⟩ := putRow_grow_new byteV w #[o] w.heap.size 0 dk (Nat.le_refl _)
  rw [e]
  have h := below_grow w.heap.size w (Nat.le_refl _) 0 os'
  rw [World.drewN_zero] at h
  exact pw_below_drewN h k
set_option maxHeartbeats 4000000 in
set_option maxRecDepth 100000 in
theorem ifmtu_any (u : Nat) (hu : u < 18446744073709551616) (w : World) (G : Glob w) :
    Calls Tryd.prog 53 #[.int .u64 (u : Int), .int .i64 10] w fun e w' => e = .returned (.string ⟨(decDigits u).toArray⟩) ∧ Below w.heap.size w w' := by
  have HG := Lib.hid G
  clear G
  by_cases hs : u < 100
  · have t1 : decide ((u : Int) < 100) = true := decide_eq_true (by omega)
    have t2 : ((u : Int) < 100) = True := eq_true (by omega)
    go_enter Tryd.func53, Tryd.ntmps53
    go_wp2_with fail
    refine (Tryd.internal_strconv_small u hs _).mono ?_
    rintro e w' ⟨rfl, rfl⟩
    go_wp2_with fail
    go_ret
    exact ⟨rfl, Below.refl _ _⟩
  · have hu1 : 1 ≤ u := by omega
    have t1 : decide ((u : Int) < 100) = false := decide_eq_false (by omega)
    have t2 : ((u : Int) < 100) = False := eq_false (by omega)
    have hnd20 : nDigits u ≤ 20 := by have := numDigits_eq u hu1 hu; split at this <;> omega
    have hal : Tryd.prog.arrayLen 108 = 24 := by kernel_rfl
    have hsl : ∀ W, (Instr.sliceAt 108 (.pointer (some ⟨w.heap.size, 0, none⟩)) none (some (.int .i64 (nDigits u : Int))) none).run Tryd.prog W = .ok (.slice (some ⟨w.heap.size, 0, none⟩) (nDigits u) 24) W := fun W => by
      rw [run_sliceAt_array_h W 108 ⟨w.heap.size, 0, none⟩ (by kernel_rfl) .i64 (nDigits u : Int) (by omega) (by rw [hal]; omega)]
      go_simp
    have hH0 := zeros_from0 w 108 (nDigits u) (by omega)
    have hfmt := Tryd.internal_strconv_formatBase10 w.heap.size 0 24 u (Array.replicate (nDigits u) 0) (w.alloc (.cells zeros24 108)) hH0 (by rw [Array.size_replicate]; exact lt_pow_nDigits u) hu (by rw [Array.size_replicate]; omega)
    rw [Array.size_replicate] at hfmt
    have HH0 := Lib.hid hH0
    have HU := Lib.hid hu
    clear hH0 hal hu
    go_enter Tryd.func53, Tryd.ntmps53
    go_wp2_with fail
    refine (Tryd.internal_strconv_numDigits u hu1 HU.out _ (HG.out.step (below_alloc (Below.refl _ w) _)).pow).mono ?_
    rintro e w' ⟨rfl, rfl⟩
    go_wp2_with fail
    refine hfmt.mono ?_
    rintro e w' ⟨rfl, k, v', dk, rfl, hF⟩
    have hcv : (convert 88 9 (.slice (some ⟨w.heap.size, 0, none⟩) (nDigits u) 24)).run Tryd.prog ((putRow byteV (w.alloc (.cells zeros24 108)) w.heap.size 0 dk).drewN k) = .ok (.string ⟨(decDigits u).toArray⟩) ((putRow byteV (w.alloc (.cells zeros24 108)) w.heap.size 0 dk).drewN k) := by
      have h := run_convert_bytes_back (P := Tryd.prog) ((putRow byteV (w.alloc (.cells zeros24 108)) w.heap.size 0 dk).drewN k) 88 9 5 ⟨w.heap.size, 0, none⟩ 24 (decDigits u) (by kernel_rfl) (by kernel_rfl) (by kernel_rfl) (fun j hj => by
        rw [row_is_numeral hF j hj, Lib.add_plain, World.cell?_drewN]
        exact cell?_putRow byteV _ w.heap.size 0 _ dk HH0.out (by rw [hF.size, Array.size_replicate]) j (by rw [hF.size]; rw [decDigits_length] at hj; exact hj))
      rw [decDigits_length] at h
      exact h
    have HB := Lib.hid (below_row w (.cells zeros24 108) dk k)
    clear hF hfmt
    go_wp2_with fail
    go_ret
    exact ⟨rfl, HB.out⟩
theorem fmtu_any (u : Nat) (hu : u < 18446744073709551616) (w : World) (G : Glob w) :
    Calls Tryd.prog 24 #[.int .u64 (u : Int), .int .i64 10] w fun e w' => e = .returned (.string ⟨(decDigits u).toArray⟩) ∧ Below w.heap.size w w' := by
  have HC := Lib.hid (ifmtu_any u hu w G)
  clear G hu
  go_enter Tryd.func24, Tryd.ntmps24
  go_wp2_with fail
  refine HC.out.mono ?_
  rintro e w' ⟨rfl, hb⟩
  have HB := Lib.hid hb
  clear hb
  go_wp2_with fail
  go_ret
  exact ⟨rfl, HB.out⟩
def strconv_FormatUint.f (u b : Int) : Option ByteArray := if b = 10 ∧ 0 ≤ u ∧ u < 18446744073709551616 then some ⟨(decDigits u.toNat).toArray⟩ else none
theorem strconv_FormatUint.calls (u b : Int) (r : ByteArray) (w : World) (h : strconv_FormatUint.f u b = some r) (G : Glob w) :
    Calls Tryd.prog 24 #[.int .u64 u, .int .i64 b] w fun e w' => e = .returned (.string r) ∧ Below w.heap.size w w' := by
  unfold strconv_FormatUint.f at h
  split at h
  · rename_i hc
    obtain ⟨rfl, h0, h1⟩ := hc
    obtain rfl := Option.some.inj h
    obtain ⟨n, rfl⟩ : ∃ n : Nat, u = n := ⟨u.toNat, by omega⟩
    exact fmtu_any n (by omega) w G
  · cases h
def strings_Repeat.f (s : ByteArray) (c : Int) : Option ByteArray := if 0 ≤ c ∧ c ≤ 9223372036854775807 ∧ s.size * c.toNat ≤ 140737488355328 then some ⟨(repeatL s.data.toList c.toNat).toArray⟩ else none
theorem strings_Repeat.calls (s : ByteArray) (c : Int) (r : ByteArray) (w : World) (h : strings_Repeat.f s c = some r) (G : Glob w) :
    Calls Tryd.prog 26 #[.string s, .int .i64 c] w fun e w' => e = .returned (.string r) ∧ Below w.heap.size w w' := by
  unfold strings_Repeat.f at h
  split at h
  · rename_i hc
    obtain ⟨h0, h1, h2⟩ := hc
    obtain rfl := Option.some.inj h
    obtain ⟨n, rfl⟩ : ∃ n : Nat, c = n := ⟨c.toNat, by omega⟩
    exact Tryd.strings_Repeat s n w (by omega) h2
  · cases h
end Go.Proofs.YtncndmhmmfbklaaDoor.X
