/- The walk of the law TypingFields: the program's fields and the document's are the same. -/
import Derived.Test.YtoamflnkaaconaaDoorHandField
import Derived.Test.YtoamflnkaaconaaDoorX4
namespace Go.Proofs.YtoamflnkaaconaaDoor.X
set_option linter.unusedVariables false
set_option linter.unusedSimpArgs false
open Go.RowKit

def rowsL : List S60 := (daybookref14_rows.f).getD []
theorem rows_some : daybookref14_rows.f = some rowsL := rfl
theorem rowsL_len : rowsL.length = 15 := rfl
theorem rowsL_name : ∀ k, k < 15 → (rd_T60 rowsL ((k : Nat) : Int)).f0 = nameAt k := fifteen rfl rfl rfl rfl rfl rfl rfl rfl rfl rfl rfl rfl rfl rfl rfl
theorem rowsL_typ : ∀ k, k < 15 → (rd_T60 rowsL ((k : Nat) : Int)).f1 = typAt k := fifteen rfl rfl rfl rfl rfl rfl rfl rfl rfl rfl rfl rfl rfl rfl rfl
theorem rField (f : Int) : daybookref14_Field.f f = some (fldN f, fldT f) := by
  unfold daybookref14_Field.f fldN fldT
  rw [rows_some, Option.bind_some]
  have hl := rowsL_len
  by_cases c1 : f < 1
  · rw [if_pos c1, if_pos (Or.inl c1), if_pos (Or.inl c1)]
  · rw [if_neg c1]
    by_cases c2 : 15 ≤ f
    · rw [if_pos (by rw [hl]; exact c2), if_pos (Or.inr c2), if_pos (Or.inr c2)]
    · rw [if_neg (by rw [hl]; exact c2), if_pos (show 0 ≤ f by omega), if_pos (by rw [hl]; show f < 15; omega), if_neg (by omega), if_neg (by omega)]
      obtain ⟨k, rfl⟩ : ∃ k : Nat, f = (k : Int) := ⟨f.toNat, by omega⟩
      rw [rowsL_name k (by omega), rowsL_typ k (by omega)]
      rfl
theorem rFieldOf_loop (s : ByteArray) : ∀ d k : Nat, k + d = 15 → 1 ≤ k → daybookref14_FieldOf.l0 (d + 1) s rowsL (k : Int) = some (fofFrom s d k)
  | 0, k, h, h1 => by
    unfold daybookref14_FieldOf.l0 fofFrom
    rw [if_neg (by rw [rowsL_len]; omega)]
  | d + 1, k, h, h1 => by
    have ih := rFieldOf_loop s d (k + 1) (by omega) (by omega)
    unfold daybookref14_FieldOf.l0 fofFrom
    rw [if_pos (by rw [rowsL_len]; omega), if_pos (by omega), rowsL_name k (by omega)]
    by_cases c : (nameAt k).toList = s.toList
    · rw [if_pos c, if_pos c]
    · rw [if_neg c, if_neg c, ← ih]
      congr 1
      unfold wrap64; omega
theorem rFieldOf (s : ByteArray) : daybookref14_FieldOf.f 15 s = some (fofFrom s 14 1) := by
  unfold daybookref14_FieldOf.f
  rw [rows_some]
  exact rFieldOf_loop s 14 1 rfl (by omega)

set_option maxHeartbeats 1000000 in
theorem fields_law (f : Int) (s : ByteArray) (w : World) (G : GlobF w) :
    Calls Tryd.prog 3 #[.int .i64 f, .string s] w fun e w' => e = .returned (.bool true) ∧ Below w.heap.size w w' := by
  have HG := Lib.hid G
  clear G
  have HF := Lib.hid (rField f)
  have HO := Lib.hid (rFieldOf s)
  have b1 : ((fldN f).toList == (fldN f).toList) = true := beq_self_eq_true _
  have b2 : (fldT f == fldT f) = true := beq_self_eq_true _
  generalize hR : fofFrom s 14 1 = R at *
  have b3 : (R.1 == R.1) = true := beq_self_eq_true _
  have b4 : (R.2 == R.2) = true := beq_self_eq_true _
  have HR := Lib.hid hR
  clear hR
  go_enter Tryd.func3, Tryd.ntmps3
  go_wp2_with fail
  refine (field_any f _ HG.out).mono ?_
  rintro e w1 ⟨rfl, h1⟩
  have HG1 := Lib.hid (HG.out.step h1)
  go_wp2_with fail
  refine (daybookref14_Field.calls f _ _ _ HF.out).mono ?_
  rintro e w2 ⟨rfl, h2⟩
  have HG2 := Lib.hid (HG1.out.step h2)
  go_wp2_with fail
  refine (fieldOf_any s _ HG2.out).mono ?_
  rw [HR.out]
  rintro e w3 ⟨rfl, h3⟩
  go_wp2_with fail
  refine (daybookref14_FieldOf.calls 15 s R.1 R.2 _ HO.out).mono ?_
  rintro e w4 ⟨rfl, h4⟩
  go_wp2
  go_ret
  exact ⟨rfl, fm_call (fm_call (fm_call h1 h2) h3) h4⟩
end Go.Proofs.YtoamflnkaaconaaDoor.X
namespace Go.Proofs.YtoamflnkaaconaaDoor
set_option linter.unusedVariables false
open Go.RowKit
theorem fieldsRow_walk (f : Int) (s : ByteArray) (w : World) (h1 : (Lit.int IntKind.i64 f).wf = true) (h2 : s.size ≤ 140737488351232) (G : X.GlobF w) :
    Calls Tryd.prog 3 #[.int .i64 f, .string s] w fun e w' => e = .returned (.bool true) ∧ Below w.heap.size w w' := X.fields_law f s w G
end Go.Proofs.YtoamflnkaaconaaDoor
