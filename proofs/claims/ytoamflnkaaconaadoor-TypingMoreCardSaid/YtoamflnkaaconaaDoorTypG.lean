/- What the rows of the other laws of this seat share: the table of the fields and the error, read off the rows' condition. -/
import Derived.Test.YtoamflnkaaconaaDoorTypR
import Derived.Test.YtoamflnkaaconaaDoorGlob
namespace Go.Proofs.YtoamflnkaaconaaDoor
open Go.ChangeShapes Go.WideShapes Go.ChangeAt Go.WideMaps Go.WideElems Go.RowKit
abbrev laidG : List (String × DataW Unit) := [("daybook/typing.fields", Rows.laid_daybook_typing_fields), ("daybook/typing.errNode", Rows.laid_daybook_typing_errNode)]
theorem gErr : Tryd.prog.globalNamed "daybook/typing.errNode" = some 1 := by kernel_rfl
theorem starE : "*" ++ "errors.errorString" = "*errors.errorString" := by decide
theorem row128 (u : TypeId) (h : Tryd.prog.typeName? 3 u = some "*errors.errorString") : u = 128 :=
  typeName_ptr_named (nm := "errors.errorString") (by rw [starE]; kernel_rfl) (by kernel_rfl) (by decide) u (by rw [starE]; exact h)
theorem glob_of_laidG {W : World} (h : laidMetH Tryd.prog laidG W) : X.Glob W := by
  rw [MakeChecks.laidMetH_plain _ _ _ (by kernel_rfl)] at h
  refine { toGlobF := globF_of_laid h, err := ?_ }
  obtain ⟨a, s, hv, _⟩ := laid_sentinel (tp := 128) (te := 154) (ts := 9) h.tail gErr (ti := 62) (by kernel_rfl) Tryd.underlying62 row128 Tryd.underlying128 Tryd.underlying154 rfl rfl Tryd.underlying9 (by kernel_rfl) (by kernel_rfl)
  refine ⟨a, ?_⟩
  exact World.var?_cell gErr hv 0
theorem door_metG (os : Os) (args : Array Value) : laidMetH Tryd.prog laidG ((World.doorLaid Tryd.prog 400 os).forCall (fun _ _ => 0) ⟨#[], args, []⟩).memory := by
  rw [MakeChecks.laidMetH_plain _ _ _ (by kernel_rfl)]
  exact laidMet_of_run' 8 (by kernel_rfl) (by kernel_rfl)
end Go.Proofs.YtoamflnkaaconaaDoor
