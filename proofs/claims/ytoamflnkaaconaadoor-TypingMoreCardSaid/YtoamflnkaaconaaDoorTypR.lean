/- What the rows of this seat share: the listed variables, read off the row's condition. -/
import Derived.Test.YtoamflnkaaconaaDoorRows
import Derived.Test.YtoamflnkaaconaaDoorGlob
import Derived.WalkKit
import Derived.ProofKit
import Derived.OpenShut
import Derived.ShutString
import Derived.ChangeOld
import Derived.Below
import Derived.LaidMore
import Derived.ChangeArms
import Derived.Lib.LaidTab
import Derived.Stop.Joined
import Derived.Stop.LaidErr
namespace Go.Proofs.YtoamflnkaaconaaDoor
open Go.ChangeShapes Go.WideShapes Go.ChangeAt Go.WideMaps Go.WideElems Go.RowKit
open Go.ChangeMaps (open_string shut_string)
open X (tabA nameAt typAt fifteen)

theorem gFields : Tryd.prog.globalNamed "daybook/typing.fields" = some 0 := by kernel_rfl
theorem tFields : (Tryd.prog.globals[0]?).map (·.type) = some 56 := by kernel_rfl
theorem cl55 : Tryd.prog.cellsOf 55 = 2 := by kernel_rfl
theorem cl56 : Tryd.prog.cellsOf 56 = 30 := by kernel_rfl
theorem cl9 : Tryd.prog.cellsOf 9 = 1 := by kernel_rfl
theorem cl3 : Tryd.prog.cellsOf 3 = 1 := by kernel_rfl

abbrev laidF : List (String × DataW Unit) := [("daybook/typing.fields", Rows.laid_daybook_typing_fields)]

def datumAt (i : Nat) : DataW Unit := .agg [.lit (.string (nameAt i).data.toList), .lit (.int .i64 (typAt i))]
theorem fields_list : ∃ L : List (DataW Unit), Rows.laid_daybook_typing_fields = .agg L ∧ L.length = 15 ∧ ∀ i, i < 15 → L[i]? = some (datumAt i) :=
  ⟨_, rfl, rfl, fifteen rfl rfl rfl rfl rfl rfl rfl rfl rfl rfl rfl rfl rfl rfl rfl⟩
theorem bytes_eq {s : ByteArray} {t : ByteArray} (h : s.data.toList = t.data.toList) : s = t := by
  cases s; cases t; simp at h; simpa using h
theorem cells_of_fields {enc : TypeId × Value → Unit} {w : World} {base : Nat} {sp : Nat → Bool} {held : Bool} {fuel : Nat} {cs : List Value} {p : List MemPlace}
    (h : DataW.trod enc Tryd.prog w base sp held fuel 56 cs = some (Rows.laid_daybook_typing_fields, p)) : cs = tabA.toList := by
  obtain ⟨L, hL, hL2, hL3⟩ := fields_list
  rw [hL] at h
  cases fuel with
  | zero => simp [DataW.trod] at h
  | succ fuel =>
    simp only [DataW.trod, Tryd.underlying56, cl55, cl56] at h
    split at h
    · rename_i hl
      obtain ⟨xs, hm, hx⟩ := Option.map_eq_some_iff.1 h
      have hxs : xs.map (·.1) = L := by
        have := congrArg Prod.fst hx
        simpa using this
      have each : ∀ i, i < 15 → cs[i * 2]? = some (.string (nameAt i)) ∧ cs[i * 2 + 1]? = some (.int .i64 (typAt i)) := fun i hi => by
        obtain ⟨b, hb, hf⟩ := Lib.mapM_at hm i i (by simp [hi])
        have h2 : (xs.map (·.1))[i]? = some (datumAt i) := by rw [hxs]; exact hL3 i hi
        simp only [List.getElem?_map, hb, Option.map_some, Option.some.injEq] at h2
        obtain ⟨ys, n, _, hbe, _, hyl, hr⟩ := DataW.trod_struct Tryd.underlying55 hf
        have r0 := hr 0 _ rfl
        have r1 := hr 1 _ rfl
        rw [hbe] at h2
        unfold datumAt at h2
        simp only [DataW.agg.injEq] at h2
        obtain ⟨y0, y1, rfl⟩ : ∃ y0 y1, ys = [y0, y1] := by
          match ys, hyl with
          | [y0, y1], _ => exact ⟨y0, y1, rfl⟩
        simp only [List.map_cons, List.map_nil, List.cons.injEq, and_true] at h2
        obtain ⟨s, k0, e0, _⟩ := DataW.trod_string Tryd.underlying9 (r0.trans rfl)
        obtain ⟨z, k1, e1, _⟩ := DataW.trod_int Tryd.underlying3 (r1.trans rfl)
        rw [e0, e1] at h2
        simp only [DataW.lit.injEq, Lit.string.injEq, Lit.int.injEq, true_and] at h2
        have g0 := congrArg (·[0]?) k0
        have g1 := congrArg (·[0]?) k1
        simp [cl9, cl3, List.getElem?_drop] at g0 g1
        rw [g0, g1, bytes_eq h2.1, h2.2]
        exact ⟨rfl, rfl⟩
      apply List.ext_getElem?
      intro j
      by_cases hj : j < 30
      · obtain ⟨i, hi, hji⟩ : ∃ i, i < 15 ∧ (j = i * 2 ∨ j = i * 2 + 1) := ⟨j / 2, by omega, by omega⟩
        rcases hji with rfl | rfl
        · rw [(each i hi).1, Array.getElem?_toList, X.tabA_name i hi]
        · rw [(each i hi).2, Array.getElem?_toList, X.tabA_typ i hi]
      · rw [List.getElem?_eq_none (by omega), List.getElem?_eq_none (by show 30 ≤ j; omega)]
    · cases h
theorem globF_of_var {W : World} (h : W.var? Tryd.prog "daybook/typing.fields" = some tabA) : X.GlobF W := by
  refine ⟨?_⟩
  simp only [World.var?, gFields, Option.bind_some] at h
  split at h
  · rename_i cs t fr hr
    obtain rfl := Option.some.inj h
    exact ⟨t, fr, hr⟩
  · cases h
theorem globF_of_laid {r : List (String × DataW Unit)} {W : World} (h : laidMet Tryd.prog (("daybook/typing.fields", Rows.laid_daybook_typing_fields) :: r) W) : X.GlobF W := by
  obtain ⟨ps, ⟨g', t', cs, fuel, p, q, hg', ht', hvar, hd, _, _⟩, _⟩ := h
  obtain rfl := Option.some.inj (gFields.symm.trans hg')
  obtain rfl := Option.some.inj (tFields.symm.trans ht')
  refine globF_of_var ?_
  rw [hvar]
  have := cells_of_fields hd
  cases cs
  simp at this
  rw [this]
theorem globF_of_laidF {W : World} (h : laidMetH Tryd.prog laidF W) : X.GlobF W := by
  rw [MakeChecks.laidMetH_plain _ _ _ (by kernel_rfl)] at h
  exact globF_of_laid h
theorem door_metF (os : Os) (args : Array Value) : laidMetH Tryd.prog laidF ((World.doorLaid Tryd.prog 400 os).forCall (fun _ _ => 0) ⟨#[], args, []⟩).memory := by
  rw [MakeChecks.laidMetH_plain _ _ _ (by kernel_rfl)]
  exact laidMet_of_run' 8 (by kernel_rfl) (by kernel_rfl)
end Go.Proofs.YtoamflnkaaconaaDoor
