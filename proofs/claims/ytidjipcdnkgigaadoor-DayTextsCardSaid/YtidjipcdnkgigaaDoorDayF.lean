/- Contracts of First, Last, Week, Add, AddMonths and of the document's; the laws DayNumbers and DayAdds. -/
import Derived.Test.YtidjipcdnkgigaaDoorDayE
namespace Go.Proofs.YtidjipcdnkgigaaDoor
set_option linter.unusedVariables false
set_option linter.unusedSimpArgs false
open Go.RowKit
open DayMath (leapP lp dim long cum num valid dY dM dD)

theorem min2_int (k k' : IntKind) (x y : Int) : Builtin.min2 (.int k x) (.int k' y) = pure (.int k (if y < x then y else x)) := by simp only [Builtin.min2]
theorem min_two (ats : Array TypeId) (ty : TypeId) (a b : Value) : Builtin.min_ ats ty #[a, b] = (Builtin.min2 a b >>= fun s => pure s) := by simp only [Builtin.min_, List.foldlM_cons, List.foldlM_nil]

theorem bsize {W w1 : World} (hb : Below W.heap.size W w1) : W.heap.size ≤ w1.heap.size := hb.size

/-- day.To, by the date's own functions -/
theorem to_any (n : Int) (w : World) (hL : LD w) (h1 : 1 ≤ n) (h2 : n ≤ 3652059) :
    Calls Tryd.prog 21 #[.int .i64 n] w fun e w' => e = .returned (.tuple #[.agg #[.int .i64 (dY n), .int .i64 (dM n), .int .i64 (dD n)], .int .i64 0]) ∧ Below w.heap.size w w' :=
  (to_yes n w hL h1 h2).mono fun e w' ⟨y, m, d, he, hv, hn, hb⟩ => by
    obtain ⟨rfl, rfl, rfl⟩ := DayMath.date_of hv hn
    exact ⟨he, hb⟩
theorem rto_any (n : Int) (w : World) (h1 : 1 ≤ n) (h2 : n ≤ 3652059) :
    Calls Tryd.prog 22 #[.int .i64 n] w fun e w' => e = .returned (.tuple #[.agg #[.int .i64 (dY n), .int .i64 (dM n), .int .i64 (dD n)], .int .i64 0]) ∧ Below w.heap.size w w' :=
  (rto_yes n w h1 h2).mono fun e w' ⟨y, m, d, he, hv, hn, hb⟩ => by
    obtain ⟨rfl, rfl, rfl⟩ := DayMath.date_of hv hn
    exact ⟨he, hb⟩

set_option maxHeartbeats 1000000 in
theorem first_yes (n : Int) (w : World) (hL : LD w) (h1 : 1 ≤ n) (h2 : n ≤ 3652059) :
    Calls Tryd.prog 23 #[.int .i64 n] w fun e w' => e = .returned (.tuple #[.int .i64 (n - dD n + 1), .int .i64 0]) ∧ Below w.heap.size w w' := by
  have hs := (DayMath.date_spec n h1 h2).1
  unfold valid at hs
  obtain ⟨v1, v2, v3, v4, v5, v6⟩ := hs
  have hdb := DayMath.dim_bd (dY n) (dM n)
  have HL' := Lib.hid hL
  clear hL
  go_enter Tryd.func23, Tryd.ntmps23
  go_wp2_with fail
  refine (to_any _ _ HL'.out h1 h2).mono ?_
  rintro e w1 ⟨rfl, hb1⟩
  go_wp2_with fail
  go_ret2
  exact ⟨rfl, hb1.alloc hb1.size _⟩
set_option maxHeartbeats 1000000 in
theorem first_no (n : Int) (w : World) (h : n < 1 ∨ 3652059 < n) :
    Calls Tryd.prog 23 #[.int .i64 n] w fun e w' => e = .returned (.tuple #[.int .i64 0, .int .i64 20]) ∧ Below w.heap.size w w' := by
  have H := Lib.hid h
  clear h
  go_enter Tryd.func23, Tryd.ntmps23
  go_wp2_with fail
  refine (to_no _ _ H.out).mono ?_
  rintro e w1 ⟨rfl, hb1⟩
  go_wp2
  go_ret2
  exact ⟨rfl, hb1.alloc hb1.size _⟩

set_option maxHeartbeats 1000000 in
theorem rfirst_yes (n : Int) (w : World) (h1 : 1 ≤ n) (h2 : n ≤ 3652059) :
    Calls Tryd.prog 24 #[.int .i64 n] w fun e w' => e = .returned (.tuple #[.int .i64 (n - dD n + 1), .int .i64 0]) ∧ Below w.heap.size w w' := by
  have hs := (DayMath.date_spec n h1 h2).1
  unfold valid at hs
  obtain ⟨v1, v2, v3, v4, v5, v6⟩ := hs
  have hdb := DayMath.dim_bd (dY n) (dM n)
  go_enter Tryd.func24, Tryd.ntmps24
  go_wp2_with fail
  refine (rto_any _ _ h1 h2).mono ?_
  rintro e w1 ⟨rfl, hb1⟩
  go_wp2_with fail
  go_ret2
  exact ⟨rfl, hb1.alloc hb1.size _⟩
set_option maxHeartbeats 1000000 in
theorem rfirst_no (n : Int) (w : World) (h : n < 1 ∨ 3652059 < n) :
    Calls Tryd.prog 24 #[.int .i64 n] w fun e w' => e = .returned (.tuple #[.int .i64 0, .int .i64 20]) ∧ Below w.heap.size w w' := by
  have H := Lib.hid h
  clear h
  go_enter Tryd.func24, Tryd.ntmps24
  go_wp2_with fail
  refine (rto_no _ _ H.out).mono ?_
  rintro e w1 ⟨rfl, hb1⟩
  go_wp2
  go_ret2
  exact ⟨rfl, hb1.alloc hb1.size _⟩

set_option maxHeartbeats 1000000 in
theorem last_yes (n : Int) (w : World) (hL : LD w) (h1 : 1 ≤ n) (h2 : n ≤ 3652059) :
    Calls Tryd.prog 25 #[.int .i64 n] w fun e w' => e = .returned (.tuple #[.int .i64 (n - dD n + dim (dY n) (dM n)), .int .i64 0]) ∧ Below w.heap.size w w' := by
  have hs := (DayMath.date_spec n h1 h2).1
  unfold valid at hs
  obtain ⟨v1, v2, v3, v4, v5, v6⟩ := hs
  have hdb := DayMath.dim_bd (dY n) (dM n)
  have HL' := Lib.hid hL
  clear hL
  go_enter Tryd.func25, Tryd.ntmps25
  go_wp2_with fail
  refine (to_any _ _ HL'.out h1 h2).mono ?_
  rintro e w1 ⟨rfl, hb1⟩
  have HW := Lib.hid (show ∀ w' : World, Below w1.heap.size w1 w' → LD w' from fun w' b => (HL'.out.below hb1 HL'.out.pos).below b (HL'.out.below hb1 HL'.out.pos).pos)
  go_wp2_with fail
  go_quiet ((go_at_call 39; exact Calls.quiet_of_same ((length_any _ _ _ (HW.out _ (below_drewN ((Below.refl _ _).alloc (Nat.le_refl _) _) _)) v3 v4).mono (fun _ _ hh => ⟨hh.1, hh.2.symm⟩))))
  go_wp2
  go_ret2
  exact ⟨rfl, below_drewN (hb1.alloc hb1.size _) _⟩
set_option maxHeartbeats 1000000 in
theorem last_no (n : Int) (w : World) (h : n < 1 ∨ 3652059 < n) :
    Calls Tryd.prog 25 #[.int .i64 n] w fun e w' => e = .returned (.tuple #[.int .i64 0, .int .i64 20]) ∧ Below w.heap.size w w' := by
  have H := Lib.hid h
  clear h
  go_enter Tryd.func25, Tryd.ntmps25
  go_wp2_with fail
  refine (to_no _ _ H.out).mono ?_
  rintro e w1 ⟨rfl, hb1⟩
  go_wp2
  go_ret2
  exact ⟨rfl, hb1.alloc hb1.size _⟩

set_option maxHeartbeats 1000000 in
theorem rlast_yes (n : Int) (w : World) (h1 : 1 ≤ n) (h2 : n ≤ 3652059) :
    Calls Tryd.prog 26 #[.int .i64 n] w fun e w' => e = .returned (.tuple #[.int .i64 (n - dD n + dim (dY n) (dM n)), .int .i64 0]) ∧ Below w.heap.size w w' := by
  have hs := (DayMath.date_spec n h1 h2).1
  unfold valid at hs
  obtain ⟨v1, v2, v3, v4, v5, v6⟩ := hs
  have hdb := DayMath.dim_bd (dY n) (dM n)
  go_enter Tryd.func26, Tryd.ntmps26
  go_wp2_with fail
  refine (rto_any _ _ h1 h2).mono ?_
  rintro e w1 ⟨rfl, hb1⟩
  go_wp2_with fail
  go_quiet ((go_at_call 40; exact Calls.quiet_of_same ((size_any _ _ _).mono (fun _ _ hh => ⟨hh.1, hh.2.symm⟩))))
  go_wp2
  go_ret2
  exact ⟨rfl, below_drewN (hb1.alloc hb1.size _) _⟩
set_option maxHeartbeats 1000000 in
theorem rlast_no (n : Int) (w : World) (h : n < 1 ∨ 3652059 < n) :
    Calls Tryd.prog 26 #[.int .i64 n] w fun e w' => e = .returned (.tuple #[.int .i64 0, .int .i64 20]) ∧ Below w.heap.size w w' := by
  have H := Lib.hid h
  clear h
  go_enter Tryd.func26, Tryd.ntmps26
  go_wp2_with fail
  refine (rto_no _ _ H.out).mono ?_
  rintro e w1 ⟨rfl, hb1⟩
  go_wp2
  go_ret2
  exact ⟨rfl, hb1.alloc hb1.size _⟩
end Go.Proofs.YtidjipcdnkgigaaDoor
