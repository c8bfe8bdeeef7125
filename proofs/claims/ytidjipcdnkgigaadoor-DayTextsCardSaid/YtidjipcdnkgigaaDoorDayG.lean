/- Contracts of Week, Add, AddMonths and of the document's. -/
import Derived.Test.YtidjipcdnkgigaaDoorDayF
namespace Go.Proofs.YtidjipcdnkgigaaDoor
set_option linter.unusedVariables false
set_option linter.unusedSimpArgs false
open Go.RowKit
open DayMath (leapP lp dim long cum num valid dY dM dD monthsOn monthsOK)
attribute [local go_sem] min2_int min_two

/-- day.Week -/
theorem week_yes (n : Int) (w : World) (h1 : 1 ≤ n) (h2 : n ≤ 3652059) :
    Calls Tryd.prog 27 #[.int .i64 n] w fun e w' => e = .returned (.tuple #[.int .i64 ((n - 1) % 7 + 1), .int .i64 0]) ∧ w = w' := by
  go_enter Tryd.func27, Tryd.ntmps27
  go_wp2_with (go_at_call 43; refine (is_yes _ _ h1 h2).mono ?_; rintro e w' ⟨rfl, rfl⟩)
  go_ret2
  exact ⟨rfl, rfl⟩
theorem week_no (n : Int) (w : World) (h : n < 1 ∨ 3652059 < n) :
    Calls Tryd.prog 27 #[.int .i64 n] w fun e w' => e = .returned (.tuple #[.int .i64 0, .int .i64 20]) ∧ w = w' := by
  have H := Lib.hid h
  clear h
  go_enter Tryd.func27, Tryd.ntmps27
  go_wp2_with (go_at_call 43; refine (is_no _ _ H.out).mono ?_; rintro e w' ⟨rfl, rfl⟩)
  go_ret2
  exact ⟨rfl, rfl⟩
/-- daybookref02.Week -/
theorem rweek_yes (n : Int) (w : World) (h1 : 1 ≤ n) (h2 : n ≤ 3652059) :
    Calls Tryd.prog 28 #[.int .i64 n] w fun e w' => e = .returned (.tuple #[.int .i64 ((n - 1) % 7 + 1), .int .i64 0]) ∧ w = w' := by
  go_enter Tryd.func28, Tryd.ntmps28
  go_wp2
  go_ret2
  exact ⟨rfl, rfl⟩
theorem rweek_no (n : Int) (w : World) (h : n < 1 ∨ 3652059 < n) :
    Calls Tryd.prog 28 #[.int .i64 n] w fun e w' => e = .returned (.tuple #[.int .i64 0, .int .i64 20]) ∧ w = w' := by
  by_cases h1 : n < 1
  · clear h
    go_enter Tryd.func28, Tryd.ntmps28
    go_wp2
    go_ret2
    exact ⟨rfl, rfl⟩
  · have h2 : 3652059 < n := by omega
    clear h
    go_enter Tryd.func28, Tryd.ntmps28
    go_wp2
    go_ret2
    exact ⟨rfl, rfl⟩

/-- when Add takes -/
def addOK (n k : Int) : Prop := 1 ≤ n ∧ n ≤ 3652059 ∧ -3652059 ≤ k ∧ k ≤ 3652059 ∧ 1 ≤ n + k ∧ n + k ≤ 3652059

/-- day.Add -/
theorem add_yes (n k : Int) (w : World) (h : addOK n k) :
    Calls Tryd.prog 29 #[.int .i64 n, .int .i64 k] w fun e w' => e = .returned (.tuple #[.int .i64 (n + k), .int .i64 0]) ∧ w = w' := by
  unfold addOK at h
  obtain ⟨h1, h2, h3, h4, h5, h6⟩ := h
  go_enter Tryd.func29, Tryd.ntmps29
  go_wp2_with fail
  refine (is_yes _ _ h1 h2).mono ?_
  rintro e w' ⟨rfl, rfl⟩
  go_wp2_with fail
  refine (is_yes _ _ h5 h6).mono ?_
  rintro e w' ⟨rfl, rfl⟩
  go_wp2
  go_ret2
  exact ⟨rfl, rfl⟩
theorem add_no (n k : Int) (w : World) (h : ¬ addOK n k) :
    Calls Tryd.prog 29 #[.int .i64 n, .int .i64 k] w fun e w' => e = .returned (.tuple #[.int .i64 0, .int .i64 20]) ∧ w = w' := by
  unfold addOK at h
  by_cases a : n < 1 ∨ 3652059 < n
  · have A := Lib.hid a
    clear a h
    go_enter Tryd.func29, Tryd.ntmps29
    go_wp2_with (go_at_call 43; refine (is_no _ _ A.out).mono ?_; rintro e w' ⟨rfl, rfl⟩)
    go_ret2
    exact ⟨rfl, rfl⟩
  · have h1 : 1 ≤ n := by omega
    have h2 : n ≤ 3652059 := by omega
    by_cases b : 3652059 < k
    · clear a h
      go_enter Tryd.func29, Tryd.ntmps29
      go_wp2_with (go_at_call 43; refine (is_yes _ _ h1 h2).mono ?_; rintro e w' ⟨rfl, rfl⟩)
      go_ret2
      exact ⟨rfl, rfl⟩
    · by_cases c : k < -3652059
      · clear a h
        go_enter Tryd.func29, Tryd.ntmps29
        go_wp2_with (go_at_call 43; refine (is_yes _ _ h1 h2).mono ?_; rintro e w' ⟨rfl, rfl⟩)
        go_ret2
        exact ⟨rfl, rfl⟩
      · have H := Lib.hid (show n + k < 1 ∨ 3652059 < n + k by omega)
        have b' : k ≤ 3652059 := by omega
        have c' : -3652059 ≤ k := by omega
        clear a h b c
        go_enter Tryd.func29, Tryd.ntmps29
        go_wp2_with fail
        refine (is_yes _ _ h1 h2).mono ?_
        rintro e w' ⟨rfl, rfl⟩
        go_wp2_with fail
        refine (is_no _ _ H.out).mono ?_
        rintro e w' ⟨rfl, rfl⟩
        go_wp2
        go_ret2
        exact ⟨rfl, rfl⟩
/-- daybookref02.Add -/
theorem radd_yes (n k : Int) (w : World) (h : addOK n k) :
    Calls Tryd.prog 30 #[.int .i64 n, .int .i64 k] w fun e w' => e = .returned (.tuple #[.int .i64 (n + k), .int .i64 0]) ∧ w = w' := by
  unfold addOK at h
  obtain ⟨h1, h2, h3, h4, h5, h6⟩ := h
  go_enter Tryd.func30, Tryd.ntmps30
  go_wp2
  go_ret2
  exact ⟨rfl, rfl⟩
theorem radd_no (n k : Int) (w : World) (h : ¬ addOK n k) :
    Calls Tryd.prog 30 #[.int .i64 n, .int .i64 k] w fun e w' => e = .returned (.tuple #[.int .i64 0, .int .i64 20]) ∧ w = w' := by
  unfold addOK at h
  by_cases a : n < 1
  · clear h
    go_enter Tryd.func30, Tryd.ntmps30
    go_wp2
    go_ret2
    exact ⟨rfl, rfl⟩
  · by_cases a2 : 3652059 < n
    · clear h
      go_enter Tryd.func30, Tryd.ntmps30
      go_wp2
      go_ret2
      exact ⟨rfl, rfl⟩
    · by_cases c : k < -3652059
      · clear h
        go_enter Tryd.func30, Tryd.ntmps30
        go_wp2
        go_ret2
        exact ⟨rfl, rfl⟩
      · by_cases b : 3652059 < k
        · clear h
          go_enter Tryd.func30, Tryd.ntmps30
          go_wp2
          go_ret2
          exact ⟨rfl, rfl⟩
        · have b1 : k ≤ 3652059 := by omega
          have c1 : -3652059 ≤ k := by omega
          have b2 : n ≤ 3652059 := by omega
          have c2 : 1 ≤ n := by omega
          by_cases f : n + k < 1
          · clear h a a2 b c
            go_enter Tryd.func30, Tryd.ntmps30
            go_wp2
            go_ret2
            exact ⟨rfl, rfl⟩
          · have g : 3652059 < n + k := by omega
            clear h a a2 b c
            go_enter Tryd.func30, Tryd.ntmps30
            go_wp2
            go_ret2
            exact ⟨rfl, rfl⟩

set_option maxHeartbeats 2000000 in
theorem addMonths_cut (n k : Int) (w : World) (hL : LD w) (h : monthsOK n k) (hc : dim (monthsOn n k / 12) (monthsOn n k % 12 + 1) < dD n) :
    Calls Tryd.prog 31 #[.int .i64 n, .int .i64 k] w fun e w' => e = .returned (.tuple #[.int .i64 (DayMath.addMonths n k), .int .i64 0]) ∧ Below w.heap.size w w' := by
  unfold monthsOK at h
  obtain ⟨h1, h2, h3, h4, h5, h6⟩ := h
  have hs := (DayMath.date_spec n h1 h2).1
  unfold valid at hs
  obtain ⟨v1, v2, v3, v4, v5, v6⟩ := hs
  have hV := DayMath.months_valid (monthsOn n k) (dD n) h5 h6 v5
  have hE : DayMath.addMonths n k = num (monthsOn n k / 12) (monthsOn n k % 12 + 1) _ := rfl
  rw [if_pos hc] at hV hE
  have hdb2 := DayMath.dim_bd (monthsOn n k / 12) (monthsOn n k % 12 + 1)
  unfold monthsOn at h5 h6 hdb2 hV hE hc
  have HV := Lib.hid hV
  have HE := Lib.hid hE
  have HL' := Lib.hid hL
  clear hL hV hE
  go_enter Tryd.func31, Tryd.ntmps31
  go_wp2_with fail
  refine (to_any _ _ HL'.out h1 h2).mono ?_
  rintro e w1 ⟨rfl, hb1⟩
  have hsz := hb1.size
  go_wp2_with fail
  have hR : ∃ w2, w2 = w1.alloc (.cells #[.int .i64 ((12 * dY n + dM n - 1 + k) / 12), .int .i64 ((12 * dY n + dM n - 1 + k) % 12 + 1), .int .i64 (dD n)] 29) := ⟨_, rfl⟩
  obtain ⟨w2, hw2⟩ := hR
  have hb2 : Below w.heap.size w w2 := by rw [hw2]; exact hb1.alloc hsz _
  have q0 : w2.cell? ⟨w1.heap.size, 0, none⟩ = some (.int .i64 ((12 * dY n + dM n - 1 + k) / 12)) := by rw [hw2]; simp [go_sem]
  have q1 : w2.cell? ⟨w1.heap.size, 1, none⟩ = some (.int .i64 ((12 * dY n + dM n - 1 + k) % 12 + 1)) := by rw [hw2]; simp [go_sem]
  have q2 : w2.cell? ⟨w1.heap.size, 2, none⟩ = some (.int .i64 (dD n)) := by rw [hw2]; simp [go_sem]
  have qf : ∀ o, w2.frozen? ⟨w1.heap.size, o, none⟩ = false := fun o => by rw [hw2]; simp [go_sem]
  rw [← hw2]
  clear hw2
  have hL2 := Lib.hid (HL'.out.below hb2 HL'.out.pos)
  go_still_tail 9, (by kernel_rfl)
  still_call ((length_any _ _ _ (hL2.out.below (Below.refl _ _).drew hL2.out.pos) (by omega) (by omega)).mono (fun _ _ hh => ⟨hh.1, hh.2.symm⟩))
  repeat still_step
  refine wpStill_nil ?_
  change wpList _ _ _ _ _ w2.drew
  go_wp2_with fail
  have hb3 : Below w.heap.size w (w2.setCell ⟨w1.heap.size, 2, none⟩ (.int .i64 (dim ((12 * dY n + dM n - 1 + k) / 12) ((12 * dY n + dM n - 1 + k) % 12 + 1)))).drew := (hb2.setCell hsz _).drew
  refine (from_yes _ _ _ _ (HL'.out.below hb3 HL'.out.pos) HV.out).mono ?_
  rintro e w4 ⟨rfl, hb4⟩
  go_wp2
  go_ret2
  exact ⟨by rw [HE.out]; rfl, hb3.trans (hb4.mono hb3.size)⟩

set_option maxHeartbeats 2000000 in
theorem addMonths_same (n k : Int) (w : World) (hL : LD w) (h : monthsOK n k) (hc : ¬ dim (monthsOn n k / 12) (monthsOn n k % 12 + 1) < dD n) :
    Calls Tryd.prog 31 #[.int .i64 n, .int .i64 k] w fun e w' => e = .returned (.tuple #[.int .i64 (DayMath.addMonths n k), .int .i64 0]) ∧ Below w.heap.size w w' := by
  unfold monthsOK at h
  obtain ⟨h1, h2, h3, h4, h5, h6⟩ := h
  have hs := (DayMath.date_spec n h1 h2).1
  unfold valid at hs
  obtain ⟨v1, v2, v3, v4, v5, v6⟩ := hs
  have hV := DayMath.months_valid (monthsOn n k) (dD n) h5 h6 v5
  have hE : DayMath.addMonths n k = num (monthsOn n k / 12) (monthsOn n k % 12 + 1) _ := rfl
  rw [if_neg hc] at hV hE
  have hdb2 := DayMath.dim_bd (monthsOn n k / 12) (monthsOn n k % 12 + 1)
  unfold monthsOn at h5 h6 hdb2 hV hE hc
  have HV := Lib.hid hV
  have HE := Lib.hid hE
  have HL' := Lib.hid hL
  clear hL hV hE
  go_enter Tryd.func31, Tryd.ntmps31
  go_wp2_with fail
  refine (to_any _ _ HL'.out h1 h2).mono ?_
  rintro e w1 ⟨rfl, hb1⟩
  have hsz := hb1.size
  go_wp2_with fail
  have hR : ∃ w2, w2 = w1.alloc (.cells #[.int .i64 ((12 * dY n + dM n - 1 + k) / 12), .int .i64 ((12 * dY n + dM n - 1 + k) % 12 + 1), .int .i64 (dD n)] 29) := ⟨_, rfl⟩
  obtain ⟨w2, hw2⟩ := hR
  have hb2 : Below w.heap.size w w2 := by rw [hw2]; exact hb1.alloc hsz _
  have q0 : w2.cell? ⟨w1.heap.size, 0, none⟩ = some (.int .i64 ((12 * dY n + dM n - 1 + k) / 12)) := by rw [hw2]; simp [go_sem]
  have q1 : w2.cell? ⟨w1.heap.size, 1, none⟩ = some (.int .i64 ((12 * dY n + dM n - 1 + k) % 12 + 1)) := by rw [hw2]; simp [go_sem]
  have q2 : w2.cell? ⟨w1.heap.size, 2, none⟩ = some (.int .i64 (dD n)) := by rw [hw2]; simp [go_sem]
  have qf : ∀ o, w2.frozen? ⟨w1.heap.size, o, none⟩ = false := fun o => by rw [hw2]; simp [go_sem]
  rw [← hw2]
  clear hw2
  have hL2 := Lib.hid (HL'.out.below hb2 HL'.out.pos)
  go_still_tail 9, (by kernel_rfl)
  still_call ((length_any _ _ _ (hL2.out.below (Below.refl _ _).drew hL2.out.pos) (by omega) (by omega)).mono (fun _ _ hh => ⟨hh.1, hh.2.symm⟩))
  repeat still_step
  refine wpStill_nil ?_
  change wpList _ _ _ _ _ w2.drew
  go_wp2_with fail
  have hb3 : Below w.heap.size w (w2.setCell ⟨w1.heap.size, 2, none⟩ (.int .i64 (dD n))).drew := (hb2.setCell hsz _).drew
  refine (from_yes _ _ _ _ (HL'.out.below hb3 HL'.out.pos) HV.out).mono ?_
  rintro e w4 ⟨rfl, hb4⟩
  go_wp2
  go_ret2
  exact ⟨by rw [HE.out]; rfl, hb3.trans (hb4.mono hb3.size)⟩

set_option maxHeartbeats 2000000 in
theorem raddMonths_cut (n k : Int) (w : World) (h : monthsOK n k) (hc : dim (monthsOn n k / 12) (monthsOn n k % 12 + 1) < dD n) :
    Calls Tryd.prog 32 #[.int .i64 n, .int .i64 k] w fun e w' => e = .returned (.tuple #[.int .i64 (DayMath.addMonths n k), .int .i64 0]) ∧ Below w.heap.size w w' := by
  unfold monthsOK at h
  obtain ⟨h1, h2, h3, h4, h5, h6⟩ := h
  have hs := (DayMath.date_spec n h1 h2).1
  unfold valid at hs
  obtain ⟨v1, v2, v3, v4, v5, v6⟩ := hs
  have hV := DayMath.months_valid (monthsOn n k) (dD n) h5 h6 v5
  have hE : DayMath.addMonths n k = num (monthsOn n k / 12) (monthsOn n k % 12 + 1) _ := rfl
  rw [if_pos hc] at hV hE
  have hdb2 := DayMath.dim_bd (monthsOn n k / 12) (monthsOn n k % 12 + 1)
  unfold monthsOn at h5 h6 hdb2 hV hE hc
  have HV := Lib.hid hV
  have HE := Lib.hid hE
  clear hV hE
  go_enter Tryd.func32, Tryd.ntmps32
  go_wp2_with fail
  refine (rto_any _ _ h1 h2).mono ?_
  rintro e w1 ⟨rfl, hb1⟩
  have hsz := hb1.size
  go_wp2_with fail
  refine (size_any _ _ _).mono ?_
  rintro e w2 ⟨rfl, rfl⟩
  go_wp2_with fail
  refine (rfrom_yes _ _ _ _ HV.out).mono ?_
  rintro e w4 ⟨rfl, hb4⟩
  go_wp2
  go_ret2
  exact ⟨by rw [HE.out]; rfl, (hb1.alloc hsz _).trans (hb4.mono (by simp; omega))⟩

set_option maxHeartbeats 2000000 in
theorem raddMonths_same (n k : Int) (w : World) (h : monthsOK n k) (hc : ¬ dim (monthsOn n k / 12) (monthsOn n k % 12 + 1) < dD n) :
    Calls Tryd.prog 32 #[.int .i64 n, .int .i64 k] w fun e w' => e = .returned (.tuple #[.int .i64 (DayMath.addMonths n k), .int .i64 0]) ∧ Below w.heap.size w w' := by
  unfold monthsOK at h
  obtain ⟨h1, h2, h3, h4, h5, h6⟩ := h
  have hs := (DayMath.date_spec n h1 h2).1
  unfold valid at hs
  obtain ⟨v1, v2, v3, v4, v5, v6⟩ := hs
  have hV := DayMath.months_valid (monthsOn n k) (dD n) h5 h6 v5
  have hE : DayMath.addMonths n k = num (monthsOn n k / 12) (monthsOn n k % 12 + 1) _ := rfl
  rw [if_neg hc] at hV hE
  have hdb2 := DayMath.dim_bd (monthsOn n k / 12) (monthsOn n k % 12 + 1)
  unfold monthsOn at h5 h6 hdb2 hV hE hc
  have HV := Lib.hid hV
  have HE := Lib.hid hE
  clear hV hE
  go_enter Tryd.func32, Tryd.ntmps32
  go_wp2_with fail
  refine (rto_any _ _ h1 h2).mono ?_
  rintro e w1 ⟨rfl, hb1⟩
  have hsz := hb1.size
  go_wp2_with fail
  refine (size_any _ _ _).mono ?_
  rintro e w2 ⟨rfl, rfl⟩
  go_wp2_with fail
  refine (rfrom_yes _ _ _ _ HV.out).mono ?_
  rintro e w4 ⟨rfl, hb4⟩
  go_wp2
  go_ret2
  exact ⟨by rw [HE.out]; rfl, (hb1.alloc hsz _).trans (hb4.mono (by simp; omega))⟩

/-- day.AddMonths -/
theorem addMonths_yes (n k : Int) (w : World) (hL : LD w) (h : monthsOK n k) :
    Calls Tryd.prog 31 #[.int .i64 n, .int .i64 k] w fun e w' => e = .returned (.tuple #[.int .i64 (DayMath.addMonths n k), .int .i64 0]) ∧ Below w.heap.size w w' := by
  by_cases hc : dim (monthsOn n k / 12) (monthsOn n k % 12 + 1) < dD n
  · exact addMonths_cut n k w hL h hc
  · exact addMonths_same n k w hL h hc
/-- daybookref02.AddMonths -/
theorem raddMonths_yes (n k : Int) (w : World) (h : monthsOK n k) :
    Calls Tryd.prog 32 #[.int .i64 n, .int .i64 k] w fun e w' => e = .returned (.tuple #[.int .i64 (DayMath.addMonths n k), .int .i64 0]) ∧ Below w.heap.size w w' := by
  by_cases hc : dim (monthsOn n k / 12) (monthsOn n k % 12 + 1) < dD n
  · exact raddMonths_cut n k w h hc
  · exact raddMonths_same n k w h hc

set_option maxHeartbeats 2000000 in
theorem addMonths_no (n k : Int) (w : World) (hL : LD w) (h : ¬ monthsOK n k) :
    Calls Tryd.prog 31 #[.int .i64 n, .int .i64 k] w fun e w' => e = .returned (.tuple #[.int .i64 0, .int .i64 20]) ∧ Below w.heap.size w w' := by
  unfold monthsOK at h
  have HL' := Lib.hid hL
  clear hL
  by_cases a : n < 1 ∨ 3652059 < n
  · have A := Lib.hid a
    clear a h
    go_enter Tryd.func31, Tryd.ntmps31
    go_wp2_with fail
    refine (to_no _ _ A.out).mono ?_
    rintro e w1 ⟨rfl, hb1⟩
    go_wp2
    go_ret2
    exact ⟨rfl, hb1.alloc hb1.size _⟩
  have h1 : 1 ≤ n := by omega
  have h2 : n ≤ 3652059 := by omega
  have hs := (DayMath.date_spec n h1 h2).1
  unfold valid at hs
  obtain ⟨v1, v2, v3, v4, v5, v6⟩ := hs
  have hdb := DayMath.dim_bd (dY n) (dM n)
  unfold monthsOn at h
  by_cases b : k < -119988
  · have b2 : ¬ 119988 < k := by omega
    clear a h
    go_enter Tryd.func31, Tryd.ntmps31
    go_wp2_with fail
    refine (to_any _ _ HL'.out h1 h2).mono ?_
    rintro e w1 ⟨rfl, hb1⟩
    go_wp2
    go_ret2
    exact ⟨rfl, hb1.alloc hb1.size _⟩

  by_cases c : 119988 < k
  · clear a h
    go_enter Tryd.func31, Tryd.ntmps31
    go_wp2_with fail
    refine (to_any _ _ HL'.out h1 h2).mono ?_
    rintro e w1 ⟨rfl, hb1⟩
    go_wp2
    go_ret2
    exact ⟨rfl, hb1.alloc hb1.size _⟩

  have b' : -119988 ≤ k := by omega
  have c' : k ≤ 119988 := by omega
  by_cases d : (12 * dY n + dM n - 1 + k) < 12
  · clear a h b c
    go_enter Tryd.func31, Tryd.ntmps31
    go_wp2_with fail
    refine (to_any _ _ HL'.out h1 h2).mono ?_
    rintro e w1 ⟨rfl, hb1⟩
    go_wp2
    go_ret2
    exact ⟨rfl, hb1.alloc hb1.size _⟩

  have d' : 12 ≤ (12 * dY n + dM n - 1 + k) := by omega
  have e' : 120000 ≤ (12 * dY n + dM n - 1 + k) := by omega
  · clear a h b c d
    go_enter Tryd.func31, Tryd.ntmps31
    go_wp2_with fail
    refine (to_any _ _ HL'.out h1 h2).mono ?_
    rintro e w1 ⟨rfl, hb1⟩
    go_wp2
    go_ret2
    exact ⟨rfl, hb1.alloc hb1.size _⟩

set_option maxHeartbeats 2000000 in
theorem raddMonths_no (n k : Int) (w : World) (h : ¬ monthsOK n k) :
    Calls Tryd.prog 32 #[.int .i64 n, .int .i64 k] w fun e w' => e = .returned (.tuple #[.int .i64 0, .int .i64 20]) ∧ Below w.heap.size w w' := by
  unfold monthsOK at h
  by_cases a : n < 1 ∨ 3652059 < n
  · have A := Lib.hid a
    clear a h
    go_enter Tryd.func32, Tryd.ntmps32
    go_wp2_with fail
    refine (rto_no _ _ A.out).mono ?_
    rintro e w1 ⟨rfl, hb1⟩
    go_wp2
    go_ret2
    exact ⟨rfl, hb1.alloc hb1.size _⟩
  have h1 : 1 ≤ n := by omega
  have h2 : n ≤ 3652059 := by omega
  have hs := (DayMath.date_spec n h1 h2).1
  unfold valid at hs
  obtain ⟨v1, v2, v3, v4, v5, v6⟩ := hs
  have hdb := DayMath.dim_bd (dY n) (dM n)
  unfold monthsOn at h
  by_cases b : k < -119988
  · have b2 : ¬ 119988 < k := by omega
    clear a h
    go_enter Tryd.func32, Tryd.ntmps32
    go_wp2_with fail
    refine (rto_any _ _ h1 h2).mono ?_
    rintro e w1 ⟨rfl, hb1⟩
    go_wp2
    go_ret2
    exact ⟨rfl, hb1.alloc hb1.size _⟩

  by_cases c : 119988 < k
  · clear a h
    go_enter Tryd.func32, Tryd.ntmps32
    go_wp2_with fail
    refine (rto_any _ _ h1 h2).mono ?_
    rintro e w1 ⟨rfl, hb1⟩
    go_wp2
    go_ret2
    exact ⟨rfl, hb1.alloc hb1.size _⟩

  have b' : -119988 ≤ k := by omega
  have c' : k ≤ 119988 := by omega
  by_cases d : (12 * dY n + dM n - 1 + k) < 12
  · clear a h b c
    go_enter Tryd.func32, Tryd.ntmps32
    go_wp2_with fail
    refine (rto_any _ _ h1 h2).mono ?_
    rintro e w1 ⟨rfl, hb1⟩
    go_wp2
    go_ret2
    exact ⟨rfl, hb1.alloc hb1.size _⟩

  have d' : 12 ≤ (12 * dY n + dM n - 1 + k) := by omega
  have e' : 120000 ≤ (12 * dY n + dM n - 1 + k) := by omega
  · clear a h b c d
    go_enter Tryd.func32, Tryd.ntmps32
    go_wp2_with fail
    refine (rto_any _ _ h1 h2).mono ?_
    rintro e w1 ⟨rfl, hb1⟩
    go_wp2
    go_ret2
    exact ⟨rfl, hb1.alloc hb1.size _⟩

end Go.Proofs.YtidjipcdnkgigaaDoor
