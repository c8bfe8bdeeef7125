/- Contracts of From: a date's day, by the program's closed sum and by the document's count; law DayDates. -/
import Derived.Test.YtidjipcdnkgigaaDoorDayB
namespace Go.Proofs.YtidjipcdnkgigaaDoor
set_option linter.unusedVariables false
set_option linter.unusedSimpArgs false
open Go.RowKit
open DayMath (leapP lp dim long cum num valid)

/-- behind a call that keeps what was there: cells and marks read as before -/
theorem bcell {W w1 : World} (hb : Below W.heap.size W w1) : (∀ b o, b < W.heap.size → w1.cell? ⟨b, o, none⟩ = W.cell? ⟨b, o, none⟩) ∧ (∀ b o, b < W.heap.size → w1.frozen? ⟨b, o, none⟩ = W.frozen? ⟨b, o, none⟩) :=
  ⟨fun b o h => hb.cell (p := ⟨b, o, none⟩) h, fun b o h => hb.frozen (p := ⟨b, o, none⟩) h⟩

theorem ret_pair {k k' : IntKind} {a b c : Int} (h : a = b) : Ending.returned (.tuple #[.int k a, .int k' c]) = .returned (.tuple #[.int k b, .int k' c]) := by rw [h]

set_option maxHeartbeats 1000000 in
/-- day.From, of a date -/
theorem from_yes (y m d : Int) (w : World) (hL : LD w) (h : valid y m d) :
    Calls Tryd.prog 19 #[.agg #[.int .i64 y, .int .i64 m, .int .i64 d]] w fun e w' => e = .returned (.tuple #[.int .i64 (num y m d), .int .i64 0]) ∧ Below w.heap.size w w' := by
  unfold valid at h
  obtain ⟨h1, h2, h3, h4, h5, h6⟩ := h
  have hb := DayMath.dim_bd y m
  have ha := DayMath.ahead_nonneg y h1
  have ha2 := DayMath.ahead_le y h1 (by omega)
  have HM : monthB y m := ⟨h1, h2, h3, h4⟩
  have HL : ∀ w' : World, Below w.heap.size w w' → LD w' := fun w' b => hL.below b hL.pos
  have HL' := Lib.hid HL
  have HM' := Lib.hid HM
  clear hL HL HM
  go_enter Tryd.func19, Tryd.ntmps19
  go_wp2_with (go_at_call 14; refine (days_yes _ _ _ (HL'.out _ ((Below.refl _ _).alloc (Nat.le_refl _) _)) HM'.out).mono ?_; rintro e w' ⟨rfl, rfl⟩)
  go_quiet ((go_at_call 41; exact Calls.quiet_of_same ((ahead_any _ _ h1 (by omega)).mono (fun _ _ hh => ⟨hh.1, hh.2.symm⟩))))
  go_wp2
  go_loop [6, 7] (fun n i => ∃ k : Int, 1 ≤ k ∧ k ≤ m ∧ i = .int .i64 k ∧ n = .int .i64 (DayMath.ahead y + d + cum y k)) (fun _ i => (m - intOf i).toNat)
  case atStart => exact ⟨1, by omega, h3, rfl, by rw [DayMath.cum_one, Int.add_zero]⟩
  case round =>
    obtain ⟨k, hk1, hk2, rfl, rfl⟩ := hrel
    have hc := DayMath.cum_bd y k hk1 (by omega)
    have hd := DayMath.dim_bd y k
    have hs := Lib.hid (DayMath.cum_succ y k hk1 (by omega))
    by_cases hlt : k < m
    · go_wp2_with (go_at_call 39; refine (length_any _ _ _ (HL'.out _ (below_drewN ((Below.refl _ _).alloc (Nat.le_refl _) _) _)) hk1 (by omega)).mono ?_; rintro e w' ⟨rfl, rfl⟩)
      go_round
      case rel => exact ⟨k + 1, by omega, by omega, rfl, by rw [hs.out]; go_num⟩
      case measure => simp [intOf]; omega
    · obtain rfl : k = m := by omega
      go_wp2
      go_ret2
      exact ⟨ret_pair (by unfold num; omega), below_drewN ((Below.refl _ _).alloc (Nat.le_refl _) _) _⟩

set_option maxHeartbeats 1000000 in
/-- day.From, of what is no date -/
theorem from_no (y m d : Int) (w : World) (hL : LD w) (h : ¬ valid y m d) :
    Calls Tryd.prog 19 #[.agg #[.int .i64 y, .int .i64 m, .int .i64 d]] w fun e w' => e = .returned (.tuple #[.int .i64 0, .int .i64 20]) ∧ Below w.heap.size w w' := by
  have HL : ∀ w' : World, Below w.heap.size w w' → LD w' := fun w' b => hL.below b hL.pos
  have HL' := Lib.hid HL
  clear hL HL
  by_cases hM : monthB y m
  · have HM' := Lib.hid hM
    unfold monthB at hM
    obtain ⟨h1, h2, h3, h4⟩ := hM
    unfold valid at h
    by_cases hd : d < 1
    · clear h
      go_enter Tryd.func19, Tryd.ntmps19
      go_wp2_with (go_at_call 14; refine (days_yes _ _ _ (HL'.out _ ((Below.refl _ _).alloc (Nat.le_refl _) _)) HM'.out).mono ?_; rintro e w' ⟨rfl, rfl⟩)
      go_ret2
      exact ⟨rfl, (Below.refl _ _).alloc (Nat.le_refl _) _⟩
    · have hd2 : dim y m < d := by omega
      clear h
      go_enter Tryd.func19, Tryd.ntmps19
      go_wp2_with (go_at_call 14; refine (days_yes _ _ _ (HL'.out _ ((Below.refl _ _).alloc (Nat.le_refl _) _)) HM'.out).mono ?_; rintro e w' ⟨rfl, rfl⟩)
      go_ret2
      exact ⟨rfl, (Below.refl _ _).alloc (Nat.le_refl _) _⟩
  · have HM' := Lib.hid hM
    clear hM h
    go_enter Tryd.func19, Tryd.ntmps19
    go_wp2_with (go_at_call 14; refine (days_no _ _ _ HM'.out).mono ?_; rintro e w' ⟨rfl, rfl⟩)
    go_ret2
    exact ⟨rfl, (Below.refl _ _).alloc (Nat.le_refl _) _⟩

set_option maxHeartbeats 1000000 in
/-- daybookref02.From, of a date -/
theorem rfrom_yes (y m d : Int) (w : World) (h : valid y m d) :
    Calls Tryd.prog 20 #[.agg #[.int .i64 y, .int .i64 m, .int .i64 d]] w fun e w' => e = .returned (.tuple #[.int .i64 (num y m d), .int .i64 0]) ∧ Below w.heap.size w w' := by
  unfold valid at h
  obtain ⟨h1, h2, h3, h4, h5, h6⟩ := h
  have hb := DayMath.dim_bd y m
  have HM : monthB y m := ⟨h1, h2, h3, h4⟩
  have HM' := Lib.hid HM
  clear HM
  go_enter Tryd.func20, Tryd.ntmps20
  go_wp2_with (go_at_call 15; refine (rdays_yes _ _ _ HM'.out).mono ?_; rintro e w' ⟨rfl, rfl⟩)
  go_loop [6, 7] (fun n i => ∃ k : Int, 1 ≤ k ∧ k ≤ y ∧ i = .int .i64 k ∧ n = .int .i64 (DayMath.ahead k + d)) (fun _ i => (y - intOf i).toNat)
  case atStart => exact ⟨1, by omega, h1, rfl, by rw [DayMath.ahead_one]; go_num⟩
  case round =>
    obtain ⟨k, hk1, hk2, rfl, rfl⟩ := hrel
    have ha := DayMath.ahead_nonneg k hk1
    have ha2 := DayMath.ahead_le k hk1 (by omega)
    have hs := Lib.hid (DayMath.ahead_succ k)
    have hl : 365 ≤ long k ∧ long k ≤ 366 := by have := DayMath.lp_01 k; unfold long; omega
    by_cases hlt : k < y
    · go_wp2_with (go_at_call 42; refine (long_any _ _).mono ?_; rintro e w' ⟨rfl, rfl⟩)
      go_round
      case rel => exact ⟨k + 1, by omega, by omega, rfl, by rw [hs.out]; go_num⟩
      case measure => simp [intOf]; omega
    · obtain rfl : k = y := by omega
      go_wp2
      go_loop [6, 8] (fun n i => ∃ j : Int, 1 ≤ j ∧ j ≤ m ∧ i = .int .i64 j ∧ n = .int .i64 (DayMath.ahead k + d + cum k j)) (fun _ i => (m - intOf i).toNat)
      case atStart => exact ⟨1, by omega, h3, rfl, by rw [DayMath.cum_one, Int.add_zero]⟩
      case round =>
        obtain ⟨j, hj1, hj2, rfl, rfl⟩ := hrel
        have hc := DayMath.cum_bd k j hj1 (by omega)
        have hd := DayMath.dim_bd k j
        have hs2 := Lib.hid (DayMath.cum_succ k j hj1 (by omega))
        by_cases hlt : j < m
        · go_wp2_with (go_at_call 40; refine (size_any _ _ _).mono ?_; rintro e w' ⟨rfl, rfl⟩)
          go_round
          case rel => exact ⟨j + 1, by omega, by omega, rfl, by rw [hs2.out]; go_num⟩
          case measure => simp [intOf]; omega
        · obtain rfl : j = m := by omega
          go_wp2
          go_ret2
          exact ⟨ret_pair (by unfold num; omega), (Below.refl _ _).alloc (Nat.le_refl _) _⟩

set_option maxHeartbeats 1000000 in
/-- daybookref02.From, of what is no date -/
theorem rfrom_no (y m d : Int) (w : World) (h : ¬ valid y m d) :
    Calls Tryd.prog 20 #[.agg #[.int .i64 y, .int .i64 m, .int .i64 d]] w fun e w' => e = .returned (.tuple #[.int .i64 0, .int .i64 20]) ∧ Below w.heap.size w w' := by
  by_cases hM : monthB y m
  · have HM' := Lib.hid hM
    unfold monthB at hM
    obtain ⟨h1, h2, h3, h4⟩ := hM
    unfold valid at h
    by_cases hd : d < 1
    · clear h
      go_enter Tryd.func20, Tryd.ntmps20
      go_wp2_with (go_at_call 15; refine (rdays_yes _ _ _ HM'.out).mono ?_; rintro e w' ⟨rfl, rfl⟩)
      go_ret2
      exact ⟨rfl, (Below.refl _ _).alloc (Nat.le_refl _) _⟩
    · have hd2 : dim y m < d := by omega
      clear h
      go_enter Tryd.func20, Tryd.ntmps20
      go_wp2_with (go_at_call 15; refine (rdays_yes _ _ _ HM'.out).mono ?_; rintro e w' ⟨rfl, rfl⟩)
      go_ret2
      exact ⟨rfl, (Below.refl _ _).alloc (Nat.le_refl _) _⟩
  · have HM' := Lib.hid hM
    clear hM h
    go_enter Tryd.func20, Tryd.ntmps20
    go_wp2_with (go_at_call 15; refine (rdays_no _ _ _ HM'.out).mono ?_; rintro e w' ⟨rfl, rfl⟩)
    go_ret2
    exact ⟨rfl, (Below.refl _ _).alloc (Nat.le_refl _) _⟩

set_option maxHeartbeats 1000000 in
/-- daybooklaw02.DayDates -/
theorem dayDates_walk (y m d : Int) (w : World) (hL : LD w) :
    Calls Tryd.prog 4 #[.agg #[.int .i64 y, .int .i64 m, .int .i64 d]] w fun e w' => e = .returned (.bool true) ∧ Below w.heap.size w w' := by
  have HL : ∀ w' : World, Below w.heap.size w w' → LD w' := fun w' b => hL.below b hL.pos
  have HL' := Lib.hid HL
  clear hL HL
  by_cases h : valid y m d
  · have H := Lib.hid h
    clear h
    go_enter Tryd.func4, Tryd.ntmps4
    go_wp2_with fail
    refine (from_yes _ _ _ _ (HL'.out _ ((Below.refl _ _).alloc (Nat.le_refl _) _)) H.out).mono ?_
    rintro e w1 ⟨rfl, hb1⟩
    obtain ⟨hc, hf⟩ := bcell hb1
    go_wp2_with fail
    refine (rfrom_yes _ _ _ _ H.out).mono ?_
    rintro e w2 ⟨rfl, hb2⟩
    go_wp2_with (go_at_call 16; refine (alike_yes _ _ _).mono ?_; rintro e w' ⟨rfl, rfl⟩)
    go_ret
    exact ⟨rfl, ((Below.refl _ _).alloc (Nat.le_refl _) _).trans ((hb1.mono (by simp)).trans (hb2.mono (by have := hb1.size; simp at this; omega)))⟩
  · have H := Lib.hid h
    clear h
    go_enter Tryd.func4, Tryd.ntmps4
    go_wp2_with fail
    refine (from_no _ _ _ _ (HL'.out _ ((Below.refl _ _).alloc (Nat.le_refl _) _)) H.out).mono ?_
    rintro e w1 ⟨rfl, hb1⟩
    obtain ⟨hc, hf⟩ := bcell hb1
    go_wp2_with fail
    refine (rfrom_no _ _ _ _ H.out).mono ?_
    rintro e w2 ⟨rfl, hb2⟩
    go_wp2_with (go_at_call 16; refine (alike_yes _ _ _).mono ?_; rintro e w' ⟨rfl, rfl⟩)
    go_ret
    exact ⟨rfl, ((Below.refl _ _).alloc (Nat.le_refl _) _).trans ((hb1.mono (by simp)).trans (hb2.mono (by have := hb1.size; simp at this; omega)))⟩
end Go.Proofs.YtidjipcdnkgigaaDoor
