/- Contracts of To: a day's date. -/
import Derived.Test.YtidjipcdnkgigaaDoorDayC
import Derived.StillTailTactics
import Derived.Deep.RegionWith
import Derived.Deep.RegionHeld3
import Derived.Deep.LoopGhost
namespace Go.Proofs.YtidjipcdnkgigaaDoor
set_option linter.unusedVariables false
set_option linter.unusedSimpArgs false
open Go.RowKit
open DayMath (leapP lp dim long cum num valid)

/-- what To's loop over the months knows of the world: the date's cells, the result's cells -/
structure ToRel (w wr : World) (y m d : Int) : Prop where
  bel : Below w.heap.size w wr
  size : wr.heap.size = w.heap.size + 2
  y : wr.cell? ⟨w.heap.size + 1, 0, none⟩ = some (.int .i64 y)
  m : wr.cell? ⟨w.heap.size + 1, 1, none⟩ = some (.int .i64 m)
  d : wr.cell? ⟨w.heap.size + 1, 2, none⟩ = some (.int .i64 d)
  f : ∀ o, wr.frozen? ⟨w.heap.size + 1, o, none⟩ = false
  r : ∀ o, o < 3 → wr.cell? ⟨w.heap.size, o, none⟩ = some (.int .i64 0)
  g : ∀ o, wr.frozen? ⟨w.heap.size, o, none⟩ = false

theorem ToRel.start (w : World) (y m d : Int) : ToRel w ((w.alloc (.cells #[.int .i64 0, .int .i64 0, .int .i64 0] 29)).alloc (.cells #[.int .i64 y, .int .i64 m, .int .i64 d] 29)) y m d where
  bel := ((Below.refl _ _).alloc (Nat.le_refl _) _).alloc (by simp) _
  size := by simp
  y := by simp [go_sem]
  m := by simp [go_sem]
  d := by simp [go_sem]
  f := fun o => by simp [go_sem]
  r := fun o ho => by
    have : o = 0 ∨ o = 1 ∨ o = 2 := by omega
    rcases this with rfl | rfl | rfl <;> simp [go_sem]
  g := fun o => by simp [go_sem]

theorem ToRel.step {w wr : World} {y m d m' d' : Int} (h : ToRel w wr y m d) : ToRel w ((wr.drew.setCell ⟨w.heap.size + 1, 2, none⟩ (.int .i64 d')).setCell ⟨w.heap.size + 1, 1, none⟩ (.int .i64 m')) y m' d' where
  bel := (h.bel.drew.setCell (by simp) _).setCell (by simp) _
  size := by have := h.size; simp; exact this
  y := by have := h.y; simp [go_sem, this]
  m := by have := h.m; simp [go_sem, this]
  d := by have := h.d; simp [go_sem, this]
  f := fun o => by have := h.f o; simp [go_sem, this]
  r := fun o ho => by have := h.r o ho; simp [go_sem, this]
  g := fun o => by have := h.g o; simp [go_sem, this]

/-- what To hands back, of a day -/
def DateOf (n : Int) (w : World) (e : Ending) (w' : World) : Prop :=
  ∃ y m d, e = .returned (.tuple #[.agg #[.int .i64 y, .int .i64 m, .int .i64 d], .int .i64 0]) ∧ valid y m d ∧ num y m d = n ∧ Below w.heap.size w w'

set_option maxHeartbeats 1000000 in
/-- day.To, of a day -/
theorem to_yes (n : Int) (w : World) (hL : LD w) (h1 : 1 ≤ n) (h2 : n ≤ 3652059) :
    Calls Tryd.prog 21 #[.int .i64 n] w (DateOf n w) := by
  have HL : ∀ w' : World, Below w.heap.size w w' → LD w' := fun w' b => hL.below b hL.pos
  have HL' := Lib.hid HL
  have hg := DayMath.guess n h1 h2
  simp only at hg
  obtain ⟨g1, g2, g3⟩ := hg
  clear hL HL
  go_enter Tryd.func21, Tryd.ntmps21
  go_wp2_with (go_at_call 43; refine (is_yes _ _ h1 h2).mono ?_; rintro e w' ⟨rfl, rfl⟩)
  go_loop [4] (fun t => ∃ y : Int, 1 ≤ y ∧ y ≤ 9999 ∧ DayMath.ahead y < n ∧ t = .int .i64 y) (fun t => (9999 - intOf t).toNat)
  case atStart => exact ⟨_, g1, g2, g3, rfl⟩
  case round =>
    obtain ⟨y, hy1, hy2, hy3, rfl⟩ := hrel
    have ha := DayMath.ahead_nonneg y hy1
    have ha2 := DayMath.ahead_le y hy1 (by omega)
    have ha3 := DayMath.ahead_nonneg (y + 1) (by omega)
    have ha4 := DayMath.ahead_le (y + 1) (by omega) (by omega)
    clear g1 g2 g3
    by_cases hc : DayMath.ahead (y + 1) < n
    · have hy4 : y < 9999 := by
        by_cases e : y = 9999
        · subst e
          have := DayMath.ahead_max
          have e : (9999 : Int) + 1 = 10000 := by omega
          rw [e] at hc
          omega
        · omega
      go_wp2_with (go_at_call 41; refine (ahead_any _ _ (by omega) (by omega)).mono ?_; rintro e w' ⟨rfl, rfl⟩)
      go_round
      case rel => exact ⟨y + 1, by omega, by omega, hc, rfl⟩
      case measure => simp [intOf]; omega
    · go_wp2_with (go_at_call 41; refine (ahead_any _ _ (by omega) (by omega)).mono ?_; rintro e w' ⟨rfl, rfl⟩)
      have hn1 : 1 ≤ n - DayMath.ahead y := by omega
      have hn2 : n - DayMath.ahead y ≤ 366 := by
        have := DayMath.ahead_succ y; have := DayMath.lp_01 y; unfold long at *; omega
      have hE := Lib.hid (show n - DayMath.ahead y ≤ long y from by have := DayMath.ahead_succ y; omega)
      clear ha3 ha4
      go_loopg [33] 11 (fun g s33 wr => ∃ k : Int, 1 ≤ k ∧ k ≤ 12 ∧ g = (12 - k).toNat ∧ 1 ≤ n - DayMath.ahead y - cum y k ∧ ToRel w wr y k (n - DayMath.ahead y - cum y k))
      case atStart =>
        refine ⟨1, by omega, by omega, by omega, by rw [DayMath.cum_one]; omega, ?_⟩
        rw [DayMath.cum_one, Int.sub_zero]
        exact ToRel.start w y 1 _
      case round =>
        obtain ⟨k, hk1, hk2, hgk, hk3, hR⟩ := hrel
        have hc := DayMath.cum_bd y k hk1 (by omega)
        have hd := DayMath.dim_bd y k
        have Hgk := Lib.hid hgk
        obtain ⟨rb, rs, ry, rm, rd, rf, rr, rg⟩ := hR
        have Rs := Lib.hid rs
        clear hgk rs
        by_cases hlt : dim y k < n - DayMath.ahead y - cum y k
        · go_wp2_with fail
          go_quiet ((go_at_call 39; exact Calls.quiet_of_same ((length_any _ _ _ (HL'.out _ (below_drewN rb _)) hk1 hk2).mono (fun _ _ hh => ⟨hh.1, hh.2.symm⟩))))
          go_wp2_with fail
          have hR2 : ToRel w (wr.drewN nq) y k (n - DayMath.ahead y - cum y k) := ⟨below_drewN rb nq, Rs.out, ry, rm, rd, rf, rr, rg⟩
          clear rb ry rm rd rf rr rg Rs
          generalize wr.drewN nq = w2 at *
          obtain ⟨rb, rs, ry, rm, rd, rf, rr, rg⟩ := hR2
          have Rs := Lib.hid rs
          clear rs
          go_still_tail 9, (by kernel_rfl)
          still_call ((length_any _ _ _ (HL'.out _ rb.drew) hk1 hk2).mono (fun _ _ hh => ⟨hh.1, hh.2.symm⟩))
          repeat still_step
          refine wpStill_nil ?_
          change wpList _ _ _ _ _ w2.drew
          go_wp2_with fail
          have hk4 : k < 12 := by
            by_cases e : k = 12
            · subst e
              have h13 := DayMath.cum_succ y 12 (by omega) (by omega)
              have h14 := DayMath.cum_13 y
              have := hE.out; unfold long at this
              have e : (12 : Int) + 1 = 13 := by omega
              rw [e] at h13
              omega
            · omega
          have hgk := Hgk.out
          go_roundg (12 - (k + 1)).toNat
          case measure => omega
          case rel =>
            refine ⟨k + 1, by omega, by omega, rfl, ?_, ?_⟩
            · have := DayMath.cum_succ y k hk1 hk2; omega
            · have e : n - DayMath.ahead y - cum y (k + 1) = n - DayMath.ahead y - cum y k - dim y k := by have := DayMath.cum_succ y k hk1 hk2; omega
              rw [e]
              exact ToRel.step ⟨rb, Rs.out, ry, rm, rd, rf, rr, rg⟩
        · go_wp2_with fail
          go_quiet ((go_at_call 39; exact Calls.quiet_of_same ((length_any _ _ _ (HL'.out _ (below_drewN rb _)) hk1 hk2).mono (fun _ _ hh => ⟨hh.1, hh.2.symm⟩))))
          have r0 := rr 0 (by omega)
          have r1 := rr 1 (by omega)
          have r2 := rr 2 (by omega)
          go_wp2_with fail
          refine bodyPost_ret (v := .tuple #[.agg #[.int .i64 y, .int .i64 k, .int .i64 (n - DayMath.ahead y - cum y k)], .int .i64 0]) ?_ rfl ⟨y, k, _, rfl, ⟨hy1, hy2, hk1, hk2, hk3, by omega⟩, by unfold num; omega, ?_⟩
          · simp [results, Tryd.results21, go_sem, r0, r1, r2]
          · exact (((below_drewN rb _).setCell (by simp) _).setCell (by simp) _).setCell (by simp) _

set_option maxHeartbeats 1000000 in
/-- day.To, of what is no day -/
theorem to_no (n : Int) (w : World) (h : n < 1 ∨ 3652059 < n) :
    Calls Tryd.prog 21 #[.int .i64 n] w fun e w' => e = .returned (.tuple #[.agg #[.int .i64 0, .int .i64 0, .int .i64 0], .int .i64 20]) ∧ Below w.heap.size w w' := by
  have H := Lib.hid h
  clear h
  go_enter Tryd.func21, Tryd.ntmps21
  go_wp2_with (go_at_call 43; refine (is_no _ _ H.out).mono ?_; rintro e w' ⟨rfl, rfl⟩)
  refine bodyPost_ret (v := .tuple #[.agg #[.int .i64 0, .int .i64 0, .int .i64 0], .int .i64 20]) (by simp [results, Tryd.results21, go_sem]) rfl ⟨rfl, ?_⟩
  exact (Below.refl _ _).alloc (Nat.le_refl _) _

set_option maxHeartbeats 1000000 in
/-- daybookref02.To, of what is no day -/
theorem rto_no (n : Int) (w : World) (h : n < 1 ∨ 3652059 < n) :
    Calls Tryd.prog 22 #[.int .i64 n] w fun e w' => e = .returned (.tuple #[.agg #[.int .i64 0, .int .i64 0, .int .i64 0], .int .i64 20]) ∧ Below w.heap.size w w' := by
  by_cases h1 : n < 1
  · clear h
    go_enter Tryd.func22, Tryd.ntmps22
    go_wp2
    refine bodyPost_ret (v := .tuple #[.agg #[.int .i64 0, .int .i64 0, .int .i64 0], .int .i64 20]) (by simp [results, Tryd.results22, go_sem]) rfl ⟨rfl, ?_⟩
    exact (Below.refl _ _).alloc (Nat.le_refl _) _
  · have h2 : 3652059 < n := by omega
    clear h
    go_enter Tryd.func22, Tryd.ntmps22
    go_wp2
    refine bodyPost_ret (v := .tuple #[.agg #[.int .i64 0, .int .i64 0, .int .i64 0], .int .i64 20]) (by simp [results, Tryd.results22, go_sem]) rfl ⟨rfl, ?_⟩
    exact (Below.refl _ _).alloc (Nat.le_refl _) _
end Go.Proofs.YtidjipcdnkgigaaDoor
