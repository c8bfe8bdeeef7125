/- Contract of the document's To: a day's date, by taking off years and months. -/
import Derived.Test.YtidjipcdnkgigaaDoorDayD
namespace Go.Proofs.YtidjipcdnkgigaaDoor
set_option linter.unusedVariables false
set_option linter.unusedSimpArgs false
open Go.RowKit
open DayMath (leapP lp dim long cum num valid)

theorem ToRel.yearStep {w wr : World} {y m d y' : Int} (h : ToRel w wr y m d) : ToRel w (wr.setCell ⟨w.heap.size + 1, 0, none⟩ (.int .i64 y')) y' m d where
  bel := h.bel.setCell (by simp) _
  size := by have := h.size; simp; exact this
  y := by have := h.y; simp [go_sem, this]
  m := by have := h.m; simp [go_sem, this]
  d := by have := h.d; simp [go_sem, this]
  f := fun o => by have := h.f o; simp [go_sem, this]
  r := fun o ho => by have := h.r o ho; simp [go_sem, this]
  g := fun o => by have := h.g o; simp [go_sem, this]
theorem ToRel.monthStep {w wr : World} {y m d m' : Int} (h : ToRel w wr y m d) : ToRel w (wr.setCell ⟨w.heap.size + 1, 1, none⟩ (.int .i64 m')) y m' d where
  bel := h.bel.setCell (by simp) _
  size := by have := h.size; simp; exact this
  y := by have := h.y; simp [go_sem, this]
  m := by have := h.m; simp [go_sem, this]
  d := by have := h.d; simp [go_sem, this]
  f := fun o => by have := h.f o; simp [go_sem, this]
  r := fun o ho => by have := h.r o ho; simp [go_sem, this]
  g := fun o => by have := h.g o; simp [go_sem, this]
theorem ToRel.start32 (w : World) (y m d : Int) : ToRel w ((w.alloc (.cells #[.int .i64 0, .int .i64 0, .int .i64 0] 32)).alloc (.cells #[.int .i64 y, .int .i64 m, .int .i64 d] 32)) y m d where
  bel := ((Below.refl _ _).alloc (Nat.le_refl _) _).alloc (by simp) _
  size := by simp
  y := by simp [go_sem]
  m := by simp [go_sem]
  d := by simp [go_sem]
  f := fun o => by simp [go_sem]
  r := fun o ho => by
    have : o = 0 ∨ o = 1 ∨ o = 2 := by omega
    rcases this with rfl | rfl | rfl <;> simp [go_sem]
  g := fun o => by simp [go_sem]

set_option maxHeartbeats 1000000 in
/-- daybookref02.To, of a day -/
theorem rto_yes (n : Int) (w : World) (h1 : 1 ≤ n) (h2 : n ≤ 3652059) :
    Calls Tryd.prog 22 #[.int .i64 n] w (DateOf n w) := by
  go_enter Tryd.func22, Tryd.ntmps22
  go_wp2
  go_loopg [0] 9998 (fun g s0 wr => ∃ y : Int, 1 ≤ y ∧ y ≤ 9999 ∧ g = (9999 - y).toNat ∧ DayMath.ahead y < n ∧ s0 = .int .i64 (n - DayMath.ahead y) ∧ ToRel w wr y 1 0)
  case atStart => exact ⟨1, by omega, by omega, by omega, by rw [DayMath.ahead_one]; omega, by rw [DayMath.ahead_one, Int.sub_zero], ToRel.start32 w 1 1 0⟩
  case round =>
    obtain ⟨y, hy1, hy2, hgk, hy3, rfl, hR⟩ := hrel
    have Hgk := Lib.hid hgk
    obtain ⟨rb, rs, ry, rm, rd, rf, rr, rg⟩ := hR
    have Rs := Lib.hid rs
    have ha := DayMath.ahead_nonneg y hy1
    have ha2 := DayMath.ahead_le y hy1 (by omega)
    have hl : 365 ≤ long y ∧ long y ≤ 366 := by have := DayMath.lp_01 y; unfold long; omega
    clear hgk rs
    by_cases hc : long y < n - DayMath.ahead y
    · go_wp2_with (go_at_call 42; refine (long_any _ _).mono ?_; rintro e w' ⟨rfl, rfl⟩)
      have hs := DayMath.ahead_succ y
      have hy4 : y < 9999 := by
        by_cases e : y = 9999
        · subst e
          have := DayMath.ahead_max
          have e : (9999 : Int) + 1 = 10000 := by omega
          rw [e] at hs
          omega
        · omega
      have hgk := Hgk.out
      go_roundg (9999 - (y + 1)).toNat
      case measure => omega
      case rel => exact ⟨y + 1, by omega, by omega, rfl, by omega, by rw [hs]; go_num, ToRel.yearStep ⟨rb, Rs.out, ry, rm, rd, rf, rr, rg⟩⟩
    · go_wp2_with (go_at_call 42; refine (long_any _ _).mono ?_; rintro e w' ⟨rfl, rfl⟩)
      clear Hgk
      go_loopg [0] 11 (fun g s0 wx => ∃ k : Int, 1 ≤ k ∧ k ≤ 12 ∧ g = (12 - k).toNat ∧ 1 ≤ n - DayMath.ahead y - cum y k ∧ s0 = .int .i64 (n - DayMath.ahead y - cum y k) ∧ ToRel w wx y k 0)
      case atStart => exact ⟨1, by omega, by omega, by omega, by rw [DayMath.cum_one]; omega, by rw [DayMath.cum_one, Int.sub_zero], ⟨rb, Rs.out, ry, rm, rd, rf, rr, rg⟩⟩
      case round =>
        clear rb ry rm rd rf rr rg Rs
        obtain ⟨k, hk1, hk2, hgk, hk3, rfl, hR⟩ := hrel
        have hcb := DayMath.cum_bd y k hk1 (by omega)
        have hdb := DayMath.dim_bd y k
        have Hgk := Lib.hid hgk
        obtain ⟨rb, rs, ry, rm, rd, rf, rr, rg⟩ := hR
        have Rs := Lib.hid rs
        clear hgk rs
        by_cases hlt : dim y k < n - DayMath.ahead y - cum y k
        · go_wp2_with (go_at_call 40; refine (size_any _ _ _).mono ?_; rintro e w' ⟨rfl, rfl⟩)
          have hs := DayMath.cum_succ y k hk1 hk2
          have hk4 : k < 12 := by
            by_cases e : k = 12
            · subst e
              have h14 := DayMath.cum_13 y
              have e : (12 : Int) + 1 = 13 := by omega
              rw [e] at hs
              unfold long at hc
              omega
            · omega
          have hgk := Hgk.out
          go_roundg (12 - (k + 1)).toNat
          case measure => omega
          case rel => exact ⟨k + 1, by omega, by omega, rfl, by omega, by rw [hs]; go_num, ToRel.monthStep ⟨rb, Rs.out, ry, rm, rd, rf, rr, rg⟩⟩
        · have r0 := rr 0 (by omega)
          have r1 := rr 1 (by omega)
          have r2 := rr 2 (by omega)
          go_wp2_with (go_at_call 40; refine (size_any _ _ _).mono ?_; rintro e w' ⟨rfl, rfl⟩)
          refine bodyPost_ret (v := .tuple #[.agg #[.int .i64 y, .int .i64 k, .int .i64 (n - DayMath.ahead y - cum y k)], .int .i64 0]) ?_ rfl ⟨y, k, _, rfl, ⟨hy1, hy2, hk1, hk2, hk3, by omega⟩, by unfold num; omega, ?_⟩
          · simp [results, Tryd.results22, go_sem, r0, r1, r2, rd]
          · exact (((rb.setCell (by simp) _).setCell (by simp) _).setCell (by simp) _).setCell (by simp) _
end Go.Proofs.YtidjipcdnkgigaaDoor
