/- Contracts of functions, written by a program of this work (xprint.py) out of the translation. -/
import Derived.Test.YtoamflnkaaconaaDoorX0
import Derived.Test.YtoamflnkaaconaaDoorX5
namespace Go.Proofs.YtoamflnkaaconaaDoor.X
open Go.RowKit Go.Proofs.YtoamflnkaaconaaDoorW.PrintWords Go.Proofs.YtoamflnkaaconaaDoorW.PrintLast Go.Proofs.YtoamflnkaaconaaDoorW.PrintMore
attribute [local go_sem] max2_int min2_int max_two min_two max_three min_three max_four min_four   -- for this text's walks alone
set_option linter.unusedVariables false
set_option linter.unusedSimpArgs false

/-! ### typing_counted: function 33 -/
mutual
def typing_counted.l0 : Nat → List (S37) → Int → List (S74) → List (S37) → Int → Int → Option (Int × Int × Int)
  | 0, _, _, _, _, _, _ => none
  | k + 1, x0, x1, x5, x14, x15, x16 => if x16 < x15 then (if 0 ≤ x16 then (if x16 < (x14.length : Int) then (if ((rd_T37 x14 x16).f0) = 2 then (if 0 ≤ ((rd_T37 x14 x16).f1) then (if ((rd_T37 x14 x16).f1) < (x5.length : Int) then (if 0 ≤ ((rd_T37 x14 x16).f2) then (if ((rd_T37 x14 x16).f2) < (x5.length : Int) then ((typing_tally_plus.f ((rd_T74 x5 ((rd_T37 x14 x16).f1)).f0) ((rd_T74 x5 ((rd_T37 x14 x16).f1)).f1) ((rd_T74 x5 ((rd_T37 x14 x16).f1)).f2) ((rd_T74 x5 ((rd_T37 x14 x16).f2)).f0) ((rd_T74 x5 ((rd_T37 x14 x16).f2)).f1) ((rd_T74 x5 ((rd_T37 x14 x16).f2)).f2)).bind fun bt428 => (if x16 < (x5.length : Int) then (typing_counted.l0 k x0 x1 (x5.set (x16 : Int).toNat (⟨bt428.1, bt428.2.1, bt428.2.2⟩ : S74)) x14 x15 (wrap64 (x16 + 1))) else (none))) else (none)) else (none)) else (none)) else (none)) else (if ((rd_T37 x14 x16).f0) = 4 then ((typing_against.f x0 ((rd_T37 x14 x16).f0) ((rd_T37 x14 x16).f1) ((rd_T37 x14 x16).f2) ((rd_T37 x14 x16).f3) ((rd_T37 x14 x16).f4) ((rd_T37 x14 x16).f5) 6 18).bind fun t432 => (typing_counted.j1 k x0 x1 x5 x16 x14 x15 x16 t432 ((rd_T37 x14 x16).f0) ((rd_T37 x14 x16).f1) ((rd_T37 x14 x16).f2) ((rd_T37 x14 x16).f3) ((rd_T37 x14 x16).f4) ((rd_T37 x14 x16).f5))) else (typing_counted.j1 k x0 x1 x5 x16 x14 x15 x16 false ((rd_T37 x14 x16).f0) ((rd_T37 x14 x16).f1) ((rd_T37 x14 x16).f2) ((rd_T37 x14 x16).f3) ((rd_T37 x14 x16).f4) ((rd_T37 x14 x16).f5)))) else (none)) else (none)) else (if 0 ≤ x1 then (if x1 < (x5.length : Int) then (some ((rd_T74 x5 x1).f0, (rd_T74 x5 x1).f1, (rd_T74 x5 x1).f2)) else (none)) else (none))
def typing_counted.j1 : Nat → List (S37) → Int → List (S74) → Int → List (S37) → Int → Int → Bool → Int → Int → Int → Int → Int → ByteArray → Option (Int × Int × Int)
  | 0, _, _, _, _, _, _, _, _, _, _, _, _, _, _ => none
  | k + 1, x0, x1, x5, x6, x14, x15, x16, x43, x426000, x426001, x426002, x426003, x426004, x426005 => if x43 = true then (if 0 ≤ x6 then (if x6 < (x5.length : Int) then (typing_counted.l0 k x0 x1 (x5.set (x6 : Int).toNat (⟨1, (rd_T74 x5 x6).f1, (rd_T74 x5 x6).f2⟩ : S74)) x14 x15 (wrap64 (x16 + 1))) else (none)) else (none)) else (if x426000 = 4 then ((typing_against.f x0 x426000 x426001 x426002 x426003 x426004 x426005 3 19).bind fun t434 => (if t434 = true then (if 0 ≤ x6 then (if x6 < (x5.length : Int) then (typing_counted.l0 k x0 x1 (x5.set (x6 : Int).toNat (⟨(rd_T74 x5 x6).f0, 1, (rd_T74 x5 x6).f2⟩ : S74)) x14 x15 (wrap64 (x16 + 1))) else (none)) else (none)) else (if 0 ≤ x6 then (if x6 < (x5.length : Int) then (typing_counted.l0 k x0 x1 (x5.set (x6 : Int).toNat (⟨(rd_T74 x5 x6).f0, (rd_T74 x5 x6).f1, 1⟩ : S74)) x14 x15 (wrap64 (x16 + 1))) else (none)) else (none)))) else (if x426000 ≥ 6 then (if x426000 ≤ 9 then ((typing_against.f x0 x426000 x426001 x426002 x426003 x426004 x426005 3 19).bind fun t437 => (if t437 = true then (if 0 ≤ x6 then (if x6 < (x5.length : Int) then (typing_counted.l0 k x0 x1 (x5.set (x6 : Int).toNat (⟨(rd_T74 x5 x6).f0, 1, (rd_T74 x5 x6).f2⟩ : S74)) x14 x15 (wrap64 (x16 + 1))) else (none)) else (none)) else (if 0 ≤ x6 then (if x6 < (x5.length : Int) then (typing_counted.l0 k x0 x1 (x5.set (x6 : Int).toNat (⟨(rd_T74 x5 x6).f0, (rd_T74 x5 x6).f1, 1⟩ : S74)) x14 x15 (wrap64 (x16 + 1))) else (none)) else (none)))) else (if 0 ≤ x6 then (if x6 < (x5.length : Int) then (typing_counted.l0 k x0 x1 (x5.set (x6 : Int).toNat (⟨(rd_T74 x5 x6).f0, (rd_T74 x5 x6).f1, 1⟩ : S74)) x14 x15 (wrap64 (x16 + 1))) else (none)) else (none))) else (if 0 ≤ x6 then (if x6 < (x5.length : Int) then (typing_counted.l0 k x0 x1 (x5.set (x6 : Int).toNat (⟨(rd_T74 x5 x6).f0, (rd_T74 x5 x6).f1, 1⟩ : S74)) x14 x15 (wrap64 (x16 + 1))) else (none)) else (none))))
end
def typing_counted.f (k : Nat) (l0 : List (S37)) (a1 : Int) : Option (Int × Int × Int) := if 0 ≤ (wrap64 (a1 + 1)) then (if (wrap64 (a1 + 1) : Int).toNat ≤ 11728124029610 then (if (wrap64 (a1 + 1)) ≤ (l0.length : Int) then ((some (l0.take ((wrap64 (a1 + 1)) : Int).toNat : List (S37))).bind fun y419 => (typing_counted.l0 k l0 a1 (List.replicate (wrap64 (a1 + 1) : Int).toNat z74) y419 (y419.length : Int) 0)) else (none)) else (none)) else (none)
theorem typing_counted.mono_l : ∀ k, (∀ y0 y1 y2 y3 y4 y5, LeO (typing_counted.l0 k y0 y1 y2 y3 y4 y5) (typing_counted.l0 (k + 1) y0 y1 y2 y3 y4 y5)) ∧ (∀ y0 y1 y2 y3 y4 y5 y6 y7 y8 y9 y10 y11 y12 y13, LeO (typing_counted.j1 k y0 y1 y2 y3 y4 y5 y6 y7 y8 y9 y10 y11 y12 y13) (typing_counted.j1 (k + 1) y0 y1 y2 y3 y4 y5 y6 y7 y8 y9 y10 y11 y12 y13))
  | 0 => ⟨fun _ _ _ _ _ _ r h => by simp [typing_counted.l0] at h, fun _ _ _ _ _ _ _ _ _ _ _ _ _ _ r h => by simp [typing_counted.j1] at h⟩
  | k + 1 => by
    obtain ⟨ih0, ih1⟩ := typing_counted.mono_l k
    refine ⟨?_, ?_⟩
    · intro y0 y1 y2 y3 y4 y5
      unfold typing_counted.l0
      repeat' first
      | (with_reducible exact ih0 _ _ _ _ _ _)
      | (with_reducible exact ih1 _ _ _ _ _ _ _ _ _ _ _ _ _ _)
      | (with_reducible exact LeO.refl _)
      | (with_reducible exact LeO.none _)
      | (with_reducible refine LeO.ite ?_ ?_)
      | (with_reducible refine LeO.bind ?_ (fun _ => ?_))
      | exact ih0 _ _ _ _ _ _
      | exact ih1 _ _ _ _ _ _ _ _ _ _ _ _ _ _
      | exact LeO.none _
      | refine LeO.ite ?_ ?_
      | refine LeO.bind ?_ (fun _ => ?_)
    · intro y0 y1 y2 y3 y4 y5 y6 y7 y8 y9 y10 y11 y12 y13
      unfold typing_counted.j1
      repeat' first
      | (with_reducible exact ih0 _ _ _ _ _ _)
      | (with_reducible exact ih1 _ _ _ _ _ _ _ _ _ _ _ _ _ _)
      | (with_reducible exact LeO.refl _)
      | (with_reducible exact LeO.none _)
      | (with_reducible refine LeO.ite ?_ ?_)
      | (with_reducible refine LeO.bind ?_ (fun _ => ?_))
      | exact ih0 _ _ _ _ _ _
      | exact ih1 _ _ _ _ _ _ _ _ _ _ _ _ _ _
      | exact LeO.none _
      | refine LeO.ite ?_ ?_
      | refine LeO.bind ?_ (fun _ => ?_)
theorem typing_counted.mono : ∀ a0 a1 k, LeO (typing_counted.f k a0 a1) (typing_counted.f (k + 1) a0 a1) := by
  intro a0 a1 k
  obtain ⟨ih0, ih1⟩ := typing_counted.mono_l k
  unfold typing_counted.f
  repeat' first
      | (with_reducible exact ih0 _ _ _ _ _ _)
      | (with_reducible exact ih1 _ _ _ _ _ _ _ _ _ _ _ _ _ _)
      | (with_reducible exact LeO.refl _)
      | (with_reducible exact LeO.none _)
      | (with_reducible refine LeO.ite ?_ ?_)
      | (with_reducible refine LeO.bind ?_ (fun _ => ?_))
      | exact ih0 _ _ _ _ _ _
      | exact ih1 _ _ _ _ _ _ _ _ _ _ _ _ _ _
      | exact LeO.none _
      | refine LeO.ite ?_ ?_
      | refine LeO.bind ?_ (fun _ => ?_)
def typing_counted.T7 : Bool × List (List Nat × List Nat) := (true, [([], []), ([], []), ([], []), ([], []), ([3], [3]), ([2, 4], [2, 4]), ([5], [5]), ([], []), ([], []), ([8], [8]), ([7, 9], [7, 9]), ([10], [10]), ([6, 11], [6, 11]), ([0, 1, 0, 1, 2, 3, 4, 5, 6, 7, 8, 9, 10, 11, 12], [0, 1]), ([13, 12, 12, 0, 1, 2, 3, 4, 5, 6, 7, 8, 9, 10, 11, 12], [12, 13])])
def typing_counted.B7 : List Nat := [0, 0, 0, 0, 8, 28, 60, 0, 0, 256, 896, 1920, 4092, 8191, 16383]
theorem typing_counted.tab7 : rtab .any (opsOf Tryd.f33 7) = typing_counted.T7 := by kernel_rfl
theorem typing_counted.bits7 : waitsOk typing_counted.T7.2 typing_counted.B7 = true := by kernel_rfl
set_option maxHeartbeats 8000000 in
set_option maxRecDepth 100000 in
theorem typing_counted.calls (k : Nat) (A0 : Option Addr) (c0 : Nat) (l0 : List (S37)) (a1 : Int) (r1 : Int) (r2 : Int) (r3 : Int) (w : World) (hr0 : Kd.C k37 w A0 l0.length l0) (hc0 : l0.length ≤ c0) (h : typing_counted.f k l0 a1 = some (r1, r2, r3)) :
    Calls Tryd.prog 33 #[.slice A0 l0.length c0, .int .i64 a1] w fun e w' => e = .returned (.agg #[.int .i64 r1, .int .i64 r2, .int .i64 r3]) ∧ Below w.heap.size w w' := by
  have hu74 := Tryd.underlying74
  have hu37 := Tryd.underlying37
  have HR0 := Aside0.mk hr0
  have HC0 := Aside0.mk hc0
  clear hr0 hc0
  have HB := Aside0.mk (Below.refl w.heap.size w)
  have H : (if 0 ≤ (wrap64 (a1 + 1)) then (if (wrap64 (a1 + 1) : Int).toNat ≤ 11728124029610 then (if (wrap64 (a1 + 1)) ≤ (l0.length : Int) then ((some (l0.take ((wrap64 (a1 + 1)) : Int).toNat : List (S37))).bind fun y419 => (typing_counted.l0 k l0 a1 (List.replicate (wrap64 (a1 + 1) : Int).toNat z74) y419 (y419.length : Int) 0)) else (none)) else (none)) else (none)) = some (r1, r2, r3) := h
  clear h
  obtain ⟨ji3, hji3⟩ : ∃ j_ : Int, (wrap64 (a1 + 1)) = j_ := ⟨_, rfl⟩
  replace H : (if 0 ≤ (ji3) then (if (ji3 : Int).toNat ≤ 11728124029610 then (if (ji3) ≤ (l0.length : Int) then ((some (l0.take ((ji3) : Int).toNat : List (S37))).bind fun y419 => (typing_counted.l0 k l0 a1 (List.replicate (ji3 : Int).toNat z74) y419 (y419.length : Int) 0)) else (none)) else (none)) else (none)) = some (r1, r2, r3) := by first | (rw [hji3] at H; exact H) | (simp only [hji3] at H ⊢; exact H)
  have hji3w : (IntKind.i64.wrap (a1 + 1)) = ji3 := (i64_w _).trans hji3
  by_cases c4 : 0 ≤ (ji3)
  · rw [if_pos c4] at H
    have c4b0 := eq_true c4
    have c4b1 : decide (0 ≤ (ji3)) = true := decide_eq_true c4
    clear c4
    by_cases c5 : (ji3 : Int).toNat ≤ 11728124029610
    · rw [if_pos c5] at H
      have c5b0 := eq_true c5
      have c5b1 : decide ((ji3 : Int).toNat ≤ 11728124029610) = true := decide_eq_true c5
      clear c5
      obtain ⟨y416, hy416⟩ : ∃ y_ : List (S74), y_ = (List.replicate (ji3 : Int).toNat z74) := ⟨_, rfl⟩
      replace H : (if (ji3) ≤ (l0.length : Int) then ((some (l0.take ((ji3) : Int).toNat : List (S37))).bind fun y419 => (typing_counted.l0 k l0 a1 y416 y419 (y419.length : Int) 0)) else (none)) = some (r1, r2, r3) := by first | (rw [hy416]; with_reducible exact H) | (have H2_ := (Option.bind_some _ _).symm.trans H; rw [hy416]; with_reducible exact H2_) | (have H2_ := (Option.bind_some _ _).symm.trans H; with_reducible exact H2_) | with_reducible exact H | (rw [hy416]; exact H) | exact H
      have Ny416 := Aside0.mk hy416
      clear hy416
      have c6b0 := eq_true (of_decide_eq_true (by first | (with_reducible assumption) | assumption) : 0 ≤ (ji3))
      by_cases c7 : (ji3) ≤ (l0.length : Int)
      · rw [if_pos c7] at H
        have c7b0 := eq_true c7
        have c7b1 : decide ((ji3) ≤ (l0.length : Int)) = true := decide_eq_true c7
        clear c7
        obtain ⟨y419, hy419⟩ : ∃ y_ : List (S37), y_ = (l0.take ((ji3) : Int).toNat) := ⟨_, rfl⟩
        replace H : (typing_counted.l0 k l0 a1 y416 y419 (y419.length : Int) 0) = some (r1, r2, r3) := by first | (rw [hy419]; with_reducible exact H) | (have H2_ := (Option.bind_some _ _).symm.trans H; rw [hy419]; with_reducible exact H2_) | (have H2_ := (Option.bind_some _ _).symm.trans H; with_reducible exact H2_) | with_reducible exact H | (rw [hy419]; exact H) | exact H
        have Ny419 := Aside0.mk hy419
        clear hy419
        have H' := Aside0.mk H
        clear H
        go_enter Tryd.func33, Tryd.ntmps33
        go_wp2_with (first | ((with_reducible refine gate_dst (N := 4) rfl ?_); refine box_event ?hg (N := 4) ?hd (cs := #[.int .i64 0, .int .i64 0, .int .i64 0]) (t := 74) ?hr ?_; (case hd => rfl); (case hg => rfl); (case hr => first | (go_simp; done) | (go_simp; rfl)); intro gb415 hg w8 hbox hb; have n0_ := Aside0.mk (below_step (by repeat (first | (with_reducible first | exact HB.out | apply below_alloc | apply pw_below_drewN | apply below_drew1) | exact HB.out)) hb); have n1_ := Aside0.mk (hbox); have n2_ := Aside0.mk ((by rw [hg]; exact (below_size (by repeat (first | (with_reducible first | exact HB.out | apply below_alloc | apply pw_below_drewN | apply below_drew1) | exact HB.out))) : w.heap.size ≤ gb415)); have n3_ := Aside0.mk ((by rw [hg]; exact (below_size (by repeat (first | (with_reducible first | exact HB.out | apply below_alloc | apply pw_below_drewN | apply below_drew1) | exact HB.out))) : w.heap.size ≤ gb415)); clear HB; have HB := n0_; have BK415 := n1_; have GW415 := n2_; have GE415 := n3_; clear n0_ n1_ n2_ n3_; clear hb hbox hg) | ((with_reducible refine gate_dst (N := 10) rfl ?_); refine Kd.R_make k74 _ 74 rfl (N := 10) rfl 98 _ _ rfl ji3 rfl rfl Tryd.underlying98 (.agg #[(.int .i64 0), (.int .i64 0), (.int .i64 0)]) 24 info74 rfl (by decide) (by omega) z74 (ok := fun _ => True) (okp := fun _ => True) (k74_mkM _ _ _ z74 ) (fun _ hk => hk) trivial (of_decide_eq_true (by first | (with_reducible assumption) | assumption)) (Nat.le_trans (Nat.mul_le_mul_right _ (of_decide_eq_true (by first | (with_reducible assumption) | assumption) : ji3.toNat ≤ 11728124029610)) (by omega)) (Below.refl _ _) (Nat.le_refl _) ?_; intro v417 w9 ho10 hb hg_ hnew_; clear hg_ hnew_; (first | rw [← Ny416.out] at ho10 | (simp only [Int.reduceToNat] at ho10; rw [← Ny416.out] at ho10)); have n0_ := Aside0.mk (Kd.R_lower (Kd.R_newB ho10 (g := gb415) (o := .cells #[.int .i64 0, .int .i64 0, .int .i64 0] 74 (0, 0)) (by (with_reducible repeat (first | refine blk_drewN ?_ _ | refine blk_drew ?_ | refine blk_alloc ?_ _)); exact BK415.out)) (below_size (by repeat (first | (with_reducible first | exact HB.out | apply below_alloc | apply pw_below_drewN | apply below_drew1 | refine below_set ?_ GE415.out) | exact HB.out)))); have n1_ := Aside0.mk (blk_below (g := gb415) (o := .cells #[.int .i64 0, .int .i64 0, .int .i64 0] 74 (0, 0)) (by (with_reducible repeat (first | refine blk_drewN ?_ _ | refine blk_drew ?_ | refine blk_alloc ?_ _)); exact BK415.out) hb); have n2_ := Aside0.mk (below_step (by repeat (first | (with_reducible first | exact HB.out | apply below_alloc | apply pw_below_drewN | apply below_drew1 | refine below_set ?_ GE415.out) | exact HB.out)) hb); clear BK415; clear HB; have HO418 := n0_; have BK415 := n1_; have HB := n2_; clear n0_ n1_ n2_; clear hb ho10; have q11 : ((ji3) : Int) ≤ ((l0.length : Int) : Int) := of_decide_eq_true (by first | (with_reducible assumption) | assumption); obtain ⟨i011, hi011, _, hsz11, _⟩ := info_parts info37; have hroom11 : l0.length ≤ c0 := HC0.out; have hC11 : Kd.C k37 _ A0 l0.length l0 := HR0.out; have hcut11 := cut_to (P := Tryd.prog) 27 37 .i64 Tryd.underlying27 hi011 A0 l0.length c0 (ji3) (of_decide_eq_true (by first | (with_reducible assumption) | assumption)) q11 hroom11; have hr11 := Kd.C_take (m := ((ji3) : Int).toNat) hC11 (by omega); have hy11 : y419.length = ((ji3) : Int).toNat := (by rw [Ny419.out, List.length_take]; omega); rw [← Ny419.out] at hr11; rw [← hy11] at hcut11; have HR422 := Aside0.mk hr11; have HC422 := Aside0.mk (show y419.length ≤ c0 from by omega); clear hr11 hC11 hroom11 hi011 hsz11; have KY11 := Aside0.mk hy11; clear hy11; replace q11 := eq_true q11))
        go_loopg [16] k (fun kq v16 w' => ∃ (x5_1 : List (S74)) (x16_1 : Int) (x416000_1 : Int) (x416001_1 : Int) (x416002_1 : Int), v16 = .int .i64 x16_1 ∧ Aside0 (typing_counted.l0 kq l0 a1 x5_1 y419 (y419.length : Int) x16_1 = some (r1, r2, r3)) ∧ Aside0 (kq ≤ k) ∧ Aside0 (Kd.R k74 74 w' w.heap.size (fun k_ => k_ ≠ gb415) v417 x5_1) ∧ Aside0 (w'.heap[gb415]? = some (.cells #[.int .i64 x416000_1, .int .i64 x416001_1, .int .i64 x416002_1] 74 (0, 0))) ∧ Aside0 (Below w.heap.size w w'))
        case atStart => exact ⟨(y416), (0), (0), (0), (0), (by first | rfl | (simp; done) | (simp [*]; done)), H', ⟨Nat.le_refl _⟩, ⟨by (with_reducible repeat (first | apply Kd.R_alloc | apply Kd.R_drewN | apply Kd.R_drew)); exact Kd.R_mono HO418.out (fun _ hk => hk.2)⟩, ⟨by (with_reducible repeat (first | refine blk_drewN ?_ _ | refine blk_drew ?_ | refine blk_alloc ?_ _)); exact BK415.out⟩, ⟨by repeat (first | (with_reducible first | exact HB.out | apply below_alloc | apply pw_below_drewN | apply below_drew1 | refine below_set ?_ GE415.out) | exact HB.out)⟩⟩
        case round =>
          clear H'
          try clear q1
          try clear p2
          try clear c3
          try clear c4
          try clear c4b0
          try clear c4b1
          try clear c5
          try clear c5b0
          try clear c5b1
          try clear c6
          try clear c6b0
          try clear p6
          try clear c7
          try clear c7b0
          try clear c7b1
          try clear q11
          try clear q11
          obtain ⟨x5_1, x16_1, x416000_1, x416001_1, x416002_1, rfl, HA, HK1, HO_5, BK415, HB⟩ := hrel
          cases gk with
          | zero => exact absurd HA.out (by simp [typing_counted.l0])
          | succ k1 =>
            have H := HA.out
            clear HA
            simp only [typing_counted.l0] at H
            by_cases c12 : x16_1 < (y419.length : Int)
            · rw [if_pos c12] at H
              have c12b0 : decide (x16_1 < (y419.length : Int)) = true := decide_eq_true c12
              clear c12
              by_cases c13 : 0 ≤ x16_1
              · rw [if_pos c13] at H
                have c13b0 : decide (0 ≤ x16_1) = true := decide_eq_true c13
                clear c13
                by_cases c14 : x16_1 < (y419.length : Int)
                · rw [if_pos c14] at H
                  have c14b0 : decide (x16_1 < (y419.length : Int)) = true := decide_eq_true c14
                  clear c14
                  by_cases c15 : ((rd_T37 y419 x16_1).f0) = 2
                  · rw [if_pos c15] at H
                    have c15b0 : (((rd_T37 y419 x16_1).f0) == 2) = true := beq_iff_eq.mpr c15
                    have c15b1 : (((rd_T37 y419 x16_1).f0) != 2) = false := bne_eq_false_iff_eq.mpr c15
                    clear c15
                    by_cases c16 : 0 ≤ ((rd_T37 y419 x16_1).f1)
                    · rw [if_pos c16] at H
                      have c16b0 : decide (0 ≤ ((rd_T37 y419 x16_1).f1)) = true := decide_eq_true c16
                      clear c16
                      by_cases c17 : ((rd_T37 y419 x16_1).f1) < (x5_1.length : Int)
                      · rw [if_pos c17] at H
                        have c17b0 : decide (((rd_T37 y419 x16_1).f1) < (x5_1.length : Int)) = true := decide_eq_true c17
                        clear c17
                        by_cases c18 : 0 ≤ ((rd_T37 y419 x16_1).f2)
                        · rw [if_pos c18] at H
                          have c18b0 : decide (0 ≤ ((rd_T37 y419 x16_1).f2)) = true := decide_eq_true c18
                          clear c18
                          by_cases c19 : ((rd_T37 y419 x16_1).f2) < (x5_1.length : Int)
                          · rw [if_pos c19] at H
                            have c19b0 : decide (((rd_T37 y419 x16_1).f2) < (x5_1.length : Int)) = true := decide_eq_true c19
                            clear c19
                            replace H := Option.bind_eq_some_iff.mp H
                            obtain ⟨⟨t428, t429, t430⟩, A200, H⟩ := H
                            replace H : (if x16_1 < (x5_1.length : Int) then (typing_counted.l0 k1 l0 a1 (x5_1.set (x16_1 : Int).toNat (⟨t428, t429, t430⟩ : S74)) y419 (y419.length : Int) (wrap64 (x16_1 + 1))) else (none)) = some (r1, r2, r3) := H
                            have A20 := Aside0.mk A200
                            clear A200
                            by_cases c21 : x16_1 < (x5_1.length : Int)
                            · rw [if_pos c21] at H
                              have c21b0 : decide (x16_1 < (x5_1.length : Int)) = true := decide_eq_true c21
                              clear c21
                              obtain ⟨y431, hy431⟩ : ∃ y_ : List (S74), y_ = (x5_1.set (x16_1 : Int).toNat (⟨t428, t429, t430⟩ : S74)) := ⟨_, rfl⟩
                              replace H : (typing_counted.l0 k1 l0 a1 y431 y419 (y419.length : Int) (wrap64 (x16_1 + 1))) = some (r1, r2, r3) := by first | (rw [hy431]; with_reducible exact H) | (have H2_ := (Option.bind_some _ _).symm.trans H; rw [hy431]; with_reducible exact H2_) | (have H2_ := (Option.bind_some _ _).symm.trans H; with_reducible exact H2_) | with_reducible exact H | (rw [hy431]; exact H) | exact H
                              have Ny431 := Aside0.mk hy431
                              clear hy431
                              have H' := Aside0.mk H
                              clear H
                              have p424 : 0 ≤ (x16_1 : Int) := of_decide_eq_true (by first | (with_reducible assumption) | assumption)
                              have q424 : x16_1 < (y419.length : Int) := of_decide_eq_true (by first | (with_reducible assumption) | assumption)
                              obtain ⟨ad424, e424, hx424_0, hx424_1, hx424_2, hx424_3, hx424_4, hx424_5⟩ := at_T37 HR422.out x16_1 p424 q424
                              cases e424
                              replace hx424_0 := (HB.out.cell (World.block_lt_of_cell? w _ hx424_0)).trans hx424_0
                              replace hx424_1 := (HB.out.cell (World.block_lt_of_cell? w _ hx424_1)).trans hx424_1
                              replace hx424_2 := (HB.out.cell (World.block_lt_of_cell? w _ hx424_2)).trans hx424_2
                              replace hx424_3 := (HB.out.cell (World.block_lt_of_cell? w _ hx424_3)).trans hx424_3
                              replace hx424_4 := (HB.out.cell (World.block_lt_of_cell? w _ hx424_4)).trans hx424_4
                              replace hx424_5 := (HB.out.cell (World.block_lt_of_cell? w _ hx424_5)).trans hx424_5
                              replace p424 := eq_true p424
                              replace q424 := eq_true q424
                              try go_wp2_with (first | ((with_reducible refine gate_dst (N := 7) rfl ?_); refine box_event ?hg (N := 7) ?hd (cs := #[.int .i64 0, .int .i64 0, .int .i64 0, .int .i64 0, .int .i64 0, .string (⟨#[]⟩ : ByteArray)]) (t := 37) ?hr ?_; (case hd => rfl); (case hg => rfl); (case hr => first | (go_simp; done) | (go_simp; rfl)); intro gb425 hg w23 hbox hb; have n0_ := Aside0.mk (Kd.R_below (by (with_reducible repeat (first | apply Kd.R_alloc | apply Kd.R_drewN | apply Kd.R_drew)); exact HO_5.out) hb); have n1_ := Aside0.mk (blk_below (g := gb415) (o := .cells #[.int .i64 x416000_1, .int .i64 x416001_1, .int .i64 x416002_1] 74 (0, 0)) (by (with_reducible repeat (first | refine blk_drewN ?_ _ | refine blk_drew ?_ | refine blk_alloc ?_ _)); exact BK415.out) hb); have n2_ := Aside0.mk (below_step (by repeat (first | (with_reducible first | exact HB.out | apply below_alloc | apply pw_below_drewN | apply below_drew1 | refine below_set ?_ GE415.out) | exact HB.out)) hb); have n3_ := Aside0.mk (hbox); have n4_ := Aside0.mk ((by rw [hg]; exact (below_size (by repeat (first | (with_reducible first | exact HB.out | apply below_alloc | apply pw_below_drewN | apply below_drew1 | refine below_set ?_ GE415.out) | exact HB.out))) : w.heap.size ≤ gb425)); have n5_ := Aside0.mk ((by rw [hg]; exact (below_size (by repeat (first | (with_reducible first | exact HB.out | apply below_alloc | apply pw_below_drewN | apply below_drew1 | refine below_set ?_ GE415.out) | exact HB.out))) : w.heap.size ≤ gb425)); have n6_ := Aside0.mk ((by rw [hg]; exact Nat.ne_of_lt (blk_lt (g := gb415) (o := .cells #[.int .i64 x416000_1, .int .i64 x416001_1, .int .i64 x416002_1] 74 (0, 0)) (by (with_reducible repeat (first | refine blk_drewN ?_ _ | refine blk_drew ?_ | refine blk_alloc ?_ _)); exact BK415.out)) : gb415 ≠ gb425)); have n7_ := Aside0.mk ((by rw [hg]; exact Nat.ne_of_gt (blk_lt (g := gb415) (o := .cells #[.int .i64 x416000_1, .int .i64 x416001_1, .int .i64 x416002_1] 74 (0, 0)) (by (with_reducible repeat (first | refine blk_drewN ?_ _ | refine blk_drew ?_ | refine blk_alloc ?_ _)); exact BK415.out)) : gb425 ≠ gb415)); clear HO_5; clear BK415; clear HB; have HO_5 := n0_; have BK415 := n1_; have HB := n2_; have BK425 := n3_; have GW425 := n4_; have GE425 := n5_; have NB415_425 := n6_; have NB425_415 := n7_; clear n0_ n1_ n2_ n3_ n4_ n5_ n6_ n7_; clear hb hbox hg; have hnb24 := NB425_415.out; have hnc24 := NB415_425.out; have hcz25_0 : w23.cell? ⟨gb425, 0, none⟩ = some (.int .i64 0) := (blk_cell BK425.out 0).trans rfl; have hcz25_1 : w23.cell? ⟨gb425, 1, none⟩ = some (.int .i64 0) := (blk_cell BK425.out 1).trans rfl; have hcz25_2 : w23.cell? ⟨gb425, 2, none⟩ = some (.int .i64 0) := (blk_cell BK425.out 2).trans rfl; have hcz25_3 : w23.cell? ⟨gb425, 3, none⟩ = some (.int .i64 0) := (blk_cell BK425.out 3).trans rfl; have hcz25_4 : w23.cell? ⟨gb425, 4, none⟩ = some (.int .i64 0) := (blk_cell BK425.out 4).trans rfl; have hcz25_5 : w23.cell? ⟨gb425, 5, none⟩ = some (.string (⟨#[]⟩ : ByteArray)) := (blk_cell BK425.out 5).trans rfl; have hfz25_0 := blk_frozen BK425.out 0; have hfz25_1 := blk_frozen BK425.out 1; have hfz25_2 := blk_frozen BK425.out 2; have hfz25_3 := blk_frozen BK425.out 3; have hfz25_4 := blk_frozen BK425.out 4; have hfz25_5 := blk_frozen BK425.out 5))
                              have n0_ : Aside0 (Kd.R k74 74 ((((((w23.setCell ⟨gb425, 0, none⟩ (.int .i64 ((rd_T37 y419 x16_1).f0))).setCell ⟨gb425, 1, none⟩ (.int .i64 ((rd_T37 y419 x16_1).f1))).setCell ⟨gb425, 2, none⟩ (.int .i64 ((rd_T37 y419 x16_1).f2))).setCell ⟨gb425, 3, none⟩ (.int .i64 ((rd_T37 y419 x16_1).f3))).setCell ⟨gb425, 4, none⟩ (.int .i64 ((rd_T37 y419 x16_1).f4))).setCell ⟨gb425, 5, none⟩ (.string ((rd_T37 y419 x16_1).f5))) w.heap.size (fun k_ => k_ ≠ gb415) v417 x5_1) := ⟨by (with_reducible repeat (first | apply Kd.R_alloc | apply Kd.R_drewN | apply Kd.R_drew)); exact Kd.R_mono (Kd.R_far (p := ⟨gb425, 5, none⟩) (Kd.R_far (p := ⟨gb425, 4, none⟩) (Kd.R_far (p := ⟨gb425, 3, none⟩) (Kd.R_far (p := ⟨gb425, 2, none⟩) (Kd.R_far (p := ⟨gb425, 1, none⟩) (Kd.R_far (p := ⟨gb425, 0, none⟩) (Kd.R_types HO_5.out BK425.out (by decide)) (fun _ hk => hk.2) (.int .i64 ((rd_T37 y419 x16_1).f0))) (fun _ hk => hk.2) (.int .i64 ((rd_T37 y419 x16_1).f1))) (fun _ hk => hk.2) (.int .i64 ((rd_T37 y419 x16_1).f2))) (fun _ hk => hk.2) (.int .i64 ((rd_T37 y419 x16_1).f3))) (fun _ hk => hk.2) (.int .i64 ((rd_T37 y419 x16_1).f4))) (fun _ hk => hk.2) (.string ((rd_T37 y419 x16_1).f5))) (fun _ hk => hk.1)⟩
                              have n1_ : Aside0 (((((((w23.setCell ⟨gb425, 0, none⟩ (.int .i64 ((rd_T37 y419 x16_1).f0))).setCell ⟨gb425, 1, none⟩ (.int .i64 ((rd_T37 y419 x16_1).f1))).setCell ⟨gb425, 2, none⟩ (.int .i64 ((rd_T37 y419 x16_1).f2))).setCell ⟨gb425, 3, none⟩ (.int .i64 ((rd_T37 y419 x16_1).f3))).setCell ⟨gb425, 4, none⟩ (.int .i64 ((rd_T37 y419 x16_1).f4))).setCell ⟨gb425, 5, none⟩ (.string ((rd_T37 y419 x16_1).f5))).heap[gb415]? = some (.cells #[.int .i64 x416000_1, .int .i64 x416001_1, .int .i64 x416002_1] 74 (0, 0))) := ⟨by (with_reducible repeat (first | refine blk_drewN ?_ _ | refine blk_drew ?_ | refine blk_alloc ?_ _)); refine blk_far ?_ NB415_425.out _; (with_reducible repeat (first | refine blk_drewN ?_ _ | refine blk_drew ?_ | refine blk_alloc ?_ _)); refine blk_far ?_ NB415_425.out _; (with_reducible repeat (first | refine blk_drewN ?_ _ | refine blk_drew ?_ | refine blk_alloc ?_ _)); refine blk_far ?_ NB415_425.out _; (with_reducible repeat (first | refine blk_drewN ?_ _ | refine blk_drew ?_ | refine blk_alloc ?_ _)); refine blk_far ?_ NB415_425.out _; (with_reducible repeat (first | refine blk_drewN ?_ _ | refine blk_drew ?_ | refine blk_alloc ?_ _)); refine blk_far ?_ NB415_425.out _; (with_reducible repeat (first | refine blk_drewN ?_ _ | refine blk_drew ?_ | refine blk_alloc ?_ _)); refine blk_far ?_ NB415_425.out _; (with_reducible repeat (first | refine blk_drewN ?_ _ | refine blk_drew ?_ | refine blk_alloc ?_ _)); exact BK415.out⟩
                              have n2_ : Aside0 (((((((w23.setCell ⟨gb425, 0, none⟩ (.int .i64 ((rd_T37 y419 x16_1).f0))).setCell ⟨gb425, 1, none⟩ (.int .i64 ((rd_T37 y419 x16_1).f1))).setCell ⟨gb425, 2, none⟩ (.int .i64 ((rd_T37 y419 x16_1).f2))).setCell ⟨gb425, 3, none⟩ (.int .i64 ((rd_T37 y419 x16_1).f3))).setCell ⟨gb425, 4, none⟩ (.int .i64 ((rd_T37 y419 x16_1).f4))).setCell ⟨gb425, 5, none⟩ (.string ((rd_T37 y419 x16_1).f5))).heap[gb425]? = some (.cells #[.int .i64 ((rd_T37 y419 x16_1).f0), .int .i64 ((rd_T37 y419 x16_1).f1), .int .i64 ((rd_T37 y419 x16_1).f2), .int .i64 ((rd_T37 y419 x16_1).f3), .int .i64 ((rd_T37 y419 x16_1).f4), .string ((rd_T37 y419 x16_1).f5)] 37 (0, 0))) := ⟨by (with_reducible repeat (first | refine blk_drewN ?_ _ | refine blk_drew ?_ | refine blk_alloc ?_ _)); refine blk_put (cs := #[.int .i64 ((rd_T37 y419 x16_1).f0), .int .i64 ((rd_T37 y419 x16_1).f1), .int .i64 ((rd_T37 y419 x16_1).f2), .int .i64 ((rd_T37 y419 x16_1).f3), .int .i64 ((rd_T37 y419 x16_1).f4), .string (⟨#[]⟩ : ByteArray)]) ?_ 5 _ rfl; (with_reducible repeat (first | refine blk_drewN ?_ _ | refine blk_drew ?_ | refine blk_alloc ?_ _)); refine blk_put (cs := #[.int .i64 ((rd_T37 y419 x16_1).f0), .int .i64 ((rd_T37 y419 x16_1).f1), .int .i64 ((rd_T37 y419 x16_1).f2), .int .i64 ((rd_T37 y419 x16_1).f3), .int .i64 0, .string (⟨#[]⟩ : ByteArray)]) ?_ 4 _ rfl; (with_reducible repeat (first | refine blk_drewN ?_ _ | refine blk_drew ?_ | refine blk_alloc ?_ _)); refine blk_put (cs := #[.int .i64 ((rd_T37 y419 x16_1).f0), .int .i64 ((rd_T37 y419 x16_1).f1), .int .i64 ((rd_T37 y419 x16_1).f2), .int .i64 0, .int .i64 0, .string (⟨#[]⟩ : ByteArray)]) ?_ 3 _ rfl; (with_reducible repeat (first | refine blk_drewN ?_ _ | refine blk_drew ?_ | refine blk_alloc ?_ _)); refine blk_put (cs := #[.int .i64 ((rd_T37 y419 x16_1).f0), .int .i64 ((rd_T37 y419 x16_1).f1), .int .i64 0, .int .i64 0, .int .i64 0, .string (⟨#[]⟩ : ByteArray)]) ?_ 2 _ rfl; (with_reducible repeat (first | refine blk_drewN ?_ _ | refine blk_drew ?_ | refine blk_alloc ?_ _)); refine blk_put (cs := #[.int .i64 ((rd_T37 y419 x16_1).f0), .int .i64 0, .int .i64 0, .int .i64 0, .int .i64 0, .string (⟨#[]⟩ : ByteArray)]) ?_ 1 _ rfl; (with_reducible repeat (first | refine blk_drewN ?_ _ | refine blk_drew ?_ | refine blk_alloc ?_ _)); refine blk_put (cs := #[.int .i64 0, .int .i64 0, .int .i64 0, .int .i64 0, .int .i64 0, .string (⟨#[]⟩ : ByteArray)]) ?_ 0 _ rfl; (with_reducible repeat (first | refine blk_drewN ?_ _ | refine blk_drew ?_ | refine blk_alloc ?_ _)); exact BK425.out⟩
                              have n3_ : Aside0 (Below w.heap.size w ((((((w23.setCell ⟨gb425, 0, none⟩ (.int .i64 ((rd_T37 y419 x16_1).f0))).setCell ⟨gb425, 1, none⟩ (.int .i64 ((rd_T37 y419 x16_1).f1))).setCell ⟨gb425, 2, none⟩ (.int .i64 ((rd_T37 y419 x16_1).f2))).setCell ⟨gb425, 3, none⟩ (.int .i64 ((rd_T37 y419 x16_1).f3))).setCell ⟨gb425, 4, none⟩ (.int .i64 ((rd_T37 y419 x16_1).f4))).setCell ⟨gb425, 5, none⟩ (.string ((rd_T37 y419 x16_1).f5)))) := ⟨by repeat (first | (with_reducible first | exact HB.out | apply below_alloc | apply pw_below_drewN | apply below_drew1 | refine below_set ?_ GE415.out | refine below_set ?_ GE425.out) | exact HB.out)⟩
                              (try clear HO_5)
                              (try clear BK415)
                              (try clear BK425)
                              (try clear HB)
                              generalize ((((((w23.setCell ⟨gb425, 0, none⟩ (.int .i64 ((rd_T37 y419 x16_1).f0))).setCell ⟨gb425, 1, none⟩ (.int .i64 ((rd_T37 y419 x16_1).f1))).setCell ⟨gb425, 2, none⟩ (.int .i64 ((rd_T37 y419 x16_1).f2))).setCell ⟨gb425, 3, none⟩ (.int .i64 ((rd_T37 y419 x16_1).f3))).setCell ⟨gb425, 4, none⟩ (.int .i64 ((rd_T37 y419 x16_1).f4))).setCell ⟨gb425, 5, none⟩ (.string ((rd_T37 y419 x16_1).f5))) = w26 at n0_ n1_ n2_ n3_ ⊢
                              have HO_5 := n0_
                              have BK415 := n1_
                              have BK425 := n2_
                              have HB := n3_
                              clear n0_ n1_ n2_ n3_
                              have n0_ := Aside0.mk (Kd.R_drew HO_5.out)
                              have n1_ := Aside0.mk (blk_drew BK415.out)
                              have n2_ := Aside0.mk (blk_drew BK425.out)
                              have n3_ := Aside0.mk (below_drew1 HB.out)
                              clear HO_5
                              clear BK415
                              clear BK425
                              clear HB
                              have HO_5 := n0_
                              have BK415 := n1_
                              have BK425 := n2_
                              have HB := n3_
                              clear n0_ n1_ n2_ n3_
                              obtain ⟨Ao28, co28, eo28⟩ := Kd.R_slice HO_5.out
                              (first | subst eo28 | (injection eo28 with f1_ f2_ f3_; have f4_ := f1_.symm; have f5_ := f3_.symm; clear f1_ f2_ f3_; subst f4_; subst f5_))
                              have p426 : 0 ≤ (((rd_T37 y419 x16_1).f1) : Int) := of_decide_eq_true (by first | (with_reducible assumption) | assumption)
                              have q426 : ((rd_T37 y419 x16_1).f1) < (x5_1.length : Int) := of_decide_eq_true (by first | (with_reducible assumption) | assumption)
                              obtain ⟨ad426, e426, hx426_0, hx426_1, hx426_2⟩ := at_T74 (Kd.R_reads' HO_5.out).2.2 ((rd_T37 y419 x16_1).f1) p426 q426
                              cases e426
                              replace p426 := eq_true p426
                              replace q426 := eq_true q426
                              have p427 : 0 ≤ (((rd_T37 y419 x16_1).f2) : Int) := of_decide_eq_true (by first | (with_reducible assumption) | assumption)
                              have q427 : ((rd_T37 y419 x16_1).f2) < (x5_1.length : Int) := of_decide_eq_true (by first | (with_reducible assumption) | assumption)
                              obtain ⟨ad427, e427, hx427_0, hx427_1, hx427_2⟩ := at_T74 (Kd.R_reads' HO_5.out).2.2 ((rd_T37 y419 x16_1).f2) p427 q427
                              obtain rfl : ad426 = ad427 := (by injection e427)
                              replace p427 := eq_true p427
                              replace q427 := eq_true q427
                              refine start_ (n := 15) (S := fun w' => w'.cell? ⟨gb425, 0, none⟩ = some (.int .i64 ((rd_T37 y419 x16_1).f0)) ∧ w'.cell? ⟨gb425, 1, none⟩ = some (.int .i64 ((rd_T37 y419 x16_1).f1)) ∧ w'.cell? ⟨gb425, 2, none⟩ = some (.int .i64 ((rd_T37 y419 x16_1).f2)) ∧ w'.cell? ⟨gb425, 3, none⟩ = some (.int .i64 ((rd_T37 y419 x16_1).f3)) ∧ w'.cell? ⟨gb425, 4, none⟩ = some (.int .i64 ((rd_T37 y419 x16_1).f4)) ∧ w'.cell? ⟨gb425, 5, none⟩ = some (.string ((rd_T37 y419 x16_1).f5)) ∧ w'.cell? (ad426.add ((((rd_T37 y419 x16_1).f1)).toNat * 3)) = some (.int .i64 ((rd_T74 x5_1 ((rd_T37 y419 x16_1).f1)).f0)) ∧ w'.cell? ⟨(ad426.add ((((rd_T37 y419 x16_1).f1)).toNat * 3)).block, (ad426.add ((((rd_T37 y419 x16_1).f1)).toNat * 3)).off + 1, none⟩ = some (.int .i64 ((rd_T74 x5_1 ((rd_T37 y419 x16_1).f1)).f1)) ∧ w'.cell? ⟨(ad426.add ((((rd_T37 y419 x16_1).f1)).toNat * 3)).block, (ad426.add ((((rd_T37 y419 x16_1).f1)).toNat * 3)).off + 2, none⟩ = some (.int .i64 ((rd_T74 x5_1 ((rd_T37 y419 x16_1).f1)).f2)) ∧ w'.cell? (ad426.add ((((rd_T37 y419 x16_1).f2)).toNat * 3)) = some (.int .i64 ((rd_T74 x5_1 ((rd_T37 y419 x16_1).f2)).f0)) ∧ w'.cell? ⟨(ad426.add ((((rd_T37 y419 x16_1).f2)).toNat * 3)).block, (ad426.add ((((rd_T37 y419 x16_1).f2)).toNat * 3)).off + 1, none⟩ = some (.int .i64 ((rd_T74 x5_1 ((rd_T37 y419 x16_1).f2)).f1)) ∧ w'.cell? ⟨(ad426.add ((((rd_T37 y419 x16_1).f2)).toNat * 3)).block, (ad426.add ((((rd_T37 y419 x16_1).f2)).toNat * 3)).off + 2, none⟩ = some (.int .i64 ((rd_T74 x5_1 ((rd_T37 y419 x16_1).f2)).f2))) (ds := [14]) #[false, false, false, false, false, false, false, false, false, false, false, false, false, false, false] (by kernel_rfl) rfl rfl ⟨(blk_cell BK425.out 0).trans rfl, (blk_cell BK425.out 1).trans rfl, (blk_cell BK425.out 2).trans rfl, (blk_cell BK425.out 3).trans rfl, (blk_cell BK425.out 4).trans rfl, (blk_cell BK425.out 5).trans rfl, hx426_0, hx426_1, hx426_2, hx427_0, hx427_1, hx427_2⟩ (fun hHeld => ?_); refine with_tabW typing_counted.tab7 typing_counted.bits7 (fun HT_ HW_ => ?_)
                              generalize w26.drew = w27 at HO_5 BK415 BK425 HB hx426_0 hx426_1 hx426_2 hx427_0 hx427_1 hx427_2 hHeld ⊢
                              refine pure_ (i := 0) (N := some 29) (v := ?_) (a' := ?_) #[true, false, false, false, false, false, false, false, false, false, false, false, false, false, false] rfl rfl (any_of HT_.out (by kernel_rfl)) (fun _ _ _ h => h) (Or.inl ⟨by rfl, ?_⟩) ?_ ?_
                              rotate_left
                              · intro w'
                                go_simp
                                with_reducible rfl
                              rotate_left
                              · simp only [Act.put, List.setIfInBounds_toArray, List.set_cons_zero, List.set_cons_succ, i64_w, i32_w]
                                rfl
                              refine pure_ (i := 1) (N := some 30) (v := ?_) (a' := ?_) #[true, true, false, false, false, false, false, false, false, false, false, false, false, false, false] rfl rfl (any_of HT_.out (by kernel_rfl)) (fun _ _ _ h => h) (Or.inl ⟨by rfl, ?_⟩) ?_ ?_
                              rotate_left
                              · intro w'
                                go_simp
                                with_reducible rfl
                              rotate_left
                              · simp only [Act.put, List.setIfInBounds_toArray, List.set_cons_zero, List.set_cons_succ, i64_w, i32_w]
                                rfl
                              refine pure_ (i := 2) (N := some 31) (v := ?_) (a' := ?_) #[true, true, true, false, false, false, false, false, false, false, false, false, false, false, false] rfl rfl (any_of HT_.out (by kernel_rfl)) (fun _ _ _ h => h) (Or.inl ⟨by rfl, ?_⟩) ?_ ?_
                              rotate_left
                              · intro w'
                                go_simp
                                with_reducible rfl
                              rotate_left
                              · simp only [Act.put, List.setIfInBounds_toArray, List.set_cons_zero, List.set_cons_succ, i64_w, i32_w]
                                rfl
                              refine pure_ (i := 3) (N := some 32) (v := ?_) (a' := ?_) #[true, true, true, true, false, false, false, false, false, false, false, false, false, false, false] rfl rfl (any_of HT_.out (by kernel_rfl)) (fun _ _ _ h => h) (Or.inl ⟨by rfl, ?_⟩) ?_ ?_
                              rotate_left
                              · intro w'
                                go_simp
                                with_reducible rfl
                              rotate_left
                              · simp only [Act.put, List.setIfInBounds_toArray, List.set_cons_zero, List.set_cons_succ, i64_w, i32_w]
                                rfl
                              refine pure_ (i := 7) (N := some 36) (v := ?_) (a' := ?_) #[true, true, true, true, false, false, false, true, false, false, false, false, false, false, false] rfl rfl (any_of HT_.out (by kernel_rfl)) (fun _ _ _ h => h) (Or.inl ⟨by rfl, ?_⟩) ?_ ?_
                              rotate_left
                              · intro w'
                                go_simp
                                with_reducible rfl
                              rotate_left
                              · simp only [Act.put, List.setIfInBounds_toArray, List.set_cons_zero, List.set_cons_succ, i64_w, i32_w]
                                rfl
                              refine pure_ (i := 8) (N := some 37) (v := ?_) (a' := ?_) #[true, true, true, true, false, false, false, true, true, false, false, false, false, false, false] rfl rfl (any_of HT_.out (by kernel_rfl)) (fun _ _ _ h => h) (Or.inl ⟨by rfl, ?_⟩) ?_ ?_
                              rotate_left
                              · intro w'
                                go_simp
                                with_reducible rfl
                              rotate_left
                              · simp only [Act.put, List.setIfInBounds_toArray, List.set_cons_zero, List.set_cons_succ, i64_w, i32_w]
                                rfl
                              refine take_ (i := 4) (N := some 33) (v := ?_) (a' := ?_) #[true, true, true, true, true, false, false, true, true, false, false, false, false, false, false] rfl rfl (take_ofW HT_.out HW_.out (by kernel_rfl)) (fun _ _ _ h => h) (Or.inl ⟨by rfl, ?_⟩) hHeld ?_ ?_
                              rotate_left
                              · rintro w' ⟨s0, s1, s2, s3, s4, s5, s6, s7, s8, s9, s10, s11⟩
                                go_simp
                                with_reducible rfl
                              rotate_left
                              · simp only [Act.put, List.setIfInBounds_toArray, List.set_cons_zero, List.set_cons_succ, i64_w, i32_w]
                                rfl
                              refine pure_ (i := 5) (N := some 34) (v := ?_) (a' := ?_) #[true, true, true, true, true, true, false, true, true, false, false, false, false, false, false] rfl rfl (any_of HT_.out (by kernel_rfl)) (fun _ _ _ h => h) (Or.inl ⟨by rfl, ?_⟩) ?_ ?_
                              rotate_left
                              · intro w'
                                go_simp
                                with_reducible rfl
                              rotate_left
                              · simp only [Act.put, List.setIfInBounds_toArray, List.set_cons_zero, List.set_cons_succ, i64_w, i32_w]
                                rfl
                              refine take_ (i := 6) (N := some 35) (v := ?_) (a' := ?_) #[true, true, true, true, true, true, true, true, true, false, false, false, false, false, false] rfl rfl (take_ofW HT_.out HW_.out (by kernel_rfl)) (fun _ _ _ h => h) (Or.inl ⟨by rfl, ?_⟩) hHeld ?_ ?_
                              rotate_left
                              · rintro w' ⟨s0, s1, s2, s3, s4, s5, s6, s7, s8, s9, s10, s11⟩
                                go_simp
                                with_reducible rfl
                              rotate_left
                              · simp only [Act.put, List.setIfInBounds_toArray, List.set_cons_zero, List.set_cons_succ, i64_w, i32_w]
                                rfl
                              refine take_ (i := 9) (N := some 38) (v := ?_) (a' := ?_) #[true, true, true, true, true, true, true, true, true, true, false, false, false, false, false] rfl rfl (take_ofW HT_.out HW_.out (by kernel_rfl)) (fun _ _ _ h => h) (Or.inl ⟨by rfl, ?_⟩) hHeld ?_ ?_
                              rotate_left
                              · rintro w' ⟨s0, s1, s2, s3, s4, s5, s6, s7, s8, s9, s10, s11⟩
                                go_simp
                                with_reducible rfl
                              rotate_left
                              · simp only [Act.put, List.setIfInBounds_toArray, List.set_cons_zero, List.set_cons_succ, i64_w, i32_w]
                                rfl
                              refine pure_ (i := 10) (N := some 39) (v := ?_) (a' := ?_) #[true, true, true, true, true, true, true, true, true, true, true, false, false, false, false] rfl rfl (any_of HT_.out (by kernel_rfl)) (fun _ _ _ h => h) (Or.inl ⟨by rfl, ?_⟩) ?_ ?_
                              rotate_left
                              · intro w'
                                go_simp
                                with_reducible rfl
                              rotate_left
                              · simp only [Act.put, List.setIfInBounds_toArray, List.set_cons_zero, List.set_cons_succ, i64_w, i32_w]
                                rfl
                              refine take_ (i := 11) (N := some 40) (v := ?_) (a' := ?_) #[true, true, true, true, true, true, true, true, true, true, true, true, false, false, false] rfl rfl (take_ofW HT_.out HW_.out (by kernel_rfl)) (fun _ _ _ h => h) (Or.inl ⟨by rfl, ?_⟩) hHeld ?_ ?_
                              rotate_left
                              · rintro w' ⟨s0, s1, s2, s3, s4, s5, s6, s7, s8, s9, s10, s11⟩
                                go_simp
                                with_reducible rfl
                              rotate_left
                              · simp only [Act.put, List.setIfInBounds_toArray, List.set_cons_zero, List.set_cons_succ, i64_w, i32_w]
                                rfl
                              refine one_ (i := 12) (N := some 41) #[true, true, true, true, true, true, true, true, true, true, true, true, true, false, false] rfl rfl (one_of HT_.out (by kernel_rfl)) (by decide) (fun K hK => ?_)
                              refine goes_ Tryd.func47 (by kernel_rfl) rfl #[.agg #[.int .i64 ((rd_T74 x5_1 ((rd_T37 y419 x16_1).f1)).f0), .int .i64 ((rd_T74 x5_1 ((rd_T37 y419 x16_1).f1)).f1), .int .i64 ((rd_T74 x5_1 ((rd_T37 y419 x16_1).f1)).f2)], .agg #[.int .i64 ((rd_T74 x5_1 ((rd_T37 y419 x16_1).f2)).f0), .int .i64 ((rd_T74 x5_1 ((rd_T37 y419 x16_1).f2)).f1), .int .i64 ((rd_T74 x5_1 ((rd_T37 y419 x16_1).f2)).f2)]] (by rfl) rfl rfl (by (try simp only [List.map_toArray, List.map_cons, List.map_nil]); first | done | rfl | (simp only [List.length_drop, List.length_take]; rfl)) ?_
                              with_reducible refine (typing_tally_plus.calls ((rd_T74 x5_1 ((rd_T37 y419 x16_1).f1)).f0) ((rd_T74 x5_1 ((rd_T37 y419 x16_1).f1)).f1) ((rd_T74 x5_1 ((rd_T37 y419 x16_1).f1)).f2) ((rd_T74 x5_1 ((rd_T37 y419 x16_1).f2)).f0) ((rd_T74 x5_1 ((rd_T37 y419 x16_1).f2)).f1) ((rd_T74 x5_1 ((rd_T37 y419 x16_1).f2)).f2) t428 t429 t430 _ A20.out).mono ?_
                              rintro e w29 ⟨rfl, hb⟩
                              have HS6_ := (hb.cell (World.block_lt_of_cell? _ _ (hHeld.2.2.2.2.2.2.1))).trans (hHeld.2.2.2.2.2.2.1)
                              have HS7_ := (hb.cell (World.block_lt_of_cell? _ _ (hHeld.2.2.2.2.2.2.2.1))).trans (hHeld.2.2.2.2.2.2.2.1)
                              have HS8_ := (hb.cell (World.block_lt_of_cell? _ _ (hHeld.2.2.2.2.2.2.2.2.1))).trans (hHeld.2.2.2.2.2.2.2.2.1)
                              have HS9_ := (hb.cell (World.block_lt_of_cell? _ _ (hHeld.2.2.2.2.2.2.2.2.2.1))).trans (hHeld.2.2.2.2.2.2.2.2.2.1)
                              have HS10_ := (hb.cell (World.block_lt_of_cell? _ _ (hHeld.2.2.2.2.2.2.2.2.2.2.1))).trans (hHeld.2.2.2.2.2.2.2.2.2.2.1)
                              have HS11_ := (hb.cell (World.block_lt_of_cell? _ _ (hHeld.2.2.2.2.2.2.2.2.2.2.2))).trans (hHeld.2.2.2.2.2.2.2.2.2.2.2)
                              refine ⟨_, rfl, ?_⟩
                              have n0_ := Aside0.mk (Kd.R_below (by (with_reducible repeat (first | apply Kd.R_alloc | apply Kd.R_drewN | apply Kd.R_drew)); exact HO_5.out) hb)
                              have n1_ := Aside0.mk (blk_below (g := gb415) (o := .cells #[.int .i64 x416000_1, .int .i64 x416001_1, .int .i64 x416002_1] 74 (0, 0)) (by (with_reducible repeat (first | refine blk_drewN ?_ _ | refine blk_drew ?_ | refine blk_alloc ?_ _)); exact BK415.out) hb)
                              have n2_ := Aside0.mk (blk_below (g := gb425) (o := .cells #[.int .i64 ((rd_T37 y419 x16_1).f0), .int .i64 ((rd_T37 y419 x16_1).f1), .int .i64 ((rd_T37 y419 x16_1).f2), .int .i64 ((rd_T37 y419 x16_1).f3), .int .i64 ((rd_T37 y419 x16_1).f4), .string ((rd_T37 y419 x16_1).f5)] 37 (0, 0)) (by (with_reducible repeat (first | refine blk_drewN ?_ _ | refine blk_drew ?_ | refine blk_alloc ?_ _)); exact BK425.out) hb)
                              have n3_ := Aside0.mk (below_step (by repeat (first | (with_reducible first | exact HB.out | apply below_alloc | apply pw_below_drewN | apply below_drew1 | refine below_set ?_ GE415.out | refine below_set ?_ GE425.out) | exact HB.out)) hb)
                              clear HO_5
                              clear BK415
                              clear BK425
                              clear HB
                              have HO_5 := n0_
                              have BK415 := n1_
                              have BK425 := n2_
                              have HB := n3_
                              clear n0_ n1_ n2_ n3_
                              (try clear hb)
                              (try clear hb2)
                              (try clear hk)
                              (try clear hi)
                              have p22 : 0 ≤ (x16_1 : Int) := of_decide_eq_true (by first | (with_reducible assumption) | assumption)
                              have q22 : (x16_1 : Int) < ((x5_1.length : Int) : Int) := of_decide_eq_true (by first | (with_reducible assumption) | assumption)
                              obtain ⟨go22, co22, eo22, gb22, gl22, cl22, HG22⟩ := Kd.R_form HO_5.out (by omega)
                              (first | cases eo22 | (injection eo22 with ea_ en_ ec_; (first | subst ea_ | (injection ea_ with ea_; subst ea_)); subst ec_; clear en_))
                              have GB22 := Aside0.mk gb22
                              have GG22 := Aside0.mk HG22
                              clear gb22 gl22 HG22
                              (first | simp only [add_plain] at hx426_0 | skip)
                              (first | simp only [add_plain] at hx426_1 | skip)
                              (first | simp only [add_plain] at hx426_2 | skip)
                              (first | simp only [add_plain] at hx427_0 | skip)
                              (first | simp only [add_plain] at hx427_1 | skip)
                              (first | simp only [add_plain] at hx427_2 | skip)
                              obtain ⟨ce22, hcl22, hM22, hcc22, hfr22⟩ := Kd.R_elem HO_5.out z74 (x16_1 : Int) p22 q22
                              obtain rfl := k74_openM hM22
                              have hx22_0 : World.cell? _ ⟨go22, (x16_1 : Int).toNat * 3, none⟩ = some (.int .i64 ((rd_T74 x5_1 x16_1).f0)) := hcc22 0 _ rfl
                              have hx22_1 : World.cell? _ ⟨go22, (x16_1 : Int).toNat * 3 + 1, none⟩ = some (.int .i64 ((rd_T74 x5_1 x16_1).f1)) := hcc22 1 _ rfl
                              have hx22_2 : World.cell? _ ⟨go22, (x16_1 : Int).toNat * 3 + 2, none⟩ = some (.int .i64 ((rd_T74 x5_1 x16_1).f2)) := hcc22 2 _ rfl
                              have hf22_0 : World.frozen? _ ⟨go22, (x16_1 : Int).toNat * 3, none⟩ = false := hfr22 0
                              have hf22_1 : World.frozen? _ ⟨go22, (x16_1 : Int).toNat * 3 + 1, none⟩ = false := hfr22 1
                              have hf22_2 : World.frozen? _ ⟨go22, (x16_1 : Int).toNat * 3 + 2, none⟩ = false := hfr22 2
                              clear hcl22 hcc22 hfr22 hM22
                              replace p22 := eq_true p22
                              replace q22 := eq_true q22
                              obtain ⟨ce30, hcl30, hM30, hcc30, hfr30⟩ := Kd.R_elem HO_5.out z74 (x16_1 : Int) (of_decide_eq_true (by first | (with_reducible assumption) | assumption)) (by have h_ : (x16_1 : Int) < ((x5_1.length : Int) : Int) := of_decide_eq_true (by first | (with_reducible assumption) | assumption); first | exact h_ | (have e_ := (Kd.R_reads' HO_5.out).1; omega) | simpa using h_)
                              obtain rfl := k74_openM hM30
                              have HP30 := (Kd.R_seg HO_5.out (x16_1 : Int) (of_decide_eq_true (by first | (with_reducible assumption) | assumption)) (by have h_ : (x16_1 : Int) < ((x5_1.length : Int) : Int) := of_decide_eq_true (by first | (with_reducible assumption) | assumption); first | exact h_ | (have e_ := (Kd.R_reads' HO_5.out).1; omega) | simpa using h_) (seg := [.int .i64 t428, .int .i64 t429, .int .i64 t430]) (j := 0) hcl30 hcc30 (show 3 ≤ 3 from by decide) (x' := (⟨t428, t429, t430⟩ : S74)) (k74_mkM _ _ _ (⟨t428, t429, t430⟩ : S74) ) (fun _ hk => hk)).1
                              rw [← Ny431.out] at HP30
                              have HQ30 := Aside0.mk HP30
                              clear hcl30 hcc30 hfr30 hM30 HP30
                              refine hK.out _ _ ⟨(blk_cell BK425.out 0).trans rfl, (blk_cell BK425.out 1).trans rfl, (blk_cell BK425.out 2).trans rfl, (blk_cell BK425.out 3).trans rfl, (blk_cell BK425.out 4).trans rfl, (blk_cell BK425.out 5).trans rfl, HS6_, HS7_, HS8_, HS9_, HS10_, HS11_⟩ (fun hHeld => ?_)
                              clear hK K
                              refine norm_ (a' := ?_) ?_ ?_
                              rotate_left
                              · show Act.put _ (some 41) _ = _
                                simp only [Act.put, List.setIfInBounds_toArray, List.set_cons_zero, List.set_cons_succ, i64_w, i32_w]
                                rfl
                              refine pure_ (i := 13) (N := some 42) (v := ?_) (a' := ?_) #[true, true, true, true, true, true, true, true, true, true, true, true, true, true, false] rfl rfl (any_of HT_.out (by kernel_rfl)) (fun _ _ _ h => h) (Or.inl ⟨by rfl, ?_⟩) ?_ ?_
                              rotate_left
                              · intro w'
                                go_simp
                                with_reducible rfl
                              rotate_left
                              · simp only [Act.put, List.setIfInBounds_toArray, List.set_cons_zero, List.set_cons_succ, i64_w, i32_w]
                                rfl
                              refine last_ (i := 14) (N := none) #[true, true, true, true, true, true, true, true, true, true, true, true, true, true, true] rfl rfl (one_of HT_.out (by kernel_rfl)) (by decide) (fun K hK => ?_)
                              refine skip_ (w1 := ?_) (by rfl) rfl ?_ ?_
                              rotate_left
                              · go_simp
                                rfl
                              refine hK.out _ _ ?_
                              clear hK K
                              refine done_ (done_of HT_.out (by kernel_rfl)) ?_
                              try go_wp2
                              go_roundg k1
                              case measure => have := HK1.out; omega
                              case rel => exact ⟨(y431), (wrap64 (x16_1 + 1)), (x416000_1), (x416001_1), (x416002_1), (by first | rfl | (simp; done) | (simp [*]; done)), H', ⟨by have := HK1.out; omega⟩, ⟨by (with_reducible repeat (first | apply Kd.R_alloc | apply Kd.R_drewN | apply Kd.R_drew)); exact HQ30.out⟩, ⟨by (with_reducible repeat (first | refine blk_drewN ?_ _ | refine blk_drew ?_ | refine blk_alloc ?_ _)); refine blk_far ?_ (by have h_ := Kd.R_away HO_5.out (fun _ hk => hk); intro e_; exact h_ (by rw [e_]; rfl)) _; (with_reducible repeat (first | refine blk_drewN ?_ _ | refine blk_drew ?_ | refine blk_alloc ?_ _)); refine blk_far ?_ (by have h_ := Kd.R_away HO_5.out (fun _ hk => hk); intro e_; exact h_ (by rw [e_]; rfl)) _; (with_reducible repeat (first | refine blk_drewN ?_ _ | refine blk_drew ?_ | refine blk_alloc ?_ _)); refine blk_far ?_ (by have h_ := Kd.R_away HO_5.out (fun _ hk => hk); intro e_; exact h_ (by rw [e_]; rfl)) _; (with_reducible repeat (first | refine blk_drewN ?_ _ | refine blk_drew ?_ | refine blk_alloc ?_ _)); exact BK415.out⟩, ⟨by repeat (first | (with_reducible first | exact HB.out | apply below_alloc | apply pw_below_drewN | apply below_drew1 | refine below_set ?_ GB22.out | refine below_set ?_ GB22.out | refine below_set ?_ GB22.out | refine below_set ?_ GE415.out | refine below_set ?_ GE425.out) | exact HB.out)⟩⟩
                            · rw [if_neg c21] at H
                              exact absurd H (by simp)
                          · rw [if_neg c19] at H
                            exact absurd H (by simp)
                        · rw [if_neg c18] at H
                          exact absurd H (by simp)
                      · rw [if_neg c17] at H
                        exact absurd H (by simp)
                    · rw [if_neg c16] at H
                      exact absurd H (by simp)
                  · rw [if_neg c15] at H
                    have c15b0 : (((rd_T37 y419 x16_1).f0) == 2) = false := beq_eq_false_iff_ne.mpr c15
                    have c15b1 : (((rd_T37 y419 x16_1).f0) != 2) = true := bne_iff_ne.mpr c15
                    have HC31 := Aside0.mk H
                    clear H
                    have p424 : 0 ≤ (x16_1 : Int) := of_decide_eq_true (by first | (with_reducible assumption) | assumption)
                    have q424 : x16_1 < (y419.length : Int) := of_decide_eq_true (by first | (with_reducible assumption) | assumption)
                    obtain ⟨ad424, e424, hx424_0, hx424_1, hx424_2, hx424_3, hx424_4, hx424_5⟩ := at_T37 HR422.out x16_1 p424 q424
                    cases e424
                    replace hx424_0 := (HB.out.cell (World.block_lt_of_cell? w _ hx424_0)).trans hx424_0
                    replace hx424_1 := (HB.out.cell (World.block_lt_of_cell? w _ hx424_1)).trans hx424_1
                    replace hx424_2 := (HB.out.cell (World.block_lt_of_cell? w _ hx424_2)).trans hx424_2
                    replace hx424_3 := (HB.out.cell (World.block_lt_of_cell? w _ hx424_3)).trans hx424_3
                    replace hx424_4 := (HB.out.cell (World.block_lt_of_cell? w _ hx424_4)).trans hx424_4
                    replace hx424_5 := (HB.out.cell (World.block_lt_of_cell? w _ hx424_5)).trans hx424_5
                    replace p424 := eq_true p424
                    replace q424 := eq_true q424
                    go_upto_region 8 with (first | ((with_reducible refine gate_dst (N := 7) rfl ?_); refine box_event ?hg (N := 7) ?hd (cs := #[.int .i64 0, .int .i64 0, .int .i64 0, .int .i64 0, .int .i64 0, .string (⟨#[]⟩ : ByteArray)]) (t := 37) ?hr ?_; (case hd => rfl); (case hg => rfl); (case hr => first | (go_simp; done) | (go_simp; rfl)); intro gb425 hg w32 hbox hb; have n0_ := Aside0.mk (Kd.R_below (by (with_reducible repeat (first | apply Kd.R_alloc | apply Kd.R_drewN | apply Kd.R_drew)); exact HO_5.out) hb); have n1_ := Aside0.mk (blk_below (g := gb415) (o := .cells #[.int .i64 x416000_1, .int .i64 x416001_1, .int .i64 x416002_1] 74 (0, 0)) (by (with_reducible repeat (first | refine blk_drewN ?_ _ | refine blk_drew ?_ | refine blk_alloc ?_ _)); exact BK415.out) hb); have n2_ := Aside0.mk (below_step (by repeat (first | (with_reducible first | exact HB.out | apply below_alloc | apply pw_below_drewN | apply below_drew1 | refine below_set ?_ GE415.out) | exact HB.out)) hb); have n3_ := Aside0.mk (hbox); have n4_ := Aside0.mk ((by rw [hg]; exact (below_size (by repeat (first | (with_reducible first | exact HB.out | apply below_alloc | apply pw_below_drewN | apply below_drew1 | refine below_set ?_ GE415.out) | exact HB.out))) : w.heap.size ≤ gb425)); have n5_ := Aside0.mk ((by rw [hg]; exact (below_size (by repeat (first | (with_reducible first | exact HB.out | apply below_alloc | apply pw_below_drewN | apply below_drew1 | refine below_set ?_ GE415.out) | exact HB.out))) : w.heap.size ≤ gb425)); have n6_ := Aside0.mk ((by rw [hg]; exact Nat.ne_of_lt (blk_lt (g := gb415) (o := .cells #[.int .i64 x416000_1, .int .i64 x416001_1, .int .i64 x416002_1] 74 (0, 0)) (by (with_reducible repeat (first | refine blk_drewN ?_ _ | refine blk_drew ?_ | refine blk_alloc ?_ _)); exact BK415.out)) : gb415 ≠ gb425)); have n7_ := Aside0.mk ((by rw [hg]; exact Nat.ne_of_gt (blk_lt (g := gb415) (o := .cells #[.int .i64 x416000_1, .int .i64 x416001_1, .int .i64 x416002_1] 74 (0, 0)) (by (with_reducible repeat (first | refine blk_drewN ?_ _ | refine blk_drew ?_ | refine blk_alloc ?_ _)); exact BK415.out)) : gb425 ≠ gb415)); clear HO_5; clear BK415; clear HB; have HO_5 := n0_; have BK415 := n1_; have HB := n2_; have BK425 := n3_; have GW425 := n4_; have GE425 := n5_; have NB415_425 := n6_; have NB425_415 := n7_; clear n0_ n1_ n2_ n3_ n4_ n5_ n6_ n7_; clear hb hbox hg; have hnb33 := NB425_415.out; have hnc33 := NB415_425.out; have hcz34_0 : w32.cell? ⟨gb425, 0, none⟩ = some (.int .i64 0) := (blk_cell BK425.out 0).trans rfl; have hcz34_1 : w32.cell? ⟨gb425, 1, none⟩ = some (.int .i64 0) := (blk_cell BK425.out 1).trans rfl; have hcz34_2 : w32.cell? ⟨gb425, 2, none⟩ = some (.int .i64 0) := (blk_cell BK425.out 2).trans rfl; have hcz34_3 : w32.cell? ⟨gb425, 3, none⟩ = some (.int .i64 0) := (blk_cell BK425.out 3).trans rfl; have hcz34_4 : w32.cell? ⟨gb425, 4, none⟩ = some (.int .i64 0) := (blk_cell BK425.out 4).trans rfl; have hcz34_5 : w32.cell? ⟨gb425, 5, none⟩ = some (.string (⟨#[]⟩ : ByteArray)) := (blk_cell BK425.out 5).trans rfl; have hfz34_0 := blk_frozen BK425.out 0; have hfz34_1 := blk_frozen BK425.out 1; have hfz34_2 := blk_frozen BK425.out 2; have hfz34_3 := blk_frozen BK425.out 3; have hfz34_4 := blk_frozen BK425.out 4; have hfz34_5 := blk_frozen BK425.out 5))
                    (try simp only [Act.put, List.setIfInBounds_toArray, List.set_cons_zero, List.set_cons_succ])
                    go_cut [43] (fun v43 wc => ∃ (kq : Nat) (x43_30 : Bool), v43 = .bool x43_30 ∧ Aside0 (typing_counted.j1 kq l0 a1 x5_1 x16_1 y419 (y419.length : Int) x16_1 x43_30 ((rd_T37 y419 x16_1).f0) ((rd_T37 y419 x16_1).f1) ((rd_T37 y419 x16_1).f2) ((rd_T37 y419 x16_1).f3) ((rd_T37 y419 x16_1).f4) ((rd_T37 y419 x16_1).f5) = some (r1, r2, r3)) ∧ Aside0 (kq ≤ k1) ∧ Aside0 (Kd.R k74 74 wc w.heap.size (fun k_ => k_ ≠ gb415) v417 x5_1) ∧ Aside0 (wc.heap[gb415]? = some (.cells #[.int .i64 x416000_1, .int .i64 x416001_1, .int .i64 x416002_1] 74 (0, 0))) ∧ Aside0 (wc.heap[gb425]? = some (.cells #[.int .i64 ((rd_T37 y419 x16_1).f0), .int .i64 ((rd_T37 y419 x16_1).f1), .int .i64 ((rd_T37 y419 x16_1).f2), .int .i64 ((rd_T37 y419 x16_1).f3), .int .i64 ((rd_T37 y419 x16_1).f4), .string ((rd_T37 y419 x16_1).f5)] 37 (0, 0))) ∧ Aside0 (Below w.heap.size w wc))
                    case first =>
                      have H := HC31.out
                      clear HC31
                      by_cases c35 : ((rd_T37 y419 x16_1).f0) = 4
                      · rw [if_pos c35] at H
                        have c35b0 : (((rd_T37 y419 x16_1).f0) == 4) = true := beq_iff_eq.mpr c35
                        have c35b1 : (((rd_T37 y419 x16_1).f0) != 4) = false := bne_eq_false_iff_eq.mpr c35
                        clear c35
                        (first | rw [c35b0] | (simp only [i64_w, i32_w]; rw [c35b0]) | skip)
                        replace H := Option.bind_eq_some_iff.mp H
                        obtain ⟨t432, A360, H⟩ := H
                        replace H : (typing_counted.j1 k1 l0 a1 x5_1 x16_1 y419 (y419.length : Int) x16_1 t432 ((rd_T37 y419 x16_1).f0) ((rd_T37 y419 x16_1).f1) ((rd_T37 y419 x16_1).f2) ((rd_T37 y419 x16_1).f3) ((rd_T37 y419 x16_1).f4) ((rd_T37 y419 x16_1).f5)) = some (r1, r2, r3) := H
                        have A36 := Aside0.mk A360
                        clear A360
                        have H' := Aside0.mk H
                        clear H
                        have hnb37 := NB425_415.out
                        have hnc37 := NB415_425.out
                        have hcz38_0 : w32.cell? ⟨gb425, 0, none⟩ = some (.int .i64 0) := (blk_cell BK425.out 0).trans rfl
                        have hcz38_1 : w32.cell? ⟨gb425, 1, none⟩ = some (.int .i64 0) := (blk_cell BK425.out 1).trans rfl
                        have hcz38_2 : w32.cell? ⟨gb425, 2, none⟩ = some (.int .i64 0) := (blk_cell BK425.out 2).trans rfl
                        have hcz38_3 : w32.cell? ⟨gb425, 3, none⟩ = some (.int .i64 0) := (blk_cell BK425.out 3).trans rfl
                        have hcz38_4 : w32.cell? ⟨gb425, 4, none⟩ = some (.int .i64 0) := (blk_cell BK425.out 4).trans rfl
                        have hcz38_5 : w32.cell? ⟨gb425, 5, none⟩ = some (.string (⟨#[]⟩ : ByteArray)) := (blk_cell BK425.out 5).trans rfl
                        have hfz38_0 := blk_frozen BK425.out 0
                        have hfz38_1 := blk_frozen BK425.out 1
                        have hfz38_2 := blk_frozen BK425.out 2
                        have hfz38_3 := blk_frozen BK425.out 3
                        have hfz38_4 := blk_frozen BK425.out 4
                        have hfz38_5 := blk_frozen BK425.out 5
                        go_wp2_with (first | (go_at_call 32; (with_reducible refine (typing_against.calls _ _ l0 ((rd_T37 y419 x16_1).f0) ((rd_T37 y419 x16_1).f1) ((rd_T37 y419 x16_1).f2) ((rd_T37 y419 x16_1).f3) ((rd_T37 y419 x16_1).f4) ((rd_T37 y419 x16_1).f5) 6 18 t432 _ ?side1 ?side2 A36.out).mono ?_); (case side1 => exact Kd.C_below HR0.out (by repeat (first | (with_reducible first | exact HB.out | apply below_alloc | apply pw_below_drewN | apply below_drew1 | refine below_set ?_ GE415.out | refine below_set ?_ GE425.out) | exact HB.out))); (case side2 => exact HC0.out); rintro e w39 ⟨rfl, hb⟩; have n0_ := Aside0.mk (Kd.R_below (by (with_reducible repeat (first | apply Kd.R_alloc | apply Kd.R_drewN | apply Kd.R_drew)); exact (Kd.R_mono (Kd.R_far (p := ⟨gb425, 5, none⟩) (Kd.R_far (p := ⟨gb425, 4, none⟩) (Kd.R_far (p := ⟨gb425, 3, none⟩) (Kd.R_far (p := ⟨gb425, 2, none⟩) (Kd.R_far (p := ⟨gb425, 1, none⟩) (Kd.R_far (p := ⟨gb425, 0, none⟩) (Kd.R_types HO_5.out BK425.out (by decide)) (fun _ hk => hk.2) (.int .i64 ((rd_T37 y419 x16_1).f0))) (fun _ hk => hk.2) (.int .i64 ((rd_T37 y419 x16_1).f1))) (fun _ hk => hk.2) (.int .i64 ((rd_T37 y419 x16_1).f2))) (fun _ hk => hk.2) (.int .i64 ((rd_T37 y419 x16_1).f3))) (fun _ hk => hk.2) (.int .i64 ((rd_T37 y419 x16_1).f4))) (fun _ hk => hk.2) (.string ((rd_T37 y419 x16_1).f5))) (fun _ h_ => h_.1))) hb); have n1_ := Aside0.mk (blk_below (g := gb415) (o := .cells #[.int .i64 x416000_1, .int .i64 x416001_1, .int .i64 x416002_1] 74 (0, 0)) (by (with_reducible repeat (first | refine blk_drewN ?_ _ | refine blk_drew ?_ | refine blk_alloc ?_ _)); refine blk_far ?_ NB415_425.out _; (with_reducible repeat (first | refine blk_drewN ?_ _ | refine blk_drew ?_ | refine blk_alloc ?_ _)); refine blk_far ?_ NB415_425.out _; (with_reducible repeat (first | refine blk_drewN ?_ _ | refine blk_drew ?_ | refine blk_alloc ?_ _)); refine blk_far ?_ NB415_425.out _; (with_reducible repeat (first | refine blk_drewN ?_ _ | refine blk_drew ?_ | refine blk_alloc ?_ _)); refine blk_far ?_ NB415_425.out _; (with_reducible repeat (first | refine blk_drewN ?_ _ | refine blk_drew ?_ | refine blk_alloc ?_ _)); refine blk_far ?_ NB415_425.out _; (with_reducible repeat (first | refine blk_drewN ?_ _ | refine blk_drew ?_ | refine blk_alloc ?_ _)); refine blk_far ?_ NB415_425.out _; (with_reducible repeat (first | refine blk_drewN ?_ _ | refine blk_drew ?_ | refine blk_alloc ?_ _)); exact BK415.out) hb); have n2_ := Aside0.mk (blk_below (g := gb425) (o := .cells #[.int .i64 ((rd_T37 y419 x16_1).f0), .int .i64 ((rd_T37 y419 x16_1).f1), .int .i64 ((rd_T37 y419 x16_1).f2), .int .i64 ((rd_T37 y419 x16_1).f3), .int .i64 ((rd_T37 y419 x16_1).f4), .string ((rd_T37 y419 x16_1).f5)] 37 (0, 0)) (by (with_reducible repeat (first | refine blk_drewN ?_ _ | refine blk_drew ?_ | refine blk_alloc ?_ _)); refine blk_put (cs := #[.int .i64 ((rd_T37 y419 x16_1).f0), .int .i64 ((rd_T37 y419 x16_1).f1), .int .i64 ((rd_T37 y419 x16_1).f2), .int .i64 ((rd_T37 y419 x16_1).f3), .int .i64 ((rd_T37 y419 x16_1).f4), .string (⟨#[]⟩ : ByteArray)]) ?_ 5 _ rfl; (with_reducible repeat (first | refine blk_drewN ?_ _ | refine blk_drew ?_ | refine blk_alloc ?_ _)); refine blk_put (cs := #[.int .i64 ((rd_T37 y419 x16_1).f0), .int .i64 ((rd_T37 y419 x16_1).f1), .int .i64 ((rd_T37 y419 x16_1).f2), .int .i64 ((rd_T37 y419 x16_1).f3), .int .i64 0, .string (⟨#[]⟩ : ByteArray)]) ?_ 4 _ rfl; (with_reducible repeat (first | refine blk_drewN ?_ _ | refine blk_drew ?_ | refine blk_alloc ?_ _)); refine blk_put (cs := #[.int .i64 ((rd_T37 y419 x16_1).f0), .int .i64 ((rd_T37 y419 x16_1).f1), .int .i64 ((rd_T37 y419 x16_1).f2), .int .i64 0, .int .i64 0, .string (⟨#[]⟩ : ByteArray)]) ?_ 3 _ rfl; (with_reducible repeat (first | refine blk_drewN ?_ _ | refine blk_drew ?_ | refine blk_alloc ?_ _)); refine blk_put (cs := #[.int .i64 ((rd_T37 y419 x16_1).f0), .int .i64 ((rd_T37 y419 x16_1).f1), .int .i64 0, .int .i64 0, .int .i64 0, .string (⟨#[]⟩ : ByteArray)]) ?_ 2 _ rfl; (with_reducible repeat (first | refine blk_drewN ?_ _ | refine blk_drew ?_ | refine blk_alloc ?_ _)); refine blk_put (cs := #[.int .i64 ((rd_T37 y419 x16_1).f0), .int .i64 0, .int .i64 0, .int .i64 0, .int .i64 0, .string (⟨#[]⟩ : ByteArray)]) ?_ 1 _ rfl; (with_reducible repeat (first | refine blk_drewN ?_ _ | refine blk_drew ?_ | refine blk_alloc ?_ _)); refine blk_put (cs := #[.int .i64 0, .int .i64 0, .int .i64 0, .int .i64 0, .int .i64 0, .string (⟨#[]⟩ : ByteArray)]) ?_ 0 _ rfl; (with_reducible repeat (first | refine blk_drewN ?_ _ | refine blk_drew ?_ | refine blk_alloc ?_ _)); exact BK425.out) hb); have n3_ := Aside0.mk (below_step (by repeat (first | (with_reducible first | exact HB.out | apply below_alloc | apply pw_below_drewN | apply below_drew1 | refine below_set ?_ GE415.out | refine below_set ?_ GE425.out) | exact HB.out)) hb); clear HO_5; clear BK415; clear BK425; clear HB; have HO_5 := n0_; have BK415 := n1_; have BK425 := n2_; have HB := n3_; clear n0_ n1_ n2_ n3_; (try clear hb); (try clear hb2); (try clear hk); (try clear hi)))
                        go_meet
                        case rel => exact ⟨_, (t432), (by first | rfl | (simp; done) | (simp [*]; done)), H', ⟨by have := HK1.out; first | omega | exact Nat.le_refl _⟩, ⟨by (with_reducible repeat (first | apply Kd.R_alloc | apply Kd.R_drewN | apply Kd.R_drew)); exact HO_5.out⟩, ⟨by (with_reducible repeat (first | refine blk_drewN ?_ _ | refine blk_drew ?_ | refine blk_alloc ?_ _)); exact BK415.out⟩, ⟨by (with_reducible repeat (first | refine blk_drewN ?_ _ | refine blk_drew ?_ | refine blk_alloc ?_ _)); exact BK425.out⟩, ⟨by repeat (first | (with_reducible first | exact HB.out | apply below_alloc | apply pw_below_drewN | apply below_drew1 | refine below_set ?_ GE415.out | refine below_set ?_ GE425.out) | exact HB.out)⟩⟩
                      · rw [if_neg c35] at H
                        have c35b0 : (((rd_T37 y419 x16_1).f0) == 4) = false := beq_eq_false_iff_ne.mpr c35
                        have c35b1 : (((rd_T37 y419 x16_1).f0) != 4) = true := bne_iff_ne.mpr c35
                        (first | rw [c35b0] | (simp only [i64_w, i32_w]; rw [c35b0]) | skip)
                        have H' := Aside0.mk H
                        clear H
                        have hnb40 := NB425_415.out
                        have hnc40 := NB415_425.out
                        have hcz41_0 : w32.cell? ⟨gb425, 0, none⟩ = some (.int .i64 0) := (blk_cell BK425.out 0).trans rfl
                        have hcz41_1 : w32.cell? ⟨gb425, 1, none⟩ = some (.int .i64 0) := (blk_cell BK425.out 1).trans rfl
                        have hcz41_2 : w32.cell? ⟨gb425, 2, none⟩ = some (.int .i64 0) := (blk_cell BK425.out 2).trans rfl
                        have hcz41_3 : w32.cell? ⟨gb425, 3, none⟩ = some (.int .i64 0) := (blk_cell BK425.out 3).trans rfl
                        have hcz41_4 : w32.cell? ⟨gb425, 4, none⟩ = some (.int .i64 0) := (blk_cell BK425.out 4).trans rfl
                        have hcz41_5 : w32.cell? ⟨gb425, 5, none⟩ = some (.string (⟨#[]⟩ : ByteArray)) := (blk_cell BK425.out 5).trans rfl
                        have hfz41_0 := blk_frozen BK425.out 0
                        have hfz41_1 := blk_frozen BK425.out 1
                        have hfz41_2 := blk_frozen BK425.out 2
                        have hfz41_3 := blk_frozen BK425.out 3
                        have hfz41_4 := blk_frozen BK425.out 4
                        have hfz41_5 := blk_frozen BK425.out 5
                        go_wp2
                        go_meet
                        case rel => exact ⟨_, (false), (by first | rfl | (simp; done) | (simp [*]; done)), H', ⟨by have := HK1.out; first | omega | exact Nat.le_refl _⟩, ⟨by (with_reducible repeat (first | apply Kd.R_alloc | apply Kd.R_drewN | apply Kd.R_drew)); exact Kd.R_mono (Kd.R_far (p := ⟨gb425, 5, none⟩) (Kd.R_far (p := ⟨gb425, 4, none⟩) (Kd.R_far (p := ⟨gb425, 3, none⟩) (Kd.R_far (p := ⟨gb425, 2, none⟩) (Kd.R_far (p := ⟨gb425, 1, none⟩) (Kd.R_far (p := ⟨gb425, 0, none⟩) (Kd.R_types HO_5.out BK425.out (by decide)) (fun _ hk => hk.2) (.int .i64 ((rd_T37 y419 x16_1).f0))) (fun _ hk => hk.2) (.int .i64 ((rd_T37 y419 x16_1).f1))) (fun _ hk => hk.2) (.int .i64 ((rd_T37 y419 x16_1).f2))) (fun _ hk => hk.2) (.int .i64 ((rd_T37 y419 x16_1).f3))) (fun _ hk => hk.2) (.int .i64 ((rd_T37 y419 x16_1).f4))) (fun _ hk => hk.2) (.string ((rd_T37 y419 x16_1).f5))) (fun _ hk => hk.1)⟩, ⟨by (with_reducible repeat (first | refine blk_drewN ?_ _ | refine blk_drew ?_ | refine blk_alloc ?_ _)); refine blk_far ?_ NB415_425.out _; (with_reducible repeat (first | refine blk_drewN ?_ _ | refine blk_drew ?_ | refine blk_alloc ?_ _)); refine blk_far ?_ NB415_425.out _; (with_reducible repeat (first | refine blk_drewN ?_ _ | refine blk_drew ?_ | refine blk_alloc ?_ _)); refine blk_far ?_ NB415_425.out _; (with_reducible repeat (first | refine blk_drewN ?_ _ | refine blk_drew ?_ | refine blk_alloc ?_ _)); refine blk_far ?_ NB415_425.out _; (with_reducible repeat (first | refine blk_drewN ?_ _ | refine blk_drew ?_ | refine blk_alloc ?_ _)); refine blk_far ?_ NB415_425.out _; (with_reducible repeat (first | refine blk_drewN ?_ _ | refine blk_drew ?_ | refine blk_alloc ?_ _)); refine blk_far ?_ NB415_425.out _; (with_reducible repeat (first | refine blk_drewN ?_ _ | refine blk_drew ?_ | refine blk_alloc ?_ _)); exact BK415.out⟩, ⟨by (with_reducible repeat (first | refine blk_drewN ?_ _ | refine blk_drew ?_ | refine blk_alloc ?_ _)); refine blk_put (cs := #[.int .i64 ((rd_T37 y419 x16_1).f0), .int .i64 ((rd_T37 y419 x16_1).f1), .int .i64 ((rd_T37 y419 x16_1).f2), .int .i64 ((rd_T37 y419 x16_1).f3), .int .i64 ((rd_T37 y419 x16_1).f4), .string (⟨#[]⟩ : ByteArray)]) ?_ 5 _ rfl; (with_reducible repeat (first | refine blk_drewN ?_ _ | refine blk_drew ?_ | refine blk_alloc ?_ _)); refine blk_put (cs := #[.int .i64 ((rd_T37 y419 x16_1).f0), .int .i64 ((rd_T37 y419 x16_1).f1), .int .i64 ((rd_T37 y419 x16_1).f2), .int .i64 ((rd_T37 y419 x16_1).f3), .int .i64 0, .string (⟨#[]⟩ : ByteArray)]) ?_ 4 _ rfl; (with_reducible repeat (first | refine blk_drewN ?_ _ | refine blk_drew ?_ | refine blk_alloc ?_ _)); refine blk_put (cs := #[.int .i64 ((rd_T37 y419 x16_1).f0), .int .i64 ((rd_T37 y419 x16_1).f1), .int .i64 ((rd_T37 y419 x16_1).f2), .int .i64 0, .int .i64 0, .string (⟨#[]⟩ : ByteArray)]) ?_ 3 _ rfl; (with_reducible repeat (first | refine blk_drewN ?_ _ | refine blk_drew ?_ | refine blk_alloc ?_ _)); refine blk_put (cs := #[.int .i64 ((rd_T37 y419 x16_1).f0), .int .i64 ((rd_T37 y419 x16_1).f1), .int .i64 0, .int .i64 0, .int .i64 0, .string (⟨#[]⟩ : ByteArray)]) ?_ 2 _ rfl; (with_reducible repeat (first | refine blk_drewN ?_ _ | refine blk_drew ?_ | refine blk_alloc ?_ _)); refine blk_put (cs := #[.int .i64 ((rd_T37 y419 x16_1).f0), .int .i64 0, .int .i64 0, .int .i64 0, .int .i64 0, .string (⟨#[]⟩ : ByteArray)]) ?_ 1 _ rfl; (with_reducible repeat (first | refine blk_drewN ?_ _ | refine blk_drew ?_ | refine blk_alloc ?_ _)); refine blk_put (cs := #[.int .i64 0, .int .i64 0, .int .i64 0, .int .i64 0, .int .i64 0, .string (⟨#[]⟩ : ByteArray)]) ?_ 0 _ rfl; (with_reducible repeat (first | refine blk_drewN ?_ _ | refine blk_drew ?_ | refine blk_alloc ?_ _)); exact BK425.out⟩, ⟨by repeat (first | (with_reducible first | exact HB.out | apply below_alloc | apply pw_below_drewN | apply below_drew1 | refine below_set ?_ GE415.out | refine below_set ?_ GE425.out) | exact HB.out)⟩⟩
                    case rest =>
                      clear HC31
                      try clear c1
                      try clear q1
                      try clear c2
                      try clear p2
                      try clear q2
                      try clear hx2
                      try clear hf2
                      try clear c3
                      try clear c4
                      try clear c4b0
                      try clear c4b1
                      try clear p4
                      try clear q4
                      try clear hx4
                      try clear c5
                      try clear c5b0
                      try clear c5b1
                      try clear c6
                      try clear c6b0
                      try clear p6
                      try clear c7
                      try clear c7b0
                      try clear c7b1
                      try clear q11
                      try clear c12
                      try clear c12b0
                      try clear c13
                      try clear c13b0
                      try clear c14
                      try clear c14b0
                      try clear c15
                      try clear c15b0
                      try clear c15b1
                      try clear c16
                      try clear c16b0
                      try clear c17
                      try clear c17b0
                      try clear c18
                      try clear c18b0
                      try clear c19
                      try clear c19b0
                      try clear c21
                      try clear c21b0
                      try clear c22
                      try clear p22
                      try clear q22
                      try clear hx22
                      try clear hf22
                      try clear c24
                      try clear c30
                      try clear c33
                      try clear c35
                      try clear c35b0
                      try clear c35b1
                      try clear c37
                      try clear c40
                      try clear hcz25_0
                      try clear hcz25_1
                      try clear hcz25_2
                      try clear hcz25_3
                      try clear hcz25_4
                      try clear hcz25_5
                      try clear hcz34_0
                      try clear hcz34_1
                      try clear hcz34_2
                      try clear hcz34_3
                      try clear hcz34_4
                      try clear hcz34_5
                      try clear hcz38_0
                      try clear hcz38_1
                      try clear hcz38_2
                      try clear hcz38_3
                      try clear hcz38_4
                      try clear hcz38_5
                      try clear hcz41_0
                      try clear hcz41_1
                      try clear hcz41_2
                      try clear hcz41_3
                      try clear hcz41_4
                      try clear hcz41_5
                      try clear hfz25_0
                      try clear hfz25_1
                      try clear hfz25_2
                      try clear hfz25_3
                      try clear hfz25_4
                      try clear hfz25_5
                      try clear hfz34_0
                      try clear hfz34_1
                      try clear hfz34_2
                      try clear hfz34_3
                      try clear hfz34_4
                      try clear hfz34_5
                      try clear hfz38_0
                      try clear hfz38_1
                      try clear hfz38_2
                      try clear hfz38_3
                      try clear hfz38_4
                      try clear hfz38_5
                      try clear hfz41_0
                      try clear hfz41_1
                      try clear hfz41_2
                      try clear hfz41_3
                      try clear hfz41_4
                      try clear hfz41_5
                      try clear hx22_0
                      try clear hx22_1
                      try clear hx22_2
                      try clear hx424_0
                      try clear hx424_1
                      try clear hx424_2
                      try clear hx424_3
                      try clear hx424_4
                      try clear hx424_5
                      try clear hx426_0
                      try clear hx426_1
                      try clear hx426_2
                      try clear hx427_0
                      try clear hx427_1
                      try clear hx427_2
                      try clear p2
                      try clear p22
                      try clear p424
                      try clear p426
                      try clear p427
                      try clear p6
                      try clear q1
                      try clear q11
                      try clear q22
                      try clear q424
                      try clear q426
                      try clear q427
                      obtain ⟨kq, x43_30, rfl, HA, HJ30, HO_5, BK415, BK425, HB⟩ := hcut
                      cases kq with
                      | zero => exact absurd HA.out (by simp [typing_counted.j1])
                      | succ kj30 =>
                        have H := HA.out
                        clear HA
                        simp only [typing_counted.j1] at H
                        by_cases c42 : x43_30 = true
                        · subst c42
                          have H1 : (if 0 ≤ x16_1 then (if x16_1 < (x5_1.length : Int) then (typing_counted.l0 kj30 l0 a1 (x5_1.set (x16_1 : Int).toNat (⟨1, (rd_T74 x5_1 x16_1).f1, (rd_T74 x5_1 x16_1).f2⟩ : S74)) y419 (y419.length : Int) (wrap64 (x16_1 + 1))) else (none)) else (none)) = some (r1, r2, r3) := by rw [if_pos rfl] at H; exact H
                          clear H
                          have H := H1
                          clear H1
                          by_cases c43 : 0 ≤ x16_1
                          · rw [if_pos c43] at H
                            have c43b0 : decide (0 ≤ x16_1) = true := decide_eq_true c43
                            clear c43
                            by_cases c44 : x16_1 < (x5_1.length : Int)
                            · rw [if_pos c44] at H
                              have c44b0 : decide (x16_1 < (x5_1.length : Int)) = true := decide_eq_true c44
                              clear c44
                              obtain ⟨y433, hy433⟩ : ∃ y_ : List (S74), y_ = (x5_1.set (x16_1 : Int).toNat (⟨1, (rd_T74 x5_1 x16_1).f1, (rd_T74 x5_1 x16_1).f2⟩ : S74)) := ⟨_, rfl⟩
                              replace H : (typing_counted.l0 kj30 l0 a1 y433 y419 (y419.length : Int) (wrap64 (x16_1 + 1))) = some (r1, r2, r3) := by first | (rw [hy433]; with_reducible exact H) | (have H2_ := (Option.bind_some _ _).symm.trans H; rw [hy433]; with_reducible exact H2_) | (have H2_ := (Option.bind_some _ _).symm.trans H; with_reducible exact H2_) | with_reducible exact H | (rw [hy433]; exact H) | exact H
                              have Ny433 := Aside0.mk hy433
                              clear hy433
                              have H' := Aside0.mk H
                              clear H
                              have p45 : 0 ≤ (x16_1 : Int) := of_decide_eq_true (by first | (with_reducible assumption) | assumption)
                              have q45 : (x16_1 : Int) < ((x5_1.length : Int) : Int) := of_decide_eq_true (by first | (with_reducible assumption) | assumption)
                              obtain ⟨go45, co45, eo45, gb45, gl45, cl45, HG45⟩ := Kd.R_form HO_5.out (by omega)
                              (first | cases eo45 | (injection eo45 with ea_ en_ ec_; (first | subst ea_ | (injection ea_ with ea_; subst ea_)); subst ec_; clear en_))
                              have GB45 := Aside0.mk gb45
                              have GG45 := Aside0.mk HG45
                              clear gb45 gl45 HG45
                              obtain ⟨ce45, hcl45, hM45, hcc45, hfr45⟩ := Kd.R_elem HO_5.out z74 (x16_1 : Int) p45 q45
                              obtain rfl := k74_openM hM45
                              have hx45_0 : wc.cell? ⟨go45, (x16_1 : Int).toNat * 3, none⟩ = some (.int .i64 ((rd_T74 x5_1 x16_1).f0)) := hcc45 0 _ rfl
                              have hx45_1 : wc.cell? ⟨go45, (x16_1 : Int).toNat * 3 + 1, none⟩ = some (.int .i64 ((rd_T74 x5_1 x16_1).f1)) := hcc45 1 _ rfl
                              have hx45_2 : wc.cell? ⟨go45, (x16_1 : Int).toNat * 3 + 2, none⟩ = some (.int .i64 ((rd_T74 x5_1 x16_1).f2)) := hcc45 2 _ rfl
                              have hf45_0 : wc.frozen? ⟨go45, (x16_1 : Int).toNat * 3, none⟩ = false := hfr45 0
                              have hf45_1 : wc.frozen? ⟨go45, (x16_1 : Int).toNat * 3 + 1, none⟩ = false := hfr45 1
                              have hf45_2 : wc.frozen? ⟨go45, (x16_1 : Int).toNat * 3 + 2, none⟩ = false := hfr45 2
                              clear hcl45 hcc45 hfr45 hM45
                              replace p45 := eq_true p45
                              replace q45 := eq_true q45
                              have HX46 := Aside0.mk (show Kd.R k74 74 wc w.heap.size (fun k_ => k_ ≠ gb415) (.slice (some ⟨go45, 0, none⟩) x5_1.length co45) x5_1 from (by (with_reducible repeat (first | apply Kd.R_alloc | apply Kd.R_drewN | apply Kd.R_drew)); exact HO_5.out))
                              obtain ⟨ce46, hcl46, hM46, hcc46, hfr46⟩ := Kd.R_elem HX46.out z74 (x16_1 : Int) (of_decide_eq_true (by first | (with_reducible assumption) | assumption)) (by have h_ : (x16_1 : Int) < ((x5_1.length : Int) : Int) := of_decide_eq_true (by first | (with_reducible assumption) | assumption); first | exact h_ | (have e_ := (Kd.R_reads' HO_5.out).1; omega) | simpa using h_)
                              obtain rfl := k74_openM hM46
                              have HP46 := Kd.R_seg HX46.out (x16_1 : Int) (of_decide_eq_true (by first | (with_reducible assumption) | assumption)) (by have h_ : (x16_1 : Int) < ((x5_1.length : Int) : Int) := of_decide_eq_true (by first | (with_reducible assumption) | assumption); first | exact h_ | (have e_ := (Kd.R_reads' HO_5.out).1; omega) | simpa using h_) (seg := [.int .i64 1]) (j := 0) hcl46 hcc46 (show 1 ≤ 3 from by decide) (x' := (⟨1, (rd_T74 x5_1 x16_1).f1, (rd_T74 x5_1 x16_1).f2⟩ : S74)) (k74_mkM _ _ _ (⟨1, (rd_T74 x5_1 x16_1).f1, (rd_T74 x5_1 x16_1).f2⟩ : S74) ) (fun _ hk => hk)
                              have hx46_0 := hcc46 0 _ rfl
                              (try simp only [show (k74).sz = 3 from rfl, Nat.mul_one, Nat.add_zero] at hx46_0)
                              have hf46_0 := hfr46 0
                              (try simp only [show (k74).sz = 3 from rfl, Nat.mul_one, Nat.add_zero] at hf46_0)
                              clear hcl46 hcc46 hfr46 hM46
                              go_wp2_with (first | ((with_reducible refine gate_store (t := 3) (p := 55) rfl ?_); refine store_event (t := 3) (p := 55) (v := ?vo_w47) (w1 := (wc.setCell ⟨go45, (x16_1 : Int).toNat * 3, none⟩ (.int .i64 1))) ?hg ?ho ?hn ?hr ?_; (case ho => rfl); (case hg => rfl); (case hn => rfl); (case hr => first | (go_simp; done) | (go_simp; rfl)); intro w47 hw; have hg : wc.grownBy w47 (some go45) := (by rw [hw]; exact HP46.2); have hp_ : Kd.R k74 74 w47 w.heap.size (fun k_ => k_ ≠ gb415) (.slice (some ⟨go45, 0, none⟩) x5_1.length co45) y433 := (by rw [hw, Ny433.out]; exact HP46.1); clear HP46; have n0_ := Aside0.mk (hp_); have n1_ := Aside0.mk (blk_grown (g := gb415) (o := .cells #[.int .i64 x416000_1, .int .i64 x416001_1, .int .i64 x416002_1] 74 (0, 0)) (by (with_reducible repeat (first | refine blk_drewN ?_ _ | refine blk_drew ?_ | refine blk_alloc ?_ _)); exact BK415.out) hg (Kd.R_away HO_5.out (fun _ hk => hk))); have n2_ := Aside0.mk (blk_grown (g := gb425) (o := .cells #[.int .i64 ((rd_T37 y419 x16_1).f0), .int .i64 ((rd_T37 y419 x16_1).f1), .int .i64 ((rd_T37 y419 x16_1).f2), .int .i64 ((rd_T37 y419 x16_1).f3), .int .i64 ((rd_T37 y419 x16_1).f4), .string ((rd_T37 y419 x16_1).f5)] 37 (0, 0)) (by (with_reducible repeat (first | refine blk_drewN ?_ _ | refine blk_drew ?_ | refine blk_alloc ?_ _)); exact BK425.out) hg (Kd.R_ne HO_5.out BK425.out (by decide))); have n3_ := Aside0.mk ((by rw [hw]; exact below_set (HB.out) GB45.out : Below w.heap.size w w47)); clear HO_5; clear BK415; clear BK425; clear HB; have HO_5 := n0_; have BK415 := n1_; have BK425 := n2_; have HB := n3_; clear n0_ n1_ n2_ n3_; clear hg hw hp_))
                              go_roundg kj30
                              case measure => have := HK1.out; have := HJ30.out; omega
                              case rel => exact ⟨(y433), (wrap64 (x16_1 + 1)), (x416000_1), (x416001_1), (x416002_1), (by first | rfl | (simp; done) | (simp [*]; done)), H', ⟨by have := HK1.out; have := HJ30.out; omega⟩, ⟨by (with_reducible repeat (first | apply Kd.R_alloc | apply Kd.R_drewN | apply Kd.R_drew)); exact HO_5.out⟩, ⟨by (with_reducible repeat (first | refine blk_drewN ?_ _ | refine blk_drew ?_ | refine blk_alloc ?_ _)); exact BK415.out⟩, ⟨by repeat (first | (with_reducible first | exact HB.out | apply below_alloc | apply pw_below_drewN | apply below_drew1 | refine below_set ?_ GE415.out | refine below_set ?_ GE425.out) | exact HB.out)⟩⟩
                            · rw [if_neg c44] at H
                              exact absurd H (by simp)
                          · rw [if_neg c43] at H
                            exact absurd H (by simp)
                        · replace c42 := Bool.eq_false_iff.mpr c42
                          subst c42
                          have H1 : (if ((rd_T37 y419 x16_1).f0) = 4 then ((typing_against.f l0 ((rd_T37 y419 x16_1).f0) ((rd_T37 y419 x16_1).f1) ((rd_T37 y419 x16_1).f2) ((rd_T37 y419 x16_1).f3) ((rd_T37 y419 x16_1).f4) ((rd_T37 y419 x16_1).f5) 3 19).bind fun t434 => (if t434 = true then (if 0 ≤ x16_1 then (if x16_1 < (x5_1.length : Int) then (typing_counted.l0 kj30 l0 a1 (x5_1.set (x16_1 : Int).toNat (⟨(rd_T74 x5_1 x16_1).f0, 1, (rd_T74 x5_1 x16_1).f2⟩ : S74)) y419 (y419.length : Int) (wrap64 (x16_1 + 1))) else (none)) else (none)) else (if 0 ≤ x16_1 then (if x16_1 < (x5_1.length : Int) then (typing_counted.l0 kj30 l0 a1 (x5_1.set (x16_1 : Int).toNat (⟨(rd_T74 x5_1 x16_1).f0, (rd_T74 x5_1 x16_1).f1, 1⟩ : S74)) y419 (y419.length : Int) (wrap64 (x16_1 + 1))) else (none)) else (none)))) else (if ((rd_T37 y419 x16_1).f0) ≥ 6 then (if ((rd_T37 y419 x16_1).f0) ≤ 9 then ((typing_against.f l0 ((rd_T37 y419 x16_1).f0) ((rd_T37 y419 x16_1).f1) ((rd_T37 y419 x16_1).f2) ((rd_T37 y419 x16_1).f3) ((rd_T37 y419 x16_1).f4) ((rd_T37 y419 x16_1).f5) 3 19).bind fun t437 => (if t437 = true then (if 0 ≤ x16_1 then (if x16_1 < (x5_1.length : Int) then (typing_counted.l0 kj30 l0 a1 (x5_1.set (x16_1 : Int).toNat (⟨(rd_T74 x5_1 x16_1).f0, 1, (rd_T74 x5_1 x16_1).f2⟩ : S74)) y419 (y419.length : Int) (wrap64 (x16_1 + 1))) else (none)) else (none)) else (if 0 ≤ x16_1 then (if x16_1 < (x5_1.length : Int) then (typing_counted.l0 kj30 l0 a1 (x5_1.set (x16_1 : Int).toNat (⟨(rd_T74 x5_1 x16_1).f0, (rd_T74 x5_1 x16_1).f1, 1⟩ : S74)) y419 (y419.length : Int) (wrap64 (x16_1 + 1))) else (none)) else (none)))) else (if 0 ≤ x16_1 then (if x16_1 < (x5_1.length : Int) then (typing_counted.l0 kj30 l0 a1 (x5_1.set (x16_1 : Int).toNat (⟨(rd_T74 x5_1 x16_1).f0, (rd_T74 x5_1 x16_1).f1, 1⟩ : S74)) y419 (y419.length : Int) (wrap64 (x16_1 + 1))) else (none)) else (none))) else (if 0 ≤ x16_1 then (if x16_1 < (x5_1.length : Int) then (typing_counted.l0 kj30 l0 a1 (x5_1.set (x16_1 : Int).toNat (⟨(rd_T74 x5_1 x16_1).f0, (rd_T74 x5_1 x16_1).f1, 1⟩ : S74)) y419 (y419.length : Int) (wrap64 (x16_1 + 1))) else (none)) else (none)))) = some (r1, r2, r3) := by rw [if_neg (show ¬ (false = true) by decide)] at H; exact H
                          clear H
                          have H := H1
                          clear H1
                          by_cases c48 : ((rd_T37 y419 x16_1).f0) = 4
                          · rw [if_pos c48] at H
                            have c48b0 : (((rd_T37 y419 x16_1).f0) == 4) = true := beq_iff_eq.mpr c48
                            have c48b1 : (((rd_T37 y419 x16_1).f0) != 4) = false := bne_eq_false_iff_eq.mpr c48
                            clear c48
                            replace H := Option.bind_eq_some_iff.mp H
                            obtain ⟨t434, A490, H⟩ := H
                            replace H : (if t434 = true then (if 0 ≤ x16_1 then (if x16_1 < (x5_1.length : Int) then (typing_counted.l0 kj30 l0 a1 (x5_1.set (x16_1 : Int).toNat (⟨(rd_T74 x5_1 x16_1).f0, 1, (rd_T74 x5_1 x16_1).f2⟩ : S74)) y419 (y419.length : Int) (wrap64 (x16_1 + 1))) else (none)) else (none)) else (if 0 ≤ x16_1 then (if x16_1 < (x5_1.length : Int) then (typing_counted.l0 kj30 l0 a1 (x5_1.set (x16_1 : Int).toNat (⟨(rd_T74 x5_1 x16_1).f0, (rd_T74 x5_1 x16_1).f1, 1⟩ : S74)) y419 (y419.length : Int) (wrap64 (x16_1 + 1))) else (none)) else (none))) = some (r1, r2, r3) := H
                            have A49 := Aside0.mk A490
                            clear A490
                            by_cases c50 : t434 = true
                            · subst c50
                              have H1 : (if 0 ≤ x16_1 then (if x16_1 < (x5_1.length : Int) then (typing_counted.l0 kj30 l0 a1 (x5_1.set (x16_1 : Int).toNat (⟨(rd_T74 x5_1 x16_1).f0, 1, (rd_T74 x5_1 x16_1).f2⟩ : S74)) y419 (y419.length : Int) (wrap64 (x16_1 + 1))) else (none)) else (none)) = some (r1, r2, r3) := by rw [if_pos rfl] at H; exact H
                              clear H
                              have H := H1
                              clear H1
                              by_cases c51 : 0 ≤ x16_1
                              · rw [if_pos c51] at H
                                have c51b0 : decide (0 ≤ x16_1) = true := decide_eq_true c51
                                clear c51
                                by_cases c52 : x16_1 < (x5_1.length : Int)
                                · rw [if_pos c52] at H
                                  have c52b0 : decide (x16_1 < (x5_1.length : Int)) = true := decide_eq_true c52
                                  clear c52
                                  obtain ⟨y435, hy435⟩ : ∃ y_ : List (S74), y_ = (x5_1.set (x16_1 : Int).toNat (⟨(rd_T74 x5_1 x16_1).f0, 1, (rd_T74 x5_1 x16_1).f2⟩ : S74)) := ⟨_, rfl⟩
                                  replace H : (typing_counted.l0 kj30 l0 a1 y435 y419 (y419.length : Int) (wrap64 (x16_1 + 1))) = some (r1, r2, r3) := by first | (rw [hy435]; with_reducible exact H) | (have H2_ := (Option.bind_some _ _).symm.trans H; rw [hy435]; with_reducible exact H2_) | (have H2_ := (Option.bind_some _ _).symm.trans H; with_reducible exact H2_) | with_reducible exact H | (rw [hy435]; exact H) | exact H
                                  have Ny435 := Aside0.mk hy435
                                  clear hy435
                                  have H' := Aside0.mk H
                                  clear H
                                  have hnb54 := NB425_415.out
                                  have hnc54 := NB415_425.out
                                  have hcz55_0 : wc.cell? ⟨gb425, 0, none⟩ = some (.int .i64 ((rd_T37 y419 x16_1).f0)) := (blk_cell BK425.out 0).trans rfl
                                  have hcz55_1 : wc.cell? ⟨gb425, 1, none⟩ = some (.int .i64 ((rd_T37 y419 x16_1).f1)) := (blk_cell BK425.out 1).trans rfl
                                  have hcz55_2 : wc.cell? ⟨gb425, 2, none⟩ = some (.int .i64 ((rd_T37 y419 x16_1).f2)) := (blk_cell BK425.out 2).trans rfl
                                  have hcz55_3 : wc.cell? ⟨gb425, 3, none⟩ = some (.int .i64 ((rd_T37 y419 x16_1).f3)) := (blk_cell BK425.out 3).trans rfl
                                  have hcz55_4 : wc.cell? ⟨gb425, 4, none⟩ = some (.int .i64 ((rd_T37 y419 x16_1).f4)) := (blk_cell BK425.out 4).trans rfl
                                  have hcz55_5 : wc.cell? ⟨gb425, 5, none⟩ = some (.string ((rd_T37 y419 x16_1).f5)) := (blk_cell BK425.out 5).trans rfl
                                  have hfz55_0 := blk_frozen BK425.out 0
                                  have hfz55_1 := blk_frozen BK425.out 1
                                  have hfz55_2 := blk_frozen BK425.out 2
                                  have hfz55_3 := blk_frozen BK425.out 3
                                  have hfz55_4 := blk_frozen BK425.out 4
                                  have hfz55_5 := blk_frozen BK425.out 5
                                  go_wp2_with (first | (go_at_call 32; (with_reducible refine (typing_against.calls _ _ l0 ((rd_T37 y419 x16_1).f0) ((rd_T37 y419 x16_1).f1) ((rd_T37 y419 x16_1).f2) ((rd_T37 y419 x16_1).f3) ((rd_T37 y419 x16_1).f4) ((rd_T37 y419 x16_1).f5) 3 19 true _ ?side1 ?side2 A49.out).mono ?_); (case side1 => repeat (first | exact (Kd.C_below HR0.out HB.out) | (with_reducible refine Kd.C_alloc ?_ _) | (with_reducible refine Kd.C_drewN ?_ _) | (with_reducible refine Kd.C_drew ?_))); (case side2 => exact HC0.out); rintro e w56 ⟨rfl, hb⟩; have n0_ := Aside0.mk (Kd.R_below (by (with_reducible repeat (first | apply Kd.R_alloc | apply Kd.R_drewN | apply Kd.R_drew)); exact HO_5.out) hb); have n1_ := Aside0.mk (blk_below (g := gb415) (o := .cells #[.int .i64 x416000_1, .int .i64 x416001_1, .int .i64 x416002_1] 74 (0, 0)) (by (with_reducible repeat (first | refine blk_drewN ?_ _ | refine blk_drew ?_ | refine blk_alloc ?_ _)); exact BK415.out) hb); have n2_ := Aside0.mk (blk_below (g := gb425) (o := .cells #[.int .i64 ((rd_T37 y419 x16_1).f0), .int .i64 ((rd_T37 y419 x16_1).f1), .int .i64 ((rd_T37 y419 x16_1).f2), .int .i64 ((rd_T37 y419 x16_1).f3), .int .i64 ((rd_T37 y419 x16_1).f4), .string ((rd_T37 y419 x16_1).f5)] 37 (0, 0)) (by (with_reducible repeat (first | refine blk_drewN ?_ _ | refine blk_drew ?_ | refine blk_alloc ?_ _)); exact BK425.out) hb); have n3_ := Aside0.mk (below_step (by repeat (first | (with_reducible first | exact HB.out | apply below_alloc | apply pw_below_drewN | apply below_drew1 | refine below_set ?_ GE415.out | refine below_set ?_ GE425.out) | exact HB.out)) hb); clear HO_5; clear BK415; clear BK425; clear HB; have HO_5 := n0_; have BK415 := n1_; have BK425 := n2_; have HB := n3_; clear n0_ n1_ n2_ n3_; (try clear hb); (try clear hb2); (try clear hk); (try clear hi); have p53 : 0 ≤ (x16_1 : Int) := of_decide_eq_true (by first | (with_reducible assumption) | assumption); have q53 : (x16_1 : Int) < ((x5_1.length : Int) : Int) := of_decide_eq_true (by first | (with_reducible assumption) | assumption); obtain ⟨go53, co53, eo53, gb53, gl53, cl53, HG53⟩ := Kd.R_form HO_5.out (by omega); (first | cases eo53 | (injection eo53 with ea_ en_ ec_; (first | subst ea_ | (injection ea_ with ea_; subst ea_)); subst ec_; clear en_)); have GB53 := Aside0.mk gb53; have GG53 := Aside0.mk HG53; clear gb53 gl53 HG53; obtain ⟨ce53, hcl53, hM53, hcc53, hfr53⟩ := Kd.R_elem HO_5.out z74 (x16_1 : Int) p53 q53; obtain rfl := k74_openM hM53; have hx53_0 : w56.cell? ⟨go53, (x16_1 : Int).toNat * 3, none⟩ = some (.int .i64 ((rd_T74 x5_1 x16_1).f0)) := hcc53 0 _ rfl; have hx53_1 : w56.cell? ⟨go53, (x16_1 : Int).toNat * 3 + 1, none⟩ = some (.int .i64 ((rd_T74 x5_1 x16_1).f1)) := hcc53 1 _ rfl; have hx53_2 : w56.cell? ⟨go53, (x16_1 : Int).toNat * 3 + 2, none⟩ = some (.int .i64 ((rd_T74 x5_1 x16_1).f2)) := hcc53 2 _ rfl; have hf53_0 : w56.frozen? ⟨go53, (x16_1 : Int).toNat * 3, none⟩ = false := hfr53 0; have hf53_1 : w56.frozen? ⟨go53, (x16_1 : Int).toNat * 3 + 1, none⟩ = false := hfr53 1; have hf53_2 : w56.frozen? ⟨go53, (x16_1 : Int).toNat * 3 + 2, none⟩ = false := hfr53 2; clear hcl53 hcc53 hfr53 hM53; replace p53 := eq_true p53; replace q53 := eq_true q53; have HX57 := Aside0.mk (show Kd.R k74 74 w56 w.heap.size (fun k_ => k_ ≠ gb415) (.slice (some ⟨go53, 0, none⟩) x5_1.length co53) x5_1 from (by (with_reducible repeat (first | apply Kd.R_alloc | apply Kd.R_drewN | apply Kd.R_drew)); exact HO_5.out)); obtain ⟨ce57, hcl57, hM57, hcc57, hfr57⟩ := Kd.R_elem HX57.out z74 (x16_1 : Int) (of_decide_eq_true (by first | (with_reducible assumption) | assumption)) (by have h_ : (x16_1 : Int) < ((x5_1.length : Int) : Int) := of_decide_eq_true (by first | (with_reducible assumption) | assumption); first | exact h_ | (have e_ := (Kd.R_reads' HO_5.out).1; omega) | simpa using h_); obtain rfl := k74_openM hM57; have HP57 := Kd.R_seg HX57.out (x16_1 : Int) (of_decide_eq_true (by first | (with_reducible assumption) | assumption)) (by have h_ : (x16_1 : Int) < ((x5_1.length : Int) : Int) := of_decide_eq_true (by first | (with_reducible assumption) | assumption); first | exact h_ | (have e_ := (Kd.R_reads' HO_5.out).1; omega) | simpa using h_) (seg := [.int .i64 1]) (j := 1) hcl57 hcc57 (show 2 ≤ 3 from by decide) (x' := (⟨(rd_T74 x5_1 x16_1).f0, 1, (rd_T74 x5_1 x16_1).f2⟩ : S74)) (k74_mkM _ _ _ (⟨(rd_T74 x5_1 x16_1).f0, 1, (rd_T74 x5_1 x16_1).f2⟩ : S74) ) (fun _ hk => hk); have hx57_1 := hcc57 1 _ rfl; (try simp only [show (k74).sz = 3 from rfl, Nat.mul_one, Nat.add_zero] at hx57_1); have hf57_1 := hfr57 1; (try simp only [show (k74).sz = 3 from rfl, Nat.mul_one, Nat.add_zero] at hf57_1); clear hcl57 hcc57 hfr57 hM57) | ((with_reducible refine gate_store (t := 3) (p := 78) rfl ?_); refine store_event (t := 3) (p := 78) (v := ?vo_w58) (w1 := (w56.setCell ⟨go53, (x16_1 : Int).toNat * 3 + 1, none⟩ (.int .i64 1))) ?hg ?ho ?hn ?hr ?_; (case ho => rfl); (case hg => rfl); (case hn => rfl); (case hr => first | (go_simp; done) | (go_simp; rfl)); intro w58 hw; have hg : w56.grownBy w58 (some go53) := (by rw [hw]; exact HP57.2); have hp_ : Kd.R k74 74 w58 w.heap.size (fun k_ => k_ ≠ gb415) (.slice (some ⟨go53, 0, none⟩) x5_1.length co53) y435 := (by rw [hw, Ny435.out]; exact HP57.1); clear HP57; have n0_ := Aside0.mk (hp_); have n1_ := Aside0.mk (blk_grown (g := gb415) (o := .cells #[.int .i64 x416000_1, .int .i64 x416001_1, .int .i64 x416002_1] 74 (0, 0)) (by (with_reducible repeat (first | refine blk_drewN ?_ _ | refine blk_drew ?_ | refine blk_alloc ?_ _)); exact BK415.out) hg (Kd.R_away HO_5.out (fun _ hk => hk))); have n2_ := Aside0.mk (blk_grown (g := gb425) (o := .cells #[.int .i64 ((rd_T37 y419 x16_1).f0), .int .i64 ((rd_T37 y419 x16_1).f1), .int .i64 ((rd_T37 y419 x16_1).f2), .int .i64 ((rd_T37 y419 x16_1).f3), .int .i64 ((rd_T37 y419 x16_1).f4), .string ((rd_T37 y419 x16_1).f5)] 37 (0, 0)) (by (with_reducible repeat (first | refine blk_drewN ?_ _ | refine blk_drew ?_ | refine blk_alloc ?_ _)); exact BK425.out) hg (Kd.R_ne HO_5.out BK425.out (by decide))); have n3_ := Aside0.mk ((by rw [hw]; exact below_set (HB.out) GB53.out : Below w.heap.size w w58)); clear HO_5; clear BK415; clear BK425; clear HB; have HO_5 := n0_; have BK415 := n1_; have BK425 := n2_; have HB := n3_; clear n0_ n1_ n2_ n3_; clear hg hw hp_))
                                  go_roundg kj30
                                  case measure => have := HK1.out; have := HJ30.out; omega
                                  case rel => exact ⟨(y435), (wrap64 (x16_1 + 1)), (x416000_1), (x416001_1), (x416002_1), (by first | rfl | (simp; done) | (simp [*]; done)), H', ⟨by have := HK1.out; have := HJ30.out; omega⟩, ⟨by (with_reducible repeat (first | apply Kd.R_alloc | apply Kd.R_drewN | apply Kd.R_drew)); exact HO_5.out⟩, ⟨by (with_reducible repeat (first | refine blk_drewN ?_ _ | refine blk_drew ?_ | refine blk_alloc ?_ _)); exact BK415.out⟩, ⟨by repeat (first | (with_reducible first | exact HB.out | apply below_alloc | apply pw_below_drewN | apply below_drew1 | refine below_set ?_ GE415.out | refine below_set ?_ GE425.out) | exact HB.out)⟩⟩
                                · rw [if_neg c52] at H
                                  exact absurd H (by simp)
                              · rw [if_neg c51] at H
                                exact absurd H (by simp)
                            · replace c50 := Bool.eq_false_iff.mpr c50
                              subst c50
                              have H1 : (if 0 ≤ x16_1 then (if x16_1 < (x5_1.length : Int) then (typing_counted.l0 kj30 l0 a1 (x5_1.set (x16_1 : Int).toNat (⟨(rd_T74 x5_1 x16_1).f0, (rd_T74 x5_1 x16_1).f1, 1⟩ : S74)) y419 (y419.length : Int) (wrap64 (x16_1 + 1))) else (none)) else (none)) = some (r1, r2, r3) := by rw [if_neg (show ¬ (false = true) by decide)] at H; exact H
                              clear H
                              have H := H1
                              clear H1
                              by_cases c59 : 0 ≤ x16_1
                              · rw [if_pos c59] at H
                                have c59b0 : decide (0 ≤ x16_1) = true := decide_eq_true c59
                                clear c59
                                by_cases c60 : x16_1 < (x5_1.length : Int)
                                · rw [if_pos c60] at H
                                  have c60b0 : decide (x16_1 < (x5_1.length : Int)) = true := decide_eq_true c60
                                  clear c60
                                  obtain ⟨y436, hy436⟩ : ∃ y_ : List (S74), y_ = (x5_1.set (x16_1 : Int).toNat (⟨(rd_T74 x5_1 x16_1).f0, (rd_T74 x5_1 x16_1).f1, 1⟩ : S74)) := ⟨_, rfl⟩
                                  replace H : (typing_counted.l0 kj30 l0 a1 y436 y419 (y419.length : Int) (wrap64 (x16_1 + 1))) = some (r1, r2, r3) := by first | (rw [hy436]; with_reducible exact H) | (have H2_ := (Option.bind_some _ _).symm.trans H; rw [hy436]; with_reducible exact H2_) | (have H2_ := (Option.bind_some _ _).symm.trans H; with_reducible exact H2_) | with_reducible exact H | (rw [hy436]; exact H) | exact H
                                  have Ny436 := Aside0.mk hy436
                                  clear hy436
                                  have H' := Aside0.mk H
                                  clear H
                                  have hnb62 := NB425_415.out
                                  have hnc62 := NB415_425.out
                                  have hcz63_0 : wc.cell? ⟨gb425, 0, none⟩ = some (.int .i64 ((rd_T37 y419 x16_1).f0)) := (blk_cell BK425.out 0).trans rfl
                                  have hcz63_1 : wc.cell? ⟨gb425, 1, none⟩ = some (.int .i64 ((rd_T37 y419 x16_1).f1)) := (blk_cell BK425.out 1).trans rfl
                                  have hcz63_2 : wc.cell? ⟨gb425, 2, none⟩ = some (.int .i64 ((rd_T37 y419 x16_1).f2)) := (blk_cell BK425.out 2).trans rfl
                                  have hcz63_3 : wc.cell? ⟨gb425, 3, none⟩ = some (.int .i64 ((rd_T37 y419 x16_1).f3)) := (blk_cell BK425.out 3).trans rfl
                                  have hcz63_4 : wc.cell? ⟨gb425, 4, none⟩ = some (.int .i64 ((rd_T37 y419 x16_1).f4)) := (blk_cell BK425.out 4).trans rfl
                                  have hcz63_5 : wc.cell? ⟨gb425, 5, none⟩ = some (.string ((rd_T37 y419 x16_1).f5)) := (blk_cell BK425.out 5).trans rfl
                                  have hfz63_0 := blk_frozen BK425.out 0
                                  have hfz63_1 := blk_frozen BK425.out 1
                                  have hfz63_2 := blk_frozen BK425.out 2
                                  have hfz63_3 := blk_frozen BK425.out 3
                                  have hfz63_4 := blk_frozen BK425.out 4
                                  have hfz63_5 := blk_frozen BK425.out 5
                                  go_wp2_with (first | (go_at_call 32; (with_reducible refine (typing_against.calls _ _ l0 ((rd_T37 y419 x16_1).f0) ((rd_T37 y419 x16_1).f1) ((rd_T37 y419 x16_1).f2) ((rd_T37 y419 x16_1).f3) ((rd_T37 y419 x16_1).f4) ((rd_T37 y419 x16_1).f5) 3 19 false _ ?side1 ?side2 A49.out).mono ?_); (case side1 => repeat (first | exact (Kd.C_below HR0.out HB.out) | (with_reducible refine Kd.C_alloc ?_ _) | (with_reducible refine Kd.C_drewN ?_ _) | (with_reducible refine Kd.C_drew ?_))); (case side2 => exact HC0.out); rintro e w64 ⟨rfl, hb⟩; have n0_ := Aside0.mk (Kd.R_below (by (with_reducible repeat (first | apply Kd.R_alloc | apply Kd.R_drewN | apply Kd.R_drew)); exact HO_5.out) hb); have n1_ := Aside0.mk (blk_below (g := gb415) (o := .cells #[.int .i64 x416000_1, .int .i64 x416001_1, .int .i64 x416002_1] 74 (0, 0)) (by (with_reducible repeat (first | refine blk_drewN ?_ _ | refine blk_drew ?_ | refine blk_alloc ?_ _)); exact BK415.out) hb); have n2_ := Aside0.mk (blk_below (g := gb425) (o := .cells #[.int .i64 ((rd_T37 y419 x16_1).f0), .int .i64 ((rd_T37 y419 x16_1).f1), .int .i64 ((rd_T37 y419 x16_1).f2), .int .i64 ((rd_T37 y419 x16_1).f3), .int .i64 ((rd_T37 y419 x16_1).f4), .string ((rd_T37 y419 x16_1).f5)] 37 (0, 0)) (by (with_reducible repeat (first | refine blk_drewN ?_ _ | refine blk_drew ?_ | refine blk_alloc ?_ _)); exact BK425.out) hb); have n3_ := Aside0.mk (below_step (by repeat (first | (with_reducible first | exact HB.out | apply below_alloc | apply pw_below_drewN | apply below_drew1 | refine below_set ?_ GE415.out | refine below_set ?_ GE425.out) | exact HB.out)) hb); clear HO_5; clear BK415; clear BK425; clear HB; have HO_5 := n0_; have BK415 := n1_; have BK425 := n2_; have HB := n3_; clear n0_ n1_ n2_ n3_; (try clear hb); (try clear hb2); (try clear hk); (try clear hi); have p61 : 0 ≤ (x16_1 : Int) := of_decide_eq_true (by first | (with_reducible assumption) | assumption); have q61 : (x16_1 : Int) < ((x5_1.length : Int) : Int) := of_decide_eq_true (by first | (with_reducible assumption) | assumption); obtain ⟨go61, co61, eo61, gb61, gl61, cl61, HG61⟩ := Kd.R_form HO_5.out (by omega); (first | cases eo61 | (injection eo61 with ea_ en_ ec_; (first | subst ea_ | (injection ea_ with ea_; subst ea_)); subst ec_; clear en_)); have GB61 := Aside0.mk gb61; have GG61 := Aside0.mk HG61; clear gb61 gl61 HG61; obtain ⟨ce61, hcl61, hM61, hcc61, hfr61⟩ := Kd.R_elem HO_5.out z74 (x16_1 : Int) p61 q61; obtain rfl := k74_openM hM61; have hx61_0 : w64.cell? ⟨go61, (x16_1 : Int).toNat * 3, none⟩ = some (.int .i64 ((rd_T74 x5_1 x16_1).f0)) := hcc61 0 _ rfl; have hx61_1 : w64.cell? ⟨go61, (x16_1 : Int).toNat * 3 + 1, none⟩ = some (.int .i64 ((rd_T74 x5_1 x16_1).f1)) := hcc61 1 _ rfl; have hx61_2 : w64.cell? ⟨go61, (x16_1 : Int).toNat * 3 + 2, none⟩ = some (.int .i64 ((rd_T74 x5_1 x16_1).f2)) := hcc61 2 _ rfl; have hf61_0 : w64.frozen? ⟨go61, (x16_1 : Int).toNat * 3, none⟩ = false := hfr61 0; have hf61_1 : w64.frozen? ⟨go61, (x16_1 : Int).toNat * 3 + 1, none⟩ = false := hfr61 1; have hf61_2 : w64.frozen? ⟨go61, (x16_1 : Int).toNat * 3 + 2, none⟩ = false := hfr61 2; clear hcl61 hcc61 hfr61 hM61; replace p61 := eq_true p61; replace q61 := eq_true q61; have HX65 := Aside0.mk (show Kd.R k74 74 w64 w.heap.size (fun k_ => k_ ≠ gb415) (.slice (some ⟨go61, 0, none⟩) x5_1.length co61) x5_1 from (by (with_reducible repeat (first | apply Kd.R_alloc | apply Kd.R_drewN | apply Kd.R_drew)); exact HO_5.out)); obtain ⟨ce65, hcl65, hM65, hcc65, hfr65⟩ := Kd.R_elem HX65.out z74 (x16_1 : Int) (of_decide_eq_true (by first | (with_reducible assumption) | assumption)) (by have h_ : (x16_1 : Int) < ((x5_1.length : Int) : Int) := of_decide_eq_true (by first | (with_reducible assumption) | assumption); first | exact h_ | (have e_ := (Kd.R_reads' HO_5.out).1; omega) | simpa using h_); obtain rfl := k74_openM hM65; have HP65 := Kd.R_seg HX65.out (x16_1 : Int) (of_decide_eq_true (by first | (with_reducible assumption) | assumption)) (by have h_ : (x16_1 : Int) < ((x5_1.length : Int) : Int) := of_decide_eq_true (by first | (with_reducible assumption) | assumption); first | exact h_ | (have e_ := (Kd.R_reads' HO_5.out).1; omega) | simpa using h_) (seg := [.int .i64 1]) (j := 2) hcl65 hcc65 (show 3 ≤ 3 from by decide) (x' := (⟨(rd_T74 x5_1 x16_1).f0, (rd_T74 x5_1 x16_1).f1, 1⟩ : S74)) (k74_mkM _ _ _ (⟨(rd_T74 x5_1 x16_1).f0, (rd_T74 x5_1 x16_1).f1, 1⟩ : S74) ) (fun _ hk => hk); have hx65_2 := hcc65 2 _ rfl; (try simp only [show (k74).sz = 3 from rfl, Nat.mul_one, Nat.add_zero] at hx65_2); have hf65_2 := hfr65 2; (try simp only [show (k74).sz = 3 from rfl, Nat.mul_one, Nat.add_zero] at hf65_2); clear hcl65 hcc65 hfr65 hM65) | ((with_reducible refine gate_store (t := 3) (p := 24) rfl ?_); refine store_event (t := 3) (p := 24) (v := ?vo_w66) (w1 := (w64.setCell ⟨go61, (x16_1 : Int).toNat * 3 + 2, none⟩ (.int .i64 1))) ?hg ?ho ?hn ?hr ?_; (case ho => rfl); (case hg => rfl); (case hn => rfl); (case hr => first | (go_simp; done) | (go_simp; rfl)); intro w66 hw; have hg : w64.grownBy w66 (some go61) := (by rw [hw]; exact HP65.2); have hp_ : Kd.R k74 74 w66 w.heap.size (fun k_ => k_ ≠ gb415) (.slice (some ⟨go61, 0, none⟩) x5_1.length co61) y436 := (by rw [hw, Ny436.out]; exact HP65.1); clear HP65; have n0_ := Aside0.mk (hp_); have n1_ := Aside0.mk (blk_grown (g := gb415) (o := .cells #[.int .i64 x416000_1, .int .i64 x416001_1, .int .i64 x416002_1] 74 (0, 0)) (by (with_reducible repeat (first | refine blk_drewN ?_ _ | refine blk_drew ?_ | refine blk_alloc ?_ _)); exact BK415.out) hg (Kd.R_away HO_5.out (fun _ hk => hk))); have n2_ := Aside0.mk (blk_grown (g := gb425) (o := .cells #[.int .i64 ((rd_T37 y419 x16_1).f0), .int .i64 ((rd_T37 y419 x16_1).f1), .int .i64 ((rd_T37 y419 x16_1).f2), .int .i64 ((rd_T37 y419 x16_1).f3), .int .i64 ((rd_T37 y419 x16_1).f4), .string ((rd_T37 y419 x16_1).f5)] 37 (0, 0)) (by (with_reducible repeat (first | refine blk_drewN ?_ _ | refine blk_drew ?_ | refine blk_alloc ?_ _)); exact BK425.out) hg (Kd.R_ne HO_5.out BK425.out (by decide))); have n3_ := Aside0.mk ((by rw [hw]; exact below_set (HB.out) GB61.out : Below w.heap.size w w66)); clear HO_5; clear BK415; clear BK425; clear HB; have HO_5 := n0_; have BK415 := n1_; have BK425 := n2_; have HB := n3_; clear n0_ n1_ n2_ n3_; clear hg hw hp_))
                                  go_roundg kj30
                                  case measure => have := HK1.out; have := HJ30.out; omega
                                  case rel => exact ⟨(y436), (wrap64 (x16_1 + 1)), (x416000_1), (x416001_1), (x416002_1), (by first | rfl | (simp; done) | (simp [*]; done)), H', ⟨by have := HK1.out; have := HJ30.out; omega⟩, ⟨by (with_reducible repeat (first | apply Kd.R_alloc | apply Kd.R_drewN | apply Kd.R_drew)); exact HO_5.out⟩, ⟨by (with_reducible repeat (first | refine blk_drewN ?_ _ | refine blk_drew ?_ | refine blk_alloc ?_ _)); exact BK415.out⟩, ⟨by repeat (first | (with_reducible first | exact HB.out | apply below_alloc | apply pw_below_drewN | apply below_drew1 | refine below_set ?_ GE415.out | refine below_set ?_ GE425.out) | exact HB.out)⟩⟩
                                · rw [if_neg c60] at H
                                  exact absurd H (by simp)
                              · rw [if_neg c59] at H
                                exact absurd H (by simp)
                          · rw [if_neg c48] at H
                            have c48b0 : (((rd_T37 y419 x16_1).f0) == 4) = false := beq_eq_false_iff_ne.mpr c48
                            have c48b1 : (((rd_T37 y419 x16_1).f0) != 4) = true := bne_iff_ne.mpr c48
                            by_cases c67 : ((rd_T37 y419 x16_1).f0) ≥ 6
                            · rw [if_pos c67] at H
                              have c67b0 : decide (6 ≤ ((rd_T37 y419 x16_1).f0)) = true := decide_eq_true c67
                              clear c67
                              by_cases c68 : ((rd_T37 y419 x16_1).f0) ≤ 9
                              · rw [if_pos c68] at H
                                have c68b0 : decide (((rd_T37 y419 x16_1).f0) ≤ 9) = true := decide_eq_true c68
                                clear c68
                                replace H := Option.bind_eq_some_iff.mp H
                                obtain ⟨t437, A690, H⟩ := H
                                replace H : (if t437 = true then (if 0 ≤ x16_1 then (if x16_1 < (x5_1.length : Int) then (typing_counted.l0 kj30 l0 a1 (x5_1.set (x16_1 : Int).toNat (⟨(rd_T74 x5_1 x16_1).f0, 1, (rd_T74 x5_1 x16_1).f2⟩ : S74)) y419 (y419.length : Int) (wrap64 (x16_1 + 1))) else (none)) else (none)) else (if 0 ≤ x16_1 then (if x16_1 < (x5_1.length : Int) then (typing_counted.l0 kj30 l0 a1 (x5_1.set (x16_1 : Int).toNat (⟨(rd_T74 x5_1 x16_1).f0, (rd_T74 x5_1 x16_1).f1, 1⟩ : S74)) y419 (y419.length : Int) (wrap64 (x16_1 + 1))) else (none)) else (none))) = some (r1, r2, r3) := H
                                have A69 := Aside0.mk A690
                                clear A690
                                by_cases c70 : t437 = true
                                · subst c70
                                  have H1 : (if 0 ≤ x16_1 then (if x16_1 < (x5_1.length : Int) then (typing_counted.l0 kj30 l0 a1 (x5_1.set (x16_1 : Int).toNat (⟨(rd_T74 x5_1 x16_1).f0, 1, (rd_T74 x5_1 x16_1).f2⟩ : S74)) y419 (y419.length : Int) (wrap64 (x16_1 + 1))) else (none)) else (none)) = some (r1, r2, r3) := by rw [if_pos rfl] at H; exact H
                                  clear H
                                  have H := H1
                                  clear H1
                                  by_cases c71 : 0 ≤ x16_1
                                  · rw [if_pos c71] at H
                                    have c71b0 : decide (0 ≤ x16_1) = true := decide_eq_true c71
                                    clear c71
                                    by_cases c72 : x16_1 < (x5_1.length : Int)
                                    · rw [if_pos c72] at H
                                      have c72b0 : decide (x16_1 < (x5_1.length : Int)) = true := decide_eq_true c72
                                      clear c72
                                      obtain ⟨y438, hy438⟩ : ∃ y_ : List (S74), y_ = (x5_1.set (x16_1 : Int).toNat (⟨(rd_T74 x5_1 x16_1).f0, 1, (rd_T74 x5_1 x16_1).f2⟩ : S74)) := ⟨_, rfl⟩
                                      replace H : (typing_counted.l0 kj30 l0 a1 y438 y419 (y419.length : Int) (wrap64 (x16_1 + 1))) = some (r1, r2, r3) := by first | (rw [hy438]; with_reducible exact H) | (have H2_ := (Option.bind_some _ _).symm.trans H; rw [hy438]; with_reducible exact H2_) | (have H2_ := (Option.bind_some _ _).symm.trans H; with_reducible exact H2_) | with_reducible exact H | (rw [hy438]; exact H) | exact H
                                      have Ny438 := Aside0.mk hy438
                                      clear hy438
                                      have H' := Aside0.mk H
                                      clear H
                                      have hnb74 := NB425_415.out
                                      have hnc74 := NB415_425.out
                                      have hcz75_0 : wc.cell? ⟨gb425, 0, none⟩ = some (.int .i64 ((rd_T37 y419 x16_1).f0)) := (blk_cell BK425.out 0).trans rfl
                                      have hcz75_1 : wc.cell? ⟨gb425, 1, none⟩ = some (.int .i64 ((rd_T37 y419 x16_1).f1)) := (blk_cell BK425.out 1).trans rfl
                                      have hcz75_2 : wc.cell? ⟨gb425, 2, none⟩ = some (.int .i64 ((rd_T37 y419 x16_1).f2)) := (blk_cell BK425.out 2).trans rfl
                                      have hcz75_3 : wc.cell? ⟨gb425, 3, none⟩ = some (.int .i64 ((rd_T37 y419 x16_1).f3)) := (blk_cell BK425.out 3).trans rfl
                                      have hcz75_4 : wc.cell? ⟨gb425, 4, none⟩ = some (.int .i64 ((rd_T37 y419 x16_1).f4)) := (blk_cell BK425.out 4).trans rfl
                                      have hcz75_5 : wc.cell? ⟨gb425, 5, none⟩ = some (.string ((rd_T37 y419 x16_1).f5)) := (blk_cell BK425.out 5).trans rfl
                                      have hfz75_0 := blk_frozen BK425.out 0
                                      have hfz75_1 := blk_frozen BK425.out 1
                                      have hfz75_2 := blk_frozen BK425.out 2
                                      have hfz75_3 := blk_frozen BK425.out 3
                                      have hfz75_4 := blk_frozen BK425.out 4
                                      have hfz75_5 := blk_frozen BK425.out 5
                                      go_wp2_with (first | (go_at_call 32; (with_reducible refine (typing_against.calls _ _ l0 ((rd_T37 y419 x16_1).f0) ((rd_T37 y419 x16_1).f1) ((rd_T37 y419 x16_1).f2) ((rd_T37 y419 x16_1).f3) ((rd_T37 y419 x16_1).f4) ((rd_T37 y419 x16_1).f5) 3 19 true _ ?side1 ?side2 A69.out).mono ?_); (case side1 => repeat (first | exact (Kd.C_below HR0.out HB.out) | (with_reducible refine Kd.C_alloc ?_ _) | (with_reducible refine Kd.C_drewN ?_ _) | (with_reducible refine Kd.C_drew ?_))); (case side2 => exact HC0.out); rintro e w76 ⟨rfl, hb⟩; have n0_ := Aside0.mk (Kd.R_below (by (with_reducible repeat (first | apply Kd.R_alloc | apply Kd.R_drewN | apply Kd.R_drew)); exact HO_5.out) hb); have n1_ := Aside0.mk (blk_below (g := gb415) (o := .cells #[.int .i64 x416000_1, .int .i64 x416001_1, .int .i64 x416002_1] 74 (0, 0)) (by (with_reducible repeat (first | refine blk_drewN ?_ _ | refine blk_drew ?_ | refine blk_alloc ?_ _)); exact BK415.out) hb); have n2_ := Aside0.mk (blk_below (g := gb425) (o := .cells #[.int .i64 ((rd_T37 y419 x16_1).f0), .int .i64 ((rd_T37 y419 x16_1).f1), .int .i64 ((rd_T37 y419 x16_1).f2), .int .i64 ((rd_T37 y419 x16_1).f3), .int .i64 ((rd_T37 y419 x16_1).f4), .string ((rd_T37 y419 x16_1).f5)] 37 (0, 0)) (by (with_reducible repeat (first | refine blk_drewN ?_ _ | refine blk_drew ?_ | refine blk_alloc ?_ _)); exact BK425.out) hb); have n3_ := Aside0.mk (below_step (by repeat (first | (with_reducible first | exact HB.out | apply below_alloc | apply pw_below_drewN | apply below_drew1 | refine below_set ?_ GE415.out | refine below_set ?_ GE425.out) | exact HB.out)) hb); clear HO_5; clear BK415; clear BK425; clear HB; have HO_5 := n0_; have BK415 := n1_; have BK425 := n2_; have HB := n3_; clear n0_ n1_ n2_ n3_; (try clear hb); (try clear hb2); (try clear hk); (try clear hi); have p73 : 0 ≤ (x16_1 : Int) := of_decide_eq_true (by first | (with_reducible assumption) | assumption); have q73 : (x16_1 : Int) < ((x5_1.length : Int) : Int) := of_decide_eq_true (by first | (with_reducible assumption) | assumption); obtain ⟨go73, co73, eo73, gb73, gl73, cl73, HG73⟩ := Kd.R_form HO_5.out (by omega); (first | cases eo73 | (injection eo73 with ea_ en_ ec_; (first | subst ea_ | (injection ea_ with ea_; subst ea_)); subst ec_; clear en_)); have GB73 := Aside0.mk gb73; have GG73 := Aside0.mk HG73; clear gb73 gl73 HG73; obtain ⟨ce73, hcl73, hM73, hcc73, hfr73⟩ := Kd.R_elem HO_5.out z74 (x16_1 : Int) p73 q73; obtain rfl := k74_openM hM73; have hx73_0 : w76.cell? ⟨go73, (x16_1 : Int).toNat * 3, none⟩ = some (.int .i64 ((rd_T74 x5_1 x16_1).f0)) := hcc73 0 _ rfl; have hx73_1 : w76.cell? ⟨go73, (x16_1 : Int).toNat * 3 + 1, none⟩ = some (.int .i64 ((rd_T74 x5_1 x16_1).f1)) := hcc73 1 _ rfl; have hx73_2 : w76.cell? ⟨go73, (x16_1 : Int).toNat * 3 + 2, none⟩ = some (.int .i64 ((rd_T74 x5_1 x16_1).f2)) := hcc73 2 _ rfl; have hf73_0 : w76.frozen? ⟨go73, (x16_1 : Int).toNat * 3, none⟩ = false := hfr73 0; have hf73_1 : w76.frozen? ⟨go73, (x16_1 : Int).toNat * 3 + 1, none⟩ = false := hfr73 1; have hf73_2 : w76.frozen? ⟨go73, (x16_1 : Int).toNat * 3 + 2, none⟩ = false := hfr73 2; clear hcl73 hcc73 hfr73 hM73; replace p73 := eq_true p73; replace q73 := eq_true q73; have HX77 := Aside0.mk (show Kd.R k74 74 w76 w.heap.size (fun k_ => k_ ≠ gb415) (.slice (some ⟨go73, 0, none⟩) x5_1.length co73) x5_1 from (by (with_reducible repeat (first | apply Kd.R_alloc | apply Kd.R_drewN | apply Kd.R_drew)); exact HO_5.out)); obtain ⟨ce77, hcl77, hM77, hcc77, hfr77⟩ := Kd.R_elem HX77.out z74 (x16_1 : Int) (of_decide_eq_true (by first | (with_reducible assumption) | assumption)) (by have h_ : (x16_1 : Int) < ((x5_1.length : Int) : Int) := of_decide_eq_true (by first | (with_reducible assumption) | assumption); first | exact h_ | (have e_ := (Kd.R_reads' HO_5.out).1; omega) | simpa using h_); obtain rfl := k74_openM hM77; have HP77 := Kd.R_seg HX77.out (x16_1 : Int) (of_decide_eq_true (by first | (with_reducible assumption) | assumption)) (by have h_ : (x16_1 : Int) < ((x5_1.length : Int) : Int) := of_decide_eq_true (by first | (with_reducible assumption) | assumption); first | exact h_ | (have e_ := (Kd.R_reads' HO_5.out).1; omega) | simpa using h_) (seg := [.int .i64 1]) (j := 1) hcl77 hcc77 (show 2 ≤ 3 from by decide) (x' := (⟨(rd_T74 x5_1 x16_1).f0, 1, (rd_T74 x5_1 x16_1).f2⟩ : S74)) (k74_mkM _ _ _ (⟨(rd_T74 x5_1 x16_1).f0, 1, (rd_T74 x5_1 x16_1).f2⟩ : S74) ) (fun _ hk => hk); have hx77_1 := hcc77 1 _ rfl; (try simp only [show (k74).sz = 3 from rfl, Nat.mul_one, Nat.add_zero] at hx77_1); have hf77_1 := hfr77 1; (try simp only [show (k74).sz = 3 from rfl, Nat.mul_one, Nat.add_zero] at hf77_1); clear hcl77 hcc77 hfr77 hM77) | ((with_reducible refine gate_store (t := 3) (p := 78) rfl ?_); refine store_event (t := 3) (p := 78) (v := ?vo_w78) (w1 := (w76.setCell ⟨go73, (x16_1 : Int).toNat * 3 + 1, none⟩ (.int .i64 1))) ?hg ?ho ?hn ?hr ?_; (case ho => rfl); (case hg => rfl); (case hn => rfl); (case hr => first | (go_simp; done) | (go_simp; rfl)); intro w78 hw; have hg : w76.grownBy w78 (some go73) := (by rw [hw]; exact HP77.2); have hp_ : Kd.R k74 74 w78 w.heap.size (fun k_ => k_ ≠ gb415) (.slice (some ⟨go73, 0, none⟩) x5_1.length co73) y438 := (by rw [hw, Ny438.out]; exact HP77.1); clear HP77; have n0_ := Aside0.mk (hp_); have n1_ := Aside0.mk (blk_grown (g := gb415) (o := .cells #[.int .i64 x416000_1, .int .i64 x416001_1, .int .i64 x416002_1] 74 (0, 0)) (by (with_reducible repeat (first | refine blk_drewN ?_ _ | refine blk_drew ?_ | refine blk_alloc ?_ _)); exact BK415.out) hg (Kd.R_away HO_5.out (fun _ hk => hk))); have n2_ := Aside0.mk (blk_grown (g := gb425) (o := .cells #[.int .i64 ((rd_T37 y419 x16_1).f0), .int .i64 ((rd_T37 y419 x16_1).f1), .int .i64 ((rd_T37 y419 x16_1).f2), .int .i64 ((rd_T37 y419 x16_1).f3), .int .i64 ((rd_T37 y419 x16_1).f4), .string ((rd_T37 y419 x16_1).f5)] 37 (0, 0)) (by (with_reducible repeat (first | refine blk_drewN ?_ _ | refine blk_drew ?_ | refine blk_alloc ?_ _)); exact BK425.out) hg (Kd.R_ne HO_5.out BK425.out (by decide))); have n3_ := Aside0.mk ((by rw [hw]; exact below_set (HB.out) GB73.out : Below w.heap.size w w78)); clear HO_5; clear BK415; clear BK425; clear HB; have HO_5 := n0_; have BK415 := n1_; have BK425 := n2_; have HB := n3_; clear n0_ n1_ n2_ n3_; clear hg hw hp_))
                                      go_roundg kj30
                                      case measure => have := HK1.out; have := HJ30.out; omega
                                      case rel => exact ⟨(y438), (wrap64 (x16_1 + 1)), (x416000_1), (x416001_1), (x416002_1), (by first | rfl | (simp; done) | (simp [*]; done)), H', ⟨by have := HK1.out; have := HJ30.out; omega⟩, ⟨by (with_reducible repeat (first | apply Kd.R_alloc | apply Kd.R_drewN | apply Kd.R_drew)); exact HO_5.out⟩, ⟨by (with_reducible repeat (first | refine blk_drewN ?_ _ | refine blk_drew ?_ | refine blk_alloc ?_ _)); exact BK415.out⟩, ⟨by repeat (first | (with_reducible first | exact HB.out | apply below_alloc | apply pw_below_drewN | apply below_drew1 | refine below_set ?_ GE415.out | refine below_set ?_ GE425.out) | exact HB.out)⟩⟩
                                    · rw [if_neg c72] at H
                                      exact absurd H (by simp)
                                  · rw [if_neg c71] at H
                                    exact absurd H (by simp)
                                · replace c70 := Bool.eq_false_iff.mpr c70
                                  subst c70
                                  have H1 : (if 0 ≤ x16_1 then (if x16_1 < (x5_1.length : Int) then (typing_counted.l0 kj30 l0 a1 (x5_1.set (x16_1 : Int).toNat (⟨(rd_T74 x5_1 x16_1).f0, (rd_T74 x5_1 x16_1).f1, 1⟩ : S74)) y419 (y419.length : Int) (wrap64 (x16_1 + 1))) else (none)) else (none)) = some (r1, r2, r3) := by rw [if_neg (show ¬ (false = true) by decide)] at H; exact H
                                  clear H
                                  have H := H1
                                  clear H1
                                  by_cases c79 : 0 ≤ x16_1
                                  · rw [if_pos c79] at H
                                    have c79b0 : decide (0 ≤ x16_1) = true := decide_eq_true c79
                                    clear c79
                                    by_cases c80 : x16_1 < (x5_1.length : Int)
                                    · rw [if_pos c80] at H
                                      have c80b0 : decide (x16_1 < (x5_1.length : Int)) = true := decide_eq_true c80
                                      clear c80
                                      obtain ⟨y439, hy439⟩ : ∃ y_ : List (S74), y_ = (x5_1.set (x16_1 : Int).toNat (⟨(rd_T74 x5_1 x16_1).f0, (rd_T74 x5_1 x16_1).f1, 1⟩ : S74)) := ⟨_, rfl⟩
                                      replace H : (typing_counted.l0 kj30 l0 a1 y439 y419 (y419.length : Int) (wrap64 (x16_1 + 1))) = some (r1, r2, r3) := by first | (rw [hy439]; with_reducible exact H) | (have H2_ := (Option.bind_some _ _).symm.trans H; rw [hy439]; with_reducible exact H2_) | (have H2_ := (Option.bind_some _ _).symm.trans H; with_reducible exact H2_) | with_reducible exact H | (rw [hy439]; exact H) | exact H
                                      have Ny439 := Aside0.mk hy439
                                      clear hy439
                                      have H' := Aside0.mk H
                                      clear H
                                      have hnb82 := NB425_415.out
                                      have hnc82 := NB415_425.out
                                      have hcz83_0 : wc.cell? ⟨gb425, 0, none⟩ = some (.int .i64 ((rd_T37 y419 x16_1).f0)) := (blk_cell BK425.out 0).trans rfl
                                      have hcz83_1 : wc.cell? ⟨gb425, 1, none⟩ = some (.int .i64 ((rd_T37 y419 x16_1).f1)) := (blk_cell BK425.out 1).trans rfl
                                      have hcz83_2 : wc.cell? ⟨gb425, 2, none⟩ = some (.int .i64 ((rd_T37 y419 x16_1).f2)) := (blk_cell BK425.out 2).trans rfl
                                      have hcz83_3 : wc.cell? ⟨gb425, 3, none⟩ = some (.int .i64 ((rd_T37 y419 x16_1).f3)) := (blk_cell BK425.out 3).trans rfl
                                      have hcz83_4 : wc.cell? ⟨gb425, 4, none⟩ = some (.int .i64 ((rd_T37 y419 x16_1).f4)) := (blk_cell BK425.out 4).trans rfl
                                      have hcz83_5 : wc.cell? ⟨gb425, 5, none⟩ = some (.string ((rd_T37 y419 x16_1).f5)) := (blk_cell BK425.out 5).trans rfl
                                      have hfz83_0 := blk_frozen BK425.out 0
                                      have hfz83_1 := blk_frozen BK425.out 1
                                      have hfz83_2 := blk_frozen BK425.out 2
                                      have hfz83_3 := blk_frozen BK425.out 3
                                      have hfz83_4 := blk_frozen BK425.out 4
                                      have hfz83_5 := blk_frozen BK425.out 5
                                      go_wp2_with (first | (go_at_call 32; (with_reducible refine (typing_against.calls _ _ l0 ((rd_T37 y419 x16_1).f0) ((rd_T37 y419 x16_1).f1) ((rd_T37 y419 x16_1).f2) ((rd_T37 y419 x16_1).f3) ((rd_T37 y419 x16_1).f4) ((rd_T37 y419 x16_1).f5) 3 19 false _ ?side1 ?side2 A69.out).mono ?_); (case side1 => repeat (first | exact (Kd.C_below HR0.out HB.out) | (with_reducible refine Kd.C_alloc ?_ _) | (with_reducible refine Kd.C_drewN ?_ _) | (with_reducible refine Kd.C_drew ?_))); (case side2 => exact HC0.out); rintro e w84 ⟨rfl, hb⟩; have n0_ := Aside0.mk (Kd.R_below (by (with_reducible repeat (first | apply Kd.R_alloc | apply Kd.R_drewN | apply Kd.R_drew)); exact HO_5.out) hb); have n1_ := Aside0.mk (blk_below (g := gb415) (o := .cells #[.int .i64 x416000_1, .int .i64 x416001_1, .int .i64 x416002_1] 74 (0, 0)) (by (with_reducible repeat (first | refine blk_drewN ?_ _ | refine blk_drew ?_ | refine blk_alloc ?_ _)); exact BK415.out) hb); have n2_ := Aside0.mk (blk_below (g := gb425) (o := .cells #[.int .i64 ((rd_T37 y419 x16_1).f0), .int .i64 ((rd_T37 y419 x16_1).f1), .int .i64 ((rd_T37 y419 x16_1).f2), .int .i64 ((rd_T37 y419 x16_1).f3), .int .i64 ((rd_T37 y419 x16_1).f4), .string ((rd_T37 y419 x16_1).f5)] 37 (0, 0)) (by (with_reducible repeat (first | refine blk_drewN ?_ _ | refine blk_drew ?_ | refine blk_alloc ?_ _)); exact BK425.out) hb); have n3_ := Aside0.mk (below_step (by repeat (first | (with_reducible first | exact HB.out | apply below_alloc | apply pw_below_drewN | apply below_drew1 | refine below_set ?_ GE415.out | refine below_set ?_ GE425.out) | exact HB.out)) hb); clear HO_5; clear BK415; clear BK425; clear HB; have HO_5 := n0_; have BK415 := n1_; have BK425 := n2_; have HB := n3_; clear n0_ n1_ n2_ n3_; (try clear hb); (try clear hb2); (try clear hk); (try clear hi); have p81 : 0 ≤ (x16_1 : Int) := of_decide_eq_true (by first | (with_reducible assumption) | assumption); have q81 : (x16_1 : Int) < ((x5_1.length : Int) : Int) := of_decide_eq_true (by first | (with_reducible assumption) | assumption); obtain ⟨go81, co81, eo81, gb81, gl81, cl81, HG81⟩ := Kd.R_form HO_5.out (by omega); (first | cases eo81 | (injection eo81 with ea_ en_ ec_; (first | subst ea_ | (injection ea_ with ea_; subst ea_)); subst ec_; clear en_)); have GB81 := Aside0.mk gb81; have GG81 := Aside0.mk HG81; clear gb81 gl81 HG81; obtain ⟨ce81, hcl81, hM81, hcc81, hfr81⟩ := Kd.R_elem HO_5.out z74 (x16_1 : Int) p81 q81; obtain rfl := k74_openM hM81; have hx81_0 : w84.cell? ⟨go81, (x16_1 : Int).toNat * 3, none⟩ = some (.int .i64 ((rd_T74 x5_1 x16_1).f0)) := hcc81 0 _ rfl; have hx81_1 : w84.cell? ⟨go81, (x16_1 : Int).toNat * 3 + 1, none⟩ = some (.int .i64 ((rd_T74 x5_1 x16_1).f1)) := hcc81 1 _ rfl; have hx81_2 : w84.cell? ⟨go81, (x16_1 : Int).toNat * 3 + 2, none⟩ = some (.int .i64 ((rd_T74 x5_1 x16_1).f2)) := hcc81 2 _ rfl; have hf81_0 : w84.frozen? ⟨go81, (x16_1 : Int).toNat * 3, none⟩ = false := hfr81 0; have hf81_1 : w84.frozen? ⟨go81, (x16_1 : Int).toNat * 3 + 1, none⟩ = false := hfr81 1; have hf81_2 : w84.frozen? ⟨go81, (x16_1 : Int).toNat * 3 + 2, none⟩ = false := hfr81 2; clear hcl81 hcc81 hfr81 hM81; replace p81 := eq_true p81; replace q81 := eq_true q81; have HX85 := Aside0.mk (show Kd.R k74 74 w84 w.heap.size (fun k_ => k_ ≠ gb415) (.slice (some ⟨go81, 0, none⟩) x5_1.length co81) x5_1 from (by (with_reducible repeat (first | apply Kd.R_alloc | apply Kd.R_drewN | apply Kd.R_drew)); exact HO_5.out)); obtain ⟨ce85, hcl85, hM85, hcc85, hfr85⟩ := Kd.R_elem HX85.out z74 (x16_1 : Int) (of_decide_eq_true (by first | (with_reducible assumption) | assumption)) (by have h_ : (x16_1 : Int) < ((x5_1.length : Int) : Int) := of_decide_eq_true (by first | (with_reducible assumption) | assumption); first | exact h_ | (have e_ := (Kd.R_reads' HO_5.out).1; omega) | simpa using h_); obtain rfl := k74_openM hM85; have HP85 := Kd.R_seg HX85.out (x16_1 : Int) (of_decide_eq_true (by first | (with_reducible assumption) | assumption)) (by have h_ : (x16_1 : Int) < ((x5_1.length : Int) : Int) := of_decide_eq_true (by first | (with_reducible assumption) | assumption); first | exact h_ | (have e_ := (Kd.R_reads' HO_5.out).1; omega) | simpa using h_) (seg := [.int .i64 1]) (j := 2) hcl85 hcc85 (show 3 ≤ 3 from by decide) (x' := (⟨(rd_T74 x5_1 x16_1).f0, (rd_T74 x5_1 x16_1).f1, 1⟩ : S74)) (k74_mkM _ _ _ (⟨(rd_T74 x5_1 x16_1).f0, (rd_T74 x5_1 x16_1).f1, 1⟩ : S74) ) (fun _ hk => hk); have hx85_2 := hcc85 2 _ rfl; (try simp only [show (k74).sz = 3 from rfl, Nat.mul_one, Nat.add_zero] at hx85_2); have hf85_2 := hfr85 2; (try simp only [show (k74).sz = 3 from rfl, Nat.mul_one, Nat.add_zero] at hf85_2); clear hcl85 hcc85 hfr85 hM85) | ((with_reducible refine gate_store (t := 3) (p := 24) rfl ?_); refine store_event (t := 3) (p := 24) (v := ?vo_w86) (w1 := (w84.setCell ⟨go81, (x16_1 : Int).toNat * 3 + 2, none⟩ (.int .i64 1))) ?hg ?ho ?hn ?hr ?_; (case ho => rfl); (case hg => rfl); (case hn => rfl); (case hr => first | (go_simp; done) | (go_simp; rfl)); intro w86 hw; have hg : w84.grownBy w86 (some go81) := (by rw [hw]; exact HP85.2); have hp_ : Kd.R k74 74 w86 w.heap.size (fun k_ => k_ ≠ gb415) (.slice (some ⟨go81, 0, none⟩) x5_1.length co81) y439 := (by rw [hw, Ny439.out]; exact HP85.1); clear HP85; have n0_ := Aside0.mk (hp_); have n1_ := Aside0.mk (blk_grown (g := gb415) (o := .cells #[.int .i64 x416000_1, .int .i64 x416001_1, .int .i64 x416002_1] 74 (0, 0)) (by (with_reducible repeat (first | refine blk_drewN ?_ _ | refine blk_drew ?_ | refine blk_alloc ?_ _)); exact BK415.out) hg (Kd.R_away HO_5.out (fun _ hk => hk))); have n2_ := Aside0.mk (blk_grown (g := gb425) (o := .cells #[.int .i64 ((rd_T37 y419 x16_1).f0), .int .i64 ((rd_T37 y419 x16_1).f1), .int .i64 ((rd_T37 y419 x16_1).f2), .int .i64 ((rd_T37 y419 x16_1).f3), .int .i64 ((rd_T37 y419 x16_1).f4), .string ((rd_T37 y419 x16_1).f5)] 37 (0, 0)) (by (with_reducible repeat (first | refine blk_drewN ?_ _ | refine blk_drew ?_ | refine blk_alloc ?_ _)); exact BK425.out) hg (Kd.R_ne HO_5.out BK425.out (by decide))); have n3_ := Aside0.mk ((by rw [hw]; exact below_set (HB.out) GB81.out : Below w.heap.size w w86)); clear HO_5; clear BK415; clear BK425; clear HB; have HO_5 := n0_; have BK415 := n1_; have BK425 := n2_; have HB := n3_; clear n0_ n1_ n2_ n3_; clear hg hw hp_))
                                      go_roundg kj30
                                      case measure => have := HK1.out; have := HJ30.out; omega
                                      case rel => exact ⟨(y439), (wrap64 (x16_1 + 1)), (x416000_1), (x416001_1), (x416002_1), (by first | rfl | (simp; done) | (simp [*]; done)), H', ⟨by have := HK1.out; have := HJ30.out; omega⟩, ⟨by (with_reducible repeat (first | apply Kd.R_alloc | apply Kd.R_drewN | apply Kd.R_drew)); exact HO_5.out⟩, ⟨by (with_reducible repeat (first | refine blk_drewN ?_ _ | refine blk_drew ?_ | refine blk_alloc ?_ _)); exact BK415.out⟩, ⟨by repeat (first | (with_reducible first | exact HB.out | apply below_alloc | apply pw_below_drewN | apply below_drew1 | refine below_set ?_ GE415.out | refine below_set ?_ GE425.out) | exact HB.out)⟩⟩
                                    · rw [if_neg c80] at H
                                      exact absurd H (by simp)
                                  · rw [if_neg c79] at H
                                    exact absurd H (by simp)
                              · rw [if_neg c68] at H
                                have c68b0 : decide (((rd_T37 y419 x16_1).f0) ≤ 9) = false := decide_eq_false c68
                                clear c68
                                by_cases c87 : 0 ≤ x16_1
                                · rw [if_pos c87] at H
                                  have c87b0 : decide (0 ≤ x16_1) = true := decide_eq_true c87
                                  clear c87
                                  by_cases c88 : x16_1 < (x5_1.length : Int)
                                  · rw [if_pos c88] at H
                                    have c88b0 : decide (x16_1 < (x5_1.length : Int)) = true := decide_eq_true c88
                                    clear c88
                                    obtain ⟨y440, hy440⟩ : ∃ y_ : List (S74), y_ = (x5_1.set (x16_1 : Int).toNat (⟨(rd_T74 x5_1 x16_1).f0, (rd_T74 x5_1 x16_1).f1, 1⟩ : S74)) := ⟨_, rfl⟩
                                    replace H : (typing_counted.l0 kj30 l0 a1 y440 y419 (y419.length : Int) (wrap64 (x16_1 + 1))) = some (r1, r2, r3) := by first | (rw [hy440]; with_reducible exact H) | (have H2_ := (Option.bind_some _ _).symm.trans H; rw [hy440]; with_reducible exact H2_) | (have H2_ := (Option.bind_some _ _).symm.trans H; with_reducible exact H2_) | with_reducible exact H | (rw [hy440]; exact H) | exact H
                                    have Ny440 := Aside0.mk hy440
                                    clear hy440
                                    have H' := Aside0.mk H
                                    clear H
                                    have hnb90 := NB425_415.out
                                    have hnc90 := NB415_425.out
                                    have hcz91_0 : wc.cell? ⟨gb425, 0, none⟩ = some (.int .i64 ((rd_T37 y419 x16_1).f0)) := (blk_cell BK425.out 0).trans rfl
                                    have hcz91_1 : wc.cell? ⟨gb425, 1, none⟩ = some (.int .i64 ((rd_T37 y419 x16_1).f1)) := (blk_cell BK425.out 1).trans rfl
                                    have hcz91_2 : wc.cell? ⟨gb425, 2, none⟩ = some (.int .i64 ((rd_T37 y419 x16_1).f2)) := (blk_cell BK425.out 2).trans rfl
                                    have hcz91_3 : wc.cell? ⟨gb425, 3, none⟩ = some (.int .i64 ((rd_T37 y419 x16_1).f3)) := (blk_cell BK425.out 3).trans rfl
                                    have hcz91_4 : wc.cell? ⟨gb425, 4, none⟩ = some (.int .i64 ((rd_T37 y419 x16_1).f4)) := (blk_cell BK425.out 4).trans rfl
                                    have hcz91_5 : wc.cell? ⟨gb425, 5, none⟩ = some (.string ((rd_T37 y419 x16_1).f5)) := (blk_cell BK425.out 5).trans rfl
                                    have hfz91_0 := blk_frozen BK425.out 0
                                    have hfz91_1 := blk_frozen BK425.out 1
                                    have hfz91_2 := blk_frozen BK425.out 2
                                    have hfz91_3 := blk_frozen BK425.out 3
                                    have hfz91_4 := blk_frozen BK425.out 4
                                    have hfz91_5 := blk_frozen BK425.out 5
                                    have p89 : 0 ≤ (x16_1 : Int) := of_decide_eq_true (by first | (with_reducible assumption) | assumption)
                                    have q89 : (x16_1 : Int) < ((x5_1.length : Int) : Int) := of_decide_eq_true (by first | (with_reducible assumption) | assumption)
                                    obtain ⟨go89, co89, eo89, gb89, gl89, cl89, HG89⟩ := Kd.R_form HO_5.out (by omega)
                                    (first | cases eo89 | (injection eo89 with ea_ en_ ec_; (first | subst ea_ | (injection ea_ with ea_; subst ea_)); subst ec_; clear en_))
                                    have GB89 := Aside0.mk gb89
                                    have GG89 := Aside0.mk HG89
                                    clear gb89 gl89 HG89
                                    obtain ⟨ce89, hcl89, hM89, hcc89, hfr89⟩ := Kd.R_elem HO_5.out z74 (x16_1 : Int) p89 q89
                                    obtain rfl := k74_openM hM89
                                    have hx89_0 : wc.cell? ⟨go89, (x16_1 : Int).toNat * 3, none⟩ = some (.int .i64 ((rd_T74 x5_1 x16_1).f0)) := hcc89 0 _ rfl
                                    have hx89_1 : wc.cell? ⟨go89, (x16_1 : Int).toNat * 3 + 1, none⟩ = some (.int .i64 ((rd_T74 x5_1 x16_1).f1)) := hcc89 1 _ rfl
                                    have hx89_2 : wc.cell? ⟨go89, (x16_1 : Int).toNat * 3 + 2, none⟩ = some (.int .i64 ((rd_T74 x5_1 x16_1).f2)) := hcc89 2 _ rfl
                                    have hf89_0 : wc.frozen? ⟨go89, (x16_1 : Int).toNat * 3, none⟩ = false := hfr89 0
                                    have hf89_1 : wc.frozen? ⟨go89, (x16_1 : Int).toNat * 3 + 1, none⟩ = false := hfr89 1
                                    have hf89_2 : wc.frozen? ⟨go89, (x16_1 : Int).toNat * 3 + 2, none⟩ = false := hfr89 2
                                    clear hcl89 hcc89 hfr89 hM89
                                    replace p89 := eq_true p89
                                    replace q89 := eq_true q89
                                    have HX92 := Aside0.mk (show Kd.R k74 74 wc w.heap.size (fun k_ => k_ ≠ gb415) (.slice (some ⟨go89, 0, none⟩) x5_1.length co89) x5_1 from (by (with_reducible repeat (first | apply Kd.R_alloc | apply Kd.R_drewN | apply Kd.R_drew)); exact HO_5.out))
                                    obtain ⟨ce92, hcl92, hM92, hcc92, hfr92⟩ := Kd.R_elem HX92.out z74 (x16_1 : Int) (of_decide_eq_true (by first | (with_reducible assumption) | assumption)) (by have h_ : (x16_1 : Int) < ((x5_1.length : Int) : Int) := of_decide_eq_true (by first | (with_reducible assumption) | assumption); first | exact h_ | (have e_ := (Kd.R_reads' HO_5.out).1; omega) | simpa using h_)
                                    obtain rfl := k74_openM hM92
                                    have HP92 := Kd.R_seg HX92.out (x16_1 : Int) (of_decide_eq_true (by first | (with_reducible assumption) | assumption)) (by have h_ : (x16_1 : Int) < ((x5_1.length : Int) : Int) := of_decide_eq_true (by first | (with_reducible assumption) | assumption); first | exact h_ | (have e_ := (Kd.R_reads' HO_5.out).1; omega) | simpa using h_) (seg := [.int .i64 1]) (j := 2) hcl92 hcc92 (show 3 ≤ 3 from by decide) (x' := (⟨(rd_T74 x5_1 x16_1).f0, (rd_T74 x5_1 x16_1).f1, 1⟩ : S74)) (k74_mkM _ _ _ (⟨(rd_T74 x5_1 x16_1).f0, (rd_T74 x5_1 x16_1).f1, 1⟩ : S74) ) (fun _ hk => hk)
                                    have hx92_2 := hcc92 2 _ rfl
                                    (try simp only [show (k74).sz = 3 from rfl, Nat.mul_one, Nat.add_zero] at hx92_2)
                                    have hf92_2 := hfr92 2
                                    (try simp only [show (k74).sz = 3 from rfl, Nat.mul_one, Nat.add_zero] at hf92_2)
                                    clear hcl92 hcc92 hfr92 hM92
                                    go_wp2_with (first | ((with_reducible refine gate_store (t := 3) (p := 24) rfl ?_); refine store_event (t := 3) (p := 24) (v := ?vo_w93) (w1 := (wc.setCell ⟨go89, (x16_1 : Int).toNat * 3 + 2, none⟩ (.int .i64 1))) ?hg ?ho ?hn ?hr ?_; (case ho => rfl); (case hg => rfl); (case hn => rfl); (case hr => first | (go_simp; done) | (go_simp; rfl)); intro w93 hw; have hg : wc.grownBy w93 (some go89) := (by rw [hw]; exact HP92.2); have hp_ : Kd.R k74 74 w93 w.heap.size (fun k_ => k_ ≠ gb415) (.slice (some ⟨go89, 0, none⟩) x5_1.length co89) y440 := (by rw [hw, Ny440.out]; exact HP92.1); clear HP92; have n0_ := Aside0.mk (hp_); have n1_ := Aside0.mk (blk_grown (g := gb415) (o := .cells #[.int .i64 x416000_1, .int .i64 x416001_1, .int .i64 x416002_1] 74 (0, 0)) (by (with_reducible repeat (first | refine blk_drewN ?_ _ | refine blk_drew ?_ | refine blk_alloc ?_ _)); exact BK415.out) hg (Kd.R_away HO_5.out (fun _ hk => hk))); have n2_ := Aside0.mk (blk_grown (g := gb425) (o := .cells #[.int .i64 ((rd_T37 y419 x16_1).f0), .int .i64 ((rd_T37 y419 x16_1).f1), .int .i64 ((rd_T37 y419 x16_1).f2), .int .i64 ((rd_T37 y419 x16_1).f3), .int .i64 ((rd_T37 y419 x16_1).f4), .string ((rd_T37 y419 x16_1).f5)] 37 (0, 0)) (by (with_reducible repeat (first | refine blk_drewN ?_ _ | refine blk_drew ?_ | refine blk_alloc ?_ _)); exact BK425.out) hg (Kd.R_ne HO_5.out BK425.out (by decide))); have n3_ := Aside0.mk ((by rw [hw]; exact below_set (HB.out) GB89.out : Below w.heap.size w w93)); clear HO_5; clear BK415; clear BK425; clear HB; have HO_5 := n0_; have BK415 := n1_; have BK425 := n2_; have HB := n3_; clear n0_ n1_ n2_ n3_; clear hg hw hp_))
                                    go_roundg kj30
                                    case measure => have := HK1.out; have := HJ30.out; omega
                                    case rel => exact ⟨(y440), (wrap64 (x16_1 + 1)), (x416000_1), (x416001_1), (x416002_1), (by first | rfl | (simp; done) | (simp [*]; done)), H', ⟨by have := HK1.out; have := HJ30.out; omega⟩, ⟨by (with_reducible repeat (first | apply Kd.R_alloc | apply Kd.R_drewN | apply Kd.R_drew)); exact HO_5.out⟩, ⟨by (with_reducible repeat (first | refine blk_drewN ?_ _ | refine blk_drew ?_ | refine blk_alloc ?_ _)); exact BK415.out⟩, ⟨by repeat (first | (with_reducible first | exact HB.out | apply below_alloc | apply pw_below_drewN | apply below_drew1 | refine below_set ?_ GE415.out | refine below_set ?_ GE425.out) | exact HB.out)⟩⟩
                                  · rw [if_neg c88] at H
                                    exact absurd H (by simp)
                                · rw [if_neg c87] at H
                                  exact absurd H (by simp)
                            · rw [if_neg c67] at H
                              have c67b0 : decide (6 ≤ ((rd_T37 y419 x16_1).f0)) = false := decide_eq_false c67
                              clear c67
                              by_cases c94 : 0 ≤ x16_1
                              · rw [if_pos c94] at H
                                have c94b0 : decide (0 ≤ x16_1) = true := decide_eq_true c94
                                clear c94
                                by_cases c95 : x16_1 < (x5_1.length : Int)
                                · rw [if_pos c95] at H
                                  have c95b0 : decide (x16_1 < (x5_1.length : Int)) = true := decide_eq_true c95
                                  clear c95
                                  obtain ⟨y441, hy441⟩ : ∃ y_ : List (S74), y_ = (x5_1.set (x16_1 : Int).toNat (⟨(rd_T74 x5_1 x16_1).f0, (rd_T74 x5_1 x16_1).f1, 1⟩ : S74)) := ⟨_, rfl⟩
                                  replace H : (typing_counted.l0 kj30 l0 a1 y441 y419 (y419.length : Int) (wrap64 (x16_1 + 1))) = some (r1, r2, r3) := by first | (rw [hy441]; with_reducible exact H) | (have H2_ := (Option.bind_some _ _).symm.trans H; rw [hy441]; with_reducible exact H2_) | (have H2_ := (Option.bind_some _ _).symm.trans H; with_reducible exact H2_) | with_reducible exact H | (rw [hy441]; exact H) | exact H
                                  have Ny441 := Aside0.mk hy441
                                  clear hy441
                                  have H' := Aside0.mk H
                                  clear H
                                  have hnb97 := NB425_415.out
                                  have hnc97 := NB415_425.out
                                  have hcz98_0 : wc.cell? ⟨gb425, 0, none⟩ = some (.int .i64 ((rd_T37 y419 x16_1).f0)) := (blk_cell BK425.out 0).trans rfl
                                  have hcz98_1 : wc.cell? ⟨gb425, 1, none⟩ = some (.int .i64 ((rd_T37 y419 x16_1).f1)) := (blk_cell BK425.out 1).trans rfl
                                  have hcz98_2 : wc.cell? ⟨gb425, 2, none⟩ = some (.int .i64 ((rd_T37 y419 x16_1).f2)) := (blk_cell BK425.out 2).trans rfl
                                  have hcz98_3 : wc.cell? ⟨gb425, 3, none⟩ = some (.int .i64 ((rd_T37 y419 x16_1).f3)) := (blk_cell BK425.out 3).trans rfl
                                  have hcz98_4 : wc.cell? ⟨gb425, 4, none⟩ = some (.int .i64 ((rd_T37 y419 x16_1).f4)) := (blk_cell BK425.out 4).trans rfl
                                  have hcz98_5 : wc.cell? ⟨gb425, 5, none⟩ = some (.string ((rd_T37 y419 x16_1).f5)) := (blk_cell BK425.out 5).trans rfl
                                  have hfz98_0 := blk_frozen BK425.out 0
                                  have hfz98_1 := blk_frozen BK425.out 1
                                  have hfz98_2 := blk_frozen BK425.out 2
                                  have hfz98_3 := blk_frozen BK425.out 3
                                  have hfz98_4 := blk_frozen BK425.out 4
                                  have hfz98_5 := blk_frozen BK425.out 5
                                  have p96 : 0 ≤ (x16_1 : Int) := of_decide_eq_true (by first | (with_reducible assumption) | assumption)
                                  have q96 : (x16_1 : Int) < ((x5_1.length : Int) : Int) := of_decide_eq_true (by first | (with_reducible assumption) | assumption)
                                  obtain ⟨go96, co96, eo96, gb96, gl96, cl96, HG96⟩ := Kd.R_form HO_5.out (by omega)
                                  (first | cases eo96 | (injection eo96 with ea_ en_ ec_; (first | subst ea_ | (injection ea_ with ea_; subst ea_)); subst ec_; clear en_))
                                  have GB96 := Aside0.mk gb96
                                  have GG96 := Aside0.mk HG96
                                  clear gb96 gl96 HG96
                                  obtain ⟨ce96, hcl96, hM96, hcc96, hfr96⟩ := Kd.R_elem HO_5.out z74 (x16_1 : Int) p96 q96
                                  obtain rfl := k74_openM hM96
                                  have hx96_0 : wc.cell? ⟨go96, (x16_1 : Int).toNat * 3, none⟩ = some (.int .i64 ((rd_T74 x5_1 x16_1).f0)) := hcc96 0 _ rfl
                                  have hx96_1 : wc.cell? ⟨go96, (x16_1 : Int).toNat * 3 + 1, none⟩ = some (.int .i64 ((rd_T74 x5_1 x16_1).f1)) := hcc96 1 _ rfl
                                  have hx96_2 : wc.cell? ⟨go96, (x16_1 : Int).toNat * 3 + 2, none⟩ = some (.int .i64 ((rd_T74 x5_1 x16_1).f2)) := hcc96 2 _ rfl
                                  have hf96_0 : wc.frozen? ⟨go96, (x16_1 : Int).toNat * 3, none⟩ = false := hfr96 0
                                  have hf96_1 : wc.frozen? ⟨go96, (x16_1 : Int).toNat * 3 + 1, none⟩ = false := hfr96 1
                                  have hf96_2 : wc.frozen? ⟨go96, (x16_1 : Int).toNat * 3 + 2, none⟩ = false := hfr96 2
                                  clear hcl96 hcc96 hfr96 hM96
                                  replace p96 := eq_true p96
                                  replace q96 := eq_true q96
                                  have HX99 := Aside0.mk (show Kd.R k74 74 wc w.heap.size (fun k_ => k_ ≠ gb415) (.slice (some ⟨go96, 0, none⟩) x5_1.length co96) x5_1 from (by (with_reducible repeat (first | apply Kd.R_alloc | apply Kd.R_drewN | apply Kd.R_drew)); exact HO_5.out))
                                  obtain ⟨ce99, hcl99, hM99, hcc99, hfr99⟩ := Kd.R_elem HX99.out z74 (x16_1 : Int) (of_decide_eq_true (by first | (with_reducible assumption) | assumption)) (by have h_ : (x16_1 : Int) < ((x5_1.length : Int) : Int) := of_decide_eq_true (by first | (with_reducible assumption) | assumption); first | exact h_ | (have e_ := (Kd.R_reads' HO_5.out).1; omega) | simpa using h_)
                                  obtain rfl := k74_openM hM99
                                  have HP99 := Kd.R_seg HX99.out (x16_1 : Int) (of_decide_eq_true (by first | (with_reducible assumption) | assumption)) (by have h_ : (x16_1 : Int) < ((x5_1.length : Int) : Int) := of_decide_eq_true (by first | (with_reducible assumption) | assumption); first | exact h_ | (have e_ := (Kd.R_reads' HO_5.out).1; omega) | simpa using h_) (seg := [.int .i64 1]) (j := 2) hcl99 hcc99 (show 3 ≤ 3 from by decide) (x' := (⟨(rd_T74 x5_1 x16_1).f0, (rd_T74 x5_1 x16_1).f1, 1⟩ : S74)) (k74_mkM _ _ _ (⟨(rd_T74 x5_1 x16_1).f0, (rd_T74 x5_1 x16_1).f1, 1⟩ : S74) ) (fun _ hk => hk)
                                  have hx99_2 := hcc99 2 _ rfl
                                  (try simp only [show (k74).sz = 3 from rfl, Nat.mul_one, Nat.add_zero] at hx99_2)
                                  have hf99_2 := hfr99 2
                                  (try simp only [show (k74).sz = 3 from rfl, Nat.mul_one, Nat.add_zero] at hf99_2)
                                  clear hcl99 hcc99 hfr99 hM99
                                  go_wp2_with (first | ((with_reducible refine gate_store (t := 3) (p := 24) rfl ?_); refine store_event (t := 3) (p := 24) (v := ?vo_w100) (w1 := (wc.setCell ⟨go96, (x16_1 : Int).toNat * 3 + 2, none⟩ (.int .i64 1))) ?hg ?ho ?hn ?hr ?_; (case ho => rfl); (case hg => rfl); (case hn => rfl); (case hr => first | (go_simp; done) | (go_simp; rfl)); intro w100 hw; have hg : wc.grownBy w100 (some go96) := (by rw [hw]; exact HP99.2); have hp_ : Kd.R k74 74 w100 w.heap.size (fun k_ => k_ ≠ gb415) (.slice (some ⟨go96, 0, none⟩) x5_1.length co96) y441 := (by rw [hw, Ny441.out]; exact HP99.1); clear HP99; have n0_ := Aside0.mk (hp_); have n1_ := Aside0.mk (blk_grown (g := gb415) (o := .cells #[.int .i64 x416000_1, .int .i64 x416001_1, .int .i64 x416002_1] 74 (0, 0)) (by (with_reducible repeat (first | refine blk_drewN ?_ _ | refine blk_drew ?_ | refine blk_alloc ?_ _)); exact BK415.out) hg (Kd.R_away HO_5.out (fun _ hk => hk))); have n2_ := Aside0.mk (blk_grown (g := gb425) (o := .cells #[.int .i64 ((rd_T37 y419 x16_1).f0), .int .i64 ((rd_T37 y419 x16_1).f1), .int .i64 ((rd_T37 y419 x16_1).f2), .int .i64 ((rd_T37 y419 x16_1).f3), .int .i64 ((rd_T37 y419 x16_1).f4), .string ((rd_T37 y419 x16_1).f5)] 37 (0, 0)) (by (with_reducible repeat (first | refine blk_drewN ?_ _ | refine blk_drew ?_ | refine blk_alloc ?_ _)); exact BK425.out) hg (Kd.R_ne HO_5.out BK425.out (by decide))); have n3_ := Aside0.mk ((by rw [hw]; exact below_set (HB.out) GB96.out : Below w.heap.size w w100)); clear HO_5; clear BK415; clear BK425; clear HB; have HO_5 := n0_; have BK415 := n1_; have BK425 := n2_; have HB := n3_; clear n0_ n1_ n2_ n3_; clear hg hw hp_))
                                  go_roundg kj30
                                  case measure => have := HK1.out; have := HJ30.out; omega
                                  case rel => exact ⟨(y441), (wrap64 (x16_1 + 1)), (x416000_1), (x416001_1), (x416002_1), (by first | rfl | (simp; done) | (simp [*]; done)), H', ⟨by have := HK1.out; have := HJ30.out; omega⟩, ⟨by (with_reducible repeat (first | apply Kd.R_alloc | apply Kd.R_drewN | apply Kd.R_drew)); exact HO_5.out⟩, ⟨by (with_reducible repeat (first | refine blk_drewN ?_ _ | refine blk_drew ?_ | refine blk_alloc ?_ _)); exact BK415.out⟩, ⟨by repeat (first | (with_reducible first | exact HB.out | apply below_alloc | apply pw_below_drewN | apply below_drew1 | refine below_set ?_ GE415.out | refine below_set ?_ GE425.out) | exact HB.out)⟩⟩
                                · rw [if_neg c95] at H
                                  exact absurd H (by simp)
                              · rw [if_neg c94] at H
                                exact absurd H (by simp)
                · rw [if_neg c14] at H
                  exact absurd H (by simp)
              · rw [if_neg c13] at H
                exact absurd H (by simp)
            · rw [if_neg c12] at H
              have c12b0 : decide (x16_1 < (y419.length : Int)) = false := decide_eq_false c12
              clear c12
              by_cases c101 : 0 ≤ a1
              · rw [if_pos c101] at H
                have c101b0 : decide (0 ≤ a1) = true := decide_eq_true c101
                clear c101
                by_cases c102 : a1 < (x5_1.length : Int)
                · rw [if_pos c102] at H
                  have c102b0 : decide (a1 < (x5_1.length : Int)) = true := decide_eq_true c102
                  clear c102
                  simp only [Option.some.injEq, Prod.mk.injEq] at H
                  obtain ⟨rfl, rfl, rfl⟩ := H
                  obtain ⟨Ao103, co103, eo103⟩ := Kd.R_slice HO_5.out
                  subst eo103
                  have p423 : 0 ≤ (a1 : Int) := of_decide_eq_true (by first | (with_reducible assumption) | assumption)
                  have q423 : a1 < (x5_1.length : Int) := of_decide_eq_true (by first | (with_reducible assumption) | assumption)
                  obtain ⟨ad423, e423, hx423_0, hx423_1, hx423_2⟩ := at_T74 (Kd.R_reads' HO_5.out).2.2 a1 p423 q423
                  cases e423
                  replace p423 := eq_true p423
                  replace q423 := eq_true q423
                  have hcz104_0 : wr.cell? ⟨gb415, 0, none⟩ = some (.int .i64 x416000_1) := (blk_cell BK415.out 0).trans rfl
                  have hcz104_1 : wr.cell? ⟨gb415, 1, none⟩ = some (.int .i64 x416001_1) := (blk_cell BK415.out 1).trans rfl
                  have hcz104_2 : wr.cell? ⟨gb415, 2, none⟩ = some (.int .i64 x416002_1) := (blk_cell BK415.out 2).trans rfl
                  have hfz104_0 := blk_frozen BK415.out 0
                  have hfz104_1 := blk_frozen BK415.out 1
                  have hfz104_2 := blk_frozen BK415.out 2
                  go_wp2
                  refine bodyPost_ret (results_cell_row rfl _ _ gb415 74 #[.int .i64 ((rd_T74 x5_1 a1).f0), .int .i64 ((rd_T74 x5_1 a1).f1), .int .i64 ((rd_T74 x5_1 a1).f2)] (0, 0) _ rfl (by (with_reducible repeat (first | refine blk_drewN ?_ _ | refine blk_drew ?_ | refine blk_alloc ?_ _)); refine blk_put (cs := #[.int .i64 ((rd_T74 x5_1 a1).f0), .int .i64 ((rd_T74 x5_1 a1).f1), .int .i64 x416002_1]) ?_ 2 _ rfl; (with_reducible repeat (first | refine blk_drewN ?_ _ | refine blk_drew ?_ | refine blk_alloc ?_ _)); refine blk_put (cs := #[.int .i64 ((rd_T74 x5_1 a1).f0), .int .i64 x416001_1, .int .i64 x416002_1]) ?_ 1 _ rfl; (with_reducible repeat (first | refine blk_drewN ?_ _ | refine blk_drew ?_ | refine blk_alloc ?_ _)); refine blk_put (cs := #[.int .i64 x416000_1, .int .i64 x416001_1, .int .i64 x416002_1]) ?_ 0 _ rfl; (with_reducible repeat (first | refine blk_drewN ?_ _ | refine blk_drew ?_ | refine blk_alloc ?_ _)); exact BK415.out) Tryd.underlying74 rfl (by kernel_rfl)) rfl ?_
                  exact ⟨by first | rfl | (simp [errW_none, errW_some] <;> rfl) | (simp only [← hji3]; first | rfl | (simp [errW_none, errW_some] <;> rfl)) | (simp [*, errW_none, errW_some] <;> rfl), by repeat (first | (with_reducible first | exact HB.out | apply below_alloc | apply pw_below_drewN | apply below_drew1 | refine below_set ?_ GE415.out) | exact HB.out)⟩
                · rw [if_neg c102] at H
                  exact absurd H (by simp)
              · rw [if_neg c101] at H
                exact absurd H (by simp)
      · rw [if_neg c7] at H
        exact absurd H (by simp)
    · rw [if_neg c5] at H
      exact absurd H (by simp)
  · rw [if_neg c4] at H
    exact absurd H (by simp)

end Go.Proofs.YtoamflnkaaconaaDoor.X
