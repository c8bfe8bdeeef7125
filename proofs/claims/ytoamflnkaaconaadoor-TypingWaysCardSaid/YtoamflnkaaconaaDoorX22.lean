/- Contracts of functions, written by a program of this work (xprint.py) out of the translation. -/
import Derived.Test.YtoamflnkaaconaaDoorX0
import Derived.Test.YtoamflnkaaconaaDoorX5
import Derived.Test.YtoamflnkaaconaaDoorX6
import Derived.Test.YtoamflnkaaconaaDoorHandCheck
import Derived.Test.YtoamflnkaaconaaDoorGlob
namespace Go.Proofs.YtoamflnkaaconaaDoor.X
open Go.RowKit Go.Proofs.YtoamflnkaaconaaDoorW.PrintWords Go.Proofs.YtoamflnkaaconaaDoorW.PrintLast Go.Proofs.YtoamflnkaaconaaDoorW.PrintMore
attribute [local go_sem] max2_int min2_int max_two min_two max_three min_three max_four min_four   -- for this text's walks alone
set_option linter.unusedVariables false
set_option linter.unusedSimpArgs false

/-! ### typing_Plan: function 20 -/
mutual
def typing_Plan.j0 : Nat → Bool → List (S37) → Int → List Int → List (S47) → List (S69) → Int → Option (Int)
  | 0, _, _, _, _, _, _, _ => none
  | k + 1, x18, x443000, x443001, x443002, x443003, x443004, x443005 => if x18 = true then (some 1) else (if x443001 = (-1) then (some 2) else (if 0 ≤ x443001 then (if x443001 < (x443000.length : Int) then (if ((rd_T37 x443000 x443001).f0) = 4 then ((typing_against.f x443000 ((rd_T37 x443000 x443001).f0) ((rd_T37 x443000 x443001).f1) ((rd_T37 x443000 x443001).f2) ((rd_T37 x443000 x443001).f3) ((rd_T37 x443000 x443001).f4) ((rd_T37 x443000 x443001).f5) 6 18).bind fun t450 => (typing_Plan.j1 k t450 x443000 x443001 x443002 x443003 x443004 x443005)) else (if ((rd_T37 x443000 x443001).f0) = 10 then ((typing_against.f x443000 ((rd_T37 x443000 x443001).f0) ((rd_T37 x443000 x443001).f1) ((rd_T37 x443000 x443001).f2) ((rd_T37 x443000 x443001).f3) ((rd_T37 x443000 x443001).f4) ((rd_T37 x443000 x443001).f5) 6 18).bind fun t451 => (typing_Plan.j1 k t451 x443000 x443001 x443002 x443003 x443004 x443005)) else (typing_Plan.j1 k false x443000 x443001 x443002 x443003 x443004 x443005))) else (none)) else (none)))
def typing_Plan.j1 : Nat → Bool → List (S37) → Int → List Int → List (S47) → List (S69) → Int → Option (Int)
  | 0, _, _, _, _, _, _, _ => none
  | k + 1, x41, x443000, x443001, x443002, x443003, x443004, x443005 => if x41 = true then (some 2) else ((typing_counted.f k x443000 x443001).bind fun bt452 => (if bt452.1 = 1 then (if bt452.2.1 > 0 then (if bt452.2.2 = 0 then (some 3) else (some 1)) else (some 1)) else (some 1)))
end
def typing_Plan.f (k : Nat) (l0_0 : List (S37)) (a0_1 : Int) (l0_2 : List Int) (l0_3 : List (S47)) (l0_4 : List (S69)) (a0_5 : Int) : Option (Int) := (typing_Check.f l0_0 a0_1 l0_2 l0_3 l0_4 a0_5).bind fun bt443 => (if bt443.2 = 0 then ((typing_bare.f k l0_0 a0_1 l0_2 l0_3 l0_4 a0_5).bind fun t447 => (typing_Plan.j0 k (!t447) l0_0 a0_1 l0_2 l0_3 l0_4 a0_5)) else (typing_Plan.j0 k true l0_0 a0_1 l0_2 l0_3 l0_4 a0_5))
theorem typing_Plan.mono_l : ∀ k, (∀ y0 y1 y2 y3 y4 y5 y6, LeO (typing_Plan.j0 k y0 y1 y2 y3 y4 y5 y6) (typing_Plan.j0 (k + 1) y0 y1 y2 y3 y4 y5 y6)) ∧ (∀ y0 y1 y2 y3 y4 y5 y6, LeO (typing_Plan.j1 k y0 y1 y2 y3 y4 y5 y6) (typing_Plan.j1 (k + 1) y0 y1 y2 y3 y4 y5 y6))
  | 0 => ⟨fun _ _ _ _ _ _ _ r h => by simp [typing_Plan.j0] at h, fun _ _ _ _ _ _ _ r h => by simp [typing_Plan.j1] at h⟩
  | k + 1 => by
    obtain ⟨ih0, ih1⟩ := typing_Plan.mono_l k
    refine ⟨?_, ?_⟩
    · intro y0 y1 y2 y3 y4 y5 y6
      unfold typing_Plan.j0
      repeat' first
      | (with_reducible exact ih0 _ _ _ _ _ _ _)
      | (with_reducible exact ih1 _ _ _ _ _ _ _)
      | (with_reducible exact typing_bare.mono _ _ _ _ _ _ _)
      | (with_reducible exact typing_counted.mono _ _ _)
      | (with_reducible exact LeO.refl _)
      | (with_reducible exact LeO.none _)
      | (with_reducible refine LeO.ite ?_ ?_)
      | (with_reducible refine LeO.bind ?_ (fun _ => ?_))
      | exact ih0 _ _ _ _ _ _ _
      | exact ih1 _ _ _ _ _ _ _
      | exact typing_bare.mono _ _ _ _ _ _ _
      | exact typing_counted.mono _ _ _
      | exact LeO.none _
      | refine LeO.ite ?_ ?_
      | refine LeO.bind ?_ (fun _ => ?_)
    · intro y0 y1 y2 y3 y4 y5 y6
      unfold typing_Plan.j1
      repeat' first
      | (with_reducible exact ih0 _ _ _ _ _ _ _)
      | (with_reducible exact ih1 _ _ _ _ _ _ _)
      | (with_reducible exact typing_bare.mono _ _ _ _ _ _ _)
      | (with_reducible exact typing_counted.mono _ _ _)
      | (with_reducible exact LeO.refl _)
      | (with_reducible exact LeO.none _)
      | (with_reducible refine LeO.ite ?_ ?_)
      | (with_reducible refine LeO.bind ?_ (fun _ => ?_))
      | exact ih0 _ _ _ _ _ _ _
      | exact ih1 _ _ _ _ _ _ _
      | exact typing_bare.mono _ _ _ _ _ _ _
      | exact typing_counted.mono _ _ _
      | exact LeO.none _
      | refine LeO.ite ?_ ?_
      | refine LeO.bind ?_ (fun _ => ?_)
theorem typing_Plan.mono : ∀ a0 a1 a2 a3 a4 a5 k, LeO (typing_Plan.f k a0 a1 a2 a3 a4 a5) (typing_Plan.f (k + 1) a0 a1 a2 a3 a4 a5) := by
  intro a0 a1 a2 a3 a4 a5 k
  obtain ⟨ih0, ih1⟩ := typing_Plan.mono_l k
  unfold typing_Plan.f
  repeat' first
      | (with_reducible exact ih0 _ _ _ _ _ _ _)
      | (with_reducible exact ih1 _ _ _ _ _ _ _)
      | (with_reducible exact typing_bare.mono _ _ _ _ _ _ _)
      | (with_reducible exact typing_counted.mono _ _ _)
      | (with_reducible exact LeO.refl _)
      | (with_reducible exact LeO.none _)
      | (with_reducible refine LeO.ite ?_ ?_)
      | (with_reducible refine LeO.bind ?_ (fun _ => ?_))
      | exact ih0 _ _ _ _ _ _ _
      | exact ih1 _ _ _ _ _ _ _
      | exact typing_bare.mono _ _ _ _ _ _ _
      | exact typing_counted.mono _ _ _
      | exact LeO.none _
      | refine LeO.ite ?_ ?_
      | refine LeO.bind ?_ (fun _ => ?_)
set_option maxHeartbeats 8000000 in
set_option maxRecDepth 100000 in
theorem typing_Plan.calls (k : Nat) (A0_0 : Option Addr) (c0_0 : Nat) (l0_0 : List (S37)) (a0_1 : Int) (A0_2 : Option Addr) (c0_2 : Nat) (l0_2 : List Int) (A0_3 : Option Addr) (c0_3 : Nat) (l0_3 : List (S47)) (A0_4 : Option Addr) (c0_4 : Nat) (l0_4 : List (S69)) (a0_5 : Int) (r : Int) (w : World) (hr0_0 : Kd.C k37 w A0_0 l0_0.length l0_0) (hc0_0 : l0_0.length ≤ c0_0) (hr0_2 : Kd.C (Kd.int .i64) w A0_2 l0_2.length l0_2) (hc0_2 : l0_2.length ≤ c0_2) (hr0_3 : Kd.C k47 w A0_3 l0_3.length l0_3) (hc0_3 : l0_3.length ≤ c0_3) (hr0_4 : Kd.C k69 w A0_4 l0_4.length l0_4) (hc0_4 : l0_4.length ≤ c0_4) (h : typing_Plan.f k l0_0 a0_1 l0_2 l0_3 l0_4 a0_5 = some r) (G : Glob w) :
    Calls Tryd.prog 20 #[.agg #[.slice A0_0 l0_0.length c0_0, .int .i64 a0_1, .slice A0_2 l0_2.length c0_2, .slice A0_3 l0_3.length c0_3, .slice A0_4 l0_4.length c0_4, .int .i64 a0_5]] w fun e w' => e = .returned (.int .i64 r) ∧ Below w.heap.size w w' := by
  have G0 := Aside0.mk G
  clear G
  have hu32 := Tryd.underlying32
  have hu37 := Tryd.underlying37
  have hu74 := Tryd.underlying74
  have HR0_0 := Aside0.mk hr0_0
  have HC0_0 := Aside0.mk hc0_0
  clear hr0_0 hc0_0
  have HR0_2 := Aside0.mk hr0_2
  have HC0_2 := Aside0.mk hc0_2
  clear hr0_2 hc0_2
  have HR0_3 := Aside0.mk hr0_3
  have HC0_3 := Aside0.mk hc0_3
  clear hr0_3 hc0_3
  have HR0_4 := Aside0.mk hr0_4
  have HC0_4 := Aside0.mk hc0_4
  clear hr0_4 hc0_4
  have HB := Aside0.mk (Below.refl w.heap.size w)
  have H : ((typing_Check.f l0_0 a0_1 l0_2 l0_3 l0_4 a0_5).bind fun bt443 => (if bt443.2 = 0 then ((typing_bare.f k l0_0 a0_1 l0_2 l0_3 l0_4 a0_5).bind fun t447 => (typing_Plan.j0 k (!t447) l0_0 a0_1 l0_2 l0_3 l0_4 a0_5)) else (typing_Plan.j0 k true l0_0 a0_1 l0_2 l0_3 l0_4 a0_5))) = some r := h
  clear h
  replace H := Option.bind_eq_some_iff.mp H
  obtain ⟨⟨t443, t446⟩, A20, H⟩ := H
  replace H : (if t446 = 0 then ((typing_bare.f k l0_0 a0_1 l0_2 l0_3 l0_4 a0_5).bind fun t447 => (typing_Plan.j0 k (!t447) l0_0 a0_1 l0_2 l0_3 l0_4 a0_5)) else (typing_Plan.j0 k true l0_0 a0_1 l0_2 l0_3 l0_4 a0_5)) = some r := H
  have A2 := Aside0.mk A20
  clear A20
  have HC3 := Aside0.mk H
  clear H
  go_enter Tryd.func20, Tryd.ntmps20
  go_upto_region 2 with (first | ((with_reducible refine gate_dst (N := 1) rfl ?_); refine box_event ?hg (N := 1) ?hd (cs := #[.slice A0_0 l0_0.length c0_0, .int .i64 a0_1, .slice A0_2 l0_2.length c0_2, .slice A0_3 l0_3.length c0_3, .slice A0_4 l0_4.length c0_4, .int .i64 a0_5]) (t := 32) ?hr ?_; (case hd => rfl); (case hg => rfl); (case hr => first | (go_simp; done) | (go_simp; rfl)); intro gb442 hg w4 hbox hb; have n0_ := Aside0.mk (below_step (by repeat (first | (with_reducible first | exact HB.out | apply below_alloc | apply pw_below_drewN | apply below_drew1) | exact HB.out)) hb); have n1_ := Aside0.mk (hbox); have n2_ := Aside0.mk ((by rw [hg]; exact (below_size (by repeat (first | (with_reducible first | exact HB.out | apply below_alloc | apply pw_below_drewN | apply below_drew1) | exact HB.out))) : w.heap.size ≤ gb442)); have n3_ := Aside0.mk ((by rw [hg]; exact (below_size (by repeat (first | (with_reducible first | exact HB.out | apply below_alloc | apply pw_below_drewN | apply below_drew1) | exact HB.out))) : w.heap.size ≤ gb442)); clear HB; have HB := n0_; have BK442 := n1_; have GW442 := n2_; have GE442 := n3_; clear n0_ n1_ n2_ n3_; clear hb hbox hg; have hcz5_0 : w4.cell? ⟨gb442, 0, none⟩ = some (.slice A0_0 l0_0.length c0_0) := (blk_cell BK442.out 0).trans rfl; have hcz5_1 : w4.cell? ⟨gb442, 1, none⟩ = some (.int .i64 a0_1) := (blk_cell BK442.out 1).trans rfl; have hcz5_2 : w4.cell? ⟨gb442, 2, none⟩ = some (.slice A0_2 l0_2.length c0_2) := (blk_cell BK442.out 2).trans rfl; have hcz5_3 : w4.cell? ⟨gb442, 3, none⟩ = some (.slice A0_3 l0_3.length c0_3) := (blk_cell BK442.out 3).trans rfl; have hcz5_4 : w4.cell? ⟨gb442, 4, none⟩ = some (.slice A0_4 l0_4.length c0_4) := (blk_cell BK442.out 4).trans rfl; have hcz5_5 : w4.cell? ⟨gb442, 5, none⟩ = some (.int .i64 a0_5) := (blk_cell BK442.out 5).trans rfl; have hfz5_0 := blk_frozen BK442.out 0; have hfz5_1 := blk_frozen BK442.out 1; have hfz5_2 := blk_frozen BK442.out 2; have hfz5_3 := blk_frozen BK442.out 3; have hfz5_4 := blk_frozen BK442.out 4; have hfz5_5 := blk_frozen BK442.out 5) | ((with_reducible refine gate_callee (f := 17) rfl ?_); refine goesL_ (some 9) rfl rfl Tryd.func17 (by kernel_rfl) rfl #[.agg #[.slice A0_0 l0_0.length c0_0, .int .i64 a0_1, .slice A0_2 l0_2.length c0_2, .slice A0_3 l0_3.length c0_3, .slice A0_4 l0_4.length c0_4, .int .i64 a0_5]] rfl (by (try simp only [List.map_toArray, List.map_cons, List.map_nil]); first | done | rfl | (simp only [List.length_drop, List.length_take]; rfl)) ?_; (with_reducible refine (typing_Check.calls _ _ l0_0 a0_1 _ _ l0_2 _ _ l0_3 _ _ l0_4 a0_5 t443 t446 _ ?side1 ?side2 ?side3 ?side4 ?side5 ?side6 ?side7 ?side8 A2.out (Glob.step G0.out (by repeat (first | (with_reducible first | exact HB.out | apply below_alloc | apply pw_below_drewN | apply below_drew1) | exact HB.out)))).mono ?_); (case side1 => repeat (first | exact (Kd.C_below HR0_0.out HB.out) | (with_reducible refine Kd.C_alloc ?_ _) | (with_reducible refine Kd.C_drewN ?_ _) | (with_reducible refine Kd.C_drew ?_))); (case side2 => exact HC0_0.out); (case side3 => repeat (first | exact (Kd.C_below HR0_2.out HB.out) | (with_reducible refine Kd.C_alloc ?_ _) | (with_reducible refine Kd.C_drewN ?_ _) | (with_reducible refine Kd.C_drew ?_))); (case side4 => exact HC0_2.out); (case side5 => repeat (first | exact (Kd.C_below HR0_3.out HB.out) | (with_reducible refine Kd.C_alloc ?_ _) | (with_reducible refine Kd.C_drewN ?_ _) | (with_reducible refine Kd.C_drew ?_))); (case side6 => exact HC0_3.out); (case side7 => repeat (first | exact (Kd.C_below HR0_4.out HB.out) | (with_reducible refine Kd.C_alloc ?_ _) | (with_reducible refine Kd.C_drewN ?_ _) | (with_reducible refine Kd.C_drew ?_))); (case side8 => exact HC0_4.out); rintro e w6 ⟨v444, rfl, ho0, hb⟩; refine ⟨_, rfl, ?_⟩; have n0_ := Aside0.mk (Kd.R_lower ho0 (below_size (by repeat (first | (with_reducible first | exact HB.out | apply below_alloc | apply pw_below_drewN | apply below_drew1 | refine below_set ?_ GE442.out) | exact HB.out)))); have n1_ := Aside0.mk (blk_below (g := gb442) (o := .cells #[.slice A0_0 l0_0.length c0_0, .int .i64 a0_1, .slice A0_2 l0_2.length c0_2, .slice A0_3 l0_3.length c0_3, .slice A0_4 l0_4.length c0_4, .int .i64 a0_5] 32 (0, 0)) (by (with_reducible repeat (first | refine blk_drewN ?_ _ | refine blk_drew ?_ | refine blk_alloc ?_ _)); exact BK442.out) hb); have n2_ := Aside0.mk (below_step (by repeat (first | (with_reducible first | exact HB.out | apply below_alloc | apply pw_below_drewN | apply below_drew1 | refine below_set ?_ GE442.out) | exact HB.out)) hb); clear BK442; clear HB; have HO445 := n0_; have BK442 := n1_; have HB := n2_; clear n0_ n1_ n2_; (try clear hb); (try clear hb2); (try clear hk); (try clear hi); (try clear ho0)))
  (try simp only [Act.put, List.setIfInBounds_toArray, List.set_cons_zero, List.set_cons_succ])
  go_cut [18] (fun v18 wc => ∃ (kq : Nat) (x18_2 : Bool), v18 = .bool x18_2 ∧ Aside0 (typing_Plan.j0 kq x18_2 l0_0 a0_1 l0_2 l0_3 l0_4 a0_5 = some r) ∧ Aside0 (kq ≤ k) ∧ Aside0 (wc.heap[gb442]? = some (.cells #[(.slice A0_0 l0_0.length c0_0), .int .i64 a0_1, (.slice A0_2 l0_2.length c0_2), (.slice A0_3 l0_3.length c0_3), (.slice A0_4 l0_4.length c0_4), .int .i64 a0_5] 32 (0, 0))) ∧ Aside0 (Below w.heap.size w wc))
  case first =>
    have H := HC3.out
    clear HC3
    by_cases c7 : t446 = 0
    · rw [if_pos c7] at H
      have c7b0 : (t446 == 0) = true := beq_iff_eq.mpr c7
      have c7b1 : (t446 != 0) = false := bne_eq_false_iff_eq.mpr c7
      clear c7
      (first | rw [c7b0] | (simp only [i64_w, i32_w]; rw [c7b0]) | skip)
      replace H := Option.bind_eq_some_iff.mp H
      obtain ⟨t447, A80, H⟩ := H
      replace H : (typing_Plan.j0 k (!t447) l0_0 a0_1 l0_2 l0_3 l0_4 a0_5) = some r := H
      have A8 := Aside0.mk A80
      clear A80
      have H' := Aside0.mk H
      clear H
      have hcz9_0 : w6.cell? ⟨gb442, 0, none⟩ = some (.slice A0_0 l0_0.length c0_0) := (blk_cell BK442.out 0).trans rfl
      have hcz9_1 : w6.cell? ⟨gb442, 1, none⟩ = some (.int .i64 a0_1) := (blk_cell BK442.out 1).trans rfl
      have hcz9_2 : w6.cell? ⟨gb442, 2, none⟩ = some (.slice A0_2 l0_2.length c0_2) := (blk_cell BK442.out 2).trans rfl
      have hcz9_3 : w6.cell? ⟨gb442, 3, none⟩ = some (.slice A0_3 l0_3.length c0_3) := (blk_cell BK442.out 3).trans rfl
      have hcz9_4 : w6.cell? ⟨gb442, 4, none⟩ = some (.slice A0_4 l0_4.length c0_4) := (blk_cell BK442.out 4).trans rfl
      have hcz9_5 : w6.cell? ⟨gb442, 5, none⟩ = some (.int .i64 a0_5) := (blk_cell BK442.out 5).trans rfl
      have hfz9_0 := blk_frozen BK442.out 0
      have hfz9_1 := blk_frozen BK442.out 1
      have hfz9_2 := blk_frozen BK442.out 2
      have hfz9_3 := blk_frozen BK442.out 3
      have hfz9_4 := blk_frozen BK442.out 4
      have hfz9_5 := blk_frozen BK442.out 5
      go_wp2_with (first | (go_at_call 31; (with_reducible refine (typing_bare.calls k _ _ l0_0 a0_1 _ _ l0_2 _ _ l0_3 _ _ l0_4 a0_5 t447 _ ?side1 ?side2 ?side3 ?side4 ?side5 ?side6 ?side7 ?side8 A8.out).mono ?_); (case side1 => repeat (first | exact (Kd.C_below HR0_0.out HB.out) | (with_reducible refine Kd.C_alloc ?_ _) | (with_reducible refine Kd.C_drewN ?_ _) | (with_reducible refine Kd.C_drew ?_))); (case side2 => exact HC0_0.out); (case side3 => repeat (first | exact (Kd.C_below HR0_2.out HB.out) | (with_reducible refine Kd.C_alloc ?_ _) | (with_reducible refine Kd.C_drewN ?_ _) | (with_reducible refine Kd.C_drew ?_))); (case side4 => exact HC0_2.out); (case side5 => repeat (first | exact (Kd.C_below HR0_3.out HB.out) | (with_reducible refine Kd.C_alloc ?_ _) | (with_reducible refine Kd.C_drewN ?_ _) | (with_reducible refine Kd.C_drew ?_))); (case side6 => exact HC0_3.out); (case side7 => repeat (first | exact (Kd.C_below HR0_4.out HB.out) | (with_reducible refine Kd.C_alloc ?_ _) | (with_reducible refine Kd.C_drewN ?_ _) | (with_reducible refine Kd.C_drew ?_))); (case side8 => exact HC0_4.out); rintro e w10 ⟨rfl, hb⟩; have n0_ := Aside0.mk (Kd.R_below (by (with_reducible repeat (first | apply Kd.R_alloc | apply Kd.R_drewN | apply Kd.R_drew)); exact HO445.out) hb); have n1_ := Aside0.mk (blk_below (g := gb442) (o := .cells #[.slice A0_0 l0_0.length c0_0, .int .i64 a0_1, .slice A0_2 l0_2.length c0_2, .slice A0_3 l0_3.length c0_3, .slice A0_4 l0_4.length c0_4, .int .i64 a0_5] 32 (0, 0)) (by (with_reducible repeat (first | refine blk_drewN ?_ _ | refine blk_drew ?_ | refine blk_alloc ?_ _)); exact BK442.out) hb); have n2_ := Aside0.mk (below_step (by repeat (first | (with_reducible first | exact HB.out | apply below_alloc | apply pw_below_drewN | apply below_drew1 | refine below_set ?_ GE442.out) | exact HB.out)) hb); clear HO445; clear BK442; clear HB; have HO445 := n0_; have BK442 := n1_; have HB := n2_; clear n0_ n1_ n2_; (try clear hb); (try clear hb2); (try clear hk); (try clear hi)))
      go_meet
      case rel => exact ⟨_, (!t447), (by first | rfl | (simp; done) | (simp [*]; done)), H', ⟨by first | omega | exact Nat.le_refl _⟩, ⟨by (with_reducible repeat (first | refine blk_drewN ?_ _ | refine blk_drew ?_ | refine blk_alloc ?_ _)); exact BK442.out⟩, ⟨by repeat (first | (with_reducible first | exact HB.out | apply below_alloc | apply pw_below_drewN | apply below_drew1 | refine below_set ?_ GE442.out) | exact HB.out)⟩⟩
    · rw [if_neg c7] at H
      have c7b0 : (t446 == 0) = false := beq_eq_false_iff_ne.mpr c7
      have c7b1 : (t446 != 0) = true := bne_iff_ne.mpr c7
      (first | rw [c7b0] | (simp only [i64_w, i32_w]; rw [c7b0]) | skip)
      have H' := Aside0.mk H
      clear H
      go_wp2
      go_meet
      case rel => exact ⟨_, (true), (by first | rfl | (simp; done) | (simp [*]; done)), H', ⟨by first | omega | exact Nat.le_refl _⟩, ⟨by (with_reducible repeat (first | refine blk_drewN ?_ _ | refine blk_drew ?_ | refine blk_alloc ?_ _)); exact BK442.out⟩, ⟨by repeat (first | (with_reducible first | exact HB.out | apply below_alloc | apply pw_below_drewN | apply below_drew1 | refine below_set ?_ GE442.out) | exact HB.out)⟩⟩
  case rest =>
    clear HC3
    try clear c1
    try clear c2
    try clear p2
    try clear c7
    try clear c7b0
    try clear c7b1
    try clear hcz5_0
    try clear hcz5_1
    try clear hcz5_2
    try clear hcz5_3
    try clear hcz5_4
    try clear hcz5_5
    try clear hcz9_0
    try clear hcz9_1
    try clear hcz9_2
    try clear hcz9_3
    try clear hcz9_4
    try clear hcz9_5
    try clear hfz5_0
    try clear hfz5_1
    try clear hfz5_2
    try clear hfz5_3
    try clear hfz5_4
    try clear hfz5_5
    try clear hfz9_0
    try clear hfz9_1
    try clear hfz9_2
    try clear hfz9_3
    try clear hfz9_4
    try clear hfz9_5
    obtain ⟨kq, x18_2, rfl, HA, HJ2, BK442, HB⟩ := hcut
    cases kq with
    | zero => exact absurd HA.out (by simp [typing_Plan.j0])
    | succ kj2 =>
      have H := HA.out
      clear HA
      simp only [typing_Plan.j0] at H
      by_cases c11 : x18_2 = true
      · subst c11
        have H1 : (some 1) = some r := by rw [if_pos rfl] at H; exact H
        clear H
        have H := H1
        clear H1
        obtain rfl := Option.some.inj H
        go_wp2
        go_ret
        exact ⟨by first | rfl | (simp [errW_none, errW_some] <;> rfl) | (simp [*, errW_none, errW_some] <;> rfl), by repeat (first | (with_reducible first | exact HB.out | apply below_alloc | apply pw_below_drewN | apply below_drew1 | refine below_set ?_ GE442.out) | exact HB.out)⟩
      · replace c11 := Bool.eq_false_iff.mpr c11
        subst c11
        have H1 : (if a0_1 = (-1) then (some 2) else (if 0 ≤ a0_1 then (if a0_1 < (l0_0.length : Int) then (if ((rd_T37 l0_0 a0_1).f0) = 4 then ((typing_against.f l0_0 ((rd_T37 l0_0 a0_1).f0) ((rd_T37 l0_0 a0_1).f1) ((rd_T37 l0_0 a0_1).f2) ((rd_T37 l0_0 a0_1).f3) ((rd_T37 l0_0 a0_1).f4) ((rd_T37 l0_0 a0_1).f5) 6 18).bind fun t450 => (typing_Plan.j1 kj2 t450 l0_0 a0_1 l0_2 l0_3 l0_4 a0_5)) else (if ((rd_T37 l0_0 a0_1).f0) = 10 then ((typing_against.f l0_0 ((rd_T37 l0_0 a0_1).f0) ((rd_T37 l0_0 a0_1).f1) ((rd_T37 l0_0 a0_1).f2) ((rd_T37 l0_0 a0_1).f3) ((rd_T37 l0_0 a0_1).f4) ((rd_T37 l0_0 a0_1).f5) 6 18).bind fun t451 => (typing_Plan.j1 kj2 t451 l0_0 a0_1 l0_2 l0_3 l0_4 a0_5)) else (typing_Plan.j1 kj2 false l0_0 a0_1 l0_2 l0_3 l0_4 a0_5))) else (none)) else (none))) = some r := by rw [if_neg (show ¬ (false = true) by decide)] at H; exact H
        clear H
        have H := H1
        clear H1
        by_cases c12 : a0_1 = (-1)
        · rw [if_pos c12] at H
          have c12b0 : (a0_1 == (-1)) = true := beq_iff_eq.mpr c12
          have c12b1 : (a0_1 != (-1)) = false := bne_eq_false_iff_eq.mpr c12
          clear c12
          obtain rfl := Option.some.inj H
          have hcz13_0 : wc.cell? ⟨gb442, 0, none⟩ = some (.slice A0_0 l0_0.length c0_0) := (blk_cell BK442.out 0).trans rfl
          have hcz13_1 : wc.cell? ⟨gb442, 1, none⟩ = some (.int .i64 a0_1) := (blk_cell BK442.out 1).trans rfl
          have hcz13_2 : wc.cell? ⟨gb442, 2, none⟩ = some (.slice A0_2 l0_2.length c0_2) := (blk_cell BK442.out 2).trans rfl
          have hcz13_3 : wc.cell? ⟨gb442, 3, none⟩ = some (.slice A0_3 l0_3.length c0_3) := (blk_cell BK442.out 3).trans rfl
          have hcz13_4 : wc.cell? ⟨gb442, 4, none⟩ = some (.slice A0_4 l0_4.length c0_4) := (blk_cell BK442.out 4).trans rfl
          have hcz13_5 : wc.cell? ⟨gb442, 5, none⟩ = some (.int .i64 a0_5) := (blk_cell BK442.out 5).trans rfl
          have hfz13_0 := blk_frozen BK442.out 0
          have hfz13_1 := blk_frozen BK442.out 1
          have hfz13_2 := blk_frozen BK442.out 2
          have hfz13_3 := blk_frozen BK442.out 3
          have hfz13_4 := blk_frozen BK442.out 4
          have hfz13_5 := blk_frozen BK442.out 5
          go_wp2
          go_ret
          exact ⟨by first | rfl | (simp [errW_none, errW_some] <;> rfl) | (simp [*, errW_none, errW_some] <;> rfl), by repeat (first | (with_reducible first | exact HB.out | apply below_alloc | apply pw_below_drewN | apply below_drew1 | refine below_set ?_ GE442.out) | exact HB.out)⟩
        · rw [if_neg c12] at H
          have c12b0 : (a0_1 == (-1)) = false := beq_eq_false_iff_ne.mpr c12
          have c12b1 : (a0_1 != (-1)) = true := bne_iff_ne.mpr c12
          by_cases c14 : 0 ≤ a0_1
          · rw [if_pos c14] at H
            have c14b0 : decide (0 ≤ a0_1) = true := decide_eq_true c14
            clear c14
            by_cases c15 : a0_1 < (l0_0.length : Int)
            · rw [if_pos c15] at H
              have c15b0 : decide (a0_1 < (l0_0.length : Int)) = true := decide_eq_true c15
              clear c15
              have HC16 := Aside0.mk H
              clear H
              have hcz17_0 : wc.cell? ⟨gb442, 0, none⟩ = some (.slice A0_0 l0_0.length c0_0) := (blk_cell BK442.out 0).trans rfl
              have hcz17_1 : wc.cell? ⟨gb442, 1, none⟩ = some (.int .i64 a0_1) := (blk_cell BK442.out 1).trans rfl
              have hcz17_2 : wc.cell? ⟨gb442, 2, none⟩ = some (.slice A0_2 l0_2.length c0_2) := (blk_cell BK442.out 2).trans rfl
              have hcz17_3 : wc.cell? ⟨gb442, 3, none⟩ = some (.slice A0_3 l0_3.length c0_3) := (blk_cell BK442.out 3).trans rfl
              have hcz17_4 : wc.cell? ⟨gb442, 4, none⟩ = some (.slice A0_4 l0_4.length c0_4) := (blk_cell BK442.out 4).trans rfl
              have hcz17_5 : wc.cell? ⟨gb442, 5, none⟩ = some (.int .i64 a0_5) := (blk_cell BK442.out 5).trans rfl
              have hfz17_0 := blk_frozen BK442.out 0
              have hfz17_1 := blk_frozen BK442.out 1
              have hfz17_2 := blk_frozen BK442.out 2
              have hfz17_3 := blk_frozen BK442.out 3
              have hfz17_4 := blk_frozen BK442.out 4
              have hfz17_5 := blk_frozen BK442.out 5
              have p448 : 0 ≤ (a0_1 : Int) := of_decide_eq_true (by first | (with_reducible assumption) | assumption)
              have q448 : a0_1 < (l0_0.length : Int) := of_decide_eq_true (by first | (with_reducible assumption) | assumption)
              obtain ⟨ad448, e448, hx448_0, hx448_1, hx448_2, hx448_3, hx448_4, hx448_5⟩ := at_T37 HR0_0.out a0_1 p448 q448
              cases e448
              replace hx448_0 := (HB.out.cell (World.block_lt_of_cell? w _ hx448_0)).trans hx448_0
              replace hx448_1 := (HB.out.cell (World.block_lt_of_cell? w _ hx448_1)).trans hx448_1
              replace hx448_2 := (HB.out.cell (World.block_lt_of_cell? w _ hx448_2)).trans hx448_2
              replace hx448_3 := (HB.out.cell (World.block_lt_of_cell? w _ hx448_3)).trans hx448_3
              replace hx448_4 := (HB.out.cell (World.block_lt_of_cell? w _ hx448_4)).trans hx448_4
              replace hx448_5 := (HB.out.cell (World.block_lt_of_cell? w _ hx448_5)).trans hx448_5
              replace p448 := eq_true p448
              replace q448 := eq_true q448
              go_upto_region 7 with (first | ((with_reducible refine gate_dst (N := 5) rfl ?_); refine box_event ?hg (N := 5) ?hd (cs := #[.int .i64 0, .int .i64 0, .int .i64 0, .int .i64 0, .int .i64 0, .string (⟨#[]⟩ : ByteArray)]) (t := 37) ?hr ?_; (case hd => rfl); (case hg => rfl); (case hr => first | (go_simp; done) | (go_simp; rfl)); intro gb449 hg w18 hbox hb; have n0_ := Aside0.mk (blk_below (g := gb442) (o := .cells #[.slice (some ad448) l0_0.length c0_0, .int .i64 a0_1, .slice A0_2 l0_2.length c0_2, .slice A0_3 l0_3.length c0_3, .slice A0_4 l0_4.length c0_4, .int .i64 a0_5] 32 (0, 0)) (by (with_reducible repeat (first | refine blk_drewN ?_ _ | refine blk_drew ?_ | refine blk_alloc ?_ _)); exact BK442.out) hb); have n1_ := Aside0.mk (below_step (by repeat (first | (with_reducible first | exact HB.out | apply below_alloc | apply pw_below_drewN | apply below_drew1 | refine below_set ?_ GE442.out) | exact HB.out)) hb); have n2_ := Aside0.mk (hbox); have n3_ := Aside0.mk ((by rw [hg]; exact (below_size (by repeat (first | (with_reducible first | exact HB.out | apply below_alloc | apply pw_below_drewN | apply below_drew1 | refine below_set ?_ GE442.out) | exact HB.out))) : w.heap.size ≤ gb449)); have n4_ := Aside0.mk ((by rw [hg]; exact (below_size (by repeat (first | (with_reducible first | exact HB.out | apply below_alloc | apply pw_below_drewN | apply below_drew1 | refine below_set ?_ GE442.out) | exact HB.out))) : w.heap.size ≤ gb449)); have n5_ := Aside0.mk ((by rw [hg]; exact Nat.ne_of_lt (blk_lt (g := gb442) (o := .cells #[.slice (some ad448) l0_0.length c0_0, .int .i64 a0_1, .slice A0_2 l0_2.length c0_2, .slice A0_3 l0_3.length c0_3, .slice A0_4 l0_4.length c0_4, .int .i64 a0_5] 32 (0, 0)) (by (with_reducible repeat (first | refine blk_drewN ?_ _ | refine blk_drew ?_ | refine blk_alloc ?_ _)); exact BK442.out)) : gb442 ≠ gb449)); have n6_ := Aside0.mk ((by rw [hg]; exact Nat.ne_of_gt (blk_lt (g := gb442) (o := .cells #[.slice (some ad448) l0_0.length c0_0, .int .i64 a0_1, .slice A0_2 l0_2.length c0_2, .slice A0_3 l0_3.length c0_3, .slice A0_4 l0_4.length c0_4, .int .i64 a0_5] 32 (0, 0)) (by (with_reducible repeat (first | refine blk_drewN ?_ _ | refine blk_drew ?_ | refine blk_alloc ?_ _)); exact BK442.out)) : gb449 ≠ gb442)); clear BK442; clear HB; have BK442 := n0_; have HB := n1_; have BK449 := n2_; have GW449 := n3_; have GE449 := n4_; have NB442_449 := n5_; have NB449_442 := n6_; clear n0_ n1_ n2_ n3_ n4_ n5_ n6_; clear hb hbox hg; have hnb19 := NB449_442.out; have hnc19 := NB442_449.out; have hcz20_0 : w18.cell? ⟨gb449, 0, none⟩ = some (.int .i64 0) := (blk_cell BK449.out 0).trans rfl; have hcz20_1 : w18.cell? ⟨gb449, 1, none⟩ = some (.int .i64 0) := (blk_cell BK449.out 1).trans rfl; have hcz20_2 : w18.cell? ⟨gb449, 2, none⟩ = some (.int .i64 0) := (blk_cell BK449.out 2).trans rfl; have hcz20_3 : w18.cell? ⟨gb449, 3, none⟩ = some (.int .i64 0) := (blk_cell BK449.out 3).trans rfl; have hcz20_4 : w18.cell? ⟨gb449, 4, none⟩ = some (.int .i64 0) := (blk_cell BK449.out 4).trans rfl; have hcz20_5 : w18.cell? ⟨gb449, 5, none⟩ = some (.string (⟨#[]⟩ : ByteArray)) := (blk_cell BK449.out 5).trans rfl; have hfz20_0 := blk_frozen BK449.out 0; have hfz20_1 := blk_frozen BK449.out 1; have hfz20_2 := blk_frozen BK449.out 2; have hfz20_3 := blk_frozen BK449.out 3; have hfz20_4 := blk_frozen BK449.out 4; have hfz20_5 := blk_frozen BK449.out 5))
              (try simp only [Act.put, List.setIfInBounds_toArray, List.set_cons_zero, List.set_cons_succ])
              go_cut [41] (fun v41 wc => ∃ (kq : Nat) (x41_15 : Bool), v41 = .bool x41_15 ∧ Aside0 (typing_Plan.j1 kq x41_15 l0_0 a0_1 l0_2 l0_3 l0_4 a0_5 = some r) ∧ Aside0 (kq ≤ kj2) ∧ Aside0 (wc.heap[gb442]? = some (.cells #[(.slice (some ad448) l0_0.length c0_0), .int .i64 a0_1, (.slice A0_2 l0_2.length c0_2), (.slice A0_3 l0_3.length c0_3), (.slice A0_4 l0_4.length c0_4), .int .i64 a0_5] 32 (0, 0))) ∧ Aside0 (wc.heap[gb449]? = some (.cells #[.int .i64 ((rd_T37 l0_0 a0_1).f0), .int .i64 ((rd_T37 l0_0 a0_1).f1), .int .i64 ((rd_T37 l0_0 a0_1).f2), .int .i64 ((rd_T37 l0_0 a0_1).f3), .int .i64 ((rd_T37 l0_0 a0_1).f4), .string ((rd_T37 l0_0 a0_1).f5)] 37 (0, 0))) ∧ Aside0 (Below w.heap.size w wc))
              case first =>
                have H := HC16.out
                clear HC16
                by_cases c21 : ((rd_T37 l0_0 a0_1).f0) = 4
                · rw [if_pos c21] at H
                  have c21b0 : (((rd_T37 l0_0 a0_1).f0) == 4) = true := beq_iff_eq.mpr c21
                  have c21b1 : (((rd_T37 l0_0 a0_1).f0) != 4) = false := bne_eq_false_iff_eq.mpr c21
                  clear c21
                  (first | rw [c21b0] | (simp only [i64_w, i32_w]; rw [c21b0]) | skip)
                  replace H := Option.bind_eq_some_iff.mp H
                  obtain ⟨t450, A220, H⟩ := H
                  replace H : (typing_Plan.j1 kj2 t450 l0_0 a0_1 l0_2 l0_3 l0_4 a0_5) = some r := H
                  have A22 := Aside0.mk A220
                  clear A220
                  have H' := Aside0.mk H
                  clear H
                  have hnb23 := NB449_442.out
                  have hnc23 := NB442_449.out
                  have hcz24_0 : w18.cell? ⟨gb449, 0, none⟩ = some (.int .i64 0) := (blk_cell BK449.out 0).trans rfl
                  have hcz24_1 : w18.cell? ⟨gb449, 1, none⟩ = some (.int .i64 0) := (blk_cell BK449.out 1).trans rfl
                  have hcz24_2 : w18.cell? ⟨gb449, 2, none⟩ = some (.int .i64 0) := (blk_cell BK449.out 2).trans rfl
                  have hcz24_3 : w18.cell? ⟨gb449, 3, none⟩ = some (.int .i64 0) := (blk_cell BK449.out 3).trans rfl
                  have hcz24_4 : w18.cell? ⟨gb449, 4, none⟩ = some (.int .i64 0) := (blk_cell BK449.out 4).trans rfl
                  have hcz24_5 : w18.cell? ⟨gb449, 5, none⟩ = some (.string (⟨#[]⟩ : ByteArray)) := (blk_cell BK449.out 5).trans rfl
                  have hfz24_0 := blk_frozen BK449.out 0
                  have hfz24_1 := blk_frozen BK449.out 1
                  have hfz24_2 := blk_frozen BK449.out 2
                  have hfz24_3 := blk_frozen BK449.out 3
                  have hfz24_4 := blk_frozen BK449.out 4
                  have hfz24_5 := blk_frozen BK449.out 5
                  have hcz25_0 : w18.cell? ⟨gb442, 0, none⟩ = some (.slice (some ad448) l0_0.length c0_0) := (blk_cell BK442.out 0).trans rfl
                  have hcz25_1 : w18.cell? ⟨gb442, 1, none⟩ = some (.int .i64 a0_1) := (blk_cell BK442.out 1).trans rfl
                  have hcz25_2 : w18.cell? ⟨gb442, 2, none⟩ = some (.slice A0_2 l0_2.length c0_2) := (blk_cell BK442.out 2).trans rfl
                  have hcz25_3 : w18.cell? ⟨gb442, 3, none⟩ = some (.slice A0_3 l0_3.length c0_3) := (blk_cell BK442.out 3).trans rfl
                  have hcz25_4 : w18.cell? ⟨gb442, 4, none⟩ = some (.slice A0_4 l0_4.length c0_4) := (blk_cell BK442.out 4).trans rfl
                  have hcz25_5 : w18.cell? ⟨gb442, 5, none⟩ = some (.int .i64 a0_5) := (blk_cell BK442.out 5).trans rfl
                  have hfz25_0 := blk_frozen BK442.out 0
                  have hfz25_1 := blk_frozen BK442.out 1
                  have hfz25_2 := blk_frozen BK442.out 2
                  have hfz25_3 := blk_frozen BK442.out 3
                  have hfz25_4 := blk_frozen BK442.out 4
                  have hfz25_5 := blk_frozen BK442.out 5
                  go_wp2_with (first | (go_at_call 32; (with_reducible refine (typing_against.calls _ _ l0_0 ((rd_T37 l0_0 a0_1).f0) ((rd_T37 l0_0 a0_1).f1) ((rd_T37 l0_0 a0_1).f2) ((rd_T37 l0_0 a0_1).f3) ((rd_T37 l0_0 a0_1).f4) ((rd_T37 l0_0 a0_1).f5) 6 18 t450 _ ?side1 ?side2 A22.out).mono ?_); (case side1 => exact Kd.C_below HR0_0.out (by repeat (first | (with_reducible first | exact HB.out | apply below_alloc | apply pw_below_drewN | apply below_drew1 | refine below_set ?_ GE442.out | refine below_set ?_ GE449.out) | exact HB.out))); (case side2 => exact HC0_0.out); rintro e w26 ⟨rfl, hb⟩; have n0_ := Aside0.mk (blk_below (g := gb442) (o := .cells #[.slice (some ad448) l0_0.length c0_0, .int .i64 a0_1, .slice A0_2 l0_2.length c0_2, .slice A0_3 l0_3.length c0_3, .slice A0_4 l0_4.length c0_4, .int .i64 a0_5] 32 (0, 0)) (by (with_reducible repeat (first | refine blk_drewN ?_ _ | refine blk_drew ?_ | refine blk_alloc ?_ _)); refine blk_far ?_ NB442_449.out _; (with_reducible repeat (first | refine blk_drewN ?_ _ | refine blk_drew ?_ | refine blk_alloc ?_ _)); refine blk_far ?_ NB442_449.out _; (with_reducible repeat (first | refine blk_drewN ?_ _ | refine blk_drew ?_ | refine blk_alloc ?_ _)); refine blk_far ?_ NB442_449.out _; (with_reducible repeat (first | refine blk_drewN ?_ _ | refine blk_drew ?_ | refine blk_alloc ?_ _)); refine blk_far ?_ NB442_449.out _; (with_reducible repeat (first | refine blk_drewN ?_ _ | refine blk_drew ?_ | refine blk_alloc ?_ _)); refine blk_far ?_ NB442_449.out _; (with_reducible repeat (first | refine blk_drewN ?_ _ | refine blk_drew ?_ | refine blk_alloc ?_ _)); refine blk_far ?_ NB442_449.out _; (with_reducible repeat (first | refine blk_drewN ?_ _ | refine blk_drew ?_ | refine blk_alloc ?_ _)); exact BK442.out) hb); have n1_ := Aside0.mk (blk_below (g := gb449) (o := .cells #[.int .i64 ((rd_T37 l0_0 a0_1).f0), .int .i64 ((rd_T37 l0_0 a0_1).f1), .int .i64 ((rd_T37 l0_0 a0_1).f2), .int .i64 ((rd_T37 l0_0 a0_1).f3), .int .i64 ((rd_T37 l0_0 a0_1).f4), .string ((rd_T37 l0_0 a0_1).f5)] 37 (0, 0)) (by (with_reducible repeat (first | refine blk_drewN ?_ _ | refine blk_drew ?_ | refine blk_alloc ?_ _)); refine blk_put (cs := #[.int .i64 ((rd_T37 l0_0 a0_1).f0), .int .i64 ((rd_T37 l0_0 a0_1).f1), .int .i64 ((rd_T37 l0_0 a0_1).f2), .int .i64 ((rd_T37 l0_0 a0_1).f3), .int .i64 ((rd_T37 l0_0 a0_1).f4), .string (⟨#[]⟩ : ByteArray)]) ?_ 5 _ rfl; (with_reducible repeat (first | refine blk_drewN ?_ _ | refine blk_drew ?_ | refine blk_alloc ?_ _)); refine blk_put (cs := #[.int .i64 ((rd_T37 l0_0 a0_1).f0), .int .i64 ((rd_T37 l0_0 a0_1).f1), .int .i64 ((rd_T37 l0_0 a0_1).f2), .int .i64 ((rd_T37 l0_0 a0_1).f3), .int .i64 0, .string (⟨#[]⟩ : ByteArray)]) ?_ 4 _ rfl; (with_reducible repeat (first | refine blk_drewN ?_ _ | refine blk_drew ?_ | refine blk_alloc ?_ _)); refine blk_put (cs := #[.int .i64 ((rd_T37 l0_0 a0_1).f0), .int .i64 ((rd_T37 l0_0 a0_1).f1), .int .i64 ((rd_T37 l0_0 a0_1).f2), .int .i64 0, .int .i64 0, .string (⟨#[]⟩ : ByteArray)]) ?_ 3 _ rfl; (with_reducible repeat (first | refine blk_drewN ?_ _ | refine blk_drew ?_ | refine blk_alloc ?_ _)); refine blk_put (cs := #[.int .i64 ((rd_T37 l0_0 a0_1).f0), .int .i64 ((rd_T37 l0_0 a0_1).f1), .int .i64 0, .int .i64 0, .int .i64 0, .string (⟨#[]⟩ : ByteArray)]) ?_ 2 _ rfl; (with_reducible repeat (first | refine blk_drewN ?_ _ | refine blk_drew ?_ | refine blk_alloc ?_ _)); refine blk_put (cs := #[.int .i64 ((rd_T37 l0_0 a0_1).f0), .int .i64 0, .int .i64 0, .int .i64 0, .int .i64 0, .string (⟨#[]⟩ : ByteArray)]) ?_ 1 _ rfl; (with_reducible repeat (first | refine blk_drewN ?_ _ | refine blk_drew ?_ | refine blk_alloc ?_ _)); refine blk_put (cs := #[.int .i64 0, .int .i64 0, .int .i64 0, .int .i64 0, .int .i64 0, .string (⟨#[]⟩ : ByteArray)]) ?_ 0 _ rfl; (with_reducible repeat (first | refine blk_drewN ?_ _ | refine blk_drew ?_ | refine blk_alloc ?_ _)); exact BK449.out) hb); have n2_ := Aside0.mk (below_step (by repeat (first | (with_reducible first | exact HB.out | apply below_alloc | apply pw_below_drewN | apply below_drew1 | refine below_set ?_ GE442.out | refine below_set ?_ GE449.out) | exact HB.out)) hb); clear BK442; clear BK449; clear HB; have BK442 := n0_; have BK449 := n1_; have HB := n2_; clear n0_ n1_ n2_; (try clear hb); (try clear hb2); (try clear hk); (try clear hi)))
                  go_meet
                  case rel => exact ⟨_, (t450), (by first | rfl | (simp; done) | (simp [*]; done)), H', ⟨by have := HJ2.out; first | omega | exact Nat.le_refl _⟩, ⟨by (with_reducible repeat (first | refine blk_drewN ?_ _ | refine blk_drew ?_ | refine blk_alloc ?_ _)); exact BK442.out⟩, ⟨by (with_reducible repeat (first | refine blk_drewN ?_ _ | refine blk_drew ?_ | refine blk_alloc ?_ _)); exact BK449.out⟩, ⟨by repeat (first | (with_reducible first | exact HB.out | apply below_alloc | apply pw_below_drewN | apply below_drew1 | refine below_set ?_ GE442.out | refine below_set ?_ GE449.out) | exact HB.out)⟩⟩
                · rw [if_neg c21] at H
                  have c21b0 : (((rd_T37 l0_0 a0_1).f0) == 4) = false := beq_eq_false_iff_ne.mpr c21
                  have c21b1 : (((rd_T37 l0_0 a0_1).f0) != 4) = true := bne_iff_ne.mpr c21
                  (first | rw [c21b0] | (simp only [i64_w, i32_w]; rw [c21b0]) | skip)
                  by_cases c27 : ((rd_T37 l0_0 a0_1).f0) = 10
                  · rw [if_pos c27] at H
                    have c27b0 : (((rd_T37 l0_0 a0_1).f0) == 10) = true := beq_iff_eq.mpr c27
                    have c27b1 : (((rd_T37 l0_0 a0_1).f0) != 10) = false := bne_eq_false_iff_eq.mpr c27
                    clear c27
                    replace H := Option.bind_eq_some_iff.mp H
                    obtain ⟨t451, A280, H⟩ := H
                    replace H : (typing_Plan.j1 kj2 t451 l0_0 a0_1 l0_2 l0_3 l0_4 a0_5) = some r := H
                    have A28 := Aside0.mk A280
                    clear A280
                    have H' := Aside0.mk H
                    clear H
                    have hnb29 := NB449_442.out
                    have hnc29 := NB442_449.out
                    have hcz30_0 : w18.cell? ⟨gb449, 0, none⟩ = some (.int .i64 0) := (blk_cell BK449.out 0).trans rfl
                    have hcz30_1 : w18.cell? ⟨gb449, 1, none⟩ = some (.int .i64 0) := (blk_cell BK449.out 1).trans rfl
                    have hcz30_2 : w18.cell? ⟨gb449, 2, none⟩ = some (.int .i64 0) := (blk_cell BK449.out 2).trans rfl
                    have hcz30_3 : w18.cell? ⟨gb449, 3, none⟩ = some (.int .i64 0) := (blk_cell BK449.out 3).trans rfl
                    have hcz30_4 : w18.cell? ⟨gb449, 4, none⟩ = some (.int .i64 0) := (blk_cell BK449.out 4).trans rfl
                    have hcz30_5 : w18.cell? ⟨gb449, 5, none⟩ = some (.string (⟨#[]⟩ : ByteArray)) := (blk_cell BK449.out 5).trans rfl
                    have hfz30_0 := blk_frozen BK449.out 0
                    have hfz30_1 := blk_frozen BK449.out 1
                    have hfz30_2 := blk_frozen BK449.out 2
                    have hfz30_3 := blk_frozen BK449.out 3
                    have hfz30_4 := blk_frozen BK449.out 4
                    have hfz30_5 := blk_frozen BK449.out 5
                    have hcz31_0 : w18.cell? ⟨gb442, 0, none⟩ = some (.slice (some ad448) l0_0.length c0_0) := (blk_cell BK442.out 0).trans rfl
                    have hcz31_1 : w18.cell? ⟨gb442, 1, none⟩ = some (.int .i64 a0_1) := (blk_cell BK442.out 1).trans rfl
                    have hcz31_2 : w18.cell? ⟨gb442, 2, none⟩ = some (.slice A0_2 l0_2.length c0_2) := (blk_cell BK442.out 2).trans rfl
                    have hcz31_3 : w18.cell? ⟨gb442, 3, none⟩ = some (.slice A0_3 l0_3.length c0_3) := (blk_cell BK442.out 3).trans rfl
                    have hcz31_4 : w18.cell? ⟨gb442, 4, none⟩ = some (.slice A0_4 l0_4.length c0_4) := (blk_cell BK442.out 4).trans rfl
                    have hcz31_5 : w18.cell? ⟨gb442, 5, none⟩ = some (.int .i64 a0_5) := (blk_cell BK442.out 5).trans rfl
                    have hfz31_0 := blk_frozen BK442.out 0
                    have hfz31_1 := blk_frozen BK442.out 1
                    have hfz31_2 := blk_frozen BK442.out 2
                    have hfz31_3 := blk_frozen BK442.out 3
                    have hfz31_4 := blk_frozen BK442.out 4
                    have hfz31_5 := blk_frozen BK442.out 5
                    go_wp2_with (first | (go_at_call 32; (with_reducible refine (typing_against.calls _ _ l0_0 ((rd_T37 l0_0 a0_1).f0) ((rd_T37 l0_0 a0_1).f1) ((rd_T37 l0_0 a0_1).f2) ((rd_T37 l0_0 a0_1).f3) ((rd_T37 l0_0 a0_1).f4) ((rd_T37 l0_0 a0_1).f5) 6 18 t451 _ ?side1 ?side2 A28.out).mono ?_); (case side1 => exact Kd.C_below HR0_0.out (by repeat (first | (with_reducible first | exact HB.out | apply below_alloc | apply pw_below_drewN | apply below_drew1 | refine below_set ?_ GE442.out | refine below_set ?_ GE449.out) | exact HB.out))); (case side2 => exact HC0_0.out); rintro e w32 ⟨rfl, hb⟩; have n0_ := Aside0.mk (blk_below (g := gb442) (o := .cells #[.slice (some ad448) l0_0.length c0_0, .int .i64 a0_1, .slice A0_2 l0_2.length c0_2, .slice A0_3 l0_3.length c0_3, .slice A0_4 l0_4.length c0_4, .int .i64 a0_5] 32 (0, 0)) (by (with_reducible repeat (first | refine blk_drewN ?_ _ | refine blk_drew ?_ | refine blk_alloc ?_ _)); refine blk_far ?_ NB442_449.out _; (with_reducible repeat (first | refine blk_drewN ?_ _ | refine blk_drew ?_ | refine blk_alloc ?_ _)); refine blk_far ?_ NB442_449.out _; (with_reducible repeat (first | refine blk_drewN ?_ _ | refine blk_drew ?_ | refine blk_alloc ?_ _)); refine blk_far ?_ NB442_449.out _; (with_reducible repeat (first | refine blk_drewN ?_ _ | refine blk_drew ?_ | refine blk_alloc ?_ _)); refine blk_far ?_ NB442_449.out _; (with_reducible repeat (first | refine blk_drewN ?_ _ | refine blk_drew ?_ | refine blk_alloc ?_ _)); refine blk_far ?_ NB442_449.out _; (with_reducible repeat (first | refine blk_drewN ?_ _ | refine blk_drew ?_ | refine blk_alloc ?_ _)); refine blk_far ?_ NB442_449.out _; (with_reducible repeat (first | refine blk_drewN ?_ _ | refine blk_drew ?_ | refine blk_alloc ?_ _)); exact BK442.out) hb); have n1_ := Aside0.mk (blk_below (g := gb449) (o := .cells #[.int .i64 ((rd_T37 l0_0 a0_1).f0), .int .i64 ((rd_T37 l0_0 a0_1).f1), .int .i64 ((rd_T37 l0_0 a0_1).f2), .int .i64 ((rd_T37 l0_0 a0_1).f3), .int .i64 ((rd_T37 l0_0 a0_1).f4), .string ((rd_T37 l0_0 a0_1).f5)] 37 (0, 0)) (by (with_reducible repeat (first | refine blk_drewN ?_ _ | refine blk_drew ?_ | refine blk_alloc ?_ _)); refine blk_put (cs := #[.int .i64 ((rd_T37 l0_0 a0_1).f0), .int .i64 ((rd_T37 l0_0 a0_1).f1), .int .i64 ((rd_T37 l0_0 a0_1).f2), .int .i64 ((rd_T37 l0_0 a0_1).f3), .int .i64 ((rd_T37 l0_0 a0_1).f4), .string (⟨#[]⟩ : ByteArray)]) ?_ 5 _ rfl; (with_reducible repeat (first | refine blk_drewN ?_ _ | refine blk_drew ?_ | refine blk_alloc ?_ _)); refine blk_put (cs := #[.int .i64 ((rd_T37 l0_0 a0_1).f0), .int .i64 ((rd_T37 l0_0 a0_1).f1), .int .i64 ((rd_T37 l0_0 a0_1).f2), .int .i64 ((rd_T37 l0_0 a0_1).f3), .int .i64 0, .string (⟨#[]⟩ : ByteArray)]) ?_ 4 _ rfl; (with_reducible repeat (first | refine blk_drewN ?_ _ | refine blk_drew ?_ | refine blk_alloc ?_ _)); refine blk_put (cs := #[.int .i64 ((rd_T37 l0_0 a0_1).f0), .int .i64 ((rd_T37 l0_0 a0_1).f1), .int .i64 ((rd_T37 l0_0 a0_1).f2), .int .i64 0, .int .i64 0, .string (⟨#[]⟩ : ByteArray)]) ?_ 3 _ rfl; (with_reducible repeat (first | refine blk_drewN ?_ _ | refine blk_drew ?_ | refine blk_alloc ?_ _)); refine blk_put (cs := #[.int .i64 ((rd_T37 l0_0 a0_1).f0), .int .i64 ((rd_T37 l0_0 a0_1).f1), .int .i64 0, .int .i64 0, .int .i64 0, .string (⟨#[]⟩ : ByteArray)]) ?_ 2 _ rfl; (with_reducible repeat (first | refine blk_drewN ?_ _ | refine blk_drew ?_ | refine blk_alloc ?_ _)); refine blk_put (cs := #[.int .i64 ((rd_T37 l0_0 a0_1).f0), .int .i64 0, .int .i64 0, .int .i64 0, .int .i64 0, .string (⟨#[]⟩ : ByteArray)]) ?_ 1 _ rfl; (with_reducible repeat (first | refine blk_drewN ?_ _ | refine blk_drew ?_ | refine blk_alloc ?_ _)); refine blk_put (cs := #[.int .i64 0, .int .i64 0, .int .i64 0, .int .i64 0, .int .i64 0, .string (⟨#[]⟩ : ByteArray)]) ?_ 0 _ rfl; (with_reducible repeat (first | refine blk_drewN ?_ _ | refine blk_drew ?_ | refine blk_alloc ?_ _)); exact BK449.out) hb); have n2_ := Aside0.mk (below_step (by repeat (first | (with_reducible first | exact HB.out | apply below_alloc | apply pw_below_drewN | apply below_drew1 | refine below_set ?_ GE442.out | refine below_set ?_ GE449.out) | exact HB.out)) hb); clear BK442; clear BK449; clear HB; have BK442 := n0_; have BK449 := n1_; have HB := n2_; clear n0_ n1_ n2_; (try clear hb); (try clear hb2); (try clear hk); (try clear hi)))
                    go_meet
                    case rel => exact ⟨_, (t451), (by first | rfl | (simp; done) | (simp [*]; done)), H', ⟨by have := HJ2.out; first | omega | exact Nat.le_refl _⟩, ⟨by (with_reducible repeat (first | refine blk_drewN ?_ _ | refine blk_drew ?_ | refine blk_alloc ?_ _)); exact BK442.out⟩, ⟨by (with_reducible repeat (first | refine blk_drewN ?_ _ | refine blk_drew ?_ | refine blk_alloc ?_ _)); exact BK449.out⟩, ⟨by repeat (first | (with_reducible first | exact HB.out | apply below_alloc | apply pw_below_drewN | apply below_drew1 | refine below_set ?_ GE442.out | refine below_set ?_ GE449.out) | exact HB.out)⟩⟩
                  · rw [if_neg c27] at H
                    have c27b0 : (((rd_T37 l0_0 a0_1).f0) == 10) = false := beq_eq_false_iff_ne.mpr c27
                    have c27b1 : (((rd_T37 l0_0 a0_1).f0) != 10) = true := bne_iff_ne.mpr c27
                    have H' := Aside0.mk H
                    clear H
                    have hnb33 := NB449_442.out
                    have hnc33 := NB442_449.out
                    have hcz34_0 : w18.cell? ⟨gb449, 0, none⟩ = some (.int .i64 0) := (blk_cell BK449.out 0).trans rfl
                    have hcz34_1 : w18.cell? ⟨gb449, 1, none⟩ = some (.int .i64 0) := (blk_cell BK449.out 1).trans rfl
                    have hcz34_2 : w18.cell? ⟨gb449, 2, none⟩ = some (.int .i64 0) := (blk_cell BK449.out 2).trans rfl
                    have hcz34_3 : w18.cell? ⟨gb449, 3, none⟩ = some (.int .i64 0) := (blk_cell BK449.out 3).trans rfl
                    have hcz34_4 : w18.cell? ⟨gb449, 4, none⟩ = some (.int .i64 0) := (blk_cell BK449.out 4).trans rfl
                    have hcz34_5 : w18.cell? ⟨gb449, 5, none⟩ = some (.string (⟨#[]⟩ : ByteArray)) := (blk_cell BK449.out 5).trans rfl
                    have hfz34_0 := blk_frozen BK449.out 0
                    have hfz34_1 := blk_frozen BK449.out 1
                    have hfz34_2 := blk_frozen BK449.out 2
                    have hfz34_3 := blk_frozen BK449.out 3
                    have hfz34_4 := blk_frozen BK449.out 4
                    have hfz34_5 := blk_frozen BK449.out 5
                    go_wp2
                    go_meet
                    case rel => exact ⟨_, (false), (by first | rfl | (simp; done) | (simp [*]; done)), H', ⟨by have := HJ2.out; first | omega | exact Nat.le_refl _⟩, ⟨by (with_reducible repeat (first | refine blk_drewN ?_ _ | refine blk_drew ?_ | refine blk_alloc ?_ _)); refine blk_far ?_ NB442_449.out _; (with_reducible repeat (first | refine blk_drewN ?_ _ | refine blk_drew ?_ | refine blk_alloc ?_ _)); refine blk_far ?_ NB442_449.out _; (with_reducible repeat (first | refine blk_drewN ?_ _ | refine blk_drew ?_ | refine blk_alloc ?_ _)); refine blk_far ?_ NB442_449.out _; (with_reducible repeat (first | refine blk_drewN ?_ _ | refine blk_drew ?_ | refine blk_alloc ?_ _)); refine blk_far ?_ NB442_449.out _; (with_reducible repeat (first | refine blk_drewN ?_ _ | refine blk_drew ?_ | refine blk_alloc ?_ _)); refine blk_far ?_ NB442_449.out _; (with_reducible repeat (first | refine blk_drewN ?_ _ | refine blk_drew ?_ | refine blk_alloc ?_ _)); refine blk_far ?_ NB442_449.out _; (with_reducible repeat (first | refine blk_drewN ?_ _ | refine blk_drew ?_ | refine blk_alloc ?_ _)); exact BK442.out⟩, ⟨by (with_reducible repeat (first | refine blk_drewN ?_ _ | refine blk_drew ?_ | refine blk_alloc ?_ _)); refine blk_put (cs := #[.int .i64 ((rd_T37 l0_0 a0_1).f0), .int .i64 ((rd_T37 l0_0 a0_1).f1), .int .i64 ((rd_T37 l0_0 a0_1).f2), .int .i64 ((rd_T37 l0_0 a0_1).f3), .int .i64 ((rd_T37 l0_0 a0_1).f4), .string (⟨#[]⟩ : ByteArray)]) ?_ 5 _ rfl; (with_reducible repeat (first | refine blk_drewN ?_ _ | refine blk_drew ?_ | refine blk_alloc ?_ _)); refine blk_put (cs := #[.int .i64 ((rd_T37 l0_0 a0_1).f0), .int .i64 ((rd_T37 l0_0 a0_1).f1), .int .i64 ((rd_T37 l0_0 a0_1).f2), .int .i64 ((rd_T37 l0_0 a0_1).f3), .int .i64 0, .string (⟨#[]⟩ : ByteArray)]) ?_ 4 _ rfl; (with_reducible repeat (first | refine blk_drewN ?_ _ | refine blk_drew ?_ | refine blk_alloc ?_ _)); refine blk_put (cs := #[.int .i64 ((rd_T37 l0_0 a0_1).f0), .int .i64 ((rd_T37 l0_0 a0_1).f1), .int .i64 ((rd_T37 l0_0 a0_1).f2), .int .i64 0, .int .i64 0, .string (⟨#[]⟩ : ByteArray)]) ?_ 3 _ rfl; (with_reducible repeat (first | refine blk_drewN ?_ _ | refine blk_drew ?_ | refine blk_alloc ?_ _)); refine blk_put (cs := #[.int .i64 ((rd_T37 l0_0 a0_1).f0), .int .i64 ((rd_T37 l0_0 a0_1).f1), .int .i64 0, .int .i64 0, .int .i64 0, .string (⟨#[]⟩ : ByteArray)]) ?_ 2 _ rfl; (with_reducible repeat (first | refine blk_drewN ?_ _ | refine blk_drew ?_ | refine blk_alloc ?_ _)); refine blk_put (cs := #[.int .i64 ((rd_T37 l0_0 a0_1).f0), .int .i64 0, .int .i64 0, .int .i64 0, .int .i64 0, .string (⟨#[]⟩ : ByteArray)]) ?_ 1 _ rfl; (with_reducible repeat (first | refine blk_drewN ?_ _ | refine blk_drew ?_ | refine blk_alloc ?_ _)); refine blk_put (cs := #[.int .i64 0, .int .i64 0, .int .i64 0, .int .i64 0, .int .i64 0, .string (⟨#[]⟩ : ByteArray)]) ?_ 0 _ rfl; (with_reducible repeat (first | refine blk_drewN ?_ _ | refine blk_drew ?_ | refine blk_alloc ?_ _)); exact BK449.out⟩, ⟨by repeat (first | (with_reducible first | exact HB.out | apply below_alloc | apply pw_below_drewN | apply below_drew1 | refine below_set ?_ GE442.out | refine below_set ?_ GE449.out) | exact HB.out)⟩⟩
              case rest =>
                clear HC16
                try clear c1
                try clear c2
                try clear p2
                try clear c3
                try clear p4
                try clear q4
                try clear hx4
                try clear c7
                try clear c7b0
                try clear c7b1
                try clear c11
                try clear c12
                try clear c12b0
                try clear c12b1
                try clear c14
                try clear c14b0
                try clear c15
                try clear c15b0
                try clear c17
                try clear c19
                try clear c20
                try clear c21
                try clear c21b0
                try clear c21b1
                try clear c23
                try clear c27
                try clear c27b0
                try clear c27b1
                try clear c29
                try clear c33
                try clear hcz13_0
                try clear hcz13_1
                try clear hcz13_2
                try clear hcz13_3
                try clear hcz13_4
                try clear hcz13_5
                try clear hcz17_0
                try clear hcz17_1
                try clear hcz17_2
                try clear hcz17_3
                try clear hcz17_4
                try clear hcz17_5
                try clear hcz20_0
                try clear hcz20_1
                try clear hcz20_2
                try clear hcz20_3
                try clear hcz20_4
                try clear hcz20_5
                try clear hcz24_0
                try clear hcz24_1
                try clear hcz24_2
                try clear hcz24_3
                try clear hcz24_4
                try clear hcz24_5
                try clear hcz25_0
                try clear hcz25_1
                try clear hcz25_2
                try clear hcz25_3
                try clear hcz25_4
                try clear hcz25_5
                try clear hcz30_0
                try clear hcz30_1
                try clear hcz30_2
                try clear hcz30_3
                try clear hcz30_4
                try clear hcz30_5
                try clear hcz31_0
                try clear hcz31_1
                try clear hcz31_2
                try clear hcz31_3
                try clear hcz31_4
                try clear hcz31_5
                try clear hcz34_0
                try clear hcz34_1
                try clear hcz34_2
                try clear hcz34_3
                try clear hcz34_4
                try clear hcz34_5
                try clear hcz5_0
                try clear hcz5_1
                try clear hcz5_2
                try clear hcz5_3
                try clear hcz5_4
                try clear hcz5_5
                try clear hcz9_0
                try clear hcz9_1
                try clear hcz9_2
                try clear hcz9_3
                try clear hcz9_4
                try clear hcz9_5
                try clear hfz13_0
                try clear hfz13_1
                try clear hfz13_2
                try clear hfz13_3
                try clear hfz13_4
                try clear hfz13_5
                try clear hfz17_0
                try clear hfz17_1
                try clear hfz17_2
                try clear hfz17_3
                try clear hfz17_4
                try clear hfz17_5
                try clear hfz20_0
                try clear hfz20_1
                try clear hfz20_2
                try clear hfz20_3
                try clear hfz20_4
                try clear hfz20_5
                try clear hfz24_0
                try clear hfz24_1
                try clear hfz24_2
                try clear hfz24_3
                try clear hfz24_4
                try clear hfz24_5
                try clear hfz25_0
                try clear hfz25_1
                try clear hfz25_2
                try clear hfz25_3
                try clear hfz25_4
                try clear hfz25_5
                try clear hfz30_0
                try clear hfz30_1
                try clear hfz30_2
                try clear hfz30_3
                try clear hfz30_4
                try clear hfz30_5
                try clear hfz31_0
                try clear hfz31_1
                try clear hfz31_2
                try clear hfz31_3
                try clear hfz31_4
                try clear hfz31_5
                try clear hfz34_0
                try clear hfz34_1
                try clear hfz34_2
                try clear hfz34_3
                try clear hfz34_4
                try clear hfz34_5
                try clear hfz5_0
                try clear hfz5_1
                try clear hfz5_2
                try clear hfz5_3
                try clear hfz5_4
                try clear hfz5_5
                try clear hfz9_0
                try clear hfz9_1
                try clear hfz9_2
                try clear hfz9_3
                try clear hfz9_4
                try clear hfz9_5
                try clear hx448_0
                try clear hx448_1
                try clear hx448_2
                try clear hx448_3
                try clear hx448_4
                try clear hx448_5
                try clear p2
                try clear p448
                try clear q448
                obtain ⟨kq, x41_15, rfl, HA, HJ15, BK442, BK449, HB⟩ := hcut
                cases kq with
                | zero => exact absurd HA.out (by simp [typing_Plan.j1])
                | succ kj15 =>
                  have H := HA.out
                  clear HA
                  simp only [typing_Plan.j1] at H
                  by_cases c35 : x41_15 = true
                  · subst c35
                    have H1 : (some 2) = some r := by rw [if_pos rfl] at H; exact H
                    clear H
                    have H := H1
                    clear H1
                    obtain rfl := Option.some.inj H
                    go_wp2
                    go_ret
                    exact ⟨by first | rfl | (simp [errW_none, errW_some] <;> rfl) | (simp [*, errW_none, errW_some] <;> rfl), by repeat (first | (with_reducible first | exact HB.out | apply below_alloc | apply pw_below_drewN | apply below_drew1 | refine below_set ?_ GE442.out | refine below_set ?_ GE449.out) | exact HB.out)⟩
                  · replace c35 := Bool.eq_false_iff.mpr c35
                    subst c35
                    have H1 : ((typing_counted.f kj15 l0_0 a0_1).bind fun bt452 => (if bt452.1 = 1 then (if bt452.2.1 > 0 then (if bt452.2.2 = 0 then (some 3) else (some 1)) else (some 1)) else (some 1))) = some r := by rw [if_neg (show ¬ (false = true) by decide)] at H; exact H
                    clear H
                    have H := H1
                    clear H1
                    replace H := Option.bind_eq_some_iff.mp H
                    obtain ⟨⟨t452, t453, t454⟩, A360, H⟩ := H
                    replace H : (if t452 = 1 then (if t453 > 0 then (if t454 = 0 then (some 3) else (some 1)) else (some 1)) else (some 1)) = some r := H
                    have A36 := Aside0.mk A360
                    clear A360
                    by_cases c37 : t452 = 1
                    · rw [if_pos c37] at H
                      have c37b0 : (t452 == 1) = true := beq_iff_eq.mpr c37
                      have c37b1 : (t452 != 1) = false := bne_eq_false_iff_eq.mpr c37
                      clear c37
                      by_cases c38 : t453 > 0
                      · rw [if_pos c38] at H
                        have c38b0 : decide (0 < t453) = true := decide_eq_true c38
                        clear c38
                        by_cases c39 : t454 = 0
                        · rw [if_pos c39] at H
                          have c39b0 : (t454 == 0) = true := beq_iff_eq.mpr c39
                          have c39b1 : (t454 != 0) = false := bne_eq_false_iff_eq.mpr c39
                          clear c39
                          obtain rfl := Option.some.inj H
                          have hnb40 := NB442_449.out
                          have hnc40 := NB449_442.out
                          have hcz41_0 : wc.cell? ⟨gb442, 0, none⟩ = some (.slice (some ad448) l0_0.length c0_0) := (blk_cell BK442.out 0).trans rfl
                          have hcz41_1 : wc.cell? ⟨gb442, 1, none⟩ = some (.int .i64 a0_1) := (blk_cell BK442.out 1).trans rfl
                          have hcz41_2 : wc.cell? ⟨gb442, 2, none⟩ = some (.slice A0_2 l0_2.length c0_2) := (blk_cell BK442.out 2).trans rfl
                          have hcz41_3 : wc.cell? ⟨gb442, 3, none⟩ = some (.slice A0_3 l0_3.length c0_3) := (blk_cell BK442.out 3).trans rfl
                          have hcz41_4 : wc.cell? ⟨gb442, 4, none⟩ = some (.slice A0_4 l0_4.length c0_4) := (blk_cell BK442.out 4).trans rfl
                          have hcz41_5 : wc.cell? ⟨gb442, 5, none⟩ = some (.int .i64 a0_5) := (blk_cell BK442.out 5).trans rfl
                          have hfz41_0 := blk_frozen BK442.out 0
                          have hfz41_1 := blk_frozen BK442.out 1
                          have hfz41_2 := blk_frozen BK442.out 2
                          have hfz41_3 := blk_frozen BK442.out 3
                          have hfz41_4 := blk_frozen BK442.out 4
                          have hfz41_5 := blk_frozen BK442.out 5
                          go_wp2_with (first | ((with_reducible refine gate_callee (f := 33) rfl ?_); refine goesL_ (some 46) rfl rfl Tryd.func33 (by kernel_rfl) rfl #[.slice (some ad448) l0_0.length c0_0, .int .i64 a0_1] rfl (by (try simp only [List.map_toArray, List.map_cons, List.map_nil]); first | done | rfl | (simp only [List.length_drop, List.length_take]; rfl)) ?_; (with_reducible refine (typing_counted.calls kj15 _ _ l0_0 a0_1 t452 t453 t454 _ ?side1 ?side2 A36.out).mono ?_); (case side1 => repeat (first | exact (Kd.C_below HR0_0.out HB.out) | (with_reducible refine Kd.C_alloc ?_ _) | (with_reducible refine Kd.C_drewN ?_ _) | (with_reducible refine Kd.C_drew ?_))); (case side2 => exact HC0_0.out); rintro e w42 ⟨rfl, hb⟩; refine ⟨_, rfl, ?_⟩; have n0_ := Aside0.mk (blk_below (g := gb442) (o := .cells #[.slice (some ad448) l0_0.length c0_0, .int .i64 a0_1, .slice A0_2 l0_2.length c0_2, .slice A0_3 l0_3.length c0_3, .slice A0_4 l0_4.length c0_4, .int .i64 a0_5] 32 (0, 0)) (by (with_reducible repeat (first | refine blk_drewN ?_ _ | refine blk_drew ?_ | refine blk_alloc ?_ _)); exact BK442.out) hb); have n1_ := Aside0.mk (blk_below (g := gb449) (o := .cells #[.int .i64 ((rd_T37 l0_0 a0_1).f0), .int .i64 ((rd_T37 l0_0 a0_1).f1), .int .i64 ((rd_T37 l0_0 a0_1).f2), .int .i64 ((rd_T37 l0_0 a0_1).f3), .int .i64 ((rd_T37 l0_0 a0_1).f4), .string ((rd_T37 l0_0 a0_1).f5)] 37 (0, 0)) (by (with_reducible repeat (first | refine blk_drewN ?_ _ | refine blk_drew ?_ | refine blk_alloc ?_ _)); exact BK449.out) hb); have n2_ := Aside0.mk (below_step (by repeat (first | (with_reducible first | exact HB.out | apply below_alloc | apply pw_below_drewN | apply below_drew1 | refine below_set ?_ GE442.out | refine below_set ?_ GE449.out) | exact HB.out)) hb); clear BK442; clear BK449; clear HB; have BK442 := n0_; have BK449 := n1_; have HB := n2_; clear n0_ n1_ n2_; (try clear hb); (try clear hb2); (try clear hk); (try clear hi)) | ((with_reducible refine gate_dst (N := 6) rfl ?_); refine box_event ?hg (N := 6) ?hd (cs := #[.int .i64 0, .int .i64 0, .int .i64 0]) (t := 74) ?hr ?_; (case hd => rfl); (case hg => rfl); (case hr => first | (go_simp; done) | (go_simp; rfl)); intro gb455 hg w43 hbox hb; have n0_ := Aside0.mk (blk_below (g := gb442) (o := .cells #[.slice (some ad448) l0_0.length c0_0, .int .i64 a0_1, .slice A0_2 l0_2.length c0_2, .slice A0_3 l0_3.length c0_3, .slice A0_4 l0_4.length c0_4, .int .i64 a0_5] 32 (0, 0)) (by (with_reducible repeat (first | refine blk_drewN ?_ _ | refine blk_drew ?_ | refine blk_alloc ?_ _)); exact BK442.out) hb); have n1_ := Aside0.mk (blk_below (g := gb449) (o := .cells #[.int .i64 ((rd_T37 l0_0 a0_1).f0), .int .i64 ((rd_T37 l0_0 a0_1).f1), .int .i64 ((rd_T37 l0_0 a0_1).f2), .int .i64 ((rd_T37 l0_0 a0_1).f3), .int .i64 ((rd_T37 l0_0 a0_1).f4), .string ((rd_T37 l0_0 a0_1).f5)] 37 (0, 0)) (by (with_reducible repeat (first | refine blk_drewN ?_ _ | refine blk_drew ?_ | refine blk_alloc ?_ _)); exact BK449.out) hb); have n2_ := Aside0.mk (below_step (by repeat (first | (with_reducible first | exact HB.out | apply below_alloc | apply pw_below_drewN | apply below_drew1 | refine below_set ?_ GE442.out | refine below_set ?_ GE449.out) | exact HB.out)) hb); have n3_ := Aside0.mk (hbox); have n4_ := Aside0.mk ((by rw [hg]; exact (below_size (by repeat (first | (with_reducible first | exact HB.out | apply below_alloc | apply pw_below_drewN | apply below_drew1 | refine below_set ?_ GE442.out | refine below_set ?_ GE449.out) | exact HB.out))) : w.heap.size ≤ gb455)); have n5_ := Aside0.mk ((by rw [hg]; exact (below_size (by repeat (first | (with_reducible first | exact HB.out | apply below_alloc | apply pw_below_drewN | apply below_drew1 | refine below_set ?_ GE442.out | refine below_set ?_ GE449.out) | exact HB.out))) : w.heap.size ≤ gb455)); have n6_ := Aside0.mk ((by rw [hg]; exact Nat.ne_of_lt (blk_lt (g := gb442) (o := .cells #[.slice (some ad448) l0_0.length c0_0, .int .i64 a0_1, .slice A0_2 l0_2.length c0_2, .slice A0_3 l0_3.length c0_3, .slice A0_4 l0_4.length c0_4, .int .i64 a0_5] 32 (0, 0)) (by (with_reducible repeat (first | refine blk_drewN ?_ _ | refine blk_drew ?_ | refine blk_alloc ?_ _)); exact BK442.out)) : gb442 ≠ gb455)); have n7_ := Aside0.mk ((by rw [hg]; exact Nat.ne_of_gt (blk_lt (g := gb442) (o := .cells #[.slice (some ad448) l0_0.length c0_0, .int .i64 a0_1, .slice A0_2 l0_2.length c0_2, .slice A0_3 l0_3.length c0_3, .slice A0_4 l0_4.length c0_4, .int .i64 a0_5] 32 (0, 0)) (by (with_reducible repeat (first | refine blk_drewN ?_ _ | refine blk_drew ?_ | refine blk_alloc ?_ _)); exact BK442.out)) : gb455 ≠ gb442)); have n8_ := Aside0.mk ((by rw [hg]; exact Nat.ne_of_lt (blk_lt (g := gb449) (o := .cells #[.int .i64 ((rd_T37 l0_0 a0_1).f0), .int .i64 ((rd_T37 l0_0 a0_1).f1), .int .i64 ((rd_T37 l0_0 a0_1).f2), .int .i64 ((rd_T37 l0_0 a0_1).f3), .int .i64 ((rd_T37 l0_0 a0_1).f4), .string ((rd_T37 l0_0 a0_1).f5)] 37 (0, 0)) (by (with_reducible repeat (first | refine blk_drewN ?_ _ | refine blk_drew ?_ | refine blk_alloc ?_ _)); exact BK449.out)) : gb449 ≠ gb455)); have n9_ := Aside0.mk ((by rw [hg]; exact Nat.ne_of_gt (blk_lt (g := gb449) (o := .cells #[.int .i64 ((rd_T37 l0_0 a0_1).f0), .int .i64 ((rd_T37 l0_0 a0_1).f1), .int .i64 ((rd_T37 l0_0 a0_1).f2), .int .i64 ((rd_T37 l0_0 a0_1).f3), .int .i64 ((rd_T37 l0_0 a0_1).f4), .string ((rd_T37 l0_0 a0_1).f5)] 37 (0, 0)) (by (with_reducible repeat (first | refine blk_drewN ?_ _ | refine blk_drew ?_ | refine blk_alloc ?_ _)); exact BK449.out)) : gb455 ≠ gb449)); clear BK442; clear BK449; clear HB; have BK442 := n0_; have BK449 := n1_; have HB := n2_; have BK455 := n3_; have GW455 := n4_; have GE455 := n5_; have NB442_455 := n6_; have NB455_442 := n7_; have NB449_455 := n8_; have NB455_449 := n9_; clear n0_ n1_ n2_ n3_ n4_ n5_ n6_ n7_ n8_ n9_; clear hb hbox hg; have hnb44 := NB455_442.out; have hnc44 := NB442_455.out; have hnb45 := NB455_449.out; have hnc45 := NB449_455.out; have hcz46_0 : w43.cell? ⟨gb455, 0, none⟩ = some (.int .i64 0) := (blk_cell BK455.out 0).trans rfl; have hcz46_1 : w43.cell? ⟨gb455, 1, none⟩ = some (.int .i64 0) := (blk_cell BK455.out 1).trans rfl; have hcz46_2 : w43.cell? ⟨gb455, 2, none⟩ = some (.int .i64 0) := (blk_cell BK455.out 2).trans rfl; have hfz46_0 := blk_frozen BK455.out 0; have hfz46_1 := blk_frozen BK455.out 1; have hfz46_2 := blk_frozen BK455.out 2))
                          go_ret
                          exact ⟨by first | rfl | (simp [errW_none, errW_some] <;> rfl) | (simp [*, errW_none, errW_some] <;> rfl), by repeat (first | (with_reducible first | exact HB.out | apply below_alloc | apply pw_below_drewN | apply below_drew1 | refine below_set ?_ GE442.out | refine below_set ?_ GE449.out | refine below_set ?_ GE455.out) | exact HB.out)⟩
                        · rw [if_neg c39] at H
                          have c39b0 : (t454 == 0) = false := beq_eq_false_iff_ne.mpr c39
                          have c39b1 : (t454 != 0) = true := bne_iff_ne.mpr c39
                          obtain rfl := Option.some.inj H
                          have hnb47 := NB442_449.out
                          have hnc47 := NB449_442.out
                          have hcz48_0 : wc.cell? ⟨gb442, 0, none⟩ = some (.slice (some ad448) l0_0.length c0_0) := (blk_cell BK442.out 0).trans rfl
                          have hcz48_1 : wc.cell? ⟨gb442, 1, none⟩ = some (.int .i64 a0_1) := (blk_cell BK442.out 1).trans rfl
                          have hcz48_2 : wc.cell? ⟨gb442, 2, none⟩ = some (.slice A0_2 l0_2.length c0_2) := (blk_cell BK442.out 2).trans rfl
                          have hcz48_3 : wc.cell? ⟨gb442, 3, none⟩ = some (.slice A0_3 l0_3.length c0_3) := (blk_cell BK442.out 3).trans rfl
                          have hcz48_4 : wc.cell? ⟨gb442, 4, none⟩ = some (.slice A0_4 l0_4.length c0_4) := (blk_cell BK442.out 4).trans rfl
                          have hcz48_5 : wc.cell? ⟨gb442, 5, none⟩ = some (.int .i64 a0_5) := (blk_cell BK442.out 5).trans rfl
                          have hfz48_0 := blk_frozen BK442.out 0
                          have hfz48_1 := blk_frozen BK442.out 1
                          have hfz48_2 := blk_frozen BK442.out 2
                          have hfz48_3 := blk_frozen BK442.out 3
                          have hfz48_4 := blk_frozen BK442.out 4
                          have hfz48_5 := blk_frozen BK442.out 5
                          go_wp2_with (first | ((with_reducible refine gate_callee (f := 33) rfl ?_); refine goesL_ (some 46) rfl rfl Tryd.func33 (by kernel_rfl) rfl #[.slice (some ad448) l0_0.length c0_0, .int .i64 a0_1] rfl (by (try simp only [List.map_toArray, List.map_cons, List.map_nil]); first | done | rfl | (simp only [List.length_drop, List.length_take]; rfl)) ?_; (with_reducible refine (typing_counted.calls kj15 _ _ l0_0 a0_1 t452 t453 t454 _ ?side1 ?side2 A36.out).mono ?_); (case side1 => repeat (first | exact (Kd.C_below HR0_0.out HB.out) | (with_reducible refine Kd.C_alloc ?_ _) | (with_reducible refine Kd.C_drewN ?_ _) | (with_reducible refine Kd.C_drew ?_))); (case side2 => exact HC0_0.out); rintro e w49 ⟨rfl, hb⟩; refine ⟨_, rfl, ?_⟩; have n0_ := Aside0.mk (blk_below (g := gb442) (o := .cells #[.slice (some ad448) l0_0.length c0_0, .int .i64 a0_1, .slice A0_2 l0_2.length c0_2, .slice A0_3 l0_3.length c0_3, .slice A0_4 l0_4.length c0_4, .int .i64 a0_5] 32 (0, 0)) (by (with_reducible repeat (first | refine blk_drewN ?_ _ | refine blk_drew ?_ | refine blk_alloc ?_ _)); exact BK442.out) hb); have n1_ := Aside0.mk (blk_below (g := gb449) (o := .cells #[.int .i64 ((rd_T37 l0_0 a0_1).f0), .int .i64 ((rd_T37 l0_0 a0_1).f1), .int .i64 ((rd_T37 l0_0 a0_1).f2), .int .i64 ((rd_T37 l0_0 a0_1).f3), .int .i64 ((rd_T37 l0_0 a0_1).f4), .string ((rd_T37 l0_0 a0_1).f5)] 37 (0, 0)) (by (with_reducible repeat (first | refine blk_drewN ?_ _ | refine blk_drew ?_ | refine blk_alloc ?_ _)); exact BK449.out) hb); have n2_ := Aside0.mk (below_step (by repeat (first | (with_reducible first | exact HB.out | apply below_alloc | apply pw_below_drewN | apply below_drew1 | refine below_set ?_ GE442.out | refine below_set ?_ GE449.out) | exact HB.out)) hb); clear BK442; clear BK449; clear HB; have BK442 := n0_; have BK449 := n1_; have HB := n2_; clear n0_ n1_ n2_; (try clear hb); (try clear hb2); (try clear hk); (try clear hi)) | ((with_reducible refine gate_dst (N := 6) rfl ?_); refine box_event ?hg (N := 6) ?hd (cs := #[.int .i64 0, .int .i64 0, .int .i64 0]) (t := 74) ?hr ?_; (case hd => rfl); (case hg => rfl); (case hr => first | (go_simp; done) | (go_simp; rfl)); intro gb455 hg w50 hbox hb; have n0_ := Aside0.mk (blk_below (g := gb442) (o := .cells #[.slice (some ad448) l0_0.length c0_0, .int .i64 a0_1, .slice A0_2 l0_2.length c0_2, .slice A0_3 l0_3.length c0_3, .slice A0_4 l0_4.length c0_4, .int .i64 a0_5] 32 (0, 0)) (by (with_reducible repeat (first | refine blk_drewN ?_ _ | refine blk_drew ?_ | refine blk_alloc ?_ _)); exact BK442.out) hb); have n1_ := Aside0.mk (blk_below (g := gb449) (o := .cells #[.int .i64 ((rd_T37 l0_0 a0_1).f0), .int .i64 ((rd_T37 l0_0 a0_1).f1), .int .i64 ((rd_T37 l0_0 a0_1).f2), .int .i64 ((rd_T37 l0_0 a0_1).f3), .int .i64 ((rd_T37 l0_0 a0_1).f4), .string ((rd_T37 l0_0 a0_1).f5)] 37 (0, 0)) (by (with_reducible repeat (first | refine blk_drewN ?_ _ | refine blk_drew ?_ | refine blk_alloc ?_ _)); exact BK449.out) hb); have n2_ := Aside0.mk (below_step (by repeat (first | (with_reducible first | exact HB.out | apply below_alloc | apply pw_below_drewN | apply below_drew1 | refine below_set ?_ GE442.out | refine below_set ?_ GE449.out) | exact HB.out)) hb); have n3_ := Aside0.mk (hbox); have n4_ := Aside0.mk ((by rw [hg]; exact (below_size (by repeat (first | (with_reducible first | exact HB.out | apply below_alloc | apply pw_below_drewN | apply below_drew1 | refine below_set ?_ GE442.out | refine below_set ?_ GE449.out) | exact HB.out))) : w.heap.size ≤ gb455)); have n5_ := Aside0.mk ((by rw [hg]; exact (below_size (by repeat (first | (with_reducible first | exact HB.out | apply below_alloc | apply pw_below_drewN | apply below_drew1 | refine below_set ?_ GE442.out | refine below_set ?_ GE449.out) | exact HB.out))) : w.heap.size ≤ gb455)); have n6_ := Aside0.mk ((by rw [hg]; exact Nat.ne_of_lt (blk_lt (g := gb442) (o := .cells #[.slice (some ad448) l0_0.length c0_0, .int .i64 a0_1, .slice A0_2 l0_2.length c0_2, .slice A0_3 l0_3.length c0_3, .slice A0_4 l0_4.length c0_4, .int .i64 a0_5] 32 (0, 0)) (by (with_reducible repeat (first | refine blk_drewN ?_ _ | refine blk_drew ?_ | refine blk_alloc ?_ _)); exact BK442.out)) : gb442 ≠ gb455)); have n7_ := Aside0.mk ((by rw [hg]; exact Nat.ne_of_gt (blk_lt (g := gb442) (o := .cells #[.slice (some ad448) l0_0.length c0_0, .int .i64 a0_1, .slice A0_2 l0_2.length c0_2, .slice A0_3 l0_3.length c0_3, .slice A0_4 l0_4.length c0_4, .int .i64 a0_5] 32 (0, 0)) (by (with_reducible repeat (first | refine blk_drewN ?_ _ | refine blk_drew ?_ | refine blk_alloc ?_ _)); exact BK442.out)) : gb455 ≠ gb442)); have n8_ := Aside0.mk ((by rw [hg]; exact Nat.ne_of_lt (blk_lt (g := gb449) (o := .cells #[.int .i64 ((rd_T37 l0_0 a0_1).f0), .int .i64 ((rd_T37 l0_0 a0_1).f1), .int .i64 ((rd_T37 l0_0 a0_1).f2), .int .i64 ((rd_T37 l0_0 a0_1).f3), .int .i64 ((rd_T37 l0_0 a0_1).f4), .string ((rd_T37 l0_0 a0_1).f5)] 37 (0, 0)) (by (with_reducible repeat (first | refine blk_drewN ?_ _ | refine blk_drew ?_ | refine blk_alloc ?_ _)); exact BK449.out)) : gb449 ≠ gb455)); have n9_ := Aside0.mk ((by rw [hg]; exact Nat.ne_of_gt (blk_lt (g := gb449) (o := .cells #[.int .i64 ((rd_T37 l0_0 a0_1).f0), .int .i64 ((rd_T37 l0_0 a0_1).f1), .int .i64 ((rd_T37 l0_0 a0_1).f2), .int .i64 ((rd_T37 l0_0 a0_1).f3), .int .i64 ((rd_T37 l0_0 a0_1).f4), .string ((rd_T37 l0_0 a0_1).f5)] 37 (0, 0)) (by (with_reducible repeat (first | refine blk_drewN ?_ _ | refine blk_drew ?_ | refine blk_alloc ?_ _)); exact BK449.out)) : gb455 ≠ gb449)); clear BK442; clear BK449; clear HB; have BK442 := n0_; have BK449 := n1_; have HB := n2_; have BK455 := n3_; have GW455 := n4_; have GE455 := n5_; have NB442_455 := n6_; have NB455_442 := n7_; have NB449_455 := n8_; have NB455_449 := n9_; clear n0_ n1_ n2_ n3_ n4_ n5_ n6_ n7_ n8_ n9_; clear hb hbox hg; have hnb51 := NB455_442.out; have hnc51 := NB442_455.out; have hnb52 := NB455_449.out; have hnc52 := NB449_455.out; have hcz53_0 : w50.cell? ⟨gb455, 0, none⟩ = some (.int .i64 0) := (blk_cell BK455.out 0).trans rfl; have hcz53_1 : w50.cell? ⟨gb455, 1, none⟩ = some (.int .i64 0) := (blk_cell BK455.out 1).trans rfl; have hcz53_2 : w50.cell? ⟨gb455, 2, none⟩ = some (.int .i64 0) := (blk_cell BK455.out 2).trans rfl; have hfz53_0 := blk_frozen BK455.out 0; have hfz53_1 := blk_frozen BK455.out 1; have hfz53_2 := blk_frozen BK455.out 2))
                          go_ret
                          exact ⟨by first | rfl | (simp [errW_none, errW_some] <;> rfl) | (simp [*, errW_none, errW_some] <;> rfl), by repeat (first | (with_reducible first | exact HB.out | apply below_alloc | apply pw_below_drewN | apply below_drew1 | refine below_set ?_ GE442.out | refine below_set ?_ GE449.out | refine below_set ?_ GE455.out) | exact HB.out)⟩
                      · rw [if_neg c38] at H
                        have c38b0 : decide (0 < t453) = false := decide_eq_false c38
                        clear c38
                        obtain rfl := Option.some.inj H
                        have hnb54 := NB442_449.out
                        have hnc54 := NB449_442.out
                        have hcz55_0 : wc.cell? ⟨gb442, 0, none⟩ = some (.slice (some ad448) l0_0.length c0_0) := (blk_cell BK442.out 0).trans rfl
                        have hcz55_1 : wc.cell? ⟨gb442, 1, none⟩ = some (.int .i64 a0_1) := (blk_cell BK442.out 1).trans rfl
                        have hcz55_2 : wc.cell? ⟨gb442, 2, none⟩ = some (.slice A0_2 l0_2.length c0_2) := (blk_cell BK442.out 2).trans rfl
                        have hcz55_3 : wc.cell? ⟨gb442, 3, none⟩ = some (.slice A0_3 l0_3.length c0_3) := (blk_cell BK442.out 3).trans rfl
                        have hcz55_4 : wc.cell? ⟨gb442, 4, none⟩ = some (.slice A0_4 l0_4.length c0_4) := (blk_cell BK442.out 4).trans rfl
                        have hcz55_5 : wc.cell? ⟨gb442, 5, none⟩ = some (.int .i64 a0_5) := (blk_cell BK442.out 5).trans rfl
                        have hfz55_0 := blk_frozen BK442.out 0
                        have hfz55_1 := blk_frozen BK442.out 1
                        have hfz55_2 := blk_frozen BK442.out 2
                        have hfz55_3 := blk_frozen BK442.out 3
                        have hfz55_4 := blk_frozen BK442.out 4
                        have hfz55_5 := blk_frozen BK442.out 5
                        go_wp2_with (first | ((with_reducible refine gate_callee (f := 33) rfl ?_); refine goesL_ (some 46) rfl rfl Tryd.func33 (by kernel_rfl) rfl #[.slice (some ad448) l0_0.length c0_0, .int .i64 a0_1] rfl (by (try simp only [List.map_toArray, List.map_cons, List.map_nil]); first | done | rfl | (simp only [List.length_drop, List.length_take]; rfl)) ?_; (with_reducible refine (typing_counted.calls kj15 _ _ l0_0 a0_1 t452 t453 t454 _ ?side1 ?side2 A36.out).mono ?_); (case side1 => repeat (first | exact (Kd.C_below HR0_0.out HB.out) | (with_reducible refine Kd.C_alloc ?_ _) | (with_reducible refine Kd.C_drewN ?_ _) | (with_reducible refine Kd.C_drew ?_))); (case side2 => exact HC0_0.out); rintro e w56 ⟨rfl, hb⟩; refine ⟨_, rfl, ?_⟩; have n0_ := Aside0.mk (blk_below (g := gb442) (o := .cells #[.slice (some ad448) l0_0.length c0_0, .int .i64 a0_1, .slice A0_2 l0_2.length c0_2, .slice A0_3 l0_3.length c0_3, .slice A0_4 l0_4.length c0_4, .int .i64 a0_5] 32 (0, 0)) (by (with_reducible repeat (first | refine blk_drewN ?_ _ | refine blk_drew ?_ | refine blk_alloc ?_ _)); exact BK442.out) hb); have n1_ := Aside0.mk (blk_below (g := gb449) (o := .cells #[.int .i64 ((rd_T37 l0_0 a0_1).f0), .int .i64 ((rd_T37 l0_0 a0_1).f1), .int .i64 ((rd_T37 l0_0 a0_1).f2), .int .i64 ((rd_T37 l0_0 a0_1).f3), .int .i64 ((rd_T37 l0_0 a0_1).f4), .string ((rd_T37 l0_0 a0_1).f5)] 37 (0, 0)) (by (with_reducible repeat (first | refine blk_drewN ?_ _ | refine blk_drew ?_ | refine blk_alloc ?_ _)); exact BK449.out) hb); have n2_ := Aside0.mk (below_step (by repeat (first | (with_reducible first | exact HB.out | apply below_alloc | apply pw_below_drewN | apply below_drew1 | refine below_set ?_ GE442.out | refine below_set ?_ GE449.out) | exact HB.out)) hb); clear BK442; clear BK449; clear HB; have BK442 := n0_; have BK449 := n1_; have HB := n2_; clear n0_ n1_ n2_; (try clear hb); (try clear hb2); (try clear hk); (try clear hi)) | ((with_reducible refine gate_dst (N := 6) rfl ?_); refine box_event ?hg (N := 6) ?hd (cs := #[.int .i64 0, .int .i64 0, .int .i64 0]) (t := 74) ?hr ?_; (case hd => rfl); (case hg => rfl); (case hr => first | (go_simp; done) | (go_simp; rfl)); intro gb455 hg w57 hbox hb; have n0_ := Aside0.mk (blk_below (g := gb442) (o := .cells #[.slice (some ad448) l0_0.length c0_0, .int .i64 a0_1, .slice A0_2 l0_2.length c0_2, .slice A0_3 l0_3.length c0_3, .slice A0_4 l0_4.length c0_4, .int .i64 a0_5] 32 (0, 0)) (by (with_reducible repeat (first | refine blk_drewN ?_ _ | refine blk_drew ?_ | refine blk_alloc ?_ _)); exact BK442.out) hb); have n1_ := Aside0.mk (blk_below (g := gb449) (o := .cells #[.int .i64 ((rd_T37 l0_0 a0_1).f0), .int .i64 ((rd_T37 l0_0 a0_1).f1), .int .i64 ((rd_T37 l0_0 a0_1).f2), .int .i64 ((rd_T37 l0_0 a0_1).f3), .int .i64 ((rd_T37 l0_0 a0_1).f4), .string ((rd_T37 l0_0 a0_1).f5)] 37 (0, 0)) (by (with_reducible repeat (first | refine blk_drewN ?_ _ | refine blk_drew ?_ | refine blk_alloc ?_ _)); exact BK449.out) hb); have n2_ := Aside0.mk (below_step (by repeat (first | (with_reducible first | exact HB.out | apply below_alloc | apply pw_below_drewN | apply below_drew1 | refine below_set ?_ GE442.out | refine below_set ?_ GE449.out) | exact HB.out)) hb); have n3_ := Aside0.mk (hbox); have n4_ := Aside0.mk ((by rw [hg]; exact (below_size (by repeat (first | (with_reducible first | exact HB.out | apply below_alloc | apply pw_below_drewN | apply below_drew1 | refine below_set ?_ GE442.out | refine below_set ?_ GE449.out) | exact HB.out))) : w.heap.size ≤ gb455)); have n5_ := Aside0.mk ((by rw [hg]; exact (below_size (by repeat (first | (with_reducible first | exact HB.out | apply below_alloc | apply pw_below_drewN | apply below_drew1 | refine below_set ?_ GE442.out | refine below_set ?_ GE449.out) | exact HB.out))) : w.heap.size ≤ gb455)); have n6_ := Aside0.mk ((by rw [hg]; exact Nat.ne_of_lt (blk_lt (g := gb442) (o := .cells #[.slice (some ad448) l0_0.length c0_0, .int .i64 a0_1, .slice A0_2 l0_2.length c0_2, .slice A0_3 l0_3.length c0_3, .slice A0_4 l0_4.length c0_4, .int .i64 a0_5] 32 (0, 0)) (by (with_reducible repeat (first | refine blk_drewN ?_ _ | refine blk_drew ?_ | refine blk_alloc ?_ _)); exact BK442.out)) : gb442 ≠ gb455)); have n7_ := Aside0.mk ((by rw [hg]; exact Nat.ne_of_gt (blk_lt (g := gb442) (o := .cells #[.slice (some ad448) l0_0.length c0_0, .int .i64 a0_1, .slice A0_2 l0_2.length c0_2, .slice A0_3 l0_3.length c0_3, .slice A0_4 l0_4.length c0_4, .int .i64 a0_5] 32 (0, 0)) (by (with_reducible repeat (first | refine blk_drewN ?_ _ | refine blk_drew ?_ | refine blk_alloc ?_ _)); exact BK442.out)) : gb455 ≠ gb442)); have n8_ := Aside0.mk ((by rw [hg]; exact Nat.ne_of_lt (blk_lt (g := gb449) (o := .cells #[.int .i64 ((rd_T37 l0_0 a0_1).f0), .int .i64 ((rd_T37 l0_0 a0_1).f1), .int .i64 ((rd_T37 l0_0 a0_1).f2), .int .i64 ((rd_T37 l0_0 a0_1).f3), .int .i64 ((rd_T37 l0_0 a0_1).f4), .string ((rd_T37 l0_0 a0_1).f5)] 37 (0, 0)) (by (with_reducible repeat (first | refine blk_drewN ?_ _ | refine blk_drew ?_ | refine blk_alloc ?_ _)); exact BK449.out)) : gb449 ≠ gb455)); have n9_ := Aside0.mk ((by rw [hg]; exact Nat.ne_of_gt (blk_lt (g := gb449) (o := .cells #[.int .i64 ((rd_T37 l0_0 a0_1).f0), .int .i64 ((rd_T37 l0_0 a0_1).f1), .int .i64 ((rd_T37 l0_0 a0_1).f2), .int .i64 ((rd_T37 l0_0 a0_1).f3), .int .i64 ((rd_T37 l0_0 a0_1).f4), .string ((rd_T37 l0_0 a0_1).f5)] 37 (0, 0)) (by (with_reducible repeat (first | refine blk_drewN ?_ _ | refine blk_drew ?_ | refine blk_alloc ?_ _)); exact BK449.out)) : gb455 ≠ gb449)); clear BK442; clear BK449; clear HB; have BK442 := n0_; have BK449 := n1_; have HB := n2_; have BK455 := n3_; have GW455 := n4_; have GE455 := n5_; have NB442_455 := n6_; have NB455_442 := n7_; have NB449_455 := n8_; have NB455_449 := n9_; clear n0_ n1_ n2_ n3_ n4_ n5_ n6_ n7_ n8_ n9_; clear hb hbox hg; have hnb58 := NB455_442.out; have hnc58 := NB442_455.out; have hnb59 := NB455_449.out; have hnc59 := NB449_455.out; have hcz60_0 : w57.cell? ⟨gb455, 0, none⟩ = some (.int .i64 0) := (blk_cell BK455.out 0).trans rfl; have hcz60_1 : w57.cell? ⟨gb455, 1, none⟩ = some (.int .i64 0) := (blk_cell BK455.out 1).trans rfl; have hcz60_2 : w57.cell? ⟨gb455, 2, none⟩ = some (.int .i64 0) := (blk_cell BK455.out 2).trans rfl; have hfz60_0 := blk_frozen BK455.out 0; have hfz60_1 := blk_frozen BK455.out 1; have hfz60_2 := blk_frozen BK455.out 2))
                        go_ret
                        exact ⟨by first | rfl | (simp [errW_none, errW_some] <;> rfl) | (simp [*, errW_none, errW_some] <;> rfl), by repeat (first | (with_reducible first | exact HB.out | apply below_alloc | apply pw_below_drewN | apply below_drew1 | refine below_set ?_ GE442.out | refine below_set ?_ GE449.out | refine below_set ?_ GE455.out) | exact HB.out)⟩
                    · rw [if_neg c37] at H
                      have c37b0 : (t452 == 1) = false := beq_eq_false_iff_ne.mpr c37
                      have c37b1 : (t452 != 1) = true := bne_iff_ne.mpr c37
                      obtain rfl := Option.some.inj H
                      have hnb61 := NB442_449.out
                      have hnc61 := NB449_442.out
                      have hcz62_0 : wc.cell? ⟨gb442, 0, none⟩ = some (.slice (some ad448) l0_0.length c0_0) := (blk_cell BK442.out 0).trans rfl
                      have hcz62_1 : wc.cell? ⟨gb442, 1, none⟩ = some (.int .i64 a0_1) := (blk_cell BK442.out 1).trans rfl
                      have hcz62_2 : wc.cell? ⟨gb442, 2, none⟩ = some (.slice A0_2 l0_2.length c0_2) := (blk_cell BK442.out 2).trans rfl
                      have hcz62_3 : wc.cell? ⟨gb442, 3, none⟩ = some (.slice A0_3 l0_3.length c0_3) := (blk_cell BK442.out 3).trans rfl
                      have hcz62_4 : wc.cell? ⟨gb442, 4, none⟩ = some (.slice A0_4 l0_4.length c0_4) := (blk_cell BK442.out 4).trans rfl
                      have hcz62_5 : wc.cell? ⟨gb442, 5, none⟩ = some (.int .i64 a0_5) := (blk_cell BK442.out 5).trans rfl
                      have hfz62_0 := blk_frozen BK442.out 0
                      have hfz62_1 := blk_frozen BK442.out 1
                      have hfz62_2 := blk_frozen BK442.out 2
                      have hfz62_3 := blk_frozen BK442.out 3
                      have hfz62_4 := blk_frozen BK442.out 4
                      have hfz62_5 := blk_frozen BK442.out 5
                      go_wp2_with (first | ((with_reducible refine gate_callee (f := 33) rfl ?_); refine goesL_ (some 46) rfl rfl Tryd.func33 (by kernel_rfl) rfl #[.slice (some ad448) l0_0.length c0_0, .int .i64 a0_1] rfl (by (try simp only [List.map_toArray, List.map_cons, List.map_nil]); first | done | rfl | (simp only [List.length_drop, List.length_take]; rfl)) ?_; (with_reducible refine (typing_counted.calls kj15 _ _ l0_0 a0_1 t452 t453 t454 _ ?side1 ?side2 A36.out).mono ?_); (case side1 => repeat (first | exact (Kd.C_below HR0_0.out HB.out) | (with_reducible refine Kd.C_alloc ?_ _) | (with_reducible refine Kd.C_drewN ?_ _) | (with_reducible refine Kd.C_drew ?_))); (case side2 => exact HC0_0.out); rintro e w63 ⟨rfl, hb⟩; refine ⟨_, rfl, ?_⟩; have n0_ := Aside0.mk (blk_below (g := gb442) (o := .cells #[.slice (some ad448) l0_0.length c0_0, .int .i64 a0_1, .slice A0_2 l0_2.length c0_2, .slice A0_3 l0_3.length c0_3, .slice A0_4 l0_4.length c0_4, .int .i64 a0_5] 32 (0, 0)) (by (with_reducible repeat (first | refine blk_drewN ?_ _ | refine blk_drew ?_ | refine blk_alloc ?_ _)); exact BK442.out) hb); have n1_ := Aside0.mk (blk_below (g := gb449) (o := .cells #[.int .i64 ((rd_T37 l0_0 a0_1).f0), .int .i64 ((rd_T37 l0_0 a0_1).f1), .int .i64 ((rd_T37 l0_0 a0_1).f2), .int .i64 ((rd_T37 l0_0 a0_1).f3), .int .i64 ((rd_T37 l0_0 a0_1).f4), .string ((rd_T37 l0_0 a0_1).f5)] 37 (0, 0)) (by (with_reducible repeat (first | refine blk_drewN ?_ _ | refine blk_drew ?_ | refine blk_alloc ?_ _)); exact BK449.out) hb); have n2_ := Aside0.mk (below_step (by repeat (first | (with_reducible first | exact HB.out | apply below_alloc | apply pw_below_drewN | apply below_drew1 | refine below_set ?_ GE442.out | refine below_set ?_ GE449.out) | exact HB.out)) hb); clear BK442; clear BK449; clear HB; have BK442 := n0_; have BK449 := n1_; have HB := n2_; clear n0_ n1_ n2_; (try clear hb); (try clear hb2); (try clear hk); (try clear hi)) | ((with_reducible refine gate_dst (N := 6) rfl ?_); refine box_event ?hg (N := 6) ?hd (cs := #[.int .i64 0, .int .i64 0, .int .i64 0]) (t := 74) ?hr ?_; (case hd => rfl); (case hg => rfl); (case hr => first | (go_simp; done) | (go_simp; rfl)); intro gb455 hg w64 hbox hb; have n0_ := Aside0.mk (blk_below (g := gb442) (o := .cells #[.slice (some ad448) l0_0.length c0_0, .int .i64 a0_1, .slice A0_2 l0_2.length c0_2, .slice A0_3 l0_3.length c0_3, .slice A0_4 l0_4.length c0_4, .int .i64 a0_5] 32 (0, 0)) (by (with_reducible repeat (first | refine blk_drewN ?_ _ | refine blk_drew ?_ | refine blk_alloc ?_ _)); exact BK442.out) hb); have n1_ := Aside0.mk (blk_below (g := gb449) (o := .cells #[.int .i64 ((rd_T37 l0_0 a0_1).f0), .int .i64 ((rd_T37 l0_0 a0_1).f1), .int .i64 ((rd_T37 l0_0 a0_1).f2), .int .i64 ((rd_T37 l0_0 a0_1).f3), .int .i64 ((rd_T37 l0_0 a0_1).f4), .string ((rd_T37 l0_0 a0_1).f5)] 37 (0, 0)) (by (with_reducible repeat (first | refine blk_drewN ?_ _ | refine blk_drew ?_ | refine blk_alloc ?_ _)); exact BK449.out) hb); have n2_ := Aside0.mk (below_step (by repeat (first | (with_reducible first | exact HB.out | apply below_alloc | apply pw_below_drewN | apply below_drew1 | refine below_set ?_ GE442.out | refine below_set ?_ GE449.out) | exact HB.out)) hb); have n3_ := Aside0.mk (hbox); have n4_ := Aside0.mk ((by rw [hg]; exact (below_size (by repeat (first | (with_reducible first | exact HB.out | apply below_alloc | apply pw_below_drewN | apply below_drew1 | refine below_set ?_ GE442.out | refine below_set ?_ GE449.out) | exact HB.out))) : w.heap.size ≤ gb455)); have n5_ := Aside0.mk ((by rw [hg]; exact (below_size (by repeat (first | (with_reducible first | exact HB.out | apply below_alloc | apply pw_below_drewN | apply below_drew1 | refine below_set ?_ GE442.out | refine below_set ?_ GE449.out) | exact HB.out))) : w.heap.size ≤ gb455)); have n6_ := Aside0.mk ((by rw [hg]; exact Nat.ne_of_lt (blk_lt (g := gb442) (o := .cells #[.slice (some ad448) l0_0.length c0_0, .int .i64 a0_1, .slice A0_2 l0_2.length c0_2, .slice A0_3 l0_3.length c0_3, .slice A0_4 l0_4.length c0_4, .int .i64 a0_5] 32 (0, 0)) (by (with_reducible repeat (first | refine blk_drewN ?_ _ | refine blk_drew ?_ | refine blk_alloc ?_ _)); exact BK442.out)) : gb442 ≠ gb455)); have n7_ := Aside0.mk ((by rw [hg]; exact Nat.ne_of_gt (blk_lt (g := gb442) (o := .cells #[.slice (some ad448) l0_0.length c0_0, .int .i64 a0_1, .slice A0_2 l0_2.length c0_2, .slice A0_3 l0_3.length c0_3, .slice A0_4 l0_4.length c0_4, .int .i64 a0_5] 32 (0, 0)) (by (with_reducible repeat (first | refine blk_drewN ?_ _ | refine blk_drew ?_ | refine blk_alloc ?_ _)); exact BK442.out)) : gb455 ≠ gb442)); have n8_ := Aside0.mk ((by rw [hg]; exact Nat.ne_of_lt (blk_lt (g := gb449) (o := .cells #[.int .i64 ((rd_T37 l0_0 a0_1).f0), .int .i64 ((rd_T37 l0_0 a0_1).f1), .int .i64 ((rd_T37 l0_0 a0_1).f2), .int .i64 ((rd_T37 l0_0 a0_1).f3), .int .i64 ((rd_T37 l0_0 a0_1).f4), .string ((rd_T37 l0_0 a0_1).f5)] 37 (0, 0)) (by (with_reducible repeat (first | refine blk_drewN ?_ _ | refine blk_drew ?_ | refine blk_alloc ?_ _)); exact BK449.out)) : gb449 ≠ gb455)); have n9_ := Aside0.mk ((by rw [hg]; exact Nat.ne_of_gt (blk_lt (g := gb449) (o := .cells #[.int .i64 ((rd_T37 l0_0 a0_1).f0), .int .i64 ((rd_T37 l0_0 a0_1).f1), .int .i64 ((rd_T37 l0_0 a0_1).f2), .int .i64 ((rd_T37 l0_0 a0_1).f3), .int .i64 ((rd_T37 l0_0 a0_1).f4), .string ((rd_T37 l0_0 a0_1).f5)] 37 (0, 0)) (by (with_reducible repeat (first | refine blk_drewN ?_ _ | refine blk_drew ?_ | refine blk_alloc ?_ _)); exact BK449.out)) : gb455 ≠ gb449)); clear BK442; clear BK449; clear HB; have BK442 := n0_; have BK449 := n1_; have HB := n2_; have BK455 := n3_; have GW455 := n4_; have GE455 := n5_; have NB442_455 := n6_; have NB455_442 := n7_; have NB449_455 := n8_; have NB455_449 := n9_; clear n0_ n1_ n2_ n3_ n4_ n5_ n6_ n7_ n8_ n9_; clear hb hbox hg; have hnb65 := NB455_442.out; have hnc65 := NB442_455.out; have hnb66 := NB455_449.out; have hnc66 := NB449_455.out; have hcz67_0 : w64.cell? ⟨gb455, 0, none⟩ = some (.int .i64 0) := (blk_cell BK455.out 0).trans rfl; have hcz67_1 : w64.cell? ⟨gb455, 1, none⟩ = some (.int .i64 0) := (blk_cell BK455.out 1).trans rfl; have hcz67_2 : w64.cell? ⟨gb455, 2, none⟩ = some (.int .i64 0) := (blk_cell BK455.out 2).trans rfl; have hfz67_0 := blk_frozen BK455.out 0; have hfz67_1 := blk_frozen BK455.out 1; have hfz67_2 := blk_frozen BK455.out 2))
                      go_ret
                      exact ⟨by first | rfl | (simp [errW_none, errW_some] <;> rfl) | (simp [*, errW_none, errW_some] <;> rfl), by repeat (first | (with_reducible first | exact HB.out | apply below_alloc | apply pw_below_drewN | apply below_drew1 | refine below_set ?_ GE442.out | refine below_set ?_ GE449.out | refine below_set ?_ GE455.out) | exact HB.out)⟩
            · rw [if_neg c15] at H
              exact absurd H (by simp)
          · rw [if_neg c14] at H
            exact absurd H (by simp)

end Go.Proofs.YtoamflnkaaconaaDoor.X
