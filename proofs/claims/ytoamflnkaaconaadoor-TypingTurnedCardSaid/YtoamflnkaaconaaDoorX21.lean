/- Contracts of functions, written by a program of this work (xprint.py) out of the translation. -/
import Derived.Test.YtoamflnkaaconaaDoorX0
import Derived.Test.YtoamflnkaaconaaDoorX4
import Derived.Test.YtoamflnkaaconaaDoorX20
import Derived.Test.YtoamflnkaaconaaDoorGlob
namespace Go.Proofs.YtoamflnkaaconaaDoor.X
open Go.RowKit Go.Proofs.YtoamflnkaaconaaDoorW.PrintWords Go.Proofs.YtoamflnkaaconaaDoorW.PrintLast Go.Proofs.YtoamflnkaaconaaDoorW.PrintMore
attribute [local go_sem] max2_int min2_int max_two min_two max_three min_three max_four min_four   -- for this text's walks alone
set_option linter.unusedVariables false
set_option linter.unusedSimpArgs false

/-! ### daybooklaw14_TypingTurned: function 5 -/
def daybooklaw14_TypingTurned.j0 : Nat → Int → Bool → Bool → List (S37) → Int → List Int → List (S47) → List (S69) → Int → List (S37) → Int → List Int → List (S47) → List (S69) → Int → Option (Bool)
  | 0, _, _, _, _, _, _, _, _, _, _, _, _, _, _, _ => none
  | k + 1, x1, x5, x21, x176000, x176001, x176002, x176003, x176004, x176005, x192000, x192001, x192002, x192003, x192004, x192005 => if x21 = true then (some x5) else (if 0 ≤ x1 then (if x1 < (x192000.length : Int) then ((daybooklaw14_turned.f k ((rd_T37 x192000 x1).f0)).bind fun bt193 => (if bt193.2 = true then ((some (x192000.set (x1 : Int).toNat (⟨bt193.1, (rd_T37 x192000 x1).f1, (rd_T37 x192000 x1).f2, (rd_T37 x192000 x1).f3, (rd_T37 x192000 x1).f4, (rd_T37 x192000 x1).f5⟩ : S37) : List (S37))).bind fun y195 => (if x1 < (x176000.length : Int) then ((some (y195.set (x1 : Int).toNat (⟨(rd_T37 y195 x1).f0, (rd_T37 x176000 x1).f2, (rd_T37 y195 x1).f2, (rd_T37 y195 x1).f3, (rd_T37 y195 x1).f4, (rd_T37 y195 x1).f5⟩ : S37) : List (S37))).bind fun y197 => ((daybooklaw14_like.f k (y197.set (x1 : Int).toNat (⟨(rd_T37 y197 x1).f0, (rd_T37 y197 x1).f1, (rd_T37 x176000 x1).f1, (rd_T37 y197 x1).f3, (rd_T37 y197 x1).f4, (rd_T37 y197 x1).f5⟩ : S37)) x192001 x192002 x192003 x192004 x192005 x176000 x176001 x176002 x176003 x176004 x176005).bind fun t200 => (if x5 = true then (some t200) else (some false)))) else (none))) else (some x5))) else (none)) else (none))
def daybooklaw14_TypingTurned.f (k : Nat) (l0_0 : List (S37)) (a0_1 : Int) (l0_2 : List Int) (l0_3 : List (S47)) (l0_4 : List (S69)) (a0_5 : Int) (a1 : Int) : Option (Bool) := (daybooklaw14_first.f).bind fun t176 => ((daybooklaw14_twin.f l0_0 a0_1 l0_2 l0_3 l0_4 a0_5).bind fun bt177 => (if a1 < 0 then (daybooklaw14_TypingTurned.j0 k a1 t176 true l0_0 a0_1 l0_2 l0_3 l0_4 a0_5 bt177.1 bt177.2.1 bt177.2.2.1 bt177.2.2.2.1 bt177.2.2.2.2.1 bt177.2.2.2.2.2) else (daybooklaw14_TypingTurned.j0 k a1 t176 (decide (a1 ≥ (bt177.1.length : Int))) l0_0 a0_1 l0_2 l0_3 l0_4 a0_5 bt177.1 bt177.2.1 bt177.2.2.1 bt177.2.2.2.1 bt177.2.2.2.2.1 bt177.2.2.2.2.2)))
theorem daybooklaw14_TypingTurned.mono_l : ∀ k, (∀ y0 y1 y2 y3 y4 y5 y6 y7 y8 y9 y10 y11 y12 y13 y14, LeO (daybooklaw14_TypingTurned.j0 k y0 y1 y2 y3 y4 y5 y6 y7 y8 y9 y10 y11 y12 y13 y14) (daybooklaw14_TypingTurned.j0 (k + 1) y0 y1 y2 y3 y4 y5 y6 y7 y8 y9 y10 y11 y12 y13 y14))
  | 0 => fun _ _ _ _ _ _ _ _ _ _ _ _ _ _ _ r h => by simp [daybooklaw14_TypingTurned.j0] at h
  | k + 1 => by
    have ih0 := daybooklaw14_TypingTurned.mono_l k
    · intro y0 y1 y2 y3 y4 y5 y6 y7 y8 y9 y10 y11 y12 y13 y14
      unfold daybooklaw14_TypingTurned.j0
      repeat' first
      | (with_reducible exact ih0 _ _ _ _ _ _ _ _ _ _ _ _ _ _ _)
      | (with_reducible exact daybooklaw14_like.mono _ _ _ _ _ _ _ _ _ _ _ _ _)
      | (with_reducible exact daybooklaw14_turned.mono _ _)
      | (with_reducible exact LeO.refl _)
      | (with_reducible exact LeO.none _)
      | (with_reducible refine LeO.ite ?_ ?_)
      | (with_reducible refine LeO.bind ?_ (fun _ => ?_))
      | exact ih0 _ _ _ _ _ _ _ _ _ _ _ _ _ _ _
      | exact daybooklaw14_like.mono _ _ _ _ _ _ _ _ _ _ _ _ _
      | exact daybooklaw14_turned.mono _ _
      | exact LeO.none _
      | refine LeO.ite ?_ ?_
      | refine LeO.bind ?_ (fun _ => ?_)
theorem daybooklaw14_TypingTurned.mono : ∀ a0 a1 a2 a3 a4 a5 a6 k, LeO (daybooklaw14_TypingTurned.f k a0 a1 a2 a3 a4 a5 a6) (daybooklaw14_TypingTurned.f (k + 1) a0 a1 a2 a3 a4 a5 a6) := by
  intro a0 a1 a2 a3 a4 a5 a6 k
  have ih0 := daybooklaw14_TypingTurned.mono_l k
  unfold daybooklaw14_TypingTurned.f
  repeat' first
      | (with_reducible exact ih0 _ _ _ _ _ _ _ _ _ _ _ _ _ _ _)
      | (with_reducible exact daybooklaw14_like.mono _ _ _ _ _ _ _ _ _ _ _ _ _)
      | (with_reducible exact daybooklaw14_turned.mono _ _)
      | (with_reducible exact LeO.refl _)
      | (with_reducible exact LeO.none _)
      | (with_reducible refine LeO.ite ?_ ?_)
      | (with_reducible refine LeO.bind ?_ (fun _ => ?_))
      | exact ih0 _ _ _ _ _ _ _ _ _ _ _ _ _ _ _
      | exact daybooklaw14_like.mono _ _ _ _ _ _ _ _ _ _ _ _ _
      | exact daybooklaw14_turned.mono _ _
      | exact LeO.none _
      | refine LeO.ite ?_ ?_
      | refine LeO.bind ?_ (fun _ => ?_)
def daybooklaw14_TypingTurned.T9 : Bool × List (List Nat × List Nat) := (true, [([], []), ([0], [0]), ([], []), ([], []), ([3], [3]), ([], []), ([4, 5], [4, 5]), ([6], [6]), ([7], [7]), ([1, 2, 0, 1, 2, 3, 4, 5, 6, 7, 8], [1, 2]), ([9, 0, 1, 2, 3, 4, 5, 6, 7, 8], [9]), ([10, 8, 0, 1, 2, 3, 4, 5, 6, 7, 8], [8, 10])])
def daybooklaw14_TypingTurned.B9 : List Nat := [0, 1, 0, 0, 8, 0, 56, 120, 248, 511, 1023, 2047]
theorem daybooklaw14_TypingTurned.tab9 : rtab .any (opsOf Tryd.f5 9) = daybooklaw14_TypingTurned.T9 := by kernel_rfl
theorem daybooklaw14_TypingTurned.bits9 : waitsOk daybooklaw14_TypingTurned.T9.2 daybooklaw14_TypingTurned.B9 = true := by kernel_rfl
def daybooklaw14_TypingTurned.T10 : Bool × List (List Nat × List Nat) := (true, [([], []), ([0], [0]), ([], []), ([], []), ([3], [3]), ([], []), ([4, 5], [4, 5]), ([6], [6]), ([7], [7]), ([1, 2, 0, 1, 2, 3, 4, 5, 6, 7, 8], [1, 2]), ([9, 0, 1, 2, 3, 4, 5, 6, 7, 8], [9]), ([10, 8, 0, 1, 2, 3, 4, 5, 6, 7, 8], [8, 10])])
def daybooklaw14_TypingTurned.B10 : List Nat := [0, 1, 0, 0, 8, 0, 56, 120, 248, 511, 1023, 2047]
theorem daybooklaw14_TypingTurned.tab10 : rtab .any (opsOf Tryd.f5 10) = daybooklaw14_TypingTurned.T10 := by kernel_rfl
theorem daybooklaw14_TypingTurned.bits10 : waitsOk daybooklaw14_TypingTurned.T10.2 daybooklaw14_TypingTurned.B10 = true := by kernel_rfl
set_option maxHeartbeats 8000000 in
set_option maxRecDepth 100000 in
theorem daybooklaw14_TypingTurned.calls (k : Nat) (A0_0 : Option Addr) (c0_0 : Nat) (l0_0 : List (S37)) (a0_1 : Int) (A0_2 : Option Addr) (c0_2 : Nat) (l0_2 : List Int) (A0_3 : Option Addr) (c0_3 : Nat) (l0_3 : List (S47)) (A0_4 : Option Addr) (c0_4 : Nat) (l0_4 : List (S69)) (a0_5 : Int) (a1 : Int) (r : Bool) (w : World) (hr0_0 : Kd.C k37 w A0_0 l0_0.length l0_0) (hc0_0 : l0_0.length ≤ c0_0) (hr0_2 : Kd.C (Kd.int .i64) w A0_2 l0_2.length l0_2) (hc0_2 : l0_2.length ≤ c0_2) (hr0_3 : Kd.C k47 w A0_3 l0_3.length l0_3) (hc0_3 : l0_3.length ≤ c0_3) (hr0_4 : Kd.C k69 w A0_4 l0_4.length l0_4) (hc0_4 : l0_4.length ≤ c0_4) (h : daybooklaw14_TypingTurned.f k l0_0 a0_1 l0_2 l0_3 l0_4 a0_5 a1 = some r) (G : Glob w) :
    Calls Tryd.prog 5 #[.agg #[.slice A0_0 l0_0.length c0_0, .int .i64 a0_1, .slice A0_2 l0_2.length c0_2, .slice A0_3 l0_3.length c0_3, .slice A0_4 l0_4.length c0_4, .int .i64 a0_5], .int .i64 a1] w fun e w' => e = .returned (.bool r) ∧ Below w.heap.size w w' := by
  have G0 := Aside0.mk G
  clear G
  have hu32 := Tryd.underlying32
  have HR0_0 := Aside0.mk hr0_0
  have HC0_0 := Aside0.mk hc0_0
  clear hr0_0 hc0_0
  have HR0_2 := Aside0.mk hr0_2
  have HC0_2 := Aside0.mk hc0_2
  clear hr0_2 hc0_2
  have HR0_3 := Aside0.mk hr0_3
  have HC0_3 := Aside0.mk hc0_3
  clear hr0_3 hc0_3
  have HR0_4 := Aside0.mk hr0_4
  have HC0_4 := Aside0.mk hc0_4
  clear hr0_4 hc0_4
  have HB := Aside0.mk (Below.refl w.heap.size w)
  have H : ((daybooklaw14_first.f).bind fun t176 => ((daybooklaw14_twin.f l0_0 a0_1 l0_2 l0_3 l0_4 a0_5).bind fun bt177 => (if a1 < 0 then (daybooklaw14_TypingTurned.j0 k a1 t176 true l0_0 a0_1 l0_2 l0_3 l0_4 a0_5 bt177.1 bt177.2.1 bt177.2.2.1 bt177.2.2.2.1 bt177.2.2.2.2.1 bt177.2.2.2.2.2) else (daybooklaw14_TypingTurned.j0 k a1 t176 (decide (a1 ≥ (bt177.1.length : Int))) l0_0 a0_1 l0_2 l0_3 l0_4 a0_5 bt177.1 bt177.2.1 bt177.2.2.1 bt177.2.2.2.1 bt177.2.2.2.2.1 bt177.2.2.2.2.2)))) = some r := h
  clear h
  replace H := Option.bind_eq_some_iff.mp H
  obtain ⟨t176, A30, H⟩ := H
  replace H : ((daybooklaw14_twin.f l0_0 a0_1 l0_2 l0_3 l0_4 a0_5).bind fun bt177 => (if a1 < 0 then (daybooklaw14_TypingTurned.j0 k a1 t176 true l0_0 a0_1 l0_2 l0_3 l0_4 a0_5 bt177.1 bt177.2.1 bt177.2.2.1 bt177.2.2.2.1 bt177.2.2.2.2.1 bt177.2.2.2.2.2) else (daybooklaw14_TypingTurned.j0 k a1 t176 (decide (a1 ≥ (bt177.1.length : Int))) l0_0 a0_1 l0_2 l0_3 l0_4 a0_5 bt177.1 bt177.2.1 bt177.2.2.1 bt177.2.2.2.1 bt177.2.2.2.2.1 bt177.2.2.2.2.2))) = some r := H
  have A3 := Aside0.mk A30
  clear A30
  replace H := Option.bind_eq_some_iff.mp H
  obtain ⟨⟨t177, t180, t181, t184, t187, t190⟩, A40, H⟩ := H
  replace H : (if a1 < 0 then (daybooklaw14_TypingTurned.j0 k a1 t176 true l0_0 a0_1 l0_2 l0_3 l0_4 a0_5 t177 t180 t181 t184 t187 t190) else (daybooklaw14_TypingTurned.j0 k a1 t176 (decide (a1 ≥ (t177.length : Int))) l0_0 a0_1 l0_2 l0_3 l0_4 a0_5 t177 t180 t181 t184 t187 t190)) = some r := H
  have A4 := Aside0.mk A40
  clear A40
  have HC5 := Aside0.mk H
  clear H
  go_enter Tryd.func5, Tryd.ntmps5
  go_upto_region 3 with (first | ((with_reducible refine gate_dst (N := 2) rfl ?_); (try (refine gate_guard (by rfl) ?_; dsimp only)); refine box_event ?hg (N := 2) ?hd (cs := #[.slice A0_0 l0_0.length c0_0, .int .i64 a0_1, .slice A0_2 l0_2.length c0_2, .slice A0_3 l0_3.length c0_3, .slice A0_4 l0_4.length c0_4, .int .i64 a0_5]) (t := 32) ?hr ?_; (case hd => rfl); (case hg => rfl); (case hr => first | (go_simp; done) | (go_simp; rfl)); intro gb175 hg w6 hbox hb; have n0_ := Aside0.mk (below_step (by repeat (first | (with_reducible first | exact HB.out | apply below_alloc | apply pw_below_drewN | apply below_drew1) | exact HB.out)) hb); have n1_ := Aside0.mk (hbox); have n2_ := Aside0.mk ((by rw [hg]; exact (below_size (by repeat (first | (with_reducible first | exact HB.out | apply below_alloc | apply pw_below_drewN | apply below_drew1) | exact HB.out))) : w.heap.size ≤ gb175)); have n3_ := Aside0.mk ((by rw [hg]; exact (below_size (by repeat (first | (with_reducible first | exact HB.out | apply below_alloc | apply pw_below_drewN | apply below_drew1) | exact HB.out))) : w.heap.size ≤ gb175)); clear HB; have HB := n0_; have BK175 := n1_; have GW175 := n2_; have GE175 := n3_; clear n0_ n1_ n2_ n3_; clear hb hbox hg) | ((with_reducible refine gate_callee (f := 13) rfl ?_); refine goesL_ (some 10) rfl rfl Tryd.func13 (by kernel_rfl) rfl #[] rfl (by (try simp only [List.map_toArray, List.map_cons, List.map_nil]); first | done | rfl | (simp only [List.length_drop, List.length_take]; rfl)) ?_; (with_reducible refine (daybooklaw14_first.calls  t176 _ A3.out (Glob.step G0.out (by repeat (first | (with_reducible first | exact HB.out | apply below_alloc | apply pw_below_drewN | apply below_drew1) | exact HB.out)))).mono ?_); rintro e w7 ⟨rfl, hb⟩; refine ⟨_, rfl, ?_⟩; have n0_ := Aside0.mk (blk_below (g := gb175) (o := .cells #[.slice A0_0 l0_0.length c0_0, .int .i64 a0_1, .slice A0_2 l0_2.length c0_2, .slice A0_3 l0_3.length c0_3, .slice A0_4 l0_4.length c0_4, .int .i64 a0_5] 32 (0, 0)) (by (with_reducible repeat (first | refine blk_drewN ?_ _ | refine blk_drew ?_ | refine blk_alloc ?_ _)); exact BK175.out) hb); have n1_ := Aside0.mk (below_step (by repeat (first | (with_reducible first | exact HB.out | apply below_alloc | apply pw_below_drewN | apply below_drew1 | refine below_set ?_ GE175.out) | exact HB.out)) hb); clear BK175; clear HB; have BK175 := n0_; have HB := n1_; clear n0_ n1_; (try clear hb); (try clear hb2); (try clear hk); (try clear hi); have hcz8_0 : w7.cell? ⟨gb175, 0, none⟩ = some (.slice A0_0 l0_0.length c0_0) := (blk_cell BK175.out 0).trans rfl; have hcz8_1 : w7.cell? ⟨gb175, 1, none⟩ = some (.int .i64 a0_1) := (blk_cell BK175.out 1).trans rfl; have hcz8_2 : w7.cell? ⟨gb175, 2, none⟩ = some (.slice A0_2 l0_2.length c0_2) := (blk_cell BK175.out 2).trans rfl; have hcz8_3 : w7.cell? ⟨gb175, 3, none⟩ = some (.slice A0_3 l0_3.length c0_3) := (blk_cell BK175.out 3).trans rfl; have hcz8_4 : w7.cell? ⟨gb175, 4, none⟩ = some (.slice A0_4 l0_4.length c0_4) := (blk_cell BK175.out 4).trans rfl; have hcz8_5 : w7.cell? ⟨gb175, 5, none⟩ = some (.int .i64 a0_5) := (blk_cell BK175.out 5).trans rfl; have hfz8_0 := blk_frozen BK175.out 0; have hfz8_1 := blk_frozen BK175.out 1; have hfz8_2 := blk_frozen BK175.out 2; have hfz8_3 := blk_frozen BK175.out 3; have hfz8_4 := blk_frozen BK175.out 4; have hfz8_5 := blk_frozen BK175.out 5) | ((with_reducible refine gate_callee (f := 14) rfl ?_); refine goesL_ (some 12) rfl rfl Tryd.func14 (by kernel_rfl) rfl #[.agg #[.slice A0_0 l0_0.length c0_0, .int .i64 a0_1, .slice A0_2 l0_2.length c0_2, .slice A0_3 l0_3.length c0_3, .slice A0_4 l0_4.length c0_4, .int .i64 a0_5]] rfl (by (try simp only [List.map_toArray, List.map_cons, List.map_nil]); first | done | rfl | (simp only [List.length_drop, List.length_take]; rfl)) ?_; (with_reducible refine (daybooklaw14_twin.calls _ _ l0_0 a0_1 _ _ l0_2 _ _ l0_3 _ _ l0_4 a0_5 t177 t180 t181 t184 t187 t190 _ ?side1 ?side2 ?side3 ?side4 ?side5 ?side6 ?side7 ?side8 A4.out).mono ?_); (case side1 => repeat (first | exact (Kd.C_below HR0_0.out HB.out) | (with_reducible refine Kd.C_alloc ?_ _) | (with_reducible refine Kd.C_drewN ?_ _) | (with_reducible refine Kd.C_drew ?_))); (case side2 => exact HC0_0.out); (case side3 => repeat (first | exact (Kd.C_below HR0_2.out HB.out) | (with_reducible refine Kd.C_alloc ?_ _) | (with_reducible refine Kd.C_drewN ?_ _) | (with_reducible refine Kd.C_drew ?_))); (case side4 => exact HC0_2.out); (case side5 => repeat (first | exact (Kd.C_below HR0_3.out HB.out) | (with_reducible refine Kd.C_alloc ?_ _) | (with_reducible refine Kd.C_drewN ?_ _) | (with_reducible refine Kd.C_drew ?_))); (case side6 => exact HC0_3.out); (case side7 => repeat (first | exact (Kd.C_below HR0_4.out HB.out) | (with_reducible refine Kd.C_alloc ?_ _) | (with_reducible refine Kd.C_drewN ?_ _) | (with_reducible refine Kd.C_drew ?_))); (case side8 => exact HC0_4.out); rintro e w9 ⟨v178, v182, v185, v188, rfl, ho0, ho1, ho2, ho3, hb⟩; refine ⟨_, rfl, ?_⟩; have n0_ := Aside0.mk (Kd.R_lower ho0 (below_size (by repeat (first | (with_reducible first | exact HB.out | apply below_alloc | apply pw_below_drewN | apply below_drew1 | refine below_set ?_ GE175.out) | exact HB.out)))); have n1_ := Aside0.mk (Kd.R_lower ho1 (below_size (by repeat (first | (with_reducible first | exact HB.out | apply below_alloc | apply pw_below_drewN | apply below_drew1 | refine below_set ?_ GE175.out) | exact HB.out)))); have n2_ := Aside0.mk (Kd.R_lower ho2 (below_size (by repeat (first | (with_reducible first | exact HB.out | apply below_alloc | apply pw_below_drewN | apply below_drew1 | refine below_set ?_ GE175.out) | exact HB.out)))); have n3_ := Aside0.mk (Kd.R_lower ho3 (below_size (by repeat (first | (with_reducible first | exact HB.out | apply below_alloc | apply pw_below_drewN | apply below_drew1 | refine below_set ?_ GE175.out) | exact HB.out)))); have n4_ := Aside0.mk (blk_below (g := gb175) (o := .cells #[.slice A0_0 l0_0.length c0_0, .int .i64 a0_1, .slice A0_2 l0_2.length c0_2, .slice A0_3 l0_3.length c0_3, .slice A0_4 l0_4.length c0_4, .int .i64 a0_5] 32 (0, 0)) (by (with_reducible repeat (first | refine blk_drewN ?_ _ | refine blk_drew ?_ | refine blk_alloc ?_ _)); exact BK175.out) hb); have n5_ := Aside0.mk (below_step (by repeat (first | (with_reducible first | exact HB.out | apply below_alloc | apply pw_below_drewN | apply below_drew1 | refine below_set ?_ GE175.out) | exact HB.out)) hb); clear BK175; clear HB; have HO179 := n0_; have HO183 := n1_; have HO186 := n2_; have HO189 := n3_; have BK175 := n4_; have HB := n5_; clear n0_ n1_ n2_ n3_ n4_ n5_; (try clear hb); (try clear hb2); (try clear hk); (try clear hi); (try clear ho0); (try clear ho1); (try clear ho2); (try clear ho3)) | ((with_reducible refine gate_dst (N := 6) rfl ?_); (try (refine gate_guard (by rfl) ?_; dsimp only)); refine box_event ?hg (N := 6) ?hd (cs := #[.slice none 0 0, .int .i64 0, .slice none 0 0, .slice none 0 0, .slice none 0 0, .int .i64 0]) (t := 32) ?hr ?_; (case hd => rfl); (case hg => rfl); (case hr => first | (go_simp; done) | (go_simp; rfl)); intro gb191 hg w10 hbox hb; have n0_ := Aside0.mk (Kd.R_below (by (with_reducible repeat (first | apply Kd.R_alloc | apply Kd.R_drewN | apply Kd.R_drew)); exact HO179.out) hb); have n1_ := Aside0.mk (Kd.R_below (by (with_reducible repeat (first | apply Kd.R_alloc | apply Kd.R_drewN | apply Kd.R_drew)); exact HO183.out) hb); have n2_ := Aside0.mk (Kd.R_below (by (with_reducible repeat (first | apply Kd.R_alloc | apply Kd.R_drewN | apply Kd.R_drew)); exact HO186.out) hb); have n3_ := Aside0.mk (Kd.R_below (by (with_reducible repeat (first | apply Kd.R_alloc | apply Kd.R_drewN | apply Kd.R_drew)); exact HO189.out) hb); have n4_ := Aside0.mk (blk_below (g := gb175) (o := .cells #[.slice A0_0 l0_0.length c0_0, .int .i64 a0_1, .slice A0_2 l0_2.length c0_2, .slice A0_3 l0_3.length c0_3, .slice A0_4 l0_4.length c0_4, .int .i64 a0_5] 32 (0, 0)) (by (with_reducible repeat (first | refine blk_drewN ?_ _ | refine blk_drew ?_ | refine blk_alloc ?_ _)); exact BK175.out) hb); have n5_ := Aside0.mk (below_step (by repeat (first | (with_reducible first | exact HB.out | apply below_alloc | apply pw_below_drewN | apply below_drew1 | refine below_set ?_ GE175.out) | exact HB.out)) hb); have n6_ := Aside0.mk (hbox); have n7_ := Aside0.mk ((by rw [hg]; exact (below_size (by repeat (first | (with_reducible first | exact HB.out | apply below_alloc | apply pw_below_drewN | apply below_drew1 | refine below_set ?_ GE175.out) | exact HB.out))) : w.heap.size ≤ gb191)); have n8_ := Aside0.mk ((by rw [hg]; exact (below_size (by repeat (first | (with_reducible first | exact HB.out | apply below_alloc | apply pw_below_drewN | apply below_drew1 | refine below_set ?_ GE175.out) | exact HB.out))) : w.heap.size ≤ gb191)); have n9_ := Aside0.mk ((by rw [hg]; exact Nat.ne_of_lt (blk_lt (g := gb175) (o := .cells #[.slice A0_0 l0_0.length c0_0, .int .i64 a0_1, .slice A0_2 l0_2.length c0_2, .slice A0_3 l0_3.length c0_3, .slice A0_4 l0_4.length c0_4, .int .i64 a0_5] 32 (0, 0)) (by (with_reducible repeat (first | refine blk_drewN ?_ _ | refine blk_drew ?_ | refine blk_alloc ?_ _)); exact BK175.out)) : gb175 ≠ gb191)); have n10_ := Aside0.mk ((by rw [hg]; exact Nat.ne_of_gt (blk_lt (g := gb175) (o := .cells #[.slice A0_0 l0_0.length c0_0, .int .i64 a0_1, .slice A0_2 l0_2.length c0_2, .slice A0_3 l0_3.length c0_3, .slice A0_4 l0_4.length c0_4, .int .i64 a0_5] 32 (0, 0)) (by (with_reducible repeat (first | refine blk_drewN ?_ _ | refine blk_drew ?_ | refine blk_alloc ?_ _)); exact BK175.out)) : gb191 ≠ gb175)); clear HO179; clear HO183; clear HO186; clear HO189; clear BK175; clear HB; have HO179 := n0_; have HO183 := n1_; have HO186 := n2_; have HO189 := n3_; have BK175 := n4_; have HB := n5_; have BK191 := n6_; have GW191 := n7_; have GE191 := n8_; have NB175_191 := n9_; have NB191_175 := n10_; clear n0_ n1_ n2_ n3_ n4_ n5_ n6_ n7_ n8_ n9_ n10_; clear hb hbox hg; obtain ⟨Ao11, co11, eo11⟩ := Kd.R_slice HO179.out; subst eo11; have hnb12 := NB191_175.out; have hnc12 := NB175_191.out; have hcz13_0 : w10.cell? ⟨gb191, 0, none⟩ = some (.slice none 0 0) := (blk_cell BK191.out 0).trans rfl; have hcz13_1 : w10.cell? ⟨gb191, 1, none⟩ = some (.int .i64 0) := (blk_cell BK191.out 1).trans rfl; have hcz13_2 : w10.cell? ⟨gb191, 2, none⟩ = some (.slice none 0 0) := (blk_cell BK191.out 2).trans rfl; have hcz13_3 : w10.cell? ⟨gb191, 3, none⟩ = some (.slice none 0 0) := (blk_cell BK191.out 3).trans rfl; have hcz13_4 : w10.cell? ⟨gb191, 4, none⟩ = some (.slice none 0 0) := (blk_cell BK191.out 4).trans rfl; have hcz13_5 : w10.cell? ⟨gb191, 5, none⟩ = some (.int .i64 0) := (blk_cell BK191.out 5).trans rfl; have hfz13_0 := blk_frozen BK191.out 0; have hfz13_1 := blk_frozen BK191.out 1; have hfz13_2 := blk_frozen BK191.out 2; have hfz13_3 := blk_frozen BK191.out 3; have hfz13_4 := blk_frozen BK191.out 4; have hfz13_5 := blk_frozen BK191.out 5; obtain ⟨Ao14, co14, eo14⟩ := Kd.R_slice HO183.out; subst eo14; obtain ⟨Ao15, co15, eo15⟩ := Kd.R_slice HO186.out; subst eo15; obtain ⟨Ao16, co16, eo16⟩ := Kd.R_slice HO189.out; subst eo16))
  (try simp only [Act.put, List.setIfInBounds_toArray, List.set_cons_zero, List.set_cons_succ])
  go_cut [21] (fun v21 wc => ∃ (kq : Nat) (x21_4 : Bool), v21 = .bool x21_4 ∧ Aside0 (daybooklaw14_TypingTurned.j0 kq a1 t176 x21_4 l0_0 a0_1 l0_2 l0_3 l0_4 a0_5 t177 t180 t181 t184 t187 t190 = some r) ∧ Aside0 (kq ≤ k) ∧ Aside0 (Kd.R k37 37 wc w.heap.size (fun _ => True) (.slice Ao11 t177.length co11) t177) ∧ Aside0 (Kd.R (Kd.int .i64) 3 wc w.heap.size (fun _ => True) (.slice Ao14 t181.length co14) t181) ∧ Aside0 (Kd.R k47 47 wc w.heap.size (fun _ => True) (.slice Ao15 t184.length co15) t184) ∧ Aside0 (Kd.R k69 69 wc w.heap.size (fun _ => True) (.slice Ao16 t187.length co16) t187) ∧ Aside0 (wc.heap[gb175]? = some (.cells #[(.slice A0_0 l0_0.length c0_0), .int .i64 a0_1, (.slice A0_2 l0_2.length c0_2), (.slice A0_3 l0_3.length c0_3), (.slice A0_4 l0_4.length c0_4), .int .i64 a0_5] 32 (0, 0))) ∧ Aside0 (wc.heap[gb191]? = some (.cells #[(.slice Ao11 t177.length co11), .int .i64 t180, (.slice Ao14 t181.length co14), (.slice Ao15 t184.length co15), (.slice Ao16 t187.length co16), .int .i64 t190] 32 (0, 0))) ∧ Aside0 (Below w.heap.size w wc))
  case first =>
    have H := HC5.out
    clear HC5
    by_cases c17 : a1 < 0
    · rw [if_pos c17] at H
      have c17b0 : decide (a1 < 0) = true := decide_eq_true c17
      clear c17
      (first | rw [c17b0] | (simp only [i64_w, i32_w]; rw [c17b0]) | skip)
      have H' := Aside0.mk H
      clear H
      go_wp2
      go_meet
      case rel => exact ⟨_, (true), (by first | rfl | (simp; done) | (simp [*]; done)), H', ⟨by first | omega | exact Nat.le_refl _⟩, ⟨by (with_reducible repeat (first | apply Kd.R_alloc | apply Kd.R_drewN | apply Kd.R_drew)); exact Kd.R_mono (Kd.R_far (p := ⟨gb191, 5, none⟩) (Kd.R_far (p := ⟨gb191, 4, none⟩) (Kd.R_far (p := ⟨gb191, 3, none⟩) (Kd.R_far (p := ⟨gb191, 2, none⟩) (Kd.R_far (p := ⟨gb191, 1, none⟩) (Kd.R_far (p := ⟨gb191, 0, none⟩) (Kd.R_types HO179.out BK191.out (by decide)) (fun _ hk => hk.2) (.slice Ao11 t177.length co11)) (fun _ hk => hk.2) (.int .i64 t180)) (fun _ hk => hk.2) (.slice Ao14 t181.length co14)) (fun _ hk => hk.2) (.slice Ao15 t184.length co15)) (fun _ hk => hk.2) (.slice Ao16 t187.length co16)) (fun _ hk => hk.2) (.int .i64 t190)) (fun _ hk => trivial)⟩, ⟨by (with_reducible repeat (first | apply Kd.R_alloc | apply Kd.R_drewN | apply Kd.R_drew)); exact Kd.R_mono (Kd.R_far (p := ⟨gb191, 5, none⟩) (Kd.R_far (p := ⟨gb191, 4, none⟩) (Kd.R_far (p := ⟨gb191, 3, none⟩) (Kd.R_far (p := ⟨gb191, 2, none⟩) (Kd.R_far (p := ⟨gb191, 1, none⟩) (Kd.R_far (p := ⟨gb191, 0, none⟩) (Kd.R_types HO183.out BK191.out (by decide)) (fun _ hk => hk.2) (.slice Ao11 t177.length co11)) (fun _ hk => hk.2) (.int .i64 t180)) (fun _ hk => hk.2) (.slice Ao14 t181.length co14)) (fun _ hk => hk.2) (.slice Ao15 t184.length co15)) (fun _ hk => hk.2) (.slice Ao16 t187.length co16)) (fun _ hk => hk.2) (.int .i64 t190)) (fun _ hk => trivial)⟩, ⟨by (with_reducible repeat (first | apply Kd.R_alloc | apply Kd.R_drewN | apply Kd.R_drew)); exact Kd.R_mono (Kd.R_far (p := ⟨gb191, 5, none⟩) (Kd.R_far (p := ⟨gb191, 4, none⟩) (Kd.R_far (p := ⟨gb191, 3, none⟩) (Kd.R_far (p := ⟨gb191, 2, none⟩) (Kd.R_far (p := ⟨gb191, 1, none⟩) (Kd.R_far (p := ⟨gb191, 0, none⟩) (Kd.R_types HO186.out BK191.out (by decide)) (fun _ hk => hk.2) (.slice Ao11 t177.length co11)) (fun _ hk => hk.2) (.int .i64 t180)) (fun _ hk => hk.2) (.slice Ao14 t181.length co14)) (fun _ hk => hk.2) (.slice Ao15 t184.length co15)) (fun _ hk => hk.2) (.slice Ao16 t187.length co16)) (fun _ hk => hk.2) (.int .i64 t190)) (fun _ hk => trivial)⟩, ⟨by (with_reducible repeat (first | apply Kd.R_alloc | apply Kd.R_drewN | apply Kd.R_drew)); exact Kd.R_mono (Kd.R_far (p := ⟨gb191, 5, none⟩) (Kd.R_far (p := ⟨gb191, 4, none⟩) (Kd.R_far (p := ⟨gb191, 3, none⟩) (Kd.R_far (p := ⟨gb191, 2, none⟩) (Kd.R_far (p := ⟨gb191, 1, none⟩) (Kd.R_far (p := ⟨gb191, 0, none⟩) (Kd.R_types HO189.out BK191.out (by decide)) (fun _ hk => hk.2) (.slice Ao11 t177.length co11)) (fun _ hk => hk.2) (.int .i64 t180)) (fun _ hk => hk.2) (.slice Ao14 t181.length co14)) (fun _ hk => hk.2) (.slice Ao15 t184.length co15)) (fun _ hk => hk.2) (.slice Ao16 t187.length co16)) (fun _ hk => hk.2) (.int .i64 t190)) (fun _ hk => trivial)⟩, ⟨by (with_reducible repeat (first | refine blk_drewN ?_ _ | refine blk_drew ?_ | refine blk_alloc ?_ _)); refine blk_far ?_ NB175_191.out _; (with_reducible repeat (first | refine blk_drewN ?_ _ | refine blk_drew ?_ | refine blk_alloc ?_ _)); refine blk_far ?_ NB175_191.out _; (with_reducible repeat (first | refine blk_drewN ?_ _ | refine blk_drew ?_ | refine blk_alloc ?_ _)); refine blk_far ?_ NB175_191.out _; (with_reducible repeat (first | refine blk_drewN ?_ _ | refine blk_drew ?_ | refine blk_alloc ?_ _)); refine blk_far ?_ NB175_191.out _; (with_reducible repeat (first | refine blk_drewN ?_ _ | refine blk_drew ?_ | refine blk_alloc ?_ _)); refine blk_far ?_ NB175_191.out _; (with_reducible repeat (first | refine blk_drewN ?_ _ | refine blk_drew ?_ | refine blk_alloc ?_ _)); refine blk_far ?_ NB175_191.out _; (with_reducible repeat (first | refine blk_drewN ?_ _ | refine blk_drew ?_ | refine blk_alloc ?_ _)); exact BK175.out⟩, ⟨by (with_reducible repeat (first | refine blk_drewN ?_ _ | refine blk_drew ?_ | refine blk_alloc ?_ _)); refine blk_put (cs := #[.slice Ao11 t177.length co11, .int .i64 t180, .slice Ao14 t181.length co14, .slice Ao15 t184.length co15, .slice Ao16 t187.length co16, .int .i64 0]) ?_ 5 _ rfl; (with_reducible repeat (first | refine blk_drewN ?_ _ | refine blk_drew ?_ | refine blk_alloc ?_ _)); refine blk_put (cs := #[.slice Ao11 t177.length co11, .int .i64 t180, .slice Ao14 t181.length co14, .slice Ao15 t184.length co15, .slice none 0 0, .int .i64 0]) ?_ 4 _ rfl; (with_reducible repeat (first | refine blk_drewN ?_ _ | refine blk_drew ?_ | refine blk_alloc ?_ _)); refine blk_put (cs := #[.slice Ao11 t177.length co11, .int .i64 t180, .slice Ao14 t181.length co14, .slice none 0 0, .slice none 0 0, .int .i64 0]) ?_ 3 _ rfl; (with_reducible repeat (first | refine blk_drewN ?_ _ | refine blk_drew ?_ | refine blk_alloc ?_ _)); refine blk_put (cs := #[.slice Ao11 t177.length co11, .int .i64 t180, .slice none 0 0, .slice none 0 0, .slice none 0 0, .int .i64 0]) ?_ 2 _ rfl; (with_reducible repeat (first | refine blk_drewN ?_ _ | refine blk_drew ?_ | refine blk_alloc ?_ _)); refine blk_put (cs := #[.slice Ao11 t177.length co11, .int .i64 0, .slice none 0 0, .slice none 0 0, .slice none 0 0, .int .i64 0]) ?_ 1 _ rfl; (with_reducible repeat (first | refine blk_drewN ?_ _ | refine blk_drew ?_ | refine blk_alloc ?_ _)); refine blk_put (cs := #[.slice none 0 0, .int .i64 0, .slice none 0 0, .slice none 0 0, .slice none 0 0, .int .i64 0]) ?_ 0 _ rfl; (with_reducible repeat (first | refine blk_drewN ?_ _ | refine blk_drew ?_ | refine blk_alloc ?_ _)); exact BK191.out⟩, ⟨by repeat (first | (with_reducible first | exact HB.out | apply below_alloc | apply pw_below_drewN | apply below_drew1 | refine below_set ?_ GE175.out | refine below_set ?_ GE191.out) | exact HB.out)⟩⟩
    · rw [if_neg c17] at H
      have c17b0 : decide (a1 < 0) = false := decide_eq_false c17
      clear c17
      (first | rw [c17b0] | (simp only [i64_w, i32_w]; rw [c17b0]) | skip)
      have H' := Aside0.mk H
      clear H
      have hnb18 := NB191_175.out
      have hnc18 := NB175_191.out
      have hcz19_0 : w10.cell? ⟨gb191, 0, none⟩ = some (.slice none 0 0) := (blk_cell BK191.out 0).trans rfl
      have hcz19_1 : w10.cell? ⟨gb191, 1, none⟩ = some (.int .i64 0) := (blk_cell BK191.out 1).trans rfl
      have hcz19_2 : w10.cell? ⟨gb191, 2, none⟩ = some (.slice none 0 0) := (blk_cell BK191.out 2).trans rfl
      have hcz19_3 : w10.cell? ⟨gb191, 3, none⟩ = some (.slice none 0 0) := (blk_cell BK191.out 3).trans rfl
      have hcz19_4 : w10.cell? ⟨gb191, 4, none⟩ = some (.slice none 0 0) := (blk_cell BK191.out 4).trans rfl
      have hcz19_5 : w10.cell? ⟨gb191, 5, none⟩ = some (.int .i64 0) := (blk_cell BK191.out 5).trans rfl
      have hfz19_0 := blk_frozen BK191.out 0
      have hfz19_1 := blk_frozen BK191.out 1
      have hfz19_2 := blk_frozen BK191.out 2
      have hfz19_3 := blk_frozen BK191.out 3
      have hfz19_4 := blk_frozen BK191.out 4
      have hfz19_5 := blk_frozen BK191.out 5
      go_wp2
      go_meet
      case rel => exact ⟨_, (decide (a1 ≥ (t177.length : Int))), (by first | rfl | (simp; done) | (simp [*]; done)), H', ⟨by first | omega | exact Nat.le_refl _⟩, ⟨by (with_reducible repeat (first | apply Kd.R_alloc | apply Kd.R_drewN | apply Kd.R_drew)); exact Kd.R_mono (Kd.R_far (p := ⟨gb191, 5, none⟩) (Kd.R_far (p := ⟨gb191, 4, none⟩) (Kd.R_far (p := ⟨gb191, 3, none⟩) (Kd.R_far (p := ⟨gb191, 2, none⟩) (Kd.R_far (p := ⟨gb191, 1, none⟩) (Kd.R_far (p := ⟨gb191, 0, none⟩) (Kd.R_types HO179.out BK191.out (by decide)) (fun _ hk => hk.2) (.slice Ao11 t177.length co11)) (fun _ hk => hk.2) (.int .i64 t180)) (fun _ hk => hk.2) (.slice Ao14 t181.length co14)) (fun _ hk => hk.2) (.slice Ao15 t184.length co15)) (fun _ hk => hk.2) (.slice Ao16 t187.length co16)) (fun _ hk => hk.2) (.int .i64 t190)) (fun _ hk => trivial)⟩, ⟨by (with_reducible repeat (first | apply Kd.R_alloc | apply Kd.R_drewN | apply Kd.R_drew)); exact Kd.R_mono (Kd.R_far (p := ⟨gb191, 5, none⟩) (Kd.R_far (p := ⟨gb191, 4, none⟩) (Kd.R_far (p := ⟨gb191, 3, none⟩) (Kd.R_far (p := ⟨gb191, 2, none⟩) (Kd.R_far (p := ⟨gb191, 1, none⟩) (Kd.R_far (p := ⟨gb191, 0, none⟩) (Kd.R_types HO183.out BK191.out (by decide)) (fun _ hk => hk.2) (.slice Ao11 t177.length co11)) (fun _ hk => hk.2) (.int .i64 t180)) (fun _ hk => hk.2) (.slice Ao14 t181.length co14)) (fun _ hk => hk.2) (.slice Ao15 t184.length co15)) (fun _ hk => hk.2) (.slice Ao16 t187.length co16)) (fun _ hk => hk.2) (.int .i64 t190)) (fun _ hk => trivial)⟩, ⟨by (with_reducible repeat (first | apply Kd.R_alloc | apply Kd.R_drewN | apply Kd.R_drew)); exact Kd.R_mono (Kd.R_far (p := ⟨gb191, 5, none⟩) (Kd.R_far (p := ⟨gb191, 4, none⟩) (Kd.R_far (p := ⟨gb191, 3, none⟩) (Kd.R_far (p := ⟨gb191, 2, none⟩) (Kd.R_far (p := ⟨gb191, 1, none⟩) (Kd.R_far (p := ⟨gb191, 0, none⟩) (Kd.R_types HO186.out BK191.out (by decide)) (fun _ hk => hk.2) (.slice Ao11 t177.length co11)) (fun _ hk => hk.2) (.int .i64 t180)) (fun _ hk => hk.2) (.slice Ao14 t181.length co14)) (fun _ hk => hk.2) (.slice Ao15 t184.length co15)) (fun _ hk => hk.2) (.slice Ao16 t187.length co16)) (fun _ hk => hk.2) (.int .i64 t190)) (fun _ hk => trivial)⟩, ⟨by (with_reducible repeat (first | apply Kd.R_alloc | apply Kd.R_drewN | apply Kd.R_drew)); exact Kd.R_mono (Kd.R_far (p := ⟨gb191, 5, none⟩) (Kd.R_far (p := ⟨gb191, 4, none⟩) (Kd.R_far (p := ⟨gb191, 3, none⟩) (Kd.R_far (p := ⟨gb191, 2, none⟩) (Kd.R_far (p := ⟨gb191, 1, none⟩) (Kd.R_far (p := ⟨gb191, 0, none⟩) (Kd.R_types HO189.out BK191.out (by decide)) (fun _ hk => hk.2) (.slice Ao11 t177.length co11)) (fun _ hk => hk.2) (.int .i64 t180)) (fun _ hk => hk.2) (.slice Ao14 t181.length co14)) (fun _ hk => hk.2) (.slice Ao15 t184.length co15)) (fun _ hk => hk.2) (.slice Ao16 t187.length co16)) (fun _ hk => hk.2) (.int .i64 t190)) (fun _ hk => trivial)⟩, ⟨by (with_reducible repeat (first | refine blk_drewN ?_ _ | refine blk_drew ?_ | refine blk_alloc ?_ _)); refine blk_far ?_ NB175_191.out _; (with_reducible repeat (first | refine blk_drewN ?_ _ | refine blk_drew ?_ | refine blk_alloc ?_ _)); refine blk_far ?_ NB175_191.out _; (with_reducible repeat (first | refine blk_drewN ?_ _ | refine blk_drew ?_ | refine blk_alloc ?_ _)); refine blk_far ?_ NB175_191.out _; (with_reducible repeat (first | refine blk_drewN ?_ _ | refine blk_drew ?_ | refine blk_alloc ?_ _)); refine blk_far ?_ NB175_191.out _; (with_reducible repeat (first | refine blk_drewN ?_ _ | refine blk_drew ?_ | refine blk_alloc ?_ _)); refine blk_far ?_ NB175_191.out _; (with_reducible repeat (first | refine blk_drewN ?_ _ | refine blk_drew ?_ | refine blk_alloc ?_ _)); refine blk_far ?_ NB175_191.out _; (with_reducible repeat (first | refine blk_drewN ?_ _ | refine blk_drew ?_ | refine blk_alloc ?_ _)); exact BK175.out⟩, ⟨by (with_reducible repeat (first | refine blk_drewN ?_ _ | refine blk_drew ?_ | refine blk_alloc ?_ _)); refine blk_put (cs := #[.slice Ao11 t177.length co11, .int .i64 t180, .slice Ao14 t181.length co14, .slice Ao15 t184.length co15, .slice Ao16 t187.length co16, .int .i64 0]) ?_ 5 _ rfl; (with_reducible repeat (first | refine blk_drewN ?_ _ | refine blk_drew ?_ | refine blk_alloc ?_ _)); refine blk_put (cs := #[.slice Ao11 t177.length co11, .int .i64 t180, .slice Ao14 t181.length co14, .slice Ao15 t184.length co15, .slice none 0 0, .int .i64 0]) ?_ 4 _ rfl; (with_reducible repeat (first | refine blk_drewN ?_ _ | refine blk_drew ?_ | refine blk_alloc ?_ _)); refine blk_put (cs := #[.slice Ao11 t177.length co11, .int .i64 t180, .slice Ao14 t181.length co14, .slice none 0 0, .slice none 0 0, .int .i64 0]) ?_ 3 _ rfl; (with_reducible repeat (first | refine blk_drewN ?_ _ | refine blk_drew ?_ | refine blk_alloc ?_ _)); refine blk_put (cs := #[.slice Ao11 t177.length co11, .int .i64 t180, .slice none 0 0, .slice none 0 0, .slice none 0 0, .int .i64 0]) ?_ 2 _ rfl; (with_reducible repeat (first | refine blk_drewN ?_ _ | refine blk_drew ?_ | refine blk_alloc ?_ _)); refine blk_put (cs := #[.slice Ao11 t177.length co11, .int .i64 0, .slice none 0 0, .slice none 0 0, .slice none 0 0, .int .i64 0]) ?_ 1 _ rfl; (with_reducible repeat (first | refine blk_drewN ?_ _ | refine blk_drew ?_ | refine blk_alloc ?_ _)); refine blk_put (cs := #[.slice none 0 0, .int .i64 0, .slice none 0 0, .slice none 0 0, .slice none 0 0, .int .i64 0]) ?_ 0 _ rfl; (with_reducible repeat (first | refine blk_drewN ?_ _ | refine blk_drew ?_ | refine blk_alloc ?_ _)); exact BK191.out⟩, ⟨by repeat (first | (with_reducible first | exact HB.out | apply below_alloc | apply pw_below_drewN | apply below_drew1 | refine below_set ?_ GE175.out | refine below_set ?_ GE191.out) | exact HB.out)⟩⟩
  case rest =>
    clear HC5
    try clear c1
    try clear p2
    try clear c5
    try clear c12
    try clear c13
    try clear c14
    try clear c17
    try clear c17b0
    try clear c18
    try clear hcz13_0
    try clear hcz13_1
    try clear hcz13_2
    try clear hcz13_3
    try clear hcz13_4
    try clear hcz13_5
    try clear hcz19_0
    try clear hcz19_1
    try clear hcz19_2
    try clear hcz19_3
    try clear hcz19_4
    try clear hcz19_5
    try clear hcz8_0
    try clear hcz8_1
    try clear hcz8_2
    try clear hcz8_3
    try clear hcz8_4
    try clear hcz8_5
    try clear hfz13_0
    try clear hfz13_1
    try clear hfz13_2
    try clear hfz13_3
    try clear hfz13_4
    try clear hfz13_5
    try clear hfz19_0
    try clear hfz19_1
    try clear hfz19_2
    try clear hfz19_3
    try clear hfz19_4
    try clear hfz19_5
    try clear hfz8_0
    try clear hfz8_1
    try clear hfz8_2
    try clear hfz8_3
    try clear hfz8_4
    try clear hfz8_5
    obtain ⟨kq, x21_4, rfl, HA, HJ4, HO_192000, HO_192002, HO_192003, HO_192004, BK175, BK191, HB⟩ := hcut
    cases kq with
    | zero => exact absurd HA.out (by simp [daybooklaw14_TypingTurned.j0])
    | succ kj4 =>
      have H := HA.out
      clear HA
      simp only [daybooklaw14_TypingTurned.j0] at H
      by_cases c20 : x21_4 = true
      · subst c20
        have H1 : (some t176) = some r := by rw [if_pos rfl] at H; exact H
        clear H
        have H := H1
        clear H1
        obtain rfl := Option.some.inj H
        go_wp2
        go_ret
        exact ⟨by first | rfl | (simp [errW_none, errW_some] <;> rfl) | (simp [*, errW_none, errW_some] <;> rfl), by repeat (first | (with_reducible first | exact HB.out | apply below_alloc | apply pw_below_drewN | apply below_drew1 | refine below_set ?_ GE175.out | refine below_set ?_ GE191.out) | exact HB.out)⟩
      · replace c20 := Bool.eq_false_iff.mpr c20
        subst c20
        have H1 : (if 0 ≤ a1 then (if a1 < (t177.length : Int) then ((daybooklaw14_turned.f kj4 ((rd_T37 t177 a1).f0)).bind fun bt193 => (if bt193.2 = true then ((some (t177.set (a1 : Int).toNat (⟨bt193.1, (rd_T37 t177 a1).f1, (rd_T37 t177 a1).f2, (rd_T37 t177 a1).f3, (rd_T37 t177 a1).f4, (rd_T37 t177 a1).f5⟩ : S37) : List (S37))).bind fun y195 => (if a1 < (l0_0.length : Int) then ((some (y195.set (a1 : Int).toNat (⟨(rd_T37 y195 a1).f0, (rd_T37 l0_0 a1).f2, (rd_T37 y195 a1).f2, (rd_T37 y195 a1).f3, (rd_T37 y195 a1).f4, (rd_T37 y195 a1).f5⟩ : S37) : List (S37))).bind fun y197 => ((daybooklaw14_like.f kj4 (y197.set (a1 : Int).toNat (⟨(rd_T37 y197 a1).f0, (rd_T37 y197 a1).f1, (rd_T37 l0_0 a1).f1, (rd_T37 y197 a1).f3, (rd_T37 y197 a1).f4, (rd_T37 y197 a1).f5⟩ : S37)) t180 t181 t184 t187 t190 l0_0 a0_1 l0_2 l0_3 l0_4 a0_5).bind fun t200 => (if t176 = true then (some t200) else (some false)))) else (none))) else (some t176))) else (none)) else (none)) = some r := by rw [if_neg (show ¬ (false = true) by decide)] at H; exact H
        clear H
        have H := H1
        clear H1
        by_cases c21 : 0 ≤ a1
        · rw [if_pos c21] at H
          have c21b0 : decide (0 ≤ a1) = true := decide_eq_true c21
          clear c21
          by_cases c22 : a1 < (t177.length : Int)
          · rw [if_pos c22] at H
            have c22b0 : decide (a1 < (t177.length : Int)) = true := decide_eq_true c22
            clear c22
            replace H := Option.bind_eq_some_iff.mp H
            obtain ⟨⟨t193, t194⟩, A230, H⟩ := H
            replace H : (if t194 = true then ((some (t177.set (a1 : Int).toNat (⟨t193, (rd_T37 t177 a1).f1, (rd_T37 t177 a1).f2, (rd_T37 t177 a1).f3, (rd_T37 t177 a1).f4, (rd_T37 t177 a1).f5⟩ : S37) : List (S37))).bind fun y195 => (if a1 < (l0_0.length : Int) then ((some (y195.set (a1 : Int).toNat (⟨(rd_T37 y195 a1).f0, (rd_T37 l0_0 a1).f2, (rd_T37 y195 a1).f2, (rd_T37 y195 a1).f3, (rd_T37 y195 a1).f4, (rd_T37 y195 a1).f5⟩ : S37) : List (S37))).bind fun y197 => ((daybooklaw14_like.f kj4 (y197.set (a1 : Int).toNat (⟨(rd_T37 y197 a1).f0, (rd_T37 y197 a1).f1, (rd_T37 l0_0 a1).f1, (rd_T37 y197 a1).f3, (rd_T37 y197 a1).f4, (rd_T37 y197 a1).f5⟩ : S37)) t180 t181 t184 t187 t190 l0_0 a0_1 l0_2 l0_3 l0_4 a0_5).bind fun t200 => (if t176 = true then (some t200) else (some false)))) else (none))) else (some t176)) = some r := H
            have A23 := Aside0.mk A230
            clear A230
            by_cases c24 : t194 = true
            · subst c24
              have H1 : ((some (t177.set (a1 : Int).toNat (⟨t193, (rd_T37 t177 a1).f1, (rd_T37 t177 a1).f2, (rd_T37 t177 a1).f3, (rd_T37 t177 a1).f4, (rd_T37 t177 a1).f5⟩ : S37) : List (S37))).bind fun y195 => (if a1 < (l0_0.length : Int) then ((some (y195.set (a1 : Int).toNat (⟨(rd_T37 y195 a1).f0, (rd_T37 l0_0 a1).f2, (rd_T37 y195 a1).f2, (rd_T37 y195 a1).f3, (rd_T37 y195 a1).f4, (rd_T37 y195 a1).f5⟩ : S37) : List (S37))).bind fun y197 => ((daybooklaw14_like.f kj4 (y197.set (a1 : Int).toNat (⟨(rd_T37 y197 a1).f0, (rd_T37 y197 a1).f1, (rd_T37 l0_0 a1).f1, (rd_T37 y197 a1).f3, (rd_T37 y197 a1).f4, (rd_T37 y197 a1).f5⟩ : S37)) t180 t181 t184 t187 t190 l0_0 a0_1 l0_2 l0_3 l0_4 a0_5).bind fun t200 => (if t176 = true then (some t200) else (some false)))) else (none))) = some r := by rw [if_pos rfl] at H; exact H
              clear H
              have H := H1
              clear H1
              obtain ⟨y195, hy195⟩ : ∃ y_ : List (S37), y_ = (t177.set (a1 : Int).toNat (⟨t193, (rd_T37 t177 a1).f1, (rd_T37 t177 a1).f2, (rd_T37 t177 a1).f3, (rd_T37 t177 a1).f4, (rd_T37 t177 a1).f5⟩ : S37)) := ⟨_, rfl⟩
              replace H : (if a1 < (l0_0.length : Int) then ((some (y195.set (a1 : Int).toNat (⟨(rd_T37 y195 a1).f0, (rd_T37 l0_0 a1).f2, (rd_T37 y195 a1).f2, (rd_T37 y195 a1).f3, (rd_T37 y195 a1).f4, (rd_T37 y195 a1).f5⟩ : S37) : List (S37))).bind fun y197 => ((daybooklaw14_like.f kj4 (y197.set (a1 : Int).toNat (⟨(rd_T37 y197 a1).f0, (rd_T37 y197 a1).f1, (rd_T37 l0_0 a1).f1, (rd_T37 y197 a1).f3, (rd_T37 y197 a1).f4, (rd_T37 y197 a1).f5⟩ : S37)) t180 t181 t184 t187 t190 l0_0 a0_1 l0_2 l0_3 l0_4 a0_5).bind fun t200 => (if t176 = true then (some t200) else (some false)))) else (none)) = some r := by first | (rw [hy195]; with_reducible exact H) | (have H2_ := (Option.bind_some _ _).symm.trans H; rw [hy195]; with_reducible exact H2_) | (have H2_ := (Option.bind_some _ _).symm.trans H; with_reducible exact H2_) | with_reducible exact H | (rw [hy195]; exact H) | exact H
              have Ny195 := Aside0.mk hy195
              clear hy195
              by_cases c26 : a1 < (l0_0.length : Int)
              · rw [if_pos c26] at H
                have c26b0 : decide (a1 < (l0_0.length : Int)) = true := decide_eq_true c26
                clear c26
                obtain ⟨y197, hy197⟩ : ∃ y_ : List (S37), y_ = (y195.set (a1 : Int).toNat (⟨(rd_T37 y195 a1).f0, (rd_T37 l0_0 a1).f2, (rd_T37 y195 a1).f2, (rd_T37 y195 a1).f3, (rd_T37 y195 a1).f4, (rd_T37 y195 a1).f5⟩ : S37)) := ⟨_, rfl⟩
                replace H : ((daybooklaw14_like.f kj4 (y197.set (a1 : Int).toNat (⟨(rd_T37 y197 a1).f0, (rd_T37 y197 a1).f1, (rd_T37 l0_0 a1).f1, (rd_T37 y197 a1).f3, (rd_T37 y197 a1).f4, (rd_T37 y197 a1).f5⟩ : S37)) t180 t181 t184 t187 t190 l0_0 a0_1 l0_2 l0_3 l0_4 a0_5).bind fun t200 => (if t176 = true then (some t200) else (some false))) = some r := by first | (rw [hy197]; with_reducible exact H) | (have H2_ := (Option.bind_some _ _).symm.trans H; rw [hy197]; with_reducible exact H2_) | (have H2_ := (Option.bind_some _ _).symm.trans H; with_reducible exact H2_) | with_reducible exact H | (rw [hy197]; exact H) | exact H
                have Ny197 := Aside0.mk hy197
                clear hy197
                obtain ⟨y199, hy199⟩ : ∃ y_ : List (S37), y_ = (y197.set (a1 : Int).toNat (⟨(rd_T37 y197 a1).f0, (rd_T37 y197 a1).f1, (rd_T37 l0_0 a1).f1, (rd_T37 y197 a1).f3, (rd_T37 y197 a1).f4, (rd_T37 y197 a1).f5⟩ : S37)) := ⟨_, rfl⟩
                replace H : ((daybooklaw14_like.f kj4 y199 t180 t181 t184 t187 t190 l0_0 a0_1 l0_2 l0_3 l0_4 a0_5).bind fun t200 => (if t176 = true then (some t200) else (some false))) = some r := by first | (rw [hy199]; with_reducible exact H) | (have H2_ := (Option.bind_some _ _).symm.trans H; rw [hy199]; with_reducible exact H2_) | (have H2_ := (Option.bind_some _ _).symm.trans H; with_reducible exact H2_) | with_reducible exact H | (rw [hy199]; exact H) | exact H
                have Ny199 := Aside0.mk hy199
                clear hy199
                replace H := Option.bind_eq_some_iff.mp H
                obtain ⟨t200, A290, H⟩ := H
                replace H : (if t176 = true then (some t200) else (some false)) = some r := H
                have A29 := Aside0.mk A290
                clear A290
                by_cases c30 : t176 = true
                · subst c30
                  have H1 : (some t200) = some r := by rw [if_pos rfl] at H; exact H
                  clear H
                  have H := H1
                  clear H1
                  obtain rfl := Option.some.inj H
                  have hnb31 := NB191_175.out
                  have hnc31 := NB175_191.out
                  have hcz32_0 : wc.cell? ⟨gb191, 0, none⟩ = some (.slice Ao11 t177.length co11) := (blk_cell BK191.out 0).trans rfl
                  have hcz32_1 : wc.cell? ⟨gb191, 1, none⟩ = some (.int .i64 t180) := (blk_cell BK191.out 1).trans rfl
                  have hcz32_2 : wc.cell? ⟨gb191, 2, none⟩ = some (.slice Ao14 t181.length co14) := (blk_cell BK191.out 2).trans rfl
                  have hcz32_3 : wc.cell? ⟨gb191, 3, none⟩ = some (.slice Ao15 t184.length co15) := (blk_cell BK191.out 3).trans rfl
                  have hcz32_4 : wc.cell? ⟨gb191, 4, none⟩ = some (.slice Ao16 t187.length co16) := (blk_cell BK191.out 4).trans rfl
                  have hcz32_5 : wc.cell? ⟨gb191, 5, none⟩ = some (.int .i64 t190) := (blk_cell BK191.out 5).trans rfl
                  have hfz32_0 := blk_frozen BK191.out 0
                  have hfz32_1 := blk_frozen BK191.out 1
                  have hfz32_2 := blk_frozen BK191.out 2
                  have hfz32_3 := blk_frozen BK191.out 3
                  have hfz32_4 := blk_frozen BK191.out 4
                  have hfz32_5 := blk_frozen BK191.out 5
                  have p192 : 0 ≤ (a1 : Int) := of_decide_eq_true (by first | (with_reducible assumption) | assumption)
                  have q192 : a1 < (t177.length : Int) := of_decide_eq_true (by first | (with_reducible assumption) | assumption)
                  obtain ⟨ad192, e192, hx192_0, hx192_1, hx192_2, hx192_3, hx192_4, hx192_5⟩ := at_T37 (Kd.R_reads' HO_192000.out).2.2 a1 p192 q192
                  cases e192
                  replace p192 := eq_true p192
                  replace q192 := eq_true q192
                  try go_wp2_with (first | ((with_reducible refine gate_callee (f := 16) rfl ?_); refine goesL_ (some 30) rfl rfl Tryd.func16 (by kernel_rfl) rfl #[.int .i64 ((rd_T37 t177 a1).f0)] rfl (by (try simp only [List.map_toArray, List.map_cons, List.map_nil]); first | done | rfl | (simp only [List.length_drop, List.length_take]; rfl)) ?_; (with_reducible refine (daybooklaw14_turned.calls kj4 ((rd_T37 t177 a1).f0) t193 true _ A23.out).mono ?_); rintro e w' ⟨rfl, ⟨nd, rfl⟩⟩; refine ⟨_, rfl, ?_⟩; (try (rw [drewN_self wc]; generalize hq_ : World.drewN wc _ = wc; have n0_ : Aside0 (Kd.R k37 37 wc w.heap.size (fun _ => True) (.slice (some ad192) t177.length co11) t177) := ⟨by rw [← hq_]; exact (by (with_reducible repeat (first | apply Kd.R_alloc | apply Kd.R_drewN | apply Kd.R_drew)); exact HO_192000.out)⟩; have n1_ : Aside0 (Kd.R (Kd.int .i64) 3 wc w.heap.size (fun _ => True) (.slice Ao14 t181.length co14) t181) := ⟨by rw [← hq_]; exact (by (with_reducible repeat (first | apply Kd.R_alloc | apply Kd.R_drewN | apply Kd.R_drew)); exact HO_192002.out)⟩; have n2_ : Aside0 (Kd.R k47 47 wc w.heap.size (fun _ => True) (.slice Ao15 t184.length co15) t184) := ⟨by rw [← hq_]; exact (by (with_reducible repeat (first | apply Kd.R_alloc | apply Kd.R_drewN | apply Kd.R_drew)); exact HO_192003.out)⟩; have n3_ : Aside0 (Kd.R k69 69 wc w.heap.size (fun _ => True) (.slice Ao16 t187.length co16) t187) := ⟨by rw [← hq_]; exact (by (with_reducible repeat (first | apply Kd.R_alloc | apply Kd.R_drewN | apply Kd.R_drew)); exact HO_192004.out)⟩; have n4_ : Aside0 (wc.heap[gb175]? = some (.cells #[.slice A0_0 l0_0.length c0_0, .int .i64 a0_1, .slice A0_2 l0_2.length c0_2, .slice A0_3 l0_3.length c0_3, .slice A0_4 l0_4.length c0_4, .int .i64 a0_5] 32 (0, 0))) := ⟨by rw [← hq_]; exact (by (with_reducible repeat (first | refine blk_drewN ?_ _ | refine blk_drew ?_ | refine blk_alloc ?_ _)); exact BK175.out)⟩; have n5_ : Aside0 (wc.heap[gb191]? = some (.cells #[.slice (some ad192) t177.length co11, .int .i64 t180, .slice Ao14 t181.length co14, .slice Ao15 t184.length co15, .slice Ao16 t187.length co16, .int .i64 t190] 32 (0, 0))) := ⟨by rw [← hq_]; exact (by (with_reducible repeat (first | refine blk_drewN ?_ _ | refine blk_drew ?_ | refine blk_alloc ?_ _)); exact BK191.out)⟩; have n6_ : Aside0 (Below w.heap.size w wc) := ⟨by rw [← hq_]; exact (by repeat (first | (with_reducible first | exact HB.out | apply below_alloc | apply pw_below_drewN | apply below_drew1 | refine below_set ?_ GE175.out | refine below_set ?_ GE191.out) | exact HB.out))⟩; clear HO_192000 HO_192002 HO_192003 HO_192004 BK175 BK191 HB hq_; have HO_192000 := n0_; have HO_192002 := n1_; have HO_192003 := n2_; have HO_192004 := n3_; have BK175 := n4_; have BK191 := n5_; have HB := n6_; clear n0_ n1_ n2_ n3_ n4_ n5_ n6_; have hcy_0 : wc.cell? ⟨gb191, 0, none⟩ = some (.slice (some ad192) t177.length co11) := (blk_cell BK191.out 0).trans rfl; have hfy_0 := blk_frozen BK191.out 0; have hcy_1 : wc.cell? ⟨gb191, 1, none⟩ = some (.int .i64 t180) := (blk_cell BK191.out 1).trans rfl; have hfy_1 := blk_frozen BK191.out 1; have hcy_2 : wc.cell? ⟨gb191, 2, none⟩ = some (.slice Ao14 t181.length co14) := (blk_cell BK191.out 2).trans rfl; have hfy_2 := blk_frozen BK191.out 2; have hcy_3 : wc.cell? ⟨gb191, 3, none⟩ = some (.slice Ao15 t184.length co15) := (blk_cell BK191.out 3).trans rfl; have hfy_3 := blk_frozen BK191.out 3; have hcy_4 : wc.cell? ⟨gb191, 4, none⟩ = some (.slice Ao16 t187.length co16) := (blk_cell BK191.out 4).trans rfl; have hfy_4 := blk_frozen BK191.out 4; have hcy_5 : wc.cell? ⟨gb191, 5, none⟩ = some (.int .i64 t190) := (blk_cell BK191.out 5).trans rfl; have hfy_5 := blk_frozen BK191.out 5)); have p25 : 0 ≤ (a1 : Int) := of_decide_eq_true (by first | (with_reducible assumption) | assumption); have q25 : (a1 : Int) < ((t177.length : Int) : Int) := of_decide_eq_true (by first | (with_reducible assumption) | assumption); obtain ⟨go25, co25, eo25, gb25, gl25, cl25, HG25⟩ := Kd.R_form HO_192000.out (by omega); (first | cases eo25 | (injection eo25 with ea_ en_ ec_; (first | subst ea_ | (injection ea_ with ea_; subst ea_)); subst ec_; clear en_)); have GB25 := Aside0.mk gb25; have GG25 := Aside0.mk HG25; clear gb25 gl25 HG25; (first | simp only [add_plain] at hx192_0 | skip); (first | simp only [add_plain] at hx192_1 | skip); (first | simp only [add_plain] at hx192_2 | skip); (first | simp only [add_plain] at hx192_3 | skip); (first | simp only [add_plain] at hx192_4 | skip); (first | simp only [add_plain] at hx192_5 | skip); obtain ⟨ce25, hcl25, hM25, hcc25, hfr25⟩ := Kd.R_elem HO_192000.out z37 (a1 : Int) p25 q25; obtain rfl := k37_openM hM25; have hx25_0 : wc.cell? ⟨go25, (a1 : Int).toNat * 6, none⟩ = some (.int .i64 ((rd_T37 t177 a1).f0)) := hcc25 0 _ rfl; have hx25_1 : wc.cell? ⟨go25, (a1 : Int).toNat * 6 + 1, none⟩ = some (.int .i64 ((rd_T37 t177 a1).f1)) := hcc25 1 _ rfl; have hx25_2 : wc.cell? ⟨go25, (a1 : Int).toNat * 6 + 2, none⟩ = some (.int .i64 ((rd_T37 t177 a1).f2)) := hcc25 2 _ rfl; have hx25_3 : wc.cell? ⟨go25, (a1 : Int).toNat * 6 + 3, none⟩ = some (.int .i64 ((rd_T37 t177 a1).f3)) := hcc25 3 _ rfl; have hx25_4 : wc.cell? ⟨go25, (a1 : Int).toNat * 6 + 4, none⟩ = some (.int .i64 ((rd_T37 t177 a1).f4)) := hcc25 4 _ rfl; have hx25_5 : wc.cell? ⟨go25, (a1 : Int).toNat * 6 + 5, none⟩ = some (.string ((rd_T37 t177 a1).f5)) := hcc25 5 _ rfl; have hf25_0 : wc.frozen? ⟨go25, (a1 : Int).toNat * 6, none⟩ = false := hfr25 0; have hf25_1 : wc.frozen? ⟨go25, (a1 : Int).toNat * 6 + 1, none⟩ = false := hfr25 1; have hf25_2 : wc.frozen? ⟨go25, (a1 : Int).toNat * 6 + 2, none⟩ = false := hfr25 2; have hf25_3 : wc.frozen? ⟨go25, (a1 : Int).toNat * 6 + 3, none⟩ = false := hfr25 3; have hf25_4 : wc.frozen? ⟨go25, (a1 : Int).toNat * 6 + 4, none⟩ = false := hfr25 4; have hf25_5 : wc.frozen? ⟨go25, (a1 : Int).toNat * 6 + 5, none⟩ = false := hfr25 5; clear hcl25 hcc25 hfr25 hM25; replace p25 := eq_true p25; replace q25 := eq_true q25; have HX33 := Aside0.mk (show Kd.R k37 37 wc w.heap.size (fun _ => True) (.slice (some ⟨go25, 0, none⟩) t177.length co11) t177 from (by (with_reducible repeat (first | apply Kd.R_alloc | apply Kd.R_drewN | apply Kd.R_drew)); exact HO_192000.out)); obtain ⟨ce33, hcl33, hM33, hcc33, hfr33⟩ := Kd.R_elem HX33.out z37 (a1 : Int) (of_decide_eq_true (by first | (with_reducible assumption) | assumption)) (by have h_ : (a1 : Int) < ((t177.length : Int) : Int) := of_decide_eq_true (by first | (with_reducible assumption) | assumption); first | exact h_ | (have e_ := (Kd.R_reads' HO_192000.out).1; omega) | simpa using h_); obtain rfl := k37_openM hM33; have HP33 := Kd.R_seg HX33.out (a1 : Int) (of_decide_eq_true (by first | (with_reducible assumption) | assumption)) (by have h_ : (a1 : Int) < ((t177.length : Int) : Int) := of_decide_eq_true (by first | (with_reducible assumption) | assumption); first | exact h_ | (have e_ := (Kd.R_reads' HO_192000.out).1; omega) | simpa using h_) (seg := [.int .i64 t193]) (j := 0) hcl33 hcc33 (show 1 ≤ 6 from by decide) (x' := (⟨t193, (rd_T37 t177 a1).f1, (rd_T37 t177 a1).f2, (rd_T37 t177 a1).f3, (rd_T37 t177 a1).f4, (rd_T37 t177 a1).f5⟩ : S37)) (k37_mkM _ _ _ (⟨t193, (rd_T37 t177 a1).f1, (rd_T37 t177 a1).f2, (rd_T37 t177 a1).f3, (rd_T37 t177 a1).f4, (rd_T37 t177 a1).f5⟩ : S37) ) (fun _ hk => hk); have hx33_0 := hcc33 0 _ rfl; (try simp only [show (k37).sz = 6 from rfl, Nat.mul_one, Nat.add_zero] at hx33_0); have hf33_0 := hfr33 0; (try simp only [show (k37).sz = 6 from rfl, Nat.mul_one, Nat.add_zero] at hf33_0); clear hcl33 hcc33 hfr33 hM33) | ((with_reducible refine gate_store (t := 3) (p := 41) rfl ?_); refine store_event (t := 3) (p := 41) (v := ?vo_w34) (w1 := (wc.setCell ⟨go25, (a1 : Int).toNat * 6, none⟩ (.int .i64 t193))) ?hg ?ho ?hn ?hr ?_; (case ho => rfl); (case hg => rfl); (case hn => rfl); (case hr => first | (go_simp; done) | (go_simp; rfl)); intro w34 hw; have hg : wc.grownBy w34 (some go25) := (by rw [hw]; exact HP33.2); have hp_ : Kd.R k37 37 w34 w.heap.size (fun _ => True) (.slice (some ⟨go25, 0, none⟩) t177.length co11) y195 := (by rw [hw, Ny195.out]; exact HP33.1); clear HP33; have n0_ := Aside0.mk (hp_); have n1_ := Aside0.mk (Kd.R_over' (v := (.slice (some ⟨go25, 0, none⟩) t177.length co11)) (by (with_reducible repeat (first | apply Kd.R_alloc | apply Kd.R_drewN | apply Kd.R_drew)); exact HO_192002.out) (Kd.R_typed HO_192000.out) (by decide) hg); have n2_ := Aside0.mk (Kd.R_over' (v := (.slice (some ⟨go25, 0, none⟩) t177.length co11)) (by (with_reducible repeat (first | apply Kd.R_alloc | apply Kd.R_drewN | apply Kd.R_drew)); exact HO_192003.out) (Kd.R_typed HO_192000.out) (by decide) hg); have n3_ := Aside0.mk (Kd.R_over' (v := (.slice (some ⟨go25, 0, none⟩) t177.length co11)) (by (with_reducible repeat (first | apply Kd.R_alloc | apply Kd.R_drewN | apply Kd.R_drew)); exact HO_192004.out) (Kd.R_typed HO_192000.out) (by decide) hg); have n4_ := Aside0.mk (blk_grown (g := gb175) (o := .cells #[.slice A0_0 l0_0.length c0_0, .int .i64 a0_1, .slice A0_2 l0_2.length c0_2, .slice A0_3 l0_3.length c0_3, .slice A0_4 l0_4.length c0_4, .int .i64 a0_5] 32 (0, 0)) (by (with_reducible repeat (first | refine blk_drewN ?_ _ | refine blk_drew ?_ | refine blk_alloc ?_ _)); exact BK175.out) hg (Kd.R_ne HO_192000.out BK175.out (by decide))); have n5_ := Aside0.mk (blk_grown (g := gb191) (o := .cells #[.slice (some ⟨go25, 0, none⟩) t177.length co11, .int .i64 t180, .slice Ao14 t181.length co14, .slice Ao15 t184.length co15, .slice Ao16 t187.length co16, .int .i64 t190] 32 (0, 0)) (by (with_reducible repeat (first | refine blk_drewN ?_ _ | refine blk_drew ?_ | refine blk_alloc ?_ _)); exact BK191.out) hg (Kd.R_ne HO_192000.out BK191.out (by decide))); have n6_ := Aside0.mk ((by rw [hw]; exact below_set (HB.out) GB25.out : Below w.heap.size w w34)); clear HO_192000; clear HO_192002; clear HO_192003; clear HO_192004; clear BK175; clear BK191; clear HB; have HO_192000 := n0_; have HO_192002 := n1_; have HO_192003 := n2_; have HO_192004 := n3_; have BK175 := n4_; have BK191 := n5_; have HB := n6_; clear n0_ n1_ n2_ n3_ n4_ n5_ n6_; clear hg hw hp_))
                  have n0_ := Aside0.mk (Kd.R_drew HO_192000.out)
                  have n1_ := Aside0.mk (Kd.R_drew HO_192002.out)
                  have n2_ := Aside0.mk (Kd.R_drew HO_192003.out)
                  have n3_ := Aside0.mk (Kd.R_drew HO_192004.out)
                  have n4_ := Aside0.mk (blk_drew BK175.out)
                  have n5_ := Aside0.mk (blk_drew BK191.out)
                  have n6_ := Aside0.mk (below_drew1 HB.out)
                  clear HO_192000
                  clear HO_192002
                  clear HO_192003
                  clear HO_192004
                  clear BK175
                  clear BK191
                  clear HB
                  have HO_192000 := n0_
                  have HO_192002 := n1_
                  have HO_192003 := n2_
                  have HO_192004 := n3_
                  have BK175 := n4_
                  have BK191 := n5_
                  have HB := n6_
                  clear n0_ n1_ n2_ n3_ n4_ n5_ n6_
                  have p196 : 0 ≤ (a1 : Int) := of_decide_eq_true (by first | (with_reducible assumption) | assumption)
                  have q196 : a1 < (l0_0.length : Int) := of_decide_eq_true (by first | (with_reducible assumption) | assumption)
                  obtain ⟨ad196, e196, hx196_0, hx196_1, hx196_2, hx196_3, hx196_4, hx196_5⟩ := at_T37 HR0_0.out a1 p196 q196
                  have hw196_5 := hx196_5
                  have hw196_4 := hx196_4
                  have hw196_3 := hx196_3
                  have hw196_2 := hx196_2
                  have hw196_1 := hx196_1
                  have hw196_0 := hx196_0
                  cases e196
                  replace hx196_0 := (HB.out.cell (World.block_lt_of_cell? w _ hx196_0)).trans hx196_0
                  replace hx196_1 := (HB.out.cell (World.block_lt_of_cell? w _ hx196_1)).trans hx196_1
                  replace hx196_2 := (HB.out.cell (World.block_lt_of_cell? w _ hx196_2)).trans hx196_2
                  replace hx196_3 := (HB.out.cell (World.block_lt_of_cell? w _ hx196_3)).trans hx196_3
                  replace hx196_4 := (HB.out.cell (World.block_lt_of_cell? w _ hx196_4)).trans hx196_4
                  replace hx196_5 := (HB.out.cell (World.block_lt_of_cell? w _ hx196_5)).trans hx196_5
                  replace p196 := eq_true p196
                  replace q196 := eq_true q196
                  have p27 : 0 ≤ (a1 : Int) := of_decide_eq_true (by first | (with_reducible assumption) | assumption)
                  have q27 : (a1 : Int) < ((t177.length : Int) : Int) := of_decide_eq_true (by first | (with_reducible assumption) | assumption)
                  obtain ⟨ce27, hcl27, hM27, hcc27, hfr27⟩ := Kd.R_elem HO_192000.out z37 (a1 : Int) p27 q27
                  obtain rfl := k37_openM hM27
                  have hx27_0 : World.cell? _ ⟨go25, (a1 : Int).toNat * 6, none⟩ = some (.int .i64 ((rd_T37 y195 a1).f0)) := hcc27 0 _ rfl
                  have hx27_1 : World.cell? _ ⟨go25, (a1 : Int).toNat * 6 + 1, none⟩ = some (.int .i64 ((rd_T37 y195 a1).f1)) := hcc27 1 _ rfl
                  have hx27_2 : World.cell? _ ⟨go25, (a1 : Int).toNat * 6 + 2, none⟩ = some (.int .i64 ((rd_T37 y195 a1).f2)) := hcc27 2 _ rfl
                  have hx27_3 : World.cell? _ ⟨go25, (a1 : Int).toNat * 6 + 3, none⟩ = some (.int .i64 ((rd_T37 y195 a1).f3)) := hcc27 3 _ rfl
                  have hx27_4 : World.cell? _ ⟨go25, (a1 : Int).toNat * 6 + 4, none⟩ = some (.int .i64 ((rd_T37 y195 a1).f4)) := hcc27 4 _ rfl
                  have hx27_5 : World.cell? _ ⟨go25, (a1 : Int).toNat * 6 + 5, none⟩ = some (.string ((rd_T37 y195 a1).f5)) := hcc27 5 _ rfl
                  have hf27_0 : World.frozen? _ ⟨go25, (a1 : Int).toNat * 6, none⟩ = false := hfr27 0
                  have hf27_1 : World.frozen? _ ⟨go25, (a1 : Int).toNat * 6 + 1, none⟩ = false := hfr27 1
                  have hf27_2 : World.frozen? _ ⟨go25, (a1 : Int).toNat * 6 + 2, none⟩ = false := hfr27 2
                  have hf27_3 : World.frozen? _ ⟨go25, (a1 : Int).toNat * 6 + 3, none⟩ = false := hfr27 3
                  have hf27_4 : World.frozen? _ ⟨go25, (a1 : Int).toNat * 6 + 4, none⟩ = false := hfr27 4
                  have hf27_5 : World.frozen? _ ⟨go25, (a1 : Int).toNat * 6 + 5, none⟩ = false := hfr27 5
                  clear hcl27 hcc27 hfr27 hM27
                  replace p27 := eq_true p27
                  replace q27 := eq_true q27
                  obtain ⟨ce36, hcl36, hM36, hcc36, hfr36⟩ := Kd.R_elem HO_192000.out z37 (a1 : Int) (of_decide_eq_true (by first | (with_reducible assumption) | assumption)) (by have h_ : (a1 : Int) < ((t177.length : Int) : Int) := of_decide_eq_true (by first | (with_reducible assumption) | assumption); first | exact h_ | (have e_ := (Kd.R_reads' HO_192000.out).1; omega) | simpa using h_)
                  obtain rfl := k37_openM hM36
                  have HP36 := (Kd.R_seg HO_192000.out (a1 : Int) (of_decide_eq_true (by first | (with_reducible assumption) | assumption)) (by have h_ : (a1 : Int) < ((t177.length : Int) : Int) := of_decide_eq_true (by first | (with_reducible assumption) | assumption); first | exact h_ | (have e_ := (Kd.R_reads' HO_192000.out).1; omega) | simpa using h_) (seg := [.int .i64 ((rd_T37 l0_0 a1).f2)]) (j := 1) hcl36 hcc36 (show 2 ≤ 6 from by decide) (x' := (⟨(rd_T37 y195 a1).f0, (rd_T37 l0_0 a1).f2, (rd_T37 y195 a1).f2, (rd_T37 y195 a1).f3, (rd_T37 y195 a1).f4, (rd_T37 y195 a1).f5⟩ : S37)) (k37_mkM _ _ _ (⟨(rd_T37 y195 a1).f0, (rd_T37 l0_0 a1).f2, (rd_T37 y195 a1).f2, (rd_T37 y195 a1).f3, (rd_T37 y195 a1).f4, (rd_T37 y195 a1).f5⟩ : S37) ) (fun _ hk => hk)).1
                  rw [← Ny197.out] at HP36
                  have HQ36 := Aside0.mk HP36
                  clear hcl36 hcc36 hfr36 hM36 HP36
                  refine start_ (n := 12) (S := fun w' => w'.cell? ⟨gb191, 0, none⟩ = some (.slice (some ⟨go25, 0, none⟩) t177.length co11) ∧ w'.cell? ⟨gb191, 1, none⟩ = some (.int .i64 t180) ∧ w'.cell? ⟨gb191, 2, none⟩ = some (.slice Ao14 t181.length co14) ∧ w'.cell? ⟨gb191, 3, none⟩ = some (.slice Ao15 t184.length co15) ∧ w'.cell? ⟨gb191, 4, none⟩ = some (.slice Ao16 t187.length co16) ∧ w'.cell? ⟨gb191, 5, none⟩ = some (.int .i64 t190) ∧ w'.cell? ⟨gb175, 0, none⟩ = some (.slice (some ad196) l0_0.length c0_0) ∧ w'.cell? ⟨gb175, 1, none⟩ = some (.int .i64 a0_1) ∧ w'.cell? ⟨gb175, 2, none⟩ = some (.slice A0_2 l0_2.length c0_2) ∧ w'.cell? ⟨gb175, 3, none⟩ = some (.slice A0_3 l0_3.length c0_3) ∧ w'.cell? ⟨gb175, 4, none⟩ = some (.slice A0_4 l0_4.length c0_4) ∧ w'.cell? ⟨gb175, 5, none⟩ = some (.int .i64 a0_5) ∧ w'.cell? (ad196.add ((a1).toNat * 6)) = some (.int .i64 ((rd_T37 l0_0 a1).f0)) ∧ w'.cell? ⟨(ad196.add ((a1).toNat * 6)).block, (ad196.add ((a1).toNat * 6)).off + 1, none⟩ = some (.int .i64 ((rd_T37 l0_0 a1).f1)) ∧ w'.cell? ⟨(ad196.add ((a1).toNat * 6)).block, (ad196.add ((a1).toNat * 6)).off + 2, none⟩ = some (.int .i64 ((rd_T37 l0_0 a1).f2)) ∧ w'.cell? ⟨(ad196.add ((a1).toNat * 6)).block, (ad196.add ((a1).toNat * 6)).off + 3, none⟩ = some (.int .i64 ((rd_T37 l0_0 a1).f3)) ∧ w'.cell? ⟨(ad196.add ((a1).toNat * 6)).block, (ad196.add ((a1).toNat * 6)).off + 4, none⟩ = some (.int .i64 ((rd_T37 l0_0 a1).f4)) ∧ w'.cell? ⟨(ad196.add ((a1).toNat * 6)).block, (ad196.add ((a1).toNat * 6)).off + 5, none⟩ = some (.string ((rd_T37 l0_0 a1).f5))) (ds := [11]) #[false, false, false, false, false, false, false, false, false, false, false, false] (by kernel_rfl) rfl rfl ⟨(blk_cell BK191.out 0).trans rfl, (blk_cell BK191.out 1).trans rfl, (blk_cell BK191.out 2).trans rfl, (blk_cell BK191.out 3).trans rfl, (blk_cell BK191.out 4).trans rfl, (blk_cell BK191.out 5).trans rfl, (blk_cell BK175.out 0).trans rfl, (blk_cell BK175.out 1).trans rfl, (blk_cell BK175.out 2).trans rfl, (blk_cell BK175.out 3).trans rfl, (blk_cell BK175.out 4).trans rfl, (blk_cell BK175.out 5).trans rfl, ((HB.out.cell (World.block_lt_of_cell? w _ hw196_0)).trans hw196_0), ((HB.out.cell (World.block_lt_of_cell? w _ hw196_1)).trans hw196_1), ((HB.out.cell (World.block_lt_of_cell? w _ hw196_2)).trans hw196_2), ((HB.out.cell (World.block_lt_of_cell? w _ hw196_3)).trans hw196_3), ((HB.out.cell (World.block_lt_of_cell? w _ hw196_4)).trans hw196_4), ((HB.out.cell (World.block_lt_of_cell? w _ hw196_5)).trans hw196_5)⟩ (fun hHeld => ?_); refine with_tabW daybooklaw14_TypingTurned.tab9 daybooklaw14_TypingTurned.bits9 (fun HT_ HW_ => ?_)
                  generalize w34.drew = w35 at HO_192000 HO_192002 HO_192003 HO_192004 BK175 BK191 HB HQ36 hf27_0 hf27_1 hf27_2 hf27_3 hf27_4 hf27_5 hx196_0 hx196_1 hx196_2 hx196_3 hx196_4 hx196_5 hx27_0 hx27_1 hx27_2 hx27_3 hx27_4 hx27_5 hHeld ⊢
                  refine pure_ (i := 0) (N := some 42) (v := ?_) (a' := ?_) #[true, false, false, false, false, false, false, false, false, false, false, false] rfl rfl (any_of HT_.out (by kernel_rfl)) (fun _ _ _ h => h) (Or.inl ⟨by rfl, ?_⟩) ?_ ?_
                  rotate_left
                  · intro w'
                    go_simp
                    with_reducible rfl
                  rotate_left
                  · simp only [Act.put, List.setIfInBounds_toArray, List.set_cons_zero, List.set_cons_succ, i64_w, i32_w]
                    rfl
                  refine pure_ (i := 2) (N := some 44) (v := ?_) (a' := ?_) #[true, false, true, false, false, false, false, false, false, false, false, false] rfl rfl (any_of HT_.out (by kernel_rfl)) (fun _ _ _ h => h) (Or.inl ⟨by rfl, ?_⟩) ?_ ?_
                  rotate_left
                  · intro w'
                    go_simp
                    with_reducible rfl
                  rotate_left
                  · simp only [Act.put, List.setIfInBounds_toArray, List.set_cons_zero, List.set_cons_succ, i64_w, i32_w]
                    rfl
                  refine pure_ (i := 3) (N := some 45) (v := ?_) (a' := ?_) #[true, false, true, true, false, false, false, false, false, false, false, false] rfl rfl (any_of HT_.out (by kernel_rfl)) (fun _ _ _ h => h) (Or.inl ⟨by rfl, ?_⟩) ?_ ?_
                  rotate_left
                  · intro w'
                    go_simp
                    with_reducible rfl
                  rotate_left
                  · simp only [Act.put, List.setIfInBounds_toArray, List.set_cons_zero, List.set_cons_succ, i64_w, i32_w]
                    rfl
                  refine pure_ (i := 5) (N := some 47) (v := ?_) (a' := ?_) #[true, false, true, true, false, true, false, false, false, false, false, false] rfl rfl (any_of HT_.out (by kernel_rfl)) (fun _ _ _ h => h) (Or.inl ⟨by rfl, ?_⟩) ?_ ?_
                  rotate_left
                  · intro w'
                    go_simp
                    with_reducible rfl
                  rotate_left
                  · simp only [Act.put, List.setIfInBounds_toArray, List.set_cons_zero, List.set_cons_succ, i64_w, i32_w]
                    rfl
                  refine take_ (i := 1) (N := some 43) (v := ?_) (a' := ?_) #[true, true, true, true, false, true, false, false, false, false, false, false] rfl rfl (take_ofW HT_.out HW_.out (by kernel_rfl)) (fun _ _ _ h => h) (Or.inl ⟨by rfl, ?_⟩) hHeld ?_ ?_
                  rotate_left
                  · rintro w' ⟨s0, s1, s2, s3, s4, s5, s6, s7, s8, s9, s10, s11, s12, s13, s14, s15, s16, s17⟩
                    go_simp
                    with_reducible rfl
                  rotate_left
                  · simp only [Act.put, List.setIfInBounds_toArray, List.set_cons_zero, List.set_cons_succ, i64_w, i32_w]
                    rfl
                  refine take_ (i := 4) (N := some 46) (v := ?_) (a' := ?_) #[true, true, true, true, true, true, false, false, false, false, false, false] rfl rfl (take_ofW HT_.out HW_.out (by kernel_rfl)) (fun _ _ _ h => h) (Or.inl ⟨by rfl, ?_⟩) hHeld ?_ ?_
                  rotate_left
                  · rintro w' ⟨s0, s1, s2, s3, s4, s5, s6, s7, s8, s9, s10, s11, s12, s13, s14, s15, s16, s17⟩
                    go_simp
                    with_reducible rfl
                  rotate_left
                  · simp only [Act.put, List.setIfInBounds_toArray, List.set_cons_zero, List.set_cons_succ, i64_w, i32_w]
                    rfl
                  refine pure_ (i := 6) (N := some 48) (v := ?_) (a' := ?_) #[true, true, true, true, true, true, true, false, false, false, false, false] rfl rfl (any_of HT_.out (by kernel_rfl)) (fun _ _ _ h => h) (Or.inl ⟨by rfl, ?_⟩) ?_ ?_
                  rotate_left
                  · intro w'
                    go_simp
                    with_reducible rfl
                  rotate_left
                  · simp only [Act.put, List.setIfInBounds_toArray, List.set_cons_zero, List.set_cons_succ, i64_w, i32_w]
                    rfl
                  refine pure_ (i := 7) (N := some 49) (v := ?_) (a' := ?_) #[true, true, true, true, true, true, true, true, false, false, false, false] rfl rfl (any_of HT_.out (by kernel_rfl)) (fun _ _ _ h => h) (Or.inl ⟨by rfl, ?_⟩) ?_ ?_
                  rotate_left
                  · intro w'
                    go_simp
                    with_reducible rfl
                  rotate_left
                  · simp only [Act.put, List.setIfInBounds_toArray, List.set_cons_zero, List.set_cons_succ, i64_w, i32_w]
                    rfl
                  refine take_ (i := 8) (N := some 50) (v := ?_) (a' := ?_) #[true, true, true, true, true, true, true, true, true, false, false, false] rfl rfl (take_ofW HT_.out HW_.out (by kernel_rfl)) (fun _ _ _ h => h) (Or.inl ⟨by rfl, ?_⟩) hHeld ?_ ?_
                  rotate_left
                  · rintro w' ⟨s0, s1, s2, s3, s4, s5, s6, s7, s8, s9, s10, s11, s12, s13, s14, s15, s16, s17⟩
                    go_simp
                    with_reducible rfl
                  rotate_left
                  · simp only [Act.put, List.setIfInBounds_toArray, List.set_cons_zero, List.set_cons_succ, i64_w, i32_w]
                    rfl
                  refine pure_ (i := 9) (N := some 51) (v := ?_) (a' := ?_) #[true, true, true, true, true, true, true, true, true, true, false, false] rfl rfl (any_of HT_.out (by kernel_rfl)) (fun _ _ _ h => h) (Or.inl ⟨by rfl, ?_⟩) ?_ ?_
                  rotate_left
                  · intro w'
                    go_simp
                    with_reducible rfl
                  rotate_left
                  · simp only [Act.put, List.setIfInBounds_toArray, List.set_cons_zero, List.set_cons_succ, i64_w, i32_w]
                    rfl
                  refine pure_ (i := 10) (N := some 52) (v := ?_) (a' := ?_) #[true, true, true, true, true, true, true, true, true, true, true, false] rfl rfl (any_of HT_.out (by kernel_rfl)) (fun _ _ _ h => h) (Or.inl ⟨by rfl, ?_⟩) ?_ ?_
                  rotate_left
                  · intro w'
                    go_simp
                    with_reducible rfl
                  rotate_left
                  · simp only [Act.put, List.setIfInBounds_toArray, List.set_cons_zero, List.set_cons_succ, i64_w, i32_w]
                    rfl
                  refine last_ (i := 11) (N := none) #[true, true, true, true, true, true, true, true, true, true, true, true] rfl rfl (one_of HT_.out (by kernel_rfl)) (by decide) (fun K hK => ?_)
                  refine skip_ (w1 := ?_) (by rfl) rfl ?_ ?_
                  rotate_left
                  · go_simp
                    rfl
                  refine hK.out _ _ ?_
                  clear hK K
                  refine done_ (done_of HT_.out (by kernel_rfl)) ?_
                  try go_wp2
                  have n0_ : Aside0 (Kd.R k37 37 (w35.setCell ⟨go25, (a1 : Int).toNat * 6 + 1, none⟩ (.int .i64 ((rd_T37 l0_0 a1).f2))) w.heap.size (fun _ => True) (.slice (some ⟨go25, 0, none⟩) t177.length co11) y197) := ⟨by (with_reducible repeat (first | apply Kd.R_alloc | apply Kd.R_drewN | apply Kd.R_drew)); exact HQ36.out⟩
                  have n1_ : Aside0 (Kd.R (Kd.int .i64) 3 (w35.setCell ⟨go25, (a1 : Int).toNat * 6 + 1, none⟩ (.int .i64 ((rd_T37 l0_0 a1).f2))) w.heap.size (fun _ => True) (.slice Ao14 t181.length co14) t181) := ⟨by (with_reducible repeat (first | apply Kd.R_alloc | apply Kd.R_drewN | apply Kd.R_drew)); exact Kd.R_mono (Kd.R_far (p := ⟨go25, (a1 : Int).toNat * 6 + 1, none⟩) (Kd.R_types HO_192002.out (Kd.R_typed HO_192000.out go25 rfl).choose_spec (by decide)) (fun _ hk => hk.2) (.int .i64 ((rd_T37 l0_0 a1).f2))) (fun _ hk => trivial)⟩
                  have n2_ : Aside0 (Kd.R k47 47 (w35.setCell ⟨go25, (a1 : Int).toNat * 6 + 1, none⟩ (.int .i64 ((rd_T37 l0_0 a1).f2))) w.heap.size (fun _ => True) (.slice Ao15 t184.length co15) t184) := ⟨by (with_reducible repeat (first | apply Kd.R_alloc | apply Kd.R_drewN | apply Kd.R_drew)); exact Kd.R_mono (Kd.R_far (p := ⟨go25, (a1 : Int).toNat * 6 + 1, none⟩) (Kd.R_types HO_192003.out (Kd.R_typed HO_192000.out go25 rfl).choose_spec (by decide)) (fun _ hk => hk.2) (.int .i64 ((rd_T37 l0_0 a1).f2))) (fun _ hk => trivial)⟩
                  have n3_ : Aside0 (Kd.R k69 69 (w35.setCell ⟨go25, (a1 : Int).toNat * 6 + 1, none⟩ (.int .i64 ((rd_T37 l0_0 a1).f2))) w.heap.size (fun _ => True) (.slice Ao16 t187.length co16) t187) := ⟨by (with_reducible repeat (first | apply Kd.R_alloc | apply Kd.R_drewN | apply Kd.R_drew)); exact Kd.R_mono (Kd.R_far (p := ⟨go25, (a1 : Int).toNat * 6 + 1, none⟩) (Kd.R_types HO_192004.out (Kd.R_typed HO_192000.out go25 rfl).choose_spec (by decide)) (fun _ hk => hk.2) (.int .i64 ((rd_T37 l0_0 a1).f2))) (fun _ hk => trivial)⟩
                  have n4_ : Aside0 ((w35.setCell ⟨go25, (a1 : Int).toNat * 6 + 1, none⟩ (.int .i64 ((rd_T37 l0_0 a1).f2))).heap[gb175]? = some (.cells #[.slice (some ad196) l0_0.length c0_0, .int .i64 a0_1, .slice A0_2 l0_2.length c0_2, .slice A0_3 l0_3.length c0_3, .slice A0_4 l0_4.length c0_4, .int .i64 a0_5] 32 (0, 0))) := ⟨by (with_reducible repeat (first | refine blk_drewN ?_ _ | refine blk_drew ?_ | refine blk_alloc ?_ _)); refine blk_far ?_ (by have h_ := Kd.R_ne HO_192000.out BK175.out (by decide); intro e_; exact h_ (by rw [e_]; rfl)) _; (with_reducible repeat (first | refine blk_drewN ?_ _ | refine blk_drew ?_ | refine blk_alloc ?_ _)); exact BK175.out⟩
                  have n5_ : Aside0 ((w35.setCell ⟨go25, (a1 : Int).toNat * 6 + 1, none⟩ (.int .i64 ((rd_T37 l0_0 a1).f2))).heap[gb191]? = some (.cells #[.slice (some ⟨go25, 0, none⟩) t177.length co11, .int .i64 t180, .slice Ao14 t181.length co14, .slice Ao15 t184.length co15, .slice Ao16 t187.length co16, .int .i64 t190] 32 (0, 0))) := ⟨by (with_reducible repeat (first | refine blk_drewN ?_ _ | refine blk_drew ?_ | refine blk_alloc ?_ _)); refine blk_far ?_ (by have h_ := Kd.R_ne HO_192000.out BK191.out (by decide); intro e_; exact h_ (by rw [e_]; rfl)) _; (with_reducible repeat (first | refine blk_drewN ?_ _ | refine blk_drew ?_ | refine blk_alloc ?_ _)); exact BK191.out⟩
                  have n6_ : Aside0 (Below w.heap.size w (w35.setCell ⟨go25, (a1 : Int).toNat * 6 + 1, none⟩ (.int .i64 ((rd_T37 l0_0 a1).f2)))) := ⟨by repeat (first | (with_reducible first | exact HB.out | apply below_alloc | apply pw_below_drewN | apply below_drew1 | refine below_set ?_ GB25.out | refine below_set ?_ GE175.out | refine below_set ?_ GE191.out) | exact HB.out)⟩
                  (try clear HO_192000)
                  (try clear HO_192002)
                  (try clear HO_192003)
                  (try clear HO_192004)
                  (try clear BK175)
                  (try clear BK191)
                  (try clear HB)
                  generalize (w35.setCell ⟨go25, (a1 : Int).toNat * 6 + 1, none⟩ (.int .i64 ((rd_T37 l0_0 a1).f2))) = w37 at n0_ n1_ n2_ n3_ n4_ n5_ n6_ ⊢
                  have HO_192000 := n0_
                  have HO_192002 := n1_
                  have HO_192003 := n2_
                  have HO_192004 := n3_
                  have BK175 := n4_
                  have BK191 := n5_
                  have HB := n6_
                  clear n0_ n1_ n2_ n3_ n4_ n5_ n6_
                  have n0_ := Aside0.mk (Kd.R_drew HO_192000.out)
                  have n1_ := Aside0.mk (Kd.R_drew HO_192002.out)
                  have n2_ := Aside0.mk (Kd.R_drew HO_192003.out)
                  have n3_ := Aside0.mk (Kd.R_drew HO_192004.out)
                  have n4_ := Aside0.mk (blk_drew BK175.out)
                  have n5_ := Aside0.mk (blk_drew BK191.out)
                  have n6_ := Aside0.mk (below_drew1 HB.out)
                  clear HO_192000
                  clear HO_192002
                  clear HO_192003
                  clear HO_192004
                  clear BK175
                  clear BK191
                  clear HB
                  have HO_192000 := n0_
                  have HO_192002 := n1_
                  have HO_192003 := n2_
                  have HO_192004 := n3_
                  have BK175 := n4_
                  have BK191 := n5_
                  have HB := n6_
                  clear n0_ n1_ n2_ n3_ n4_ n5_ n6_
                  have p198 : 0 ≤ (a1 : Int) := of_decide_eq_true (by first | (with_reducible assumption) | assumption)
                  have q198 : a1 < (l0_0.length : Int) := of_decide_eq_true (by first | (with_reducible assumption) | assumption)
                  obtain ⟨ad198, e198, hx198_0, hx198_1, hx198_2, hx198_3, hx198_4, hx198_5⟩ := at_T37 HR0_0.out a1 p198 q198
                  have hw198_5 := hx198_5
                  have hw198_4 := hx198_4
                  have hw198_3 := hx198_3
                  have hw198_2 := hx198_2
                  have hw198_1 := hx198_1
                  have hw198_0 := hx198_0
                  obtain rfl : ad196 = ad198 := (by injection e198)
                  replace hx198_0 := (HB.out.cell (World.block_lt_of_cell? w _ hx198_0)).trans hx198_0
                  replace hx198_1 := (HB.out.cell (World.block_lt_of_cell? w _ hx198_1)).trans hx198_1
                  replace hx198_2 := (HB.out.cell (World.block_lt_of_cell? w _ hx198_2)).trans hx198_2
                  replace hx198_3 := (HB.out.cell (World.block_lt_of_cell? w _ hx198_3)).trans hx198_3
                  replace hx198_4 := (HB.out.cell (World.block_lt_of_cell? w _ hx198_4)).trans hx198_4
                  replace hx198_5 := (HB.out.cell (World.block_lt_of_cell? w _ hx198_5)).trans hx198_5
                  replace p198 := eq_true p198
                  replace q198 := eq_true q198
                  have p28 : 0 ≤ (a1 : Int) := of_decide_eq_true (by first | (with_reducible assumption) | assumption)
                  have q28 : (a1 : Int) < ((t177.length : Int) : Int) := of_decide_eq_true (by first | (with_reducible assumption) | assumption)
                  obtain ⟨ce28, hcl28, hM28, hcc28, hfr28⟩ := Kd.R_elem HO_192000.out z37 (a1 : Int) p28 q28
                  obtain rfl := k37_openM hM28
                  have hx28_0 : World.cell? _ ⟨go25, (a1 : Int).toNat * 6, none⟩ = some (.int .i64 ((rd_T37 y197 a1).f0)) := hcc28 0 _ rfl
                  have hx28_1 : World.cell? _ ⟨go25, (a1 : Int).toNat * 6 + 1, none⟩ = some (.int .i64 ((rd_T37 y197 a1).f1)) := hcc28 1 _ rfl
                  have hx28_2 : World.cell? _ ⟨go25, (a1 : Int).toNat * 6 + 2, none⟩ = some (.int .i64 ((rd_T37 y197 a1).f2)) := hcc28 2 _ rfl
                  have hx28_3 : World.cell? _ ⟨go25, (a1 : Int).toNat * 6 + 3, none⟩ = some (.int .i64 ((rd_T37 y197 a1).f3)) := hcc28 3 _ rfl
                  have hx28_4 : World.cell? _ ⟨go25, (a1 : Int).toNat * 6 + 4, none⟩ = some (.int .i64 ((rd_T37 y197 a1).f4)) := hcc28 4 _ rfl
                  have hx28_5 : World.cell? _ ⟨go25, (a1 : Int).toNat * 6 + 5, none⟩ = some (.string ((rd_T37 y197 a1).f5)) := hcc28 5 _ rfl
                  have hf28_0 : World.frozen? _ ⟨go25, (a1 : Int).toNat * 6, none⟩ = false := hfr28 0
                  have hf28_1 : World.frozen? _ ⟨go25, (a1 : Int).toNat * 6 + 1, none⟩ = false := hfr28 1
                  have hf28_2 : World.frozen? _ ⟨go25, (a1 : Int).toNat * 6 + 2, none⟩ = false := hfr28 2
                  have hf28_3 : World.frozen? _ ⟨go25, (a1 : Int).toNat * 6 + 3, none⟩ = false := hfr28 3
                  have hf28_4 : World.frozen? _ ⟨go25, (a1 : Int).toNat * 6 + 4, none⟩ = false := hfr28 4
                  have hf28_5 : World.frozen? _ ⟨go25, (a1 : Int).toNat * 6 + 5, none⟩ = false := hfr28 5
                  clear hcl28 hcc28 hfr28 hM28
                  replace p28 := eq_true p28
                  replace q28 := eq_true q28
                  obtain ⟨ce39, hcl39, hM39, hcc39, hfr39⟩ := Kd.R_elem HO_192000.out z37 (a1 : Int) (of_decide_eq_true (by first | (with_reducible assumption) | assumption)) (by have h_ : (a1 : Int) < ((t177.length : Int) : Int) := of_decide_eq_true (by first | (with_reducible assumption) | assumption); first | exact h_ | (have e_ := (Kd.R_reads' HO_192000.out).1; omega) | simpa using h_)
                  obtain rfl := k37_openM hM39
                  have HP39 := (Kd.R_seg HO_192000.out (a1 : Int) (of_decide_eq_true (by first | (with_reducible assumption) | assumption)) (by have h_ : (a1 : Int) < ((t177.length : Int) : Int) := of_decide_eq_true (by first | (with_reducible assumption) | assumption); first | exact h_ | (have e_ := (Kd.R_reads' HO_192000.out).1; omega) | simpa using h_) (seg := [.int .i64 ((rd_T37 l0_0 a1).f1)]) (j := 2) hcl39 hcc39 (show 3 ≤ 6 from by decide) (x' := (⟨(rd_T37 y197 a1).f0, (rd_T37 y197 a1).f1, (rd_T37 l0_0 a1).f1, (rd_T37 y197 a1).f3, (rd_T37 y197 a1).f4, (rd_T37 y197 a1).f5⟩ : S37)) (k37_mkM _ _ _ (⟨(rd_T37 y197 a1).f0, (rd_T37 y197 a1).f1, (rd_T37 l0_0 a1).f1, (rd_T37 y197 a1).f3, (rd_T37 y197 a1).f4, (rd_T37 y197 a1).f5⟩ : S37) ) (fun _ hk => hk)).1
                  rw [← Ny199.out] at HP39
                  have HQ39 := Aside0.mk HP39
                  clear hcl39 hcc39 hfr39 hM39 HP39
                  refine start_ (n := 12) (S := fun w' => w'.cell? ⟨gb191, 0, none⟩ = some (.slice (some ⟨go25, 0, none⟩) t177.length co11) ∧ w'.cell? ⟨gb191, 1, none⟩ = some (.int .i64 t180) ∧ w'.cell? ⟨gb191, 2, none⟩ = some (.slice Ao14 t181.length co14) ∧ w'.cell? ⟨gb191, 3, none⟩ = some (.slice Ao15 t184.length co15) ∧ w'.cell? ⟨gb191, 4, none⟩ = some (.slice Ao16 t187.length co16) ∧ w'.cell? ⟨gb191, 5, none⟩ = some (.int .i64 t190) ∧ w'.cell? ⟨gb175, 0, none⟩ = some (.slice (some ad196) l0_0.length c0_0) ∧ w'.cell? ⟨gb175, 1, none⟩ = some (.int .i64 a0_1) ∧ w'.cell? ⟨gb175, 2, none⟩ = some (.slice A0_2 l0_2.length c0_2) ∧ w'.cell? ⟨gb175, 3, none⟩ = some (.slice A0_3 l0_3.length c0_3) ∧ w'.cell? ⟨gb175, 4, none⟩ = some (.slice A0_4 l0_4.length c0_4) ∧ w'.cell? ⟨gb175, 5, none⟩ = some (.int .i64 a0_5) ∧ w'.cell? (ad196.add ((a1).toNat * 6)) = some (.int .i64 ((rd_T37 l0_0 a1).f0)) ∧ w'.cell? ⟨(ad196.add ((a1).toNat * 6)).block, (ad196.add ((a1).toNat * 6)).off + 1, none⟩ = some (.int .i64 ((rd_T37 l0_0 a1).f1)) ∧ w'.cell? ⟨(ad196.add ((a1).toNat * 6)).block, (ad196.add ((a1).toNat * 6)).off + 2, none⟩ = some (.int .i64 ((rd_T37 l0_0 a1).f2)) ∧ w'.cell? ⟨(ad196.add ((a1).toNat * 6)).block, (ad196.add ((a1).toNat * 6)).off + 3, none⟩ = some (.int .i64 ((rd_T37 l0_0 a1).f3)) ∧ w'.cell? ⟨(ad196.add ((a1).toNat * 6)).block, (ad196.add ((a1).toNat * 6)).off + 4, none⟩ = some (.int .i64 ((rd_T37 l0_0 a1).f4)) ∧ w'.cell? ⟨(ad196.add ((a1).toNat * 6)).block, (ad196.add ((a1).toNat * 6)).off + 5, none⟩ = some (.string ((rd_T37 l0_0 a1).f5))) (ds := [11]) #[false, false, false, false, false, false, false, false, false, false, false, false] (by kernel_rfl) rfl rfl ⟨(blk_cell BK191.out 0).trans rfl, (blk_cell BK191.out 1).trans rfl, (blk_cell BK191.out 2).trans rfl, (blk_cell BK191.out 3).trans rfl, (blk_cell BK191.out 4).trans rfl, (blk_cell BK191.out 5).trans rfl, (blk_cell BK175.out 0).trans rfl, (blk_cell BK175.out 1).trans rfl, (blk_cell BK175.out 2).trans rfl, (blk_cell BK175.out 3).trans rfl, (blk_cell BK175.out 4).trans rfl, (blk_cell BK175.out 5).trans rfl, ((HB.out.cell (World.block_lt_of_cell? w _ hw198_0)).trans hw198_0), ((HB.out.cell (World.block_lt_of_cell? w _ hw198_1)).trans hw198_1), ((HB.out.cell (World.block_lt_of_cell? w _ hw198_2)).trans hw198_2), ((HB.out.cell (World.block_lt_of_cell? w _ hw198_3)).trans hw198_3), ((HB.out.cell (World.block_lt_of_cell? w _ hw198_4)).trans hw198_4), ((HB.out.cell (World.block_lt_of_cell? w _ hw198_5)).trans hw198_5)⟩ (fun hHeld => ?_); refine with_tabW daybooklaw14_TypingTurned.tab10 daybooklaw14_TypingTurned.bits10 (fun HT_ HW_ => ?_)
                  generalize w37.drew = w38 at HO_192000 HO_192002 HO_192003 HO_192004 BK175 BK191 HB HQ36 HQ39 hf28_0 hf28_1 hf28_2 hf28_3 hf28_4 hf28_5 hx198_0 hx198_1 hx198_2 hx198_3 hx198_4 hx198_5 hx28_0 hx28_1 hx28_2 hx28_3 hx28_4 hx28_5 hHeld ⊢
                  refine pure_ (i := 0) (N := some 53) (v := ?_) (a' := ?_) #[true, false, false, false, false, false, false, false, false, false, false, false] rfl rfl (any_of HT_.out (by kernel_rfl)) (fun _ _ _ h => h) (Or.inl ⟨by rfl, ?_⟩) ?_ ?_
                  rotate_left
                  · intro w'
                    go_simp
                    with_reducible rfl
                  rotate_left
                  · simp only [Act.put, List.setIfInBounds_toArray, List.set_cons_zero, List.set_cons_succ, i64_w, i32_w]
                    rfl
                  refine pure_ (i := 2) (N := some 55) (v := ?_) (a' := ?_) #[true, false, true, false, false, false, false, false, false, false, false, false] rfl rfl (any_of HT_.out (by kernel_rfl)) (fun _ _ _ h => h) (Or.inl ⟨by rfl, ?_⟩) ?_ ?_
                  rotate_left
                  · intro w'
                    go_simp
                    with_reducible rfl
                  rotate_left
                  · simp only [Act.put, List.setIfInBounds_toArray, List.set_cons_zero, List.set_cons_succ, i64_w, i32_w]
                    rfl
                  refine pure_ (i := 3) (N := some 56) (v := ?_) (a' := ?_) #[true, false, true, true, false, false, false, false, false, false, false, false] rfl rfl (any_of HT_.out (by kernel_rfl)) (fun _ _ _ h => h) (Or.inl ⟨by rfl, ?_⟩) ?_ ?_
                  rotate_left
                  · intro w'
                    go_simp
                    with_reducible rfl
                  rotate_left
                  · simp only [Act.put, List.setIfInBounds_toArray, List.set_cons_zero, List.set_cons_succ, i64_w, i32_w]
                    rfl
                  refine pure_ (i := 5) (N := some 58) (v := ?_) (a' := ?_) #[true, false, true, true, false, true, false, false, false, false, false, false] rfl rfl (any_of HT_.out (by kernel_rfl)) (fun _ _ _ h => h) (Or.inl ⟨by rfl, ?_⟩) ?_ ?_
                  rotate_left
                  · intro w'
                    go_simp
                    with_reducible rfl
                  rotate_left
                  · simp only [Act.put, List.setIfInBounds_toArray, List.set_cons_zero, List.set_cons_succ, i64_w, i32_w]
                    rfl
                  refine take_ (i := 1) (N := some 54) (v := ?_) (a' := ?_) #[true, true, true, true, false, true, false, false, false, false, false, false] rfl rfl (take_ofW HT_.out HW_.out (by kernel_rfl)) (fun _ _ _ h => h) (Or.inl ⟨by rfl, ?_⟩) hHeld ?_ ?_
                  rotate_left
                  · rintro w' ⟨s0, s1, s2, s3, s4, s5, s6, s7, s8, s9, s10, s11, s12, s13, s14, s15, s16, s17⟩
                    go_simp
                    with_reducible rfl
                  rotate_left
                  · simp only [Act.put, List.setIfInBounds_toArray, List.set_cons_zero, List.set_cons_succ, i64_w, i32_w]
                    rfl
                  refine take_ (i := 4) (N := some 57) (v := ?_) (a' := ?_) #[true, true, true, true, true, true, false, false, false, false, false, false] rfl rfl (take_ofW HT_.out HW_.out (by kernel_rfl)) (fun _ _ _ h => h) (Or.inl ⟨by rfl, ?_⟩) hHeld ?_ ?_
                  rotate_left
                  · rintro w' ⟨s0, s1, s2, s3, s4, s5, s6, s7, s8, s9, s10, s11, s12, s13, s14, s15, s16, s17⟩
                    go_simp
                    with_reducible rfl
                  rotate_left
                  · simp only [Act.put, List.setIfInBounds_toArray, List.set_cons_zero, List.set_cons_succ, i64_w, i32_w]
                    rfl
                  refine pure_ (i := 6) (N := some 59) (v := ?_) (a' := ?_) #[true, true, true, true, true, true, true, false, false, false, false, false] rfl rfl (any_of HT_.out (by kernel_rfl)) (fun _ _ _ h => h) (Or.inl ⟨by rfl, ?_⟩) ?_ ?_
                  rotate_left
                  · intro w'
                    go_simp
                    with_reducible rfl
                  rotate_left
                  · simp only [Act.put, List.setIfInBounds_toArray, List.set_cons_zero, List.set_cons_succ, i64_w, i32_w]
                    rfl
                  refine pure_ (i := 7) (N := some 60) (v := ?_) (a' := ?_) #[true, true, true, true, true, true, true, true, false, false, false, false] rfl rfl (any_of HT_.out (by kernel_rfl)) (fun _ _ _ h => h) (Or.inl ⟨by rfl, ?_⟩) ?_ ?_
                  rotate_left
                  · intro w'
                    go_simp
                    with_reducible rfl
                  rotate_left
                  · simp only [Act.put, List.setIfInBounds_toArray, List.set_cons_zero, List.set_cons_succ, i64_w, i32_w]
                    rfl
                  refine take_ (i := 8) (N := some 61) (v := ?_) (a' := ?_) #[true, true, true, true, true, true, true, true, true, false, false, false] rfl rfl (take_ofW HT_.out HW_.out (by kernel_rfl)) (fun _ _ _ h => h) (Or.inl ⟨by rfl, ?_⟩) hHeld ?_ ?_
                  rotate_left
                  · rintro w' ⟨s0, s1, s2, s3, s4, s5, s6, s7, s8, s9, s10, s11, s12, s13, s14, s15, s16, s17⟩
                    go_simp
                    with_reducible rfl
                  rotate_left
                  · simp only [Act.put, List.setIfInBounds_toArray, List.set_cons_zero, List.set_cons_succ, i64_w, i32_w]
                    rfl
                  refine pure_ (i := 9) (N := some 62) (v := ?_) (a' := ?_) #[true, true, true, true, true, true, true, true, true, true, false, false] rfl rfl (any_of HT_.out (by kernel_rfl)) (fun _ _ _ h => h) (Or.inl ⟨by rfl, ?_⟩) ?_ ?_
                  rotate_left
                  · intro w'
                    go_simp
                    with_reducible rfl
                  rotate_left
                  · simp only [Act.put, List.setIfInBounds_toArray, List.set_cons_zero, List.set_cons_succ, i64_w, i32_w]
                    rfl
                  refine pure_ (i := 10) (N := some 63) (v := ?_) (a' := ?_) #[true, true, true, true, true, true, true, true, true, true, true, false] rfl rfl (any_of HT_.out (by kernel_rfl)) (fun _ _ _ h => h) (Or.inl ⟨by rfl, ?_⟩) ?_ ?_
                  rotate_left
                  · intro w'
                    go_simp
                    with_reducible rfl
                  rotate_left
                  · simp only [Act.put, List.setIfInBounds_toArray, List.set_cons_zero, List.set_cons_succ, i64_w, i32_w]
                    rfl
                  refine last_ (i := 11) (N := none) #[true, true, true, true, true, true, true, true, true, true, true, true] rfl rfl (one_of HT_.out (by kernel_rfl)) (by decide) (fun K hK => ?_)
                  refine skip_ (w1 := ?_) (by rfl) rfl ?_ ?_
                  rotate_left
                  · go_simp
                    rfl
                  refine hK.out _ _ ?_
                  clear hK K
                  refine done_ (done_of HT_.out (by kernel_rfl)) ?_
                  have hcz40_0 : w38.cell? ⟨gb191, 0, none⟩ = some (.slice (some ⟨go25, 0, none⟩) t177.length co11) := (blk_cell BK191.out 0).trans rfl
                  have hcz40_1 : w38.cell? ⟨gb191, 1, none⟩ = some (.int .i64 t180) := (blk_cell BK191.out 1).trans rfl
                  have hcz40_2 : w38.cell? ⟨gb191, 2, none⟩ = some (.slice Ao14 t181.length co14) := (blk_cell BK191.out 2).trans rfl
                  have hcz40_3 : w38.cell? ⟨gb191, 3, none⟩ = some (.slice Ao15 t184.length co15) := (blk_cell BK191.out 3).trans rfl
                  have hcz40_4 : w38.cell? ⟨gb191, 4, none⟩ = some (.slice Ao16 t187.length co16) := (blk_cell BK191.out 4).trans rfl
                  have hcz40_5 : w38.cell? ⟨gb191, 5, none⟩ = some (.int .i64 t190) := (blk_cell BK191.out 5).trans rfl
                  have hfz40_0 := blk_frozen BK191.out 0
                  have hfz40_1 := blk_frozen BK191.out 1
                  have hfz40_2 := blk_frozen BK191.out 2
                  have hfz40_3 := blk_frozen BK191.out 3
                  have hfz40_4 := blk_frozen BK191.out 4
                  have hfz40_5 := blk_frozen BK191.out 5
                  have hcz41_0 : w38.cell? ⟨gb175, 0, none⟩ = some (.slice (some ad196) l0_0.length c0_0) := (blk_cell BK175.out 0).trans rfl
                  have hcz41_1 : w38.cell? ⟨gb175, 1, none⟩ = some (.int .i64 a0_1) := (blk_cell BK175.out 1).trans rfl
                  have hcz41_2 : w38.cell? ⟨gb175, 2, none⟩ = some (.slice A0_2 l0_2.length c0_2) := (blk_cell BK175.out 2).trans rfl
                  have hcz41_3 : w38.cell? ⟨gb175, 3, none⟩ = some (.slice A0_3 l0_3.length c0_3) := (blk_cell BK175.out 3).trans rfl
                  have hcz41_4 : w38.cell? ⟨gb175, 4, none⟩ = some (.slice A0_4 l0_4.length c0_4) := (blk_cell BK175.out 4).trans rfl
                  have hcz41_5 : w38.cell? ⟨gb175, 5, none⟩ = some (.int .i64 a0_5) := (blk_cell BK175.out 5).trans rfl
                  have hfz41_0 := blk_frozen BK175.out 0
                  have hfz41_1 := blk_frozen BK175.out 1
                  have hfz41_2 := blk_frozen BK175.out 2
                  have hfz41_3 := blk_frozen BK175.out 3
                  have hfz41_4 := blk_frozen BK175.out 4
                  have hfz41_5 := blk_frozen BK175.out 5
                  have hgn191 : go25 ≠ gb191 := (by have h_ := Kd.R_ne HO_192000.out BK191.out (by decide); intro e_; exact h_ (by rw [e_]; rfl))
                  have hgm191 : gb191 ≠ go25 := fun e_ => hgn191 e_.symm
                  have hgn175 : go25 ≠ gb175 := (by have h_ := Kd.R_ne HO_192000.out BK175.out (by decide); intro e_; exact h_ (by rw [e_]; rfl))
                  have hgm175 : gb175 ≠ go25 := fun e_ => hgn175 e_.symm
                  try go_wp2_with (first | ((with_reducible refine gate_callee (f := 15) rfl ?_); refine goesL_ (some 66) rfl rfl Tryd.func15 (by kernel_rfl) rfl #[.agg #[.slice (some ⟨go25, 0, none⟩) y199.length co11, .int .i64 t180, .slice Ao14 t181.length co14, .slice Ao15 t184.length co15, .slice Ao16 t187.length co16, .int .i64 t190], .agg #[.slice (some ad196) l0_0.length c0_0, .int .i64 a0_1, .slice A0_2 l0_2.length c0_2, .slice A0_3 l0_3.length c0_3, .slice A0_4 l0_4.length c0_4, .int .i64 a0_5]] rfl (by (try simp only [List.map_toArray, List.map_cons, List.map_nil]); first | done | (rw [show y199.length = t177.length from (Kd.R_reads' HQ39.out).1.symm] <;> rfl) | rfl | (simp only [List.length_drop, List.length_take]; rfl)) ?_; (with_reducible refine (daybooklaw14_like.calls kj4 _ _ y199 t180 _ _ t181 _ _ t184 _ _ t187 t190 _ _ l0_0 a0_1 _ _ l0_2 _ _ l0_3 _ _ l0_4 a0_5 t200 _ ?side1 ?side2 ?side3 ?side4 ?side5 ?side6 ?side7 ?side8 ?side9 ?side10 ?side11 ?side12 ?side13 ?side14 ?side15 ?side16 A29.out (Glob.step G0.out (by repeat (first | (with_reducible first | exact HB.out | apply below_alloc | apply pw_below_drewN | apply below_drew1 | refine below_set ?_ GB25.out) | exact HB.out)))).mono ?_); (case side1 => refine (Kd.R_reads' (e := 37) (base := w.heap.size) (ok := fun k_ => True) (n := t177.length) (c := co11) ?_).2.2; exact (by (with_reducible repeat (first | apply Kd.R_alloc | apply Kd.R_drewN | apply Kd.R_drew)); exact HQ39.out)); (case side2 => rw [show y199.length = t177.length from (Kd.R_reads' HQ39.out).1.symm]; exact (Kd.R_reads' HO_192000.out).2.1); (case side3 => refine (Kd.R_reads' (e := 3) (base := w.heap.size) (ok := fun k_ => True) (n := t181.length) (c := co14) ?_).2.2; exact (by (with_reducible repeat (first | apply Kd.R_alloc | apply Kd.R_drewN | apply Kd.R_drew)); exact (Kd.R_mono (Kd.R_far (p := ⟨go25, (a1 : Int).toNat * 6 + 2, none⟩) (Kd.R_types HO_192002.out (Kd.R_typed HO_192000.out go25 rfl).choose_spec (by decide)) (fun _ hk => hk.2) (.int .i64 ((rd_T37 l0_0 a1).f1))) (fun _ h_ => h_.1)))); (case side4 => exact (Kd.R_reads' HO_192002.out).2.1); (case side5 => refine (Kd.R_reads' (e := 47) (base := w.heap.size) (ok := fun k_ => True) (n := t184.length) (c := co15) ?_).2.2; exact (by (with_reducible repeat (first | apply Kd.R_alloc | apply Kd.R_drewN | apply Kd.R_drew)); exact (Kd.R_mono (Kd.R_far (p := ⟨go25, (a1 : Int).toNat * 6 + 2, none⟩) (Kd.R_types HO_192003.out (Kd.R_typed HO_192000.out go25 rfl).choose_spec (by decide)) (fun _ hk => hk.2) (.int .i64 ((rd_T37 l0_0 a1).f1))) (fun _ h_ => h_.1)))); (case side6 => exact (Kd.R_reads' HO_192003.out).2.1); (case side7 => refine (Kd.R_reads' (e := 69) (base := w.heap.size) (ok := fun k_ => True) (n := t187.length) (c := co16) ?_).2.2; exact (by (with_reducible repeat (first | apply Kd.R_alloc | apply Kd.R_drewN | apply Kd.R_drew)); exact (Kd.R_mono (Kd.R_far (p := ⟨go25, (a1 : Int).toNat * 6 + 2, none⟩) (Kd.R_types HO_192004.out (Kd.R_typed HO_192000.out go25 rfl).choose_spec (by decide)) (fun _ hk => hk.2) (.int .i64 ((rd_T37 l0_0 a1).f1))) (fun _ h_ => h_.1)))); (case side8 => exact (Kd.R_reads' HO_192004.out).2.1); (case side9 => exact Kd.C_below HR0_0.out (by repeat (first | (with_reducible first | exact HB.out | apply below_alloc | apply pw_below_drewN | apply below_drew1 | refine below_set ?_ GB25.out | refine below_set ?_ GE175.out | refine below_set ?_ GE191.out) | exact HB.out))); (case side10 => exact HC0_0.out); (case side11 => exact Kd.C_below HR0_2.out (by repeat (first | (with_reducible first | exact HB.out | apply below_alloc | apply pw_below_drewN | apply below_drew1 | refine below_set ?_ GB25.out | refine below_set ?_ GE175.out | refine below_set ?_ GE191.out) | exact HB.out))); (case side12 => exact HC0_2.out); (case side13 => exact Kd.C_below HR0_3.out (by repeat (first | (with_reducible first | exact HB.out | apply below_alloc | apply pw_below_drewN | apply below_drew1 | refine below_set ?_ GB25.out | refine below_set ?_ GE175.out | refine below_set ?_ GE191.out) | exact HB.out))); (case side14 => exact HC0_3.out); (case side15 => exact Kd.C_below HR0_4.out (by repeat (first | (with_reducible first | exact HB.out | apply below_alloc | apply pw_below_drewN | apply below_drew1 | refine below_set ?_ GB25.out | refine below_set ?_ GE175.out | refine below_set ?_ GE191.out) | exact HB.out))); (case side16 => exact HC0_4.out); rintro e w42 ⟨rfl, hb⟩; refine ⟨_, rfl, ?_⟩; have n0_ := Aside0.mk (Kd.R_below (by (with_reducible repeat (first | apply Kd.R_alloc | apply Kd.R_drewN | apply Kd.R_drew)); exact HQ39.out) hb); have n1_ := Aside0.mk (Kd.R_below (by (with_reducible repeat (first | apply Kd.R_alloc | apply Kd.R_drewN | apply Kd.R_drew)); exact (Kd.R_mono (Kd.R_far (p := ⟨go25, (a1 : Int).toNat * 6 + 2, none⟩) (Kd.R_types HO_192002.out (Kd.R_typed HO_192000.out go25 rfl).choose_spec (by decide)) (fun _ hk => hk.2) (.int .i64 ((rd_T37 l0_0 a1).f1))) (fun _ h_ => h_.1))) hb); have n2_ := Aside0.mk (Kd.R_below (by (with_reducible repeat (first | apply Kd.R_alloc | apply Kd.R_drewN | apply Kd.R_drew)); exact (Kd.R_mono (Kd.R_far (p := ⟨go25, (a1 : Int).toNat * 6 + 2, none⟩) (Kd.R_types HO_192003.out (Kd.R_typed HO_192000.out go25 rfl).choose_spec (by decide)) (fun _ hk => hk.2) (.int .i64 ((rd_T37 l0_0 a1).f1))) (fun _ h_ => h_.1))) hb); have n3_ := Aside0.mk (Kd.R_below (by (with_reducible repeat (first | apply Kd.R_alloc | apply Kd.R_drewN | apply Kd.R_drew)); exact (Kd.R_mono (Kd.R_far (p := ⟨go25, (a1 : Int).toNat * 6 + 2, none⟩) (Kd.R_types HO_192004.out (Kd.R_typed HO_192000.out go25 rfl).choose_spec (by decide)) (fun _ hk => hk.2) (.int .i64 ((rd_T37 l0_0 a1).f1))) (fun _ h_ => h_.1))) hb); have n4_ := Aside0.mk (blk_below (g := gb175) (o := .cells #[.slice (some ad196) l0_0.length c0_0, .int .i64 a0_1, .slice A0_2 l0_2.length c0_2, .slice A0_3 l0_3.length c0_3, .slice A0_4 l0_4.length c0_4, .int .i64 a0_5] 32 (0, 0)) (by (with_reducible repeat (first | refine blk_drewN ?_ _ | refine blk_drew ?_ | refine blk_alloc ?_ _)); refine blk_far ?_ (by have h_ := Kd.R_ne HO_192000.out BK175.out (by decide); intro e_; exact h_ (by rw [e_]; rfl)) _; (with_reducible repeat (first | refine blk_drewN ?_ _ | refine blk_drew ?_ | refine blk_alloc ?_ _)); exact BK175.out) hb); have n5_ := Aside0.mk (blk_below (g := gb191) (o := .cells #[.slice (some ⟨go25, 0, none⟩) t177.length co11, .int .i64 t180, .slice Ao14 t181.length co14, .slice Ao15 t184.length co15, .slice Ao16 t187.length co16, .int .i64 t190] 32 (0, 0)) (by (with_reducible repeat (first | refine blk_drewN ?_ _ | refine blk_drew ?_ | refine blk_alloc ?_ _)); refine blk_far ?_ (by have h_ := Kd.R_ne HO_192000.out BK191.out (by decide); intro e_; exact h_ (by rw [e_]; rfl)) _; (with_reducible repeat (first | refine blk_drewN ?_ _ | refine blk_drew ?_ | refine blk_alloc ?_ _)); exact BK191.out) hb); have n6_ := Aside0.mk (below_step (by repeat (first | (with_reducible first | exact HB.out | apply below_alloc | apply pw_below_drewN | apply below_drew1 | refine below_set ?_ GB25.out | refine below_set ?_ GE175.out | refine below_set ?_ GE191.out) | exact HB.out)) hb); clear HO_192000; clear HO_192002; clear HO_192003; clear HO_192004; clear BK175; clear BK191; clear HB; have HO_192000 := n0_; have HO_192002 := n1_; have HO_192003 := n2_; have HO_192004 := n3_; have BK175 := n4_; have BK191 := n5_; have HB := n6_; clear n0_ n1_ n2_ n3_ n4_ n5_ n6_; (try clear hb); (try clear hb2); (try clear hk); (try clear hi)))
                  go_ret
                  exact ⟨by first | rfl | (simp [errW_none, errW_some] <;> rfl) | (simp [*, errW_none, errW_some] <;> rfl), by repeat (first | (with_reducible first | exact HB.out | apply below_alloc | apply pw_below_drewN | apply below_drew1 | refine below_set ?_ GE175.out | refine below_set ?_ GE191.out) | exact HB.out)⟩
                · replace c30 := Bool.eq_false_iff.mpr c30
                  subst c30
                  have H1 : (some false) = some r := by rw [if_neg (show ¬ (false = true) by decide)] at H; exact H
                  clear H
                  have H := H1
                  clear H1
                  obtain rfl := Option.some.inj H
                  have hnb43 := NB191_175.out
                  have hnc43 := NB175_191.out
                  have hcz44_0 : wc.cell? ⟨gb191, 0, none⟩ = some (.slice Ao11 t177.length co11) := (blk_cell BK191.out 0).trans rfl
                  have hcz44_1 : wc.cell? ⟨gb191, 1, none⟩ = some (.int .i64 t180) := (blk_cell BK191.out 1).trans rfl
                  have hcz44_2 : wc.cell? ⟨gb191, 2, none⟩ = some (.slice Ao14 t181.length co14) := (blk_cell BK191.out 2).trans rfl
                  have hcz44_3 : wc.cell? ⟨gb191, 3, none⟩ = some (.slice Ao15 t184.length co15) := (blk_cell BK191.out 3).trans rfl
                  have hcz44_4 : wc.cell? ⟨gb191, 4, none⟩ = some (.slice Ao16 t187.length co16) := (blk_cell BK191.out 4).trans rfl
                  have hcz44_5 : wc.cell? ⟨gb191, 5, none⟩ = some (.int .i64 t190) := (blk_cell BK191.out 5).trans rfl
                  have hfz44_0 := blk_frozen BK191.out 0
                  have hfz44_1 := blk_frozen BK191.out 1
                  have hfz44_2 := blk_frozen BK191.out 2
                  have hfz44_3 := blk_frozen BK191.out 3
                  have hfz44_4 := blk_frozen BK191.out 4
                  have hfz44_5 := blk_frozen BK191.out 5
                  have p192 : 0 ≤ (a1 : Int) := of_decide_eq_true (by first | (with_reducible assumption) | assumption)
                  have q192 : a1 < (t177.length : Int) := of_decide_eq_true (by first | (with_reducible assumption) | assumption)
                  obtain ⟨ad192, e192, hx192_0, hx192_1, hx192_2, hx192_3, hx192_4, hx192_5⟩ := at_T37 (Kd.R_reads' HO_192000.out).2.2 a1 p192 q192
                  cases e192
                  replace p192 := eq_true p192
                  replace q192 := eq_true q192
                  try go_wp2_with (first | ((with_reducible refine gate_callee (f := 16) rfl ?_); refine goesL_ (some 30) rfl rfl Tryd.func16 (by kernel_rfl) rfl #[.int .i64 ((rd_T37 t177 a1).f0)] rfl (by (try simp only [List.map_toArray, List.map_cons, List.map_nil]); first | done | rfl | (simp only [List.length_drop, List.length_take]; rfl)) ?_; (with_reducible refine (daybooklaw14_turned.calls kj4 ((rd_T37 t177 a1).f0) t193 true _ A23.out).mono ?_); rintro e w' ⟨rfl, ⟨nd, rfl⟩⟩; refine ⟨_, rfl, ?_⟩; (try (rw [drewN_self wc]; generalize hq_ : World.drewN wc _ = wc; have n0_ : Aside0 (Kd.R k37 37 wc w.heap.size (fun _ => True) (.slice (some ad192) t177.length co11) t177) := ⟨by rw [← hq_]; exact (by (with_reducible repeat (first | apply Kd.R_alloc | apply Kd.R_drewN | apply Kd.R_drew)); exact HO_192000.out)⟩; have n1_ : Aside0 (Kd.R (Kd.int .i64) 3 wc w.heap.size (fun _ => True) (.slice Ao14 t181.length co14) t181) := ⟨by rw [← hq_]; exact (by (with_reducible repeat (first | apply Kd.R_alloc | apply Kd.R_drewN | apply Kd.R_drew)); exact HO_192002.out)⟩; have n2_ : Aside0 (Kd.R k47 47 wc w.heap.size (fun _ => True) (.slice Ao15 t184.length co15) t184) := ⟨by rw [← hq_]; exact (by (with_reducible repeat (first | apply Kd.R_alloc | apply Kd.R_drewN | apply Kd.R_drew)); exact HO_192003.out)⟩; have n3_ : Aside0 (Kd.R k69 69 wc w.heap.size (fun _ => True) (.slice Ao16 t187.length co16) t187) := ⟨by rw [← hq_]; exact (by (with_reducible repeat (first | apply Kd.R_alloc | apply Kd.R_drewN | apply Kd.R_drew)); exact HO_192004.out)⟩; have n4_ : Aside0 (wc.heap[gb175]? = some (.cells #[.slice A0_0 l0_0.length c0_0, .int .i64 a0_1, .slice A0_2 l0_2.length c0_2, .slice A0_3 l0_3.length c0_3, .slice A0_4 l0_4.length c0_4, .int .i64 a0_5] 32 (0, 0))) := ⟨by rw [← hq_]; exact (by (with_reducible repeat (first | refine blk_drewN ?_ _ | refine blk_drew ?_ | refine blk_alloc ?_ _)); exact BK175.out)⟩; have n5_ : Aside0 (wc.heap[gb191]? = some (.cells #[.slice (some ad192) t177.length co11, .int .i64 t180, .slice Ao14 t181.length co14, .slice Ao15 t184.length co15, .slice Ao16 t187.length co16, .int .i64 t190] 32 (0, 0))) := ⟨by rw [← hq_]; exact (by (with_reducible repeat (first | refine blk_drewN ?_ _ | refine blk_drew ?_ | refine blk_alloc ?_ _)); exact BK191.out)⟩; have n6_ : Aside0 (Below w.heap.size w wc) := ⟨by rw [← hq_]; exact (by repeat (first | (with_reducible first | exact HB.out | apply below_alloc | apply pw_below_drewN | apply below_drew1 | refine below_set ?_ GE175.out | refine below_set ?_ GE191.out) | exact HB.out))⟩; clear HO_192000 HO_192002 HO_192003 HO_192004 BK175 BK191 HB hq_; have HO_192000 := n0_; have HO_192002 := n1_; have HO_192003 := n2_; have HO_192004 := n3_; have BK175 := n4_; have BK191 := n5_; have HB := n6_; clear n0_ n1_ n2_ n3_ n4_ n5_ n6_; have hcy_0 : wc.cell? ⟨gb191, 0, none⟩ = some (.slice (some ad192) t177.length co11) := (blk_cell BK191.out 0).trans rfl; have hfy_0 := blk_frozen BK191.out 0; have hcy_1 : wc.cell? ⟨gb191, 1, none⟩ = some (.int .i64 t180) := (blk_cell BK191.out 1).trans rfl; have hfy_1 := blk_frozen BK191.out 1; have hcy_2 : wc.cell? ⟨gb191, 2, none⟩ = some (.slice Ao14 t181.length co14) := (blk_cell BK191.out 2).trans rfl; have hfy_2 := blk_frozen BK191.out 2; have hcy_3 : wc.cell? ⟨gb191, 3, none⟩ = some (.slice Ao15 t184.length co15) := (blk_cell BK191.out 3).trans rfl; have hfy_3 := blk_frozen BK191.out 3; have hcy_4 : wc.cell? ⟨gb191, 4, none⟩ = some (.slice Ao16 t187.length co16) := (blk_cell BK191.out 4).trans rfl; have hfy_4 := blk_frozen BK191.out 4; have hcy_5 : wc.cell? ⟨gb191, 5, none⟩ = some (.int .i64 t190) := (blk_cell BK191.out 5).trans rfl; have hfy_5 := blk_frozen BK191.out 5)); have p25 : 0 ≤ (a1 : Int) := of_decide_eq_true (by first | (with_reducible assumption) | assumption); have q25 : (a1 : Int) < ((t177.length : Int) : Int) := of_decide_eq_true (by first | (with_reducible assumption) | assumption); obtain ⟨go25, co25, eo25, gb25, gl25, cl25, HG25⟩ := Kd.R_form HO_192000.out (by omega); (first | cases eo25 | (injection eo25 with ea_ en_ ec_; (first | subst ea_ | (injection ea_ with ea_; subst ea_)); subst ec_; clear en_)); have GB25 := Aside0.mk gb25; have GG25 := Aside0.mk HG25; clear gb25 gl25 HG25; (first | simp only [add_plain] at hx192_0 | skip); (first | simp only [add_plain] at hx192_1 | skip); (first | simp only [add_plain] at hx192_2 | skip); (first | simp only [add_plain] at hx192_3 | skip); (first | simp only [add_plain] at hx192_4 | skip); (first | simp only [add_plain] at hx192_5 | skip); obtain ⟨ce25, hcl25, hM25, hcc25, hfr25⟩ := Kd.R_elem HO_192000.out z37 (a1 : Int) p25 q25; obtain rfl := k37_openM hM25; have hx25_0 : wc.cell? ⟨go25, (a1 : Int).toNat * 6, none⟩ = some (.int .i64 ((rd_T37 t177 a1).f0)) := hcc25 0 _ rfl; have hx25_1 : wc.cell? ⟨go25, (a1 : Int).toNat * 6 + 1, none⟩ = some (.int .i64 ((rd_T37 t177 a1).f1)) := hcc25 1 _ rfl; have hx25_2 : wc.cell? ⟨go25, (a1 : Int).toNat * 6 + 2, none⟩ = some (.int .i64 ((rd_T37 t177 a1).f2)) := hcc25 2 _ rfl; have hx25_3 : wc.cell? ⟨go25, (a1 : Int).toNat * 6 + 3, none⟩ = some (.int .i64 ((rd_T37 t177 a1).f3)) := hcc25 3 _ rfl; have hx25_4 : wc.cell? ⟨go25, (a1 : Int).toNat * 6 + 4, none⟩ = some (.int .i64 ((rd_T37 t177 a1).f4)) := hcc25 4 _ rfl; have hx25_5 : wc.cell? ⟨go25, (a1 : Int).toNat * 6 + 5, none⟩ = some (.string ((rd_T37 t177 a1).f5)) := hcc25 5 _ rfl; have hf25_0 : wc.frozen? ⟨go25, (a1 : Int).toNat * 6, none⟩ = false := hfr25 0; have hf25_1 : wc.frozen? ⟨go25, (a1 : Int).toNat * 6 + 1, none⟩ = false := hfr25 1; have hf25_2 : wc.frozen? ⟨go25, (a1 : Int).toNat * 6 + 2, none⟩ = false := hfr25 2; have hf25_3 : wc.frozen? ⟨go25, (a1 : Int).toNat * 6 + 3, none⟩ = false := hfr25 3; have hf25_4 : wc.frozen? ⟨go25, (a1 : Int).toNat * 6 + 4, none⟩ = false := hfr25 4; have hf25_5 : wc.frozen? ⟨go25, (a1 : Int).toNat * 6 + 5, none⟩ = false := hfr25 5; clear hcl25 hcc25 hfr25 hM25; replace p25 := eq_true p25; replace q25 := eq_true q25; have HX45 := Aside0.mk (show Kd.R k37 37 wc w.heap.size (fun _ => True) (.slice (some ⟨go25, 0, none⟩) t177.length co11) t177 from (by (with_reducible repeat (first | apply Kd.R_alloc | apply Kd.R_drewN | apply Kd.R_drew)); exact HO_192000.out)); obtain ⟨ce45, hcl45, hM45, hcc45, hfr45⟩ := Kd.R_elem HX45.out z37 (a1 : Int) (of_decide_eq_true (by first | (with_reducible assumption) | assumption)) (by have h_ : (a1 : Int) < ((t177.length : Int) : Int) := of_decide_eq_true (by first | (with_reducible assumption) | assumption); first | exact h_ | (have e_ := (Kd.R_reads' HO_192000.out).1; omega) | simpa using h_); obtain rfl := k37_openM hM45; have HP45 := Kd.R_seg HX45.out (a1 : Int) (of_decide_eq_true (by first | (with_reducible assumption) | assumption)) (by have h_ : (a1 : Int) < ((t177.length : Int) : Int) := of_decide_eq_true (by first | (with_reducible assumption) | assumption); first | exact h_ | (have e_ := (Kd.R_reads' HO_192000.out).1; omega) | simpa using h_) (seg := [.int .i64 t193]) (j := 0) hcl45 hcc45 (show 1 ≤ 6 from by decide) (x' := (⟨t193, (rd_T37 t177 a1).f1, (rd_T37 t177 a1).f2, (rd_T37 t177 a1).f3, (rd_T37 t177 a1).f4, (rd_T37 t177 a1).f5⟩ : S37)) (k37_mkM _ _ _ (⟨t193, (rd_T37 t177 a1).f1, (rd_T37 t177 a1).f2, (rd_T37 t177 a1).f3, (rd_T37 t177 a1).f4, (rd_T37 t177 a1).f5⟩ : S37) ) (fun _ hk => hk); have hx45_0 := hcc45 0 _ rfl; (try simp only [show (k37).sz = 6 from rfl, Nat.mul_one, Nat.add_zero] at hx45_0); have hf45_0 := hfr45 0; (try simp only [show (k37).sz = 6 from rfl, Nat.mul_one, Nat.add_zero] at hf45_0); clear hcl45 hcc45 hfr45 hM45) | ((with_reducible refine gate_store (t := 3) (p := 41) rfl ?_); refine store_event (t := 3) (p := 41) (v := ?vo_w46) (w1 := (wc.setCell ⟨go25, (a1 : Int).toNat * 6, none⟩ (.int .i64 t193))) ?hg ?ho ?hn ?hr ?_; (case ho => rfl); (case hg => rfl); (case hn => rfl); (case hr => first | (go_simp; done) | (go_simp; rfl)); intro w46 hw; have hg : wc.grownBy w46 (some go25) := (by rw [hw]; exact HP45.2); have hp_ : Kd.R k37 37 w46 w.heap.size (fun _ => True) (.slice (some ⟨go25, 0, none⟩) t177.length co11) y195 := (by rw [hw, Ny195.out]; exact HP45.1); clear HP45; have n0_ := Aside0.mk (hp_); have n1_ := Aside0.mk (Kd.R_over' (v := (.slice (some ⟨go25, 0, none⟩) t177.length co11)) (by (with_reducible repeat (first | apply Kd.R_alloc | apply Kd.R_drewN | apply Kd.R_drew)); exact HO_192002.out) (Kd.R_typed HO_192000.out) (by decide) hg); have n2_ := Aside0.mk (Kd.R_over' (v := (.slice (some ⟨go25, 0, none⟩) t177.length co11)) (by (with_reducible repeat (first | apply Kd.R_alloc | apply Kd.R_drewN | apply Kd.R_drew)); exact HO_192003.out) (Kd.R_typed HO_192000.out) (by decide) hg); have n3_ := Aside0.mk (Kd.R_over' (v := (.slice (some ⟨go25, 0, none⟩) t177.length co11)) (by (with_reducible repeat (first | apply Kd.R_alloc | apply Kd.R_drewN | apply Kd.R_drew)); exact HO_192004.out) (Kd.R_typed HO_192000.out) (by decide) hg); have n4_ := Aside0.mk (blk_grown (g := gb175) (o := .cells #[.slice A0_0 l0_0.length c0_0, .int .i64 a0_1, .slice A0_2 l0_2.length c0_2, .slice A0_3 l0_3.length c0_3, .slice A0_4 l0_4.length c0_4, .int .i64 a0_5] 32 (0, 0)) (by (with_reducible repeat (first | refine blk_drewN ?_ _ | refine blk_drew ?_ | refine blk_alloc ?_ _)); exact BK175.out) hg (Kd.R_ne HO_192000.out BK175.out (by decide))); have n5_ := Aside0.mk (blk_grown (g := gb191) (o := .cells #[.slice (some ⟨go25, 0, none⟩) t177.length co11, .int .i64 t180, .slice Ao14 t181.length co14, .slice Ao15 t184.length co15, .slice Ao16 t187.length co16, .int .i64 t190] 32 (0, 0)) (by (with_reducible repeat (first | refine blk_drewN ?_ _ | refine blk_drew ?_ | refine blk_alloc ?_ _)); exact BK191.out) hg (Kd.R_ne HO_192000.out BK191.out (by decide))); have n6_ := Aside0.mk ((by rw [hw]; exact below_set (HB.out) GB25.out : Below w.heap.size w w46)); clear HO_192000; clear HO_192002; clear HO_192003; clear HO_192004; clear BK175; clear BK191; clear HB; have HO_192000 := n0_; have HO_192002 := n1_; have HO_192003 := n2_; have HO_192004 := n3_; have BK175 := n4_; have BK191 := n5_; have HB := n6_; clear n0_ n1_ n2_ n3_ n4_ n5_ n6_; clear hg hw hp_))
                  have n0_ := Aside0.mk (Kd.R_drew HO_192000.out)
                  have n1_ := Aside0.mk (Kd.R_drew HO_192002.out)
                  have n2_ := Aside0.mk (Kd.R_drew HO_192003.out)
                  have n3_ := Aside0.mk (Kd.R_drew HO_192004.out)
                  have n4_ := Aside0.mk (blk_drew BK175.out)
                  have n5_ := Aside0.mk (blk_drew BK191.out)
                  have n6_ := Aside0.mk (below_drew1 HB.out)
                  clear HO_192000
                  clear HO_192002
                  clear HO_192003
                  clear HO_192004
                  clear BK175
                  clear BK191
                  clear HB
                  have HO_192000 := n0_
                  have HO_192002 := n1_
                  have HO_192003 := n2_
                  have HO_192004 := n3_
                  have BK175 := n4_
                  have BK191 := n5_
                  have HB := n6_
                  clear n0_ n1_ n2_ n3_ n4_ n5_ n6_
                  have p196 : 0 ≤ (a1 : Int) := of_decide_eq_true (by first | (with_reducible assumption) | assumption)
                  have q196 : a1 < (l0_0.length : Int) := of_decide_eq_true (by first | (with_reducible assumption) | assumption)
                  obtain ⟨ad196, e196, hx196_0, hx196_1, hx196_2, hx196_3, hx196_4, hx196_5⟩ := at_T37 HR0_0.out a1 p196 q196
                  have hw196_5 := hx196_5
                  have hw196_4 := hx196_4
                  have hw196_3 := hx196_3
                  have hw196_2 := hx196_2
                  have hw196_1 := hx196_1
                  have hw196_0 := hx196_0
                  cases e196
                  replace hx196_0 := (HB.out.cell (World.block_lt_of_cell? w _ hx196_0)).trans hx196_0
                  replace hx196_1 := (HB.out.cell (World.block_lt_of_cell? w _ hx196_1)).trans hx196_1
                  replace hx196_2 := (HB.out.cell (World.block_lt_of_cell? w _ hx196_2)).trans hx196_2
                  replace hx196_3 := (HB.out.cell (World.block_lt_of_cell? w _ hx196_3)).trans hx196_3
                  replace hx196_4 := (HB.out.cell (World.block_lt_of_cell? w _ hx196_4)).trans hx196_4
                  replace hx196_5 := (HB.out.cell (World.block_lt_of_cell? w _ hx196_5)).trans hx196_5
                  replace p196 := eq_true p196
                  replace q196 := eq_true q196
                  have p27 : 0 ≤ (a1 : Int) := of_decide_eq_true (by first | (with_reducible assumption) | assumption)
                  have q27 : (a1 : Int) < ((t177.length : Int) : Int) := of_decide_eq_true (by first | (with_reducible assumption) | assumption)
                  obtain ⟨ce27, hcl27, hM27, hcc27, hfr27⟩ := Kd.R_elem HO_192000.out z37 (a1 : Int) p27 q27
                  obtain rfl := k37_openM hM27
                  have hx27_0 : World.cell? _ ⟨go25, (a1 : Int).toNat * 6, none⟩ = some (.int .i64 ((rd_T37 y195 a1).f0)) := hcc27 0 _ rfl
                  have hx27_1 : World.cell? _ ⟨go25, (a1 : Int).toNat * 6 + 1, none⟩ = some (.int .i64 ((rd_T37 y195 a1).f1)) := hcc27 1 _ rfl
                  have hx27_2 : World.cell? _ ⟨go25, (a1 : Int).toNat * 6 + 2, none⟩ = some (.int .i64 ((rd_T37 y195 a1).f2)) := hcc27 2 _ rfl
                  have hx27_3 : World.cell? _ ⟨go25, (a1 : Int).toNat * 6 + 3, none⟩ = some (.int .i64 ((rd_T37 y195 a1).f3)) := hcc27 3 _ rfl
                  have hx27_4 : World.cell? _ ⟨go25, (a1 : Int).toNat * 6 + 4, none⟩ = some (.int .i64 ((rd_T37 y195 a1).f4)) := hcc27 4 _ rfl
                  have hx27_5 : World.cell? _ ⟨go25, (a1 : Int).toNat * 6 + 5, none⟩ = some (.string ((rd_T37 y195 a1).f5)) := hcc27 5 _ rfl
                  have hf27_0 : World.frozen? _ ⟨go25, (a1 : Int).toNat * 6, none⟩ = false := hfr27 0
                  have hf27_1 : World.frozen? _ ⟨go25, (a1 : Int).toNat * 6 + 1, none⟩ = false := hfr27 1
                  have hf27_2 : World.frozen? _ ⟨go25, (a1 : Int).toNat * 6 + 2, none⟩ = false := hfr27 2
                  have hf27_3 : World.frozen? _ ⟨go25, (a1 : Int).toNat * 6 + 3, none⟩ = false := hfr27 3
                  have hf27_4 : World.frozen? _ ⟨go25, (a1 : Int).toNat * 6 + 4, none⟩ = false := hfr27 4
                  have hf27_5 : World.frozen? _ ⟨go25, (a1 : Int).toNat * 6 + 5, none⟩ = false := hfr27 5
                  clear hcl27 hcc27 hfr27 hM27
                  replace p27 := eq_true p27
                  replace q27 := eq_true q27
                  obtain ⟨ce48, hcl48, hM48, hcc48, hfr48⟩ := Kd.R_elem HO_192000.out z37 (a1 : Int) (of_decide_eq_true (by first | (with_reducible assumption) | assumption)) (by have h_ : (a1 : Int) < ((t177.length : Int) : Int) := of_decide_eq_true (by first | (with_reducible assumption) | assumption); first | exact h_ | (have e_ := (Kd.R_reads' HO_192000.out).1; omega) | simpa using h_)
                  obtain rfl := k37_openM hM48
                  have HP48 := (Kd.R_seg HO_192000.out (a1 : Int) (of_decide_eq_true (by first | (with_reducible assumption) | assumption)) (by have h_ : (a1 : Int) < ((t177.length : Int) : Int) := of_decide_eq_true (by first | (with_reducible assumption) | assumption); first | exact h_ | (have e_ := (Kd.R_reads' HO_192000.out).1; omega) | simpa using h_) (seg := [.int .i64 ((rd_T37 l0_0 a1).f2)]) (j := 1) hcl48 hcc48 (show 2 ≤ 6 from by decide) (x' := (⟨(rd_T37 y195 a1).f0, (rd_T37 l0_0 a1).f2, (rd_T37 y195 a1).f2, (rd_T37 y195 a1).f3, (rd_T37 y195 a1).f4, (rd_T37 y195 a1).f5⟩ : S37)) (k37_mkM _ _ _ (⟨(rd_T37 y195 a1).f0, (rd_T37 l0_0 a1).f2, (rd_T37 y195 a1).f2, (rd_T37 y195 a1).f3, (rd_T37 y195 a1).f4, (rd_T37 y195 a1).f5⟩ : S37) ) (fun _ hk => hk)).1
                  rw [← Ny197.out] at HP48
                  have HQ48 := Aside0.mk HP48
                  clear hcl48 hcc48 hfr48 hM48 HP48
                  refine start_ (n := 12) (S := fun w' => w'.cell? ⟨gb191, 0, none⟩ = some (.slice (some ⟨go25, 0, none⟩) t177.length co11) ∧ w'.cell? ⟨gb191, 1, none⟩ = some (.int .i64 t180) ∧ w'.cell? ⟨gb191, 2, none⟩ = some (.slice Ao14 t181.length co14) ∧ w'.cell? ⟨gb191, 3, none⟩ = some (.slice Ao15 t184.length co15) ∧ w'.cell? ⟨gb191, 4, none⟩ = some (.slice Ao16 t187.length co16) ∧ w'.cell? ⟨gb191, 5, none⟩ = some (.int .i64 t190) ∧ w'.cell? ⟨gb175, 0, none⟩ = some (.slice (some ad196) l0_0.length c0_0) ∧ w'.cell? ⟨gb175, 1, none⟩ = some (.int .i64 a0_1) ∧ w'.cell? ⟨gb175, 2, none⟩ = some (.slice A0_2 l0_2.length c0_2) ∧ w'.cell? ⟨gb175, 3, none⟩ = some (.slice A0_3 l0_3.length c0_3) ∧ w'.cell? ⟨gb175, 4, none⟩ = some (.slice A0_4 l0_4.length c0_4) ∧ w'.cell? ⟨gb175, 5, none⟩ = some (.int .i64 a0_5) ∧ w'.cell? (ad196.add ((a1).toNat * 6)) = some (.int .i64 ((rd_T37 l0_0 a1).f0)) ∧ w'.cell? ⟨(ad196.add ((a1).toNat * 6)).block, (ad196.add ((a1).toNat * 6)).off + 1, none⟩ = some (.int .i64 ((rd_T37 l0_0 a1).f1)) ∧ w'.cell? ⟨(ad196.add ((a1).toNat * 6)).block, (ad196.add ((a1).toNat * 6)).off + 2, none⟩ = some (.int .i64 ((rd_T37 l0_0 a1).f2)) ∧ w'.cell? ⟨(ad196.add ((a1).toNat * 6)).block, (ad196.add ((a1).toNat * 6)).off + 3, none⟩ = some (.int .i64 ((rd_T37 l0_0 a1).f3)) ∧ w'.cell? ⟨(ad196.add ((a1).toNat * 6)).block, (ad196.add ((a1).toNat * 6)).off + 4, none⟩ = some (.int .i64 ((rd_T37 l0_0 a1).f4)) ∧ w'.cell? ⟨(ad196.add ((a1).toNat * 6)).block, (ad196.add ((a1).toNat * 6)).off + 5, none⟩ = some (.string ((rd_T37 l0_0 a1).f5))) (ds := [11]) #[false, false, false, false, false, false, false, false, false, false, false, false] (by kernel_rfl) rfl rfl ⟨(blk_cell BK191.out 0).trans rfl, (blk_cell BK191.out 1).trans rfl, (blk_cell BK191.out 2).trans rfl, (blk_cell BK191.out 3).trans rfl, (blk_cell BK191.out 4).trans rfl, (blk_cell BK191.out 5).trans rfl, (blk_cell BK175.out 0).trans rfl, (blk_cell BK175.out 1).trans rfl, (blk_cell BK175.out 2).trans rfl, (blk_cell BK175.out 3).trans rfl, (blk_cell BK175.out 4).trans rfl, (blk_cell BK175.out 5).trans rfl, ((HB.out.cell (World.block_lt_of_cell? w _ hw196_0)).trans hw196_0), ((HB.out.cell (World.block_lt_of_cell? w _ hw196_1)).trans hw196_1), ((HB.out.cell (World.block_lt_of_cell? w _ hw196_2)).trans hw196_2), ((HB.out.cell (World.block_lt_of_cell? w _ hw196_3)).trans hw196_3), ((HB.out.cell (World.block_lt_of_cell? w _ hw196_4)).trans hw196_4), ((HB.out.cell (World.block_lt_of_cell? w _ hw196_5)).trans hw196_5)⟩ (fun hHeld => ?_); refine with_tabW daybooklaw14_TypingTurned.tab9 daybooklaw14_TypingTurned.bits9 (fun HT_ HW_ => ?_)
                  generalize w46.drew = w47 at HO_192000 HO_192002 HO_192003 HO_192004 BK175 BK191 HB HQ48 hf27_0 hf27_1 hf27_2 hf27_3 hf27_4 hf27_5 hx196_0 hx196_1 hx196_2 hx196_3 hx196_4 hx196_5 hx27_0 hx27_1 hx27_2 hx27_3 hx27_4 hx27_5 hHeld ⊢
                  refine pure_ (i := 0) (N := some 42) (v := ?_) (a' := ?_) #[true, false, false, false, false, false, false, false, false, false, false, false] rfl rfl (any_of HT_.out (by kernel_rfl)) (fun _ _ _ h => h) (Or.inl ⟨by rfl, ?_⟩) ?_ ?_
                  rotate_left
                  · intro w'
                    go_simp
                    with_reducible rfl
                  rotate_left
                  · simp only [Act.put, List.setIfInBounds_toArray, List.set_cons_zero, List.set_cons_succ, i64_w, i32_w]
                    rfl
                  refine pure_ (i := 2) (N := some 44) (v := ?_) (a' := ?_) #[true, false, true, false, false, false, false, false, false, false, false, false] rfl rfl (any_of HT_.out (by kernel_rfl)) (fun _ _ _ h => h) (Or.inl ⟨by rfl, ?_⟩) ?_ ?_
                  rotate_left
                  · intro w'
                    go_simp
                    with_reducible rfl
                  rotate_left
                  · simp only [Act.put, List.setIfInBounds_toArray, List.set_cons_zero, List.set_cons_succ, i64_w, i32_w]
                    rfl
                  refine pure_ (i := 3) (N := some 45) (v := ?_) (a' := ?_) #[true, false, true, true, false, false, false, false, false, false, false, false] rfl rfl (any_of HT_.out (by kernel_rfl)) (fun _ _ _ h => h) (Or.inl ⟨by rfl, ?_⟩) ?_ ?_
                  rotate_left
                  · intro w'
                    go_simp
                    with_reducible rfl
                  rotate_left
                  · simp only [Act.put, List.setIfInBounds_toArray, List.set_cons_zero, List.set_cons_succ, i64_w, i32_w]
                    rfl
                  refine pure_ (i := 5) (N := some 47) (v := ?_) (a' := ?_) #[true, false, true, true, false, true, false, false, false, false, false, false] rfl rfl (any_of HT_.out (by kernel_rfl)) (fun _ _ _ h => h) (Or.inl ⟨by rfl, ?_⟩) ?_ ?_
                  rotate_left
                  · intro w'
                    go_simp
                    with_reducible rfl
                  rotate_left
                  · simp only [Act.put, List.setIfInBounds_toArray, List.set_cons_zero, List.set_cons_succ, i64_w, i32_w]
                    rfl
                  refine take_ (i := 1) (N := some 43) (v := ?_) (a' := ?_) #[true, true, true, true, false, true, false, false, false, false, false, false] rfl rfl (take_ofW HT_.out HW_.out (by kernel_rfl)) (fun _ _ _ h => h) (Or.inl ⟨by rfl, ?_⟩) hHeld ?_ ?_
                  rotate_left
                  · rintro w' ⟨s0, s1, s2, s3, s4, s5, s6, s7, s8, s9, s10, s11, s12, s13, s14, s15, s16, s17⟩
                    go_simp
                    with_reducible rfl
                  rotate_left
                  · simp only [Act.put, List.setIfInBounds_toArray, List.set_cons_zero, List.set_cons_succ, i64_w, i32_w]
                    rfl
                  refine take_ (i := 4) (N := some 46) (v := ?_) (a' := ?_) #[true, true, true, true, true, true, false, false, false, false, false, false] rfl rfl (take_ofW HT_.out HW_.out (by kernel_rfl)) (fun _ _ _ h => h) (Or.inl ⟨by rfl, ?_⟩) hHeld ?_ ?_
                  rotate_left
                  · rintro w' ⟨s0, s1, s2, s3, s4, s5, s6, s7, s8, s9, s10, s11, s12, s13, s14, s15, s16, s17⟩
                    go_simp
                    with_reducible rfl
                  rotate_left
                  · simp only [Act.put, List.setIfInBounds_toArray, List.set_cons_zero, List.set_cons_succ, i64_w, i32_w]
                    rfl
                  refine pure_ (i := 6) (N := some 48) (v := ?_) (a' := ?_) #[true, true, true, true, true, true, true, false, false, false, false, false] rfl rfl (any_of HT_.out (by kernel_rfl)) (fun _ _ _ h => h) (Or.inl ⟨by rfl, ?_⟩) ?_ ?_
                  rotate_left
                  · intro w'
                    go_simp
                    with_reducible rfl
                  rotate_left
                  · simp only [Act.put, List.setIfInBounds_toArray, List.set_cons_zero, List.set_cons_succ, i64_w, i32_w]
                    rfl
                  refine pure_ (i := 7) (N := some 49) (v := ?_) (a' := ?_) #[true, true, true, true, true, true, true, true, false, false, false, false] rfl rfl (any_of HT_.out (by kernel_rfl)) (fun _ _ _ h => h) (Or.inl ⟨by rfl, ?_⟩) ?_ ?_
                  rotate_left
                  · intro w'
                    go_simp
                    with_reducible rfl
                  rotate_left
                  · simp only [Act.put, List.setIfInBounds_toArray, List.set_cons_zero, List.set_cons_succ, i64_w, i32_w]
                    rfl
                  refine take_ (i := 8) (N := some 50) (v := ?_) (a' := ?_) #[true, true, true, true, true, true, true, true, true, false, false, false] rfl rfl (take_ofW HT_.out HW_.out (by kernel_rfl)) (fun _ _ _ h => h) (Or.inl ⟨by rfl, ?_⟩) hHeld ?_ ?_
                  rotate_left
                  · rintro w' ⟨s0, s1, s2, s3, s4, s5, s6, s7, s8, s9, s10, s11, s12, s13, s14, s15, s16, s17⟩
                    go_simp
                    with_reducible rfl
                  rotate_left
                  · simp only [Act.put, List.setIfInBounds_toArray, List.set_cons_zero, List.set_cons_succ, i64_w, i32_w]
                    rfl
                  refine pure_ (i := 9) (N := some 51) (v := ?_) (a' := ?_) #[true, true, true, true, true, true, true, true, true, true, false, false] rfl rfl (any_of HT_.out (by kernel_rfl)) (fun _ _ _ h => h) (Or.inl ⟨by rfl, ?_⟩) ?_ ?_
                  rotate_left
                  · intro w'
                    go_simp
                    with_reducible rfl
                  rotate_left
                  · simp only [Act.put, List.setIfInBounds_toArray, List.set_cons_zero, List.set_cons_succ, i64_w, i32_w]
                    rfl
                  refine pure_ (i := 10) (N := some 52) (v := ?_) (a' := ?_) #[true, true, true, true, true, true, true, true, true, true, true, false] rfl rfl (any_of HT_.out (by kernel_rfl)) (fun _ _ _ h => h) (Or.inl ⟨by rfl, ?_⟩) ?_ ?_
                  rotate_left
                  · intro w'
                    go_simp
                    with_reducible rfl
                  rotate_left
                  · simp only [Act.put, List.setIfInBounds_toArray, List.set_cons_zero, List.set_cons_succ, i64_w, i32_w]
                    rfl
                  refine last_ (i := 11) (N := none) #[true, true, true, true, true, true, true, true, true, true, true, true] rfl rfl (one_of HT_.out (by kernel_rfl)) (by decide) (fun K hK => ?_)
                  refine skip_ (w1 := ?_) (by rfl) rfl ?_ ?_
                  rotate_left
                  · go_simp
                    rfl
                  refine hK.out _ _ ?_
                  clear hK K
                  refine done_ (done_of HT_.out (by kernel_rfl)) ?_
                  try go_wp2
                  have n0_ : Aside0 (Kd.R k37 37 (w47.setCell ⟨go25, (a1 : Int).toNat * 6 + 1, none⟩ (.int .i64 ((rd_T37 l0_0 a1).f2))) w.heap.size (fun _ => True) (.slice (some ⟨go25, 0, none⟩) t177.length co11) y197) := ⟨by (with_reducible repeat (first | apply Kd.R_alloc | apply Kd.R_drewN | apply Kd.R_drew)); exact HQ48.out⟩
                  have n1_ : Aside0 (Kd.R (Kd.int .i64) 3 (w47.setCell ⟨go25, (a1 : Int).toNat * 6 + 1, none⟩ (.int .i64 ((rd_T37 l0_0 a1).f2))) w.heap.size (fun _ => True) (.slice Ao14 t181.length co14) t181) := ⟨by (with_reducible repeat (first | apply Kd.R_alloc | apply Kd.R_drewN | apply Kd.R_drew)); exact Kd.R_mono (Kd.R_far (p := ⟨go25, (a1 : Int).toNat * 6 + 1, none⟩) (Kd.R_types HO_192002.out (Kd.R_typed HO_192000.out go25 rfl).choose_spec (by decide)) (fun _ hk => hk.2) (.int .i64 ((rd_T37 l0_0 a1).f2))) (fun _ hk => trivial)⟩
                  have n2_ : Aside0 (Kd.R k47 47 (w47.setCell ⟨go25, (a1 : Int).toNat * 6 + 1, none⟩ (.int .i64 ((rd_T37 l0_0 a1).f2))) w.heap.size (fun _ => True) (.slice Ao15 t184.length co15) t184) := ⟨by (with_reducible repeat (first | apply Kd.R_alloc | apply Kd.R_drewN | apply Kd.R_drew)); exact Kd.R_mono (Kd.R_far (p := ⟨go25, (a1 : Int).toNat * 6 + 1, none⟩) (Kd.R_types HO_192003.out (Kd.R_typed HO_192000.out go25 rfl).choose_spec (by decide)) (fun _ hk => hk.2) (.int .i64 ((rd_T37 l0_0 a1).f2))) (fun _ hk => trivial)⟩
                  have n3_ : Aside0 (Kd.R k69 69 (w47.setCell ⟨go25, (a1 : Int).toNat * 6 + 1, none⟩ (.int .i64 ((rd_T37 l0_0 a1).f2))) w.heap.size (fun _ => True) (.slice Ao16 t187.length co16) t187) := ⟨by (with_reducible repeat (first | apply Kd.R_alloc | apply Kd.R_drewN | apply Kd.R_drew)); exact Kd.R_mono (Kd.R_far (p := ⟨go25, (a1 : Int).toNat * 6 + 1, none⟩) (Kd.R_types HO_192004.out (Kd.R_typed HO_192000.out go25 rfl).choose_spec (by decide)) (fun _ hk => hk.2) (.int .i64 ((rd_T37 l0_0 a1).f2))) (fun _ hk => trivial)⟩
                  have n4_ : Aside0 ((w47.setCell ⟨go25, (a1 : Int).toNat * 6 + 1, none⟩ (.int .i64 ((rd_T37 l0_0 a1).f2))).heap[gb175]? = some (.cells #[.slice (some ad196) l0_0.length c0_0, .int .i64 a0_1, .slice A0_2 l0_2.length c0_2, .slice A0_3 l0_3.length c0_3, .slice A0_4 l0_4.length c0_4, .int .i64 a0_5] 32 (0, 0))) := ⟨by (with_reducible repeat (first | refine blk_drewN ?_ _ | refine blk_drew ?_ | refine blk_alloc ?_ _)); refine blk_far ?_ (by have h_ := Kd.R_ne HO_192000.out BK175.out (by decide); intro e_; exact h_ (by rw [e_]; rfl)) _; (with_reducible repeat (first | refine blk_drewN ?_ _ | refine blk_drew ?_ | refine blk_alloc ?_ _)); exact BK175.out⟩
                  have n5_ : Aside0 ((w47.setCell ⟨go25, (a1 : Int).toNat * 6 + 1, none⟩ (.int .i64 ((rd_T37 l0_0 a1).f2))).heap[gb191]? = some (.cells #[.slice (some ⟨go25, 0, none⟩) t177.length co11, .int .i64 t180, .slice Ao14 t181.length co14, .slice Ao15 t184.length co15, .slice Ao16 t187.length co16, .int .i64 t190] 32 (0, 0))) := ⟨by (with_reducible repeat (first | refine blk_drewN ?_ _ | refine blk_drew ?_ | refine blk_alloc ?_ _)); refine blk_far ?_ (by have h_ := Kd.R_ne HO_192000.out BK191.out (by decide); intro e_; exact h_ (by rw [e_]; rfl)) _; (with_reducible repeat (first | refine blk_drewN ?_ _ | refine blk_drew ?_ | refine blk_alloc ?_ _)); exact BK191.out⟩
                  have n6_ : Aside0 (Below w.heap.size w (w47.setCell ⟨go25, (a1 : Int).toNat * 6 + 1, none⟩ (.int .i64 ((rd_T37 l0_0 a1).f2)))) := ⟨by repeat (first | (with_reducible first | exact HB.out | apply below_alloc | apply pw_below_drewN | apply below_drew1 | refine below_set ?_ GB25.out | refine below_set ?_ GE175.out | refine below_set ?_ GE191.out) | exact HB.out)⟩
                  (try clear HO_192000)
                  (try clear HO_192002)
                  (try clear HO_192003)
                  (try clear HO_192004)
                  (try clear BK175)
                  (try clear BK191)
                  (try clear HB)
                  generalize (w47.setCell ⟨go25, (a1 : Int).toNat * 6 + 1, none⟩ (.int .i64 ((rd_T37 l0_0 a1).f2))) = w49 at n0_ n1_ n2_ n3_ n4_ n5_ n6_ ⊢
                  have HO_192000 := n0_
                  have HO_192002 := n1_
                  have HO_192003 := n2_
                  have HO_192004 := n3_
                  have BK175 := n4_
                  have BK191 := n5_
                  have HB := n6_
                  clear n0_ n1_ n2_ n3_ n4_ n5_ n6_
                  have n0_ := Aside0.mk (Kd.R_drew HO_192000.out)
                  have n1_ := Aside0.mk (Kd.R_drew HO_192002.out)
                  have n2_ := Aside0.mk (Kd.R_drew HO_192003.out)
                  have n3_ := Aside0.mk (Kd.R_drew HO_192004.out)
                  have n4_ := Aside0.mk (blk_drew BK175.out)
                  have n5_ := Aside0.mk (blk_drew BK191.out)
                  have n6_ := Aside0.mk (below_drew1 HB.out)
                  clear HO_192000
                  clear HO_192002
                  clear HO_192003
                  clear HO_192004
                  clear BK175
                  clear BK191
                  clear HB
                  have HO_192000 := n0_
                  have HO_192002 := n1_
                  have HO_192003 := n2_
                  have HO_192004 := n3_
                  have BK175 := n4_
                  have BK191 := n5_
                  have HB := n6_
                  clear n0_ n1_ n2_ n3_ n4_ n5_ n6_
                  have p198 : 0 ≤ (a1 : Int) := of_decide_eq_true (by first | (with_reducible assumption) | assumption)
                  have q198 : a1 < (l0_0.length : Int) := of_decide_eq_true (by first | (with_reducible assumption) | assumption)
                  obtain ⟨ad198, e198, hx198_0, hx198_1, hx198_2, hx198_3, hx198_4, hx198_5⟩ := at_T37 HR0_0.out a1 p198 q198
                  have hw198_5 := hx198_5
                  have hw198_4 := hx198_4
                  have hw198_3 := hx198_3
                  have hw198_2 := hx198_2
                  have hw198_1 := hx198_1
                  have hw198_0 := hx198_0
                  obtain rfl : ad196 = ad198 := (by injection e198)
                  replace hx198_0 := (HB.out.cell (World.block_lt_of_cell? w _ hx198_0)).trans hx198_0
                  replace hx198_1 := (HB.out.cell (World.block_lt_of_cell? w _ hx198_1)).trans hx198_1
                  replace hx198_2 := (HB.out.cell (World.block_lt_of_cell? w _ hx198_2)).trans hx198_2
                  replace hx198_3 := (HB.out.cell (World.block_lt_of_cell? w _ hx198_3)).trans hx198_3
                  replace hx198_4 := (HB.out.cell (World.block_lt_of_cell? w _ hx198_4)).trans hx198_4
                  replace hx198_5 := (HB.out.cell (World.block_lt_of_cell? w _ hx198_5)).trans hx198_5
                  replace p198 := eq_true p198
                  replace q198 := eq_true q198
                  have p28 : 0 ≤ (a1 : Int) := of_decide_eq_true (by first | (with_reducible assumption) | assumption)
                  have q28 : (a1 : Int) < ((t177.length : Int) : Int) := of_decide_eq_true (by first | (with_reducible assumption) | assumption)
                  obtain ⟨ce28, hcl28, hM28, hcc28, hfr28⟩ := Kd.R_elem HO_192000.out z37 (a1 : Int) p28 q28
                  obtain rfl := k37_openM hM28
                  have hx28_0 : World.cell? _ ⟨go25, (a1 : Int).toNat * 6, none⟩ = some (.int .i64 ((rd_T37 y197 a1).f0)) := hcc28 0 _ rfl
                  have hx28_1 : World.cell? _ ⟨go25, (a1 : Int).toNat * 6 + 1, none⟩ = some (.int .i64 ((rd_T37 y197 a1).f1)) := hcc28 1 _ rfl
                  have hx28_2 : World.cell? _ ⟨go25, (a1 : Int).toNat * 6 + 2, none⟩ = some (.int .i64 ((rd_T37 y197 a1).f2)) := hcc28 2 _ rfl
                  have hx28_3 : World.cell? _ ⟨go25, (a1 : Int).toNat * 6 + 3, none⟩ = some (.int .i64 ((rd_T37 y197 a1).f3)) := hcc28 3 _ rfl
                  have hx28_4 : World.cell? _ ⟨go25, (a1 : Int).toNat * 6 + 4, none⟩ = some (.int .i64 ((rd_T37 y197 a1).f4)) := hcc28 4 _ rfl
                  have hx28_5 : World.cell? _ ⟨go25, (a1 : Int).toNat * 6 + 5, none⟩ = some (.string ((rd_T37 y197 a1).f5)) := hcc28 5 _ rfl
                  have hf28_0 : World.frozen? _ ⟨go25, (a1 : Int).toNat * 6, none⟩ = false := hfr28 0
                  have hf28_1 : World.frozen? _ ⟨go25, (a1 : Int).toNat * 6 + 1, none⟩ = false := hfr28 1
                  have hf28_2 : World.frozen? _ ⟨go25, (a1 : Int).toNat * 6 + 2, none⟩ = false := hfr28 2
                  have hf28_3 : World.frozen? _ ⟨go25, (a1 : Int).toNat * 6 + 3, none⟩ = false := hfr28 3
                  have hf28_4 : World.frozen? _ ⟨go25, (a1 : Int).toNat * 6 + 4, none⟩ = false := hfr28 4
                  have hf28_5 : World.frozen? _ ⟨go25, (a1 : Int).toNat * 6 + 5, none⟩ = false := hfr28 5
                  clear hcl28 hcc28 hfr28 hM28
                  replace p28 := eq_true p28
                  replace q28 := eq_true q28
                  obtain ⟨ce51, hcl51, hM51, hcc51, hfr51⟩ := Kd.R_elem HO_192000.out z37 (a1 : Int) (of_decide_eq_true (by first | (with_reducible assumption) | assumption)) (by have h_ : (a1 : Int) < ((t177.length : Int) : Int) := of_decide_eq_true (by first | (with_reducible assumption) | assumption); first | exact h_ | (have e_ := (Kd.R_reads' HO_192000.out).1; omega) | simpa using h_)
                  obtain rfl := k37_openM hM51
                  have HP51 := (Kd.R_seg HO_192000.out (a1 : Int) (of_decide_eq_true (by first | (with_reducible assumption) | assumption)) (by have h_ : (a1 : Int) < ((t177.length : Int) : Int) := of_decide_eq_true (by first | (with_reducible assumption) | assumption); first | exact h_ | (have e_ := (Kd.R_reads' HO_192000.out).1; omega) | simpa using h_) (seg := [.int .i64 ((rd_T37 l0_0 a1).f1)]) (j := 2) hcl51 hcc51 (show 3 ≤ 6 from by decide) (x' := (⟨(rd_T37 y197 a1).f0, (rd_T37 y197 a1).f1, (rd_T37 l0_0 a1).f1, (rd_T37 y197 a1).f3, (rd_T37 y197 a1).f4, (rd_T37 y197 a1).f5⟩ : S37)) (k37_mkM _ _ _ (⟨(rd_T37 y197 a1).f0, (rd_T37 y197 a1).f1, (rd_T37 l0_0 a1).f1, (rd_T37 y197 a1).f3, (rd_T37 y197 a1).f4, (rd_T37 y197 a1).f5⟩ : S37) ) (fun _ hk => hk)).1
                  rw [← Ny199.out] at HP51
                  have HQ51 := Aside0.mk HP51
                  clear hcl51 hcc51 hfr51 hM51 HP51
                  refine start_ (n := 12) (S := fun w' => w'.cell? ⟨gb191, 0, none⟩ = some (.slice (some ⟨go25, 0, none⟩) t177.length co11) ∧ w'.cell? ⟨gb191, 1, none⟩ = some (.int .i64 t180) ∧ w'.cell? ⟨gb191, 2, none⟩ = some (.slice Ao14 t181.length co14) ∧ w'.cell? ⟨gb191, 3, none⟩ = some (.slice Ao15 t184.length co15) ∧ w'.cell? ⟨gb191, 4, none⟩ = some (.slice Ao16 t187.length co16) ∧ w'.cell? ⟨gb191, 5, none⟩ = some (.int .i64 t190) ∧ w'.cell? ⟨gb175, 0, none⟩ = some (.slice (some ad196) l0_0.length c0_0) ∧ w'.cell? ⟨gb175, 1, none⟩ = some (.int .i64 a0_1) ∧ w'.cell? ⟨gb175, 2, none⟩ = some (.slice A0_2 l0_2.length c0_2) ∧ w'.cell? ⟨gb175, 3, none⟩ = some (.slice A0_3 l0_3.length c0_3) ∧ w'.cell? ⟨gb175, 4, none⟩ = some (.slice A0_4 l0_4.length c0_4) ∧ w'.cell? ⟨gb175, 5, none⟩ = some (.int .i64 a0_5) ∧ w'.cell? (ad196.add ((a1).toNat * 6)) = some (.int .i64 ((rd_T37 l0_0 a1).f0)) ∧ w'.cell? ⟨(ad196.add ((a1).toNat * 6)).block, (ad196.add ((a1).toNat * 6)).off + 1, none⟩ = some (.int .i64 ((rd_T37 l0_0 a1).f1)) ∧ w'.cell? ⟨(ad196.add ((a1).toNat * 6)).block, (ad196.add ((a1).toNat * 6)).off + 2, none⟩ = some (.int .i64 ((rd_T37 l0_0 a1).f2)) ∧ w'.cell? ⟨(ad196.add ((a1).toNat * 6)).block, (ad196.add ((a1).toNat * 6)).off + 3, none⟩ = some (.int .i64 ((rd_T37 l0_0 a1).f3)) ∧ w'.cell? ⟨(ad196.add ((a1).toNat * 6)).block, (ad196.add ((a1).toNat * 6)).off + 4, none⟩ = some (.int .i64 ((rd_T37 l0_0 a1).f4)) ∧ w'.cell? ⟨(ad196.add ((a1).toNat * 6)).block, (ad196.add ((a1).toNat * 6)).off + 5, none⟩ = some (.string ((rd_T37 l0_0 a1).f5))) (ds := [11]) #[false, false, false, false, false, false, false, false, false, false, false, false] (by kernel_rfl) rfl rfl ⟨(blk_cell BK191.out 0).trans rfl, (blk_cell BK191.out 1).trans rfl, (blk_cell BK191.out 2).trans rfl, (blk_cell BK191.out 3).trans rfl, (blk_cell BK191.out 4).trans rfl, (blk_cell BK191.out 5).trans rfl, (blk_cell BK175.out 0).trans rfl, (blk_cell BK175.out 1).trans rfl, (blk_cell BK175.out 2).trans rfl, (blk_cell BK175.out 3).trans rfl, (blk_cell BK175.out 4).trans rfl, (blk_cell BK175.out 5).trans rfl, ((HB.out.cell (World.block_lt_of_cell? w _ hw198_0)).trans hw198_0), ((HB.out.cell (World.block_lt_of_cell? w _ hw198_1)).trans hw198_1), ((HB.out.cell (World.block_lt_of_cell? w _ hw198_2)).trans hw198_2), ((HB.out.cell (World.block_lt_of_cell? w _ hw198_3)).trans hw198_3), ((HB.out.cell (World.block_lt_of_cell? w _ hw198_4)).trans hw198_4), ((HB.out.cell (World.block_lt_of_cell? w _ hw198_5)).trans hw198_5)⟩ (fun hHeld => ?_); refine with_tabW daybooklaw14_TypingTurned.tab10 daybooklaw14_TypingTurned.bits10 (fun HT_ HW_ => ?_)
                  generalize w49.drew = w50 at HO_192000 HO_192002 HO_192003 HO_192004 BK175 BK191 HB HQ48 HQ51 hf28_0 hf28_1 hf28_2 hf28_3 hf28_4 hf28_5 hx198_0 hx198_1 hx198_2 hx198_3 hx198_4 hx198_5 hx28_0 hx28_1 hx28_2 hx28_3 hx28_4 hx28_5 hHeld ⊢
                  refine pure_ (i := 0) (N := some 53) (v := ?_) (a' := ?_) #[true, false, false, false, false, false, false, false, false, false, false, false] rfl rfl (any_of HT_.out (by kernel_rfl)) (fun _ _ _ h => h) (Or.inl ⟨by rfl, ?_⟩) ?_ ?_
                  rotate_left
                  · intro w'
                    go_simp
                    with_reducible rfl
                  rotate_left
                  · simp only [Act.put, List.setIfInBounds_toArray, List.set_cons_zero, List.set_cons_succ, i64_w, i32_w]
                    rfl
                  refine pure_ (i := 2) (N := some 55) (v := ?_) (a' := ?_) #[true, false, true, false, false, false, false, false, false, false, false, false] rfl rfl (any_of HT_.out (by kernel_rfl)) (fun _ _ _ h => h) (Or.inl ⟨by rfl, ?_⟩) ?_ ?_
                  rotate_left
                  · intro w'
                    go_simp
                    with_reducible rfl
                  rotate_left
                  · simp only [Act.put, List.setIfInBounds_toArray, List.set_cons_zero, List.set_cons_succ, i64_w, i32_w]
                    rfl
                  refine pure_ (i := 3) (N := some 56) (v := ?_) (a' := ?_) #[true, false, true, true, false, false, false, false, false, false, false, false] rfl rfl (any_of HT_.out (by kernel_rfl)) (fun _ _ _ h => h) (Or.inl ⟨by rfl, ?_⟩) ?_ ?_
                  rotate_left
                  · intro w'
                    go_simp
                    with_reducible rfl
                  rotate_left
                  · simp only [Act.put, List.setIfInBounds_toArray, List.set_cons_zero, List.set_cons_succ, i64_w, i32_w]
                    rfl
                  refine pure_ (i := 5) (N := some 58) (v := ?_) (a' := ?_) #[true, false, true, true, false, true, false, false, false, false, false, false] rfl rfl (any_of HT_.out (by kernel_rfl)) (fun _ _ _ h => h) (Or.inl ⟨by rfl, ?_⟩) ?_ ?_
                  rotate_left
                  · intro w'
                    go_simp
                    with_reducible rfl
                  rotate_left
                  · simp only [Act.put, List.setIfInBounds_toArray, List.set_cons_zero, List.set_cons_succ, i64_w, i32_w]
                    rfl
                  refine take_ (i := 1) (N := some 54) (v := ?_) (a' := ?_) #[true, true, true, true, false, true, false, false, false, false, false, false] rfl rfl (take_ofW HT_.out HW_.out (by kernel_rfl)) (fun _ _ _ h => h) (Or.inl ⟨by rfl, ?_⟩) hHeld ?_ ?_
                  rotate_left
                  · rintro w' ⟨s0, s1, s2, s3, s4, s5, s6, s7, s8, s9, s10, s11, s12, s13, s14, s15, s16, s17⟩
                    go_simp
                    with_reducible rfl
                  rotate_left
                  · simp only [Act.put, List.setIfInBounds_toArray, List.set_cons_zero, List.set_cons_succ, i64_w, i32_w]
                    rfl
                  refine take_ (i := 4) (N := some 57) (v := ?_) (a' := ?_) #[true, true, true, true, true, true, false, false, false, false, false, false] rfl rfl (take_ofW HT_.out HW_.out (by kernel_rfl)) (fun _ _ _ h => h) (Or.inl ⟨by rfl, ?_⟩) hHeld ?_ ?_
                  rotate_left
                  · rintro w' ⟨s0, s1, s2, s3, s4, s5, s6, s7, s8, s9, s10, s11, s12, s13, s14, s15, s16, s17⟩
                    go_simp
                    with_reducible rfl
                  rotate_left
                  · simp only [Act.put, List.setIfInBounds_toArray, List.set_cons_zero, List.set_cons_succ, i64_w, i32_w]
                    rfl
                  refine pure_ (i := 6) (N := some 59) (v := ?_) (a' := ?_) #[true, true, true, true, true, true, true, false, false, false, false, false] rfl rfl (any_of HT_.out (by kernel_rfl)) (fun _ _ _ h => h) (Or.inl ⟨by rfl, ?_⟩) ?_ ?_
                  rotate_left
                  · intro w'
                    go_simp
                    with_reducible rfl
                  rotate_left
                  · simp only [Act.put, List.setIfInBounds_toArray, List.set_cons_zero, List.set_cons_succ, i64_w, i32_w]
                    rfl
                  refine pure_ (i := 7) (N := some 60) (v := ?_) (a' := ?_) #[true, true, true, true, true, true, true, true, false, false, false, false] rfl rfl (any_of HT_.out (by kernel_rfl)) (fun _ _ _ h => h) (Or.inl ⟨by rfl, ?_⟩) ?_ ?_
                  rotate_left
                  · intro w'
                    go_simp
                    with_reducible rfl
                  rotate_left
                  · simp only [Act.put, List.setIfInBounds_toArray, List.set_cons_zero, List.set_cons_succ, i64_w, i32_w]
                    rfl
                  refine take_ (i := 8) (N := some 61) (v := ?_) (a' := ?_) #[true, true, true, true, true, true, true, true, true, false, false, false] rfl rfl (take_ofW HT_.out HW_.out (by kernel_rfl)) (fun _ _ _ h => h) (Or.inl ⟨by rfl, ?_⟩) hHeld ?_ ?_
                  rotate_left
                  · rintro w' ⟨s0, s1, s2, s3, s4, s5, s6, s7, s8, s9, s10, s11, s12, s13, s14, s15, s16, s17⟩
                    go_simp
                    with_reducible rfl
                  rotate_left
                  · simp only [Act.put, List.setIfInBounds_toArray, List.set_cons_zero, List.set_cons_succ, i64_w, i32_w]
                    rfl
                  refine pure_ (i := 9) (N := some 62) (v := ?_) (a' := ?_) #[true, true, true, true, true, true, true, true, true, true, false, false] rfl rfl (any_of HT_.out (by kernel_rfl)) (fun _ _ _ h => h) (Or.inl ⟨by rfl, ?_⟩) ?_ ?_
                  rotate_left
                  · intro w'
                    go_simp
                    with_reducible rfl
                  rotate_left
                  · simp only [Act.put, List.setIfInBounds_toArray, List.set_cons_zero, List.set_cons_succ, i64_w, i32_w]
                    rfl
                  refine pure_ (i := 10) (N := some 63) (v := ?_) (a' := ?_) #[true, true, true, true, true, true, true, true, true, true, true, false] rfl rfl (any_of HT_.out (by kernel_rfl)) (fun _ _ _ h => h) (Or.inl ⟨by rfl, ?_⟩) ?_ ?_
                  rotate_left
                  · intro w'
                    go_simp
                    with_reducible rfl
                  rotate_left
                  · simp only [Act.put, List.setIfInBounds_toArray, List.set_cons_zero, List.set_cons_succ, i64_w, i32_w]
                    rfl
                  refine last_ (i := 11) (N := none) #[true, true, true, true, true, true, true, true, true, true, true, true] rfl rfl (one_of HT_.out (by kernel_rfl)) (by decide) (fun K hK => ?_)
                  refine skip_ (w1 := ?_) (by rfl) rfl ?_ ?_
                  rotate_left
                  · go_simp
                    rfl
                  refine hK.out _ _ ?_
                  clear hK K
                  refine done_ (done_of HT_.out (by kernel_rfl)) ?_
                  have hcz52_0 : w50.cell? ⟨gb191, 0, none⟩ = some (.slice (some ⟨go25, 0, none⟩) t177.length co11) := (blk_cell BK191.out 0).trans rfl
                  have hcz52_1 : w50.cell? ⟨gb191, 1, none⟩ = some (.int .i64 t180) := (blk_cell BK191.out 1).trans rfl
                  have hcz52_2 : w50.cell? ⟨gb191, 2, none⟩ = some (.slice Ao14 t181.length co14) := (blk_cell BK191.out 2).trans rfl
                  have hcz52_3 : w50.cell? ⟨gb191, 3, none⟩ = some (.slice Ao15 t184.length co15) := (blk_cell BK191.out 3).trans rfl
                  have hcz52_4 : w50.cell? ⟨gb191, 4, none⟩ = some (.slice Ao16 t187.length co16) := (blk_cell BK191.out 4).trans rfl
                  have hcz52_5 : w50.cell? ⟨gb191, 5, none⟩ = some (.int .i64 t190) := (blk_cell BK191.out 5).trans rfl
                  have hfz52_0 := blk_frozen BK191.out 0
                  have hfz52_1 := blk_frozen BK191.out 1
                  have hfz52_2 := blk_frozen BK191.out 2
                  have hfz52_3 := blk_frozen BK191.out 3
                  have hfz52_4 := blk_frozen BK191.out 4
                  have hfz52_5 := blk_frozen BK191.out 5
                  have hcz53_0 : w50.cell? ⟨gb175, 0, none⟩ = some (.slice (some ad196) l0_0.length c0_0) := (blk_cell BK175.out 0).trans rfl
                  have hcz53_1 : w50.cell? ⟨gb175, 1, none⟩ = some (.int .i64 a0_1) := (blk_cell BK175.out 1).trans rfl
                  have hcz53_2 : w50.cell? ⟨gb175, 2, none⟩ = some (.slice A0_2 l0_2.length c0_2) := (blk_cell BK175.out 2).trans rfl
                  have hcz53_3 : w50.cell? ⟨gb175, 3, none⟩ = some (.slice A0_3 l0_3.length c0_3) := (blk_cell BK175.out 3).trans rfl
                  have hcz53_4 : w50.cell? ⟨gb175, 4, none⟩ = some (.slice A0_4 l0_4.length c0_4) := (blk_cell BK175.out 4).trans rfl
                  have hcz53_5 : w50.cell? ⟨gb175, 5, none⟩ = some (.int .i64 a0_5) := (blk_cell BK175.out 5).trans rfl
                  have hfz53_0 := blk_frozen BK175.out 0
                  have hfz53_1 := blk_frozen BK175.out 1
                  have hfz53_2 := blk_frozen BK175.out 2
                  have hfz53_3 := blk_frozen BK175.out 3
                  have hfz53_4 := blk_frozen BK175.out 4
                  have hfz53_5 := blk_frozen BK175.out 5
                  have hgn191 : go25 ≠ gb191 := (by have h_ := Kd.R_ne HO_192000.out BK191.out (by decide); intro e_; exact h_ (by rw [e_]; rfl))
                  have hgm191 : gb191 ≠ go25 := fun e_ => hgn191 e_.symm
                  have hgn175 : go25 ≠ gb175 := (by have h_ := Kd.R_ne HO_192000.out BK175.out (by decide); intro e_; exact h_ (by rw [e_]; rfl))
                  have hgm175 : gb175 ≠ go25 := fun e_ => hgn175 e_.symm
                  try go_wp2_with (first | ((with_reducible refine gate_callee (f := 15) rfl ?_); refine goesL_ (some 66) rfl rfl Tryd.func15 (by kernel_rfl) rfl #[.agg #[.slice (some ⟨go25, 0, none⟩) y199.length co11, .int .i64 t180, .slice Ao14 t181.length co14, .slice Ao15 t184.length co15, .slice Ao16 t187.length co16, .int .i64 t190], .agg #[.slice (some ad196) l0_0.length c0_0, .int .i64 a0_1, .slice A0_2 l0_2.length c0_2, .slice A0_3 l0_3.length c0_3, .slice A0_4 l0_4.length c0_4, .int .i64 a0_5]] rfl (by (try simp only [List.map_toArray, List.map_cons, List.map_nil]); first | done | (rw [show y199.length = t177.length from (Kd.R_reads' HQ51.out).1.symm] <;> rfl) | rfl | (simp only [List.length_drop, List.length_take]; rfl)) ?_; (with_reducible refine (daybooklaw14_like.calls kj4 _ _ y199 t180 _ _ t181 _ _ t184 _ _ t187 t190 _ _ l0_0 a0_1 _ _ l0_2 _ _ l0_3 _ _ l0_4 a0_5 t200 _ ?side1 ?side2 ?side3 ?side4 ?side5 ?side6 ?side7 ?side8 ?side9 ?side10 ?side11 ?side12 ?side13 ?side14 ?side15 ?side16 A29.out (Glob.step G0.out (by repeat (first | (with_reducible first | exact HB.out | apply below_alloc | apply pw_below_drewN | apply below_drew1 | refine below_set ?_ GB25.out) | exact HB.out)))).mono ?_); (case side1 => refine (Kd.R_reads' (e := 37) (base := w.heap.size) (ok := fun k_ => True) (n := t177.length) (c := co11) ?_).2.2; exact (by (with_reducible repeat (first | apply Kd.R_alloc | apply Kd.R_drewN | apply Kd.R_drew)); exact HQ51.out)); (case side2 => rw [show y199.length = t177.length from (Kd.R_reads' HQ51.out).1.symm]; exact (Kd.R_reads' HO_192000.out).2.1); (case side3 => refine (Kd.R_reads' (e := 3) (base := w.heap.size) (ok := fun k_ => True) (n := t181.length) (c := co14) ?_).2.2; exact (by (with_reducible repeat (first | apply Kd.R_alloc | apply Kd.R_drewN | apply Kd.R_drew)); exact (Kd.R_mono (Kd.R_far (p := ⟨go25, (a1 : Int).toNat * 6 + 2, none⟩) (Kd.R_types HO_192002.out (Kd.R_typed HO_192000.out go25 rfl).choose_spec (by decide)) (fun _ hk => hk.2) (.int .i64 ((rd_T37 l0_0 a1).f1))) (fun _ h_ => h_.1)))); (case side4 => exact (Kd.R_reads' HO_192002.out).2.1); (case side5 => refine (Kd.R_reads' (e := 47) (base := w.heap.size) (ok := fun k_ => True) (n := t184.length) (c := co15) ?_).2.2; exact (by (with_reducible repeat (first | apply Kd.R_alloc | apply Kd.R_drewN | apply Kd.R_drew)); exact (Kd.R_mono (Kd.R_far (p := ⟨go25, (a1 : Int).toNat * 6 + 2, none⟩) (Kd.R_types HO_192003.out (Kd.R_typed HO_192000.out go25 rfl).choose_spec (by decide)) (fun _ hk => hk.2) (.int .i64 ((rd_T37 l0_0 a1).f1))) (fun _ h_ => h_.1)))); (case side6 => exact (Kd.R_reads' HO_192003.out).2.1); (case side7 => refine (Kd.R_reads' (e := 69) (base := w.heap.size) (ok := fun k_ => True) (n := t187.length) (c := co16) ?_).2.2; exact (by (with_reducible repeat (first | apply Kd.R_alloc | apply Kd.R_drewN | apply Kd.R_drew)); exact (Kd.R_mono (Kd.R_far (p := ⟨go25, (a1 : Int).toNat * 6 + 2, none⟩) (Kd.R_types HO_192004.out (Kd.R_typed HO_192000.out go25 rfl).choose_spec (by decide)) (fun _ hk => hk.2) (.int .i64 ((rd_T37 l0_0 a1).f1))) (fun _ h_ => h_.1)))); (case side8 => exact (Kd.R_reads' HO_192004.out).2.1); (case side9 => exact Kd.C_below HR0_0.out (by repeat (first | (with_reducible first | exact HB.out | apply below_alloc | apply pw_below_drewN | apply below_drew1 | refine below_set ?_ GB25.out | refine below_set ?_ GE175.out | refine below_set ?_ GE191.out) | exact HB.out))); (case side10 => exact HC0_0.out); (case side11 => exact Kd.C_below HR0_2.out (by repeat (first | (with_reducible first | exact HB.out | apply below_alloc | apply pw_below_drewN | apply below_drew1 | refine below_set ?_ GB25.out | refine below_set ?_ GE175.out | refine below_set ?_ GE191.out) | exact HB.out))); (case side12 => exact HC0_2.out); (case side13 => exact Kd.C_below HR0_3.out (by repeat (first | (with_reducible first | exact HB.out | apply below_alloc | apply pw_below_drewN | apply below_drew1 | refine below_set ?_ GB25.out | refine below_set ?_ GE175.out | refine below_set ?_ GE191.out) | exact HB.out))); (case side14 => exact HC0_3.out); (case side15 => exact Kd.C_below HR0_4.out (by repeat (first | (with_reducible first | exact HB.out | apply below_alloc | apply pw_below_drewN | apply below_drew1 | refine below_set ?_ GB25.out | refine below_set ?_ GE175.out | refine below_set ?_ GE191.out) | exact HB.out))); (case side16 => exact HC0_4.out); rintro e w54 ⟨rfl, hb⟩; refine ⟨_, rfl, ?_⟩; have n0_ := Aside0.mk (Kd.R_below (by (with_reducible repeat (first | apply Kd.R_alloc | apply Kd.R_drewN | apply Kd.R_drew)); exact HQ51.out) hb); have n1_ := Aside0.mk (Kd.R_below (by (with_reducible repeat (first | apply Kd.R_alloc | apply Kd.R_drewN | apply Kd.R_drew)); exact (Kd.R_mono (Kd.R_far (p := ⟨go25, (a1 : Int).toNat * 6 + 2, none⟩) (Kd.R_types HO_192002.out (Kd.R_typed HO_192000.out go25 rfl).choose_spec (by decide)) (fun _ hk => hk.2) (.int .i64 ((rd_T37 l0_0 a1).f1))) (fun _ h_ => h_.1))) hb); have n2_ := Aside0.mk (Kd.R_below (by (with_reducible repeat (first | apply Kd.R_alloc | apply Kd.R_drewN | apply Kd.R_drew)); exact (Kd.R_mono (Kd.R_far (p := ⟨go25, (a1 : Int).toNat * 6 + 2, none⟩) (Kd.R_types HO_192003.out (Kd.R_typed HO_192000.out go25 rfl).choose_spec (by decide)) (fun _ hk => hk.2) (.int .i64 ((rd_T37 l0_0 a1).f1))) (fun _ h_ => h_.1))) hb); have n3_ := Aside0.mk (Kd.R_below (by (with_reducible repeat (first | apply Kd.R_alloc | apply Kd.R_drewN | apply Kd.R_drew)); exact (Kd.R_mono (Kd.R_far (p := ⟨go25, (a1 : Int).toNat * 6 + 2, none⟩) (Kd.R_types HO_192004.out (Kd.R_typed HO_192000.out go25 rfl).choose_spec (by decide)) (fun _ hk => hk.2) (.int .i64 ((rd_T37 l0_0 a1).f1))) (fun _ h_ => h_.1))) hb); have n4_ := Aside0.mk (blk_below (g := gb175) (o := .cells #[.slice (some ad196) l0_0.length c0_0, .int .i64 a0_1, .slice A0_2 l0_2.length c0_2, .slice A0_3 l0_3.length c0_3, .slice A0_4 l0_4.length c0_4, .int .i64 a0_5] 32 (0, 0)) (by (with_reducible repeat (first | refine blk_drewN ?_ _ | refine blk_drew ?_ | refine blk_alloc ?_ _)); refine blk_far ?_ (by have h_ := Kd.R_ne HO_192000.out BK175.out (by decide); intro e_; exact h_ (by rw [e_]; rfl)) _; (with_reducible repeat (first | refine blk_drewN ?_ _ | refine blk_drew ?_ | refine blk_alloc ?_ _)); exact BK175.out) hb); have n5_ := Aside0.mk (blk_below (g := gb191) (o := .cells #[.slice (some ⟨go25, 0, none⟩) t177.length co11, .int .i64 t180, .slice Ao14 t181.length co14, .slice Ao15 t184.length co15, .slice Ao16 t187.length co16, .int .i64 t190] 32 (0, 0)) (by (with_reducible repeat (first | refine blk_drewN ?_ _ | refine blk_drew ?_ | refine blk_alloc ?_ _)); refine blk_far ?_ (by have h_ := Kd.R_ne HO_192000.out BK191.out (by decide); intro e_; exact h_ (by rw [e_]; rfl)) _; (with_reducible repeat (first | refine blk_drewN ?_ _ | refine blk_drew ?_ | refine blk_alloc ?_ _)); exact BK191.out) hb); have n6_ := Aside0.mk (below_step (by repeat (first | (with_reducible first | exact HB.out | apply below_alloc | apply pw_below_drewN | apply below_drew1 | refine below_set ?_ GB25.out | refine below_set ?_ GE175.out | refine below_set ?_ GE191.out) | exact HB.out)) hb); clear HO_192000; clear HO_192002; clear HO_192003; clear HO_192004; clear BK175; clear BK191; clear HB; have HO_192000 := n0_; have HO_192002 := n1_; have HO_192003 := n2_; have HO_192004 := n3_; have BK175 := n4_; have BK191 := n5_; have HB := n6_; clear n0_ n1_ n2_ n3_ n4_ n5_ n6_; (try clear hb); (try clear hb2); (try clear hk); (try clear hi)))
                  go_ret
                  exact ⟨by first | rfl | (simp [errW_none, errW_some] <;> rfl) | (simp [*, errW_none, errW_some] <;> rfl), by repeat (first | (with_reducible first | exact HB.out | apply below_alloc | apply pw_below_drewN | apply below_drew1 | refine below_set ?_ GE175.out | refine below_set ?_ GE191.out) | exact HB.out)⟩
              · rw [if_neg c26] at H
                exact absurd H (by simp)
            · replace c24 := Bool.eq_false_iff.mpr c24
              subst c24
              have H1 : (some t176) = some r := by rw [if_neg (show ¬ (false = true) by decide)] at H; exact H
              clear H
              have H := H1
              clear H1
              obtain rfl := Option.some.inj H
              have hnb55 := NB191_175.out
              have hnc55 := NB175_191.out
              have hcz56_0 : wc.cell? ⟨gb191, 0, none⟩ = some (.slice Ao11 t177.length co11) := (blk_cell BK191.out 0).trans rfl
              have hcz56_1 : wc.cell? ⟨gb191, 1, none⟩ = some (.int .i64 t180) := (blk_cell BK191.out 1).trans rfl
              have hcz56_2 : wc.cell? ⟨gb191, 2, none⟩ = some (.slice Ao14 t181.length co14) := (blk_cell BK191.out 2).trans rfl
              have hcz56_3 : wc.cell? ⟨gb191, 3, none⟩ = some (.slice Ao15 t184.length co15) := (blk_cell BK191.out 3).trans rfl
              have hcz56_4 : wc.cell? ⟨gb191, 4, none⟩ = some (.slice Ao16 t187.length co16) := (blk_cell BK191.out 4).trans rfl
              have hcz56_5 : wc.cell? ⟨gb191, 5, none⟩ = some (.int .i64 t190) := (blk_cell BK191.out 5).trans rfl
              have hfz56_0 := blk_frozen BK191.out 0
              have hfz56_1 := blk_frozen BK191.out 1
              have hfz56_2 := blk_frozen BK191.out 2
              have hfz56_3 := blk_frozen BK191.out 3
              have hfz56_4 := blk_frozen BK191.out 4
              have hfz56_5 := blk_frozen BK191.out 5
              have p192 : 0 ≤ (a1 : Int) := of_decide_eq_true (by first | (with_reducible assumption) | assumption)
              have q192 : a1 < (t177.length : Int) := of_decide_eq_true (by first | (with_reducible assumption) | assumption)
              obtain ⟨ad192, e192, hx192_0, hx192_1, hx192_2, hx192_3, hx192_4, hx192_5⟩ := at_T37 (Kd.R_reads' HO_192000.out).2.2 a1 p192 q192
              cases e192
              replace p192 := eq_true p192
              replace q192 := eq_true q192
              go_wp2_with (first | ((with_reducible refine gate_callee (f := 16) rfl ?_); refine goesL_ (some 30) rfl rfl Tryd.func16 (by kernel_rfl) rfl #[.int .i64 ((rd_T37 t177 a1).f0)] rfl (by (try simp only [List.map_toArray, List.map_cons, List.map_nil]); first | done | rfl | (simp only [List.length_drop, List.length_take]; rfl)) ?_; (with_reducible refine (daybooklaw14_turned.calls kj4 ((rd_T37 t177 a1).f0) t193 false _ A23.out).mono ?_); rintro e w' ⟨rfl, ⟨nd, rfl⟩⟩; refine ⟨_, rfl, ?_⟩))
              go_ret
              exact ⟨by first | rfl | (simp [errW_none, errW_some] <;> rfl) | (simp [*, errW_none, errW_some] <;> rfl), by repeat (first | (with_reducible first | exact HB.out | apply below_alloc | apply pw_below_drewN | apply below_drew1 | refine below_set ?_ GE175.out | refine below_set ?_ GE191.out) | exact HB.out)⟩
          · rw [if_neg c22] at H
            exact absurd H (by simp)
        · rw [if_neg c21] at H
          exact absurd H (by simp)

end Go.Proofs.YtoamflnkaaconaaDoor.X
