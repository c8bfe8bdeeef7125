/- The law TypingMore walked. -/
import Derived.Test.YtoamflnkaaconaaDoorMoreP
import Derived.Test.YtoamflnkaaconaaDoorPartW
import Derived.Deep.QuietTactic
import Derived.BigQuiet
import Derived.IntWalk
import Derived.Deep.RegionLaw
namespace Go.Proofs.YtoamflnkaaconaaDoor.X
set_option linter.unusedVariables false
set_option linter.unusedSimpArgs false
open Go.RowKit Go.Proofs.YtoamflnkaaconaaDoorW.PrintWords
/-- the law's world: elder blocks of W0 as they were; the box g9 -/
structure PP (W0 : World) (g9 : Nat) (v0 : Value) (x1 : Int) (v2 v3 v4 : Value) (x5 : Int) (w : World) : Prop where
  below : Below W0.heap.size W0 w
  g0 : W0.heap.size ≤ g9
  box : w.heap[g9]? = some (.cells #[v0, .int .i64 x1, v2, v3, v4, .int .i64 x5] 32 (0, 0))
theorem PP.step {W0 : World} {g9 : Nat} {v0 v2 v3 v4 : Value} {x1 x5 : Int} {w w' : World} (h : PP W0 g9 v0 x1 v2 v3 v4 x5 w) (b : Below w.heap.size w w') : PP W0 g9 v0 x1 v2 v3 v4 x5 w' :=
  ⟨fm_call h.below b, h.g0, blk_below h.box b⟩
theorem QR.far {w : World} {base : Nat} {v0 v2 v3 v4 : Value} {l0 : List S37} {l2 : List Int} {l3 : List S47} {l4 : List S69} (h : QR w base v0 v2 v3 v4 l0 l2 l3 l4) {g9 : Nat} {cs : Array Value} (hb : w.heap[g9]? = some (.cells cs 32 (0, 0))) (j : Nat) (u : Value) :
    QR (w.setCell ⟨g9, j, none⟩ u) base v0 v2 v3 v4 l0 l2 l3 l4 :=
  ⟨Kd.R_mono (Kd.R_far (p := ⟨g9, j, none⟩) (Kd.R_types h.r0 hb (by decide)) (fun _ hk => hk.2) u) (fun _ _ => trivial),
   Kd.R_mono (Kd.R_far (p := ⟨g9, j, none⟩) (Kd.R_types h.r2 hb (by decide)) (fun _ hk => hk.2) u) (fun _ _ => trivial),
   Kd.R_mono (Kd.R_far (p := ⟨g9, j, none⟩) (Kd.R_types h.r3 hb (by decide)) (fun _ hk => hk.2) u) (fun _ _ => trivial),
   Kd.R_mono (Kd.R_far (p := ⟨g9, j, none⟩) (Kd.R_types h.r4 hb (by decide)) (fun _ hk => hk.2) u) (fun _ _ => trivial)⟩
section
variable {W0 w : World} {g9 base : Nat} {v0 v2 v3 v4 u0 u2 u3 u4 : Value} {x1 x5 : Int} {l0 : List S37} {l2 : List Int} {l3 : List S47} {l4 : List S69}
/-- the box and the lists that its world bears -/
structure PQ (W0 : World) (g9 : Nat) (v0 : Value) (x1 : Int) (v2 v3 v4 : Value) (x5 : Int) (base : Nat) (u0 u2 u3 u4 : Value) (l0 : List S37) (l2 : List Int) (l3 : List S47) (l4 : List S69) (w : World) : Prop where
  pp : PP W0 g9 v0 x1 v2 v3 v4 x5 w
  qr : QR w base u0 u2 u3 u4 l0 l2 l3 l4
theorem PQ.set0 (h : PQ W0 g9 v0 x1 v2 v3 v4 x5 base u0 u2 u3 u4 l0 l2 l3 l4 w) (u : Value) : PQ W0 g9 u x1 v2 v3 v4 x5 base u0 u2 u3 u4 l0 l2 l3 l4 (w.setCell ⟨g9, 0, none⟩ u) := ⟨⟨below_set h.pp.below h.pp.g0, h.pp.g0, blk_set h.pp.box 0 u⟩, h.qr.far h.pp.box 0 u⟩
theorem PQ.set1 (h : PQ W0 g9 v0 x1 v2 v3 v4 x5 base u0 u2 u3 u4 l0 l2 l3 l4 w) (y : Int) : PQ W0 g9 v0 y v2 v3 v4 x5 base u0 u2 u3 u4 l0 l2 l3 l4 (w.setCell ⟨g9, 1, none⟩ (.int .i64 y)) := ⟨⟨below_set h.pp.below h.pp.g0, h.pp.g0, blk_set h.pp.box 1 _⟩, h.qr.far h.pp.box 1 _⟩
theorem PQ.set2 (h : PQ W0 g9 v0 x1 v2 v3 v4 x5 base u0 u2 u3 u4 l0 l2 l3 l4 w) (u : Value) : PQ W0 g9 v0 x1 u v3 v4 x5 base u0 u2 u3 u4 l0 l2 l3 l4 (w.setCell ⟨g9, 2, none⟩ u) := ⟨⟨below_set h.pp.below h.pp.g0, h.pp.g0, blk_set h.pp.box 2 u⟩, h.qr.far h.pp.box 2 u⟩
theorem PQ.set3 (h : PQ W0 g9 v0 x1 v2 v3 v4 x5 base u0 u2 u3 u4 l0 l2 l3 l4 w) (u : Value) : PQ W0 g9 v0 x1 v2 u v4 x5 base u0 u2 u3 u4 l0 l2 l3 l4 (w.setCell ⟨g9, 3, none⟩ u) := ⟨⟨below_set h.pp.below h.pp.g0, h.pp.g0, blk_set h.pp.box 3 u⟩, h.qr.far h.pp.box 3 u⟩
theorem PQ.set4 (h : PQ W0 g9 v0 x1 v2 v3 v4 x5 base u0 u2 u3 u4 l0 l2 l3 l4 w) (u : Value) : PQ W0 g9 v0 x1 v2 v3 u x5 base u0 u2 u3 u4 l0 l2 l3 l4 (w.setCell ⟨g9, 4, none⟩ u) := ⟨⟨below_set h.pp.below h.pp.g0, h.pp.g0, blk_set h.pp.box 4 u⟩, h.qr.far h.pp.box 4 u⟩
theorem PQ.set5 (h : PQ W0 g9 v0 x1 v2 v3 v4 x5 base u0 u2 u3 u4 l0 l2 l3 l4 w) (y : Int) : PQ W0 g9 v0 x1 v2 v3 v4 y base u0 u2 u3 u4 l0 l2 l3 l4 (w.setCell ⟨g9, 5, none⟩ (.int .i64 y)) := ⟨⟨below_set h.pp.below h.pp.g0, h.pp.g0, blk_set h.pp.box 5 _⟩, h.qr.far h.pp.box 5 _⟩
/-- the whole query stored -/
theorem PQ.put (h : PP W0 g9 v0 x1 v2 v3 v4 x5 w) (q : QR w base u0 u2 u3 u4 l0 l2 l3 l4) (y1 y5 : Int) : PQ W0 g9 u0 y1 u2 u3 u4 y5 base u0 u2 u3 u4 l0 l2 l3 l4
    ((((((w.setCell ⟨g9, 0, none⟩ u0).setCell ⟨g9, 1, none⟩ (.int .i64 y1)).setCell ⟨g9, 2, none⟩ u2).setCell ⟨g9, 3, none⟩ u3).setCell ⟨g9, 4, none⟩ u4).setCell ⟨g9, 5, none⟩ (.int .i64 y5)) :=
  ((((((PQ.mk h q).set0 u0).set1 y1).set2 u2).set3 u3).set4 u4).set5 y5
theorem PQ.step {w' : World} (h : PQ W0 g9 v0 x1 v2 v3 v4 x5 base u0 u2 u3 u4 l0 l2 l3 l4 w) (b : Below w.heap.size w w') : PQ W0 g9 v0 x1 v2 v3 v4 x5 base u0 u2 u3 u4 l0 l2 l3 l4 w' := ⟨h.pp.step b, h.qr.below b⟩
end
section
variable {W0 w w1 : World} {g9 base : Nat} {v0 v2 v3 v4 v0' : Value} {x1 x5 : Int} {l0 m0 : List S37} {l2 : List Int} {l3 : List S47} {l4 : List S69}
theorem PQ.grown0 (h : PQ W0 g9 v0 x1 v2 v3 v4 x5 base v0 v2 v3 v4 l0 l2 l3 l4 w) (o : Obj) (hg : (w.alloc o).grownBy w1 v0.ownBlock) (hown : Kd.R k37 37 w1 W0.heap.size (fun _ => True) v0' m0) (hbel : Below W0.heap.size W0 w1) (hlb : W0.heap.size ≤ base) :
    PQ W0 g9 v0 x1 v2 v3 v4 x5 W0.heap.size v0' v2 v3 v4 m0 l2 l3 l4 w1 := by
  have hr := Kd.R_alloc h.qr.r0 o
  have hb := blk_alloc h.pp.box o
  have hb9 := blk_grown hb hg (Kd.R_ne hr hb (by decide))
  have k2 := Kd.R_lower (Kd.R_over' (v := v0) (Kd.R_alloc h.qr.r2 o) (Kd.R_typed hr) (by decide) hg) hlb
  have k3 := Kd.R_lower (Kd.R_over' (v := v0) (Kd.R_alloc h.qr.r3 o) (Kd.R_typed hr) (by decide) hg) hlb
  have k4 := Kd.R_lower (Kd.R_over' (v := v0) (Kd.R_alloc h.qr.r4 o) (Kd.R_typed hr) (by decide) hg) hlb
  exact ⟨⟨hbel, h.pp.g0, hb9⟩, ⟨hown, k2, k3, k4⟩⟩
theorem PQ.grown3 {v3' : Value} {m3 : List S47} (h : PQ W0 g9 v0 x1 v2 v3 v4 x5 base v0 v2 v3 v4 l0 l2 l3 l4 w) (hg : w.drew.grownBy w1 v3.ownBlock) (hown : Kd.R k47 47 w1 W0.heap.size (fun _ => True) v3' m3) (hbel : Below W0.heap.size W0 w1) (hlb : W0.heap.size ≤ base) :
    PQ W0 g9 v0 x1 v2 v3 v4 x5 W0.heap.size v0 v2 v3' v4 l0 l2 m3 l4 w1 := by
  have hr := Kd.R_drew h.qr.r3
  have hb := blk_drew h.pp.box
  have hb9 := blk_grown hb hg (Kd.R_ne hr hb (by decide))
  have k0 := Kd.R_lower (Kd.R_over' (v := v3) (Kd.R_drew h.qr.r0) (Kd.R_typed hr) (by decide) hg) hlb
  have k2 := Kd.R_lower (Kd.R_over' (v := v3) (Kd.R_drew h.qr.r2) (Kd.R_typed hr) (by decide) hg) hlb
  have k4 := Kd.R_lower (Kd.R_over' (v := v3) (Kd.R_drew h.qr.r4) (Kd.R_typed hr) (by decide) hg) hlb
  exact ⟨⟨hbel, h.pp.g0, hb9⟩, ⟨k0, k2, hown, k4⟩⟩
end
theorem add0 (a : Addr) : a.add 0 = a := by unfold Addr.add; simp
theorem lit_R {α : Type} (d : Kd α) (e : Nat) (w : World) (xs : List α) (inner : List Value) (hrep : ∀ W base ok, Reps (d.M W base ok) d.sz xs inner) (hm : xs.length ≤ 9223372036854775807) :
    Kd.R d e (w.alloc (.cells inner.toArray e)) w.heap.size (fun _ => True) (.slice (some ⟨w.heap.size, 0, none⟩) xs.length xs.length) xs := by
  refine ⟨fun _ _ => trivial, inner, ?_, hrep _ _ _⟩
  have h2 := World.ownsRow_lit (base := w.heap.size) (e := e) (size := d.sz) w inner.toArray xs.length (Nat.le_refl _) (by simpa [maxLen] using hm) (by simpa using (hrep w 0 (fun _ => True)).1)
  simpa using h2
theorem lit_int (w : World) (x : Int) : Kd.R (Kd.int .i64) 3 (w.alloc (.cells #[.int .i64 x] 3)) w.heap.size (fun _ => True) (.slice (some ⟨w.heap.size, 0, none⟩) 1 1) [x] :=
  lit_R (Kd.int .i64) 3 w [x] [.int .i64 x] (fun _ _ _ => ⟨rfl, fun j p hj => by
    cases j with
    | zero => simp at hj; subst hj; rfl
    | succ j => simp at hj⟩) (by simp)
theorem wrap_nat (n : Nat) (h : n < 9223372036854775807) : wrap64 ((n : Int) + 1) = (n : Int) + 1 := by unfold wrap64; omega
theorem lit_two (w : World) (x y : S37) : Kd.C k37 (w.alloc (.cells #[.int .i64 x.f0, .int .i64 x.f1, .int .i64 x.f2, .int .i64 x.f3, .int .i64 x.f4, .string x.f5, .int .i64 y.f0, .int .i64 y.f1, .int .i64 y.f2, .int .i64 y.f3, .int .i64 y.f4, .string y.f5] 37)) (some ⟨w.heap.size, 0, none⟩) 2 [x, y] :=
  (Kd.R_reads' (lit_R k37 37 w [x, y] [.int .i64 x.f0, .int .i64 x.f1, .int .i64 x.f2, .int .i64 x.f3, .int .i64 x.f4, .string x.f5, .int .i64 y.f0, .int .i64 y.f1, .int .i64 y.f2, .int .i64 y.f3, .int .i64 y.f4, .string y.f5] (fun W base ok => ⟨rfl, fun j p hj => by
    match j, hj with
    | 0, hj => simp at hj; subst hj; exact k37_mkM W base ok _
    | 1, hj => simp at hj; subst hj; exact k37_mkM W base ok _
    | j + 2, hj => simp at hj⟩) (by simp))).2.2
set_option maxHeartbeats 8000000 in
set_option maxRecDepth 100000 in
theorem more_walk (A0 : Option Addr) (c0 : Nat) (l0 : List S37) (wh : Int) (A2 : Option Addr) (c2 : Nat) (l2 : List Int) (A3 : Option Addr) (c3 : Nat) (l3 : List S47) (A4 : Option Addr) (c4 : Nat) (l4 : List S69) (lim a1 fby : Int) (W : World)
    (Q : Qry W A0 c0 l0 wh A2 c2 l2 A3 c3 l3 A4 c4 l4 lim) (w1 : I64 a1) (w2 : I64 fby) (G : Glob W) :
    Calls Tryd.prog 6 #[qv A0 c0 l0 wh A2 c2 l2 A3 c3 l3 A4 c4 l4 lim, .int .i64 a1, .int .i64 fby] W fun e W' => e = .returned (.bool true) ∧ Below W.heap.size W W' := by
  have hS := Q.sz
  have hF := Fr.start (wh := wh) (lim := lim) Q.qc G
  have HS := Lib.hid hS
  have HN0 := Lib.hid Q.n0
  have HN2 := Lib.hid Q.n2
  have HN3 := Lib.hid Q.n3
  have HF := Lib.hid hF
  clear hS hF Q w1 w2 G
  obtain ⟨R, hR⟩ : ∃ R, chkP l0 wh l2 l3 l4 lim = R := ⟨_, rfl⟩
  have HR := Lib.hid hR
  clear hR
  go_enter Tryd.func6, Tryd.ntmps6
  go_wp2_with fail
  generalize W.alloc (.cells #[.slice A0 l0.length c0, .int .i64 wh, .slice A2 l2.length c2, .slice A3 l3.length c3, .slice A4 l4.length c4, .int .i64 lim] 32) = W0 at HF ⊢
  refine (first_q _ HF.out.glob).mono ?_
  rintro e w1 ⟨rfl, hb⟩
  have hF := HF.out.step hb
  have HF1 := Lib.hid hF
  have hbs := Below.refl w1.heap.size w1
  have HB1 := Lib.hid hbs
  clear hb hbs
  obtain ⟨x0, x1, x2, x3, x4, x5⟩ := box6 hF.box
  clear hF HF
  go_wp2_with fail
  refine (twin_c wh lim HF1.out.qc HS.out).mono ?_
  rintro e w2 ⟨P0, q0, P2, q2, P3, q3, P4, q4, rfl, hq, hb⟩
  have hF := HF1.out.step hb
  have hbs := fm_call HB1.out hb
  have HB2 := Lib.hid hbs
  have HQ2 := Lib.hid hq
  have HF2 := Lib.hid hF
  clear x0 x1 x2 x3 x4 x5 hF hq hb hbs HB1
  go_wp2_with fail
  refine (check_q wh lim HQ2.out (by have := HS.out.n0; omega) HS.out.n5 HF2.out.glob).mono ?_
  rintro e w3 ⟨B, d, rfl, hr, hb⟩
  rw [HR.out] at hr ⊢
  have hF := HF2.out.step hb
  have hbs := fm_call HB2.out hb
  have HB3 := Lib.hid hbs
  have HF3 := Lib.hid hF
  have HL3 := Lib.hid hr
  obtain ⟨x0, x1, x2, x3, x4, x5⟩ := box6 hF.box
  clear hF hb hr hbs HB2 HF2 HQ2
  refine by2 (p := R.2 = 0) ?okp ?okn
  case' okn =>
    intro h0
    have hR2 : R = ([], 140) := by rw [← HR.out] at h0 ⊢; exact chk_other h0
    subst hR2
    clear h0
    go_wp2_with fail
    go_ret
    exact ⟨rfl, HF3.out.below⟩
  case okp =>
    intro h0
    obtain ⟨cs, e⟩ := R
    obtain rfl : e = 0 := h0
    go_wp2_with fail
    refine (twin_any wh lim HF3.out.qc HS.out).mono ?_
    rintro e w4 ⟨v0, v2, v3, v4, rfl, hq, hb⟩
    obtain ⟨P0, q0, P2, q2, P3, q3, P4, q4, rfl, rfl, rfl, rfl, hqc⟩ := hq.form
    have hF := HF3.out.step hb
    have HB4 := Lib.hid hb
    have HQ4 := Lib.hid hqc
    have HF4 := Lib.hid hF
    clear hF hb HB3 hq hqc x0 x1 x2 x3 x4 x5
    have hlm : -1 ≤ lim := by
      have h0 := HR.out
      exact (bad_parts (chk_zero' (show (chkP l0 wh l2 l3 l4 lim).2 = 0 by rw [h0])).2.2.1).2.2
    have HLM := Lib.hid hlm
    clear hlm
    go_upto_if 45 with fail
    go_cut [] (fun wx => ∃ lx : Int, -1 ≤ lx ∧ wx = w4.alloc (.cells #[.slice P0 l0.length q0, .int .i64 wh, .slice P2 l2.length q2, .slice P3 l3.length q3, .slice none 0 0, .int .i64 lx] 32))
    case first =>
      go_wp2_with fail
      all_goals go_meet
      all_goals first | exact ⟨lim, HLM.out, rfl⟩ | exact ⟨a1, by assumption, rfl⟩ | exact ⟨a1, by omega, rfl⟩
    case rest =>
      obtain ⟨lx, hlx, rfl⟩ := hcut
      have hpp := PP.mk (W0 := w3) (v0 := .slice P0 l0.length q0) (x1 := wh) (v2 := .slice P2 l2.length q2) (v3 := .slice P3 l3.length q3) (v4 := .slice none 0 0) (x5 := lx) (fm_alloc HB4.out _) HB4.out.size (heap_alloc_new w4 _)
      have hq := HQ4.out.step (fm_alloc (Below.refl _ w4) (.cells #[.slice P0 l0.length q0, .int .i64 wh, .slice P2 l2.length q2, .slice P3 l3.length q3, .slice none 0 0, .int .i64 lx] 32))
      generalize w4.alloc (.cells #[.slice P0 l0.length q0, .int .i64 wh, .slice P2 l2.length q2, .slice P3 l3.length q3, .slice none 0 0, .int .i64 lx] 32) = w5 at hpp hq ⊢
      generalize w4.heap.size = g9 at hpp ⊢
      have hq' : QC w5 P0 q0 l0 P2 q2 l2 P3 q3 l3 none 0 [] := ⟨hq.r0, hq.s0, hq.r2, hq.s2, hq.r3, hq.s3, ⟨rfl, Nat.zero_le _, fun h => absurd h (Nat.lt_irrefl 0)⟩, Nat.le_refl _⟩
      have hlk := like_eq (l0 := l0) (m0 := l0) (l2 := l2) (m2 := l2) (l3 := l3) (m3 := l3) (by have := HS.out.n0; omega) (by have := HS.out.n0; omega) HS.out.n5 HS.out.n5 (more_one (show (chkP l0 wh l2 l3 l4 lim).2 = 0 by rw [HR.out]) lx hlx)
      have HLK := Lib.hid hlk
      have HPP := Lib.hid hpp
      have HQ5 := Lib.hid hq'
      clear hlx HQ4 HB4 HF4 hpp hq hq' hlk
      have hF := HF3.out.step HPP.out.below
      have HF5 := Lib.hid hF
      obtain ⟨x0, x1, x2, x3, x4, x5⟩ := box6 hF.box
      obtain ⟨y0, y1, y2, y3, y4, y5⟩ := box6 HPP.out.box
      clear hF
      go_wp2_with fail
      refine (like_q wh lx wh lim HQ5.out HF5.out.qc HLK.out HF5.out.glob).mono ?_
      rintro e w6 ⟨rfl, hb⟩
      have hpp := HPP.out.step hb
      clear HPP HQ5 HF5 HLK hb x0 x1 x2 x3 x4 x5 y0 y1 y2 y3 y4 y5
      have HPP := Lib.hid hpp
      clear hpp
      have hF := HF3.out.step HPP.out.below
      have HF6 := Lib.hid hF
      obtain ⟨x0, x1, x2, x3, x4, x5⟩ := box6 hF.box
      clear hF
      go_wp2_with fail
      refine (twin_any wh lim HF6.out.qc HS.out).mono ?_
      rintro e w7 ⟨v0, v2, v3, v4, rfl, hq, hb⟩
      obtain ⟨P0, q0, P2, q2, P3, q3, P4, q4, rfl, rfl, rfl, rfl, hqc⟩ := hq.form
      have hpp := HPP.out.step hb
      clear HPP HF6 hqc hb x0 x1 x2 x3 x4 x5
      have HPP := Lib.hid hpp
      have HQ7 := Lib.hid hq
      obtain ⟨y0, y1, y2, y3, y4, y5⟩ := box6 hpp.box
      have f := blk_frozen hpp.box
      have f0 := f 0
      have f1 := f 1
      have f2 := f 2
      have f3 := f 3
      have f4 := f 4
      have f5 := f 5
      clear hpp hq f
      have hpq := (PQ.put HPP.out HQ7.out wh lim).set1 (-1)
      have HPQ := Lib.hid hpq
      clear hpq
      go_upto_region 12 with fail
      generalize ((((((w7.setCell ⟨g9, 0, none⟩ (.slice P0 l0.length q0)).setCell ⟨g9, 1, none⟩ (.int .i64 wh)).setCell ⟨g9, 2, none⟩ (.slice P2 l2.length q2)).setCell ⟨g9, 3, none⟩ (.slice P3 l3.length q3)).setCell ⟨g9, 4, none⟩ (.slice P4 l4.length q4)).setCell ⟨g9, 5, none⟩ (.int .i64 lim)).setCell ⟨g9, 1, none⟩ (.int .i64 (-1)) = w8 at HPQ ⊢
      obtain ⟨P0', q0', P2', q2', P3', q3', P4', q4', e0, e2, e3, e4, hqc⟩ := HPQ.out.qr.form
      cases e0; cases e2; cases e3; cases e4
      have HQ8 := Lib.hid hqc
      have hpp := HPQ.out.pp
      clear hqc HPP HQ7 HPQ y0 y1 y2 y3 y4 y5 f0 f1 f2 f3 f4 f5
      have HPP := Lib.hid hpp
      have hF := HF3.out.step hpp.below
      have HF8 := Lib.hid hF
      obtain ⟨x0, x1, x2, x3, x4, x5⟩ := box6 hF.box
      obtain ⟨y0, y1, y2, y3, y4, y5⟩ := box6 hpp.box
      have hlk := like_eq (l0 := l0) (m0 := l0) (l2 := l2) (m2 := l2) (l3 := l3) (m3 := l3) (by have := HS.out.n0; omega) (by have := HS.out.n0; omega) HS.out.n5 HS.out.n5 (more_two (show (chkP l0 wh l2 l3 l4 lim).2 = 0 by rw [HR.out]))
      have HLK := Lib.hid hlk
      clear hF hpp hlk
      go_wp2_with fail
      refine (like_q (-1) lim wh lim HQ8.out HF8.out.qc HLK.out HF8.out.glob).mono ?_
      rintro e w9 ⟨rfl, hb⟩
      have hpp := HPP.out.step hb
      clear HPP HQ8 HF8 HLK hb x0 x1 x2 x3 x4 x5 y0 y1 y2 y3 y4 y5
      have HPP := Lib.hid hpp
      have hF := HF3.out.step hpp.below
      have HF9 := Lib.hid hF
      obtain ⟨x0, x1, x2, x3, x4, x5⟩ := box6 hF.box
      clear hF hpp
      go_wp2_with fail
      refine (twin_any wh lim HF9.out.qc HS.out).mono ?_
      rintro e w10 ⟨v0, v2, v3, v4, rfl, hq, hb⟩
      obtain ⟨P0, q0, P2, q2, P3, q3, P4, q4, rfl, rfl, rfl, rfl, hqc⟩ := hq.form
      have hpp := HPP.out.step hb
      have hpq := PQ.put hpp hq wh lim
      clear HPP HF9 hqc hb x0 x1 x2 x3 x4 x5
      have HPQ := Lib.hid hpq
      obtain ⟨y0, y1, y2, y3, y4, y5⟩ := box6 hpp.box
      have f := blk_frozen hpp.box
      have f0 := f 0
      have f1 := f 1
      have f2 := f 2
      have f3 := f 3
      have f4 := f 4
      have f5 := f 5
      clear hpp hq f hpq
      go_upto_region 14 with fail
      generalize (((((w10.setCell ⟨g9, 0, none⟩ (.slice P0 l0.length q0)).setCell ⟨g9, 1, none⟩ (.int .i64 wh)).setCell ⟨g9, 2, none⟩ (.slice P2 l2.length q2)).setCell ⟨g9, 3, none⟩ (.slice P3 l3.length q3)).setCell ⟨g9, 4, none⟩ (.slice P4 l4.length q4)).setCell ⟨g9, 5, none⟩ (.int .i64 lim) = w11 at HPQ ⊢
      clear y0 y1 y2 y3 y4 y5 f0 f1 f2 f3 f4 f5
      go_wp2_with fail
      refine (field_q fby _ (HF3.out.step HPQ.out.pp.below).glob).mono ?_
      rintro e w12 ⟨rfl, hb⟩
      have hpq := HPQ.out.step hb
      clear HPQ hb
      have HPQ := Lib.hid hpq
      have hF := HF3.out.step hpq.pp.below
      have HF12 := Lib.hid hF
      obtain ⟨x0, x1, x2, x3, x4, x5⟩ := box6 hF.box
      obtain ⟨y0, y1, y2, y3, y4, y5⟩ := box6 hpq.pp.box
      have f := blk_frozen hpq.pp.box
      have f2 := f 2
      have hz1 : W.heap.size < w12.heap.size := blk_lt hF.box
      have hz2 : g9 < w12.heap.size := blk_lt hpq.pp.box
      clear hF hpq f
      go_wp2_with (at_builtin
                   go_loud (refine Kd.R_append_rows (Kd.int .i64) (w0 := w12) w12.heap.size rfl (.tmp 65) (.tmp 67) 28 3 (.int .i64 0) 8 rfl Tryd.underlying28 info3 rfl (by decide) (by omega) (.slice (some ⟨w12.heap.size, 0, none⟩) 1 1) [fby] l2 A2 l2.length c2 (fun _ => True) (fun _ => False) (by rfl) (by rfl) (lit_int w12 fby) (HF12.out.step (fm_alloc (Below.refl _ w12) _)).qc.r2 (fun _ _ h => h) (fun _ h => h.elim) (fun _ _ => trivial) (fm_alloc (Below.refl _ w12) _) (by simp) (by have := HN2.out; simp; omega) ?_)
                   intro v2 w13 hown hbel hg hat
                   have hpq := HPQ.out.step hbel
                   obtain ⟨m2, hm2⟩ : ∃ m, [fby] ++ l2 = m := ⟨_, rfl⟩
                   rw [hm2] at hown
                   have hm2' : m2 = fby :: l2 := hm2.symm
                   have HM := Lib.hid hm2'
                   clear hm2 hm2'
                   obtain ⟨B2, b2, rfl⟩ := Kd.R_slice hown
                   obtain ⟨y0, y1, y2, y3, y4, y5⟩ := box6 hpq.pp.box
                   have f := blk_frozen hpq.pp.box
                   have f2 := f 2
                   have HO := Lib.hid hown
                   have HPQ13 := Lib.hid hpq
                   clear hown hbel hg hat hpq f)
      have hpq := HPQ13.out.set2 (.slice B2 m2.length b2)
      have hro := Kd.R_mono (Kd.R_far (p := ⟨g9, 2, none⟩) (Kd.R_types HO.out HPQ13.out.pp.box (by decide)) (fun _ hk => hk.2) (.slice B2 m2.length b2)) (ok' := fun _ => True) (fun _ _ => trivial)
      generalize w13.setCell ⟨g9, 2, none⟩ (.slice B2 m2.length b2) = w14 at hpq hro ⊢
      obtain ⟨P0', q0', P2', q2', P3', q3', P4', q4', e0, e2, e3, e4, hqc⟩ := hpq.qr.form
      cases e0; cases e2; cases e3; cases e4
      have hr2 := Kd.R_reads' hro
      have hq14 : QC w14 P0 q0 l0 B2 b2 m2 P3 q3 l3 P4 q4 l4 := ⟨hqc.r0, hqc.s0, hr2.2.2, hr2.2.1, hqc.r3, hqc.s3, hqc.r4, hqc.s4⟩
      have hpp := hpq.pp
      have hF := HF3.out.step hpp.below
      obtain ⟨y0, y1, y2, y3, y4, y5⟩ := box6 hpp.box
      have HPP := Lib.hid hpp
      have HF14 := Lib.hid hF
      have HQ14 := Lib.hid hq14
      clear hpq hro hqc hr2 hq14 hpp hF HO HPQ HPQ13 HF12 x0 x1 x2 x3 x4 x5 hz1 hz2
      go_wp2_with fail
      refine (check_q wh lim HQ14.out (by have := HS.out.n0; omega) (by have := HN2.out; have := HN3.out; rw [HM.out]; simp only [List.length_cons]; omega) HF14.out.glob).mono ?_
      rintro e w15 ⟨D, dd, rfl, hr, hb⟩
      have hpp := HPP.out.step hb
      have hmb := more_by (show (chkP l0 wh l2 l3 l4 lim).2 = 0 by rw [HR.out]) fby
      rw [HR.out] at hmb
      rw [← HM.out] at hmb
      rw [hmb] at hr ⊢
      have hF := HF3.out.step hpp.below
      have HF15 := Lib.hid hF
      clear HPP
      have HPP := Lib.hid hpp
      obtain ⟨x0, x1, x2, x3, x4, x5⟩ := box6 hF.box
      obtain ⟨t, hms1, hms2, hms3, hms4⟩ := more_show (show (chkP l0 wh l2 l3 l4 lim).2 = 0 by rw [HR.out])
      rw [HR.out] at hms1 hms2 hms3
      have HM1 := Lib.hid hms1
      have HM2 := Lib.hid hms2
      have HM3 := Lib.hid hms3
      have HM4 := Lib.hid hms4
      clear hF hpp hb hmb HF14 HQ14 hms1 hms2 hms3 hms4 y0 y1 y2 y3 y4 y5
      refine by2 (p := fldT fby = 0) ?tz ?tn
      case' tz =>
        intro hz
        rw [if_pos hz] at hr ⊢
        have t1 : (fldT fby == 0) = true := beq_iff_eq.2 hz
        have t2 : (fldT fby = 0) = True := eq_true hz
        have t3 : (fldT fby != 0) = false := by simp [bne, t1]
        clear hz hr
        go_upto_region 19 with fail
        clear t1 t2 t3 x0 x1 x2 x3 x4 x5 HF15
      case' tn =>
        intro hz
        rw [if_neg hz] at hr ⊢
        have t1 : (fldT fby == 0) = false := beq_eq_false_iff_ne.2 hz
        have t2 : (fldT fby = 0) = False := eq_false hz
        have t3 : (fldT fby != 0) = true := by simp [bne, t1]
        obtain ⟨gD, cD, eD, gD0, gD1, _, _⟩ := Kd.R_form hr (by simp)
        cases eD
        have hcl := chk_len l0 wh l2 l3 l4 lim
        rw [HR.out] at hcl
        have hcs : cs.length < 4611686018427387904 := by have := HN2.out; have := HN3.out; simp only at hcl; omega
        have hC := (Kd.R_reads' hr).2.2
        have hcD := (Kd.R_reads' hr).2.1
        have hm3 : 0 < cs.length := by have := HM3.out; simp only at this; omega
        have hCd := Kd.C_drop hC (m := 1) (c := dd) (by simp) (by simpa using hcD)
        have hlen : (fldT fby :: cs).length = cs.length + 1 := rfl
        rw [hlen] at hcD
        rw [if_neg (by omega)] at hCd
        have hCl := (Kd.R_reads' (Kd.R_below HL3.out HPP.out.below)).2
        have hsi := daybooklaw14_sameInts.calls (cs.length + 0 + 1) (some ⟨gD, 1, none⟩) (dd - 1) cs B d cs true w15 hCd (by omega) hCl.2 hCl.1 (sameInts_same cs hcs 0)
        obtain ⟨ad0, ea0, z0⟩ := at_int hC 0 (by simp)
        cases ea0
        have z0' : w15.cell? ⟨gD, 0, none⟩ = some (.int .i64 (fldT fby)) := z0
        have hm4 : cs.length + 1 ≤ dd := hcD
        have HSI := Lib.hid hsi
        have HCS := Lib.hid hcs
        clear hz hr hC hcD hCd hlen hCl hsi z0 gD0 gD1 hcl
        obtain ⟨n, hn⟩ : ∃ n, cs.length = n := ⟨_, rfl⟩
        rw [show (fldT fby :: cs).length = cs.length + 1 from rfl]
        rw [hn] at HSI hm3 hm4 ⊢
        have hn2 : n < 4611686018427387904 := by rw [← hn]; exact HCS.out
        have HNn := Lib.hid hn
        clear hn
        go_wp2_with fail
        refine HSI.out.mono ?_
        rintro e w16 ⟨rfl, nd, rfl⟩
        have hpp := HPP.out.step (pw_below_drewN (Below.refl _ w15) nd)
        clear HPP HSI
        have HPP := Lib.hid hpp
        clear hpp
        go_upto_region 19 with fail
        rw [← HNn.out]
        clear HF15 HNn HCS hm3 hm4 hn2 z0' t1 t2 t3 x0 x1 x2 x3 x4 x5
        generalize w15.drewN nd = w16 at HPP ⊢
      case' tz => generalize w15 = w16 at HPP ⊢
      all_goals
        have hF := HF3.out.step HPP.out.below
        have HF16 := Lib.hid hF
        obtain ⟨x0, x1, x2, x3, x4, x5⟩ := box6 hF.box
        clear hF
        go_wp2_with fail
        refine (twin_any wh lim HF16.out.qc HS.out).mono ?_
        rintro e w17 ⟨v0, v2, v3, v4, rfl, hq, hb⟩
        obtain ⟨R0, r0, R2, r2, R3, r3, R4, r4, rfl, rfl, rfl, rfl, hqc⟩ := hq.form
        have hpp := HPP.out.step hb
        have hpq := PQ.put hpp hq wh lim
        have hlb : w3.heap.size ≤ w16.heap.size := HPP.out.below.size
        have HLB := Lib.hid hlb
        clear hlb HPP HF16 hqc hb x0 x1 x2 x3 x4 x5
        have HPQ := Lib.hid hpq
        obtain ⟨y0, y1, y2, y3, y4, y5⟩ := box6 hpp.box
        have f := blk_frozen hpp.box
        have f0 := f 0
        have f1 := f 1
        have f2 := f 2
        have f3 := f 3
        have f4 := f 4
        have f5 := f 5
        clear hpp hq f hpq
        go_upto_region 20 with fail
        generalize (((((w17.setCell ⟨g9, 0, none⟩ (.slice R0 l0.length r0)).setCell ⟨g9, 1, none⟩ (.int .i64 wh)).setCell ⟨g9, 2, none⟩ (.slice R2 l2.length r2)).setCell ⟨g9, 3, none⟩ (.slice R3 l3.length r3)).setCell ⟨g9, 4, none⟩ (.slice R4 l4.length r4)).setCell ⟨g9, 5, none⟩ (.int .i64 lim) = w18 at HPQ ⊢
        clear y0 y1 y2 y3 y4 y5 f0 f1 f2 f3 f4 f5
        have hF := HF3.out.step HPQ.out.pp.below
        obtain ⟨x0, x1, x2, x3, x4, x5⟩ := box6 hF.box
        obtain ⟨y0, y1, y2, y3, y4, y5⟩ := box6 HPQ.out.pp.box
        have f := blk_frozen HPQ.out.pp.box
        have f3 := f 3
        have hz1 : W.heap.size < w18.heap.size := blk_lt hF.box
        have hz2 : g9 < w18.heap.size := blk_lt HPQ.out.pp.box
        obtain ⟨ad, ea, z0, z1⟩ := at_T47 hF.qc.r3 0 (by decide) (by have := HM4.out; omega)
        have z0' : w18.cell? ad = some (.int .i64 (rd_T47 l3 0).f0) := by have := z0; rw [show (0 : Int).toNat * 2 = 0 from rfl, add0] at this; exact this
        have z1' : w18.cell? ⟨ad.block, ad.off + 1, none⟩ = some (.int .i64 (rd_T47 l3 0).f1) := by have := z1; rw [show (0 : Int).toNat * 2 = 0 from rfl, add0] at this; exact this
        have hro := Kd.R_lower HPQ.out.qr.r3 (base' := w3.heap.size) HLB.out
        have HRO := Lib.hid hro
        clear hF f z0 z1 hro
        have q0 : 0 < l3.length := HM4.out
        have q1 : ((0 : Int) < (l3.length : Int)) = True := eq_true (by have := HM4.out; omega)
        generalize rd_T47 l3 0 = s0 at z0' z1' HM1
        subst ea
        obtain ⟨m3, hm3⟩ : ∃ m, l3 ++ [s0] = m := ⟨_, rfl⟩
        rw [hm3] at HM1
        have HM3' := Lib.hid hm3
        clear hm3
        go_cut [] (fun wx => ∃ T3 t3, PQ w3 g9 (.slice R0 l0.length r0) wh (.slice R2 l2.length r2) (.slice T3 m3.length t3) (.slice R4 l4.length r4) lim w3.heap.size (.slice R0 l0.length r0) (.slice R2 l2.length r2) (.slice T3 m3.length t3) (.slice R4 l4.length r4) l0 l2 m3 l4 wx)
        case' first =>
          go_region_law (first
            | (go_loud (refine Kd.R_append_step k47 (w0 := w3) w3.heap.size (by rfl) (.tmp 109) (.tmp 114) 29 47 (.agg #[.int .i64 0, .int .i64 0]) 16 rfl Tryd.underlying29 info47 rfl (by decide) (by decide) (.slice R3 l3.length r3) l3 s0 [.int .i64 s0.f0, .int .i64 s0.f1] (fun _ => True) (fun _ => False) (by rfl) (by rfl) (k47_mkM _ _ _ _) (fun _ h => h.elim) (fun _ _ => trivial) (Kd.R_drew HRO.out) (below_drew1 HPQ.out.pp.below) (by have := HPQ.out.pp.below.size; exact this) (by have := HN3.out; omega) ?_)
               intro v2 w19 hown hbel hg hat
               rw [HM3'.out] at hown
               obtain ⟨R3', r3', rfl⟩ := Kd.R_slice hown
               have hpq := HPQ.out.grown3 hg hown hbel HLB.out
               obtain ⟨y0, y1, y2, y3, y4, y5⟩ := box6 hpq.pp.box
               have f3 := blk_frozen hpq.pp.box 3
               have HPQ19 := Lib.hid hpq
               clear hown hbel hg hat hpq))
          all_goals
            (first | go_meet | (go_wp2_with fail; go_meet))
            exact ⟨R3', r3', HPQ19.out.set3 _⟩
        case' rest =>
          clear HPQ HRO HLB f3 x0 x1 x2 x3 x4 x5 y0 y1 y2 y3 y4 y5 z0' z1' hz1 hz2 q1
          obtain ⟨T3, t3, hpq⟩ := hcut
          obtain ⟨S0, s0', S2, s2', S3, s3', S4, s4', e0, e2, e3, e4, hqc⟩ := hpq.qr.form
          cases e0; cases e2; cases e3; cases e4
          have hpp := hpq.pp
          have HPP := Lib.hid hpp
          have hF := HF3.out.step hpp.below
          have HF20 := Lib.hid hF
          have HQ20 := Lib.hid hqc
          obtain ⟨y0, y1, y2, y3, y4, y5⟩ := box6 hpp.box
          clear hpq hqc hpp hF
          go_wp2_with fail
          refine (check_q wh lim HQ20.out (by have := HS.out.n0; omega) (by have := HN2.out; have := HN3.out; rw [← HM3'.out, List.length_append, List.length_singleton]; omega) HF20.out.glob).mono ?_
          rintro e w21 ⟨E, de, rfl, hr, hb⟩
          have hpp := HPP.out.step hb
          rw [HM1.out] at hr ⊢
          have hF := HF3.out.step hpp.below
          have HF21 := Lib.hid hF
          clear HPP
          have HPP := Lib.hid hpp
          obtain ⟨x0, x1, x2, x3, x4, x5⟩ := box6 hF.box
          obtain ⟨gE, cE, eE, gE0, gE1, _, _⟩ := Kd.R_form hr (by simp)
          cases eE
          have hcl := chk_len l0 wh l2 l3 l4 lim
          rw [HR.out] at hcl
          have hcs : cs.length < 4611686018427387904 := by have := HN2.out; have := HN3.out; simp only at hcl; omega
          have hC := (Kd.R_reads' hr).2.2
          have hcD := (Kd.R_reads' hr).2.1
          have hm3 : l2.length < cs.length := HM3.out
          have hlen : (cs ++ [t]).length = cs.length + 1 := by simp
          have hCt := Kd.C_take hC (m := cs.length) (by simp)
          have htk : (cs ++ [t]).take cs.length = cs := by simp
          rw [htk] at hCt
          have hCl := (Kd.R_reads' (Kd.R_below HL3.out HPP.out.below)).2
          rw [hlen] at hcD
          have hsi : ∀ nd, Calls Tryd.prog 18 #[.slice (some ⟨gE, 0, none⟩) cs.length de, .slice B cs.length d] (w21.drewN nd) fun e w' => e = .returned (.bool true) ∧ ∃ m, w' = w21.drewN m := fun nd => (daybooklaw14_sameInts.calls (cs.length + 0 + 1) (some ⟨gE, 0, none⟩) de cs B d cs true (w21.drewN nd) (Kd.C_drewN hCt nd) (by omega) (Kd.C_drewN hCl.2 nd) hCl.1 (sameInts_same cs hcs 0)).mono fun e w' ⟨he, nn, hn⟩ => ⟨he, nd + nn, by rw [hn, World.drewN_drewN]⟩
          obtain ⟨ad1, ea1, z1⟩ := at_int hC cs.length (by simp)
          cases ea1
          obtain ⟨ad2, ea2, z2⟩ := at_int hCl.2 l2.length hm3
          subst ea2
          have e1 : (cs ++ [t]).getD cs.length 0 = t := by simp [List.getD]
          have e2 : cs.getD l2.length 0 = t := HM2.out
          rw [e1] at z1
          rw [e2] at z2
          have z1' : w21.cell? ⟨gE, cs.length, none⟩ = some (.int .i64 t) := by have := z1; rw [add_plain] at this; simpa using this
          rw [hlen]
          have HSI := Lib.hid hsi
          clear hF hpp hb hr hcl hC hlen hCt htk hCl hsi e1 e2 gE0 gE1 z1 HF20 HQ20 y0 y1 y2 y3 y4 y5
          go_upto_region 22 with fail
          have ew : IntKind.i64.wrap ((cs.length : Int) + 1) = (cs.length : Int) + 1 := IntWalk.i64_in _ (by omega)
          have en : ((cs.length : Int)).toNat = cs.length := Int.toNat_natCast _
          have en2 : ((l2.length : Int)).toNat = l2.length := Int.toNat_natCast _
          have p1 : (0 : Int) ≤ (cs.length : Int) := by omega
          have p2 : (0 : Int) ≤ (l2.length : Int) := by omega
          have p3 : cs.length < cs.length + 1 := by omega
          go_quiet (exact HSI.out _)
          have hpp := HPP.out.step (pw_below_drewN (Below.refl _ w21) nq)
          have hF := HF3.out.step hpp.below
          clear HPP HSI ew en en2 p1 p2 p3 z1' z2 hm3 hcs hcD x0 x1 x2 x3 x4 x5 HF21
          have HPP := Lib.hid hpp
          have HF22 := Lib.hid hF
          obtain ⟨x0, x1, x2, x3, x4, x5⟩ := box6 hF.box
          obtain ⟨y0, y1, y2, y3, y4, y5⟩ := box6 hpp.box
          have f := blk_frozen hpp.box
          have f0 := f 0
          have f1 := f 1
          have f2 := f 2
          have f3 := f 3
          have f4 := f 4
          have f5 := f 5
          clear hF hpp f
          generalize w21.drewN nq = w22 at *
          refine by2 (p := wh < 0) ?_ ?_
          · intro hw
            have u1 : decide (wh < 0) = true := decide_eq_true hw
            have u2 : (wh < 0) = True := eq_true hw
            clear hw
            go_wp2_with fail
            go_ret
            exact ⟨rfl, HF22.out.below⟩
          intro hw
          have u1 : decide (wh < 0) = false := decide_eq_false hw
          have u2 : (wh < 0) = False := eq_false hw
          have HW := Lib.hid hw
          clear hw
          go_wp2_with fail
          refine (twin_any wh lim HF22.out.qc HS.out).mono ?_
          rintro e w23 ⟨v0, v2, v3, v4, rfl, hq, hb⟩
          obtain ⟨U0, z0, U2, z2, U3, z3, U4, z4, rfl, rfl, rfl, rfl, hqc⟩ := hq.form
          have hpp := HPP.out.step hb
          have hpq := PQ.put hpp hq wh lim
          have hlb : w3.heap.size ≤ w22.heap.size := HPP.out.below.size
          have HLB := Lib.hid hlb
          clear hlb HPP HF22 hqc hb x0 x1 x2 x3 x4 x5 y0 y1 y2 y3 y4 y5 f0 f1 f2 f3 f4 f5
          have HPQ := Lib.hid hpq
          obtain ⟨y0, y1, y2, y3, y4, y5⟩ := box6 hpp.box
          have f := blk_frozen hpp.box
          have f0 := f 0
          have f1 := f 1
          have f2 := f 2
          have f3 := f 3
          have f4 := f 4
          have f5 := f 5
          clear hpp hq f hpq
          go_upto_region 27 with fail
          generalize (((((w23.setCell ⟨g9, 0, none⟩ (.slice U0 l0.length z0)).setCell ⟨g9, 1, none⟩ (.int .i64 wh)).setCell ⟨g9, 2, none⟩ (.slice U2 l2.length z2)).setCell ⟨g9, 3, none⟩ (.slice U3 l3.length z3)).setCell ⟨g9, 4, none⟩ (.slice U4 l4.length z4)).setCell ⟨g9, 5, none⟩ (.int .i64 lim) = w24 at HPQ ⊢
          clear y0 y1 y2 y3 y4 y5 f0 f1 f2 f3 f4 f5
          have hF := HF3.out.step HPQ.out.pp.below
          obtain ⟨x0, x1, x2, x3, x4, x5⟩ := box6 hF.box
          obtain ⟨y0, y1, y2, y3, y4, y5⟩ := box6 HPQ.out.pp.box
          have f0 := blk_frozen HPQ.out.pp.box 0
          have hz1 : W.heap.size < w24.heap.size := blk_lt hF.box
          have hz2 : g9 < w24.heap.size := blk_lt HPQ.out.pp.box
          clear hF
          have hro := Kd.R_lower HPQ.out.qr.r0 HLB.out
          have HRO := Lib.hid hro
          have hhs : w3.heap.size ≤ w24.heap.size := HPQ.out.pp.below.size
          have HHS := Lib.hid hhs
          clear hro hhs
          go_wp2_with (at_builtin
                       go_loud (refine Kd.R_append_rows k37 (w0 := w3) w3.heap.size rfl (.tmp 169) (.tmp 179) 27 37 (.agg #[.int .i64 0, .int .i64 0, .int .i64 0, .int .i64 0, .int .i64 0, .string ⟨#[]⟩]) 56 rfl Tryd.underlying27 info37 rfl (by decide) (by omega) (.slice U0 l0.length z0) l0 [⟨3, wh, -1, 0, 0, ⟨#[]⟩⟩, ⟨2, wh, l0.length, 0, 0, ⟨#[]⟩⟩] (some ⟨w24.heap.size, 0, none⟩) 2 2 (fun _ => True) (fun _ => False) (by rfl) (by rfl) (Kd.R_alloc HRO.out _) (lit_two w24 ⟨3, wh, -1, 0, 0, ⟨#[]⟩⟩ ⟨2, wh, l0.length, 0, 0, ⟨#[]⟩⟩) (fun _ _ h => h) (fun _ h => h.elim) (fun _ _ => trivial) (fm_alloc HPQ.out.pp.below _) (by have := HHS.out; simp; omega) (by have := HN0.out; omega) ?_)
                       intro v2 w25 hown hbel hg hat
                       obtain ⟨m0, hm0⟩ : ∃ m, l0 ++ [⟨3, wh, -1, 0, 0, ⟨#[]⟩⟩, ⟨2, wh, l0.length, 0, 0, ⟨#[]⟩⟩] = m := ⟨_, rfl⟩
                       rw [hm0] at hown
                       have HM0 := Lib.hid hm0
                       obtain ⟨U0', z0', rfl⟩ := Kd.R_slice hown
                       have hpq := HPQ.out.grown0 _ hg hown hbel HLB.out
                       obtain ⟨y0, y1, y2, y3, y4, y5⟩ := box6 hpq.pp.box
                       have f0 := blk_frozen hpq.pp.box 0
                       have f1 := blk_frozen hpq.pp.box 1
                       have hF := HF3.out.step hbel
                       obtain ⟨x0, x1, x2, x3, x4, x5⟩ := box6 hF.box
                       have hne1 : W.heap.size ≠ g9 := by have := blk_lt HF3.out.box; have := HPQ.out.pp.g0; omega
                       have hne2 : g9 ≠ W.heap.size := fun h => hne1 h.symm
                       have ew : wrap64 ((l0.length : Int) + 1) = (l0.length : Int) + 1 := wrap_nat l0.length (by have := HS.out.n0; omega)
                       have HPQ25 := Lib.hid hpq
                       clear hown hbel hg hat hm0 hpq hF)
          have hpq := (HPQ25.out.set0 (.slice U0' m0.length z0')).set1 ((l0.length : Int) + 1)
          have HPQ26 := Lib.hid hpq
          clear hpq
          go_upto_region 29 with fail
          generalize (w25.setCell ⟨g9, 0, none⟩ (.slice U0' m0.length z0')).setCell ⟨g9, 1, none⟩ (.int .i64 ((l0.length : Int) + 1)) = w26 at HPQ26 ⊢
          clear HPQ HPQ25 HRO HLB HHS hz1 hz2 hne1 hne2 ew x0 x1 x2 x3 x4 x5 y0 y1 y2 y3 y4 y5 f0 f1
          obtain ⟨S0, s0', S2, s2', S3, s3', S4, s4', e0, e2, e3, e4, hqc⟩ := HPQ26.out.qr.form
          cases e0; cases e2; cases e3; cases e4
          have hF := HF3.out.step HPQ26.out.pp.below
          have HF26 := Lib.hid hF
          have HQ26 := Lib.hid hqc
          obtain ⟨x0, x1, x2, x3, x4, x5⟩ := box6 hF.box
          obtain ⟨y0, y1, y2, y3, y4, y5⟩ := box6 HPQ26.out.pp.box
          have hma := more_and (show (chkP l0 wh l2 l3 l4 lim).2 = 0 by rw [HR.out]) (by have := HW.out; omega)
          rw [HM0.out] at hma
          have hml : m0.length = l0.length + 2 := by rw [← HM0.out]; simp
          have hlk := like_eq (l0 := m0) (m0 := l0) (l2 := l2) (m2 := l2) (l3 := l3) (m3 := l3) (by have := HS.out.n0; omega) (by have := HS.out.n0; omega) HS.out.n5 HS.out.n5 hma
          have HLK := Lib.hid hlk
          clear hF hqc hma hml hlk
          go_wp2_with fail
          refine (like_q ((l0.length : Int) + 1) lim wh lim HQ26.out HF26.out.qc HLK.out HF26.out.glob).mono ?_
          rintro e w27 ⟨rfl, hb⟩
          have hbl := fm_call HF26.out.below hb
          have HBL := Lib.hid hbl
          clear hb hbl x0 x1 x2 x3 x4 x5 y0 y1 y2 y3 y4 y5
          go_wp2_with fail
          go_ret
          exact ⟨rfl, HBL.out⟩
end Go.Proofs.YtoamflnkaaconaaDoor.X
