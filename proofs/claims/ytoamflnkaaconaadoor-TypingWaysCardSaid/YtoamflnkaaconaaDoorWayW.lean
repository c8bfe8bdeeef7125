/- The law TypingWays walked. -/
import Derived.Test.YtoamflnkaaconaaDoorQry
import Derived.Test.YtoamflnkaaconaaDoorWay
namespace Go.Proofs.YtoamflnkaaconaaDoor.X
set_option linter.unusedVariables false
set_option linter.unusedSimpArgs false
open Go.RowKit Go.Proofs.YtoamflnkaaconaaDoorW.PrintWords
section
variable {w w' : World} {A0 : Option Addr} {c0 : Nat} {l0 : List S37} {A2 : Option Addr} {c2 : Nat} {l2 : List Int} {A3 : Option Addr} {c3 : Nat} {l3 : List S47} {A4 : Option Addr} {c4 : Nat} {l4 : List S69}
theorem plan_q (wh lim : Int) (Q : QC w A0 c0 l0 A2 c2 l2 A3 c3 l3 A4 c4 l4) (h0 : l0.length < 2513169434916) (h3 : l3.length < 8796093022208) (h2 : l2.length + l3.length < 28147497670000) (G : Glob w) :
    Calls Tryd.prog 20 #[qv A0 c0 l0 wh A2 c2 l2 A3 c3 l3 A4 c4 l4 lim] w fun e w' => e = .returned (.int .i64 (planP l0 wh l2 l3 l4 lim)) ∧ Below w.heap.size w w' :=
  typing_Plan.calls (2 * l0.length + l3.length + 4) A0 c0 l0 wh A2 c2 l2 A3 c3 l3 A4 c4 l4 lim _ w Q.r0 Q.s0 Q.r2 Q.s2 Q.r3 Q.s3 Q.r4 Q.s4 (plan_is l0 wh l2 l3 l4 lim h0 h3 h2 _ (Nat.le_refl _)) G
theorem all_q (wh lim : Int) (Q : QC w A0 c0 l0 A2 c2 l2 A3 c3 l3 A4 c4 l4) (hs : ShOk l0 l3) (h3 : l3.length < 8796093022208) :
    Calls Tryd.prog 23 #[qv A0 c0 l0 wh A2 c2 l2 A3 c3 l3 A4 c4 l4 lim] w fun e w' => e = .returned (.bool (bareP l0 l3)) ∧ Below w.heap.size w w' :=
  daybooklaw14_all.calls (l3.length + 1) A0 c0 l0 wh A2 c2 l2 A3 c3 l3 A4 c4 l4 lim _ w Q.r0 Q.s0 Q.r2 Q.s2 Q.r3 Q.s3 Q.r4 Q.s4 (by
    have := all_l0 l0 wh l2 l3 l4 lim hs h3 l3.length 0 (l3.length + 1) (by omega) (by omega)
    simpa [daybooklaw14_all.f] using this)
end
/-- what is known of the way and the columns -/
theorem plan_facts (l0 : List S37) (wh : Int) (l2 : List Int) (l3 : List S47) (l4 : List S69) (lim : Int) :
    (planP l0 wh l2 l3 l4 lim = 1 ∧ (chkP l0 wh l2 l3 l4 lim).2 ≠ 0) ∨
    (planP l0 wh l2 l3 l4 lim = 1 ∧ (chkP l0 wh l2 l3 l4 lim).2 = 0 ∧ ¬ wh < 0) ∨
    (planP l0 wh l2 l3 l4 lim = 1 ∧ (chkP l0 wh l2 l3 l4 lim).2 = 0 ∧ wh < 0 ∧ l2.length ≠ 0) ∨
    (planP l0 wh l2 l3 l4 lim = 1 ∧ (chkP l0 wh l2 l3 l4 lim).2 = 0 ∧ wh < 0 ∧ l2.length = 0 ∧ bareP l0 l3 = false ∧ ShOk l0 l3) ∨
    (planP l0 wh l2 l3 l4 lim = 2 ∧ (chkP l0 wh l2 l3 l4 lim).2 = 0 ∧ l2.length = 0) ∨
    (planP l0 wh l2 l3 l4 lim = 3 ∧ (chkP l0 wh l2 l3 l4 lim).2 = 0 ∧ l2.length = 0 ∧ ¬ wh < 0) := by
  unfold planP
  by_cases h0 : (chkP l0 wh l2 l3 l4 lim).2 = 0
  · rw [if_pos h0]
    obtain ⟨hok, hw, hsh, _⟩ := chk_zero h0
    cases hb : (l2.isEmpty && bareP l0 l3) with
    | false =>
      have e : wayP l0 wh l2 l3 = 1 := by unfold wayP; rw [if_pos hb]
      rw [e]
      by_cases hn : wh < 0
      · by_cases h2 : l2.length = 0
        · have h2' : l2.isEmpty = true := by cases l2 with | nil => rfl | cons => simp at h2
          rw [h2', Bool.true_and] at hb
          exact Or.inr (Or.inr (Or.inr (Or.inl ⟨rfl, h0, hn, h2, hb, hsh⟩)))
        · exact Or.inr (Or.inr (Or.inl ⟨rfl, h0, hn, h2⟩))
      · exact Or.inr (Or.inl ⟨rfl, h0, hn⟩)
    | true =>
      have h2 : l2.length = 0 := by
        rw [Bool.and_eq_true] at hb
        have := hb.1
        cases l2 with | nil => rfl | cons => simp at this
      unfold wayP
      rw [if_neg (by rw [hb]; simp)]
      by_cases hm : wh = -1
      · rw [if_pos hm]; exact Or.inr (Or.inr (Or.inr (Or.inr (Or.inl ⟨rfl, h0, h2⟩))))
      · rw [if_neg hm]
        have hn : ¬ wh < 0 := by omega
        split
        · exact Or.inr (Or.inr (Or.inr (Or.inr (Or.inl ⟨rfl, h0, h2⟩))))
        · split
          · exact Or.inr (Or.inr (Or.inr (Or.inr (Or.inr ⟨rfl, h0, h2, hn⟩))))
          · exact Or.inr (Or.inl ⟨rfl, h0, hn⟩)
  · rw [if_neg h0]; exact Or.inl ⟨rfl, h0⟩

theorem fr_alloc {w0 : World} {A0 : Option Addr} {c0 : Nat} {l0 : List S37} {wh : Int} {A2 : Option Addr} {c2 : Nat} {l2 : List Int} {A3 : Option Addr} {c3 : Nat} {l3 : List S47} {A4 : Option Addr} {c4 : Nat} {l4 : List S69} {lim : Int} {w : World}
    {P0 : Option Addr} {q0 : Nat} {P2 : Option Addr} {q2 : Nat} {P3 : Option Addr} {q3 : Nat} {P4 : Option Addr} {q4 : Nat} {x1 x5 : Int}
    (h : Fr w0 A0 c0 l0 wh A2 c2 l2 A3 c3 l3 A4 c4 l4 lim w) (q : QC w P0 q0 l0 P2 q2 l2 P3 q3 l3 P4 q4 l4) :
    Fr w0 A0 c0 l0 wh A2 c2 l2 A3 c3 l3 A4 c4 l4 lim (w.alloc (.cells #[.slice P0 l0.length q0, .int .i64 x1, .slice P2 l2.length q2, .slice P3 l3.length q3, .slice none 0 0, .int .i64 x5] 32)) ∧
    QC (w.alloc (.cells #[.slice P0 l0.length q0, .int .i64 x1, .slice P2 l2.length q2, .slice P3 l3.length q3, .slice none 0 0, .int .i64 x5] 32)) P0 q0 l0 P2 q2 l2 P3 q3 l3 none 0 [] ∧
    (w.alloc (.cells #[.slice P0 l0.length q0, .int .i64 x1, .slice P2 l2.length q2, .slice P3 l3.length q3, .slice none 0 0, .int .i64 x5] 32)).heap[w.heap.size]? = some (.cells #[.slice P0 l0.length q0, .int .i64 x1, .slice P2 l2.length q2, .slice P3 l3.length q3, .slice none 0 0, .int .i64 x5] 32 (0, 0)) := by
  have b := fm_alloc (Below.refl _ w) (.cells #[.slice P0 l0.length q0, .int .i64 x1, .slice P2 l2.length q2, .slice P3 l3.length q3, .slice none 0 0, .int .i64 x5] 32)
  have k := q.step b
  exact ⟨h.step b, ⟨k.r0, k.s0, k.r2, k.s2, k.r3, k.s3, ⟨rfl, Nat.zero_le _, fun h => absurd h (Nat.lt_irrefl 0)⟩, Nat.le_refl _⟩, heap_alloc_new w _⟩
theorem plan_same {l0 : List S37} {wh : Int} {l2 : List Int} {l3 : List S47} {l4 l4' : List S69} {lim lim' : Int} (h : (chkP l0 wh l2 l3 l4' lim').2 = (chkP l0 wh l2 l3 l4 lim).2) : planP l0 wh l2 l3 l4' lim' = planP l0 wh l2 l3 l4 lim := by
  unfold planP; rw [h]
set_option maxHeartbeats 4000000 in
set_option maxRecDepth 100000 in
theorem ways_walk (A0 : Option Addr) (c0 : Nat) (l0 : List S37) (wh : Int) (A2 : Option Addr) (c2 : Nat) (l2 : List Int) (A3 : Option Addr) (c3 : Nat) (l3 : List S47) (A4 : Option Addr) (c4 : Nat) (l4 : List S69) (lim a1 : Int) (W : World)
    (Q : Qry W A0 c0 l0 wh A2 c2 l2 A3 c3 l3 A4 c4 l4 lim) (w1 : I64 a1) (G : Glob W) :
    Calls Tryd.prog 8 #[qv A0 c0 l0 wh A2 c2 l2 A3 c3 l3 A4 c4 l4 lim, .int .i64 a1] W fun e W' => e = .returned (.bool true) ∧ Below W.heap.size W W' := by
  have hS := Q.sz
  have hF := Fr.start (wh := wh) (lim := lim) Q.qc G
  have HS := Lib.hid hS
  have HF := Lib.hid hF
  have hpf := plan_facts l0 wh l2 l3 l4 lim
  have HP := Lib.hid hpf
  clear hS hF Q w1 G hpf
  go_enter Tryd.func8, Tryd.ntmps8
  go_wp2_with fail
  generalize W.alloc (.cells #[.slice A0 l0.length c0, .int .i64 wh, .slice A2 l2.length c2, .slice A3 l3.length c3, .slice A4 l4.length c4, .int .i64 lim] 32) = W0 at HF ⊢
  refine (first_q _ HF.out.glob).mono ?_
  rintro e w1 ⟨rfl, hb⟩
  have hF := HF.out.step hb
  have HF1 := Lib.hid hF
  clear hb
  obtain ⟨x0, x1, x2, x3, x4, x5⟩ := box6 hF.box
  clear hF HF
  go_wp2_with fail
  refine (twin_c wh lim HF1.out.qc HS.out).mono ?_
  rintro e w2 ⟨B0, d0, B2, d2, B3, d3, B4, d4, rfl, hq, hb⟩
  have hF := HF1.out.step hb
  have HF2 := Lib.hid hF
  have HQ2 := Lib.hid hq
  clear hb hq hF HF1 x0 x1 x2 x3 x4 x5
  go_wp2_with fail
  refine (plan_q wh lim HQ2.out HS.out.n0 HS.out.n3 HS.out.n5 HF2.out.glob).mono ?_
  rintro e w3 ⟨rfl, hb⟩
  have hF := HF2.out.step hb
  have HF3 := Lib.hid hF
  obtain ⟨x0, x1, x2, x3, x4, x5⟩ := box6 hF.box
  clear hb hF HF2 HQ2
  go_wp2_with fail
  refine (twin_c wh lim HF3.out.qc HS.out).mono ?_
  rintro e w4 ⟨B0, d0, B2, d2, B3, d3, B4, d4, rfl, hq, hb⟩
  have hF := HF3.out.step hb
  have HF4 := Lib.hid hF
  have HQ4 := Lib.hid hq
  clear hb hq hF HF3 x0 x1 x2 x3 x4 x5
  go_wp2_with fail
  refine (check_q wh lim HQ4.out (by have := HS.out.n0; omega) HS.out.n5 HF4.out.glob).mono ?_
  rintro e w5 ⟨B, d, rfl, hr, hb⟩
  have hF := HF4.out.step hb
  have HF5 := Lib.hid hF
  obtain ⟨x0, x1, x2, x3, x4, x5⟩ := box6 hF.box
  clear hb hF hr HF4 HQ4
  go_upto_region 4 with fail
  have hp := HP.out
  obtain ⟨a, ha⟩ : ∃ a, planP l0 wh l2 l3 l4 lim = a := ⟨_, rfl⟩
  obtain ⟨e, he⟩ : ∃ e, (chkP l0 wh l2 l3 l4 lim).2 = e := ⟨_, rfl⟩
  rw [ha, he] at hp ⊢
  have HA := Lib.hid ha
  have HE := Lib.hid he
  clear HP ha he
  rcases hp with ⟨rfl, e0⟩ | ⟨rfl, rfl, n0⟩ | ⟨rfl, rfl, n0, n2⟩ | ⟨rfl, rfl, n0, n2, nb, ns⟩ | ⟨rfl, rfl, n2⟩ | ⟨rfl, rfl, n2, n0⟩
  case' inl =>
    have t1 : (e == 0) = false := beq_eq_false_iff_ne.2 e0
    have t2 : (e = 0) = False := eq_false e0
    have t3 : (e != 0) = true := by simp [bne, t1]
    clear e0
    go_upto_region 8 with fail
  case' inr.inl =>
    have t1 : (decide (wh < 0)) = false := decide_eq_false (by omega)
    have t2 : (wh < 0) = False := eq_false (by omega)
    go_upto_region 8 with fail
  case' inr.inr.inl =>
    have t1 : (decide (wh < 0)) = true := decide_eq_true n0
    have t2 : (wh < 0) = True := eq_true n0
    have t3 : (l2.length == 0) = false := beq_eq_false_iff_ne.2 n2
    have t4 : ((l2.length : Int) == 0) = false := beq_eq_false_iff_ne.2 (by omega)
    have t5 : (l2.length = 0) = False := eq_false n2
    have t6 : decide (0 < l2.length) = true := decide_eq_true (by omega)
    go_upto_region 8 with fail
  case' inr.inr.inr.inl =>
    have t1 : (decide (wh < 0)) = true := decide_eq_true n0
    have t2 : (wh < 0) = True := eq_true n0
    have t3 : (l2.length == 0) = true := beq_iff_eq.2 n2
    have t4 : ((l2.length : Int) == 0) = true := beq_iff_eq.2 (by omega)
    have t5 : (l2.length = 0) = True := eq_true n2
    have HN := Lib.hid ns
    have HB := Lib.hid nb
    clear ns nb n2
    go_upto_region 8 with fail
    refine (all_q wh lim HF5.out.qc HN.out HS.out.n3).mono ?_
    rintro e w6 ⟨rfl, hb⟩
    rw [HB.out]
    have hF := HF5.out.step hb
    clear HF5 hb x0 x1 x2 x3 x4 x5
    have HF5 := Lib.hid hF
    obtain ⟨x0, x1, x2, x3, x4, x5⟩ := box6 hF.box
    clear hF
    go_upto_region 8 with fail
  case' inr.inr.inr.inr.inl =>
    have t6 : decide (0 < l2.length) = false := decide_eq_false (by omega)
    have t7 : ((l2.length : Int) > 0) = False := eq_false (by omega)
    have t8 : (0 < l2.length) = False := eq_false (by omega)
    clear n2
    go_upto_region 8 with fail
  case' inr.inr.inr.inr.inr =>
    have t6 : decide (0 < l2.length) = false := decide_eq_false (by omega)
    have t7 : ((l2.length : Int) > 0) = False := eq_false (by omega)
    have t8 : (0 < l2.length) = False := eq_false (by omega)
    clear n2
    have t1 : (decide (wh < 0)) = false := decide_eq_false (by omega)
    have t2 : (wh < 0) = False := eq_false (by omega)
    go_upto_region 8 with fail
  all_goals
    go_wp2_with fail
    refine (twin_c wh lim HF5.out.qc HS.out).mono ?_
    rintro e1 w7 ⟨P0, q0, P2, q2, P3, q3, P4, q4, rfl, hq, hb⟩
    have hF := HF5.out.step hb
    clear HF5 hb x0 x1 x2 x3 x4 x5
    have HF7 := Lib.hid hF
    have HQ7 := Lib.hid hq
    clear hF hq
    go_upto_region 10 with fail
    by_cases hl : -1 ≤ a1
    case' pos =>
      have u1 : decide (a1 ≥ -1) = true := decide_eq_true hl
      have u2 : (a1 ≥ -1) = True := eq_true hl
      clear hl
      go_upto_region 12 with fail
      have hx := fr_alloc (x1 := wh) (x5 := a1) HF7.out HQ7.out
      generalize w7.alloc (.cells #[.slice P0 l0.length q0, .int .i64 wh, .slice P2 l2.length q2, .slice P3 l3.length q3, .slice none 0 0, .int .i64 a1] 32) = w9 at hx ⊢
    case' neg =>
      have u1 : decide (a1 ≥ -1) = false := decide_eq_false hl
      have u2 : (a1 ≥ -1) = False := eq_false hl
      clear hl
      go_upto_region 12 with fail
      have hx := fr_alloc (x1 := wh) (x5 := lim) HF7.out HQ7.out
      generalize w7.alloc (.cells #[.slice P0 l0.length q0, .int .i64 wh, .slice P2 l2.length q2, .slice P3 l3.length q3, .slice none 0 0, .int .i64 lim] 32) = w9 at hx ⊢
    all_goals
      obtain ⟨hF, hq, hbx⟩ := hx
      obtain ⟨y0, y1, y2, y3, y4, y5⟩ := box6 hbx
      have HF9 := Lib.hid hF
      have HQ9 := Lib.hid hq
      have HB9 := Lib.hid hbx
      clear hF hq hbx HF7 HQ7
      go_wp2_with fail
      refine (twin_c (l4 := []) wh _ HQ9.out ⟨HS.out.n0, HS.out.n2, HS.out.n3, by decide, HS.out.n5⟩).mono ?_
      rintro e1 w10 ⟨B0, d0, B2, d2, B3, d3, B4, d4, rfl, hq, hb⟩
      have hbx := HB9.out
      rw [← hb.block _ ((Array.getElem?_eq_some_iff.1 hbx).1)] at hbx
      have hF := HF9.out.step hb
      have hq9 := HQ9.out.step hb
      have HB10 := Lib.hid hbx
      have HF10 := Lib.hid hF
      have HP10 := Lib.hid hq9
      have HQ10 := Lib.hid hq
      clear hF hq hbx hq9 HF9 HQ9 HB9 hb y0 y1 y2 y3 y4 y5
      go_wp2_with fail
      refine (check_q wh _ HQ10.out (by have := HS.out.n0; omega) HS.out.n5 HF10.out.glob).mono ?_
      rintro e2 w11 ⟨B, d, rfl, hr, hb⟩
      have hbx := HB10.out
      rw [← hb.block _ ((Array.getElem?_eq_some_iff.1 hbx).1)] at hbx
      have hF := HF10.out.step hb
      have hq := HP10.out.step hb
      obtain ⟨y0, y1, y2, y3, y4, y5⟩ := box6 hbx
      have HF11 := Lib.hid hF
      have HP11 := Lib.hid hq
      clear hF hr hq hb hbx HB10 HF10 HP10 HQ10
      have HPS := fun lx => @plan_same l0 wh l2 l3 l4 [] lim lx
      rw [HA.out, HE.out] at HPS
      first
        | (specialize HPS a1
           obtain ⟨f, hf⟩ : ∃ f, (chkP l0 wh l2 l3 [] a1).2 = f := ⟨_, rfl⟩
           rw [hf] at HPS ⊢
           clear hf)
        | (specialize HPS lim
           obtain ⟨f, hf⟩ : ∃ f, (chkP l0 wh l2 l3 [] lim).2 = f := ⟨_, rfl⟩
           rw [hf] at HPS ⊢
           clear hf)
      first
        | (by_cases hfe : f = e)
        | (by_cases hfe : f = 0)
      case' pos =>
        have hpp := HPS hfe
        subst hfe
        have HPP := Lib.hid hpp
        clear hpp HPS
        go_wp2_with fail
        refine (plan_q (l4 := []) wh _ HP11.out HS.out.n0 HS.out.n3 HS.out.n5 HF11.out.glob).mono ?_
        rintro e3 w12 ⟨rfl, hb⟩
        rw [HPP.out]
        have hbl := fm_call HF11.out.below hb
        have HBL := Lib.hid hbl
        clear hb hbl
        go_wp2_with fail
        go_ret
        exact ⟨rfl, HBL.out⟩
      case' neg =>
        have t91 := beq_eq_false_iff_ne.2 hfe
        have t92 := eq_false hfe
        have t93 := bne_iff_ne.2 hfe
        clear hfe HPS
        go_wp2_with fail
        go_ret
        exact ⟨rfl, HF11.out.below⟩
end Go.Proofs.YtoamflnkaaconaaDoor.X
