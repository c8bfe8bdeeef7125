/- The law TypingParts walked. -/
import Derived.Test.YtoamflnkaaconaaDoorPs
namespace Go.Proofs.YtoamflnkaaconaaDoor.X
set_option linter.unusedVariables false
set_option linter.unusedSimpArgs false
open Go.RowKit Go.Proofs.YtoamflnkaaconaaDoorW.PrintWords
theorem field_q (f : Int) (w : World) (G : Glob w) : Calls Tryd.prog 9 #[.int .i64 f] w fun e w' => e = .returned (.tuple #[.string (fldN f), .int .i64 (fldT f)]) ∧ Below w.heap.size w w' :=
  typing_Field.calls f (fldN f) (fldT f) w rfl G
theorem by2 {p q : Prop} (a : p → q) (b : ¬ p → q) : q := (Classical.em p).elim a b
theorem set_same (l : List S37) (i : Int) (h0 : 0 ≤ i) (h1 : i < l.length) : l.set i.toNat (rd_T37 l i) = l := by
  unfold rd_T37
  have e : l.getD i.toNat z37 = l[i.toNat] := by simp [List.getD, show i.toNat < l.length by omega]
  rw [e]; exact List.set_getElem_self _
set_option maxHeartbeats 4000000 in
set_option maxRecDepth 100000 in
theorem parts_walk (A0 : Option Addr) (c0 : Nat) (l0 : List S37) (wh : Int) (A2 : Option Addr) (c2 : Nat) (l2 : List Int) (A3 : Option Addr) (c3 : Nat) (l3 : List S47) (A4 : Option Addr) (c4 : Nat) (l4 : List S69) (lim a1 num : Int) (text : ByteArray) (fld : Int) (W : World)
    (Q : Qry W A0 c0 l0 wh A2 c2 l2 A3 c3 l3 A4 c4 l4 lim) (w1 : I64 a1) (w2 : I64 num) (w3 : text.size ≤ 140737488351232) (w4 : I64 fld) (G : Glob W) :
    Calls Tryd.prog 4 #[qv A0 c0 l0 wh A2 c2 l2 A3 c3 l3 A4 c4 l4 lim, .int .i64 a1, .int .i64 num, .string text, .int .i64 fld] W fun e W' => e = .returned (.bool true) ∧ Below W.heap.size W W' := by
  have hS := Q.sz
  have hF := Fr.start (wh := wh) (lim := lim) Q.qc G
  have HS := Lib.hid hS
  have HF := Lib.hid hF
  clear hS hF Q w1 w2 w3 w4 G
  go_enter Tryd.func4, Tryd.ntmps4
  go_wp2_with fail
  generalize W.alloc (.cells #[.slice A0 l0.length c0, .int .i64 wh, .slice A2 l2.length c2, .slice A3 l3.length c3, .slice A4 l4.length c4, .int .i64 lim] 32) = W0 at HF ⊢
  refine (first_q _ HF.out.glob).mono ?_
  rintro e w1 ⟨rfl, hb⟩
  have hF := HF.out.step hb
  have HF1 := Lib.hid hF
  clear hb
  obtain ⟨x0, x1, x2, x3, x4, x5⟩ := box6 hF.box
  clear hF HF
  go_wp2_with fail
  refine (twin_any wh lim HF1.out.qc HS.out).mono ?_
  rintro e w2 ⟨v0, v2, v3, v4, rfl, hq, hb⟩
  clear x0 x1 x2 x3 x4 x5
  have HQ2 := Lib.hid hq
  have HB2 := Lib.hid hb
  clear hq hb
  by_cases hr : a1 < 0 ∨ (l0.length : Int) ≤ a1
  · obtain ⟨P0, q0, P2, q2, P3, q3, P4, q4, rfl, rfl, rfl, rfl, hqc⟩ := HQ2.out.form
    clear hqc HQ2
    have hbl := fm_call HF1.out.below HB2.out
    have HBL := Lib.hid hbl
    clear hbl
    by_cases h0 : a1 < 0
    · have t1 : decide (a1 < 0) = true := decide_eq_true h0
      have t2 : (a1 < 0) = True := eq_true h0
      clear hr h0
      go_wp2_with fail
      go_ret
      exact ⟨rfl, fm_alloc HBL.out _⟩
    · have t1 : decide (a1 < 0) = false := decide_eq_false h0
      have t2 : (a1 < 0) = False := eq_false h0
      have t3 : decide (a1 ≥ (l0.length : Int)) = true := decide_eq_true (by omega)
      have t4 : ((l0.length : Int) ≤ a1) = True := eq_true (by omega)
      clear hr h0
      go_wp2_with fail
      go_ret
      exact ⟨rfl, fm_alloc HBL.out _⟩
  · have h0 : 0 ≤ a1 := by omega
    have h1 : a1 < l0.length := by omega
    clear hr
    obtain ⟨A, a2, B2, b2, B3, b3, B4, b4, e0, rfl, rfl, rfl, hqc⟩ := HQ2.out.form
    clear hqc
    obtain ⟨g, cap, rfl, hP⟩ := PS.mk1 HQ2.out (by omega) HB2.out wh lim
    clear e0 HQ2 HB2
    have HP := Lib.hid hP
    have H0 := Lib.hid h0
    have H1 := Lib.hid h1
    clear hP
    have t1 : decide (a1 < 0) = false := decide_eq_false (by omega)
    have t2 : (a1 < 0) = False := eq_false (by omega)
    have t3 : decide (a1 ≥ (l0.length : Int)) = false := decide_eq_false (by omega)
    have t4 : ((l0.length : Int) ≤ a1) = False := eq_false (by omega)
    have t5 : (0 ≤ a1) = True := eq_true h0
    have t6 : (a1 < (l0.length : Int)) = True := eq_true h1
    clear h0 h1
    go_upto_region 6 with fail
    generalize w2.alloc (.cells #[.slice (some ⟨g, 0, none⟩) l0.length cap, .int .i64 wh, .slice B2 l2.length b2, .slice B3 l3.length b3, .slice B4 l4.length b4, .int .i64 lim] 32) = w3 at HP ⊢
    generalize w2.heap.size = g9 at HP ⊢
    obtain ⟨⟨z0, z1, z2, z3, z4, z5⟩, zf⟩ := HP.out.cells a1 H0.out H1.out
    have zf3 := zf 3
    have zf4 := zf 4
    have zf5 := zf 5
    clear zf
    obtain ⟨n, hn⟩ : ∃ n, rd_T37 l0 a1 = n := ⟨_, rfl⟩
    have hst := fun j hj u x' => HP.out.store a1 H0.out H1.out j hj u x'
    have hps : PS w1 g9 g cap (.slice B2 l2.length b2) (.slice B3 l3.length b3) (.slice B4 l4.length b4) wh lim (l0.set a1.toNat n) l2 l3 l4 w3 := by
      rw [← hn, set_same l0 a1 H0.out H1.out]; exact HP.out
    rw [hn] at z0 z1 z2 z3 z4 z5 hst
    have hgl := hst
    have HN := Lib.hid hn
    have HST := Lib.hid hst
    have HPS := Lib.hid hps
    clear hn hst hps hgl
    refine by2 (p := n.f0 = 17) ?c17p ?c17n
    case' c17p =>
      intro c17
      have hpp := HST.out 4 (by decide) (.int .i64 num) (partP n num text fld) (by unfold partP; rw [if_pos c17]; rfl)
      have HPP := Lib.hid hpp
      have k1 : (n.f0 == 17) = true := beq_iff_eq.2 c17
      have k2 : (n.f0 = 17) = True := eq_true c17
      clear c17 hpp
      go_upto_region 19 with fail
      generalize w3.setCell ⟨g, a1.toNat * 6 + 4, none⟩ (.int .i64 num) = w4 at HPP ⊢
    case' c17n =>
      intro c17
      have k1 : (n.f0 == 17) = false := beq_eq_false_iff_ne.2 c17
      have k2 : (n.f0 = 17) = False := eq_false c17
      refine by2 (p := n.f0 = 18) ?c18p ?c18n
      case' c18p =>
        intro c18
        have hpp := HST.out 5 (by decide) (.string text) (partP n num text fld) (by unfold partP; rw [if_neg c17, if_pos c18]; rfl)
        have HPP := Lib.hid hpp
        have k3 : (n.f0 == 18) = true := beq_iff_eq.2 c18
        have k4 : (n.f0 = 18) = True := eq_true c18
        clear c17 c18 hpp
        go_upto_region 19 with fail
        generalize w3.setCell ⟨g, a1.toNat * 6 + 5, none⟩ (.string text) = w4 at HPP ⊢
      case' c18n =>
        intro c18
        have k3 : (n.f0 == 18) = false := beq_eq_false_iff_ne.2 c18
        have k4 : (n.f0 = 18) = False := eq_false c18
        refine by2 (p := n.f0 = 19) ?c19p ?c19n
        case' c19p =>
          intro c19
          have k5 : (n.f0 == 19) = true := beq_iff_eq.2 c19
          have k6 : (n.f0 = 19) = True := eq_true c19
          refine by2 (p := (1 ≤ n.f4 ∧ n.f4 ≤ 3652059) ∧ 1 ≤ num ∧ num ≤ 3652059) ?hdp ?hdn
          case' hdp =>
            intro hd
            have hpp := HST.out 4 (by decide) (.int .i64 num) (partP n num text fld) (by unfold partP; rw [if_neg c17, if_neg c18, if_pos c19, if_pos hd]; rfl)
            have HPP := Lib.hid hpp
            have q1 : decide (n.f4 ≥ 1) = true := decide_eq_true (by omega)
            have q2 : decide (n.f4 ≤ 3652059) = true := decide_eq_true (by omega)
            have q3 : decide (num ≥ 1) = true := decide_eq_true (by omega)
            have q4 : decide (num ≤ 3652059) = true := decide_eq_true (by omega)
            have r1 : (1 ≤ n.f4) = True := eq_true (by omega)
            have r2 : (n.f4 ≤ 3652059) = True := eq_true (by omega)
            have r3 : (1 ≤ num) = True := eq_true (by omega)
            have r4 : (num ≤ 3652059) = True := eq_true (by omega)
            clear c17 c18 c19 hpp hd
            go_upto_region 19 with fail
            generalize w3.setCell ⟨g, a1.toNat * 6 + 4, none⟩ (.int .i64 num) = w4 at HPP ⊢
          case' hdn =>
            intro hd
            have hpp := HPS.out
            rw [show n = partP n num text fld by unfold partP; rw [if_neg c17, if_neg c18, if_pos c19, if_neg hd]] at hpp
            have HPP := Lib.hid hpp
            clear c17 c18 c19 hpp HST HPS
            refine by2 (p := 1 ≤ n.f4) ?q1p ?q1n
            case' q1p =>
              intro q1
              have q1' : decide (n.f4 ≥ 1) = true := decide_eq_true q1
              have r1 : (1 ≤ n.f4) = True := eq_true q1
              refine by2 (p := n.f4 ≤ 3652059) ?q2p ?q2n
              case' q2p =>
                intro q2
                have q2' : decide (n.f4 ≤ 3652059) = true := decide_eq_true q2
                have r2 : (n.f4 ≤ 3652059) = True := eq_true q2
                refine by2 (p := 1 ≤ num) ?q3p ?q3n
                case' q3p =>
                  intro q3
                  have q3' : decide (num ≥ 1) = true := decide_eq_true q3
                  have r3 : (1 ≤ num) = True := eq_true q3
                  have q4' : decide (num ≤ 3652059) = false := decide_eq_false (by omega)
                  have r4 : (num ≤ 3652059) = False := eq_false (by omega)
                  clear hd q1 q2 q3
                  go_upto_region 19 with fail
                case' q3n =>
                  intro q3
                  have q3' : decide (num ≥ 1) = false := decide_eq_false q3
                  have r3 : (1 ≤ num) = False := eq_false q3
                  clear hd q1 q2 q3
                  go_upto_region 19 with fail
              case' q2n =>
                intro q2
                have q2' : decide (n.f4 ≤ 3652059) = false := decide_eq_false q2
                have r2 : (n.f4 ≤ 3652059) = False := eq_false q2
                clear hd q1 q2
                go_upto_region 19 with fail
            case' q1n =>
              intro q1
              have q1' : decide (n.f4 ≥ 1) = false := decide_eq_false q1
              have r1 : (1 ≤ n.f4) = False := eq_false q1
              clear hd q1
              go_upto_region 19 with fail
            all_goals generalize w3 = w4 at HPP ⊢
        case' c19n =>
          intro c19
          have k5 : (n.f0 == 19) = false := beq_eq_false_iff_ne.2 c19
          have k6 : (n.f0 = 19) = False := eq_false c19
          refine by2 (p := n.f0 = 16) ?c16p ?c16n
          case' c16p =>
            intro c16
            have k7 : (n.f0 == 16) = true := beq_iff_eq.2 c16
            have k8 : (n.f0 = 16) = True := eq_true c16
            have hpa : partP n num text fld = if fldT n.f3 = fldT fld then ⟨n.f0, n.f1, n.f2, fld, n.f4, n.f5⟩ else n := by
              unfold partP; rw [if_neg c17, if_neg c18, if_neg c19, if_pos c16]
            have HPA := Lib.hid hpa
            clear c17 c18 c19 c16 hpa HST
            go_wp2_with fail
            refine (field_q n.f3 _ (HF1.out.far HPS.out).glob).mono ?_
            rintro e w4 ⟨rfl, hb⟩
            have hps := HPS.out.step hb
            have HPS4 := Lib.hid hps
            clear hps hb HPS HP z0 z1 z2 z3 z4 z5 zf3 zf4 zf5
            go_wp2_with fail
            refine (field_q fld _ (HF1.out.far HPS4.out).glob).mono ?_
            rintro e w5 ⟨rfl, hb⟩
            have hps := HPS4.out.step hb
            rw [← HN.out, set_same l0 a1 H0.out H1.out] at hps
            obtain ⟨⟨z0, z1, z2, z3, z4, z5⟩, zf⟩ := hps.cells a1 H0.out H1.out
            have zf3 := zf 3
            rw [HN.out] at z0 z1 z2 z3 z4 z5
            refine by2 (p := fldT n.f3 = fldT fld) ?cfp ?cfn
            case' cfp =>
              intro cf
              have hst := hps.store a1 H0.out H1.out 3 (by decide) (.int .i64 fld) (partP n num text fld) (by rw [HN.out, HPA.out, if_pos cf]; rfl)
              have HPP := Lib.hid hst
              have kf1 : (fldT n.f3 == fldT fld) = true := beq_iff_eq.2 cf
              have kf2 : (fldT n.f3 = fldT fld) = True := eq_true cf
              clear hst hps hb HPS4 zf cf
              go_upto_region 19 with fail
              generalize w5.setCell ⟨g, a1.toNat * 6 + 3, none⟩ (.int .i64 fld) = w4 at HPP ⊢
            case' cfn =>
              intro cf
              rw [← set_same l0 a1 H0.out H1.out, HN.out, show n = partP n num text fld by rw [HPA.out, if_neg cf]] at hps
              have HPP := Lib.hid hps
              have kf1 : (fldT n.f3 == fldT fld) = false := beq_eq_false_iff_ne.2 cf
              have kf2 : (fldT n.f3 = fldT fld) = False := eq_false cf
              clear hps hb HPS4 zf cf
              go_upto_region 19 with fail
              generalize w5 = w4 at HPP ⊢
          case' c16n =>
            intro c16
            have k7 : (n.f0 == 16) = false := beq_eq_false_iff_ne.2 c16
            have k8 : (n.f0 = 16) = False := eq_false c16
            have hpp := HPS.out
            rw [show n = partP n num text fld by unfold partP; rw [if_neg c17, if_neg c18, if_neg c19, if_neg c16]] at hpp
            have HPP := Lib.hid hpp
            clear c17 c18 c19 c16 hpp
            go_upto_region 19 with fail
            generalize w3 = w4 at HPP ⊢
    all_goals
      try clear z0 z1 z2 z3 z4 z5 zf3
      try clear z0 z1 z2 z3 z4 z5 zf3 zf4 zf5
      have hty := part_tys l0 a1 H0.out H1.out num text fld
      rw [HN.out] at hty
      have hlen : (l0.set a1.toNat (partP n num text fld)).length = l0.length := List.length_set
      obtain ⟨m0, hm⟩ : ∃ m, l0.set a1.toNat (partP n num text fld) = m := ⟨_, rfl⟩
      rw [hm] at hty hlen HPP
      have hF := HF1.out.far HPP.out
      have HF4 := Lib.hid hF
      have hlk := like_is 0 m0 l0 wh l2 l3 l4 lim (by have := HS.out.n0; omega) (by have := HS.out.n0; omega) HS.out.n5 hty
      have HLK := Lib.hid hlk
      clear hlk hty hlen hm
      obtain ⟨x0, x1, x2, x3, x4, x5⟩ := box6 hF.box
      obtain ⟨y0, y1, y2, y3, y4, y5⟩ := box6 HPP.out.box
      clear hF
      go_wp2_with fail
      refine (like_q wh lim wh lim HPP.out.qc HF4.out.qc HLK.out HF4.out.glob).mono ?_
      rintro e w7 ⟨rfl, hb⟩
      have hbl := fm_call HF4.out.below hb
      have HBL := Lib.hid hbl
      clear hb hbl x0 x1 x2 x3 x4 x5 y0 y1 y2 y3 y4 y5
      go_wp2_with fail
      go_ret
      exact ⟨rfl, HBL.out⟩
end Go.Proofs.YtoamflnkaaconaaDoor.X
