/- The walk of the law MoneySums. -/
import Derived.Test.YtncndmhmmfbklaaMonR
import Derived.Test.YtncndmhmmfbklaaMonS
namespace Go.Proofs.Ytncndmhmmfbklaa
set_option linter.unusedVariables false
set_option linter.unusedSimpArgs false
open Go.RowKit
open Go.Proofs.YtncndmhmmfbklaaW.PrintWords

def halfUp (x : Int) : Int := x.tdiv 2 + 1
theorem halfUp_in {x : Int} (h : -9223372036854775808 ≤ x ∧ x ≤ 9223372036854775807) : -9223372036854775808 ≤ halfUp x ∧ halfUp x ≤ 9223372036854775807 := by
  unfold halfUp
  by_cases h0 : 0 ≤ x
  · rw [Int.tdiv_eq_ediv_of_nonneg h0]; omega
  · obtain ⟨y, rfl⟩ : ∃ y, x = -y := ⟨-x, by omega⟩
    rw [Int.neg_tdiv, Int.tdiv_eq_ediv_of_nonneg (by omega)]; omega

def rowF (l : List Int) (i : Nat) : Int := l.getD i 0
def rowH (l : List Int) (i : Nat) : Int := halfUp (l.getD i 0)
structure HalfRel (w wr : World) (g : Nat) (l : List Int) (k : Nat) : Prop where
  bel : Below w.heap.size w wr
  lt : g < wr.heap.size
  cells : ∀ j, j < l.length → wr.cell? ⟨g, j, none⟩ = some (.int .i64 (if j < k then halfUp (l.getD j 0) else l.getD j 0))
  fz : ∀ o, wr.frozen? ⟨g, o, none⟩ = false

theorem HalfRel.step {w wr : World} {g k : Nat} {l : List Int} (h : HalfRel w wr g l k) (hg : w.heap.size ≤ g) (hk : k < l.length) (z : Int) (hz : z = halfUp (l.getD k 0)) :
    HalfRel w (wr.setCell ⟨g, k, none⟩ (.int .i64 z)) g l (k + 1) where
  bel := h.bel.setCell hg _
  lt := by have := h.lt; simpa [World.setCell] using this
  cells := fun j hj => by
    by_cases e : j = k
    · subst e
      rw [if_pos (by omega), ← hz]
      have h2 := h.cells j hj
      simp [go_sem, h2]
    · rw [World.cell?_setCell_other _ _ _ _ (by intro q; injection q with q1 q2; exact e (by omega)), h.cells j hj]
      by_cases q : j < k
      · rw [if_pos q, if_pos (by omega)]
      · rw [if_neg q, if_neg (by omega)]
  fz := fun o => by have := h.fz o; simpa [go_sem] using this

set_option maxHeartbeats 2000000 in
theorem sums_walk (A : Option Addr) (cap : Nat) (l : List Int) (w : World) (hr : ReadsInt w .i64 A l.length l) (hl : l.length ≤ 17592186044352)
    (hf : ∀ i, i < l.length → -9223372036854775808 ≤ l.getD i 0 ∧ l.getD i 0 ≤ 9223372036854775807) :
    Calls Try.prog 3 #[.slice A l.length cap] w fun e w' => e = .returned (.bool true) ∧ Below w.heap.size w w' := by
  have HR := Lib.hid hr
  have HF := Lib.hid hf
  clear hr hf
  go_enter Try.func3, Try.ntmps3
  go_wp2_with fail
  refine (piece_any A cap l w HR.out hl).mono ?_
  rintro e w1 ⟨v, rfl, hown, hb1⟩
  rw [show (l ++ marks 64).length = l.length + 64 by simp [marks_length]] at hown
  obtain ⟨g, c1, rfl, hg0, hg1⟩ := hown.form (by omega)
  obtain ⟨A1, c1', hv, hR1⟩ := own_reads hown
  injection hv with hv1 hv2 hv3
  subst hv1
  clear hv2 hv3 c1'
  have hc1 : l.length + 64 ≤ c1 ∧ c1 ≤ 9223372036854775807 := by
    rcases hown.2 with ⟨q, _⟩ | ⟨g', cap', cur, he, _, _, h1, h2, _⟩
    · cases q
    · injection he with _ _ he; subst he; simp only [maxLen] at h2; exact ⟨h1, h2⟩
  have HC1 := Lib.hid hc1
  have HOWN := Lib.hid hown
  have HR1 := Lib.hid hR1
  have HB1 := Lib.hid hb1
  have HG := Lib.hid (And.intro hg0 hg1)
  have hn0 : (l.length : Int) ≤ (c1 : Int) := by omega
  have hn1 : (0 : Int) ≤ (l.length : Int) := by omega
  clear hown hR1 hb1 hc1 hg0 hg1
  have CE := Lib.hid (show ∀ i, i < l.length → w1.cell? ⟨g, i, none⟩ = some (.int .i64 (l.getD i 0)) from fun i hi => by
    obtain ⟨ad, e, hc⟩ := HR1.out.2.2 (by omega)
    injection e with e
    subst e
    have h2 := hc i (by omega)
    rw [add_plain, show (l ++ marks 64).getD i 0 = l.getD i 0 by simp [List.getD_eq_getElem?_getD, List.getElem?_append_left hi]] at h2
    exact h2)
  have CA := Lib.hid (show ∀ w', Below w.heap.size w w' → ∀ i, i < l.length → ∃ ad, A = some ad ∧ ad.block < w'.heap.size ∧ w'.cell? (ad.add i) = some (.int .i64 (l.getD i 0)) from fun w' hb i hi => by
    obtain ⟨ad, e, hc⟩ := HR.out.2.2 (by omega)
    have h2 := hc i hi
    have h3 := World.block_lt_of_cell? w _ h2
    rw [Mon_block_of_add] at h3
    exact ⟨ad, e, Nat.lt_of_lt_of_le h3 hb.size, pw_cell_below hb h2⟩)
  go_wp2_with fail
  refine (sum_gen (some ⟨g, 0, none⟩) l.length c1 (rowF l) _ (by omega) (fun i hi => ⟨_, rfl, by rw [add_plain]; exact CE.out i hi⟩) HF.out).mono ?_
  rintro e w2 ⟨rfl, rfl⟩
  go_wp2_with fail
  refine (rsum_gen A l.length cap (rowF l) _ (by omega) (CA.out _ HB1.out) HF.out).mono ?_
  rintro e w2 ⟨rfl, hb2⟩
  go_wp2_with fail
  refine (kept_any (some ⟨g, 0, none⟩) A c1 cap l w2 (ReadsInt.below HR1.out hb2) (ReadsInt.below HR.out (fm_call HB1.out hb2)) hl).mono ?_
  rintro e w3 ⟨rfl, hb3⟩
  have HB3 := Lib.hid (fm_call hb2 hb3)
  clear hb2 hb3
  generalize hV : sumV (rowF l) l.length = V
  generalize hE : sumE (rowF l) l.length = E
  clear hV hE
  have q1 : (V == V) = true := beq_self_eq_true _
  have q2 : (E == E) = true := beq_self_eq_true _
  have REL0 := Lib.hid (show HalfRel w w3 g l 0 from ⟨fm_call HB1.out HB3.out, Nat.lt_of_lt_of_le HG.out.2 HB3.out.size,
    fun j hj => by rw [if_neg (by omega)]; exact pw_cell_below HB3.out (CE.out j hj),
    fun o => by rw [HB3.out.frozen (p := ⟨g, o, none⟩) HG.out.2]; exact HOWN.out.frozenAt o⟩)
  go_wp2
  go_loopw [9] (fun i wr => ∃ k : Nat, k ≤ l.length ∧ i = .int .i64 k ∧ HalfRel w wr g l k) (fun i _ => l.length - (intOf i).toNat)
  case atStart => exact ⟨0, by omega, rfl, REL0.out⟩
  case round =>
    obtain ⟨k, hk, rfl, hR⟩ := hrel
    by_cases hlt : k < l.length
    · have x0 := hR.cells k hlt
      rw [if_neg (by omega)] at x0
      have xf := hR.fz k
      have hx := HF.out k hlt
      have hh := halfUp_in hx
      generalize hy : l.getD k 0 = y at x0 hx hh
      have HY := Lib.hid hy
      clear hy
      have HHR := Lib.hid hR
      have HX := Lib.hid hh
      clear hR hh
      have k1 : (0 : Int) ≤ (k : Int) := by omega
      have k2 : (k : Int) < (l.length : Int) + 64 := by omega
      go_wp2_with fail
      have e1 : wrap64 (y.tdiv 2 + 1) = halfUp y := by
        have h2 := HX.out
        unfold halfUp at *
        generalize y.tdiv 2 + 1 = z at *
        unfold wrap64
        omega
      rw [e1]
      exact ⟨⟨k + 1, by omega, by go_num, HHR.out.step HG.out.1 hlt _ (by rw [HY.out])⟩, by simp [intOf]; omega⟩
    · obtain rfl : k = l.length := by omega
      have CE2 := Lib.hid (show ∀ i, i < l.length → wr.cell? ⟨g, i, none⟩ = some (.int .i64 (rowH l i)) from fun i hi => by
        have h2 := hR.cells i hi
        rw [if_pos hi] at h2
        exact h2)
      have HF2 := Lib.hid (show ∀ i, i < l.length → -9223372036854775808 ≤ rowH l i ∧ rowH l i ≤ 9223372036854775807 from fun i hi => halfUp_in (HF.out i hi))
      have RD := Lib.hid (show ReadsInt wr .i64 (some ⟨g, 0, none⟩) l.length (l.map halfUp) from ⟨by simp, by omega, fun _ => ⟨_, rfl, fun j hj => by
        rw [add_plain, CE2.out j hj]
        unfold rowH
        simp [List.getD_eq_getElem?_getD, List.getElem?_map, List.getElem?_eq_getElem hj]⟩⟩)
      have HB := Lib.hid hR.bel
      have HS := Lib.hid hR.bel.size
      have q3 : (sumV (rowH l) l.length == sumV (rowH l) l.length) = true := beq_self_eq_true _
      have q4 : (sumE (rowH l) l.length == sumE (rowH l) l.length) = true := beq_self_eq_true _
      clear hR
      go_wp2_with fail
      refine (sum_gen (some ⟨g, 0, none⟩) l.length c1 (rowH l) _ (by omega) (fun i hi => ⟨_, rfl, by rw [add_plain]; exact CE2.out i hi⟩) HF2.out).mono ?_
      rintro e w5 ⟨rfl, rfl⟩
      go_wp2_with (first
        | (at_builtin
           refine print_append_row (w0 := w) w.heap.size rfl _ (.tmp 67) 22 2 .i64 8 rfl Try.underlying22 i64_info (by omega) (.slice none 0 0) [] (l.map halfUp) (some ⟨g, 0, none⟩) l.length c1 rfl rfl (own_nil _ _ _ _) RD.out HB.out HS.out (by simp; omega) ?_
           intro v1 w6 hown1 hbel1 hg1 hat1
           rw [show ([] ++ l.map halfUp) = l.map halfUp from rfl, List.length_map] at hown1
           obtain ⟨A2, c2, rfl, hR2⟩ := own_reads hown1
           have HR2 := Lib.hid hR2
           have HB6 := Lib.hid hbel1
           clear hown1 hbel1 hg1 hat1 hR2)
        | (go_at_call 9
           refine (rsum_gen A2 l.length c2 (rowH l) _ (by omega) (fun i hi => by
             obtain ⟨ad, e, hc⟩ := HR2.out.2.2 (by omega)
             have h2 := hc i hi
             have h3 := World.block_lt_of_cell? _ _ h2
             rw [Mon_block_of_add] at h3
             refine ⟨ad, e, h3, ?_⟩
             rw [h2]
             unfold rowH
             simp [List.getD_eq_getElem?_getD, List.getElem?_map, List.getElem?_eq_getElem hi]) HF2.out).mono ?_
           rintro e w7 ⟨rfl, hb7⟩))
      go_ret
      exact ⟨rfl, fm_call HB6.out hb7⟩
end Go.Proofs.Ytncndmhmmfbklaa
