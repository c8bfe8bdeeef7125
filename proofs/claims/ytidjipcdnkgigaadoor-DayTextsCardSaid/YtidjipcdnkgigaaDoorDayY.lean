/- The document's Print and Parse; the law DayTexts, walked. -/
import Derived.Test.YtidjipcdnkgigaaDoorDayX
namespace Go.Proofs.YtidjipcdnkgigaaDoor
set_option linter.unusedVariables false
set_option linter.unusedSimpArgs false
open Go.RowKit Go.ChangeShapes Go.WideShapes
open DayMath (leapP lp dim long cum num valid dY dM dD monthsOn monthsOK)

theorem dl4 (n : Int) (h1 : n ≤ 9999) : dl n 4 = [dgt (n.toNat / 1000), dgt (n.toNat / 100 % 10), dgt (n.toNat / 10 % 10), dgt (n.toNat % 10)] := by
  have e : n.toNat / 10 ^ 3 % 10 = n.toNat / 1000 := by omega
  have e0 : n.toNat / 10 ^ 0 % 10 = n.toNat % 10 := by omega
  simp only [dl, e, e0]
theorem dl2 (n : Int) (h1 : n ≤ 99) : dl n 2 = [dgt (n.toNat / 10), dgt (n.toNat % 10)] := by
  have e : n.toNat / 10 ^ 1 % 10 = n.toNat / 10 := by omega
  have e0 : n.toNat / 10 ^ 0 % 10 = n.toNat % 10 := by omega
  simp only [dl, e, e0]
theorem digits4_at {w2 w' : World} (h : Below w2.heap.size w2 w') (n : Int) (h0 : 0 ≤ n) (h1 : n ≤ 9999) :
    Calls Tryd.prog 46 #[.int .i64 n, .int .i64 4] w' fun e w'' => e = .returned (.string ⟨#[dgt (n.toNat / 1000), dgt (n.toNat / 100 % 10), dgt (n.toNat / 10 % 10), dgt (n.toNat % 10)]⟩) ∧ Below w2.heap.size w2 w'' :=
  (digits_any n 4 w' h0 h1 (by omega) (by omega)).mono fun _ _ ⟨he, hb⟩ => ⟨by rw [he, show (4 : Int).toNat = 4 from rfl, dl4 n h1], fm_call h hb⟩
theorem digits2_at {w2 w' : World} (h : Below w2.heap.size w2 w') (n : Int) (h0 : 0 ≤ n) (h1 : n ≤ 99) :
    Calls Tryd.prog 46 #[.int .i64 n, .int .i64 2] w' fun e w'' => e = .returned (.string ⟨#[dgt (n.toNat / 10), dgt (n.toNat % 10)]⟩) ∧ Below w2.heap.size w2 w'' :=
  (digits_any n 2 w' h0 (by omega) (by omega) (by omega)).mono fun _ _ ⟨he, hb⟩ => ⟨by rw [he, show (2 : Int).toNat = 2 from rfl, dl2 n h1], fm_call h hb⟩

set_option maxHeartbeats 2000000 in
/-- daybookref02.Print, of a day -/
theorem rprint_yes (n : Int) (w : World) (h1 : 1 ≤ n) (h2 : n ≤ 3652059) :
    Calls Tryd.prog 38 #[.int .i64 n] w fun e w' => e = .returned (.tuple #[.string (dayT n), .int .i64 0]) ∧ Below w.heap.size w w' := by
  have hs := (DayMath.date_spec n h1 h2).1
  unfold valid at hs
  obtain ⟨v1, v2, v3, v4, v5, v6⟩ := hs
  have hdb := DayMath.dim_bd (dY n) (dM n)
  go_enter Tryd.func38, Tryd.ntmps38
  go_wp2_with fail
  refine (rto_any _ _ h1 h2).mono ?_
  rintro e w1 ⟨rfl, hb1⟩
  have hsz := hb1.size
  go_wp2_with fail
  obtain ⟨w2, hw2⟩ : ∃ w2, w2 = w1.alloc (.cells #[.int .i64 (dY n), .int .i64 (dM n), .int .i64 (dD n)] 32) := ⟨_, rfl⟩
  have hb2 : Below w.heap.size w w2 := by rw [hw2]; exact hb1.alloc hsz _
  have q0 : w2.cell? ⟨w1.heap.size, 0, none⟩ = some (.int .i64 (dY n)) := by rw [hw2]; simp [go_sem]
  have q1 : w2.cell? ⟨w1.heap.size, 1, none⟩ = some (.int .i64 (dM n)) := by rw [hw2]; simp [go_sem]
  have q2 : w2.cell? ⟨w1.heap.size, 2, none⟩ = some (.int .i64 (dD n)) := by rw [hw2]; simp [go_sem]
  have hz2 : w1.heap.size < w2.heap.size := by rw [hw2]; simp
  rw [← hw2]
  clear hw2
  have C0 := Lib.hid (show ∀ w', Below w2.heap.size w2 w' → w'.cell? ⟨w1.heap.size, 0, none⟩ = some (.int .i64 (dY n)) from fun w' b => by rw [b.cell hz2]; exact q0)
  have C1 := Lib.hid (show ∀ w', Below w2.heap.size w2 w' → w'.cell? ⟨w1.heap.size, 1, none⟩ = some (.int .i64 (dM n)) from fun w' b => by rw [b.cell hz2]; exact q1)
  have C2 := Lib.hid (show ∀ w', Below w2.heap.size w2 w' → w'.cell? ⟨w1.heap.size, 2, none⟩ = some (.int .i64 (dD n)) from fun w' b => by rw [b.cell hz2]; exact q2)
  have R2 := (Below.refl w2.heap.size w2).drew
  go_region_held3 (fun w' => Below w2.heap.size w2 w' ∧ w'.cell? ⟨w1.heap.size, 0, none⟩ = some (.int .i64 (dY n)) ∧ w'.cell? ⟨w1.heap.size, 1, none⟩ = some (.int .i64 (dM n)) ∧ w'.cell? ⟨w1.heap.size, 2, none⟩ = some (.int .i64 (dD n)))
    (first | exact ⟨R2, C0.out _ R2, C1.out _ R2, C2.out _ R2⟩ | exact ⟨hbq, C0.out _ hbq, C1.out _ hbq, C2.out _ hbq⟩ | go_keep)
    (first
      | (go_at_call 46; ((with_reducible refine (digits4_at (by assumption) _ (by omega) (by omega)).mono ?_); rintro e w' ⟨rfl, hbq⟩))
      | (go_at_call 46; ((with_reducible refine (digits2_at (by assumption) _ (by omega) (by omega)).mono ?_); rintro e w' ⟨rfl, hbq⟩)))
  go_wp2
  go_ret2
  refine ⟨?_, fm_call hb2 (by first | assumption | (apply fm_drew; assumption))⟩
  rfl
set_option maxHeartbeats 1000000 in
theorem rprint_no (n : Int) (w : World) (h : n < 1 ∨ 3652059 < n) :
    Calls Tryd.prog 38 #[.int .i64 n] w fun e w' => e = .returned (.tuple #[.string ⟨#[]⟩, .int .i64 20]) ∧ Below w.heap.size w w' := by
  have H := Lib.hid h
  clear h
  go_enter Tryd.func38, Tryd.ntmps38
  go_wp2_with fail
  refine (rto_no _ _ H.out).mono ?_
  rintro e w1 ⟨rfl, hb1⟩
  go_wp2
  go_ret2
  exact ⟨rfl, hb1.alloc hb1.size _⟩

/-- the numbers that the document reads are those of the program, where all is as it must be -/
theorem numV_form {s : ByteArray} (h : form (bt s)) : numV (bt s) 0 4 = pY s ∧ numV (bt s) 5 2 = pM s ∧ numV (bt s) 8 2 = pD s := by
  have hd : ∀ j, j < 10 → j ≠ 4 → j ≠ 7 → 48 ≤ bt s j ∧ bt s j ≤ 57 := fun j hj a b => by
    have := h j hj; unfold okAt at this; rw [if_neg (by omega)] at this; exact this
  exact ⟨numV_ok fun j hj => hd _ (by omega) (by omega) (by omega), numV_ok fun j hj => hd _ (by omega) (by omega) (by omega), numV_ok fun j hj => hd _ (by omega) (by omega) (by omega)⟩
theorem parse_iff {s : ByteArray} (hs : s.size = 10) (h4 : bt s 4 = 45) (h7 : bt s 7 = 45) :
    parseOK s ↔ valid (numV (bt s) 0 4) (numV (bt s) 5 2) (numV (bt s) 8 2) := by
  constructor
  · rintro ⟨_, hf, hv⟩
    obtain ⟨a, b, c⟩ := numV_form hf
    rw [a, b, c]; exact hv
  · intro hv
    have d1 : allDig (bt s) 0 4 := by
      by_cases h : allDig (bt s) 0 4
      · exact h
      · rw [numV_bad h] at hv; unfold valid at hv; omega
    have d2 : allDig (bt s) 5 2 := by
      by_cases h : allDig (bt s) 5 2
      · exact h
      · rw [numV_bad h] at hv; unfold valid at hv; omega
    have d3 : allDig (bt s) 8 2 := by
      by_cases h : allDig (bt s) 8 2
      · exact h
      · rw [numV_bad h] at hv; unfold valid at hv; omega
    have hf : form (bt s) := by
      intro j hj
      unfold okAt
      by_cases h : j = 4 ∨ j = 7
      · rw [if_pos h]; rcases h with rfl | rfl
        · exact h4
        · exact h7
      · rw [if_neg h]
        by_cases a : j < 4
        · have := d1 j a; rw [Nat.zero_add] at this; exact this
        · by_cases b : j < 7
          · have := d2 (j - 5) (by omega); rw [show 5 + (j - 5) = j by omega] at this; exact this
          · have := d3 (j - 8) (by omega); rw [show 8 + (j - 8) = j by omega] at this; exact this
    obtain ⟨a, b, c⟩ := numV_form hf
    rw [a, b, c] at hv
    exact ⟨hs, hf, hv⟩

set_option maxHeartbeats 2000000 in
theorem rparse_len (s : ByteArray) (w : World) (hs : s.size ≤ 140737488351232) (h : s.size ≠ 10) :
    Calls Tryd.prog 36 #[.string s] w fun e w' => e = .returned (.tuple #[.int .i64 (parseV s), .int .i64 (parseE s)]) ∧ Below w.heap.size w w' := by
  obtain ⟨e1, e2⟩ := parse_bad (s := s) (fun hp => h hp.1)
  rw [e1, e2]
  have hb : ((s.size : Int) != 10) = true := by rw [bne_iff_ne]; omega
  clear h e1 e2
  go_enter Tryd.func36, Tryd.ntmps36
  go_wp2
  go_ret2
  exact ⟨rfl, Below.refl _ _⟩
set_option maxHeartbeats 2000000 in
theorem rparse_d4 (s : ByteArray) (w : World) (h : s.size = 10) (h4 : bt s 4 ≠ 45) :
    Calls Tryd.prog 36 #[.string s] w fun e w' => e = .returned (.tuple #[.int .i64 (parseV s), .int .i64 (parseE s)]) ∧ Below w.heap.size w w' := by
  obtain ⟨e1, e2⟩ := parse_bad (s := s) (fun hp => by have := hp.2.1 4 (by omega); unfold okAt at this; rw [if_pos (by omega)] at this; exact h4 this)
  have hq : (bt s 4 != 45) = true := bne_iff_ne.mpr h4
  rw [e1, e2]
  have hb : ((s.size : Int) != 10) = false := by rw [bne_eq_false_iff_eq]; omega
  have g4 : 4 < s.size := by omega
  have g7 : 7 < s.size := by omega
  have g4' : (4 : Int) < (s.size : Int) := by omega
  have g7' : (7 : Int) < (s.size : Int) := by omega
  have b4 := bt_eq g4
  have b7 := bt_eq g7
  clear h e1 e2
  go_enter Tryd.func36, Tryd.ntmps36
  go_wp2
  go_ret2
  exact ⟨rfl, Below.refl _ _⟩
set_option maxHeartbeats 2000000 in
theorem rparse_d7 (s : ByteArray) (w : World) (h : s.size = 10) (h4 : bt s 4 = 45) (h7 : bt s 7 ≠ 45) :
    Calls Tryd.prog 36 #[.string s] w fun e w' => e = .returned (.tuple #[.int .i64 (parseV s), .int .i64 (parseE s)]) ∧ Below w.heap.size w w' := by
  obtain ⟨e1, e2⟩ := parse_bad (s := s) (fun hp => by have := hp.2.1 7 (by omega); unfold okAt at this; rw [if_pos (by omega)] at this; exact h7 this)
  have hq : (bt s 4 != 45) = false := by rw [bne_eq_false_iff_eq]; exact h4
  have hq2 : (bt s 7 != 45) = true := bne_iff_ne.mpr h7
  clear h4
  rw [e1, e2]
  have hb : ((s.size : Int) != 10) = false := by rw [bne_eq_false_iff_eq]; omega
  have g4 : 4 < s.size := by omega
  have g7 : 7 < s.size := by omega
  have g4' : (4 : Int) < (s.size : Int) := by omega
  have g7' : (7 : Int) < (s.size : Int) := by omega
  have b4 := bt_eq g4
  have b7 := bt_eq g7
  clear h e1 e2
  go_enter Tryd.func36, Tryd.ntmps36
  go_wp2
  go_ret2
  exact ⟨rfl, Below.refl _ _⟩
set_option maxHeartbeats 2000000 in
theorem rparse_good (s : ByteArray) (w : World) (h : s.size = 10) (h4 : bt s 4 = 45) (h7 : bt s 7 = 45) (hv : valid (numV (bt s) 0 4) (numV (bt s) 5 2) (numV (bt s) 8 2)) :
    Calls Tryd.prog 36 #[.string s] w fun e w' => e = .returned (.tuple #[.int .i64 (parseV s), .int .i64 (parseE s)]) ∧ Below w.heap.size w w' := by
  have hp := (parse_iff h h4 h7).2 hv
  obtain ⟨e1, e2⟩ := parse_good hp
  obtain ⟨a, b, c⟩ := numV_form hp.2.1
  rw [← a, ← b, ← c] at e1
  rw [e1, e2]
  clear a b c e1 e2 hp
  have hb : ((s.size : Int) != 10) = false := by rw [bne_eq_false_iff_eq]; omega
  have hq : (bt s 4 != 45) = false := by rw [bne_eq_false_iff_eq]; exact h4
  have hq2 : (bt s 7 != 45) = false := by rw [bne_eq_false_iff_eq]; exact h7
  have g10 : 10 ≤ s.size := by omega
  have gu : s.size ≤ 140737488351232 := by omega
  have g4 : 4 < s.size := by omega
  have g7 : 7 < s.size := by omega
  have g4' : (4 : Int) < (s.size : Int) := by omega
  have g7' : (7 : Int) < (s.size : Int) := by omega
  have b4 := bt_eq g4
  have b7 := bt_eq g7
  have HV := Lib.hid hv
  clear h h4 h7 hv
  go_enter Tryd.func36, Tryd.ntmps36
  go_wp2_with fail
  refine (number_any s _ _ 0 4 _ rfl rfl (by omega) (by omega) gu).mono ?_
  rintro e w1 ⟨rfl, rfl⟩
  go_wp2_with fail
  refine (number_any s _ _ 5 2 _ rfl rfl (by omega) (by omega) gu).mono ?_
  rintro e w1 ⟨rfl, rfl⟩
  go_wp2_with fail
  refine (number_any s _ _ 8 2 _ rfl rfl (by omega) (by omega) gu).mono ?_
  rintro e w1 ⟨rfl, rfl⟩
  go_wp2_with fail
  refine (rfrom_yes _ _ _ _ HV.out).mono ?_
  rintro e w1 ⟨rfl, hb1⟩
  go_wp2
  go_ret2
  exact ⟨rfl, hb1⟩
set_option maxHeartbeats 2000000 in
theorem rparse_nodate (s : ByteArray) (w : World) (h : s.size = 10) (h4 : bt s 4 = 45) (h7 : bt s 7 = 45) (hv : ¬ valid (numV (bt s) 0 4) (numV (bt s) 5 2) (numV (bt s) 8 2)) :
    Calls Tryd.prog 36 #[.string s] w fun e w' => e = .returned (.tuple #[.int .i64 (parseV s), .int .i64 (parseE s)]) ∧ Below w.heap.size w w' := by
  have hp : ¬ parseOK s := fun q => hv ((parse_iff h h4 h7).1 q)
  obtain ⟨e1, e2⟩ := parse_bad hp
  rw [e1, e2]
  clear e1 e2 hp
  have hb : ((s.size : Int) != 10) = false := by rw [bne_eq_false_iff_eq]; omega
  have hq : (bt s 4 != 45) = false := by rw [bne_eq_false_iff_eq]; exact h4
  have hq2 : (bt s 7 != 45) = false := by rw [bne_eq_false_iff_eq]; exact h7
  have g10 : 10 ≤ s.size := by omega
  have gu : s.size ≤ 140737488351232 := by omega
  have g4 : 4 < s.size := by omega
  have g7 : 7 < s.size := by omega
  have g4' : (4 : Int) < (s.size : Int) := by omega
  have g7' : (7 : Int) < (s.size : Int) := by omega
  have b4 := bt_eq g4
  have b7 := bt_eq g7
  have HV := Lib.hid hv
  clear h h4 h7 hv
  go_enter Tryd.func36, Tryd.ntmps36
  go_wp2_with fail
  refine (number_any s _ _ 0 4 _ rfl rfl (by omega) (by omega) gu).mono ?_
  rintro e w1 ⟨rfl, rfl⟩
  go_wp2_with fail
  refine (number_any s _ _ 5 2 _ rfl rfl (by omega) (by omega) gu).mono ?_
  rintro e w1 ⟨rfl, rfl⟩
  go_wp2_with fail
  refine (number_any s _ _ 8 2 _ rfl rfl (by omega) (by omega) gu).mono ?_
  rintro e w1 ⟨rfl, rfl⟩
  go_wp2_with fail
  refine (rfrom_no _ _ _ _ HV.out).mono ?_
  rintro e w1 ⟨rfl, hb1⟩
  go_wp2
  go_ret2
  exact ⟨rfl, hb1⟩
/-- daybookref02.Parse, of every text -/
theorem rparse_any (s : ByteArray) (w : World) (hs : s.size ≤ 140737488351232) :
    Calls Tryd.prog 36 #[.string s] w fun e w' => e = .returned (.tuple #[.int .i64 (parseV s), .int .i64 (parseE s)]) ∧ Below w.heap.size w w' := by
  by_cases h : s.size = 10
  · by_cases h4 : bt s 4 = 45
    · by_cases h7 : bt s 7 = 45
      · by_cases hv : valid (numV (bt s) 0 4) (numV (bt s) 5 2) (numV (bt s) 8 2)
        · exact rparse_good s w h h4 h7 hv
        · exact rparse_nodate s w h h4 h7 hv
      · exact rparse_d7 s w h h4 h7
    · exact rparse_d4 s w h h4
  · exact rparse_len s w hs h

set_option maxHeartbeats 2000000 in
theorem dayTexts_in (s : ByteArray) (n : Int) (w : World) (hs : s.size ≤ 140737488351232) (hL : LW w) (h1 : 1 ≤ n) (h2 : n ≤ 3652059) :
    Calls Tryd.prog 11 #[.string s, .int .i64 n] w fun e w' => e = .returned (.bool true) ∧ Below w.heap.size w w' := by
  have HL := Lib.hid hL
  clear hL
  go_enter Tryd.func11, Tryd.ntmps11
  go_wp2_with fail
  refine (parse_any _ _ hs HL.out.md).mono ?_
  rintro e w1 ⟨rfl, hb1⟩
  go_wp2_with fail
  refine (rparse_any _ _ hs).mono ?_
  rintro e w2 ⟨rfl, hb2⟩
  have f2 : Below w.heap.size w w2 := fm_call hb1 hb2
  go_wp2_with (go_at_call 16; refine (alike_yes _ _ _).mono ?_; rintro e w' ⟨rfl, rfl⟩)
  refine (print_T _ _ (HL.out.below f2) h1 h2).mono ?_
  rintro e w3 ⟨rfl, hb3⟩
  go_wp2_with fail
  refine (rprint_yes _ _ h1 h2).mono ?_
  rintro e w4 ⟨rfl, hb4⟩
  go_wp2
  go_ret
  exact ⟨by first | rfl | (simp; done), by repeat (first | exact Below.refl _ _ | assumption | apply fm_alloc | apply fm_drewN | apply fm_drew | refine fm_call ?_ (by assumption))⟩
set_option maxHeartbeats 2000000 in
theorem dayTexts_out (s : ByteArray) (n : Int) (w : World) (hs : s.size ≤ 140737488351232) (hL : LW w) (h : n < 1 ∨ 3652059 < n) :
    Calls Tryd.prog 11 #[.string s, .int .i64 n] w fun e w' => e = .returned (.bool true) ∧ Below w.heap.size w w' := by
  have HL := Lib.hid hL
  have H := Lib.hid h
  clear h
  clear hL
  go_enter Tryd.func11, Tryd.ntmps11
  go_wp2_with fail
  refine (parse_any _ _ hs HL.out.md).mono ?_
  rintro e w1 ⟨rfl, hb1⟩
  go_wp2_with fail
  refine (rparse_any _ _ hs).mono ?_
  rintro e w2 ⟨rfl, hb2⟩
  have f2 : Below w.heap.size w w2 := fm_call hb1 hb2
  go_wp2_with (go_at_call 16; refine (alike_yes _ _ _).mono ?_; rintro e w' ⟨rfl, rfl⟩)
  refine (print_no _ _ H.out).mono ?_
  rintro e w3 ⟨rfl, hb3⟩
  go_wp2_with fail
  refine (rprint_no _ _ H.out).mono ?_
  rintro e w4 ⟨rfl, hb4⟩
  go_wp2
  go_ret
  exact ⟨by first | rfl | (simp; done), by repeat (first | exact Below.refl _ _ | assumption | apply fm_alloc | apply fm_drewN | apply fm_drew | refine fm_call ?_ (by assumption))⟩
theorem dayTexts_walk (s : ByteArray) (n : Int) (w : World) (hs : s.size ≤ 140737488351232) (hw : (Lit.int .i64 n).wf = true) (hL : LW w) :
    Calls Tryd.prog 11 #[.string s, .int .i64 n] w fun e w' => e = .returned (.bool true) ∧ Below w.heap.size w w' := by
  by_cases h : n < 1 ∨ 3652059 < n
  · exact dayTexts_out s n w hs hL h
  · exact dayTexts_in s n w hs hL (by omega) (by omega)

end Go.Proofs.YtidjipcdnkgigaaDoor
