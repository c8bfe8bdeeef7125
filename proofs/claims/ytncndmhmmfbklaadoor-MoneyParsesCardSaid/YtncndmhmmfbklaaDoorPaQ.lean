/- The document's machine over an amount's text and the code's reading give the same, in plain Lean. -/
import Derived.Test.YtncndmhmmfbklaaDoorPaR
namespace Go.Proofs.YtncndmhmmfbklaaDoor
set_option linter.unusedVariables false
set_option linter.unusedSimpArgs false
open Go.RowKit Go.Lib
open X (digB isDec foldD valD joinP okP parseP cut_dot cut_none)
theorem scan_pre (d : Nat) (A r : List UInt8) : ∀ (w : Int) (v : Nat), A.all digB = true → scan d (A ++ r) w (-1) v = scan d r (w + A.length) (-1) (foldD v A) := by
  induction A with
  | nil => intro w v _; simp [foldD]
  | cons c A ih =>
    intro w v ha
    rw [List.all_cons, Bool.and_eq_true] at ha
    have h46 : ¬ (c.toNat = 46 ∧ (-1 : Int) < 0 ∧ 0 < d) := by
      intro h
      have := ha.1
      unfold X.digB at this
      rw [Bool.and_eq_true, decide_eq_true_iff, decide_eq_true_iff] at this
      omega
    rw [List.cons_append, scan, if_neg h46, if_pos ha.1, if_pos (by omega), if_pos (by omega), ih _ _ ha.2]
    have : foldD v (c :: A) = foldD (v * 10 + (c.toNat - 48)) A := rfl
    rw [this, List.length_cons]
    congr 1
    omega
theorem scan_bad (d : Nat) (A r : List UInt8) : ∀ (w : Int) (v : Nat), A.all digB = false → (∀ c ∈ A, c ≠ 46) → scan d (A ++ r) w (-1) v = none := by
  induction A with
  | nil => intro w v h; cases h
  | cons c A ih =>
    intro w v ha hn
    have hc : c ≠ 46 := hn c (by simp)
    have h46 : ¬ (c.toNat = 46 ∧ (-1 : Int) < 0 ∧ 0 < d) := fun h => hc (by
      apply UInt8.toNat_inj.1; rw [h.1]; rfl)
    rw [List.cons_append, scan, if_neg h46]
    by_cases hd : digB c = true
    · rw [if_pos hd, if_pos (by omega), if_pos (by omega)]
      exact ih _ _ (by rw [List.all_cons, hd] at ha; simpa using ha) (fun x hx => hn x (by simp [hx]))
    · rw [if_neg hd]
theorem scan_post (d : Nat) (B : List UInt8) : ∀ (w b : Int) (v : Nat), 0 ≤ b → scan d B w b v = if B.all digB = true then some (w, b + B.length, foldD v B) else none := by
  induction B with
  | nil => intro w b v _; simp [scan, foldD]
  | cons c B ih =>
    intro w b v hb
    rw [scan, if_neg (fun h => by omega), List.all_cons]
    by_cases hd : digB c = true
    · rw [if_pos hd, if_neg (by omega), if_neg (by omega), ih _ _ _ (by omega), hd, Bool.true_and]
      have : foldD v (c :: B) = foldD (v * 10 + (c.toNat - 48)) B := rfl
      rw [this, List.length_cons]
      split
      · congr 2
        simp only [Prod.mk.injEq, and_true]
        omega
      · rfl
    · rw [if_neg hd]
      have : digB c = false := by cases h : digB c with
        | true => exact absurd h hd
        | false => rfl
      rw [this]; rfl
theorem foldD_append (v : Nat) (a b : List UInt8) : foldD v (a ++ b) = foldD (foldD v a) b := by unfold X.foldD; rw [List.foldl_append]
theorem foldD_zeros (n : Nat) : ∀ v, foldD v (List.replicate n 48) = v * 10 ^ n := by
  induction n with
  | zero => intro v; simp [X.foldD]
  | succ n ih =>
    intro v
    rw [List.replicate_succ]
    have : foldD v (48 :: List.replicate n 48) = foldD (v * 10 + ((48 : UInt8).toNat - 48)) (List.replicate n 48) := rfl
    rw [this, ih]
    have e : (48 : UInt8).toNat - 48 = 0 := rfl
    rw [e, Nat.add_zero, Nat.pow_succ, Nat.mul_assoc, Nat.mul_comm 10]
theorem valD_join (A B : List UInt8) (d : Nat) : valD (joinP A B d) = foldD (valD A) B * 10 ^ (d - B.length) := by
  unfold X.joinP X.valD
  rw [foldD_append, foldD_append, foldD_zeros]
theorem split46 (s : List UInt8) : (∀ c ∈ s, c ≠ 46) ∨ ∃ A B, s = A ++ 46 :: B ∧ ∀ c ∈ A, c ≠ 46 := by
  induction s with
  | nil => exact .inl (fun c h => by cases h)
  | cons c r ih =>
    by_cases hc : c = 46
    · exact .inr ⟨[], r, by rw [hc]; rfl, fun c h => by cases h⟩
    · rcases ih with h | ⟨A, B, h, k⟩
      · exact .inl (fun x hx => by
          rcases List.mem_cons.1 hx with rfl | hx
          · exact hc
          · exact h x hx)
      · exact .inr ⟨c :: A, B, by rw [h]; rfl, fun x hx => by
          rcases List.mem_cons.1 hx with rfl | hx
          · exact hc
          · exact k x hx⟩
theorem all_no {l : List UInt8} (h : ¬ l.all digB = true) : l.all digB = false := by
  cases e : l.all digB with
  | true => exact absurd e h
  | false => rfl
theorem machine (m : Bool) (s : List UInt8) (d : Nat) :
    endP m d (scan d s 0 (-1) 0) = (if isDec (cut s [46]).1 = false then (0, 12) else if (cut s [46]).2.2 = true then (if isDec (cut s [46]).2.1 = false then (0, 12) else if (d : Int) < (cut s [46]).2.1.length then (0, 12) else okP m (cut s [46]).1 (cut s [46]).2.1 d) else okP m (cut s [46]).1 (cut s [46]).2.1 d) := by
  rcases split46 s with hn | ⟨A, B, rfl, hn⟩
  · rw [cut_none s hn]
    simp only
    rw [if_neg (show ¬ (false = true) by simp)]
    by_cases ha : s.all digB = true
    · have := scan_pre d s [] 0 0 ha
      rw [List.append_nil] at this
      rw [this, scan]
      unfold endP
      simp only
      by_cases he : s = []
      · subst he
        rw [if_pos (by simp), if_pos (by rfl)]
      · have hp : 0 < s.length := List.length_pos_iff.2 he
        have hD : isDec s = true := by unfold X.isDec; rw [ha]; simpa using he
        rw [if_neg (show ¬ ((0 : Int) + (s.length : Int) = 0) by omega), if_neg (show ¬ ((-1 : Int) = 0) by omega), if_neg (show ¬ ((d : Int) < -1) by omega), hD, if_neg (show ¬ (true = false) by simp)]
        unfold X.okP
        rw [valD_join]
        simp only [List.length_nil, Nat.sub_zero]
        have e1 : foldD (valD s) [] = valD s := rfl
        have e2 : d - (-1 : Int).toNat = d := by simp
        rw [e1, e2]
        rfl
    · have ha' := all_no ha
      have := scan_bad d s [] 0 0 ha' hn
      rw [List.append_nil] at this
      rw [this]
      have hD : isDec s = false := by unfold X.isDec; rw [ha']; rfl
      rw [hD, if_pos rfl]; rfl
  · rw [cut_dot A B hn]
    simp only
    by_cases ha : A.all digB = true
    · rw [scan_pre d A _ 0 0 ha, scan]
      by_cases hd : 0 < d
      · rw [if_pos ⟨rfl, by omega, hd⟩, scan_post d B _ 0 _ (by omega)]
        by_cases hb : B.all digB = true
        · rw [if_pos hb]
          unfold endP
          simp only
          by_cases he : A = []
          · subst he
            rw [if_pos (by simp), if_pos (by rfl)]
          · have hp : 0 < A.length := List.length_pos_iff.2 he
            have hD : isDec A = true := by unfold X.isDec; rw [ha]; simpa using he
            rw [if_neg (by omega), hD, if_neg (show ¬ (true = false) by simp), if_pos trivial]
            by_cases hbe : B = []
            · subst hbe
              rw [if_pos (by simp), if_pos (by rfl)]
            · have hbp : 0 < B.length := List.length_pos_iff.2 hbe
              have hDB : isDec B = true := by unfold X.isDec; rw [hb]; simpa using hbe
              rw [if_neg (by omega), hDB, if_neg (show ¬ (true = false) by simp)]
              have e0 : (0 : Int) + (B.length : Int) = (B.length : Int) := by omega
              rw [e0]
              by_cases hl : (d : Int) < (B.length : Int)
              · rw [if_pos hl, if_pos hl]
              · rw [if_neg hl, if_neg hl]
                unfold X.okP
                rw [valD_join, Int.toNat_natCast]
                rfl
        · have hb' := all_no hb
          rw [if_neg hb]
          have hDB : isDec B = false := by unfold X.isDec; rw [hb']; rfl
          rw [hDB]
          unfold endP
          simp only
          split
          · rfl
          · rw [if_pos trivial, if_pos trivial]
      · have hd0 : d = 0 := by omega
        subst hd0
        rw [if_neg (fun h => hd h.2.2), if_neg (by decide)]
        unfold endP
        simp only
        split
        · rfl
        · rw [if_pos trivial]
          by_cases hDB : isDec B = false
          · rw [if_pos hDB]
          · rw [if_neg hDB]
            have : 0 < B.length := by
              cases B with
              | nil => exact absurd rfl hDB
              | cons c r => simp
            rw [if_pos (by omega)]
    · have ha' := all_no ha
      rw [scan_bad d A _ 0 0 ha' hn]
      have hD : isDec A = false := by unfold X.isDec; rw [ha']; rfl
      rw [hD, if_pos rfl]; rfl
end Go.Proofs.YtncndmhmmfbklaaDoor
