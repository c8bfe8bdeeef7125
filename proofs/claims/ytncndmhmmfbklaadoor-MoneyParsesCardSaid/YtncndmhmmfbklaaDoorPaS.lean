/- The law MoneyParses walked: the code's Parse and the document's read every text alike. -/
import Derived.Test.YtncndmhmmfbklaaDoorPaQ
namespace Go.Proofs.YtncndmhmmfbklaaDoor
set_option linter.unusedVariables false
set_option linter.unusedSimpArgs false
open Go.RowKit Go.Lib Go.Proofs.YtncndmhmmfbklaaDoorW.PrintWords
open X (digB isDec foldD valD joinP okP parseP GlobP money_Parse.f money_Parse.calls)
set_option maxHeartbeats 4000000 in
set_option maxRecDepth 100000 in
theorem rparse_bad (t : ByteArray) (d : Int) (w : World) (h : d < 0 ∨ 6 < d) :
    Calls Tryd.prog 22 #[.string t, .int .i64 d] w fun e w' => e = .returned (.tuple #[.int .i64 0, .int .i64 1]) ∧ Below w.heap.size w w' := by
  by_cases c : d < 0
  · have t1 : decide (d < 0) = true := decide_eq_true c
    clear h
    go_enter Tryd.func22, Tryd.ntmps22
    go_wp2_with fail
    go_ret2
    exact ⟨rfl, Below.refl _ _⟩
  · have t1 : decide (d < 0) = false := decide_eq_false c
    have t2 : decide (6 < d) = true := decide_eq_true (by omega)
    clear h
    go_enter Tryd.func22, Tryd.ntmps22
    go_wp2_with fail
    go_ret2
    exact ⟨rfl, Below.refl _ _⟩
set_option maxHeartbeats 4000000 in
set_option maxRecDepth 100000 in
theorem rparse_long (t : ByteArray) (d : Nat) (w : World) (h : d ≤ 6) (ht : 40 < t.size) :
    Calls Tryd.prog 22 #[.string t, .int .i64 d] w fun e w' => e = .returned (.tuple #[.int .i64 0, .int .i64 12]) ∧ Below w.heap.size w w' := by
  have t1 : decide (40 < (t.size : Int)) = true := decide_eq_true (by omega)
  have t2 : decide (40 < t.size) = true := decide_eq_true ht
  have t3 : decide ((d : Int) < 0) = false := decide_eq_false (by omega)
  have t4 : decide (6 < (d : Int)) = false := decide_eq_false (by omega)
  have t4' : decide (6 < d) = false := decide_eq_false (by omega)
  clear h
  go_enter Tryd.func22, Tryd.ntmps22
  go_wp2_with fail
  go_ret2
  exact ⟨rfl, Below.refl _ _⟩
theorem rparse_is (t : ByteArray) (d : Int) (w : World) :
    Calls Tryd.prog 22 #[.string t, .int .i64 d] w fun e w' => e = .returned (.tuple #[.int .i64 (parseP t.data.toList d).1, .int .i64 (parseP t.data.toList d).2]) ∧ Below w.heap.size w w' := by
  by_cases hd : d < 0 ∨ 6 < d
  · have : parseP t.data.toList d = (0, 1) := by unfold X.parseP; rw [if_pos hd]
    rw [this]
    exact rparse_bad t d w hd
  · obtain ⟨n, rfl⟩ : ∃ n : Nat, d = n := ⟨d.toNat, by omega⟩
    by_cases hl : 40 < t.size
    · have : parseP t.data.toList n = (0, 12) := by unfold X.parseP; rw [if_neg hd, if_pos (by simpa using hl)]
      rw [this]
      exact rparse_long t n w (by omega) hl
    · have hP : ∀ (M : Bool) (S : ByteArray), hasPrefix t.data.toList [45] = M → trimPrefix t.data.toList [45] = S.data.toList → endP M n (scan n S.data.toList 0 (-1) 0) = parseP t.data.toList n := by
        intro M S hM hS
        rw [machine]
        apply Eq.symm
        unfold X.parseP
        rw [if_neg hd, if_neg (by simpa using hl)]
        simp only
        rw [hM, hS, Int.toNat_natCast]
      cases hl2 : t.data.toList with
      | nil =>
        have hz : t.size = 0 := by have : t.data.toList.length = 0 := by rw [hl2]; rfl
                                   simpa using this
        have := rparse_any t t false n w (by omega) (by omega) (.inl ⟨rfl, rfl, fun h0 => by omega⟩)
        rw [hP false t (by rw [hl2]; rfl) (by rw [hl2]; rfl)] at this
        rw [hl2] at this
        exact this
      | cons c r =>
        have h0 : 0 < t.size := by have : t.data.toList.length = r.length + 1 := by rw [hl2]; rfl
                                   have e : t.data.toList.length = t.size := by simp
                                   omega
        have hc : t[0] = c := by
          have : t.data.toList[0]'(by simpa using h0) = c := by simp only [hl2]; rfl
          exact this
        rw [← hl2]
        by_cases h45 : c = 45
        · subst h45
          have := rparse_any t (t.extract 1 t.size) true n w (by omega) (by omega) (.inr ⟨rfl, rfl, h0, by rw [hc]; rfl⟩)
          rw [hP true (t.extract 1 t.size) (by rw [hl2]; rfl) (by
            rw [Lib.extract_to_end, hl2]
            rfl)] at this
          exact this
        · have hne : t[0].toNat ≠ 45 := by
            rw [hc]
            intro e
            exact h45 (UInt8.toNat_inj.1 (by rw [e]; rfl))
          have hpre : hasPrefix t.data.toList [45] = false := by
            rw [hl2]; unfold hasPrefix; simp [List.isPrefixOf]; exact fun e => h45 e.symm
          have := rparse_any t t false n w (by omega) (by omega) (.inl ⟨rfl, rfl, fun _ => hne⟩)
          rw [hP false t hpre (by unfold trimPrefix; rw [hpre]; rfl)] at this
          exact this
set_option maxHeartbeats 4000000 in
set_option maxRecDepth 100000 in
theorem parses_walk (t : ByteArray) (d : Int) (w : World) (hs : t.size ≤ 140737488351232) (h2 : (Lit.int IntKind.i64 d).wf = true) (G : GlobP w) :
    Calls Tryd.prog 7 #[.string t, .int .i64 d] w fun e w' => e = .returned (.bool true) ∧ Below w.heap.size w w' := by
  obtain ⟨v, hv⟩ : ∃ v, (parseP t.data.toList d).1 = v := ⟨_, rfl⟩
  obtain ⟨x, hx⟩ : ∃ x, (parseP t.data.toList d).2 = x := ⟨_, rfl⟩
  have HA := Lib.hid (money_Parse.calls t d v x w (by unfold X.money_Parse.f; rw [← hv, ← hx]) G)
  have HB := Lib.hid (fun w => by have q := rparse_is t d w; rw [hv, hx] at q; exact q)
  clear hv hx G h2 hs
  go_enter Tryd.func7, Tryd.ntmps7
  go_wp2_with fail
  refine HA.out.mono ?_
  rintro e w1 ⟨rfl, b1⟩
  have B1 := Lib.hid b1
  clear b1
  go_wp2_with fail
  refine (HB.out _).mono ?_
  rintro e w2 ⟨rfl, b2⟩
  have B2 := Lib.hid (fm_call B1.out b2)
  clear b2
  go_wp2_with fail
  go_ret
  exact ⟨rfl, B2.out⟩
end Go.Proofs.YtncndmhmmfbklaaDoor
