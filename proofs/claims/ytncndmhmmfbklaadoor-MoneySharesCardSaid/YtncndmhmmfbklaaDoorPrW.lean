/- money.Print: every amount's text. -/
import Derived.Test.YtncndmhmmfbklaaDoorZ1
import Derived.Test.YtncndmhmmfbklaaDoorFmtU
import Derived.Test.YtncndmhmmfbklaaDoorPrD
import Derived.Deep.QuietTactic
import Derived.BigQuiet
import Derived.IntWalk
namespace Go.Proofs.YtncndmhmmfbklaaDoor.X
set_option linter.unusedVariables false
set_option linter.unusedSimpArgs false
open Go.RowKit Go.Lib Go.Proofs.YtncndmhmmfbklaaDoorW.PrintWords

abbrev bs (l : List UInt8) : ByteArray := ⟨l.toArray⟩
theorem bs_append (a b : List UInt8) : bs a ++ bs b = bs (a ++ b) := by
  apply ByteArray.ext
  rw [ByteArray.data_append]
  simp
theorem bs_size (l : List UInt8) : (bs l).size = l.length := by simp [bs, ByteArray.size]
theorem bs_extract (l : List UInt8) (a b : Nat) : (bs l).extract a b = bs ((l.take b).drop a) := by
  apply ByteArray.ext
  rw [ByteArray.data_extract]
  apply Array.ext'
  simp [List.drop_take]
theorem bs_nil (b : ByteArray) : bs [] ++ b = b := by
  apply ByteArray.ext
  rw [ByteArray.data_append]
  simp
theorem ret_str2 {s t : ByteArray} {e : Int} (h : s = t) : Ending.returned (.tuple #[.string s, .int .i64 e]) = Ending.returned (.tuple #[.string t, .int .i64 e]) := by rw [h]
theorem wr (a : Int) (h0 : -9223372036854775808 ≤ a) (h1 : a ≤ 9223372036854775807) : wrap64 a = a := by unfold wrap64; omega
/-- the text of a size, a sign ahead of it -/
def textP (sg : List UInt8) (u d : Nat) : List UInt8 := if d = 0 then sg ++ D u 1 else sg ++ (D (u / 10 ^ d) 1 ++ ([46] ++ D (u % 10 ^ d) d))
def printP (a d : Int) : ByteArray × Int :=
  if d < 0 ∨ 6 < d then (bs [], 1) else if a = -9223372036854775808 then (bs [], 10) else (bs (textP (if a < 0 then [45] else []) a.natAbs d.toNat), 0)
theorem size_is (a : Int) (h1 : -9223372036854775808 ≤ a) (h2 : a ≤ 9223372036854775807) : Z.money_size.f a = some ((a.natAbs : Nat) : Int) := by
  unfold Z.money_size.f
  by_cases ha : a < 0
  · rw [if_pos ha, IntKind.wrap_u64]; congr 1
    by_cases hm : a = -9223372036854775808
    · subst hm; unfold wrap64; omega
    · rw [wr _ (by omega) (by omega)]; omega
  · rw [if_neg ha, IntKind.wrap_u64]; congr 1; omega
set_option maxHeartbeats 4000000 in
set_option maxRecDepth 100000 in
theorem print_any (a d : Int) (h1 : -9223372036854775808 ≤ a) (h2 : a ≤ 9223372036854775807) (w : World) (G : Glob w) :
    Calls Tryd.prog 9 #[.int .i64 a, .int .i64 d] w fun e w' => e = .returned (.tuple #[.string (printP a d).1, .int .i64 (printP a d).2]) ∧ Below w.heap.size w w' := by
  have HG := Lib.hid G
  clear G
  obtain ⟨b, hb⟩ : ∃ b, Z.money_badDigits.f d = some b := by unfold Z.money_badDigits.f; split <;> exact ⟨_, rfl⟩
  have hbd : b = decide (d < 0 ∨ 6 < d) := by
    unfold Z.money_badDigits.f at hb
    by_cases h : d < 0
    · rw [if_pos h] at hb; rw [← Option.some.inj hb]; simp [h]
    · rw [if_neg h] at hb; rw [← Option.some.inj hb]; simp [h]
  have HC := Lib.hid (fun w => Z.money_badDigits.calls d b w hb)
  have HS := Lib.hid (fun w => Z.money_size.calls a _ w (size_is a h1 h2))
  clear hb
  by_cases hd : d < 0 ∨ 6 < d
  · have hr : printP a d = (bs [], 1) := by unfold printP; rw [if_pos hd]
    rw [hr]
    obtain rfl : b = true := by rw [hbd]; exact decide_eq_true hd
    clear hbd hd hr h1 h2
    go_enter Tryd.func9, Tryd.ntmps9
    go_wp2_with fail
    refine (HC.out _).mono ?_
    rintro e w' ⟨rfl, n1, rfl⟩
    go_wp2_with fail
    go_ret2
    exact ⟨rfl, pw_below_drewN (Below.refl _ w) n1⟩
  · obtain ⟨d, rfl⟩ : ∃ n : Nat, d = n := ⟨d.toNat, by omega⟩
    have hd6 : d ≤ 6 := by omega
    obtain rfl : b = false := by rw [hbd]; exact decide_eq_false hd
    clear hbd
    by_cases hm : a = -9223372036854775808
    · have hr : printP a d = (bs [], 10) := by unfold printP; rw [if_neg hd, if_pos hm]
      rw [hr]
      have t1 : (a == -9223372036854775808) = true := beq_iff_eq.2 hm
      have t2 : (a = -9223372036854775808) = True := eq_true hm
      clear hr hd h1 h2 hm
      go_enter Tryd.func9, Tryd.ntmps9
      go_wp2_with fail
      refine (HC.out _).mono ?_
      rintro e w' ⟨rfl, n1, rfl⟩
      go_wp2_with fail
      go_ret2
      exact ⟨rfl, pw_below_drewN (Below.refl _ w) n1⟩
    · have t1 : (a == -9223372036854775808) = false := beq_eq_false_iff_ne.2 hm
      have t2 : (a = -9223372036854775808) = False := eq_false hm
      obtain ⟨u, hu⟩ : ∃ u : Nat, a.natAbs = u := ⟨_, rfl⟩
      rw [hu] at HS
      have hr : printP a d = (bs (textP (if a < 0 then [45] else []) u d), 0) := by unfold printP; rw [if_neg hd, if_neg hm, hu, Int.toNat_natCast]
      rw [hr]
      obtain ⟨TT, hTT⟩ : ∃ T, bs (textP (if a < 0 then [45] else []) u d) = T := ⟨_, rfl⟩
      rw [hTT]
      have HTT := Lib.hid hTT
      clear hTT
      have hu63 : u < 9223372036854775808 := by omega
      have hu19 : u < 10 ^ 19 := by
        have : (10 : Nat) ^ 19 = 10000000000000000000 := by decide
        omega
      have hL := D_len1 u 19 hu19 (by omega)
      obtain ⟨X, hX⟩ : ∃ X, bs (D u (d + 1)) = X := ⟨_, rfl⟩
      obtain ⟨S1, hS1⟩ : ∃ S, bs (D u 1) = S := ⟨_, rfl⟩
      have hl1 : S1.size = (D u 1).length := by rw [← hS1, bs_size]
      have hpad := D_pad (d + 1) u (by omega)
      have hXR : X = bs (List.replicate (d + 1 - S1.size) 48) ++ S1 := by rw [← hX, ← hS1, bs_append, hpad, bs_size]
      have hs1 : 1 ≤ S1.size := by omega
      have hs2 : S1.size ≤ 19 := by omega
      have HF := Lib.hid (fun w (G : Glob w) => fmtu_any u (by omega) w G)
      have e1 : (⟨(decDigits u).toArray⟩ : ByteArray) = S1 := by rw [dec_D]; exact hS1
      rw [e1] at HF
      have HU := Lib.hid hu
      have HX := Lib.hid hX
      have HXR := Lib.hid hXR
      have HM := Lib.hid hm
      have H19 := Lib.hid hu19
      clear hr hd h1 h2 hm hu hu63 hu19 hL hX hS1 hl1 hpad hXR e1
      go_enter Tryd.func9, Tryd.ntmps9
      go_wp2_with fail
      refine (HC.out _).mono ?_
      rintro e w' ⟨rfl, n1, rfl⟩
      go_wp2_with fail
      refine (HS.out _).mono ?_
      rintro e w' ⟨rfl, n2, rfl⟩
      have hb2 : Below w.heap.size w (w.drewN (n1 + n2)) := pw_below_drewN (Below.refl _ w) (n1 + n2)
      have HB2 := Lib.hid hb2
      clear hb2
      go_wp2_with fail
      refine (HF.out _ (HG.out.step HB2.out)).mono ?_
      rintro e w3 ⟨rfl, hb⟩
      have hb3 := below_step HB2.out hb
      have HB3 := Lib.hid hb3
      clear hb hb3
      go_upto_if 21 with fail
      go_cut [6] (fun s wx => s = .string X ∧ Below w.heap.size w wx)
      case first =>
        have HREP := Lib.hid (fun (hn : (S1.size : Int) < (d : Int) + 1) => show strings_Repeat.f (⟨#[48]⟩ : ByteArray) ((d : Int) + 1 - (S1.size : Int)) = some (bs (List.replicate (d + 1 - S1.size) 48)) by
          unfold strings_Repeat.f
          rw [if_pos ⟨by omega, by omega, by show 1 * _ ≤ _; omega⟩, show ((d : Int) + 1 - (S1.size : Int)).toNat = d + 1 - S1.size by omega, show (⟨#[48]⟩ : ByteArray).data.toList = [48] from rfl, repeat_zero])
        have hsz : (bs (List.replicate (d + 1 - S1.size) 48)).size + S1.size ≤ 26 := by rw [bs_size, List.length_replicate]; omega
        have HX0 := Lib.hid (fun (hn : ¬ (S1.size : Int) < (d : Int) + 1) => show S1 = X by
          rw [HXR.out, show d + 1 - S1.size = 0 by omega]
          apply ByteArray.ext
          rw [ByteArray.data_append]
          simp)
        obtain ⟨R, hR⟩ : ∃ R, bs (List.replicate (d + 1 - S1.size) 48) = R := ⟨_, rfl⟩
        rw [hR] at HREP hsz HXR
        clear hR
        go_wp2_with fail
        · have hr := HREP.out (by assumption)
          refine (strings_Repeat.calls _ _ _ _ hr (HG.out.step HB3.out)).mono ?_
          rintro e w4 ⟨rfl, hb⟩
          have hb4 := below_step HB3.out hb
          have HB4 := Lib.hid hb4
          clear hb hb4 hr
          go_wp2_with fail
          go_meet
          exact ⟨by rw [HXR.out], HB4.out⟩
        · have hx := HX0.out (by assumption)
          have HX1 := Lib.hid hx
          clear hx
          go_meet
          exact ⟨by rw [HX1.out], HB3.out⟩
      case rest =>
        obtain ⟨rfl, hb⟩ := hcut
        have HB4 := Lib.hid hb
        clear hb HB3 HB2
        obtain ⟨A, hA⟩ : ∃ A, D (u / 10 ^ d) 1 = A := ⟨_, rfl⟩
        obtain ⟨B, hB⟩ : ∃ B, D (u % 10 ^ d) d = B := ⟨_, rfl⟩
        have hsp := D_split d u
        have hBl : B.length = d := by rw [← hB]; exact D_len d _ (Nat.mod_lt _ (Nat.pow_pos (by omega)))
        have hAl := D_len1 (u / 10 ^ d) 19 (Nat.lt_of_le_of_lt (Nat.div_le_self _ _) H19.out) (by omega)
        rw [hA] at hAl
        rw [hA, hB] at hsp
        have hXs : X.size = A.length + d := by rw [← HX.out, hsp, bs_size, List.length_append, hBl]
        have hx1 : X.extract 0 A.length = bs A := by rw [← HX.out, hsp, bs_extract]; simp
        have hx2 : X.extract A.length X.size = bs B := by rw [← HX.out, hsp, bs_extract, bs_size, List.take_length]; simp
        by_cases h0 : d = 0
        · have z1 : decide ((d : Int) > 0) = false := decide_eq_false (by omega)
          have z2 : (0 < (d : Int)) = False := eq_false (by omega)
          have z3 : (0 < d) = False := eq_false (by omega)
          have hXb : X.size ≤ 26 := by omega
          have htx : ∀ sg, bs (textP sg u d) = bs sg ++ X := fun sg => by
            unfold textP
            rw [if_pos h0, ← HX.out, bs_append, h0]
          have HTX := Lib.hid htx
          clear htx hXs hx1 hx2 hsp hBl hAl h0
          by_cases ha : a < 0
          · have y1 : decide (a < 0) = true := decide_eq_true ha
            have y2 : (a < 0) = True := eq_true ha
            have HA := Lib.hid ha
            clear ha
            go_wp2_with fail
            go_ret2
            exact ⟨ret_str2 (by rw [← HTT.out, if_pos HA.out, HTX.out]), HB4.out⟩
          · have y1 : decide (a < 0) = false := decide_eq_false ha
            have y2 : (a < 0) = False := eq_false ha
            have HA := Lib.hid ha
            clear ha
            go_wp2_with fail
            go_ret2
            exact ⟨ret_str2 (by rw [← HTT.out, if_neg (Int.not_lt.2 HA.out), HTX.out, bs_nil]), HB4.out⟩
        · have z1 : decide ((d : Int) > 0) = true := decide_eq_true (by omega)
          have z2 : (0 < (d : Int)) = True := eq_true (by omega)
          have z3 : (0 < d) = True := eq_true (by omega)
          have hAp := hAl.1
          have hAq := hAl.2
          have hXb : X.size ≤ 26 := by omega
          have ew : IntKind.i64.wrap ((X.size : Int) - (d : Int)) = (A.length : Int) := by rw [IntWalk.i64_in _ (by omega)]; omega
          have e2 : (X.size : Int) - (d : Int) = (A.length : Int) := by omega
          have e3 : ((A.length : Int)).toNat = A.length := Int.toNat_natCast _
          have p1 : (0 : Int) ≤ (A.length : Int) := by omega
          have p2 : A.length ≤ X.size := by omega
          have p3 : (A.length : Int) ≤ (X.size : Int) := by omega
          have c1 : (X.extract 0 A.length).size = A.length := by rw [hx1, bs_size]
          have c2 : (X.extract A.length X.size).size = d := by rw [hx2, bs_size, hBl]
          have htx : ∀ sg, bs (textP sg u d) = bs sg ++ ((X.extract 0 A.length ++ (⟨#[46]⟩ : ByteArray)) ++ X.extract A.length X.size) := fun sg => by
            unfold textP
            rw [if_neg h0, hx1, hx2, hA, hB, show (⟨#[46]⟩ : ByteArray) = bs [46] from rfl, bs_append, bs_append, bs_append, List.append_assoc]
          have HTX := Lib.hid htx
          clear htx hXs hx1 hx2 hsp hBl hAl h0
          go_upto_region 10 with fail
          go_quiet (fail)
          have hb5 := pw_below_drewN HB4.out nq
          have HB5 := Lib.hid hb5
          clear hb5
          by_cases ha : a < 0
          · have y1 : decide (a < 0) = true := decide_eq_true ha
            have y2 : (a < 0) = True := eq_true ha
            have HA := Lib.hid ha
            clear ha
            go_wp2_with fail
            go_ret2
            exact ⟨ret_str2 (by rw [← HTT.out, if_pos HA.out, HTX.out]), HB5.out⟩
          · have y1 : decide (a < 0) = false := decide_eq_false ha
            have y2 : (a < 0) = False := eq_false ha
            have HA := Lib.hid ha
            clear ha
            go_wp2_with fail
            go_ret2
            exact ⟨ret_str2 (by rw [← HTT.out, if_neg (Int.not_lt.2 HA.out), HTX.out, bs_nil]), HB5.out⟩
def money_Print.f (a d : Int) : Option (ByteArray × Int) := if -9223372036854775808 ≤ a ∧ a ≤ 9223372036854775807 then some (printP a d) else none
theorem money_Print.calls (a d : Int) (r1 : ByteArray) (r2 : Int) (w : World) (h : money_Print.f a d = some (r1, r2)) (G : Glob w) :
    Calls Tryd.prog 9 #[.int .i64 a, .int .i64 d] w fun e w' => e = .returned (.tuple #[.string r1, .int .i64 r2]) ∧ Below w.heap.size w w' := by
  unfold money_Print.f at h
  split at h
  · rename_i hc
    have e := Option.some.inj h
    have := print_any a d hc.1 hc.2 w G
    rw [e] at this
    exact this
  · cases h
end Go.Proofs.YtncndmhmmfbklaaDoor.X
