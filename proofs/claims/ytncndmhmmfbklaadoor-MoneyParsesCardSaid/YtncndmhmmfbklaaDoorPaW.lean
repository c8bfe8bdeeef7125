/- money.Parse: the amount of every text. -/
import Derived.Test.YtncndmhmmfbklaaDoorPaA
import Derived.Test.YtncndmhmmfbklaaDoorMonG
import Derived.Lib.AtoiErrMem
namespace Go.Proofs.YtncndmhmmfbklaaDoor.X
set_option linter.unusedVariables false
set_option linter.unusedSimpArgs false
open Go.RowKit Go.Lib Go.Proofs.YtncndmhmmfbklaaDoorW.PrintWords
/-- what reading texts asks of the variables, besides the table -/
structure GlobP (w : World) : Prop extends Glob w where
  mx : ∃ m, w.cell? ⟨3, 0, none⟩ = some (.int .i64 m)
  es : ∃ ev, w.cell? ⟨4, 0, none⟩ = some ev ∧ (ev = .nilIface ∨ ∃ te pe, ev = .iface te pe)
  er : ∃ ev, w.cell? ⟨5, 0, none⟩ = some ev ∧ (ev = .nilIface ∨ ∃ te pe, ev = .iface te pe)
theorem cell_below {w : World} {b i : Nat} {v : Value} (h : w.cell? ⟨b, i, none⟩ = some v) : b < w.heap.size := by
  by_cases hb : b < w.heap.size
  · exact hb
  · exfalso
    have : w.heap[b]? = none := by simp; omega
    simp [World.cell?, this] at h
theorem GlobP.step {w w' : World} (h : GlobP w) (b : Below w.heap.size w w') : GlobP w' := by
  obtain ⟨g, ⟨m, hm⟩, ⟨e1, h1, k1⟩, ⟨e2, h2, k2⟩⟩ := h
  exact ⟨g.step b, ⟨m, (b.cell (p := ⟨3, 0, none⟩) (cell_below hm)).trans hm⟩, ⟨e1, (b.cell (p := ⟨4, 0, none⟩) (cell_below h1)).trans h1, k1⟩, ⟨e2, (b.cell (p := ⟨5, 0, none⟩) (cell_below h2)).trans h2, k2⟩⟩
theorem bytesW_below (w : World) (T : TypeId) (s : ByteArray) : Below w.heap.size w (Lib.bytesWorld w T s) := by
  exact Lib.bytesWorld_below w T s
def foldD (v : Nat) (l : List UInt8) : Nat := l.foldl (fun v c => v * 10 + (c.toNat - 48)) v
def valD (l : List UInt8) : Nat := foldD 0 l
theorem foldD_ge (l : List UInt8) : ∀ v, v ≤ foldD v l := by
  induction l with
  | nil => intro v; exact Nat.le_refl _
  | cons c r ih => intro v; have := ih (v * 10 + (c.toNat - 48)); unfold foldD at *; rw [List.foldl_cons]; omega
theorem parse_fold (M : Nat) (hM : M = 18446744073709551615) (l : List UInt8) : ∀ v, l.all digB = true → v ≤ M → (foldD v l ≤ M → parseUintM M v l = .ok (foldD v l)) ∧ (M < foldD v l → parseUintM M v l = .range) := by
  induction l with
  | nil => intro v _ hv; exact ⟨fun _ => rfl, fun h => absurd hv (by unfold foldD at h; simpa using h)⟩
  | cons c r ih =>
    intro v ha hv
    rw [List.all_cons, Bool.and_eq_true] at ha
    have hc := ha.1
    unfold digB at hc
    rw [Bool.and_eq_true, decide_eq_true_iff, decide_eq_true_iff] at hc
    have hg := foldD_ge r (v * 10 + (c.toNat - 48))
    have hf : foldD v (c :: r) = foldD (v * 10 + (c.toNat - 48)) r := rfl
    rw [hf]
    simp only [parseUintM]
    rw [if_pos hc]
    by_cases h1 : 1844674407370955162 ≤ v
    · rw [if_pos h1]
      exact ⟨fun h => by omega, fun _ => rfl⟩
    · rw [if_neg h1]
      by_cases h2 : M < v * 10 + (c.toNat - 48)
      · rw [if_pos h2]
        exact ⟨fun h => by omega, fun _ => rfl⟩
      · rw [if_neg h2]
        exact ih _ ha.2 (by omega)
theorem valD_trim (l : List UInt8) : valD (trimLeftB l 48) = valD l := by
  unfold trimLeftB
  induction l with
  | nil => rfl
  | cons c r ih =>
    by_cases h : c = 48
    · subst h; rw [List.dropWhile_cons_of_pos (by simp)]; rw [ih]; rfl
    · rw [List.dropWhile_cons_of_neg (by simpa using h)]
theorem all_trim {l : List UInt8} (h : l.all digB = true) : (trimLeftB l 48).all digB = true := by
  rw [List.all_eq_true] at *
  exact fun x hx => h x ((List.dropWhile_sublist _).subset hx)
theorem dec_all {l : List UInt8} (h : isDec l = true) : l.all digB = true := by unfold isDec at h; rw [Bool.and_eq_true] at h; exact h.1
/-- the amount of a whole part and a part behind the point -/
def joinP (W P : List UInt8) (d : Nat) : List UInt8 := W ++ P ++ List.replicate (d - P.length) 48
def okP (m : Bool) (W P : List UInt8) (d : Nat) : Int × Int := if valD (joinP W P d) < 9223372036854775808 then (sg (valD (joinP W P d)) m, 0) else (0, 11)
def parseP (t : List UInt8) (d : Int) : Int × Int :=
  if d < 0 ∨ 6 < d then (0, 1) else if 40 < t.length then (0, 12) else
  let m := hasPrefix t [45]
  let c := cut (trimPrefix t [45]) [46]
  if isDec c.1 = false then (0, 12) else if c.2.2 = true then (if isDec c.2.1 = false then (0, 12) else if d < c.2.1.length then (0, 12) else okP m c.1 c.2.1 d.toNat) else okP m c.1 c.2.1 d.toNat
set_option maxHeartbeats 4000000 in
set_option maxRecDepth 100000 in
theorem parse_bad (t : ByteArray) (d : Int) (w : World) (h : d < 0 ∨ 6 < d) :
    Calls Tryd.prog 21 #[.string t, .int .i64 d] w fun e w' => e = .returned (.tuple #[.int .i64 0, .int .i64 1]) ∧ Below w.heap.size w w' := by
  have hb : Z.money_badDigits.f d = some true := by
    unfold Z.money_badDigits.f
    by_cases c : d < 0
    · rw [if_pos c]
    · rw [if_neg c, decide_eq_true (by omega)]
  have HC := Lib.hid (fun w => Z.money_badDigits.calls d true w hb)
  clear hb h
  go_enter Tryd.func21, Tryd.ntmps21
  go_wp2_with fail
  refine (HC.out _).mono ?_
  rintro e w' ⟨rfl, n1, rfl⟩
  go_wp2_with fail
  go_ret2
  exact ⟨rfl, pw_below_drewN (Below.refl _ w) n1⟩
theorem bad_no (d : Nat) (h : d ≤ 6) : Z.money_badDigits.f (d : Int) = some false := by
  unfold Z.money_badDigits.f
  rw [if_neg (by omega), decide_eq_false (by omega)]
set_option maxHeartbeats 4000000 in
set_option maxRecDepth 100000 in
theorem parse_long (t : ByteArray) (d : Nat) (w : World) (h : d ≤ 6) (ht : 40 < t.size) :
    Calls Tryd.prog 21 #[.string t, .int .i64 d] w fun e w' => e = .returned (.tuple #[.int .i64 0, .int .i64 12]) ∧ Below w.heap.size w w' := by
  have HC := Lib.hid (fun w => Z.money_badDigits.calls d false w (bad_no d h))
  have t1 : decide (40 < (t.size : Int)) = true := decide_eq_true (by omega)
  have t2 : decide (40 < t.size) = true := decide_eq_true ht
  clear h
  go_enter Tryd.func21, Tryd.ntmps21
  go_wp2_with fail
  refine (HC.out _).mono ?_
  rintro e w' ⟨rfl, n1, rfl⟩
  go_wp2_with fail
  go_ret2
  exact ⟨rfl, pw_below_drewN (Below.refl _ w) n1⟩
theorem ret_ii {a b c d : Int} (h : a = c) (k : b = d) : Ending.returned (.tuple #[.int .i64 a, .int .i64 b]) = Ending.returned (.tuple #[.int .i64 c, .int .i64 d]) := by rw [h, k]
theorem trim_len (s p : List UInt8) : (trimPrefix s p).length ≤ s.length := by unfold trimPrefix; split <;> simp
theorem cut_len (s p : List UInt8) : (cut s p).1.length ≤ s.length ∧ (cut s p).2.1.length ≤ s.length := by unfold cut; split <;> simp <;> omega
theorem cut_no (s p : List UInt8) (h : (cut s p).2.2 = false) : (cut s p).2.1 = [] := by
  unfold cut at *
  by_cases c : 0 ≤ index s p
  · rw [if_pos c] at h; cases h
  · rw [if_neg c]
set_option maxHeartbeats 8000000 in
set_option maxRecDepth 100000 in
theorem parse_ok (t : ByteArray) (d : Nat) (w : World) (h : d ≤ 6) (ht : t.size ≤ 40) (G : GlobP w) :
    Calls Tryd.prog 21 #[.string t, .int .i64 d] w fun e w' => e = .returned (.tuple #[.int .i64 (parseP t.data.toList d).1, .int .i64 (parseP t.data.toList d).2]) ∧ Below w.heap.size w w' := by
  have HC := Lib.hid (fun w => Z.money_badDigits.calls d false w (bad_no d h))
  have t1 : decide (40 < (t.size : Int)) = false := decide_eq_false (by omega)
  have t2 : decide (40 < t.size) = false := decide_eq_false (by omega)
  have hlen : t.data.toList.length = t.size := by simp
  have HG := Lib.hid G
  clear G
  obtain ⟨m, hm⟩ : ∃ m, hasPrefix t.data.toList [45] = m := ⟨_, rfl⟩
  obtain ⟨s, hs⟩ : ∃ s, trimPrefix t.data.toList [45] = s := ⟨_, rfl⟩
  have hsl : s.length ≤ 40 := by rw [← hs]; have := trim_len t.data.toList [45]; omega
  have HP := Lib.hid (fun w => Tryd.strings_CutPrefix t ⟨#[45]⟩ w)
  have e45 : (⟨#[45]⟩ : ByteArray).data.toList = [45] := rfl
  rw [e45, hm, hs] at HP
  obtain ⟨A, hA⟩ : ∃ A, (cut s [46]).1 = A := ⟨_, rfl⟩
  obtain ⟨B, hB⟩ : ∃ B, (cut s [46]).2.1 = B := ⟨_, rfl⟩
  obtain ⟨pt, hpt⟩ : ∃ pt, (cut s [46]).2.2 = pt := ⟨_, rfl⟩
  have hAl : A.length ≤ 40 := by rw [← hA]; have := (cut_len s [46]).1; omega
  have hBl : B.length ≤ 40 := by rw [← hB]; have := (cut_len s [46]).2; omega
  have hBn : pt = false → B = [] := fun k => by rw [← hB]; exact cut_no s [46] (by rw [hpt]; exact k)
  have HCut := Lib.hid (fun w (g : GlobP w) => by
    obtain ⟨q, hq⟩ := g.mx
    have := Tryd.strings_Cut (bs s) ⟨#[46]⟩ q w (by rw [bs_size]; omega) hq
    rw [show (⟨#[46]⟩ : ByteArray).data.toList = [46] from rfl, show (bs s).data.toList = s by simp, hA, hB, hpt] at this
    exact this)
  have HPP := Lib.hid (show parseP t.data.toList d = (if isDec A = false then (0, 12) else if pt = true then (if isDec B = false then (0, 12) else if (d : Int) < B.length then (0, 12) else okP m A B d) else okP m A B d) by
    unfold parseP
    rw [if_neg (by omega), if_neg (by omega)]
    simp only
    rw [hm, hs, hA, hB, hpt, Int.toNat_natCast])
  obtain ⟨R, hR⟩ : ∃ R, parseP t.data.toList d = R := ⟨_, rfl⟩
  rw [hR] at HPP ⊢
  have HDA := Lib.hid (fun w => decimal_any (bs A) w (by rw [bs_size]; omega))
  rw [show (bs A).data.toList = A by simp] at HDA
  have HDB := Lib.hid (fun w => decimal_any (bs B) w (by rw [bs_size]; omega))
  rw [show (bs B).data.toList = B by simp] at HDB
  have HBN := Lib.hid hBn
  have HM := Lib.hid hm
  clear hlen hm hs hA hB hpt hR hBn e45 hsl
  go_enter Tryd.func21, Tryd.ntmps21
  go_wp2_with fail
  refine (HC.out _).mono ?_
  rintro e w' ⟨rfl, n1, rfl⟩
  have HB1 := Lib.hid (show Below w.heap.size w (w.drewN n1) from pw_below_drewN (Below.refl _ w) n1)
  go_wp2_with fail
  refine (HP.out _).mono ?_
  rintro e w' ⟨rfl, rfl⟩
  go_wp2_with fail
  refine (HCut.out _ (HG.out.step HB1.out)).mono ?_
  rintro e w' ⟨rfl, n2, rfl⟩
  have HB2 := Lib.hid (show Below w.heap.size w (w.drewN (n1 + n2)) from pw_below_drewN (Below.refl _ w) (n1 + n2))
  clear HB1
  go_wp2_with fail
  cases hdA : isDec A
  · rw [hdA] at HDA
    have HR := Lib.hid (HPP.out.trans (if_pos hdA))
    clear hdA HPP
    refine (HDA.out _).mono ?_
    rintro e w' ⟨rfl, rfl⟩
    go_wp2_with fail
    go_ret2
    exact ⟨ret_ii (by rw [HR.out]) (by rw [HR.out]), HB2.out⟩
  rw [hdA] at HDA
  have HPP1 := Lib.hid (HPP.out.trans (if_neg (by rw [hdA]; simp)))
  have HdA := Lib.hid hdA
  clear hdA HPP
  refine (HDA.out _).mono ?_
  rintro e w' ⟨rfl, rfl⟩
  have tail : ∀ (B' : List UInt8), True := fun _ => trivial
  cases pt
  · have hB0 := HBN.out rfl
    subst hB0
    have HR := Lib.hid (HPP1.out.trans (if_neg (by simp)))
    clear HPP1 HBN hBl
    obtain ⟨X, hX⟩ : ∃ X, trimLeftB (joinP A [] d) 48 = X := ⟨_, rfl⟩
    have hjl : (joinP A [] d).length ≤ 100 := by unfold joinP; simp; omega
    have hja : (joinP A [] d).all digB = true := by
      unfold joinP
      rw [List.all_append, List.all_append, dec_all HdA.out, List.all_nil]
      simp [digB]
    have HXA := Lib.hid (show X.all digB = true by rw [← hX]; exact all_trim hja)
    have HVX := Lib.hid (show valD X = valD (joinP A [] d) by rw [← hX]; exact valD_trim _)
    have HXL := Lib.hid (show X.length ≤ 100 by rw [← hX]; exact Nat.le_trans (List.dropWhile_sublist _).length_le hjl)
    have HTL := Lib.hid (fun w => show Calls Tryd.prog 47 #[.string (bs A ++ bs [] ++ bs (List.replicate d 48)), .string ⟨#[48]⟩] w fun e w' => e = .returned (.string (bs X)) ∧ w' = w by
      have q := Tryd.strings_TrimLeft_one (bs A ++ bs [] ++ bs (List.replicate d 48)) 48 (by decide) w
      rw [show (bs A ++ bs [] ++ bs (List.replicate d 48)).data.toList = joinP A [] d by rw [bs_append, bs_append]; simp [joinP], hX] at q
      exact q)
    clear hX hjl hja
    go_wp2_with fail
    have hrep := strings_Repeat.calls (⟨#[48]⟩ : ByteArray) (d : Int) (bs (List.replicate d 48)) _ (by unfold strings_Repeat.f; rw [if_pos ⟨by omega, by omega, by show 1 * _ ≤ _; omega⟩, show (⟨#[48]⟩ : ByteArray).data.toList = [48] from rfl, repeat_zero, Int.toNat_natCast]) (HG.out.step HB2.out).toGlob
    refine hrep.mono ?_
    rintro e w4 ⟨rfl, b4⟩
    have HB4 := Lib.hid (below_step HB2.out b4)
    clear b4 hrep
    go_wp2_with fail
    refine (HTL.out _).mono ?_
    rintro e w' ⟨rfl, rfl⟩
    by_cases hx : X = []
    · have hz : valD X = 0 := by rw [hx]; rfl
      have HR2 := Lib.hid (show R = (0, 0) by rw [HR.out]; unfold okP; rw [← HVX.out, hz, if_pos (by omega)]; cases m <;> rfl)
      subst hx
      go_wp2_with fail
      go_ret2
      exact ⟨ret_ii (by rw [HR2.out]) (by rw [HR2.out]), HB4.out⟩
    · obtain ⟨T, hT⟩ : ∃ T, bs X = T := ⟨_, rfl⟩
      have hts : T.size ≤ 100 := by rw [← hT, bs_size]; exact HXL.out
      have hne : T.toList.isEmpty = false := by
        rw [← hT]
        rw [to_data]
        cases X with
        | nil => exact absurd rfl hx
        | cons c r => rfl
      have hne2 : (T.toList = []) = False := by
        apply eq_false; intro hq; rw [hq] at hne; cases hne
      have hpm := parse_fold 18446744073709551615 rfl X 0 HXA.out (by omega)
      have hpb : parseUintB 64 T.data.toList = parseUintM 18446744073709551615 0 X := by
        rw [← hT]
        unfold parseUintB
        rw [if_neg (by simpa using hx)]
      obtain ⟨v, hv⟩ : ∃ v, valD X = v := ⟨_, rfl⟩
      have hfv : foldD 0 X = v := hv
      rw [hfv, ← hpb] at hpm
      have HV := Lib.hid (HVX.out.symm.trans hv)
      rw [hT]
      clear hpb hv hfv hx hT
      by_cases hv : v ≤ 18446744073709551615
      · have PU := Lib.hid (fun w => Tryd.strconv_ParseUint_10_at64_ok T (by omega) v (hpm.1 hv) w)
        clear hpm
        by_cases hv2 : v < 9223372036854775808
        · have HR2 := Lib.hid (show R = (sg v m, 0) by rw [HR.out]; unfold okP; rw [HV.out, if_pos hv2])
          have SO := Lib.hid (fun w => signed_ok v m w (by omega))
          clear hv hv2
          go_wp2_with fail
          refine (PU.out _).mono ?_
          rintro e w5 ⟨rfl, hw5⟩
          have HB5 := Lib.hid (show Below w.heap.size w w5 by
            rcases hw5 with rfl | rfl
            · exact HB4.out
            · exact below_step HB4.out (bytesW_below _ _ _))
          clear hw5
          go_wp2_with fail
          refine (SO.out _).mono ?_
          rintro e w' ⟨rfl, rfl⟩
          go_wp2_with fail
          go_ret2
          exact ⟨ret_ii (by rw [HR2.out]) (by rw [HR2.out]), HB5.out⟩
        · have HR2 := Lib.hid (show R = (0, 11) by rw [HR.out]; unfold okP; rw [HV.out, if_neg hv2])
          have SO := Lib.hid (fun w => signed_no (v : Int) m w (by omega))
          clear hv hv2
          go_wp2_with fail
          refine (PU.out _).mono ?_
          rintro e w5 ⟨rfl, hw5⟩
          have HB5 := Lib.hid (show Below w.heap.size w w5 by
            rcases hw5 with rfl | rfl
            · exact HB4.out
            · exact below_step HB4.out (bytesW_below _ _ _))
          clear hw5
          go_wp2_with fail
          refine (SO.out _).mono ?_
          rintro e w' ⟨rfl, rfl⟩
          go_wp2_with fail
          go_ret2
          exact ⟨ret_ii (by rw [HR2.out]) (by rw [HR2.out]), HB5.out⟩
      · have HR2 := Lib.hid (show R = (0, 11) by rw [HR.out]; unfold okP; rw [HV.out, if_neg (by omega)])
        obtain ⟨ev, hev, hek⟩ := (HG.out.step HB4.out).er
        have PU := Lib.hid (Tryd.strconv_ParseUint_10_at64_range T (by omega) (hpm.2 (by omega)) ev _ hev hek)
        clear hpm hv hev hek
        go_wp2_with fail
        refine PU.out.mono ?_
        rintro e w5 ⟨N, rfl, _, _, b5⟩
        have HB5 := Lib.hid (below_step HB4.out b5)
        clear b5
        go_wp2_with fail
        go_ret2
        exact ⟨ret_ii (by rw [HR2.out]) (by rw [HR2.out]), HB5.out⟩
  · have HPP2 := Lib.hid (HPP1.out.trans (if_pos rfl))
    clear HPP1 HBN
    cases hdB : isDec B
    · rw [hdB] at HDB
      have HR := Lib.hid (HPP2.out.trans (if_pos hdB))
      clear hdB HPP2
      go_wp2_with fail
      refine (HDB.out _).mono ?_
      rintro e w' ⟨rfl, rfl⟩
      go_wp2_with fail
      go_ret2
      exact ⟨ret_ii (by rw [HR.out]) (by rw [HR.out]), HB2.out⟩
    rw [hdB] at HDB
    have HPP3 := Lib.hid (HPP2.out.trans (if_neg (by rw [hdB]; simp)))
    have HdB := Lib.hid hdB
    clear hdB HPP2
    go_wp2_with fail
    refine (HDB.out _).mono ?_
    rintro e w' ⟨rfl, rfl⟩
    by_cases hl : (d : Int) < B.length
    · have HR := Lib.hid (HPP3.out.trans (if_pos hl))
      have y1 : decide ((d : Int) < (B.length : Int)) = true := decide_eq_true hl
      have y2 : decide (d < B.length) = true := decide_eq_true (by omega)
      have hbs : (bs B).size = B.length := bs_size B
      clear HPP3
      go_wp2_with fail
      go_ret2
      exact ⟨ret_ii (by rw [HR.out]) (by rw [HR.out]), HB2.out⟩
    · have HR := Lib.hid (HPP3.out.trans (if_neg hl))
      have y1 : decide ((d : Int) < (B.length : Int)) = false := decide_eq_false hl
      have y2 : decide (d < B.length) = false := decide_eq_false (by omega)
      have hbs : (bs B).size = B.length := bs_size B
      clear HPP3
      obtain ⟨X, hX⟩ : ∃ X, trimLeftB (joinP A B d) 48 = X := ⟨_, rfl⟩
      have hjl : (joinP A B d).length ≤ 100 := by unfold joinP; simp; omega
      have hja : (joinP A B d).all digB = true := by
        unfold joinP
        rw [List.all_append, List.all_append, dec_all HdA.out, dec_all HdB.out]
        simp [digB]
      have HXA := Lib.hid (show X.all digB = true by rw [← hX]; exact all_trim hja)
      have HVX := Lib.hid (show valD X = valD (joinP A B d) by rw [← hX]; exact valD_trim _)
      have HXL := Lib.hid (show X.length ≤ 100 by rw [← hX]; exact Nat.le_trans (List.dropWhile_sublist _).length_le hjl)
      have HTL := Lib.hid (fun w => show Calls Tryd.prog 47 #[.string (bs A ++ bs B ++ bs (List.replicate (d - B.length) 48)), .string ⟨#[48]⟩] w fun e w' => e = .returned (.string (bs X)) ∧ w' = w by
        have q := Tryd.strings_TrimLeft_one (bs A ++ bs B ++ bs (List.replicate (d - B.length) 48)) 48 (by decide) w
        rw [show (bs A ++ bs B ++ bs (List.replicate (d - B.length) 48)).data.toList = joinP A B d by rw [bs_append, bs_append]; simp [joinP], hX] at q
        exact q)
      clear hX hjl hja
      have e1 : (d : Int) - (B.length : Int) = ((d - B.length : Nat) : Int) := by omega
      have hrep := Lib.hid (fun w g => strings_Repeat.calls (⟨#[48]⟩ : ByteArray) ((d : Int) - (B.length : Int)) (bs (List.replicate (d - B.length) 48)) w (by unfold strings_Repeat.f; rw [e1, if_pos ⟨by omega, by omega, by show 1 * _ ≤ _; omega⟩, show (⟨#[48]⟩ : ByteArray).data.toList = [48] from rfl, repeat_zero, Int.toNat_natCast]) g)
      clear e1
      go_wp2_with fail
      refine (hrep.out _ (HG.out.step HB2.out).toGlob).mono ?_
      rintro e w4 ⟨rfl, b4⟩
      have HB4 := Lib.hid (below_step HB2.out b4)
      clear b4 hrep
      go_wp2_with fail
      refine (HTL.out _).mono ?_
      rintro e w' ⟨rfl, rfl⟩
      by_cases hx : X = []
      · have hz : valD X = 0 := by rw [hx]; rfl
        have HR2 := Lib.hid (show R = (0, 0) by rw [HR.out]; unfold okP; rw [← HVX.out, hz, if_pos (by omega)]; cases m <;> rfl)
        subst hx
        go_wp2_with fail
        go_ret2
        exact ⟨ret_ii (by rw [HR2.out]) (by rw [HR2.out]), HB4.out⟩
      · obtain ⟨T, hT⟩ : ∃ T, bs X = T := ⟨_, rfl⟩
        have hts : T.size ≤ 100 := by rw [← hT, bs_size]; exact HXL.out
        have hne : T.toList.isEmpty = false := by
          rw [← hT]
          rw [to_data]
          cases X with
          | nil => exact absurd rfl hx
          | cons c r => rfl
        have hne2 : (T.toList = []) = False := by
          apply eq_false; intro hq; rw [hq] at hne; cases hne
        have hpm := parse_fold 18446744073709551615 rfl X 0 HXA.out (by omega)
        have hpb : parseUintB 64 T.data.toList = parseUintM 18446744073709551615 0 X := by
          rw [← hT]
          unfold parseUintB
          rw [if_neg (by simpa using hx)]
        obtain ⟨v, hv⟩ : ∃ v, valD X = v := ⟨_, rfl⟩
        have hfv : foldD 0 X = v := hv
        rw [hfv, ← hpb] at hpm
        have HV := Lib.hid (HVX.out.symm.trans hv)
        rw [hT]
        clear hpb hv hfv hx hT
        by_cases hv : v ≤ 18446744073709551615
        · have PU := Lib.hid (fun w => Tryd.strconv_ParseUint_10_at64_ok T (by omega) v (hpm.1 hv) w)
          clear hpm
          by_cases hv2 : v < 9223372036854775808
          · have HR2 := Lib.hid (show R = (sg v m, 0) by rw [HR.out]; unfold okP; rw [HV.out, if_pos hv2])
            have SO := Lib.hid (fun w => signed_ok v m w (by omega))
            clear hv hv2
            go_wp2_with fail
            refine (PU.out _).mono ?_
            rintro e w5 ⟨rfl, hw5⟩
            have HB5 := Lib.hid (show Below w.heap.size w w5 by
              rcases hw5 with rfl | rfl
              · exact HB4.out
              · exact below_step HB4.out (bytesW_below _ _ _))
            clear hw5
            go_wp2_with fail
            refine (SO.out _).mono ?_
            rintro e w' ⟨rfl, rfl⟩
            go_wp2_with fail
            go_ret2
            exact ⟨ret_ii (by rw [HR2.out]) (by rw [HR2.out]), HB5.out⟩
          · have HR2 := Lib.hid (show R = (0, 11) by rw [HR.out]; unfold okP; rw [HV.out, if_neg hv2])
            have SO := Lib.hid (fun w => signed_no (v : Int) m w (by omega))
            clear hv hv2
            go_wp2_with fail
            refine (PU.out _).mono ?_
            rintro e w5 ⟨rfl, hw5⟩
            have HB5 := Lib.hid (show Below w.heap.size w w5 by
              rcases hw5 with rfl | rfl
              · exact HB4.out
              · exact below_step HB4.out (bytesW_below _ _ _))
            clear hw5
            go_wp2_with fail
            refine (SO.out _).mono ?_
            rintro e w' ⟨rfl, rfl⟩
            go_wp2_with fail
            go_ret2
            exact ⟨ret_ii (by rw [HR2.out]) (by rw [HR2.out]), HB5.out⟩
        · have HR2 := Lib.hid (show R = (0, 11) by rw [HR.out]; unfold okP; rw [HV.out, if_neg (by omega)])
          obtain ⟨ev, hev, hek⟩ := (HG.out.step HB4.out).er
          have PU := Lib.hid (Tryd.strconv_ParseUint_10_at64_range T (by omega) (hpm.2 (by omega)) ev _ hev hek)
          clear hpm hv hev hek
          go_wp2_with fail
          refine PU.out.mono ?_
          rintro e w5 ⟨N, rfl, _, _, b5⟩
          have HB5 := Lib.hid (below_step HB4.out b5)
          clear b5
          go_wp2_with fail
          go_ret2
          exact ⟨ret_ii (by rw [HR2.out]) (by rw [HR2.out]), HB5.out⟩
def money_Parse.f (t : ByteArray) (d : Int) : Option (Int × Int) := some (parseP t.data.toList d)
theorem money_Parse.calls (t : ByteArray) (d : Int) (r1 : Int) (r2 : Int) (w : World) (h : money_Parse.f t d = some (r1, r2)) (G : GlobP w) :
    Calls Tryd.prog 21 #[.string t, .int .i64 d] w fun e w' => e = .returned (.tuple #[.int .i64 r1, .int .i64 r2]) ∧ Below w.heap.size w w' := by
  have e := Option.some.inj h
  have e1 : r1 = (parseP t.data.toList d).1 := by rw [e]
  have e2 : r2 = (parseP t.data.toList d).2 := by rw [e]
  rw [e1, e2]
  by_cases hd : d < 0 ∨ 6 < d
  · have : parseP t.data.toList d = (0, 1) := by unfold parseP; rw [if_pos hd]
    rw [this]
    exact parse_bad t d w hd
  · obtain ⟨n, rfl⟩ : ∃ n : Nat, d = n := ⟨d.toNat, by omega⟩
    by_cases hl : 40 < t.size
    · have : parseP t.data.toList n = (0, 12) := by unfold parseP; rw [if_neg hd, if_pos (by simpa using hl)]
      rw [this]
      exact parse_long t n w (by omega) hl
    · exact parse_ok t n w (by omega) (by omega) G
end Go.Proofs.YtncndmhmmfbklaaDoor.X
