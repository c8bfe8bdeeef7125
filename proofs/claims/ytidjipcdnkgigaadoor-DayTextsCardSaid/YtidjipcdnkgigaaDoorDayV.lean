/- Contract of Parse: the day of every text. -/
import Derived.Test.YtidjipcdnkgigaaDoorDayS
namespace Go.Proofs.YtidjipcdnkgigaaDoor
set_option linter.unusedVariables false
set_option linter.unusedSimpArgs false
open Go.RowKit Go.ChangeShapes Go.WideShapes
open DayMath (leapP lp dim long cum num valid dY dM dD monthsOn monthsOK)

/-- the byte of a text at a place; 0 behind its end -/
def bt (s : ByteArray) (i : Nat) : Int := if h : i < s.size then ((s[i]).toNat : Int) else 0
theorem bt_eq {s : ByteArray} {i : Nat} (h : i < s.size) : ((s[i]).toNat : Int) = bt s i := by unfold bt; rw [dif_pos h]
theorem bt_bd (s : ByteArray) (i : Nat) : 0 ≤ bt s i ∧ bt s i ≤ 255 := by
  unfold bt; split
  · have := UInt8.toNat_lt (s[i]); omega
  · omega
/-- a number out of k digits from place a on -/
def nv (c : Nat → Int) (a : Nat) : Nat → Int
  | 0 => 0
  | k + 1 => 10 * nv c a k + (c (a + k) - 48)
/-- a byte is as it must be at its place -/
def okAt (c : Nat → Int) (j : Nat) : Prop := if j = 4 ∨ j = 7 then c j = 45 else 48 ≤ c j ∧ c j ≤ 57
def form (c : Nat → Int) : Prop := ∀ j, j < 10 → okAt c j
def pY (s : ByteArray) : Int := nv (bt s) 0 4
def pM (s : ByteArray) : Int := nv (bt s) 5 2
def pD (s : ByteArray) : Int := nv (bt s) 8 2
def parseOK (s : ByteArray) : Prop := s.size = 10 ∧ form (bt s) ∧ valid (pY s) (pM s) (pD s)
open Classical in
noncomputable def parseV (s : ByteArray) : Int := if parseOK s then num (pY s) (pM s) (pD s) else 0
open Classical in
noncomputable def parseE (s : ByteArray) : Int := if parseOK s then 0 else 20
theorem parse_bad {s : ByteArray} (h : ¬ parseOK s) : parseV s = 0 ∧ parseE s = 20 := by unfold parseV parseE; rw [if_neg h, if_neg h]; exact ⟨rfl, rfl⟩
theorem parse_good {s : ByteArray} (h : parseOK s) : parseV s = num (pY s) (pM s) (pD s) ∧ parseE s = 0 := by unfold parseV parseE; rw [if_pos h, if_pos h]; exact ⟨rfl, rfl⟩

theorem nv_bd (c : Nat → Int) (a k : Nat) (h : ∀ j, j < k → 48 ≤ c (a + j) ∧ c (a + j) ≤ 57) : 0 ≤ nv c a k ∧ nv c a k < 10 ^ k := by
  induction k with
  | zero => simp [nv]
  | succ k ih =>
    have h1 := ih fun j hj => h j (by omega)
    have h2 := h k (by omega)
    have e : (10 : Int) ^ (k + 1) = 10 * 10 ^ k := by rw [Int.pow_succ, Int.mul_comm]
    simp only [nv]
    rw [e]
    omega

theorem pow3 {m : Nat} (h : m ≤ 3) : (10 : Int) ^ m ≤ 1000 := by
  have : m = 0 ∨ m = 1 ∨ m = 2 ∨ m = 3 := by omega
  rcases this with rfl | rfl | rfl | rfl <;> decide

/-- what Parse's loop knows of the world: the three numbers -/
structure PRel (w wr : World) (a b c : Int) : Prop where
  bel : Below w.heap.size w wr
  size : wr.heap.size = w.heap.size + 1
  c0 : wr.cell? ⟨w.heap.size, 0, none⟩ = some (.int .i64 a)
  c1 : wr.cell? ⟨w.heap.size, 1, none⟩ = some (.int .i64 b)
  c2 : wr.cell? ⟨w.heap.size, 2, none⟩ = some (.int .i64 c)
  f : ∀ o, wr.frozen? ⟨w.heap.size, o, none⟩ = false
theorem PRel.start (w : World) : PRel w (w.alloc (.cells #[.int .i64 0, .int .i64 0, .int .i64 0] 47)) 0 0 0 where
  bel := (Below.refl _ _).alloc (Nat.le_refl _) _
  size := by simp
  c0 := by simp [go_sem]
  c1 := by simp [go_sem]
  c2 := by simp [go_sem]
  f := fun o => by simp [go_sem]
theorem PRel.drewN {w wr : World} {a b c : Int} (h : PRel w wr a b c) (n : Nat) : PRel w (wr.drewN n) a b c := ⟨below_drewN h.bel n, h.size, h.c0, h.c1, h.c2, h.f⟩
theorem PRel.s0 {w wr : World} {a b c : Int} (h : PRel w wr a b c) (x : Int) : PRel w (wr.drew.setCell ⟨w.heap.size, 0, none⟩ (.int .i64 x)) x b c where
  bel := h.bel.drew.setCell (by simp) _
  size := by have := h.size; simp; exact this
  c0 := by have := h.c0; simp [go_sem, this]
  c1 := by have := h.c1; simp [go_sem, this]
  c2 := by have := h.c2; simp [go_sem, this]
  f := fun o => by have := h.f o; simp [go_sem, this]
theorem PRel.s1 {w wr : World} {a b c : Int} (h : PRel w wr a b c) (x : Int) : PRel w (wr.drew.setCell ⟨w.heap.size, 1, none⟩ (.int .i64 x)) a x c where
  bel := h.bel.drew.setCell (by simp) _
  size := by have := h.size; simp; exact this
  c0 := by have := h.c0; simp [go_sem, this]
  c1 := by have := h.c1; simp [go_sem, this]
  c2 := by have := h.c2; simp [go_sem, this]
  f := fun o => by have := h.f o; simp [go_sem, this]
theorem PRel.s2 {w wr : World} {a b c : Int} (h : PRel w wr a b c) (x : Int) : PRel w (wr.drew.setCell ⟨w.heap.size, 2, none⟩ (.int .i64 x)) a b x where
  bel := h.bel.drew.setCell (by simp) _
  size := by have := h.size; simp; exact this
  c0 := by have := h.c0; simp [go_sem, this]
  c1 := by have := h.c1; simp [go_sem, this]
  c2 := by have := h.c2; simp [go_sem, this]
  f := fun o => by have := h.f o; simp [go_sem, this]

/-- how many dashes are ahead of a place -/
def pt (k : Nat) : Int := if k ≤ 4 then 0 else if k ≤ 7 then 1 else 2

set_option maxHeartbeats 2000000 in
/-- day.Parse, of a text of another length -/
theorem parse_len (s : ByteArray) (w : World) (hs : s.size ≤ 140737488351232) (h : s.size ≠ 10) :
    Calls Tryd.prog 35 #[.string s] w fun e w' => e = .returned (.tuple #[.int .i64 (parseV s), .int .i64 (parseE s)]) ∧ Below w.heap.size w w' := by
  obtain ⟨e1, e2⟩ := parse_bad (s := s) (fun hp => h hp.1)
  rw [e1, e2]
  have hb : ((s.size : Int) != 10) = true := by rw [bne_iff_ne]; omega
  clear h e1 e2
  go_enter Tryd.func35, Tryd.ntmps35
  go_wp2
  go_ret2
  exact ⟨rfl, Below.refl _ _⟩

set_option maxHeartbeats 4000000 in
/-- day.Parse, of a text of ten bytes -/
theorem parse_ten (s : ByteArray) (w : World) (hL : LD w) (h : s.size = 10) :
    Calls Tryd.prog 35 #[.string s] w fun e w' => e = .returned (.tuple #[.int .i64 (parseV s), .int .i64 (parseE s)]) ∧ Below w.heap.size w w' := by
  have HL := Lib.hid hL
  have HS := Lib.hid h
  obtain ⟨V, hV⟩ : ∃ V, parseV s = V := ⟨_, rfl⟩
  obtain ⟨E, hE⟩ : ∃ E, parseE s = E := ⟨_, rfl⟩
  rw [hV, hE]
  have HV := Lib.hid hV
  have HE := Lib.hid hE
  have hb : ((s.size : Int) != 10) = false := by rw [bne_eq_false_iff_eq]; omega
  have hs1 : s.size ≤ 10 := by omega
  have hs2 : 10 ≤ s.size := by omega
  clear h hV hE hL
  go_enter Tryd.func35, Tryd.ntmps35
  go_wp2_with fail
  go_loopg [5, 6, 17] 10 (fun g s5 s6 s17 wr => ∃ k : Nat, k ≤ 10 ∧ g = 10 - k ∧ s5 = .int .i64 (pt k) ∧ s17 = .int .i64 k ∧ (∀ j, j < k → okAt (bt s) j) ∧
    PRel w wr (nv (bt s) 0 (min k 4)) (nv (bt s) 5 (min (k - 5) 2)) (nv (bt s) 8 (min (k - 8) 2)))
  case atStart => exact ⟨0, by omega, by omega, rfl, rfl, fun j hj => absurd hj (by omega), PRel.start w⟩
  case round =>
    obtain ⟨k, hk, hg, rfl, rfl, hok, hR⟩ := hrel
    have Hg := Lib.hid hg
    have Hok := Lib.hid hok
    clear hg hok
    by_cases hend : k = 10
    · subst hend
      have hform : form (bt s) := Hok.out
      obtain ⟨y, hy⟩ : ∃ y, pY s = y := ⟨_, rfl⟩
      obtain ⟨m, hm⟩ : ∃ m, pM s = m := ⟨_, rfl⟩
      obtain ⟨d, hd⟩ : ∃ d, pD s = d := ⟨_, rfl⟩
      have hR' : PRel w wr y m d := by rw [← hy, ← hm, ← hd]; exact hR
      obtain ⟨rb, rs, r0, r1, r2, rf⟩ := hR'
      have Rs := Lib.hid rs
      by_cases hv : valid y m d
      · obtain ⟨q1, q2⟩ := parse_good (s := s) ⟨HS.out, hform, by rw [hy, hm, hd]; exact hv⟩
        rw [hy, hm, hd] at q1
        have Q1 := Lib.hid (HV.out.symm.trans q1)
        have Q2 := Lib.hid (HE.out.symm.trans q2)
        have Hv := Lib.hid hv
        clear q1 q2 hv hR hform hy hm hd rs
        go_wp2_with fail
        refine (from_yes _ _ _ _ (HL.out.below (fm_alloc rb _) HL.out.pos) Hv.out).mono ?_
        rintro e w1 ⟨rfl, hb1⟩
        obtain ⟨hc1, hf1⟩ := bcell hb1
        have hz1 : wr.heap.size < w1.heap.size := by have := hb1.size; simp at this; omega
        go_wp2_with fail
        refine (to_num _ _ _ _ (HL.out.below (fm_call (fm_alloc rb _) hb1) HL.out.pos) Hv.out).mono ?_
        rintro e w2 ⟨rfl, hb2⟩
        obtain ⟨hc2, hf2⟩ := bcell hb2
        have hz2 : wr.heap.size < w2.heap.size := by have := hb2.size; omega
        go_wp2
        go_ret2
        exact ⟨by rw [Q1.out, Q2.out]; rfl, by repeat (first | exact Below.refl _ _ | assumption | apply fm_alloc | apply fm_drewN | apply fm_drew | refine fm_call ?_ (by assumption))⟩
      · obtain ⟨q1, q2⟩ := parse_bad (s := s) (fun hp => by have := hp.2.2; rw [hy, hm, hd] at this; exact hv this)
        have Q1 := Lib.hid (HV.out.symm.trans q1)
        have Q2 := Lib.hid (HE.out.symm.trans q2)
        have Hv := Lib.hid hv
        clear q1 q2 hv hR hform hy hm hd rs
        go_wp2_with fail
        refine (from_no _ _ _ _ (HL.out.below (fm_alloc rb _) HL.out.pos) Hv.out).mono ?_
        rintro e w1 ⟨rfl, hb1⟩
        obtain ⟨hc1, hf1⟩ := bcell hb1
        have hz1 : wr.heap.size < w1.heap.size := by have := hb1.size; simp at this; omega
        go_wp2_with fail
        refine (to_no _ _ (Or.inl (by omega))).mono ?_
        rintro e w2 ⟨rfl, hb2⟩
        obtain ⟨hc2, hf2⟩ := bcell hb2
        have hz2 : wr.heap.size < w2.heap.size := by have := hb2.size; omega
        go_wp2
        go_ret2
        exact ⟨by rw [Q1.out, Q2.out]; rfl, by repeat (first | exact Below.refl _ _ | assumption | apply fm_alloc | apply fm_drewN | apply fm_drew | refine fm_call ?_ (by assumption))⟩
    have hlt : k < 10 := by omega
    have hks : k < s.size := by omega
    have hks' : (k : Int) < (s.size : Int) := by omega
    have hbx := bt_eq hks
    have hbb := bt_bd s k
    by_cases h4 : k = 4
    · subst h4
      have hp : pt 4 = 0 := by decide
      by_cases hd : bt s 4 = 45
      · have hdb : (bt s 4 != 45) = false := by rw [bne_eq_false_iff_eq]; exact hd
        have hok' : okAt (bt s) 4 := by unfold okAt; rw [if_pos (by omega)]; exact hd
        have Hok2 := Lib.hid (show ∀ j, j < 4 + 1 → okAt (bt s) j from fun j hj => by
          rcases Nat.lt_or_ge j 4 with a | a
          · exact Hok.out j a
          · have e : j = 4 := by omega
            rw [e]; exact hok')
        have HR := Lib.hid hR
        clear hd hok' hR hbb
        go_wp2_with fail
        have hgk := Hg.out
        go_roundg (10 - (4 + 1))
        case measure => omega
        case rel => exact ⟨4 + 1, by omega, rfl, by rfl, by rfl, Hok2.out, HR.out⟩
      · have hdb : (bt s 4 != 45) = true := bne_iff_ne.mpr hd
        obtain ⟨q1, q2⟩ := parse_bad (s := s) (fun hp => by have := hp.2.1 4 (by omega); unfold okAt at this; rw [if_pos (by omega)] at this; omega)
        have Q1 := Lib.hid (HV.out.symm.trans q1)
        have Q2 := Lib.hid (HE.out.symm.trans q2)
        have hB := hR.bel
        clear q1 q2 hR hd
        go_wp2
        go_ret2
        exact ⟨by rw [Q1.out, Q2.out]; rfl, hB⟩
    by_cases h7 : k = 7
    · subst h7
      have hp : pt 7 = 1 := by decide
      by_cases hd : bt s 7 = 45
      · have hdb : (bt s 7 != 45) = false := by rw [bne_eq_false_iff_eq]; exact hd
        have hok' : okAt (bt s) 7 := by unfold okAt; rw [if_pos (by omega)]; exact hd
        have Hok2 := Lib.hid (show ∀ j, j < 7 + 1 → okAt (bt s) j from fun j hj => by
          rcases Nat.lt_or_ge j 7 with a | a
          · exact Hok.out j a
          · have e : j = 7 := by omega
            rw [e]; exact hok')
        have HR := Lib.hid hR
        clear hd hok' hR hbb
        go_wp2_with fail
        have hgk := Hg.out
        go_roundg (10 - (7 + 1))
        case measure => omega
        case rel => exact ⟨7 + 1, by omega, rfl, by rfl, by rfl, Hok2.out, HR.out⟩
      · have hdb : (bt s 7 != 45) = true := bne_iff_ne.mpr hd
        obtain ⟨q1, q2⟩ := parse_bad (s := s) (fun hp => by have := hp.2.1 7 (by omega); unfold okAt at this; rw [if_pos (by omega)] at this; omega)
        have Q1 := Lib.hid (HV.out.symm.trans q1)
        have Q2 := Lib.hid (HE.out.symm.trans q2)
        have hB := hR.bel
        clear q1 q2 hR hd
        go_wp2
        go_ret2
        exact ⟨by rw [Q1.out, Q2.out]; rfl, hB⟩
    have h4b : ((k : Int) == 4) = false := by rw [beq_eq_false_iff_ne]; omega
    have h7b : ((k : Int) == 7) = false := by rw [beq_eq_false_iff_ne]; omega
    by_cases hlo : bt s k < 48
    · obtain ⟨q1, q2⟩ := parse_bad (s := s) (fun hp => by have := hp.2.1 k hlt; unfold okAt at this; rw [if_neg (by omega)] at this; omega)
      have Q1 := Lib.hid (HV.out.symm.trans q1)
      have Q2 := Lib.hid (HE.out.symm.trans q2)
      have hB := hR.bel
      clear q1 q2 hR
      go_wp2
      go_ret2
      exact ⟨by rw [Q1.out, Q2.out]; rfl, hB⟩
    by_cases hhi : 57 < bt s k
    · obtain ⟨q1, q2⟩ := parse_bad (s := s) (fun hp => by have := hp.2.1 k hlt; unfold okAt at this; rw [if_neg (by omega)] at this; omega)
      have Q1 := Lib.hid (HV.out.symm.trans q1)
      have Q2 := Lib.hid (HE.out.symm.trans q2)
      have hB := hR.bel
      clear q1 q2 hR
      go_wp2
      go_ret2
      exact ⟨by rw [Q1.out, Q2.out]; rfl, hB⟩
    have hlo' : 48 ≤ bt s k := by omega
    have hhi' : bt s k ≤ 57 := by omega
    have hok' : okAt (bt s) k := by unfold okAt; rw [if_neg (by omega)]; exact ⟨hlo', hhi'⟩
    have Hok2 := Lib.hid (show ∀ j, j < k + 1 → okAt (bt s) j from fun j hj => by
      rcases Nat.lt_or_ge j k with a | a
      · exact Hok.out j a
      · have e : j = k := by omega
        rw [e]; exact hok')
    clear hlo hhi hok'
    have hdig : ∀ j, j < k → j ≠ 4 → j ≠ 7 → 48 ≤ bt s j ∧ bt s j ≤ 57 := fun j hj a b => by
      have := Hok.out j hj; unfold okAt at this; rw [if_neg (by omega)] at this; exact this
    clear hbb
    by_cases ka : k < 4
    · skip
      have hp : pt k = 0 := by unfold pt; rw [if_pos (by omega)]
      have hp2 : pt (k + 1) = 0 := by unfold pt; rw [if_pos (by omega)]
      obtain ⟨x, hx⟩ : ∃ x, nv (bt s) 0 (min k 4) = x := ⟨_, rfl⟩
      have hxb : 0 ≤ x ∧ x < 1000 := by
        have := nv_bd (bt s) 0 (min k 4) (fun j hj => hdig _ (by omega) (by omega) (by omega))
        have e := pow3 (m := min k 4) (by omega)
        omega
      have hx2 : nv (bt s) 0 (min (k + 1) 4) = 10 * x + (bt s k - 48) := by
        rw [show min (k + 1) 4 = (min k 4) + 1 by omega]
        simp only [nv]
        rw [hx, show 0 + (min k 4) = k by omega]
      rw [hx] at hR
      have Hx2 := Lib.hid hx2
      have HR := Lib.hid hR
      have g0 := hR.c0
      have gf := hR.f
      have HP2 := Lib.hid hp2
      clear hx hx2 hp2 hR hdig
      go_wp2_with fail
      go_still_tail 12, (by kernel_rfl)
      change wpList _ _ _ _ _ wr.drew
      go_wp2_with fail
      have hgk := Hg.out
      go_roundg (10 - (k + 1))
      case measure => omega
      case rel =>
        refine ⟨k + 1, by omega, rfl, by rw [HP2.out], by go_num, Hok2.out, ?_⟩
        rw [Hx2.out, show min (k + 1 - 5) 2 = min (k - 5) 2 by omega, show min (k + 1 - 8) 2 = min (k - 8) 2 by omega]
        exact HR.out.s0 _
    by_cases kb : k < 7
    · skip
      have hp : pt k = 1 := by unfold pt; rw [if_neg (by omega), if_pos (by omega)]
      have hp2 : pt (k + 1) = 1 := by unfold pt; rw [if_neg (by omega), if_pos (by omega)]
      obtain ⟨x, hx⟩ : ∃ x, nv (bt s) 5 (min (k - 5) 2) = x := ⟨_, rfl⟩
      have hxb : 0 ≤ x ∧ x < 1000 := by
        have := nv_bd (bt s) 5 (min (k - 5) 2) (fun j hj => hdig _ (by omega) (by omega) (by omega))
        have e := pow3 (m := min (k - 5) 2) (by omega)
        omega
      have hx2 : nv (bt s) 5 (min (k + 1 - 5) 2) = 10 * x + (bt s k - 48) := by
        rw [show min (k + 1 - 5) 2 = (min (k - 5) 2) + 1 by omega]
        simp only [nv]
        rw [hx, show 5 + (min (k - 5) 2) = k by omega]
      rw [hx] at hR
      have Hx2 := Lib.hid hx2
      have HR := Lib.hid hR
      have g0 := hR.c1
      have gf := hR.f
      have HP2 := Lib.hid hp2
      clear hx hx2 hp2 hR hdig
      go_wp2_with fail
      go_still_tail 12, (by kernel_rfl)
      change wpList _ _ _ _ _ wr.drew
      go_wp2_with fail
      have hgk := Hg.out
      go_roundg (10 - (k + 1))
      case measure => omega
      case rel =>
        refine ⟨k + 1, by omega, rfl, by rw [HP2.out], by go_num, Hok2.out, ?_⟩
        rw [Hx2.out, show min (k + 1) 4 = min k 4 by omega, show min (k + 1 - 8) 2 = min (k - 8) 2 by omega]
        exact HR.out.s1 _
    · skip
      have hp : pt k = 2 := by unfold pt; rw [if_neg (by omega), if_neg (by omega)]
      have hp2 : pt (k + 1) = 2 := by unfold pt; rw [if_neg (by omega), if_neg (by omega)]
      obtain ⟨x, hx⟩ : ∃ x, nv (bt s) 8 (min (k - 8) 2) = x := ⟨_, rfl⟩
      have hxb : 0 ≤ x ∧ x < 1000 := by
        have := nv_bd (bt s) 8 (min (k - 8) 2) (fun j hj => hdig _ (by omega) (by omega) (by omega))
        have e := pow3 (m := min (k - 8) 2) (by omega)
        omega
      have hx2 : nv (bt s) 8 (min (k + 1 - 8) 2) = 10 * x + (bt s k - 48) := by
        rw [show min (k + 1 - 8) 2 = (min (k - 8) 2) + 1 by omega]
        simp only [nv]
        rw [hx, show 8 + (min (k - 8) 2) = k by omega]
      rw [hx] at hR
      have Hx2 := Lib.hid hx2
      have HR := Lib.hid hR
      have g0 := hR.c2
      have gf := hR.f
      have HP2 := Lib.hid hp2
      clear hx hx2 hp2 hR hdig
      go_wp2_with fail
      go_still_tail 12, (by kernel_rfl)
      change wpList _ _ _ _ _ wr.drew
      go_wp2_with fail
      have hgk := Hg.out
      go_roundg (10 - (k + 1))
      case measure => omega
      case rel =>
        refine ⟨k + 1, by omega, rfl, by rw [HP2.out], by go_num, Hok2.out, ?_⟩
        rw [Hx2.out, show min (k + 1) 4 = min k 4 by omega, show min (k + 1 - 5) 2 = min (k - 5) 2 by omega]
        exact HR.out.s2 _

/-- day.Parse, of every text -/
theorem parse_any (s : ByteArray) (w : World) (hs : s.size ≤ 140737488351232) (hL : LD w) :
    Calls Tryd.prog 35 #[.string s] w fun e w' => e = .returned (.tuple #[.int .i64 (parseV s), .int .i64 (parseE s)]) ∧ Below w.heap.size w w' := by
  by_cases h : s.size = 10
  · exact parse_ten s w hL h
  · exact parse_len s w hs h
end Go.Proofs.YtidjipcdnkgigaaDoor
