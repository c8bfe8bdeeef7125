/- The document's Parse of an amount's text: a machine over its bytes. -/
import Derived.Test.YtncndmhmmfbklaaDoorWideP
import Derived.Test.YtncndmhmmfbklaaDoorPaP
import Derived.Test.YtncndmhmmfbklaaDoorMonL
import Derived.Outline
import Derived.Deep.RegionHeld3
import Derived.Deep.DeepCutAuto
namespace Go.Proofs.YtncndmhmmfbklaaDoor
set_option linter.unusedVariables false
set_option linter.unusedSimpArgs false
open Go.RowKit
open MonMath (dig car bor mc)
open X (digB ret_ii)
/-- one wide number in the call's own memory -/
structure VRel (w wr : World) (v : Nat) : Prop where
  bel : Below w.heap.size w wr
  size : w.heap.size < wr.heap.size
  u : WAt wr w.heap.size v
  fu : ∀ o, wr.frozen? ⟨w.heap.size, o, none⟩ = false
theorem VRel.later {w wr w2 : World} {v : Nat} (h : VRel w wr v) (hq : Below wr.heap.size wr w2) : VRel w w2 v where
  bel := fm_call h.bel hq
  size := by have := h.size; have := hq.size; omega
  u := h.u.below hq (by have := h.size; omega)
  fu := fun o => by rw [hq.frozen (p := ⟨w.heap.size, o, none⟩) (show w.heap.size < wr.heap.size by have := h.size; omega)]; exact h.fu o
theorem VRel.put {w w2 : World} {v : Nat} (h : VRel w w2 v) (v' : Nat) : VRel w (put6W w2 w.heap.size v') v' where
  bel := bel6 (g := fun j => (dig v' j : Int)) h.bel (Nat.le_refl _)
  size := by unfold put6W; rw [siz6 (g := fun j => (dig v' j : Int))]; exact h.size
  u := put6 (g := fun j => (dig v' j : Int)) (fun j hj => ⟨_, h.u j hj⟩)
  fu := fun o => by unfold put6W; rw [frz6 (g := fun j => (dig v' j : Int))]; exact h.fu o
theorem times_at {w0 w' : World} (h : Below w0.heap.size w0 w') (x y : Nat) (hx : x < 4294967296 ^ 6) :
    Calls Tryd.prog 49 #[wide x, wide y] w' fun e w'' => e = .returned (wide (x * y)) ∧ Below w0.heap.size w0 w'' :=
  (times_any x y w' hx).mono fun _ _ ⟨he, hb⟩ => ⟨he, fm_call h hb⟩
theorem of_at {w0 w' : World} (h : Below w0.heap.size w0 w') (a : Int) (h1 : -9223372036854775808 ≤ a) (h2 : a ≤ 9223372036854775807) :
    Calls Tryd.prog 50 #[.int .i64 a] w' fun e w'' => e = .returned (wide a.natAbs) ∧ Below w0.heap.size w0 w'' :=
  (of_any a w' h1 h2).mono fun _ _ ⟨he, hb⟩ => ⟨he, fm_call h hb⟩
theorem plus_at2 {w0 w' : World} (h : Below w0.heap.size w0 w') (x y : Nat) :
    Calls Tryd.prog 51 #[wide x, wide y] w' fun e w'' => e = .returned (wide (x + y)) ∧ Below w0.heap.size w0 w'' :=
  (plus_any x y w').mono fun _ _ ⟨he, hb⟩ => ⟨he, fm_call h hb⟩
def scan (d : Nat) : List UInt8 → Int → Int → Nat → Option (Int × Int × Nat)
  | [], w, b, v => some (w, b, v)
  | c :: r, w, b, v => if c.toNat = 46 ∧ b < 0 ∧ 0 < d then scan d r w 0 v else if digB c = true then scan d r (if b < 0 then w + 1 else w) (if b < 0 then b else b + 1) (v * 10 + (c.toNat - 48)) else none
theorem scan_drop (d : Nat) (s : ByteArray) (k : Nat) (h : k < s.size) (w b : Int) (v : Nat) : scan d (s.data.toList.drop k) w b v = (if s[k].toNat = 46 ∧ b < 0 ∧ 0 < d then scan d (s.data.toList.drop (k + 1)) w 0 v else if digB s[k] = true then scan d (s.data.toList.drop (k + 1)) (if b < 0 then w + 1 else w) (if b < 0 then b else b + 1) (v * 10 + (s[k].toNat - 48)) else none) := by
  have e : s.data.toList.drop k = s[k] :: s.data.toList.drop (k + 1) := by rw [List.drop_eq_getElem_cons (by simpa using h)]; rfl
  rw [e, scan]
def endP (m : Bool) (d : Nat) : Option (Int × Int × Nat) → Int × Int
  | none => (0, 12)
  | some (w, b, v) => if w = 0 then (0, 12) else if b = 0 then (0, 12) else if (d : Int) < b then (0, 12) else
    if v * 10 ^ (d - b.toNat) < 9223372036854775808 then (sg (v * 10 ^ (d - b.toNat)) m, 0) else (0, 11)
theorem VRel.start (w : World) (t : TypeId) : VRel w (w.alloc (.cells #[.int .u64 0, .int .u64 0, .int .u64 0, .int .u64 0, .int .u64 0, .int .u64 0] t)) 0 where
  bel := (Below.refl _ _).alloc (Nat.le_refl _) _
  size := by simp
  u := fun j hj => by
    have z : dig 0 j = 0 := by unfold MonMath.dig; simp
    rw [World.cell?_alloc_at _ _ _ _ rfl, z]
    have : j = 0 ∨ j = 1 ∨ j = 2 ∨ j = 3 ∨ j = 4 ∨ j = 5 := by omega
    rcases this with rfl | rfl | rfl | rfl | rfl | rfl <;> rfl
  fu := fun o => World.frozen?_alloc_at _ _ _ _ rfl
/-- a wide number stored -/
def StoredW (wr : World) (B v : Nat) (wx : World) : Prop := ∃ w3, Below wr.heap.size wr w3 ∧ wx = put6W w3 B v
open Go.Proofs.YtncndmhmmfbklaaDoorW.PrintWords Go.Proofs.YtncndmhmmfbklaaDoorW.PrintLast Go.Proofs.YtncndmhmmfbklaaDoorW.PrintMore
attribute [local go_sem] max2_int min2_int max_two min_two
set_option maxHeartbeats 32000000 in
set_option maxRecDepth 100000 in
theorem rparse_any (t S : ByteArray) (M : Bool) (d : Nat) (w : World) (h : d ≤ 6) (ht0 : t.size ≤ 40) (hS : (M = false ∧ S = t ∧ ∀ h0 : 0 < t.size, t[0].toNat ≠ 45) ∨ (M = true ∧ S = t.extract 1 t.size ∧ ∃ h0 : 0 < t.size, t[0].toNat = 45)) :
    Calls Tryd.prog 22 #[.string t, .int .i64 d] w fun e w' => e = .returned (.tuple #[.int .i64 (endP M d (scan d S.data.toList 0 (-1) 0)).1, .int .i64 (endP M d (scan d S.data.toList 0 (-1) 0)).2]) ∧ Below w.heap.size w w' := by
  obtain ⟨R, hR0⟩ : ∃ R, endP M d (scan d S.data.toList 0 (-1) 0) = R := ⟨_, rfl⟩
  rw [hR0]
  have HR := Lib.hid hR0
  have t1 : decide (40 < (t.size : Int)) = false := decide_eq_false (by omega)
  have t2 : decide (40 < t.size) = false := decide_eq_false (by omega)
  have t3 : decide ((d : Int) < 0) = false := decide_eq_false (by omega)
  have t4 : decide (6 < (d : Int)) = false := decide_eq_false (by omega)
  have t4' : decide (6 < d) = false := decide_eq_false (by omega)
  have HV0 := Lib.hid (VRel.start w 79)
  have ht : S.size ≤ 40 := by
    rcases hS with ⟨_, rfl, _⟩ | ⟨_, rfl, _⟩
    · exact ht0
    · simp; omega
  have HSS := Lib.hid hS
  clear hR0 hS
  go_enter Tryd.func22, Tryd.ntmps22
  go_upto_region 6 with fail
  go_cut [7] (fun m wx => m = .bool M ∧ w = wx)
  case first =>
    rcases HSS.out with ⟨rfl, rfl, hm⟩ | ⟨rfl, rfl, h0, hm⟩
    · by_cases h0 : 0 < S.size
      · have t6 : ((S[0].toNat : Int) == 45) = false := beq_eq_false_iff_ne.2 (by have := hm h0; omega)
        have t5 : decide (0 < (S.size : Int)) = true := decide_eq_true (by omega)
        have t5' : decide (0 < S.size) = true := decide_eq_true h0
        clear hm
        go_wp2_with fail
        go_meet
        exact ⟨rfl, rfl⟩
      · have t5 : decide (0 < (S.size : Int)) = false := decide_eq_false (by omega)
        have t5' : decide (0 < S.size) = false := decide_eq_false h0
        clear hm
        go_wp2_with fail
        go_meet
        exact ⟨rfl, rfl⟩
    · have t6 : ((t[0].toNat : Int) == 45) = true := beq_iff_eq.2 (by omega)
      have t5 : decide (0 < (t.size : Int)) = true := decide_eq_true (by omega)
      have t5' : decide (0 < t.size) = true := decide_eq_true h0
      clear hm
      go_wp2_with fail
      go_meet
      exact ⟨rfl, rfl⟩
  case rest =>
  obtain ⟨rfl, rfl⟩ := hcut
  go_upto_if 33 with fail
  go_cut [6] (fun s wx => s = .string S ∧ w = wx)
  case first =>
    rcases HSS.out with ⟨rfl, rfl, hm⟩ | ⟨rfl, rfl, h0, hm⟩
    · clear hm
      go_wp2_with fail
      go_meet
      exact ⟨rfl, rfl⟩
    · have t7 : 1 ≤ t.size := h0
      clear hm
      go_wp2_with fail
      go_meet
      exact ⟨rfl, rfl⟩
  case rest =>
    obtain ⟨rfl, rfl⟩ := hcut
    clear HSS
    go_wp2_with fail
    go_loopg [9, 10, 11] S.size (fun g wn b i wr => ∃ (k : Nat) (W B : Int) (v : Nat), k ≤ S.size ∧ g = S.size - k ∧ 0 ≤ W ∧ W ≤ k ∧ -1 ≤ B ∧ B ≤ k ∧ wn = .int .i64 W ∧ b = .int .i64 B ∧ i = .int .i64 k ∧ Hid (endP M d (scan d (S.data.toList.drop k) W B v) = R) ∧ v < 10 ^ k ∧ VRel w wr v)
    case atStart => exact ⟨0, 0, -1, 0, by omega, by omega, by omega, by omega, by omega, by omega, rfl, rfl, rfl, by rw [List.drop_zero]; exact HR, by decide, HV0.out⟩
    case round =>
      obtain ⟨k, W, B, v, hk, hg, hw0, hw1, hb0, hb1, rfl, rfl, rfl, hsc, hv, hR⟩ := hrel
      have Hg := Lib.hid hg
      have HVb := Lib.hid hv
      clear hg hv
      by_cases hlt : k < S.size
      · have hsd := scan_drop d S k hlt W B v
        have HSC := Lib.hid (by rw [hsd] at hsc; exact hsc.out)
        clear hsc hsd
        by_cases c0 : S[k].toNat = 46
        · have e46 : ((S[k].toNat : Int) == 46) = true := beq_iff_eq.2 (by omega)
          by_cases cb : B < 0
          · have eb : decide (B < 0) = true := decide_eq_true cb
            by_cases cd : 0 < d
            · have ed : decide (0 < (d : Int)) = true := decide_eq_true (by omega)
              have ed2 : decide (0 < d) = true := decide_eq_true cd
              have HSD := Lib.hid (by have q := HSC.out; rw [if_pos ⟨c0, cb, cd⟩] at q; exact q)
              clear HSC c0 cb
              go_wp2_with fail
              have hg2 := Hg.out
              go_roundg (S.size - (k + 1))
              case measure => omega
              case rel => exact ⟨k + 1, W, 0, v, by omega, rfl, hw0, by omega, by omega, by omega, rfl, rfl, by go_num, HSD, Nat.lt_of_lt_of_le HVb.out (Nat.pow_le_pow_right (by omega) (by omega)), hR⟩
            · have ed : decide (0 < (d : Int)) = false := decide_eq_false (by omega)
              have ed2 : decide (0 < d) = false := decide_eq_false cd
              have el : decide ((S[k].toNat : Int) < 48) = true := decide_eq_true (by omega)
              have HSD := Lib.hid (show R = (0, 12) by have q := HSC.out; rw [if_neg (fun h => cd h.2.2), if_neg (by unfold digB; rw [decide_eq_false (by omega)]; simp)] at q; exact q.symm)
              have HBL := Lib.hid hR.bel
              clear HSC c0 hR
              go_wp2_with fail
              go_ret2
              exact ⟨ret_ii (by rw [HSD.out]) (by rw [HSD.out]), HBL.out⟩
          · have eb : decide (B < 0) = false := decide_eq_false cb
            have el : decide ((S[k].toNat : Int) < 48) = true := decide_eq_true (by omega)
            have HSD := Lib.hid (show R = (0, 12) by have q := HSC.out; rw [if_neg (fun h => cb h.2.1), if_neg (by unfold digB; rw [decide_eq_false (by omega)]; simp)] at q; exact q.symm)
            have HBL := Lib.hid hR.bel
            clear HSC c0 hR
            go_wp2_with fail
            go_ret2
            exact ⟨ret_ii (by rw [HSD.out]) (by rw [HSD.out]), HBL.out⟩
        · have e46 : ((S[k].toNat : Int) == 46) = false := beq_eq_false_iff_ne.2 (by omega)
          have hno : ¬ (S[k].toNat = 46 ∧ B < 0 ∧ 0 < d) := fun h => c0 h.1
          by_cases cl : S[k].toNat < 48
          · have el : decide ((S[k].toNat : Int) < 48) = true := decide_eq_true (by omega)
            have HSD := Lib.hid (show R = (0, 12) by have q := HSC.out; rw [if_neg hno, if_neg (by unfold digB; rw [decide_eq_false (by omega)]; simp)] at q; exact q.symm)
            have HBL := Lib.hid hR.bel
            clear HSC c0 hR hno
            go_wp2_with fail
            go_ret2
            exact ⟨ret_ii (by rw [HSD.out]) (by rw [HSD.out]), HBL.out⟩
          · have el : decide ((S[k].toNat : Int) < 48) = false := decide_eq_false (by omega)
            by_cases cu : 57 < S[k].toNat
            · have eu : decide (57 < (S[k].toNat : Int)) = true := decide_eq_true (by omega)
              have HSD := Lib.hid (show R = (0, 12) by have q := HSC.out; rw [if_neg hno, if_neg (by unfold digB; rw [decide_eq_false (show ¬ S[k].toNat ≤ 57 by omega)]; simp)] at q; exact q.symm)
              have HBL := Lib.hid hR.bel
              clear HSC c0 hR hno
              go_wp2_with fail
              go_ret2
              exact ⟨ret_ii (by rw [HSD.out]) (by rw [HSD.out]), HBL.out⟩
            · have eu : decide (57 < (S[k].toNat : Int)) = false := decide_eq_false (by omega)
              clear c0
              have hd1 : 48 ≤ S[k].toNat := by omega
              have hd2 : S[k].toNat ≤ 57 := by omega
              have hdB : digB S[k] = true := by unfold digB; rw [decide_eq_true hd1, decide_eq_true hd2]; rfl
              have HSD := Lib.hid (by have q := HSC.out; rw [if_neg hno, if_pos hdB] at q; exact q)
              clear HSC hno hdB
              obtain ⟨c, hc⟩ : ∃ c : Nat, S[k].toNat = c := ⟨_, rfl⟩
              rw [hc] at hd1 hd2 HSD
              have hcn : ((S[k].toNat : Nat) : Int) = (c : Int) := by rw [hc]
              have s1 : IntKind.u8.wrap ((c : Int) - 48) = ((c - 48 : Nat) : Int) := by rw [IntKind.wrap_u8]; omega
              have s2 : IntKind.i64.wrap ((c - 48 : Nat) : Int) = ((c - 48 : Nat) : Int) := by rw [IntWalk.i64_in _ (by omega)]
              have hU := hR.u
              have WU := Lib.hid (show ∀ w', Below wr.heap.size wr w' → WAt w' w.heap.size v from fun w' q => hU.below q hR.size)
              have WF := Lib.hid (show ∀ w', Below wr.heap.size wr w' → ∀ o, w'.frozen? ⟨w.heap.size, o, none⟩ = false from fun w' q o => by rw [q.frozen (p := ⟨w.heap.size, o, none⟩) hR.size]; exact hR.fu o)
              have u0 := hU 0 (by omega)
              have u1 := hU 1 (by omega)
              have u2 := hU 2 (by omega)
              have u3 := hU 3 (by omega)
              have u4 := hU 4 (by omega)
              have u5 := hU 5 (by omega)
              have hvB : v < 4294967296 ^ 6 := by
                have h1 : (10 : Nat) ^ k ≤ 10 ^ 50 := Nat.pow_le_pow_right (by omega) (by omega)
                have h2 : (10 : Nat) ^ 50 < 4294967296 ^ 6 := by decide
                have := HVb.out
                omega
              have HvB := Lib.hid hvB
              have HRR := Lib.hid hR
              clear hR hU hvB
              go_upto_region 19 with fail
              go_cut [] (fun wx => StoredW wr w.heap.size (v * 10 + (c - 48)) wx)
              case first =>
                go_region_with (first
                  | (go_at_call 50; refine (of_at (w0 := wr) (by repeat (first | assumption | exact Below.refl _ _ | apply fm_drewN | apply fm_drew)) _ (by omega) (by omega)).mono ?_; rintro e w1 ⟨rfl, hq⟩; have v0 := WU.out _ hq 0 (by omega); have v1 := WU.out _ hq 1 (by omega); have v2 := WU.out _ hq 2 (by omega); have v3 := WU.out _ hq 3 (by omega); have v4 := WU.out _ hq 4 (by omega); have v5 := WU.out _ hq 5 (by omega); have vf := WF.out _ hq)
                  | (go_at_call 49; refine (times_at (w0 := wr) (by repeat (first | assumption | exact Below.refl _ _ | apply fm_drewN | apply fm_drew)) v (Int.natAbs 10) HvB.out).mono ?_; rintro e w2 ⟨rfl, hq2⟩; have x0 := WU.out _ hq2 0 (by omega); have x1 := WU.out _ hq2 1 (by omega); have x2 := WU.out _ hq2 2 (by omega); have x3 := WU.out _ hq2 3 (by omega); have x4 := WU.out _ hq2 4 (by omega); have x5 := WU.out _ hq2 5 (by omega); have xf := WF.out _ hq2)
                  | (go_at_call 51; refine (plus_at2 (w0 := wr) (by repeat (first | assumption | exact Below.refl _ _ | apply fm_drewN | apply fm_drew)) (v * Int.natAbs 10) (Int.natAbs ((c - 48 : Nat) : Int))).mono ?_; rintro e w3 ⟨rfl, hq3⟩; unfold wide; have y0 := WU.out _ hq3 0 (by omega); have y1 := WU.out _ hq3 1 (by omega); have y2 := WU.out _ hq3 2 (by omega); have y3 := WU.out _ hq3 3 (by omega); have y4 := WU.out _ hq3 4 (by omega); have y5 := WU.out _ hq3 5 (by omega); have yf := WF.out _ hq3))
                all_goals
                  first
                    | go_meet
                    | (go_wp2_with fail; go_meet)
                all_goals exact ⟨_, hq3, rfl⟩
              case rest =>
                obtain ⟨w3, hq3, rfl⟩ := hcut
                have hv10 : v * 10 + (c - 48) < 10 ^ (k + 1) := by have := HVb.out; rw [Nat.pow_succ]; omega
                have HV10 := Lib.hid hv10
                clear hv10
                have hfin := (VRel.later HRR.out hq3).put (v * 10 + (c - 48))
                by_cases cb : B < 0
                · have eb : decide (B < 0) = true := decide_eq_true cb
                  have ew : wrap64 (W + 1) = W + 1 := by unfold wrap64; omega
                  have HSE := Lib.hid (by have q := HSD.out; rw [if_pos cb, if_pos cb] at q; exact q)
                  have HCB := Lib.hid cb
                  clear HSD cb
                  go_wp2_with fail
                  have hg2 := Hg.out
                  go_roundg (S.size - (k + 1))
                  case measure => omega
                  case rel => exact ⟨k + 1, W + 1, B, v * 10 + (c - 48), by omega, rfl, by omega, by omega, by omega, by omega, rfl, rfl, by go_num, HSE, HV10.out, hfin⟩
                · have eb : decide (B < 0) = false := decide_eq_false cb
                  have ew : wrap64 (B + 1) = B + 1 := by unfold wrap64; omega
                  have HSE := Lib.hid (by have q := HSD.out; rw [if_neg cb, if_neg cb] at q; exact q)
                  have HCB := Lib.hid cb
                  clear HSD cb
                  go_wp2_with fail
                  have hg2 := Hg.out
                  go_roundg (S.size - (k + 1))
                  case measure => omega
                  case rel => exact ⟨k + 1, W, B + 1, v * 10 + (c - 48), by omega, rfl, by omega, by omega, by omega, by omega, rfl, rfl, by go_num, HSE, HV10.out, hfin⟩
      · obtain rfl : k = S.size := by omega
        have HSC := Lib.hid (by have q := hsc.out; rw [List.drop_of_length_le (by simp), scan] at q; exact q)
        clear hsc
        by_cases cw : W = 0
        · have e1 : (W == 0) = true := beq_iff_eq.2 cw
          have HSD := Lib.hid (show R = (0, 12) by rw [← HSC.out]; unfold endP; simp only; rw [if_pos cw])
          have HBL := Lib.hid hR.bel
          clear HSC cw hR
          go_wp2_with fail
          go_ret2
          exact ⟨ret_ii (by rw [HSD.out]) (by rw [HSD.out]), HBL.out⟩
        have e1 : (W == 0) = false := beq_eq_false_iff_ne.2 cw
        by_cases cb : B = 0
        · have e2 : (B == 0) = true := beq_iff_eq.2 cb
          have HSD := Lib.hid (show R = (0, 12) by rw [← HSC.out]; unfold endP; simp only; rw [if_neg cw, if_pos cb])
          have HBL := Lib.hid hR.bel
          clear HSC cw hR cb
          go_wp2_with fail
          go_ret2
          exact ⟨ret_ii (by rw [HSD.out]) (by rw [HSD.out]), HBL.out⟩
        have e2 : (B == 0) = false := beq_eq_false_iff_ne.2 cb
        by_cases cd : (d : Int) < B
        · have e3 : decide ((d : Int) < B) = true := decide_eq_true cd
          have HSD := Lib.hid (show R = (0, 12) by rw [← HSC.out]; unfold endP; simp only; rw [if_neg cw, if_neg cb, if_pos cd])
          have HBL := Lib.hid hR.bel
          clear HSC cw hR cb
          go_wp2_with fail
          go_ret2
          exact ⟨ret_ii (by rw [HSD.out]) (by rw [HSD.out]), HBL.out⟩
        have e3 : decide ((d : Int) < B) = false := decide_eq_false cd
        obtain ⟨n, hn, hn2, hnd⟩ : ∃ n : Nat, B.toNat = n ∧ (if B < 0 then (0 : Int) else B) = (n : Int) ∧ n ≤ d := ⟨B.toNat, rfl, by split <;> omega, by omega⟩
        have HSD := Lib.hid (show (if v * 10 ^ (d - n) < 9223372036854775808 then (sg (v * 10 ^ (d - n)) M, 0) else (0, 11)) = R by rw [← HSC.out]; unfold endP; simp only; rw [if_neg cw, if_neg cb, if_neg cd, hn])
        have hvv : v < 10 ^ 40 := Nat.lt_of_lt_of_le HVb.out (Nat.pow_le_pow_right (by omega) ht)
        have HVV := Lib.hid hvv
        clear HSC cw cb cd hn hvv
        have hR0 := Lib.hid hR
        clear hR
        go_wp2_with fail
        go_loopg [12] (d - n) (fun g i wr => ∃ (j : Nat), n ≤ j ∧ j ≤ d ∧ g = d - j ∧ i = .int .i64 j ∧ VRel w wr (v * 10 ^ (j - n)))
        case atStart => exact ⟨n, by omega, by omega, by omega, by first | rfl | (rw [hn2]), by rw [Nat.sub_self, Nat.pow_zero, Nat.mul_one]; exact hR0.out⟩
        case round =>
          obtain ⟨j, hj1, hj2, hg, rfl, hR⟩ := hrel
          have Hg := Lib.hid hg
          clear hg
          obtain ⟨x, hx⟩ : ∃ x, v * 10 ^ (j - n) = x := ⟨_, rfl⟩
          have hxs : v * 10 ^ (j + 1 - n) = x * 10 := by rw [← hx, show j + 1 - n = (j - n) + 1 by omega, Nat.pow_succ, Nat.mul_assoc]
          have hxb : x < 10 ^ 50 := by
            rw [← hx]
            have h1 : (10 : Nat) ^ (j - n) ≤ 10 ^ 6 := Nat.pow_le_pow_right (by omega) (by omega)
            have h2 := Nat.mul_le_mul (Nat.le_of_lt HVV.out) h1
            have h3 : (10 : Nat) ^ 40 * 10 ^ 6 < 10 ^ 50 := by decide
            omega
          have hxB : x < 4294967296 ^ 6 := by
            have h2 : (10 : Nat) ^ 50 < 4294967296 ^ 6 := by decide
            omega
          rw [hx] at hR
          have HXS := Lib.hid hxs
          have HXB := Lib.hid hxB
          have HX := Lib.hid hx
          clear hx hxs hxb hxB
          have hU := hR.u
          have WU := Lib.hid (show ∀ w', Below wr.heap.size wr w' → WAt w' w.heap.size x from fun w' q => hU.below q hR.size)
          have WF := Lib.hid (show ∀ w', Below wr.heap.size wr w' → ∀ o, w'.frozen? ⟨w.heap.size, o, none⟩ = false from fun w' q o => by rw [q.frozen (p := ⟨w.heap.size, o, none⟩) hR.size]; exact hR.fu o)
          have u0 := hU 0 (by omega)
          have u1 := hU 1 (by omega)
          have u2 := hU 2 (by omega)
          have u3 := hU 3 (by omega)
          have u4 := hU 4 (by omega)
          have u5 := hU 5 (by omega)
          have HRR := Lib.hid hR
          clear hR hU
          by_cases hlt : j < d
          · go_upto_region 28 with fail
            go_region_with (first
              | (go_at_call 50; refine (of_at (w0 := wr) (by repeat (first | assumption | exact Below.refl _ _ | apply fm_drewN | apply fm_drew)) _ (by omega) (by omega)).mono ?_; rintro e w1 ⟨rfl, hq⟩; have v0 := WU.out _ hq 0 (by omega); have v1 := WU.out _ hq 1 (by omega); have v2 := WU.out _ hq 2 (by omega); have v3 := WU.out _ hq 3 (by omega); have v4 := WU.out _ hq 4 (by omega); have v5 := WU.out _ hq 5 (by omega); have vf := WF.out _ hq)
              | (go_at_call 49; refine (times_at (w0 := wr) (by repeat (first | assumption | exact Below.refl _ _ | apply fm_drewN | apply fm_drew)) x (Int.natAbs 10) HXB.out).mono ?_; rintro e w3 ⟨rfl, hq3⟩; unfold wide; have y0 := WU.out _ hq3 0 (by omega); have y1 := WU.out _ hq3 1 (by omega); have y2 := WU.out _ hq3 2 (by omega); have y3 := WU.out _ hq3 3 (by omega); have y4 := WU.out _ hq3 4 (by omega); have y5 := WU.out _ hq3 5 (by omega); have yf := WF.out _ hq3))
            all_goals
              go_wp2_with fail
              have hg2 := Hg.out
              have hfin : VRel w (put6W w3 w.heap.size (x * 10)) (v * 10 ^ (j + 1 - n)) := by rw [HXS.out]; exact (VRel.later HRR.out hq3).put (x * 10)
              go_roundg (d - (j + 1))
              case measure => omega
              case rel => exact ⟨j + 1, by omega, by omega, rfl, by go_num, hfin⟩
          · obtain rfl : j = d := by omega
            have HBL := Lib.hid HRR.out.bel
            have HS2 := HSD.out
            rw [HX.out] at HS2
            by_cases cx : x < 9223372036854775808
            · have HSE := Lib.hid (HS2.symm.trans (if_pos cx))
              have AM := Lib.hid (fun w => amount_ok x M w cx)
              clear cx HS2
              unfold wide at AM
              go_wp2_with fail
              refine (AM.out _).mono ?_
              rintro e w5 ⟨rfl, b5⟩
              have HB5 := Lib.hid (fm_call HBL.out b5)
              clear b5
              go_wp2_with fail
              go_ret2
              exact ⟨ret_ii (by rw [HSE.out]) (by rw [HSE.out]), HB5.out⟩
            · have HSE := Lib.hid (HS2.symm.trans (if_neg cx))
              have AM := Lib.hid (fun w => amount_no x M w HXB.out cx)
              clear cx HS2
              unfold wide at AM
              go_wp2_with fail
              refine (AM.out _).mono ?_
              rintro e w5 ⟨rfl, b5⟩
              have HB5 := Lib.hid (fm_call HBL.out b5)
              clear b5
              go_wp2_with fail
              go_ret2
              exact ⟨ret_ii (by rw [HSE.out]) (by rw [HSE.out]), HB5.out⟩
end Go.Proofs.YtncndmhmmfbklaaDoor
