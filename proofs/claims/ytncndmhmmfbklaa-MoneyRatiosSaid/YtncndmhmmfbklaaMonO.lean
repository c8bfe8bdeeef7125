/- Contract of the document's long division. -/
import Derived.Test.YtncndmhmmfbklaaMonX
import Derived.Test.YtncndmhmmfbklaaMonDiv
import Derived.IntWalk
namespace Go.Proofs.Ytncndmhmmfbklaa
set_option linter.unusedVariables false
set_option linter.unusedSimpArgs false
open Go.RowKit
open MonMath (dig car bor mc)

/-- what Over's loop knows of the world -/
structure OvRel (w wr : World) (x y q r : Nat) : Prop where
  bel : Below w.heap.size w wr
  size : w.heap.size + 5 < wr.heap.size
  xc : WAt wr w.heap.size x
  yc : WAt wr (w.heap.size + 1) y
  z2 : WAt wr (w.heap.size + 1 + 1) 0
  z3 : WAt wr (w.heap.size + 1 + 1 + 1) 0
  qc : WAt wr (w.heap.size + 1 + 1 + 1 + 1) q
  rc : WAt wr (w.heap.size + 1 + 1 + 1 + 1 + 1) r
  fz : ∀ b o, w.heap.size ≤ b → b ≤ w.heap.size + 5 → wr.frozen? ⟨b, o, none⟩ = false

def put6W (w2 : World) (B v : Nat) : World := ((((((w2.setCell ⟨B, 0, none⟩ (.int .u64 (dig v 0))).setCell ⟨B, 1, none⟩ (.int .u64 (dig v 1))).setCell ⟨B, 2, none⟩ (.int .u64 (dig v 2))).setCell ⟨B, 3, none⟩ (.int .u64 (dig v 3))).setCell ⟨B, 4, none⟩ (.int .u64 (dig v 4))).setCell ⟨B, 5, none⟩ (.int .u64 (dig v 5)))
theorem OvRel.later {w wr w2 : World} {x y q r : Nat} (h : OvRel w wr x y q r) (hq : Below wr.heap.size wr w2) : OvRel w w2 x y q r where
  bel := fm_call h.bel hq
  size := by have := h.size; have := hq.size; omega
  xc := h.xc.below hq (by have := h.size; omega)
  yc := h.yc.below hq (by have := h.size; omega)
  z2 := h.z2.below hq (by have := h.size; omega)
  z3 := h.z3.below hq (by have := h.size; omega)
  qc := h.qc.below hq (by have := h.size; omega)
  rc := h.rc.below hq (by have := h.size; omega)
  fz := fun b o h1 h2 => by rw [hq.frozen (p := ⟨b, o, none⟩) (show b < wr.heap.size by have := h.size; omega)]; exact h.fz b o h1 h2
theorem OvRel.putR {w w2 : World} {x y q r : Nat} (h : OvRel w w2 x y q r) (r' : Nat) : OvRel w (put6W w2 (w.heap.size + 1 + 1 + 1 + 1 + 1) r') x y q r' where
  bel := bel6 (g := fun j => (dig r' j : Int)) h.bel (by omega)
  size := by have := h.size; show _ < (put6W w2 (w.heap.size + 1 + 1 + 1 + 1 + 1) r').heap.size; unfold put6W; rw [siz6 (g := fun j => (dig r' j : Int))]; omega
  xc := fun j hj => by unfold put6W; rw [far6 (g := fun j => (dig r' j : Int)) (by omega)]; exact h.xc j hj
  yc := fun j hj => by unfold put6W; rw [far6 (g := fun j => (dig r' j : Int)) (by omega)]; exact h.yc j hj
  z2 := fun j hj => by unfold put6W; rw [far6 (g := fun j => (dig r' j : Int)) (by omega)]; exact h.z2 j hj
  z3 := fun j hj => by unfold put6W; rw [far6 (g := fun j => (dig r' j : Int)) (by omega)]; exact h.z3 j hj
  qc := fun j hj => by unfold put6W; rw [far6 (g := fun j => (dig r' j : Int)) (by omega)]; exact h.qc j hj
  rc := put6 (g := fun j => (dig r' j : Int)) (fun j hj => ⟨_, h.rc j hj⟩)
  fz := fun b o h1 h2 => by unfold put6W; rw [frz6 (g := fun j => (dig r' j : Int))]; exact h.fz b o h1 h2
theorem WAt.put {w2 : World} {B v v' k : Nat} {t : Int} (h : WAt w2 B v) (hk : k < 6) (ht : t = (dig v' k : Int)) (he : ∀ l, l ≠ k → dig v' l = dig v l) :
    WAt (w2.drew.setCell ⟨B, k, none⟩ (.int .u64 t)) B v' := fun j hj => by
  have hz := h j hj
  by_cases e : j = k
  · subst e; rw [ht]; simp [go_sem, hz]
  · rw [he j e, ← hz]; simp [go_sem, e, hz]
theorem WAt.far {w2 : World} {B C v k : Nat} {t : Value} (h : WAt w2 C v) (hne : C ≠ B) : WAt (w2.drew.setCell ⟨B, k, none⟩ t) C v := fun j hj => by
  have hz := h j hj
  rw [← hz]
  simp [go_sem, hne]
theorem OvRel.bitR {w w2 : World} {x y q r r' : Nat} {t : Int} (h : OvRel w w2 x y q r) (ht : t = (dig r' 0 : Int)) (he : ∀ l, l ≠ 0 → dig r' l = dig r l) :
    OvRel w (w2.drew.setCell ⟨w.heap.size + 1 + 1 + 1 + 1 + 1, 0, none⟩ (.int .u64 t)) x y q r' where
  bel := h.bel.drew.setCell (by show w.heap.size ≤ w.heap.size + 1 + 1 + 1 + 1 + 1; omega) _
  size := by have := h.size; simpa using this
  xc := h.xc.far (by omega)
  yc := h.yc.far (by omega)
  z2 := h.z2.far (by omega)
  z3 := h.z3.far (by omega)
  qc := h.qc.far (by omega)
  rc := h.rc.put (by omega) ht he
  fz := fun b o h1 h2 => by have := h.fz b o h1 h2; simp [go_sem, this]
theorem OvRel.bitQ {w w2 : World} {x y q q' r k : Nat} {t : Int} (h : OvRel w w2 x y q r) (hk : k < 6) (ht : t = (dig q' k : Int)) (he : ∀ l, l ≠ k → dig q' l = dig q l) :
    OvRel w (w2.drew.setCell ⟨w.heap.size + 1 + 1 + 1 + 1, k, none⟩ (.int .u64 t)) x y q' r where
  bel := h.bel.drew.setCell (by show w.heap.size ≤ w.heap.size + 1 + 1 + 1 + 1; omega) _
  size := by have := h.size; simpa using this
  xc := h.xc.far (by omega)
  yc := h.yc.far (by omega)
  z2 := h.z2.far (by omega)
  z3 := h.z3.far (by omega)
  qc := h.qc.put hk ht he
  rc := h.rc.far (by omega)
  fz := fun b o h1 h2 => by have := h.fz b o h1 h2; simp [go_sem, this]
theorem OvRel.start (w : World) (x y : Nat) (t : TypeId) (a b : Array Value) (ha : a = #[.int .u64 (dig x 0), .int .u64 (dig x 1), .int .u64 (dig x 2), .int .u64 (dig x 3), .int .u64 (dig x 4), .int .u64 (dig x 5)])
    (hb : b = #[.int .u64 (dig y 0), .int .u64 (dig y 1), .int .u64 (dig y 2), .int .u64 (dig y 3), .int .u64 (dig y 4), .int .u64 (dig y 5)]) :
    OvRel w ((((((w.alloc (.cells a t)).alloc (.cells b t)).alloc (.cells #[.int .u64 0, .int .u64 0, .int .u64 0, .int .u64 0, .int .u64 0, .int .u64 0] t)).alloc (.cells #[.int .u64 0, .int .u64 0, .int .u64 0, .int .u64 0, .int .u64 0, .int .u64 0] t)).alloc (.cells #[.int .u64 0, .int .u64 0, .int .u64 0, .int .u64 0, .int .u64 0, .int .u64 0] t)).alloc (.cells #[.int .u64 0, .int .u64 0, .int .u64 0, .int .u64 0, .int .u64 0, .int .u64 0] t)) x y 0 0 where
  bel := fm_alloc (fm_alloc (fm_alloc (fm_alloc (fm_alloc (fm_alloc (Below.refl _ _) _) _) _) _) _) _
  size := by simp
  xc := by subst ha; exact six (by simp [go_sem]) (by simp [go_sem]) (by simp [go_sem]) (by simp [go_sem]) (by simp [go_sem]) (by simp [go_sem])
  yc := by subst hb; exact six (by simp [go_sem]) (by simp [go_sem]) (by simp [go_sem]) (by simp [go_sem]) (by simp [go_sem]) (by simp [go_sem])
  z2 := fun j hj => by rw [MonMath.dig_zero]; revert j hj; exact six (by simp [go_sem]) (by simp [go_sem]) (by simp [go_sem]) (by simp [go_sem]) (by simp [go_sem]) (by simp [go_sem])
  z3 := fun j hj => by rw [MonMath.dig_zero]; revert j hj; exact six (by simp [go_sem]) (by simp [go_sem]) (by simp [go_sem]) (by simp [go_sem]) (by simp [go_sem]) (by simp [go_sem])
  qc := fun j hj => by rw [MonMath.dig_zero]; revert j hj; exact six (by simp [go_sem]) (by simp [go_sem]) (by simp [go_sem]) (by simp [go_sem]) (by simp [go_sem]) (by simp [go_sem])
  rc := fun j hj => by rw [MonMath.dig_zero]; revert j hj; exact six (by simp [go_sem]) (by simp [go_sem]) (by simp [go_sem]) (by simp [go_sem]) (by simp [go_sem]) (by simp [go_sem])
  fz := fun b o h1 h2 => by
    have : b = w.heap.size ∨ b = w.heap.size + 1 ∨ b = w.heap.size + 1 + 1 ∨ b = w.heap.size + 1 + 1 + 1 ∨ b = w.heap.size + 1 + 1 + 1 + 1 ∨ b = w.heap.size + 1 + 1 + 1 + 1 + 1 := by omega
    rcases this with rfl | rfl | rfl | rfl | rfl | rfl <;> simp [go_sem]

set_option maxHeartbeats 8000000 in
set_option maxRecDepth 100000 in
/-- Wide.Over -/
theorem over_any (x y : Nat) (w : World) (hx : x < 4294967296 ^ 6) (h0 : 0 < y) (hy : y < 9223372036854775808) :
    Calls Try.prog 45 #[wide x, wide y] w fun e w' => e = .returned (.tuple #[wide (x / y), wide (x % y)]) ∧ Below w.heap.size w w' := by
  have HX := Lib.hid hx
  have HY := Lib.hid (show 0 < y ∧ y < 9223372036854775808 from ⟨h0, hy⟩)
  clear hx hy h0
  obtain ⟨Q, hQ⟩ : ∃ Q, x / y = Q := ⟨_, rfl⟩
  obtain ⟨R, hR⟩ : ∃ R, x % y = R := ⟨_, rfl⟩
  rw [hQ, hR]
  have HQR := Lib.hid (And.intro hQ hR)
  clear hQ hR
  have HY6 := Lib.hid (show y < 4294967296 ^ 6 from Nat.lt_trans HY.out.2 (by decide))
  unfold wide
  go_enter Try.func45, Try.ntmps45
  go_wp2_with fail
  go_loopg [8, 9] 192 (fun g i l wr => ∃ k : Nat, k ≤ 192 ∧ g = k ∧ i = .int .i64 ((k : Int) - 1) ∧ OvRel w wr x y (x / 2 ^ k / y * 2 ^ k) (x / 2 ^ k % y))
  case atStart =>
    refine ⟨192, by omega, rfl, rfl, ?_⟩
    have e : x / 2 ^ 192 = 0 := Nat.div_eq_of_lt (Nat.lt_of_lt_of_le HX.out (by decide))
    rw [e, Nat.zero_div, Nat.zero_mul, Nat.zero_mod]
    exact OvRel.start w x y 46 _ _ rfl rfl
  case round =>
    obtain ⟨k, hk, hg, rfl, hR⟩ := hrel
    have Hg := Lib.hid hg
    clear hg
    by_cases hlt : 0 < k
    · obtain ⟨j, rfl⟩ : ∃ j, k = j + 1 := ⟨k - 1, by omega⟩
      have ej : ((j + 1 : Nat) : Int) - 1 = (j : Int) := by omega
      rw [ej]
      obtain ⟨N1, N2⟩ := MonMath.div_next x y j HY.out.1
      have NN := Lib.hid (And.intro N1 N2)
      have hrl : x / 2 ^ (j + 1) % y < y := Nat.mod_lt _ HY.out.1
      have HB := Lib.hid (MonMath.bit_room (x / 2 ^ (j + 1) / y) (j / 32) (j % 32) (Nat.mod_lt _ (by decide)))
      have HBD := Lib.hid (MonMath.bit_dig x (j / 32) (j % 32) (Nat.mod_lt _ (by decide)))
      have hb2 : x / 2 ^ j % 2 < 2 := Nat.mod_lt _ (by decide)
      have HPW := Lib.hid (MonMath.pow_word (j / 32) (j % 32))
      have hdj : 32 * (j / 32) + j % 32 = j := Nat.div_add_mod j 32
      rw [hdj] at HB HBD HPW
      have hkk : j / 32 < 6 := by omega
      have hmm : j % 32 < 32 := Nat.mod_lt _ (by decide)
      have HJ := Lib.hid hdj
      have D1 : (j : Int) / 32 = ((j / 32 : Nat) : Int) := rfl
      have D2 : (j : Int) % 32 = ((j % 32 : Nat) : Int) := rfl
      have D3 : Int.tdiv (j : Int) 32 = ((j / 32 : Nat) : Int) := rfl
      have D4 : Int.tmod (j : Int) 32 = ((j % 32 : Nat) : Int) := rfl
      clear N1 N2 ej hdj
      generalize x / 2 ^ (j + 1) % y = r at *
      generalize hq : x / 2 ^ (j + 1) / y * 2 ^ (j + 1) = q at *
      generalize x / 2 ^ j % 2 = b at *
      generalize j / 32 = kk at *
      generalize j % 32 = mm at *
      have HQ := Lib.hid hq
      have HRL := Lib.hid hrl
      have hp1 : 2 ^ mm ≤ 2 ^ 31 := Nat.pow_le_pow_right (by decide) (by omega)
      have hp0 : 0 < 2 ^ mm := Nat.pow_pos (by decide)
      obtain ⟨p, hp⟩ : ∃ p, 2 ^ mm = p := ⟨_, rfl⟩
      have HPP := Lib.hid hp
      rw [hp] at HB HBD HPW hp0 hp1
      have P1 : IntKind.u64.wrap ((2 : Int) ^ mm) = (p : Int) := by
        rw [show ((2 : Int) ^ mm) = ((2 ^ mm : Nat) : Int) by push_cast; rfl, hp]; exact IntWalk.u64_in _ (by omega)
      have P2 : IntKind.u64.wrap (1 * (2 : Int) ^ mm) = (p : Int) := by rw [Int.one_mul]; exact P1
      have P3 : (2 : Int) ^ mm = (p : Int) := by rw [← hp]; push_cast; rfl
      have P4 : IntKind.u64.wrap (p : Int) = (p : Int) := IntWalk.u64_in _ (by omega)
      clear hq hrl hp
      have HR := Lib.hid hR
      have s0 := hR.size
      have r0 := hR.rc 0 (by omega)
      have r1 := hR.rc 1 (by omega)
      have r2 := hR.rc 2 (by omega)
      have r3 := hR.rc 3 (by omega)
      have r4 := hR.rc 4 (by omega)
      have r5 := hR.rc 5 (by omega)
      have fr : ∀ o, wr.frozen? ⟨w.heap.size + 1 + 1 + 1 + 1 + 1, o, none⟩ = false := fun o => hR.fz _ o (by omega) (by omega)
      have s1 : w.heap.size + 1 + 1 + 1 + 1 + 1 < wr.heap.size := by omega
      have hj2 : (j : Int) < 192 := by omega
      clear hR
      go_wp2_with fail
      refine (plus_any r r _).mono ?_
      rintro e w1 ⟨rfl, hb1⟩
      obtain ⟨hc1, hf1⟩ := bcell hb1
      unfold wide
      go_wp2_with fail
      have H2 := Lib.hid ((HR.out.later hb1).putR (r + r))
      rw [show ((((((w1.setCell ⟨w.heap.size + 1 + 1 + 1 + 1 + 1, 0, none⟩ (.int .u64 (dig (r + r) 0))).setCell ⟨w.heap.size + 1 + 1 + 1 + 1 + 1, 1, none⟩ (.int .u64 (dig (r + r) 1))).setCell ⟨w.heap.size + 1 + 1 + 1 + 1 + 1, 2, none⟩ (.int .u64 (dig (r + r) 2))).setCell ⟨w.heap.size + 1 + 1 + 1 + 1 + 1, 3, none⟩ (.int .u64 (dig (r + r) 3))).setCell ⟨w.heap.size + 1 + 1 + 1 + 1 + 1, 4, none⟩ (.int .u64 (dig (r + r) 4))).setCell ⟨w.heap.size + 1 + 1 + 1 + 1 + 1, 5, none⟩ (.int .u64 (dig (r + r) 5))) = put6W w1 (w.heap.size + 1 + 1 + 1 + 1 + 1) (r + r) from rfl]
      generalize put6W w1 (w.heap.size + 1 + 1 + 1 + 1 + 1) (r + r) = w2 at *
      have t0 := H2.out.rc 0 (by omega)
      have tx := H2.out.xc kk hkk
      have hz2 := H2.out.size
      have y0 := H2.out.yc 0 (by omega)
      have y1 := H2.out.yc 1 (by omega)
      have y2 := H2.out.yc 2 (by omega)
      have y3 := H2.out.yc 3 (by omega)
      have y4 := H2.out.yc 4 (by omega)
      have y5 := H2.out.yc 5 (by omega)
      have ft : ∀ o, w2.frozen? ⟨w.heap.size + 1 + 1 + 1 + 1 + 1, o, none⟩ = false := fun o => H2.out.fz _ o (by omega) (by omega)
      clear hc1 hf1 hb1 r0 r1 r2 r3 r4 r5 fr s0 s1
      -- the word and the bit
      have hev : dig (r + r) 0 + b < 4294967296 := by
        have : dig (r + r) 0 = (r + r) % 4294967296 := by unfold MonMath.dig; rw [Nat.pow_zero, Nat.div_one]
        omega
      have hdx := MonMath.dig_lt x kk
      have hbit : ∀ l, dig (r + r + b) l = if l = 0 then dig (r + r) 0 + b else dig (r + r) l := fun l => by
        rcases (show b = 0 ∨ b = 1 by omega) with rfl | rfl
        · rw [Nat.add_zero, Nat.add_zero]; split
          · rename_i h; rw [h]
          · rfl
        · have h := MonMath.dig_add (Q := r + r) (k := 0) (m := 0) (by
            have : dig (r + r) 0 = (r + r) / 4294967296 ^ 0 % 4294967296 := rfl
            rw [← this]; exact hev) l
          simp only [Nat.pow_zero, Nat.mul_one] at h
          exact h
      obtain ⟨r2, hr2⟩ : ∃ r2, r + r + b = r2 := ⟨_, rfl⟩
      rw [hr2] at hbit
      have hbit0 := hbit 0
      rw [if_pos rfl] at hbit0
      have hbitl : ∀ l, l ≠ 0 → dig r2 l = dig (r + r) l := fun l hl => by rw [hbit l, if_neg hl]
      have u1 := H2.out.rc 1 (by omega)
      rw [← hbitl 1 (by omega)] at u1
      have u2 := H2.out.rc 2 (by omega)
      rw [← hbitl 2 (by omega)] at u2
      have u3 := H2.out.rc 3 (by omega)
      rw [← hbitl 3 (by omega)] at u3
      have u4 := H2.out.rc 4 (by omega)
      rw [← hbitl 4 (by omega)] at u4
      have u5 := H2.out.rc 5 (by omega)
      rw [← hbitl 5 (by omega)] at u5
      have W6 : IntKind.u64.wrap ((dig (r + r) 0 : Int) + (b : Int)) = ((dig r2 0 : Nat) : Int) := by
        rw [hbit0, show ((dig (r + r) 0 : Int) + (b : Int)) = ((dig (r + r) 0 + b : Nat) : Int) by omega]; exact IntWalk.u64_in _ (by omega)
      have H3 := Lib.hid (show OvRel w (w2.setCell ⟨w.heap.size + 1 + 1 + 1 + 1 + 1, 0, none⟩ (.int .u64 (dig r2 0))).drew x y q r2 from H2.out.bitR (r' := r2) rfl hbitl)
      have HB2 := Lib.hid hr2
      clear hbit hbit0 hbitl hr2
      generalize hdg : dig x kk = dx at *
      generalize hd0 : dig (r + r) 0 = d0 at *
      have HD := Lib.hid (And.intro hdg hd0)
      have dq : dx / p < 4294967296 := Nat.lt_of_le_of_lt (Nat.div_le_self _ _) hdx
      obtain ⟨dv, hdv⟩ : ∃ dv, dx / p = dv := ⟨_, rfl⟩
      have W1 : (dx : Int) / (p : Int) = (dv : Int) := by rw [← hdv]; rfl
      have W2 : Int.tdiv (dx : Int) (p : Int) = (dv : Int) := by rw [← hdv]; rfl
      have W4 : (dv : Int) % 2 = (b : Int) := by rw [← HBD.out, hdv]; rfl
      have W5 : Int.tmod (dv : Int) 2 = (b : Int) := by rw [← HBD.out, hdv]; rfl
      rw [hdv] at dq
      have W3 : IntKind.u64.wrap (dv : Int) = (dv : Int) := IntWalk.u64_in _ (by omega)
      have dq2 : (dv : Int) < 4294967296 := by omega
      clear hdv
      have i1 : 0 ≤ (d0 : Int) + b := by omega
      have i2 : (d0 : Int) + b < 4294967296 := by omega
      have i3 : (kk : Int) < 6 := by omega
      have i8 : IntKind.i64.wrap (kk : Int) = (kk : Int) := IntWalk.i64_in _ (by omega)
      have i9 : IntKind.i64.wrap (mm : Int) = (mm : Int) := IntWalk.i64_in _ (by omega)
      have i4 : (mm : Int) < 32 := by omega
      have i5 : 1 ≤ (p : Int) := by omega
      have i6 : (p : Int) ≤ 2147483648 := by omega
      have i7 : decide (p = 0) = false := decide_eq_false (by omega)
      have i7b : ((p : Int) == 0) = false := beq_eq_false_iff_ne.mpr (by omega)
      have i7c : (p = 0) = False := eq_false (by omega)
      have HLT := Lib.hid (show 0 < p ∧ p ≤ 2 ^ 31 ∧ mm < 32 ∧ kk < 6 ∧ d0 + b < 4294967296 ∧ b < 2 from ⟨hp0, hp1, hmm, hkk, hev, hb2⟩)
      clear hdg hd0 dq hp0 hp1 hmm hkk hdx
      go_still_tail 16, (by kernel_rfl)
      change wpList _ _ _ _ _ w2.drew
      clear i7b i7c i7 W1 W2 W3 W4 W5 dq2 i5 i6 i8 i9 D1 D2 D3 D4 P1 P2 P3 P4 hb2 i1 i2 hev
      go_wp2_with fail
      have hr6 := Lib.hid (show r2 < 4294967296 ^ 6 by
        have h1 := HRL.out; have h2 := HB2.out; have h3 := HLT.out.2.2.2.2.2; have h4 := HY.out.2
        exact Nat.lt_of_lt_of_le (show r2 < 18446744073709551617 by omega) (by decide))
      refine (below_any r2 y _ hr6.out HY6.out).mono ?_
      rintro e w4 ⟨rfl, hb4⟩
      generalize (World.setCell w2 ⟨w.heap.size + 1 + 1 + 1 + 1 + 1, 0, none⟩ (.int .u64 (dig r2 0))).drew = w3 at *
      have H4 := Lib.hid (H3.out.later hb4)
      clear t0 tx y0 y1 y2 y3 y4 y5 u1 u2 u3 u4 u5 hz2 hb4 ft
      by_cases hc : r2 < y
      · have HC := Lib.hid (decide_eq_true hc)
        rw [HC.out]
        obtain ⟨m1, m2⟩ := NN.out.1 (by rw [HB2.out]; exact hc)
        have M := Lib.hid (And.intro m1 m2)
        clear m1 m2 hc
        go_wp2_with fail
        have hg2 := Hg.out
        go_roundg j
        case measure => omega
        case rel =>
          refine ⟨j, by omega, rfl, by go_num, ?_⟩
          rw [M.out.1, M.out.2, HB2.out]
          exact H4.out
      · have HC := Lib.hid (decide_eq_false hc)
        rw [HC.out]
        obtain ⟨m1, m2⟩ := NN.out.2 (by rw [HB2.out]; omega)
        have M := Lib.hid (And.intro m1 m2)
        have HYR := Lib.hid (show y ≤ r2 by omega)
        clear m1 m2 hc
        have hz4 := H4.out.size
        have y0 := H4.out.yc 0 (by omega)
        have y1 := H4.out.yc 1 (by omega)
        have y2 := H4.out.yc 2 (by omega)
        have y3 := H4.out.yc 3 (by omega)
        have y4 := H4.out.yc 4 (by omega)
        have y5 := H4.out.yc 5 (by omega)
        have u0 := H4.out.rc 0 (by omega)
        have u1 := H4.out.rc 1 (by omega)
        have u2 := H4.out.rc 2 (by omega)
        have u3 := H4.out.rc 3 (by omega)
        have u4 := H4.out.rc 4 (by omega)
        have u5 := H4.out.rc 5 (by omega)
        have ft : ∀ o, w4.frozen? ⟨w.heap.size + 1 + 1 + 1 + 1 + 1, o, none⟩ = false := fun o => H4.out.fz _ o (by omega) (by omega)
        have s1 : w.heap.size + 1 + 1 + 1 + 1 + 1 < w4.heap.size := by omega
        go_wp2_with fail
        refine (minus_any r2 y _ HYR.out).mono ?_
        rintro e w5 ⟨rfl, hb5⟩
        obtain ⟨hc5, hf5⟩ := bcell hb5
        unfold wide
        go_wp2_with fail
        have H6 := Lib.hid ((H4.out.later hb5).putR (r2 - y))
        rw [show ((((((w5.setCell ⟨w.heap.size + 1 + 1 + 1 + 1 + 1, 0, none⟩ (.int .u64 (dig (r2 - y) 0))).setCell ⟨w.heap.size + 1 + 1 + 1 + 1 + 1, 1, none⟩ (.int .u64 (dig (r2 - y) 1))).setCell ⟨w.heap.size + 1 + 1 + 1 + 1 + 1, 2, none⟩ (.int .u64 (dig (r2 - y) 2))).setCell ⟨w.heap.size + 1 + 1 + 1 + 1 + 1, 3, none⟩ (.int .u64 (dig (r2 - y) 3))).setCell ⟨w.heap.size + 1 + 1 + 1 + 1 + 1, 4, none⟩ (.int .u64 (dig (r2 - y) 4))).setCell ⟨w.heap.size + 1 + 1 + 1 + 1 + 1, 5, none⟩ (.int .u64 (dig (r2 - y) 5))) = put6W w5 (w.heap.size + 1 + 1 + 1 + 1 + 1) (r2 - y) from rfl]
        generalize put6W w5 (w.heap.size + 1 + 1 + 1 + 1 + 1) (r2 - y) = w6 at *
        clear hc5 hf5 hb5 y0 y1 y2 y3 y4 y5 u0 u1 u2 u3 u4 u5 ft s1 hz4
        obtain ⟨q', hq'⟩ : ∃ q', q + p * 4294967296 ^ kk = q' := ⟨_, rfl⟩
        have hbq : ∀ l, dig q' l = if l = kk then dig q kk + p else dig q l := fun l => by
          have h := MonMath.dig_add (Q := q) (k := kk) (m := mm) (by rw [HPP.out]; exact HB.out) l
          rw [HPP.out, hq'] at h
          exact h
        have hbq1 := hbq kk
        rw [if_pos rfl] at hbq1
        have hbql : ∀ l, l ≠ kk → dig q' l = dig q l := fun l hl => by rw [hbq l, if_neg hl]
        have V1 : IntKind.u64.wrap ((dig q kk : Int) + (p : Int)) = ((dig q' kk : Nat) : Int) := by
          have hb : dig q kk + p < 4294967296 := HB.out
          rw [hbq1, show ((dig q kk : Int) + (p : Int)) = ((dig q kk + p : Nat) : Int) by omega]; exact IntWalk.u64_in _ (by omega)
        have H7 := Lib.hid (show OvRel w (w6.setCell ⟨w.heap.size + 1 + 1 + 1 + 1, kk, none⟩ (.int .u64 (dig q' kk))).drew x y q' (r2 - y) from H6.out.bitQ (q' := q') HLT.out.2.2.2.1 rfl hbql)
        have tq := H6.out.qc kk HLT.out.2.2.2.1
        have ft : ∀ o, w6.frozen? ⟨w.heap.size + 1 + 1 + 1 + 1, o, none⟩ = false := fun o => H6.out.fz _ o (by omega) (by omega)
        have hl1 := HLT.out.1
        have hl2 := HLT.out.2.1
        have hl3 := HLT.out.2.2.1
        have hj := HJ.out
        have D1 : (j : Int) / 32 = (kk : Int) := by omega
        have D2 : (j : Int) % 32 = (mm : Int) := by omega
        have D3 : Int.tdiv (j : Int) 32 = (kk : Int) := by rw [Int.tdiv_eq_ediv_of_nonneg (by omega)]; omega
        have D4 : Int.tmod (j : Int) 32 = (mm : Int) := by rw [Int.tmod_eq_emod_of_nonneg (by omega)]; omega
        have i8 : IntKind.i64.wrap (kk : Int) = (kk : Int) := IntWalk.i64_in _ (by omega)
        have i9 : IntKind.i64.wrap (mm : Int) = (mm : Int) := IntWalk.i64_in _ (by omega)
        have P3 : (2 : Int) ^ mm = (p : Int) := by rw [← HPP.out]; push_cast; rfl
        have P4 : IntKind.u64.wrap (p : Int) = (p : Int) := IntWalk.u64_in _ (by omega)
        have HQ' := Lib.hid hq'
        clear hbq hbq1 hbql hl1 hl2 hl3 hj hq'
        go_still_tail 13, (by kernel_rfl)
        change wpList _ _ _ _ _ w6.drew
        clear D1 D2 D3 D4 i8 i9 P3 P4
        go_wp2_with fail
        generalize (World.setCell w6 ⟨w.heap.size + 1 + 1 + 1 + 1, kk, none⟩ (.int .u64 (dig q' kk))).drew = w7 at *
        have hg2 := Hg.out
        go_roundg j
        case measure => omega
        case rel =>
          refine ⟨j, by omega, rfl, by go_num, ?_⟩
          rw [M.out.1, M.out.2, HB2.out, HPW.out, HQ'.out]
          exact H7.out
    · obtain rfl : k = 0 := by omega
      rw [Nat.pow_zero, Nat.div_one, Nat.mul_one, HQR.out.1, HQR.out.2] at hR
      have hB := hR.bel
      have hz := hR.size
      have q0 := hR.qc 0 (by omega)
      have q1 := hR.qc 1 (by omega)
      have q2 := hR.qc 2 (by omega)
      have q3 := hR.qc 3 (by omega)
      have q4 := hR.qc 4 (by omega)
      have q5 := hR.qc 5 (by omega)
      have r0 := hR.rc 0 (by omega)
      have r1 := hR.rc 1 (by omega)
      have r2 := hR.rc 2 (by omega)
      have r3 := hR.rc 3 (by omega)
      have r4 := hR.rc 4 (by omega)
      have r5 := hR.rc 5 (by omega)
      have z0 := hR.z2 0 (by omega)
      have z1 := hR.z2 1 (by omega)
      have z2 := hR.z2 2 (by omega)
      have z3 := hR.z2 3 (by omega)
      have z4 := hR.z2 4 (by omega)
      have z5 := hR.z2 5 (by omega)
      have y0 := hR.z3 0 (by omega)
      have y1 := hR.z3 1 (by omega)
      have y2 := hR.z3 2 (by omega)
      have y3 := hR.z3 3 (by omega)
      have y4 := hR.z3 4 (by omega)
      have y5 := hR.z3 5 (by omega)
      have f2 : ∀ o, wr.frozen? ⟨w.heap.size + 1 + 1, o, none⟩ = false := fun o => hR.fz _ o (by omega) (by omega)
      have f3 : ∀ o, wr.frozen? ⟨w.heap.size + 1 + 1 + 1, o, none⟩ = false := fun o => hR.fz _ o (by omega) (by omega)
      clear hR
      go_wp2_with fail
      go_region
      all_goals
        go_wp2_with fail
        refine bodyPost_ret (v := .tuple #[.agg #[.int .u64 (dig Q 0), .int .u64 (dig Q 1), .int .u64 (dig Q 2), .int .u64 (dig Q 3), .int .u64 (dig Q 4), .int .u64 (dig Q 5)], .agg #[.int .u64 (dig R 0), .int .u64 (dig R 1), .int .u64 (dig R 2), .int .u64 (dig R 3), .int .u64 (dig R 4), .int .u64 (dig R 5)]]) ?_ rfl ⟨rfl, ?_⟩
        · simp [results, Try.results45, go_sem, z0, z1, z2, z3, z4, z5, y0, y1, y2, y3, y4, y5]
        · repeat (first | (with_reducible exact hB) | (with_reducible apply fm_drew) | (with_reducible refine Below.setCell ?_ ?_ _; rotate_left; · first | (show w.heap.size ≤ w.heap.size + 1 + 1; omega) | (show w.heap.size ≤ w.heap.size + 1 + 1 + 1; omega)))
end Go.Proofs.Ytncndmhmmfbklaa
