/- Contract of the document's long multiplication. -/
import Derived.Test.YtncndmhmmfbklaaMonD
import Derived.Test.YtncndmhmmfbklaaMonMul
import Derived.IntWalk
namespace Go.Proofs.Ytncndmhmmfbklaa
set_option linter.unusedVariables false
set_option linter.unusedSimpArgs false
open Go.RowKit
open MonMath (dig car bor mc)

/-- what Times's loops know of the world -/
structure TimRel (w wr : World) (x y : Nat) (g : Nat → Nat) : Prop where
  bel : Below w.heap.size w wr
  xc : WAt wr w.heap.size x
  yc : WAt wr (w.heap.size + 1) y
  zc : ∀ j, j < 6 → wr.cell? ⟨w.heap.size + 1 + 1 + 1, j, none⟩ = some (.int .u64 (g j))
  rc : ∀ j, j < 6 → wr.cell? ⟨w.heap.size + 1 + 1, j, none⟩ = some (.int .u64 0)
  f3 : ∀ o, wr.frozen? ⟨w.heap.size + 1 + 1 + 1, o, none⟩ = false
  f2 : ∀ o, wr.frozen? ⟨w.heap.size + 1 + 1, o, none⟩ = false

theorem TimRel.step {w wr : World} {x y k v : Nat} {g g' : Nat → Nat} (h : TimRel w wr x y g) (hk : k < 6) (h1 : g' k = v) (h2 : ∀ j, j ≠ k → g' j = g j) :
    TimRel w (wr.drew.setCell ⟨w.heap.size + 1 + 1 + 1, k, none⟩ (.int .u64 v)) x y g' where
  bel := h.bel.drew.setCell (by show w.heap.size ≤ w.heap.size + 1 + 1 + 1; omega) _
  xc := fun j hj => by have := h.xc j hj; simp [go_sem, this]
  yc := fun j hj => by have := h.yc j hj; simp [go_sem, this]
  zc := fun j hj => by
    have := h.zc j hj
    by_cases e : j = k
    · subst e; rw [h1]; simp [go_sem, this]
    · rw [h2 j e, ← this]
      simp [go_sem, e, this]
  rc := fun j hj => by have := h.rc j hj; simp [go_sem, this]
  f3 := fun o => by have := h.f3 o; simp [go_sem, this]
  f2 := fun o => by have := h.f2 o; simp [go_sem, this]
theorem TimRel.of_plus {w wr : World} {x y s : Nat} (h : PlusRel w wr x y s 0) : TimRel w wr x y (fun _ => 0) :=
  ⟨h.bel, h.xc, h.yc, fun j hj => by have := h.zc j hj; simpa using this, h.rc, h.f3, h.f2⟩
theorem TimRel.congr {w wr : World} {x y : Nat} {g g' : Nat → Nat} (h : TimRel w wr x y g) (e : ∀ j, j < 6 → g j = g' j) : TimRel w wr x y g' :=
  ⟨h.bel, h.xc, h.yc, fun j hj => by rw [← e j hj]; exact h.zc j hj, h.rc, h.f3, h.f2⟩

set_option maxHeartbeats 4000000 in
/-- Wide.Times -/
theorem times_any (x y : Nat) (w : World) (hx : x < 4294967296 ^ 6) :
    Calls Try.prog 37 #[wide x, wide y] w fun e w' => e = .returned (wide (x * y)) ∧ Below w.heap.size w w' := by
  obtain ⟨s, hs⟩ : ∃ s, x * y = s := ⟨_, rfl⟩
  rw [hs]
  have HSS := Lib.hid (show (x % 4294967296 ^ 6) * y = s by rw [MonMath.dig_mod6 hx]; exact hs)
  clear hs hx
  unfold wide
  go_enter Try.func37, Try.ntmps37
  go_wp2
  go_loopg [6, 7, 8] 6 (fun g i c j wr => ∃ k : Nat, k ≤ 6 ∧ g = 6 - k ∧ i = .int .i64 k ∧ TimRel w wr x y (dig ((x % 4294967296 ^ k) * y)))
  case atStart =>
    refine ⟨0, by omega, by omega, rfl, ?_⟩
    have h := TimRel.of_plus (PlusRel.start w x y 0 46 #[.int .u64 (dig x 0), .int .u64 (dig x 1), .int .u64 (dig x 2), .int .u64 (dig x 3), .int .u64 (dig x 4), .int .u64 (dig x 5)] #[.int .u64 (dig y 0), .int .u64 (dig y 1), .int .u64 (dig y 2), .int .u64 (dig y 3), .int .u64 (dig y 4), .int .u64 (dig y 5)] rfl rfl)
    exact TimRel.congr h (fun j _ => by rw [Nat.pow_zero, Nat.mod_one, Nat.zero_mul, MonMath.dig_zero])
  case round =>
    obtain ⟨i, hk, hg, rfl, hR⟩ := hrel
    have Hg := Lib.hid hg
    clear hg
    by_cases hlt : i < 6
    · have HR := Lib.hid hR
      have hk2 : (i : Int) < 6 := by omega
      clear hR
      go_wp2_with fail
      obtain ⟨p, hp⟩ : ∃ p, (x % 4294967296 ^ i) * y = p := ⟨_, rfl⟩
      obtain ⟨xi, hxi⟩ : ∃ xi, dig x i = xi := ⟨_, rfl⟩
      have xil : xi < 4294967296 := by rw [← hxi]; exact MonMath.dig_lt x i
      have HP := Lib.hid hp
      have HXI := Lib.hid hxi
      clear hp hxi
      go_loopg [7, 8] (6 - i) (fun g c jj wx => ∃ j : Nat, i + j ≤ 6 ∧ g = 6 - i - j ∧ jj = .int .i64 j ∧ c = .int .u64 (mc p xi y i j) ∧
        TimRel w wx x y (fun l => if l < i + j then dig (p + xi * 4294967296 ^ i * y) l else dig p l))
      case atStart =>
        refine ⟨0, by omega, by omega, rfl, by rw [MonMath.mc_zero]; rfl, ?_⟩
        have h := HR.out
        rw [HP.out] at h
        refine TimRel.congr h (fun l hl => ?_)
        by_cases c : l < i + 0
        · rw [if_pos c]
          have hdv : dig (p + xi * 4294967296 ^ i * y) l = dig p l := by
            unfold MonMath.dig
            have e : xi * 4294967296 ^ i * y = 4294967296 ^ l * (4294967296 * (4294967296 ^ (i - l - 1) * (xi * y))) := by
              have e1 : (4294967296 : Nat) ^ i = 4294967296 ^ l * (4294967296 * 4294967296 ^ (i - l - 1)) := by
                rw [← Nat.pow_succ', ← Nat.pow_add]; congr 1; omega
              rw [e1]; ac_rfl
            rw [e, Nat.add_mul_div_left _ _ (Nat.pow_pos (by decide))]
            omega
          exact hdv.symm
        · rw [if_neg c]
      case round =>
        obtain ⟨j, hj, hg2, rfl, rfl, hR⟩ := hrel
        have Hg2 := Lib.hid hg2
        clear hg2
        by_cases hlt2 : i + j < 6
        · have hx := hR.xc i hlt
          rw [HXI.out] at hx
          have hy := hR.yc j (by omega)
          have hz := hR.zc (i + j) hlt2
          rw [if_neg (by omega)] at hz
          have hf := hR.f3
          have HR2 := Lib.hid hR
          have HS := Lib.hid (MonMath.mc_step p xi y i j)
          have d0 := MonMath.mc_le p xi y i j xil
          have d1 := MonMath.dig_lt p (i + j)
          have d2 := MonMath.dig_lt y j
          have d3 := MonMath.prod_le xil d2
          obtain ⟨c, hc⟩ : ∃ c : Int, (mc p xi y i j : Int) = c := ⟨_, rfl⟩
          obtain ⟨d, hd⟩ : ∃ d : Int, (dig p (i + j) : Int) = d := ⟨_, rfl⟩
          obtain ⟨q, hq⟩ : ∃ q : Int, (xi : Int) * (dig y j : Int) = q := ⟨_, rfl⟩
          have hc0 : 0 ≤ c ∧ c ≤ 4294967295 := by omega
          have hd0 : 0 ≤ d ∧ d ≤ 4294967295 := by omega
          have hq0 : 0 ≤ q ∧ q ≤ 18446744065119617025 := by rw [← hq, ← Int.natCast_mul]; omega
          obtain ⟨hc1, hc2⟩ := hc0
          obtain ⟨hd1, hd2⟩ := hd0
          obtain ⟨hq1, hq2⟩ := hq0
          have e1 : (c + d + q) % 4294967296 = (dig (p + xi * 4294967296 ^ i * y) (i + j) : Int) := by
            rw [← HS.out.1, ← hc, ← hd, ← hq, ← Int.natCast_mul]; omega
          have e2 : (c + d + q) / 4294967296 = (mc p xi y i (j + 1) : Int) := by
            rw [← HS.out.2, ← hc, ← hd, ← hq, ← Int.natCast_mul]; omega
          have E1 := Lib.hid e1
          have E2 := Lib.hid e2
          have hk3 : (j : Int) < 6 := by omega
          have hk4 : (i : Int) + (j : Int) < 6 := by omega
          have ht : ((i : Int) + (j : Int)).toNat = i + j := by omega
          have hk6 : 0 ≤ (i : Int) + (j : Int) := by omega
          have wu1 : IntKind.u64.wrap (c + d) = c + d := IntWalk.u64_in _ (by omega)
          have wu2 : IntKind.u64.wrap q = q := IntWalk.u64_in _ (by omega)
          have wu3 : IntKind.u64.wrap (c + d + q) = c + d + q := IntWalk.u64_in _ (by omega)
          have wi : IntKind.i64.wrap ((i : Int) + (j : Int)) = (i : Int) + (j : Int) := IntWalk.i64_in _ (by omega)
          rw [hd] at hz
          rw [hc]
          clear hR e1 e2 hc hd d0 d1 d3
          go_wp2_with fail
          go_still_tail 18, (by kernel_rfl)
          change wpList _ _ _ _ _ wr.drew
          go_wp2_with fail
          have hg3 := Hg2.out
          go_roundg (6 - i - (j + 1))
          case measure => omega
          case rel =>
            refine ⟨j + 1, by omega, rfl, by go_num, by rw [E2.out], ?_⟩
            rw [E1.out]
            refine TimRel.step HR2.out hlt2 ?_ ?_
            · show (if i + j < i + (j + 1) then dig (p + xi * 4294967296 ^ i * y) (i + j) else dig p (i + j)) = _
              rw [if_pos (by omega)]
            · intro l hl
              show (if l < i + (j + 1) then dig (p + xi * 4294967296 ^ i * y) l else dig p l) = (if l < i + j then dig (p + xi * 4294967296 ^ i * y) l else dig p l)
              by_cases c : l < i + j
              · rw [if_pos c, if_pos (by omega)]
              · rw [if_neg c, if_neg (by omega)]
        · have ej : i + j = 6 := by omega
          have HJ := Lib.hid ej
          have HR3 := Lib.hid hR
          have hk4 : 6 ≤ (i : Int) + (j : Int) := by omega
          have hk5 : (i : Int) + (j : Int) ≤ 6 := by omega
          clear ej hR
          go_wp2_with fail
          have hg3 := Hg.out
          go_roundg (6 - (i + 1))
          case measure => omega
          case rel =>
            refine ⟨i + 1, by omega, rfl, by go_num, ?_⟩
            refine TimRel.congr HR3.out (fun l hl => ?_)
            have := HJ.out
            rw [if_pos (by omega), ← HP.out, ← HXI.out, MonMath.row_sum]
    · obtain rfl : i = 6 := by omega
      rw [HSS.out] at hR
      have z0 := hR.zc 0 (by omega)
      have z1 := hR.zc 1 (by omega)
      have z2 := hR.zc 2 (by omega)
      have z3 := hR.zc 3 (by omega)
      have z4 := hR.zc 4 (by omega)
      have z5 := hR.zc 5 (by omega)
      have r0 := hR.rc 0 (by omega)
      have r1 := hR.rc 1 (by omega)
      have r2 := hR.rc 2 (by omega)
      have r3 := hR.rc 3 (by omega)
      have r4 := hR.rc 4 (by omega)
      have r5 := hR.rc 5 (by omega)
      have hf2 := hR.f2
      have hB := hR.bel
      clear hR
      go_wp2
      refine bodyPost_ret (v := .agg #[.int .u64 (dig s 0), .int .u64 (dig s 1), .int .u64 (dig s 2), .int .u64 (dig s 3), .int .u64 (dig s 4), .int .u64 (dig s 5)]) ?_ rfl ⟨rfl, ?_⟩
      · simp [results, Try.results37, go_sem, r0, r1, r2, r3, r4, r5]
      · repeat (first | (with_reducible exact hB) | (with_reducible refine Below.setCell ?_ ?_ _; rotate_left; · show w.heap.size ≤ w.heap.size + 1 + 1; omega))
end Go.Proofs.Ytncndmhmmfbklaa
