/- append of one number to a row of the call's own, up to 28147497670000 elements (the shelf's law stops at 2^44 - 1). -/
import Derived.Test.YtoamflnkaaconaaDoorWWords
import Derived.Maps.AppendAt
namespace Go.Proofs.YtoamflnkaaconaaDoor.X
set_option linter.unusedVariables false
set_option linter.unusedSimpArgs false
open Go.RowKit Go.Proofs.YtoamflnkaaconaaDoorW.PrintWords

theorem cap_big (n : Nat) (h1 : 17592186044415 ≤ n) (h2 : n + 1 ≤ 28147497670000) : Builtin.nextslicecap (n + 1) n * 8 ≤ 281474976710656 := by
  unfold Builtin.nextslicecap
  rw [if_neg (by omega), if_neg (by omega)]
  unfold Builtin.growBy
  rw [if_neg (by omega)]
  unfold Builtin.growBy
  rw [if_pos (by omega)]
  omega
theorem run_append_big {P : Program} (w : World) (base : Nat) (t ty e : TypeId) (i : TypeInfo) (z : Value) (ht : P.underlying t = some (.slice e)) (hi : P.info? e = some i) (hz : i.zero = some z)
    (hsize : i.size = 1) (hby : i.bytes = 8) (hzs : z.cells.size = 1) (v : Value) (xs : List Value) (y : Value) (hown : w.ownsRow base e 1 v xs.length xs)
    (a : Addr) (c : Nat) (hnews : ∀ j u, [y][j]? = some u → w.cell? (a.add j) = some u) (h1 : y.oneCell' = true) (hl : xs.length + 1 ≤ 28147497670000) (hbase : base ≤ w.heap.size) :
    ∃ v' w', (Builtin.append_ #[t, t] ty #[v, .slice (some a) 1 c]).run P w = .ok v' w' ∧ w'.ownsRow base e 1 v' (xs.length + 1) (xs ++ [y]) ∧ w.grownBy w' v.ownBlock ∧
      (v'.ownBlock = v.ownBlock ∨ v'.ownBlock = some w.heap.size) := by
  by_cases hs : (xs.length + 1) * 8 ≤ 140737488355328
  · obtain ⟨v', w', hr, h2, h3, _, h5⟩ := run_append_own_at (P := P) w base t ty e i z 1 8 ht hi hz hsize hby hzs (by omega) v xs.length xs hown a 1 c [y] rfl hnews (by simpa using h1) (by simp only [maxLen]; omega) hs hbase
    exact ⟨v', w', hr, h2, h3, h5⟩
  · rcases hown.2 with ⟨rfl, h0⟩ | ⟨g, cap, cur, rfl, hbg, hg, hnc, hcm, hcs, htake⟩
    · omega
    · by_cases hroom : xs.length + 1 ≤ cap
      · have hfit : xs.length * i.size + [y].length ≤ cur.size := by rw [hsize, hcs]; simp; omega
        have hr := run_append_room (P := P) w t ty e i ht hi g xs.length cap cur hg a 1 c [y] (by rw [hsize]; rfl) hnews (by simpa using h1) hroom hfit
        have hlen : (xs ++ [y]).length = (xs.length + 1) * 1 := by simp
        refine ⟨_, _, hr, ⟨hlen, .inr ⟨g, cap, _, rfl, hbg, setRow_heap w g cur _ e _ hg, hroom, hcm, ?_, ?_⟩⟩, ⟨rfl, rfl, rfl, by simp, fun k _ hk => setRow_other w g k _ (fun e => hk (by simp [Value.ownBlock, e]))⟩, Or.inl rfl⟩
        · rw [hsize]
          simp only [List.size_toArray, List.length_append, List.length_take, List.length_drop, Array.length_toList, List.length_cons, List.length_nil, hcs]
          omega
        · rw [hsize]
          have ht2 : cur.toList.take (xs.length * 1) = xs := htake
          rw [ht2]
          simp only [List.toList_toArray] at *
          rw [show (xs.length + 1) * 1 = (xs ++ [y]).length by simp]
          exact List.take_left
      · have hcap : cap = xs.length := by omega
        subst hcap
        have holds : ∀ j u, xs[j]? = some u → w.cell? ((⟨g, 0, none⟩ : Addr).add j) = some u := hown.cells (g := g) rfl
        have hr := run_append_grow (P := P) w t ty e i z ht hi hz ⟨g, 0, none⟩ xs.length xs.length xs (by rw [hsize]; omega) holds a 1 c [y] (by rw [hsize]; rfl) hnews (by omega) (by omega) (by rw [hby]; exact cap_big _ (by omega) hl)
        have hge := grownCap_ge w (xs.length + 1) xs.length e
        have hcm := grownCap_le_maxLen w (xs.length + 1) xs.length e (by simp only [maxLen]; omega)
        refine ⟨_, _, hr, ⟨by simp, .inr ⟨w.heap.size, _, _, rfl, hbase, heap_alloc_new w.drew _, hge, hcm, ?_, ?_⟩⟩, ⟨rfl, rfl, rfl, by simp, fun k hk _ => heap_alloc_old w.drew _ hk⟩, Or.inr rfl⟩
        · simp only [Array.size_append, List.size_toArray, size_zeroCells, hzs, List.length_cons, List.length_nil]
          omega
        · simp only [Array.toList_append, List.append_assoc]
          rw [← List.append_assoc, show (xs.length + 1) * 1 = (xs ++ [y]).length by simp]
          exact List.take_left
section
variable {P : Program} {ops : Array Oper} {rest : List Oper} {o : Oper} {a : Act} {Q : Exit → Act → World → Prop} {Kc : Act → World → Prop}
/-- what is known behind the append -/
theorem big_after {w0 W : World} {base : Nat} {v : Value} {xs : List Int} {p : Int} {e t ty : TypeId} {ok : Nat → Prop} (ht : P.underlying t = some (.slice e)) (hinfo : (P.info? e).map (fun i => (i.zero, i.size, i.bytes)) = some (some (.int .i64 0), 1, 8))
    (hfresh : ∀ k, W.heap.size ≤ k → ok k) (HO : (Kd.int .i64).R e W base ok v xs) (HB : Below base w0 W) (hbase : base ≤ W.heap.size) (hl : xs.length + 1 ≤ 28147497670000) :
    ∃ v1 w1, (Builtin.append_ #[t, t] ty #[v, .slice (some ⟨W.heap.size, 0, none⟩) 1 1]).run P (W.alloc (.cells #[.int .i64 p] e)) = .ok v1 w1 ∧ (Kd.int .i64).R e w1 base ok v1 (xs ++ [p]) ∧ Below base w0 w1 ∧ W.grownBy w1 v.ownBlock ∧ (v1.ownBlock = v.ownBlock ∨ ∃ b, v1.ownBlock = some b ∧ W.heap.size ≤ b) := by
  obtain ⟨i0, hi, hzz⟩ := Option.map_eq_some_iff.1 hinfo
  simp only [Prod.mk.injEq] at hzz
  obtain ⟨hz0, hz1, hz2⟩ := hzz
  have ho : W.ownsRow base e 1 v (nums .i64 xs).length (nums .i64 xs) := by rw [nums_length]; exact Kd.own_of_R HO
  obtain ⟨v1, w1, hr, hown, hg, hat⟩ := run_append_big (P := P) (W.alloc (.cells #[.int .i64 p] e)) base t ty e i0 (.int .i64 0) ht hi hz0 hz1 hz2 rfl v (nums .i64 xs) (.int .i64 p) (ho.alloc _) ⟨W.heap.size, 0, none⟩ 1
    (World.news_of_block (cs := #[.int .i64 p]) (t := e) (fr := (0, 0)) (heap_alloc_new W _)) rfl (by rw [nums_length]; exact hl) (by simp; omega)
  have hat2 : v1.ownBlock = v.ownBlock ∨ ∃ b, v1.ownBlock = some b ∧ W.heap.size ≤ b := by
    rcases hat with hat | hat
    · exact .inl hat
    · exact .inr ⟨_, hat, by simp⟩
  refine ⟨v1, w1, hr, Kd.R_of_own ?_ ?_, (HB.alloc hbase _).grown hg (by simp; omega) (own_base ho), World.grownBy.trans (World.grownBy_alloc W _ _) hg, hat2⟩
  · have h1 : (nums .i64 xs).length + 1 = (xs ++ [p]).length := by simp [nums]
    rw [h1] at hown
    simpa [nums, encs] using hown
  · intro k hk
    rcases hat2 with h | ⟨b, h, hb⟩
    · exact HO.1 k (by rw [← h]; exact hk)
    · rw [h] at hk
      injection hk with hk
      subst hk
      exact hfresh _ hb
theorem RI_append {w0 W : World} (base : Nat) (hgd : o.guard = none) (s x : Operand) (t e : TypeId)
    (ho : o.op = .call { callee := .builtin .append, args := #[s, x], argTypes := #[t, t] })
    (ht : P.underlying t = some (.slice e)) (hinfo : (P.info? e).map (fun i => (i.zero, i.size, i.bytes)) = some (some (.int .i64 0), 1, 8))
    (v : Value) (xs : List Int) (p : Int) (ok : Nat → Prop) (hs : a.eval s = v) (hx : a.eval x = .slice (some ⟨W.heap.size, 0, none⟩) 1 1) (hfresh : ∀ k, W.heap.size ≤ k → ok k)
    (HO : (Kd.int .i64).R e W base ok v xs) (HB : Below base w0 W) (hbase : base ≤ W.heap.size) (hl : xs.length + 1 ≤ 28147497670000)
    (h : ∀ v1 w1, (Kd.int .i64).R e w1 base ok v1 (xs ++ [p]) → Below base w0 w1 → W.grownBy w1 v.ownBlock → (v1.ownBlock = v.ownBlock ∨ ∃ b, v1.ownBlock = some b ∧ W.heap.size ≤ b) → wpList P ops Q rest (a.put o.dst v1) w1) :
    wpList P ops Q (o :: rest) a (W.alloc (.cells #[.int .i64 p] e)) := by
  refine wpList_plain hgd fun K hK => ?_
  obtain ⟨v1, w1, hr, h1, h2, h3, h4⟩ := big_after (P := P) (ty := o.type) (p := p) ht hinfo hfresh HO HB hbase hl
  unfold Oper.wp execOp
  simp only [ho, resolve, invoke, builtin, Sem.run_bind, Sem.run_pure, Result.andThen_ok, List.map_toArray, List.map_cons, List.map_nil, hs, hx, hr]
  exact hK _ _ (h v1 w1 h1 h2 h3 h4)
theorem RI_append_step {w0 W : World} (base : Nat) (hw : Region.wanted o (yielded ops a.tmps) = true) (s x : Operand) (t e : TypeId)
    (ho : o.op = .call { callee := .builtin .append, args := #[s, x], argTypes := #[t, t] })
    (ht : P.underlying t = some (.slice e)) (hinfo : (P.info? e).map (fun i => (i.zero, i.size, i.bytes)) = some (some (.int .i64 0), 1, 8))
    (v : Value) (xs : List Int) (p : Int) (ok : Nat → Prop) (hs : a.eval s = v) (hx : a.eval x = .slice (some ⟨W.heap.size, 0, none⟩) 1 1) (hfresh : ∀ k, W.heap.size ≤ k → ok k)
    (HO : (Kd.int .i64).R e W base ok v xs) (HB : Below base w0 W) (hbase : base ≤ W.heap.size) (hl : xs.length + 1 ≤ 28147497670000)
    (h : ∀ v1 w1, (Kd.int .i64).R e w1 base ok v1 (xs ++ [p]) → Below base w0 w1 → W.grownBy w1 v.ownBlock → (v1.ownBlock = v.ownBlock ∨ ∃ b, v1.ownBlock = some b ∧ W.heap.size ≤ b) → Kc (a.put o.dst v1) w1) :
    if Region.wanted o (yielded ops a.tmps) = true then Oper.wp P o a (W.alloc (.cells #[.int .i64 p] e)) Kc Q else Kc (a.put o.dst undef) (W.alloc (.cells #[.int .i64 p] e)) := by
  rw [if_pos hw]
  obtain ⟨v1, w1, hr, h1, h2, h3, h4⟩ := big_after (P := P) (ty := o.type) (p := p) ht hinfo hfresh HO HB hbase hl
  unfold Oper.wp execOp
  simp only [ho, resolve, invoke, builtin, Sem.run_bind, Sem.run_pure, Result.andThen_ok, List.map_toArray, List.map_cons, List.map_nil, hs, hx, hr]
  exact h v1 w1 h1 h2 h3 h4
end
end Go.Proofs.YtoamflnkaaconaaDoor.X
