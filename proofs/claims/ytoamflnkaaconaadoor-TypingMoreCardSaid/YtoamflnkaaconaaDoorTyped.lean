/- typing.typed: the types of a list of nodes, and the error. -/
import Derived.Test.YtoamflnkaaconaaDoorTyAt
import Derived.Laws.MakeOwn
import Derived.Deep.DeepCutAuto
namespace Go.Proofs.YtoamflnkaaconaaDoor.X
set_option linter.unusedVariables false
set_option linter.unusedSimpArgs false
open Go.RowKit Go.Extern.Stop Go.Stop Go.Extern Go.Proofs.YtoamflnkaaconaaDoorW.PrintWords

theorem mkInts (n : Nat) (hn : n < 17592186044416) : ∀ w : World, (Instr.makeSlice 28 (.int .i64 (n : Int)) (.int .i64 (n : Int))).run Tryd.prog w = .ok (.slice (some ⟨w.heap.size, 0, none⟩) n n) (w.alloc (.cells (madeCells #[.int .i64 0] n) 3)) := by
  intro w
  obtain ⟨i, hi, hzz⟩ := Option.map_eq_some_iff.1 (show (Tryd.prog.info? 3).map (fun i => (i.zero, i.size, i.bytes)) = some (some (.int .i64 0), 1, 8) by kernel_rfl)
  simp only [Prod.mk.injEq] at hzz
  obtain ⟨hz0, hz1, hz2⟩ := hzz
  have := run_make (P := Tryd.prog) w 28 3 i (.int .i64 0) Tryd.underlying28 hi hz0 .i64 .i64 n n (by omega) (by omega) (by rw [hz2]; omega) (by omega)
  rw [this, hz1]
  simp [Value.cells]
theorem row_made (w : World) (n : Nat) : Row (w.alloc (.cells (madeCells #[.int .i64 0] n) 3)) w.heap.size n (fun _ => 0) :=
  ⟨_, heap_alloc_new w _, by simp [madeCells], fun j hj => by simp [madeCells, hj, Nat.mod_one]⟩

theorem ta83_83 (x : Int) (w : World) : (Instr.typeAssert (.iface 83 (.agg #[.int .i64 x])) 20 83 true).run Tryd.prog w = .ok (.tuple #[.agg #[.int .i64 x], .bool true]) w := by kernel_rfl
theorem ta85_83 (x y : Int) (w : World) : (Instr.typeAssert (.iface 85 (.agg #[.int .i64 x, .int .i64 y])) 20 83 true).run Tryd.prog w = .ok (.tuple #[.agg #[.int .i64 0], .bool false]) w := by kernel_rfl
theorem ta85_85 (x y : Int) (w : World) : (Instr.typeAssert (.iface 85 (.agg #[.int .i64 x, .int .i64 y])) 20 85 true).run Tryd.prog w = .ok (.tuple #[.agg #[.int .i64 x, .int .i64 y], .bool true]) w := by kernel_rfl
theorem ta87_83 (x y z : Int) (w : World) : (Instr.typeAssert (.iface 87 (.agg #[.int .i64 x, .int .i64 y, .int .i64 z])) 20 83 true).run Tryd.prog w = .ok (.tuple #[.agg #[.int .i64 0], .bool false]) w := by kernel_rfl
theorem ta87_85 (x y z : Int) (w : World) : (Instr.typeAssert (.iface 87 (.agg #[.int .i64 x, .int .i64 y, .int .i64 z])) 20 85 true).run Tryd.prog w = .ok (.tuple #[.agg #[.int .i64 0, .int .i64 0], .bool false]) w := by kernel_rfl
theorem ta87_87 (x y z : Int) (w : World) : (Instr.typeAssert (.iface 87 (.agg #[.int .i64 x, .int .i64 y, .int .i64 z])) 20 87 true).run Tryd.prog w = .ok (.tuple #[.agg #[.int .i64 x, .int .i64 y, .int .i64 z], .bool true]) w := by kernel_rfl
theorem taN_83 (w : World) : (Instr.typeAssert .nilIface 20 83 true).run Tryd.prog w = .ok (.tuple #[.agg #[.int .i64 0], .bool false]) w := by kernel_rfl
theorem taN_85 (w : World) : (Instr.typeAssert .nilIface 20 85 true).run Tryd.prog w = .ok (.tuple #[.agg #[.int .i64 0, .int .i64 0], .bool false]) w := by kernel_rfl
theorem taN_87 (w : World) : (Instr.typeAssert .nilIface 20 87 true).run Tryd.prog w = .ok (.tuple #[.agg #[.int .i64 0, .int .i64 0, .int .i64 0], .bool false]) w := by kernel_rfl
/-- the state at the loop's head -/
structure TRel (w0 : World) (a : Addr) (o q : Nat) (l : List S37) (k : Nat) (wrong : Value) (wr : World) : Prop where
  below : Below w0.heap.size w0 wr
  ob : w0.heap.size ≤ o
  qb : w0.heap.size ≤ q
  ne : o ≠ q
  out : wr.cell? ⟨o, 0, none⟩ = some (.slice (some ⟨q, 0, none⟩) l.length l.length)
  row : Row wr q l.length (fun j => (tys (l.take k)).getD j 0)
  wr : Wr wr a (okL (tys (l.take k))) wrong

theorem tys_upd (l : List S37) (k : Nat) (hk : k < l.length) (j : Nat) : (tys (l.take (k + 1))).getD j 0 = if j = k then tyAt (l.getD k z37) (tys (l.take k)) else (tys (l.take k)).getD j 0 := by
  rw [tys_take l k hk]
  have hlen : (tys (l.take k)).length = k := by rw [tys_len, List.length_take]; omega
  simp only [List.getD_eq_getElem?_getD]
  by_cases h : j = k
  · subst h
    rw [if_pos rfl, List.getElem?_append_right (by omega)]
    simp [hlen]
  · rw [if_neg h]
    by_cases h2 : j < k
    · rw [List.getElem?_append_left (by omega)]
    · rw [List.getElem?_eq_none (by simp; omega), List.getElem?_eq_none (by omega)]
theorem tys_atL (l : List S37) (k : Nat) (hk : k ≤ l.length) (x : Int) : (if x < 0 ∨ (k : Int) ≤ x then 0 else (tys (l.take k)).getD x.toNat 0) = atL (tys (l.take k)) x := by
  have hlen : (tys (l.take k)).length = k := by rw [tys_len, List.length_take]; omega
  simp [atL, hlen]
theorem at39T (l : List S37) (x : Int) (k N p o q : Nat) (w : World) (h1 : w.cell? ⟨p, 0, none⟩ = some (.int .i64 (k : Int))) (h2 : w.cell? ⟨o, 0, none⟩ = some (.slice (some ⟨q, 0, none⟩) N N)) (h3 : Row w q N (fun j => (tys (l.take k)).getD j 0)) (hN : l.length = N) (hk : k ≤ N) :
    Calls Tryd.prog 39 #[.int .i64 x, .pointer (some ⟨p, 0, none⟩), .pointer (some ⟨o, 0, none⟩)] w fun e w' => e = .returned (.int .i64 (atL (tys (l.take k)) x)) ∧ w = w' := by
  have h := at39 x k N p o q _ w h1 h2 h3 hk
  rw [← tys_atL l k (by omega)]
  exact h
theorem shp_un {a b c d e op l : Int} (h : shp a b c d e = .un op l) : op = 3 ∨ op = 15 := by
  unfold shp at h
  split at h
  · split at h <;> cases h
  · split at h
    · cases h
    · split at h
      · cases h
      · split at h
        · split at h <;> cases h
        · split at h
          · split at h <;> cases h
          · split at h
            · rename_i h1
              injection h with h2 h3
              omega
            · split at h <;> cases h
theorem Wr.form {w : World} {a : Addr} : ∀ {ok : Bool} {v : Value}, Wr w a ok v → v = .nilIface ∨ ∃ t u, v = .iface t u
  | true, _, h => Or.inl h
  | false, _, ⟨d, h⟩ => Or.inr h.iface
/-- the state within a round -/
structure Mid (w0 : World) (a : Addr) (o q p : Nat) (N : Nat) (k : Nat) (T : Nat → Int) (ok : Bool) (wrong : Value) (wr : World) : Prop where
  below : Below w0.heap.size w0 wr
  ob : w0.heap.size ≤ o
  qb : w0.heap.size ≤ q
  pb : w0.heap.size ≤ p
  ne : o ≠ q
  po : p ≠ o
  pq : p ≠ q
  out : wr.cell? ⟨o, 0, none⟩ = some (.slice (some ⟨q, 0, none⟩) N N)
  ic : wr.cell? ⟨p, 0, none⟩ = some (.int .i64 (k : Int))
  row : Row wr q N T
  wr : Wr wr a ok wrong
theorem Mid.step {w0 : World} {a : Addr} {o q p N k : Nat} {T : Nat → Int} {ok : Bool} {v : Value} {w w' : World} (h : Mid w0 a o q p N k T ok v w) (b : Below w.heap.size w w') : Mid w0 a o q p N k T ok v w' where
  below := fm_call h.below b
  ob := h.ob
  qb := h.qb
  pb := h.pb
  ne := h.ne
  po := h.po
  pq := h.pq
  out := by rw [b.cell (p := ⟨o, 0, none⟩) (lt_of_cell h.out)]; exact h.out
  ic := by rw [b.cell (p := ⟨p, 0, none⟩) (lt_of_cell h.ic)]; exact h.ic
  row := h.row.step b
  wr := h.wr.step b
theorem Bad.far {w : World} {a : Addr} {p : Addr} (u : Value) (hp : ∀ x, (w.cell? p = some x) → ∃ n, x = .int .i64 n) : ∀ {d : Nat} {v : Value}, Bad w a d v → Bad (w.setCell p u) a d v
  | 0, _, h => h
  | d + 1, _, h => by
    obtain ⟨r, s, c, m, v', rfl, h1, h2, h3, h4, h5⟩ := h
    refine ⟨r, s, c, m, v', rfl, ?_, h2, h3, ?_, Bad.far u hp h5⟩
    · rw [World.cell?_setCell_other]
      · exact h1
      · rintro rfl
        obtain ⟨n, hn⟩ := hp _ h1
        cases hn
    · rw [World.cell?_setCell_other]
      · exact h4
      · rintro rfl
        obtain ⟨n, rfl⟩ := hp _ h4
        obtain ⟨_, _, hn⟩ := h5.iface
        cases hn
theorem Wr.far {w : World} {a : Addr} {p : Addr} (u : Value) (hp : ∀ x, (w.cell? p = some x) → ∃ n, x = .int .i64 n) : ∀ {ok : Bool} {v : Value}, Wr w a ok v → Wr (w.setCell p u) a ok v
  | true, _, h => h
  | false, _, ⟨d, h⟩ => ⟨d, h.far u hp⟩
theorem Mid.store {w0 : World} {a : Addr} {o q p N k : Nat} {T : Nat → Int} {ok : Bool} {v : Value} {w : World} (h : Mid w0 a o q p N k T ok v w) (hk : k < N) (x : Int) :
    Mid w0 a o q p N k (fun j => if j = k then x else T j) ok v (w.setCell ⟨q, k, none⟩ (.int .i64 x)) where
  below := h.below.setCell (p := ⟨q, k, none⟩) h.qb _
  ob := h.ob
  qb := h.qb
  pb := h.pb
  ne := h.ne
  po := h.po
  pq := h.pq
  out := by rw [World.cell?_setCell_far w ⟨q, k, none⟩ ⟨o, 0, none⟩ _ (Ne.symm h.ne)]; exact h.out
  ic := by rw [World.cell?_setCell_far w ⟨q, k, none⟩ ⟨p, 0, none⟩ _ (Ne.symm h.pq)]; exact h.ic
  row := h.row.set k hk x
  wr := h.wr.far _ (fun y hy => by rw [h.row.cell k hk] at hy; injection hy with hy; exact ⟨_, hy.symm⟩)
set_option maxHeartbeats 8000000 in
set_option maxRecDepth 100000 in
theorem typed_any (A : Option Addr) (c : Nat) (l : List S37) (a : Addr) (w : World) (hr : Kd.C k37 w A l.length l) (hl : l.length < 17592186044416) (G : GlobF w) (ha : w.cell? ⟨1, 0, none⟩ = some (.iface 128 (.pointer (some a)))) :
    Calls Tryd.prog 25 #[.slice A l.length c] w fun e w' => ∃ q v, e = .returned (.tuple #[.slice (some ⟨q, 0, none⟩) l.length l.length, v]) ∧ w.heap.size ≤ q ∧ Row w' q l.length (fun j => (tys l).getD j 0) ∧ Wr w' a (okL (tys l)) v ∧ Below w.heap.size w w' := by
  have mk := mkInts l.length hl
  obtain ⟨N, hN⟩ : ∃ N, l.length = N := ⟨_, rfl⟩
  have HN := Lib.hid hN
  have HR := Lib.hid hr
  have HL := Lib.hid hl
  have HG := Lib.hid G
  have HA := Lib.hid ha
  clear hr hl G ha
  rw [hN] at mk ⊢
  clear hN
  go_enter Tryd.func25, Tryd.ntmps25
  go_wp2_with fail
  have hT : TRel w a (w.heap.size + 1) w.heap.size l 0 .nilIface ((w.alloc (.cells (madeCells #[.int .i64 0] N) 3)).alloc (.cells #[.slice (some ⟨w.heap.size, 0, none⟩) N N] 28)) := by
    have hN := HN.out
    subst hN
    refine ⟨fm_alloc (fm_alloc (Below.refl _ _) _) _, by omega, by omega, by omega, ?_, ?_, ?_⟩
    · have h : ((w.alloc (.cells (madeCells #[.int .i64 0] l.length) 3)).alloc (.cells #[.slice (some ⟨w.heap.size, 0, none⟩) l.length l.length] 28)).heap[w.heap.size + 1]? = some (.cells #[.slice (some ⟨w.heap.size, 0, none⟩) l.length l.length] 28 (0, 0)) := by
        have := heap_alloc_new (w.alloc (.cells (madeCells #[.int .i64 0] l.length) 3)) (.cells #[.slice (some ⟨w.heap.size, 0, none⟩) l.length l.length] 28)
        simpa using this
      simp only [World.cell?]
      rw [h]
      rfl
    · refine ((row_made w l.length).step (fm_alloc (Below.refl _ _) _)).eq (fun j hj => by simp [tys])
    · simp [tys, okL]; rfl
  obtain ⟨W, hW⟩ : ∃ W, ((w.alloc (.cells (madeCells #[.int .i64 0] N) 3)).alloc (.cells #[.slice (some ⟨w.heap.size, 0, none⟩) N N] 28)) = W := ⟨_, rfl⟩
  rw [hW] at hT ⊢
  clear hW
  obtain ⟨o, ho⟩ : ∃ o, w.heap.size + 1 = o := ⟨_, rfl⟩
  rw [ho] at hT ⊢
  clear ho
  obtain ⟨q, hq⟩ : ∃ q, w.heap.size = q := ⟨_, rfl⟩
  rw [hq] at hT ⊢
  have HT := Lib.hid hT
  clear hT hq
  go_loopg [5, 22] N (fun g v5 v22 wr => ∃ k : Nat, k ≤ N ∧ g = N - k ∧ v22 = .int .i64 k ∧ TRel w a o q l k v5 wr)
  case atStart => exact ⟨0, by omega, rfl, rfl, HT.out⟩
  case round =>
    obtain ⟨k, hk, hg, rfl, hR⟩ := hrel
    have HK := Lib.hid hk
    have HGk := Lib.hid hg
    clear hk hg
    by_cases hlt : k < N
    · have hn := HN.out
      obtain ⟨n, hn1⟩ : ∃ n, rd_T37 l (k : Int) = n := ⟨_, rfl⟩
      obtain ⟨ad, rfl, x0, x1, x2, x3, x4, x5⟩ := at_T37 HR.out (k : Int) (by omega) (by omega)
      rw [hn1] at x0 x1 x2 x3 x4 x5
      rw [show ((k : Int)).toNat = k from rfl] at x0 x1 x2 x3 x4 x5
      replace x0 := (hR.below.cell (World.block_lt_of_cell? w _ x0)).trans x0
      replace x1 := (hR.below.cell (World.block_lt_of_cell? w _ x1)).trans x1
      replace x2 := (hR.below.cell (World.block_lt_of_cell? w _ x2)).trans x2
      replace x3 := (hR.below.cell (World.block_lt_of_cell? w _ x3)).trans x3
      replace x4 := (hR.below.cell (World.block_lt_of_cell? w _ x4)).trans x4
      replace x5 := (hR.below.cell (World.block_lt_of_cell? w _ x5)).trans x5
      have k1 : ((k : Int) < (N : Int)) = True := eq_true (by omega)
      have k2 : ((0 : Int) ≤ (k : Int)) = True := eq_true (by omega)
      have HR' := Lib.hid hR
      have HN1 := Lib.hid hn1
      clear hR hn hn1
      go_wp2_with fail
      have hR := HR'.out
      have hb0 : Below wr.heap.size wr ((wr.alloc (.cells #[.int .i64 (k : Int)] 3)).alloc (.cells #[.int .i64 n.f0, .int .i64 n.f1, .int .i64 n.f2, .int .i64 n.f3, .int .i64 n.f4, .string n.f5] 37)) := fm_alloc (fm_alloc (Below.refl _ _) _) _
      have hM : Mid w a o q wr.heap.size N k (fun j => (tys (l.take k)).getD j 0) (okL (tys (l.take k))) u5 ((wr.alloc (.cells #[.int .i64 (k : Int)] 3)).alloc (.cells #[.int .i64 n.f0, .int .i64 n.f1, .int .i64 n.f2, .int .i64 n.f3, .int .i64 n.f4, .string n.f5] 37)) := by
        have hn := HN.out
        subst hn
        have lo := lt_of_cell hR.out
        have lq := hR.row.lt
        refine ⟨fm_call hR.below hb0, hR.ob, hR.qb, hR.below.size, hR.ne, by omega, by omega, ?_, ?_, hR.row.step hb0, hR.wr.step hb0⟩
        · rw [hb0.cell (p := ⟨o, 0, none⟩) lo]; exact hR.out
        · have h1 : (wr.alloc (.cells #[.int .i64 (k : Int)] 3)).cell? ⟨wr.heap.size, 0, none⟩ = some (.int .i64 (k : Int)) := by
            have h0 : (wr.alloc (.cells #[.int .i64 (k : Int)] 3)).heap[wr.heap.size]? = some (.cells #[.int .i64 (k : Int)] 3 (0, 0)) := heap_alloc_new wr _
            simp only [World.cell?]
            rw [h0]
            rfl
          rw [(fm_alloc (Below.refl _ _) _ : Below (wr.alloc (.cells #[.int .i64 (k : Int)] 3)).heap.size _ _).cell (p := ⟨wr.heap.size, 0, none⟩) (lt_of_cell h1)]
          exact h1
      have hb1 := fm_call hR.below hb0
      refine (shape_any _ _ _ _ _ _ a _ (HG.out.step hb1) (by rw [hb1.cell (p := ⟨1, 0, none⟩) (lt_of_cell HA.out)]; exact HA.out)).mono ?_
      rintro e w2 ⟨rfl, hb2⟩
      have hM2 := hM.step hb2
      obtain ⟨p, hp⟩ : ∃ p, wr.heap.size = p := ⟨_, rfl⟩
      rw [hp] at hM2 ⊢
      clear hM hb0 hb1 hb2 hR x0 x1 x2 x3 x4 x5 hp
      have HM := Lib.hid hM2
      clear hM2
      obtain ⟨sh, hsh⟩ : ∃ sh, shp n.f0 n.f1 n.f2 n.f3 n.f4 = sh := ⟨_, rfl⟩
      rw [hsh]
      have HS := Lib.hid hsh
      clear hsh
      go_upto_block 2 with fail
      go_cut [13] (fun s wx => Mid w a o q p N k (fun j => (tys (l.take (k + 1))).getD j 0) (okL (tys (l.take k))) u5 wx)
      case first =>
        have hn := HN.out
        have hfin : ∀ (t : Int) (w3 : World), tyS sh (tys (l.take k)) = t → Mid w a o q p N k (fun j => if j = k then t else (tys (l.take k)).getD j 0) (okL (tys (l.take k))) u5 w3 → Mid w a o q p N k (fun j => (tys (l.take (k + 1))).getD j 0) (okL (tys (l.take k))) u5 w3 := by
          intro t w3 ht h3
          have : (fun j => (tys (l.take (k + 1))).getD j 0) = fun j => if j = k then t else (tys (l.take k)).getD j 0 := by
            funext j
            rw [tys_upd l k (by omega)]
            have e1 : l.getD k z37 = n := by rw [← HN1.out]; rfl
            have e2 : tyAt n (tys (l.take k)) = t := by rw [← ht, ← HS.out]; rfl
            rw [e1, e2]
          rw [this]
          exact h3
        have hsame : ∀ w3 : World, Mid w a o q p N k (fun j => (tys (l.take k)).getD j 0) (okL (tys (l.take k))) u5 w3 → Mid w a o q p N k (fun j => if j = k then 0 else (tys (l.take k)).getD j 0) (okL (tys (l.take k))) u5 w3 := by
          intro w3 h3
          have hlen : (tys (l.take k)).length = k := by rw [tys_len, List.length_take]; omega
          have : (fun j => if j = k then 0 else (tys (l.take k)).getD j 0) = fun j => (tys (l.take k)).getD j 0 := by
            funext j
            split
            · rename_i h; rw [h, List.getD_eq_getElem?_getD, List.getElem?_eq_none (by omega)]; rfl
            · rfl
          rw [this]
          exact h3
        have HF := Lib.hid hfin
        have HSm := Lib.hid hsame
        clear hn hfin hsame
        have Y := fun (o3 : Obj) => HM.out.step (fm_alloc (Below.refl _ w2) o3)
        have HY := Lib.hid Y
        clear Y
        cases sh with
        | leaf t =>
          simp only [shpV, shpE]
          have f1 := ta83_83
          have hM := HY.out (.cells #[.int .i64 t] 83)
          have y1 := hM.out
          have y2 := hM.ic
          have y3 := hM.row.cell k hlt
          have y4 := hM.row.frozen k
          have HM3 := Lib.hid hM
          clear hM
          go_wp2_with fail
          go_meet
          exact HF.out t _ rfl (HM3.out.store hlt t)
        | no =>
          simp only [shpV, shpE]
          have f1 := taN_83
          have f2 := taN_85
          have f3 := taN_87
          go_wp2_with fail
          go_meet
          exact HF.out 0 _ rfl (HSm.out _ HM.out)
        | un op lf =>
          simp only [shpV, shpE]
          have f1 := ta85_83
          have f2 := ta85_85
          have hM := HY.out (.cells #[.int .i64 op, .int .i64 lf] 85)
          have y1 := hM.out
          have y2 := hM.ic
          have y3 := hM.row.cell k hlt
          have y4 := hM.row.frozen k
          have y5 := hM.row
          have HM3 := Lib.hid hM
          have Y5 := Lib.hid y5
          clear hM y5
          go_wp2_with fail
          refine (at39T l lf k N p o q _ y2 y1 Y5.out HN.out (by omega)).mono ?_
          rintro e w3 ⟨rfl, rfl⟩
          have hop := shp_un HS.out
          obtain ⟨t, ht⟩ : ∃ t, atL (tys (l.take k)) lf = t := ⟨_, rfl⟩
          rw [ht]
          have HTt := Lib.hid ht
          clear ht
          rcases hop with rfl | rfl
          · by_cases c4 : t = 4
            · subst c4
              go_wp2_with fail
              go_meet
              exact HF.out 4 _ (by simp [tyS, HTt.out]) (HM3.out.store hlt 4)
            · have b4 : (t == 4) = false := beq_eq_false_iff_ne.2 c4
              have C4 := Lib.hid c4
              clear c4
              go_wp2_with fail
              go_meet
              exact HF.out 0 _ (by simp [tyS, HTt.out, C4.out]) (HSm.out _ HM3.out)
          · by_cases c1 : t = 1
            · subst c1
              go_wp2_with fail
              go_meet
              exact HF.out 1 _ (by simp [tyS, HTt.out]) (HM3.out.store hlt 1)
            · have b1 : (t == 1) = false := beq_eq_false_iff_ne.2 c1
              by_cases c5 : t = 5
              · subst c5
                go_wp2_with fail
                go_meet
                exact HF.out 5 _ (by simp [tyS, HTt.out]) (HM3.out.store hlt 5)
              · have b5 : (t == 5) = false := beq_eq_false_iff_ne.2 c5
                have C1 := Lib.hid c1
                have C5 := Lib.hid c5
                clear c1 c5
                go_wp2_with fail
                go_meet
                exact HF.out 0 _ (by simp [tyS, HTt.out, C1.out, C5.out]) (HSm.out _ HM3.out)
        | bin op lf rt =>
          simp only [shpV, shpE]
          have f1 := ta87_83
          have f2 := ta87_85
          have f3 := ta87_87
          have hM := HY.out (.cells #[.int .i64 op, .int .i64 lf, .int .i64 rt] 87)
          have y1 := hM.out
          have y2 := hM.ic
          have y3 := hM.row.cell k hlt
          have y4 := hM.row.frozen k
          have y5 := hM.row
          have HM3 := Lib.hid hM
          have Y5 := Lib.hid y5
          have hkN : k ≤ N := HK.out
          clear hM y5
          go_upto_region 19 with fail
          have z : (w2.alloc (.cells #[.int .i64 op, .int .i64 lf, .int .i64 rt] 87)).heap[w2.heap.size]? = some (.cells #[.int .i64 op, .int .i64 lf, .int .i64 rt] 87 (0, 0)) := heap_alloc_new w2 _
          obtain ⟨W3, hW3⟩ : ∃ W3, w2.alloc (.cells #[.int .i64 op, .int .i64 lf, .int .i64 rt] 87) = W3 := ⟨_, rfl⟩
          rw [hW3] at y1 y2 y3 y4 Y5 HM3 z ⊢
          clear hW3
          obtain ⟨g2, hg2⟩ : ∃ g2, w2.heap.size = g2 := ⟨_, rfl⟩
          rw [hg2] at z ⊢
          clear hg2
          have z0 : W3.cell? ⟨g2, 0, none⟩ = some (.int .i64 op) := by simp only [World.cell?]; rw [z]; rfl
          have z1 : W3.cell? ⟨g2, 1, none⟩ = some (.int .i64 lf) := by simp only [World.cell?]; rw [z]; rfl
          have z2 : W3.cell? ⟨g2, 2, none⟩ = some (.int .i64 rt) := by simp only [World.cell?]; rw [z]; rfl
          have Z := Lib.hid z
          clear z
          have cq : ∀ (x : Int) (n : Nat), Calls Tryd.prog 39 #[.int .i64 x, .pointer (some ⟨p, 0, none⟩), .pointer (some ⟨o, 0, none⟩)] (W3.drewN n) fun e w'' => e = .returned (.int .i64 (atL (tys (l.take k)) x)) ∧ ∃ m, w'' = W3.drewN m := fun x n => Calls.quiet_of_same ((at39T l x k N p o q (W3.drewN n) y2 y1 Y5.out HN.out hkN).mono (fun _ _ h => ⟨h.1, h.2.symm⟩))
          go_quiet (exact cq _ _)
          have hM4 : Mid w a o q p N k (fun j => (tys (l.take k)).getD j 0) (okL (tys (l.take k))) u5 (W3.drewN nq) := HM3.out.step (fm_drewN (Below.refl _ _) _)
          have z4 : (W3.drewN nq).heap[g2]? = some (.cells #[.int .i64 op, .int .i64 lf, .int .i64 rt] 87 (0, 0)) := Z.out
          obtain ⟨W4, hW4⟩ : ∃ W4, W3.drewN nq = W4 := ⟨_, rfl⟩
          rw [hW4] at hM4 z4 ⊢
          clear hW4 y1 y2 y3 y4 z0 z1 z2 cq HM3 Y5 Z
          have hok := shp_ok n.f0 n.f1 n.f2 n.f3 n.f4
          rw [HS.out] at hok
          obtain ⟨o1, o2⟩ := hok
          have i1 := atL_in (tys_in (l.take k)) lf
          have i2 := atL_in (tys_in (l.take k)) rt
          obtain ⟨t1, h1⟩ : ∃ t, atL (tys (l.take k)) lf = t := ⟨_, rfl⟩
          obtain ⟨t2, h2⟩ : ∃ t, atL (tys (l.take k)) rt = t := ⟨_, rfl⟩
          rw [h1] at i1 ⊢
          rw [h2] at i2 ⊢
          have H1 := Lib.hid h1
          have H2 := Lib.hid h2
          clear h1 h2
          obtain ⟨hres, -, -⟩ := res_some op t1 t2 o1 o2 i1.1 i1.2 i2.1 i2.2
          have HRS := Lib.hid hres
          clear hres o1 o2 i1 i2
          have y1 := hM4.out
          have y2 := hM4.ic
          have y3 := hM4.row.cell k hlt
          have y4 := hM4.row.frozen k
          have z0 : W4.cell? ⟨g2, 0, none⟩ = some (.int .i64 op) := by simp only [World.cell?]; rw [z4]; rfl
          have HM4 := Lib.hid hM4
          clear hM4 z4
          by_cases c1 : t1 = 0
          · subst c1
            go_wp2_with fail
            go_meet
            exact HF.out 0 _ (by simp [tyS, H1.out]) (HSm.out _ HM4.out)
          · have b1 : (t1 == 0) = false := beq_eq_false_iff_ne.2 c1
            have n1 : (t1 != 0) = true := by simp [bne, b1]
            have d1 : (t1 = 0) = False := eq_false c1
            by_cases c2 : t2 = 0
            · subst c2
              clear c1
              go_wp2_with fail
              go_meet
              exact HF.out 0 _ (by simp [tyS, H1.out, H2.out]) (HSm.out _ HM4.out)
            · have b2 : (t2 == 0) = false := beq_eq_false_iff_ne.2 c2
              have n2 : (t2 != 0) = true := by simp [bne, b2]
              have d2 : (t2 = 0) = False := eq_false c2
              have hty : tyS (.bin op lf rt) (tys (l.take k)) = resP op t1 t2 := by simp [tyS, H1.out, H2.out, c1, c2]
              have HTy := Lib.hid hty
              clear c1 c2 hty
              generalize resP op t1 t2 = rs at HRS HTy
              go_upto_region 21 with fail
              go_region_with (
                refine (Y.typing_results.calls 5 op t1 t2 rs _ HRS.out).mono ?_
                rintro e w4 ⟨rfl, hb4⟩
                have x := (HM4.out.step (fm_drew (Below.refl _ _))).step hb4
                have x1 := x.out
                have x2 := x.ic
                have x3 := x.row.cell k hlt
                have x4 := x.row.frozen k
                have x5 : w4.cell? ⟨g2, 0, none⟩ = some (.int .i64 op) := by rw [hb4.cell (p := ⟨g2, 0, none⟩) (lt_of_cell z0)]; exact z0
                have HX := Lib.hid x
                clear x hb4)
              all_goals (go_wp2_with fail; go_meet; exact HF.out rs _ HTy.out (HX.out.store hlt rs))
      case rest =>
        have hn := HN.out
        have hl3 : k < l.length := by omega
        have hk1 : (tys (l.take (k + 1))).getD k 0 = tyS sh (tys (l.take k)) := by
          rw [tys_upd l k hl3, if_pos rfl]
          have e1 : l.getD k z37 = n := by rw [← HN1.out]; rfl
          rw [e1, ← HS.out]
          rfl
        have hok : okL (tys (l.take (k + 1))) = (okL (tys (l.take k)) && (tyS sh (tys (l.take k)) != 0)) := by
          rw [tys_take l k hl3, okL_snoc]
          have e1 : l.getD k z37 = n := by rw [← HN1.out]; rfl
          rw [e1, ← HS.out]
          rfl
        have herr : tyS sh (tys (l.take k)) ≠ 0 → shpE a sh = .nilIface := by
          intro h
          cases sh with
          | no => exact absurd rfl h
          | _ => rfl
        obtain ⟨t, ht⟩ : ∃ t, tyS sh (tys (l.take k)) = t := ⟨_, rfl⟩
        rw [ht] at hk1 hok herr
        obtain ⟨ev, hev⟩ : ∃ ev, shpE a sh = ev := ⟨_, rfl⟩
        rw [hev] at herr ⊢
        have y1 := hcut.out
        have y2 := hcut.ic
        have y3 := hcut.row.cell k hlt
        rw [hk1] at y3
        have y6 : wc.cell? ⟨1, 0, none⟩ = some (.iface 128 (.pointer (some a))) := by rw [hcut.below.cell (p := ⟨1, 0, none⟩) (lt_of_cell HA.out)]; exact HA.out
        have HC := Lib.hid hcut
        have HO := Lib.hid hok
        have HE := Lib.hid herr
        clear hn hl3 hk1 ht hev hcut hok herr HM HS HN1 HR'
        have hnext : ∀ (q2 : Bool) (e2 : Value), q2 = (t != 0) → Wr wc a q2 e2 → ∀ (ev2 : Ending) (w5 : World), True := fun _ _ _ _ _ _ => trivial
        clear hnext
        have hj : ∀ (e2 : Value), Wr wc a (t != 0) e2 → Calls Tryd.prog 42 #[.slice (some ⟨wc.heap.size, 0, none⟩) 2 2] (wc.alloc (.cells #[u5, e2] 62)) fun e w5 => ∃ v, e = .returned v ∧ Mid w a o q p N k (fun j => (tys (l.take (k + 1))).getD j 0) (okL (tys (l.take (k + 1)))) v w5 := by
          intro e2 he
          have h0 : (wc.alloc (.cells #[u5, e2] 62)).heap[wc.heap.size]? = some (.cells #[u5, e2] 62 (0, 0)) := heap_alloc_new wc _
          have c1 : (wc.alloc (.cells #[u5, e2] 62)).cell? ⟨wc.heap.size, 0, none⟩ = some u5 := by simp only [World.cell?]; rw [h0]; rfl
          have c2 : (wc.alloc (.cells #[u5, e2] 62)).cell? ⟨wc.heap.size, 1, none⟩ = some e2 := by simp only [World.cell?]; rw [h0]; rfl
          have hb := fm_alloc (Below.refl _ wc) (.cells #[u5, e2] 62)
          refine (join_any wc.heap.size a u5 e2 _ _ _ c1 c2 (HC.out.wr.step hb) (he.step hb)).mono ?_
          rintro e w5 ⟨v, rfl, hv, hb5⟩
          have h5 := (HC.out.step hb).step hb5
          exact ⟨v, rfl, h5.below, h5.ob, h5.qb, h5.pb, h5.ne, h5.po, h5.pq, h5.out, h5.ic, h5.row, by rw [HO.out]; exact hv⟩
        have HJ := Lib.hid hj
        clear hj
        have hu := HC.out.wr.form
        by_cases c0 : t = 0
        · subst c0
          have hj := HJ.out (.iface 128 (.pointer (some a))) ⟨0, rfl⟩
          have HJ1 := Lib.hid hj
          clear hj
          rcases hu with rfl | ⟨tu, uu, rfl⟩ <;> (
            go_wp2_with fail
            refine HJ1.out.mono ?_
            rintro e w5 ⟨v, rfl, hM5⟩
            have HM5 := Lib.hid hM5
            clear hM5
            go_wp2_with fail
            have hg2 := HGk.out
            go_roundg (N - (k + 1))
            case measure => omega
            case rel =>
              have h5 := HM5.out
              have hn := HN.out
              have hL := HL.out
              subst hn
              have ew : wrap64 ((k : Int) + 1) = (k : Int) + 1 := by unfold wrap64; omega
              exact ⟨k + 1, by omega, rfl, by go_num, h5.below, h5.ob, h5.qb, h5.ne, h5.out, h5.row, h5.wr⟩)
        · have b0 : (t == 0) = false := beq_eq_false_iff_ne.2 c0
          have d0 : (t = 0) = False := eq_false c0
          have hev := HE.out c0
          subst hev
          have hj := HJ.out .nilIface (by have : (t != 0) = true := by simp [bne, b0]
                                          rw [this]; rfl)
          have HJ1 := Lib.hid hj
          clear hj c0
          rcases hu with rfl | ⟨tu, uu, rfl⟩ <;> (
            go_wp2_with fail
            refine HJ1.out.mono ?_
            rintro e w5 ⟨v, rfl, hM5⟩
            have HM5 := Lib.hid hM5
            clear hM5
            go_wp2_with fail
            have hg2 := HGk.out
            go_roundg (N - (k + 1))
            case measure => omega
            case rel =>
              have h5 := HM5.out
              have hn := HN.out
              have hL := HL.out
              subst hn
              have ew : wrap64 ((k : Int) + 1) = (k : Int) + 1 := by unfold wrap64; omega
              exact ⟨k + 1, by omega, rfl, by go_num, h5.below, h5.ob, h5.qb, h5.ne, h5.out, h5.row, h5.wr⟩)
    · have hkN : k = N := by have := HK.out; omega
      have k1 : ((k : Int) < (N : Int)) = False := eq_false (by omega)
      have y1 := hR.out
      have hR' := Lib.hid hR
      clear hR
      go_wp2_with fail
      go_ret2
      have h5 := hR'.out
      have hn := HN.out
      subst hn
      subst hkN
      have e1 : l.take l.length = l := List.take_length
      refine ⟨_, _, rfl, h5.qb, ?_, ?_, h5.below⟩
      · have := h5.row; rwa [e1] at this
      · have := h5.wr; rwa [e1] at this
end Go.Proofs.YtoamflnkaaconaaDoor.X
