/- typing.Check. -/
import Derived.Test.YtoamflnkaaconaaDoorTyped
import Derived.Test.YtoamflnkaaconaaDoorAppBig
import Derived.Deep.AppendLies
import Derived.Deep.RegionLaw
namespace Go.Proofs.YtoamflnkaaconaaDoor.X
set_option linter.unusedVariables false
set_option linter.unusedSimpArgs false
open Go.RowKit Go.Extern.Stop Go.Stop Go.Extern Go.Proofs.YtoamflnkaaconaaDoorW.PrintWords

def colP (kind t : Int) : Int := if kind = 1 then 1 else if (kind = 2 ∧ (t = 1 ∨ t = 5)) ∨ ((kind = 3 ∨ kind = 4) ∧ t ≠ 4) then t else 0
theorem col_some (kind of t : Int) : Y.typing_column.f 1 kind of t = some (colP kind t) := by
  unfold Y.typing_column.f colP
  by_cases k1 : kind = 1
  · simp [k1]
  · by_cases k2 : kind = 2
    · subst k2
      by_cases t1 : t = 1
      · subst t1; simp [Y.typing_column.j0]
      · by_cases t5 : t = 5
        · subst t5; simp [Y.typing_column.j0]
        · simp [Y.typing_column.j0, t1, t5]
    · by_cases k3 : kind = 3
      · subst k3
        by_cases t4 : t = 4
        · subst t4; simp [Y.typing_column.j0]
        · simp [Y.typing_column.j0, t4]
      · by_cases k4 : kind = 4
        · subst k4
          by_cases t4 : t = 4
          · subst t4; simp [Y.typing_column.j0]
          · simp [Y.typing_column.j0, t4]
        · simp [Y.typing_column.j0, k1, k2, k3, k4]
/-- the columns -/
def colsP (ts : List Int) (by_ : List Int) (show_ : List S47) : List Int := by_.map fldT ++ show_.map fun a => colP a.f0 (atL ts a.f1)
/-- is the condition, the limit or the list of aggregates none? -/
def badP (ts : List Int) (wh : Int) (show_ : List S47) (lim : Int) : Bool := (wh != -1 && atL ts wh != 4) || show_.length == 0 || decide (lim < -1)
def ordP (n : Nat) (os : List S69) : Bool := os.all fun o => decide (0 ≤ o.f0 ∧ o.f0 < n)
def chkP (ns : List S37) (wh : Int) (by_ : List Int) (show_ : List S47) (os : List S69) (lim : Int) : List Int × Int :=
  if okL (tys ns) = false ∨ badP (tys ns) wh show_ lim = true then ([], 140)
  else if okL (colsP (tys ns) by_ show_) = true ∧ ordP (colsP (tys ns) by_ show_).length os = true then (colsP (tys ns) by_ show_, 0) else ([], 140)
def typing_Check.f (ns : List S37) (wh : Int) (by_ : List Int) (show_ : List S47) (os : List S69) (lim : Int) : Option (List Int × Int) :=
  if ns.length < 17592186044416 ∧ by_.length + show_.length < 28147497670000 then some (chkP ns wh by_ show_ os lim) else none

/-- what the body reads: the query, the types -/
structure Env (w0 : World) (b o q N : Nat) (T : Nat → Int) (x0 x2 x3 x4 : Value) (wh lim : Int) (wr : World) : Prop where
  below : Below w0.heap.size w0 wr
  bb : w0.heap.size ≤ b
  ob : w0.heap.size ≤ o
  box : wr.heap[b]? = some (.cells #[x0, .int .i64 wh, x2, x3, x4, .int .i64 lim] 32 (0, 0))
  out : wr.cell? ⟨o, 0, none⟩ = some (.slice (some ⟨q, 0, none⟩) N N)
  row : Row wr q N T
theorem Env.step {w0 : World} {b o q N : Nat} {T : Nat → Int} {x0 x2 x3 x4 : Value} {wh lim : Int} {w w' : World} (h : Env w0 b o q N T x0 x2 x3 x4 wh lim w) (k : Below w.heap.size w w') : Env w0 b o q N T x0 x2 x3 x4 wh lim w' where
  below := fm_call h.below k
  bb := h.bb
  ob := h.ob
  box := by rw [k.block b ((Array.getElem?_eq_some_iff.1 h.box).1)]; exact h.box
  out := by rw [k.cell (p := ⟨o, 0, none⟩) (lt_of_cell h.out)]; exact h.out
  row := h.row.step k
theorem Env.c1 {w0 : World} {b o q N : Nat} {T : Nat → Int} {x0 x2 x3 x4 : Value} {wh lim : Int} {w : World} (h : Env w0 b o q N T x0 x2 x3 x4 wh lim w) : w.cell? ⟨b, 1, none⟩ = some (.int .i64 wh) := by simp only [World.cell?]; rw [h.box]; rfl
theorem Env.c2 {w0 : World} {b o q N : Nat} {T : Nat → Int} {x0 x2 x3 x4 : Value} {wh lim : Int} {w : World} (h : Env w0 b o q N T x0 x2 x3 x4 wh lim w) : w.cell? ⟨b, 2, none⟩ = some x2 := by simp only [World.cell?]; rw [h.box]; rfl
theorem Env.c3 {w0 : World} {b o q N : Nat} {T : Nat → Int} {x0 x2 x3 x4 : Value} {wh lim : Int} {w : World} (h : Env w0 b o q N T x0 x2 x3 x4 wh lim w) : w.cell? ⟨b, 3, none⟩ = some x3 := by simp only [World.cell?]; rw [h.box]; rfl
theorem Env.c4 {w0 : World} {b o q N : Nat} {T : Nat → Int} {x0 x2 x3 x4 : Value} {wh lim : Int} {w : World} (h : Env w0 b o q N T x0 x2 x3 x4 wh lim w) : w.cell? ⟨b, 4, none⟩ = some x4 := by simp only [World.cell?]; rw [h.box]; rfl
theorem Env.c5 {w0 : World} {b o q N : Nat} {T : Nat → Int} {x0 x2 x3 x4 : Value} {wh lim : Int} {w : World} (h : Env w0 b o q N T x0 x2 x3 x4 wh lim w) : w.cell? ⟨b, 5, none⟩ = some (.int .i64 lim) := by simp only [World.cell?]; rw [h.box]; rfl
theorem at27T (ts : List Int) (x : Int) (N o q : Nat) (w : World) (h2 : w.cell? ⟨o, 0, none⟩ = some (.slice (some ⟨q, 0, none⟩) N N)) (h3 : Row w q N (fun j => ts.getD j 0)) (hN : ts.length = N) :
    Calls Tryd.prog 27 #[.int .i64 x, .pointer (some ⟨o, 0, none⟩)] w fun e w' => e = .returned (.int .i64 (atL ts x)) ∧ w = w' := by
  have h := at27 x N o q _ w h2 h3
  have e : atL ts x = if x < 0 ∨ (N : Int) ≤ x then 0 else (fun j => ts.getD j 0) x.toNat := by simp [atL, hN]
  rw [e]
  exact h
theorem at_int {w : World} {A : Option Addr} {n : Nat} {xs : List Int} (h : Kd.C (Kd.int .i64) w A n xs) (i : Nat) (h1 : i < n) : ∃ ad, A = some ad ∧ w.cell? (ad.add i) = some (.int .i64 (xs.getD i 0)) := by
  obtain ⟨ad, c, e, _, hK, hc0⟩ := Kd.C_get h (0 : Int) (i : Int) (by omega) (by omega)
  have hk : c = [.int .i64 (xs.getD i 0)] := hK
  subst hk
  have := hc0 0 _ rfl
  exact ⟨ad, e, by simpa [Kd.int, Kd.scalar] using this⟩
theorem take_map_succ {α : Type} (f : α → Int) (l : List α) (k : Nat) (hk : k < l.length) (d : α) : (l.take (k + 1)).map f = (l.take k).map f ++ [f (l.getD k d)] := by
  rw [List.take_add_one, List.getElem?_eq_getElem hk, List.map_append]
  congr 1
  simp [List.getD, hk]
theorem i64info : (Tryd.prog.info? 3).map (fun i => (i.zero, i.size, i.bytes)) = some (some (.int .i64 0), 1, 8) := by kernel_rfl
set_option maxHeartbeats 8000000 in
set_option maxRecDepth 100000 in
theorem check_any (A0 : Option Addr) (c0 : Nat) (l0 : List S37) (wh : Int) (A2 : Option Addr) (c2 : Nat) (l2 : List Int) (A3 : Option Addr) (c3 : Nat) (l3 : List S47) (A4 : Option Addr) (c4 : Nat) (l4 : List S69) (lim : Int) (w : World)
    (G : Glob w) (h0 : Kd.C k37 w A0 l0.length l0) (h2 : Kd.C (Kd.int .i64) w A2 l2.length l2) (h3 : Kd.C k47 w A3 l3.length l3) (h4 : Kd.C k69 w A4 l4.length l4) (hl0 : l0.length < 17592186044416) (hl2 : l2.length + l3.length < 28147497670000) :
    Calls Tryd.prog 17 #[.agg #[.slice A0 l0.length c0, .int .i64 wh, .slice A2 l2.length c2, .slice A3 l3.length c3, .slice A4 l4.length c4, .int .i64 lim]] w fun e w' => ∃ v0_ : Value, e = .returned (.tuple #[v0_, .int .i64 (chkP l0 wh l2 l3 l4 lim).2]) ∧ Kd.R (Kd.int .i64) 3 w' w.heap.size (fun _ => True) v0_ (chkP l0 wh l2 l3 l4 lim).1 ∧ Below w.heap.size w w' := by
  obtain ⟨a, ha⟩ := G.err
  have HA := Lib.hid ha
  have HG := Lib.hid G.toGlobF
  have H0 := Lib.hid h0
  have H2 := Lib.hid h2
  have H3 := Lib.hid h3
  have H4 := Lib.hid h4
  have HL0 := Lib.hid hl0
  have HL2 := Lib.hid hl2
  clear G h0 h2 h3 h4 hl0 hl2 ha
  obtain ⟨R, hRR⟩ : ∃ R, chkP l0 wh l2 l3 l4 lim = R := ⟨_, rfl⟩
  rw [hRR]
  have HR := Lib.hid hRR
  clear hRR
  obtain ⟨m2, hm2⟩ : ∃ m, l2.length = m := ⟨_, rfl⟩
  obtain ⟨m3, hm3⟩ : ∃ m, l3.length = m := ⟨_, rfl⟩
  obtain ⟨m4, hm4⟩ : ∃ m, l4.length = m := ⟨_, rfl⟩
  rw [hm2, hm3, hm4]
  have HM2 := Lib.hid hm2
  have HM3 := Lib.hid hm3
  have HM4 := Lib.hid hm4
  clear hm2 hm3 hm4
  go_enter Tryd.func17, Tryd.ntmps17
  go_wp2_with fail
  have hb0 := fm_alloc (Below.refl _ w) (.cells #[.slice A0 l0.length c0, .int .i64 wh, .slice A2 m2 c2, .slice A3 m3 c3, .slice A4 m4 c4, .int .i64 lim] 32)
  have hz := heap_alloc_new w (.cells #[.slice A0 l0.length c0, .int .i64 wh, .slice A2 m2 c2, .slice A3 m3 c3, .slice A4 m4 c4, .int .i64 lim] 32)
  refine (typed_any A0 c0 l0 a _ (Kd.C_below H0.out hb0) HL0.out (HG.out.step hb0) (by rw [hb0.cell (p := ⟨1, 0, none⟩) (lt_of_cell HA.out)]; exact HA.out)).mono ?_
  rintro e w1 ⟨q, v, rfl, hq, hrow, hwr, hb1⟩
  have hb01 := fm_call hb0 hb1
  have hE : Env w w.heap.size w1.heap.size q l0.length (fun j => (tys l0).getD j 0) (.slice A0 l0.length c0) (.slice A2 m2 c2) (.slice A3 m3 c3) (.slice A4 m4 c4) wh lim (w1.alloc (.cells #[.slice (some ⟨q, 0, none⟩) l0.length l0.length] 28)) := by
    have hbo := fm_alloc (Below.refl _ w1) (.cells #[.slice (some ⟨q, 0, none⟩) l0.length l0.length] 28)
    have hz1 : w1.heap[w.heap.size]? = some (.cells #[.slice A0 l0.length c0, .int .i64 wh, .slice A2 m2 c2, .slice A3 m3 c3, .slice A4 m4 c4, .int .i64 lim] 32 (0, 0)) := by
      rw [hb1.block w.heap.size ((Array.getElem?_eq_some_iff.1 hz).1)]; exact hz
    refine ⟨fm_call hb01 hbo, Nat.le_refl _, hb01.size, ?_, ?_, hrow.step hbo⟩
    · rw [hbo.block w.heap.size ((Array.getElem?_eq_some_iff.1 hz1).1)]; exact hz1
    · have := heap_alloc_new w1 (.cells #[.slice (some ⟨q, 0, none⟩) l0.length l0.length] 28)
      simp only [World.cell?]; rw [this]; rfl
  have hwr2 : Wr (w1.alloc (.cells #[.slice (some ⟨q, 0, none⟩) l0.length l0.length] 28)) a (okL (tys l0)) v := hwr.step (fm_alloc (Below.refl _ w1) _)
  have hg1 : (w1.alloc (.cells #[.slice (some ⟨q, 0, none⟩) l0.length l0.length] 28)).cell? ⟨1, 0, none⟩ = some (.iface 128 (.pointer (some a))) := by rw [hE.below.cell (p := ⟨1, 0, none⟩) (lt_of_cell HA.out)]; exact HA.out
  have HE := Lib.hid hE
  have HW := Lib.hid hwr2
  clear hb0 hz hq hrow hwr hb1 hb01 hE hwr2
  obtain ⟨b, hb⟩ : ∃ b, w.heap.size = b := ⟨_, rfl⟩
  go_upto_region 2 with fail
  generalize w1.alloc (.cells #[.slice (some ⟨q, 0, none⟩) l0.length l0.length] 28) = W2 at HE HW hg1 ⊢
  generalize w1.heap.size = o at HE ⊢
  rw [hb] at HE
  have HB := Lib.hid hb
  clear hb
  cases hok : okL (tys l0) with
  | false =>
    rw [hok] at HW
    obtain ⟨d, hbad⟩ := HW.out
    obtain ⟨tu, uu, rfl⟩ := hbad.iface
    have hf := isTop_bad a W2 d tu uu hbad
    have HF := Lib.hid hf
    clear hf hbad
    go_wp2_with fail
    refine HF.out.mono ?_
    rintro e w3 ⟨rfl, rfl⟩
    go_wp2_with fail
    go_ret2
    have hR : R = ([], 140) := by rw [← HR.out]; unfold chkP; rw [if_pos (Or.inl hok)]
    subst hR
    exact ⟨_, rfl, Kd.R_nil _ _ _ _ _, HE.out.below⟩
  | true =>
    rw [hok] at HW
    have hv : v = .nilIface := HW.out
    subst hv
    have hf := isTop_nil a W2
    have HF := Lib.hid hf
    clear hf
    go_wp2_with fail
    refine HF.out.mono ?_
    rintro e w3 ⟨rfl, rfl⟩
    go_upto_region 5 with fail
    obtain ⟨bad, hbd⟩ : ∃ bad, badP (tys l0) wh l3 lim = bad := ⟨_, rfl⟩
    have HBd := Lib.hid hbd
    clear hbd
    go_cut [48] (fun s wx => s = .bool bad ∧ wx = W2)
    case first =>
      have y1 := HE.out.c1
      have y3 := HE.out.c3
      have y5 := HE.out.c5
      have hcall := at27T (tys l0) wh l0.length o q W2 HE.out.out HE.out.row (tys_len l0)
      have HC := Lib.hid hcall
      clear hcall
      have hbd := HBd.out
      unfold badP at hbd
      obtain ⟨t, ht⟩ : ∃ t, atL (tys l0) wh = t := ⟨_, rfl⟩
      rw [ht] at HC hbd
      clear ht HBd HF hg1
      by_cases e1 : wh = -1
      · subst e1
        by_cases e2 : m3 = 0
        · subst e2
          have hb' : true = bad := by rw [← hbd, HM3.out]; simp
          subst hb'
          clear hbd
          go_wp2_with fail
          go_meet
          exact ⟨rfl, rfl⟩
        · have m1 : (m3 == 0) = false := beq_eq_false_iff_ne.2 e2
          have m2' : ((m3 : Int) == 0) = false := beq_eq_false_iff_ne.2 (by omega)
          have m3' : (m3 = 0) = False := eq_false e2
          by_cases e3 : lim < -1
          · have hb' : true = bad := by rw [← hbd, HM3.out]; simp [e3]
            subst hb'
            clear hbd
            go_wp2_with fail
            go_meet
            exact ⟨rfl, rfl⟩
          · have hb' : false = bad := by rw [← hbd, HM3.out]; simp [e3, e2]
            subst hb'
            have e4 : -1 ≤ lim := by omega
            have e5 : decide (lim < -1) = false := decide_eq_false e3
            clear hbd
            go_wp2_with fail
            go_meet
            exact ⟨rfl, rfl⟩
      · have d1 : (wh = -1) = False := eq_false e1
        have b1 : (wh == -1) = false := beq_eq_false_iff_ne.2 e1
        have n1 : (wh != -1) = true := by simp [bne, b1]
        by_cases e4 : t = 4
        · subst e4
          by_cases e2 : m3 = 0
          · subst e2
            have hb' : true = bad := by rw [← hbd, HM3.out]; simp
            subst hb'
            clear hbd
            go_wp2_with fail
            refine HC.out.mono ?_
            rintro e w3 ⟨rfl, rfl⟩
            go_wp2_with fail
            go_meet
            exact ⟨rfl, rfl⟩
          · have m1 : (m3 == 0) = false := beq_eq_false_iff_ne.2 e2
            have m2' : ((m3 : Int) == 0) = false := beq_eq_false_iff_ne.2 (by omega)
            have m3' : (m3 = 0) = False := eq_false e2
            by_cases e3 : lim < -1
            · have hb' : true = bad := by rw [← hbd, HM3.out]; simp [e3]
              subst hb'
              clear hbd
              go_wp2_with fail
              refine HC.out.mono ?_
              rintro e w3 ⟨rfl, rfl⟩
              go_wp2_with fail
              go_meet
              exact ⟨rfl, rfl⟩
            · have hb' : false = bad := by rw [← hbd, HM3.out]; simp [e3, e2]
              subst hb'
              have e4 : -1 ≤ lim := by omega
              have e5 : decide (lim < -1) = false := decide_eq_false e3
              clear hbd
              go_wp2_with fail
              refine HC.out.mono ?_
              rintro e w3 ⟨rfl, rfl⟩
              go_wp2_with fail
              go_meet
              exact ⟨rfl, rfl⟩
        · have d4 : (t = 4) = False := eq_false e4
          have b4 : (t == 4) = false := beq_eq_false_iff_ne.2 e4
          have n4 : (t != 4) = true := by simp [bne, b4]
          have hb' : true = bad := by rw [← hbd, n1, n4]; simp
          subst hb'
          clear hbd
          go_wp2_with fail
          refine HC.out.mono ?_
          rintro e w3 ⟨rfl, rfl⟩
          go_wp2_with fail
          go_meet
          exact ⟨rfl, rfl⟩
    case rest =>
      obtain ⟨rfl, rfl⟩ := hcut
      clear HF
      cases bad with
      | true =>
        go_wp2_with fail
        go_ret2
        have hR : R = ([], 140) := by rw [← HR.out]; unfold chkP; rw [if_pos (Or.inr HBd.out)]
        subst hR
        exact ⟨_, rfl, Kd.R_nil _ _ _ _ _, HE.out.below⟩
      | false =>
        have y2 := HE.out.c2
        go_wp2_with fail
        obtain ⟨B0, hB0⟩ : ∃ B0, wc.heap.size = B0 := ⟨_, rfl⟩
        have HB0 := Lib.hid hB0
        clear hB0 y2 hg1
        go_loopg [7, 52] m2 (fun g v7 v52 wr => ∃ k : Nat, k ≤ m2 ∧ g = m2 - k ∧ v52 = .int .i64 k ∧ Kd.R (Kd.int .i64) 3 wr B0 (fun _ => True) v7 ((l2.take k).map fldT) ∧ Below B0 wc wr)
        case atStart => exact ⟨0, by omega, rfl, rfl, Kd.R_nil _ _ _ _ _, by rw [← HB0.out]; exact Below.refl _ _⟩
        case round =>
          obtain ⟨k, hk, hg, rfl, hR, hBl⟩ := hrel
          have HK := Lib.hid hk
          have HGk := Lib.hid hg
          have HRo := Lib.hid hR
          have HBl := Lib.hid hBl
          clear hk hg hR hBl
          by_cases hlt : k < m2
          · have hn2 := HM2.out
            have hll := HL2.out
            obtain ⟨ad, rfl, x0⟩ := at_int H2.out k (by omega)
            have hbw : Below w.heap.size w wr := HE.out.below.trans (by rw [HB.out]; have := HBl.out; rw [← HB0.out] at this; exact this.mono (by have := HE.out.below.size; rw [HB.out] at this; exact this))
            replace x0 := (hbw.cell (World.block_lt_of_cell? w _ x0)).trans x0
            have gf := HG.out.step hbw
            have HGf := Lib.hid gf
            have k1 : ((k : Int) < (m2 : Int)) = True := eq_true (by omega)
            have k2 : ((0 : Int) ≤ (k : Int)) = True := eq_true (by omega)
            have hlen : ((l2.take k).map fldT).length + 1 ≤ 28147497670000 := by simp; omega
            have HLn := Lib.hid hlen
            have hsucc := take_map_succ fldT l2 k (by omega) 0
            have HS := Lib.hid hsucc
            clear gf hlen hn2 hll hbw hsucc
            generalize l2.getD k 0 = fx at *
            go_wp2_with fail
            refine (field_any fx wr HGf.out).mono ?_
            rintro e w3 ⟨rfl, hb3⟩
            have ro3 := Kd.R_below HRo.out hb3
            have bl3 : Below B0 wc w3 := HBl.out.trans (hb3.mono (by have := HBl.out.size; have := HB0.out; omega))
            have RO3 := Lib.hid ro3
            have BL3 := Lib.hid bl3
            clear ro3 bl3 hb3
            go_wp2_with (at_builtin
                         go_loud (refine RI_append (w0 := wc) B0 rfl (.tmp 61) (.tmp 63) 28 3 rfl Tryd.underlying28 i64info _ ((l2.take k).map fldT) (fldT fx) (fun _ => True) (by rfl) (by rfl) (fun _ _ => trivial) RO3.out BL3.out (by have := BL3.out.size; have := HB0.out; omega) HLn.out ?_)
                         intro v2 w2 hown2 hbel2 hg2 hat2
                         have HO2 := Lib.hid hown2
                         have HB2 := Lib.hid hbel2
                         clear hown2 hbel2 hg2 hat2)
            have hg2 := HGk.out
            go_roundg (m2 - (k + 1))
            case measure => omega
            case rel =>
              have hll := HL2.out
              have hn2 := HM2.out
              have ew : wrap64 ((k : Int) + 1) = (k : Int) + 1 := by unfold wrap64; omega
              exact ⟨k + 1, by omega, rfl, by go_num, by rw [HS.out]; exact HO2.out, HB2.out⟩
          · have hkm : k = m2 := by have := HK.out; omega
            have k1 : ((k : Int) < (m2 : Int)) = False := eq_false (by omega)
            have e2 : (l2.take k).map fldT = l2.map fldT := by rw [hkm, ← HM2.out, List.take_length]
            rw [e2] at HRo
            have hEr := HE.out.step (by have := HBl.out; rw [← HB0.out] at this; exact this)
            have y3 := hEr.c3
            clear e2 hEr HK HGk
            go_wp2_with fail
            subst hkm
            go_loopg [7, 69] m3 (fun g v7 v69 wr => ∃ j : Nat, j ≤ m3 ∧ g = m3 - j ∧ v69 = .int .i64 j ∧ Kd.R (Kd.int .i64) 3 wr B0 (fun _ => True) v7 (l2.map fldT ++ (l3.take j).map fun a => colP a.f0 (atL (tys l0) a.f1)) ∧ Below B0 wc wr)
            case atStart => exact ⟨0, by omega, rfl, rfl, by simpa using HRo.out, HBl.out⟩
            case round =>
              clear HRo HBl y3
              obtain ⟨j, hj, hg, rfl, hR, hBl⟩ := hrel
              have HK := Lib.hid hj
              have HGk := Lib.hid hg
              have HRo := Lib.hid hR
              have HBl := Lib.hid hBl
              clear hj hg hR hBl
              by_cases hlt : j < m3
              · have hn3 := HM3.out
                have hll := HL2.out
                have hn2 := HM2.out
                obtain ⟨ag, hag⟩ : ∃ ag, rd_T47 l3 (j : Int) = ag := ⟨_, rfl⟩
                obtain ⟨ad, rfl, x0, x1⟩ := at_T47 H3.out (j : Int) (by omega) (by omega)
                rw [hag] at x0 x1
                rw [show ((j : Int)).toNat = j from rfl] at x0 x1
                have hEr := HE.out.step (by have := HBl.out; rw [← HB0.out] at this; exact this)
                replace x0 := (hEr.below.cell (World.block_lt_of_cell? w _ x0)).trans x0
                replace x1 := (hEr.below.cell (World.block_lt_of_cell? w _ x1)).trans x1
                have HEr := Lib.hid hEr
                have k1 : ((j : Int) < (m3 : Int)) = True := eq_true (by omega)
                have k2 : ((0 : Int) ≤ (j : Int)) = True := eq_true (by omega)
                have hlen : (l2.map fldT ++ (l3.take j).map fun a => colP a.f0 (atL (tys l0) a.f1)).length + 1 ≤ 28147497670000 := by simp; omega
                have HLn := Lib.hid hlen
                have hsucc := take_map_succ (fun a : S47 => colP a.f0 (atL (tys l0) a.f1)) l3 j (by omega) z47
                have e4 : l3.getD j z47 = ag := by rw [← hag]; rfl
                rw [e4] at hsucc
                have HS := Lib.hid hsucc
                clear hlen hn2 hn3 hll hsucc hEr e4 hag
                go_upto_region 17 with fail
                have hz := heap_alloc_new wr (.cells #[.int .i64 ag.f0, .int .i64 ag.f1] 47)
                have hbz := fm_alloc (Below.refl _ wr) (.cells #[.int .i64 ag.f0, .int .i64 ag.f1] 47)
                have hE5 := HEr.out.step hbz
                have hR5 := Kd.R_below HRo.out hbz
                have hB5 : Below B0 wc (wr.alloc (.cells #[.int .i64 ag.f0, .int .i64 ag.f1] 47)) := HBl.out.trans (hbz.mono (by have := HBl.out.size; have := HB0.out; omega))
                clear hbz
                generalize wr.alloc (.cells #[.int .i64 ag.f0, .int .i64 ag.f1] 47) = W5 at hz hE5 hR5 hB5 ⊢
                generalize wr.heap.size = g5 at hz ⊢
                have z0 : W5.cell? ⟨g5, 0, none⟩ = some (.int .i64 ag.f0) := by simp only [World.cell?]; rw [hz]; rfl
                have z1 : W5.cell? ⟨g5, 1, none⟩ = some (.int .i64 ag.f1) := by simp only [World.cell?]; rw [hz]; rfl
                have HE5 := Lib.hid hE5
                have HR5 := Lib.hid hR5
                have HB5 := Lib.hid hB5
                clear hz hE5 hR5 hB5 x0 x1
                have y27 := (at27T (tys l0) ag.f1 l0.length o q W5.drew HE5.out.out HE5.out.row (tys_len l0))
                have Y27 := Lib.hid y27
                clear y27
                generalize atL (tys l0) ag.f1 = t at Y27 HS
                have hcs := col_some ag.f0 ag.f1 t
                have HCs := Lib.hid hcs
                clear hcs
                generalize colP ag.f0 t = cp at HCs HS
                generalize hxs : (l2.map fldT ++ (l3.take j).map fun a => colP a.f0 (atL (tys l0) a.f1)) = xs at HR5 HLn
                have HXs := Lib.hid hxs
                clear hxs
                go_region_law (first
                  | (refine RI_append_step (w0 := wc) B0 (by rfl) (.tmp 73) (.tmp 80) 28 3 rfl Tryd.underlying28 i64info u7 xs cp (fun _ => True) (by rfl) (by rfl) (fun _ _ => trivial) R6.out B6.out (by have := B6.out.size; have := HB0.out; omega) HLn.out ?_
                     intro v2 w2 hown2 hbel2 hg2 hat2
                     have HO2 := Lib.hid hown2
                     have HB2 := Lib.hid hbel2
                     clear hown2 hbel2 hg2 hat2)
                  | (go_simp
                     refine Y27.out.mono ?_
                     rintro e w6 ⟨rfl, rfl⟩)
                  | (go_simp
                     refine (Y.typing_column.calls 1 ag.f0 ag.f1 t _ _ HCs.out).mono ?_
                     rintro e w6 ⟨rfl, hb6⟩
                     have r6 := Kd.R_below (Kd.R_below HR5.out (fm_drew (Below.refl _ W5))) hb6
                     have b6 : Below B0 wc w6 := (HB5.out.trans ((fm_drew (Below.refl _ W5)).mono (by have := HB5.out.size; have := HB0.out; omega))).trans (hb6.mono (by have := HB5.out.size; have := HB0.out; show B0 ≤ W5.heap.size; omega))
                     have R6 := Lib.hid r6
                     have B6 := Lib.hid b6
                     clear r6 b6 hb6))
                all_goals (
                  go_wp2_with fail
                  have hg2 := HGk.out
                  have hll := HL2.out
                  have hn3 := HM3.out
                  have ew : wrap64 ((j : Int) + 1) = (j : Int) + 1 := by unfold wrap64; omega
                  go_roundg (m3 - (j + 1))
                  case measure => omega
                  case rel =>
                    exact ⟨j + 1, by omega, rfl, by go_num, by rw [HS.out, ← List.append_assoc, HXs.out]; exact HO2.out, HB2.out⟩)
              · have hkm : j = m3 := by have := HK.out; omega
                have k1 : ((j : Int) < (m3 : Int)) = False := eq_false (by omega)
                have e2 : (l2.map fldT ++ (l3.take j).map fun a => colP a.f0 (atL (tys l0) a.f1)) = colsP (tys l0) l2 l3 := by rw [hkm, ← HM3.out, List.take_length]; rfl
                rw [e2] at HRo
                have hEr := HE.out.step (by have := HBl.out; rw [← HB0.out] at this; exact this)
                have y4 := hEr.c4
                have hbw := hEr.below
                have HBw := Lib.hid hbw
                clear e2 hEr HK HGk hbw
                obtain ⟨Av, cv, rfl, hcv, hCr⟩ := Kd.R_reads HRo.out
                obtain ⟨cs, hcs⟩ : ∃ cs, colsP (tys l0) l2 l3 = cs := ⟨_, rfl⟩
                rw [hcs] at HRo hCr ⊢
                have HCr := Lib.hid hCr
                have HCs := Lib.hid hcs
                clear hcs hCr hcv
                obtain ⟨mc, hmc⟩ : ∃ mc, cs.length = mc := ⟨_, rfl⟩
                rw [hmc] at HRo ⊢
                have HMc := Lib.hid hmc
                clear hmc
                subst hkm
                go_wp2_with fail
                go_loopg [85] mc (fun g v85 wx => ∃ i : Nat, i ≤ mc ∧ g = mc - i ∧ v85 = .int .i64 i ∧ wx = wr ∧ okL (cs.take i) = true)
                case atStart => exact ⟨0, by omega, rfl, rfl, rfl, rfl⟩
                case round =>
                  obtain ⟨i, hi, hg, rfl, rfl, hokc⟩ := hrel
                  have HK := Lib.hid hi
                  have HGk := Lib.hid hg
                  have HOk := Lib.hid hokc
                  clear hi hg hokc
                  by_cases hlt : i < mc
                  · have hnc := HMc.out
                    obtain ⟨ad, rfl, x0⟩ := at_int HCr.out i (by omega)
                    have k1 : ((i : Int) < (mc : Int)) = True := eq_true (by omega)
                    have k2 : ((0 : Int) ≤ (i : Int)) = True := eq_true (by omega)
                    have hsnoc : cs.take (i + 1) = cs.take i ++ [cs.getD i 0] := by
                      rw [List.take_add_one, List.getElem?_eq_getElem (by omega)]
                      simp [List.getD, show i < cs.length by omega]
                    have hmem : cs.getD i 0 ∈ cs := by
                      have : cs.getD i 0 = cs[i]'(by omega) := by simp [List.getD, show i < cs.length by omega]
                      rw [this]; exact List.getElem_mem _
                    have HSn := Lib.hid hsnoc
                    have HMm := Lib.hid hmem
                    clear hsnoc hmem hnc
                    generalize cs.getD i 0 = t at *
                    by_cases c0 : t = 0
                    · subst c0
                      go_wp2_with fail
                      go_ret2
                      have hno : okL cs = false := by
                        have := HMm.out
                        simp only [okL, List.all_eq_false]
                        exact ⟨0, this, by simp⟩
                      have hR : R = ([], 140) := by
                        rw [← HR.out]; unfold chkP
                        rw [if_neg (by rw [hok, HBd.out]; simp), HCs.out, if_neg (by rw [hno]; simp)]
                      subst hR
                      exact ⟨_, rfl, Kd.R_nil _ _ _ _ _, HBw.out⟩
                    · have b0 : (t == 0) = false := beq_eq_false_iff_ne.2 c0
                      have C0 := Lib.hid c0
                      clear c0
                      go_wp2_with fail
                      have hg2 := HGk.out
                      go_roundg (mc - (i + 1))
                      case measure => omega
                      case rel =>
                        have hll := (Kd.C_max HCr.out)
                        have hnc := HMc.out
                        have ew : wrap64 ((i : Int) + 1) = (i : Int) + 1 := by unfold wrap64; omega
                        exact ⟨i + 1, by omega, rfl, by go_num, rfl, by rw [HSn.out, okL_snoc, HOk.out]; simp [bne, b0]⟩
                  · have hkm : i = mc := by have := HK.out; omega
                    subst hkm
                    have k1 : ((i : Int) < (i : Int)) = False := eq_false (by omega)
                    have hall : okL cs = true := by have := HOk.out; rwa [← HMc.out, List.take_length] at this
                    have HAl := Lib.hid hall
                    clear hall HOk HK HGk
                    go_wp2_with fail
                    clear y4
                    go_loopg [95] m4 (fun g v95 wx => ∃ n : Nat, n ≤ m4 ∧ g = m4 - n ∧ v95 = .int .i64 n ∧ Below wr.heap.size wr wx ∧ ordP i (l4.take n) = true)
                    case atStart => exact ⟨0, by omega, rfl, rfl, Below.refl _ _, rfl⟩
                    case round =>
                      obtain ⟨n, hn, hg, rfl, hbx, hord⟩ := hrel
                      have HK := Lib.hid hn
                      have HGk := Lib.hid hg
                      have HOr := Lib.hid hord
                      have HBx := Lib.hid hbx
                      clear hn hg hord hbx
                      by_cases hlt : n < m4
                      · have hn4 := HM4.out
                        obtain ⟨ag, hag⟩ : ∃ ag, rd_T69 l4 (n : Int) = ag := ⟨_, rfl⟩
                        obtain ⟨ad, rfl, x0, x1⟩ := at_T69 H4.out (n : Int) (by omega) (by omega)
                        rw [hag] at x0 x1
                        rw [show ((n : Int)).toNat = n from rfl] at x0 x1
                        have hbw := fm_call HBw.out HBx.out
                        replace x0 := (hbw.cell (World.block_lt_of_cell? w _ x0)).trans x0
                        replace x1 := (hbw.cell (World.block_lt_of_cell? w _ x1)).trans x1
                        have k1 : ((n : Int) < (m4 : Int)) = True := eq_true (by omega)
                        have k2 : ((0 : Int) ≤ (n : Int)) = True := eq_true (by omega)
                        have hsnoc : l4.take (n + 1) = l4.take n ++ [ag] := by
                          rw [List.take_add_one, List.getElem?_eq_getElem (by omega)]
                          have : l4.getD n z69 = ag := by rw [← hag]; rfl
                          rw [← this]
                          simp [List.getD, show n < l4.length by omega]
                        have hmem : ag ∈ l4 := by
                          have e : l4.getD n z69 = ag := by rw [← hag]; rfl
                          have : l4.getD n z69 = l4[n]'(by omega) := by simp [List.getD, show n < l4.length by omega]
                          rw [← e, this]; exact List.getElem_mem _
                        have HSn := Lib.hid hsnoc
                        have HMm := Lib.hid hmem
                        have HBw2 := Lib.hid hbw
                        clear hsnoc hmem hn4 hbw hag
                        obtain ⟨of0, hof⟩ : ∃ x, ag.f0 = x := ⟨_, rfl⟩
                        rw [hof] at x0
                        have HOf := Lib.hid hof
                        clear hof
                        have hbad : ¬ (0 ≤ of0 ∧ of0 < (i : Int)) → R = ([], 140) := by
                          intro h
                          have hno : ordP i l4 = false := by
                            simp only [ordP, List.all_eq_false]
                            refine ⟨ag, HMm.out, ?_⟩
                            rw [HOf.out]
                            simpa using h
                          rw [← HR.out]; unfold chkP
                          rw [if_neg (by rw [hok, HBd.out]; simp), HCs.out, HMc.out, hno, if_neg (by simp)]
                        have HBd2 := Lib.hid hbad
                        clear hbad
                        by_cases c1 : of0 < 0
                        · have hR := HBd2.out (by omega)
                          subst hR
                          go_wp2_with fail
                          go_ret2
                          exact ⟨_, rfl, Kd.R_nil _ _ _ _ _, by repeat (first | exact HBw2.out | apply fm_drewN | apply fm_alloc)⟩
                        · have c2 : 0 ≤ of0 := by omega
                          by_cases c3 : (i : Int) ≤ of0
                          · have hR := HBd2.out (by omega)
                            subst hR
                            have c4 : decide (of0 < 0) = false := decide_eq_false c1
                            clear c1
                            go_wp2_with fail
                            go_ret2
                            exact ⟨_, rfl, Kd.R_nil _ _ _ _ _, by repeat (first | exact HBw2.out | apply fm_drewN | apply fm_alloc)⟩
                          · have c5 : of0 < (i : Int) := by omega
                            have c4 : decide (of0 < 0) = false := decide_eq_false c1
                            have c6 : decide ((i : Int) ≤ of0) = false := decide_eq_false c3
                            clear c1 c3
                            go_wp2_with fail
                            have hg2 := HGk.out
                            go_roundg (m4 - (n + 1))
                            case measure => omega
                            case rel =>
                              have hll := (Kd.C_max H4.out)
                              have hnc := HM4.out
                              have ew : wrap64 ((n : Int) + 1) = (n : Int) + 1 := by unfold wrap64; omega
                              refine ⟨n + 1, by omega, rfl, by go_num, by repeat (first | exact HBx.out | apply fm_drewN | apply fm_alloc), ?_⟩
                              have h1 := HOr.out
                              rw [HSn.out]
                              simp only [ordP, List.all_append, List.all_cons, List.all_nil, Bool.and_true] at h1 ⊢
                              rw [h1, HOf.out]
                              simp [c2, c5]
                      · have hkm : n = m4 := by have := HK.out; omega
                        subst hkm
                        have k1 : ((n : Int) < (n : Int)) = False := eq_false (by omega)
                        have hR : R = (cs, 0) := by
                          have ho := HOr.out
                          rw [← HM4.out, List.take_length] at ho
                          rw [← HR.out]; unfold chkP
                          rw [if_neg (by rw [hok, HBd.out]; simp), HCs.out, HMc.out, if_pos ⟨HAl.out, ho⟩]
                        subst hR
                        go_wp2_with fail
                        go_ret2
                        refine ⟨_, rfl, ?_, fm_call HBw.out HBx.out⟩
                        refine Kd.R_lower (Kd.R_below HRo.out HBx.out) ?_
                        have h1 := HE.out.below.size
                        have h2 := HB0.out
                        omega
theorem typing_Check.calls (A0_0 : Option Addr) (c0_0 : Nat) (l0_0 : List S37) (a0_1 : Int) (A0_2 : Option Addr) (c0_2 : Nat) (l0_2 : List Int) (A0_3 : Option Addr) (c0_3 : Nat) (l0_3 : List S47) (A0_4 : Option Addr) (c0_4 : Nat) (l0_4 : List S69) (a0_5 : Int) (r1 : List Int) (r2 : Int) (w : World)
    (hr0_0 : Kd.C k37 w A0_0 l0_0.length l0_0) (hc0_0 : l0_0.length ≤ c0_0) (hr0_2 : Kd.C (Kd.int .i64) w A0_2 l0_2.length l0_2) (hc0_2 : l0_2.length ≤ c0_2) (hr0_3 : Kd.C k47 w A0_3 l0_3.length l0_3) (hc0_3 : l0_3.length ≤ c0_3) (hr0_4 : Kd.C k69 w A0_4 l0_4.length l0_4) (hc0_4 : l0_4.length ≤ c0_4)
    (h : typing_Check.f l0_0 a0_1 l0_2 l0_3 l0_4 a0_5 = some (r1, r2)) (G : Glob w) :
    Calls Tryd.prog 17 #[.agg #[.slice A0_0 l0_0.length c0_0, .int .i64 a0_1, .slice A0_2 l0_2.length c0_2, .slice A0_3 l0_3.length c0_3, .slice A0_4 l0_4.length c0_4, .int .i64 a0_5]] w fun e w' => ∃ v0_ : Value, e = .returned (.tuple #[v0_, .int .i64 r2]) ∧ Kd.R (Kd.int .i64) 3 w' w.heap.size (fun _ => True) v0_ r1 ∧ Below w.heap.size w w' := by
  unfold typing_Check.f at h
  split at h
  · rename_i hl
    have e := Option.some.inj h
    have := check_any A0_0 c0_0 l0_0 a0_1 A0_2 c0_2 l0_2 A0_3 c0_3 l0_3 A0_4 c0_4 l0_4 a0_5 w G hr0_0 hr0_2 hr0_3 hr0_4 hl.1 hl.2
    rw [e] at this
    exact this
  · cases h
end Go.Proofs.YtoamflnkaaconaaDoor.X
