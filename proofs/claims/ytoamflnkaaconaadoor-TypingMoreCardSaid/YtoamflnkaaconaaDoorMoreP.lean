/- The law TypingMore in plain Lean: what Check says of the changed queries; a box that holds a query of the call's own. -/
import Derived.Test.YtoamflnkaaconaaDoorPs
namespace Go.Proofs.YtoamflnkaaconaaDoor.X
set_option linter.unusedVariables false
set_option linter.unusedSimpArgs false
open Go.RowKit Go.Proofs.YtoamflnkaaconaaDoorW.PrintWords

theorem chk_zero' {ns : List S37} {wh : Int} {by_ : List Int} {sh : List S47} {os : List S69} {lim : Int} (h : (chkP ns wh by_ sh os lim).2 = 0) :
    okL (tys ns) = true ∧ okL (colsP (tys ns) by_ sh) = true ∧ badP (tys ns) wh sh lim = false ∧ ordP (colsP (tys ns) by_ sh).length os = true ∧ chkP ns wh by_ sh os lim = (colsP (tys ns) by_ sh, 0) := by
  unfold chkP at h ⊢
  split at h
  · simp at h
  · rename_i h1
    rw [if_neg h1]
    split at h
    · rename_i h2
      rw [if_pos h2]
      exact ⟨by cases e : okL (tys ns) with | true => rfl | false => exact absurd (Or.inl e) h1, h2.1, by cases e : badP (tys ns) wh sh lim with | false => rfl | true => exact absurd (Or.inr e) h1, h2.2, rfl⟩
    · simp at h
theorem chk_other {ns : List S37} {wh : Int} {by_ : List Int} {sh : List S47} {os : List S69} {lim : Int} (h : (chkP ns wh by_ sh os lim).2 ≠ 0) : chkP ns wh by_ sh os lim = ([], 140) := by
  unfold chkP at h ⊢
  split
  · rfl
  · rename_i h1
    rw [if_neg h1] at h
    split
    · rename_i h2; rw [if_pos h2] at h; exact absurd rfl h
    · rfl
theorem chk_mk {ns : List S37} {wh : Int} {by_ : List Int} {sh : List S47} {os : List S69} {lim : Int} (h1 : okL (tys ns) = true) (h2 : badP (tys ns) wh sh lim = false) (h3 : okL (colsP (tys ns) by_ sh) = true) (h4 : ordP (colsP (tys ns) by_ sh).length os = true) :
    chkP ns wh by_ sh os lim = (colsP (tys ns) by_ sh, 0) := by
  unfold chkP
  rw [if_neg (by rw [h1, h2]; simp), if_pos ⟨h3, h4⟩]
theorem bad_parts {ts : List Int} {wh : Int} {sh : List S47} {lim : Int} (h : badP ts wh sh lim = false) : (wh = -1 ∨ atL ts wh = 4) ∧ sh.length ≠ 0 ∧ -1 ≤ lim := by
  unfold badP at h
  simp only [Bool.or_eq_false_iff, Bool.and_eq_false_iff, decide_eq_false_iff_not] at h
  refine ⟨?_, by simpa using h.1.2, by omega⟩
  rcases h.1.1 with c | c
  · left; simpa using c
  · right; simpa using c
theorem bad_mk {ts : List Int} {wh : Int} {sh : List S47} {lim : Int} (h1 : wh = -1 ∨ atL ts wh = 4) (h2 : sh.length ≠ 0) (h3 : -1 ≤ lim) : badP ts wh sh lim = false := by
  unfold badP
  simp only [Bool.or_eq_false_iff, Bool.and_eq_false_iff, decide_eq_false_iff_not]
  refine ⟨⟨?_, by simpa using h2⟩, by omega⟩
  rcases h1 with c | c
  · left; simpa using c
  · right; simpa using c
theorem ord_mono {n m : Nat} {os : List S69} (h : ordP n os = true) (hm : n ≤ m) : ordP m os = true := by
  unfold ordP at h ⊢
  rw [List.all_eq_true] at h ⊢
  intro o ho
  have := h o ho
  simp only [decide_eq_true_eq] at this ⊢
  omega
section
variable {ns : List S37} {wh : Int} {by_ : List Int} {sh : List S47} {os : List S69} {lim : Int}
/-- no order, another limit -/
theorem more_one (h : (chkP ns wh by_ sh os lim).2 = 0) (lim' : Int) (hl : -1 ≤ lim') : chkP ns wh by_ sh [] lim' = chkP ns wh by_ sh os lim := by
  obtain ⟨a, b, c, d, e⟩ := chk_zero' h
  obtain ⟨c1, c2, c3⟩ := bad_parts c
  rw [e]
  exact chk_mk a (bad_mk c1 c2 hl) b rfl
/-- no condition -/
theorem more_two (h : (chkP ns wh by_ sh os lim).2 = 0) : chkP ns (-1) by_ sh os lim = chkP ns wh by_ sh os lim := by
  obtain ⟨a, b, c, d, e⟩ := chk_zero' h
  obtain ⟨c1, c2, c3⟩ := bad_parts c
  rw [e]
  exact chk_mk a (bad_mk (Or.inl rfl) c2 c3) b d
/-- a column ahead -/
theorem more_by (h : (chkP ns wh by_ sh os lim).2 = 0) (f : Int) : chkP ns wh (f :: by_) sh os lim = if fldT f = 0 then ([], 140) else (fldT f :: (chkP ns wh by_ sh os lim).1, 0) := by
  obtain ⟨a, b, c, d, e⟩ := chk_zero' h
  have hc : colsP (tys ns) (f :: by_) sh = fldT f :: colsP (tys ns) by_ sh := rfl
  rw [e]
  by_cases h0 : fldT f = 0
  · rw [if_pos h0]
    unfold chkP
    rw [if_neg (by rw [a, c]; simp), if_neg (by rw [hc]; simp [okL, h0])]
  · rw [if_neg h0]
    have := chk_mk (wh := wh) (by_ := f :: by_) (sh := sh) (os := os) (lim := lim) a c (by rw [hc]; simp only [okL, List.all_cons, Bool.and_eq_true]; exact ⟨by simpa using h0, b⟩) (by rw [hc]; exact ord_mono d (by simp))
    rw [this, hc]
/-- a column behind -/
theorem more_show (h : (chkP ns wh by_ sh os lim).2 = 0) : ∃ t, chkP ns wh by_ (sh ++ [rd_T47 sh 0]) os lim = ((chkP ns wh by_ sh os lim).1 ++ [t], 0) ∧ (chkP ns wh by_ sh os lim).1.getD by_.length 0 = t ∧ by_.length < (chkP ns wh by_ sh os lim).1.length ∧ 0 < sh.length := by
  obtain ⟨a, b, c, d, e⟩ := chk_zero' h
  obtain ⟨c1, c2, c3⟩ := bad_parts c
  rw [e]
  have hc : colsP (tys ns) by_ (sh ++ [rd_T47 sh 0]) = colsP (tys ns) by_ sh ++ [colP (rd_T47 sh 0).f0 (atL (tys ns) (rd_T47 sh 0).f1)] := by simp [colsP]
  cases sh with
  | nil => exact absurd rfl c2
  | cons s r =>
    have h0 : rd_T47 (s :: r) 0 = s := rfl
    rw [h0] at hc ⊢
    have hg : (colsP (tys ns) by_ (s :: r)).getD by_.length 0 = colP s.f0 (atL (tys ns) s.f1) := by
      unfold colsP
      rw [List.getD_eq_getElem?_getD, List.getElem?_append_right (by simp)]
      simp
    have hin : colP s.f0 (atL (tys ns) s.f1) ∈ colsP (tys ns) by_ (s :: r) := by unfold colsP; simp
    have hne := List.all_eq_true.1 b _ hin
    refine ⟨colP s.f0 (atL (tys ns) s.f1), ?_, hg, ?_, by simp⟩
    · have := chk_mk (wh := wh) (by_ := by_) (sh := s :: r ++ [s]) (os := os) (lim := lim) a (bad_mk c1 (by simp) c3) (by rw [hc]; unfold okL at b ⊢; rw [List.all_append, b, List.all_cons, hne]; rfl) (by rw [hc]; exact ord_mono d (by simp))
      rw [this, hc]
    · unfold colsP; simp
theorem tys_two (l : List S37) (x y : S37) : tys (l ++ [x, y]) = tys l ++ [tyAt x (tys l), tyAt y (tys l ++ [tyAt x (tys l)])] := by
  rw [show l ++ [x, y] = (l ++ [x]) ++ [y] by simp, tys_snoc, tys_snoc]; simp
theorem atL_app (ts us : List Int) (k : Int) (h : atL ts k ≠ 0) : atL (ts ++ us) k = atL ts k := by
  obtain ⟨h0, h1⟩ := atL_range' h
  unfold atL
  rw [if_neg (by rw [List.length_append]; omega), if_neg (by omega)]
  simp [List.getD, List.getElem?_append_left (show k.toNat < ts.length by omega)]
where
  atL_range' {ts : List Int} {k : Int} (h : atL ts k ≠ 0) : 0 ≤ k ∧ k < ts.length := by
    unfold atL at h
    split at h
    · exact absurd rfl h
    · omega
/-- the condition turned to its opposite, and put together with itself -/
theorem more_and (h : (chkP ns wh by_ sh os lim).2 = 0) (hw : 0 ≤ wh) : chkP (ns ++ [⟨3, wh, -1, 0, 0, ⟨#[]⟩⟩, ⟨2, wh, ns.length, 0, 0, ⟨#[]⟩⟩]) (ns.length + 1) by_ sh os lim = chkP ns wh by_ sh os lim := by
  obtain ⟨a, b, c, d, e⟩ := chk_zero' h
  obtain ⟨c1, c2, c3⟩ := bad_parts c
  have c4 : atL (tys ns) wh = 4 := by rcases c1 with c | c; omega; exact c
  rw [e]
  have t1 : tyAt ⟨3, wh, -1, 0, 0, ⟨#[]⟩⟩ (tys ns) = 4 := by
    unfold tyAt shpN shp
    simp [tyS, c4]
  have e2 : atL (tys ns ++ [4]) wh = 4 := by rw [atL_app _ _ _ (by rw [c4]; decide)]; exact c4
  have e3 : atL (tys ns ++ [4]) (ns.length : Int) = 4 := by
    unfold atL
    rw [List.length_append, tys_len, if_neg (by simp; omega)]
    simp [List.getD, tys_len]
  have t2 : tyAt ⟨2, wh, ns.length, 0, 0, ⟨#[]⟩⟩ (tys ns ++ [4]) = 4 := by
    have hs : shpN ⟨2, wh, ns.length, 0, 0, ⟨#[]⟩⟩ = .bin 2 wh ns.length := shp_bin (op := 2) (by decide) (by decide) (by decide) _ _ _ _
    unfold tyAt
    rw [hs]
    simp only [tyS, e2, e3]
    decide +kernel
  have ht : tys (ns ++ [⟨3, wh, -1, 0, 0, ⟨#[]⟩⟩, ⟨2, wh, ns.length, 0, 0, ⟨#[]⟩⟩]) = tys ns ++ [4, 4] := by rw [tys_two, t1, t2]
  have e4 : atL (tys ns ++ [4, 4]) ((ns.length : Int) + 1) = 4 := by
    unfold atL
    rw [List.length_append, tys_len, if_neg (by simp; omega)]
    have : ((ns.length : Int) + 1).toNat = ns.length + 1 := by omega
    rw [this]
    simp [List.getD, tys_len, List.getElem?_append_right]
  have hcol : colsP (tys ns ++ [4, 4]) by_ sh = colsP (tys ns) by_ sh := by
    unfold colsP
    congr 1
    refine List.map_congr_left fun x hx => ?_
    have hne : colP x.f0 (atL (tys ns) x.f1) ≠ 0 := by
      have := List.all_eq_true.1 b (colP x.f0 (atL (tys ns) x.f1)) (by unfold colsP; rw [List.mem_append]; right; exact List.mem_map.2 ⟨x, hx, rfl⟩)
      simpa using this
    by_cases k1 : x.f0 = 1
    · unfold colP; rw [if_pos k1, if_pos k1]
    · have h4 : atL (tys ns) x.f1 ≠ 0 := by
        intro h0
        rw [h0] at hne
        unfold colP at hne
        rw [if_neg k1] at hne
        split at hne <;> exact hne rfl
      rw [atL_app _ _ _ h4]
  have := chk_mk (ns := ns ++ [⟨3, wh, -1, 0, 0, ⟨#[]⟩⟩, ⟨2, wh, ns.length, 0, 0, ⟨#[]⟩⟩]) (wh := ns.length + 1) (by_ := by_) (sh := sh) (os := os) (lim := lim)
    (by rw [ht]; unfold okL at a ⊢; rw [List.all_append, a]; rfl) (by rw [ht]; exact bad_mk (Or.inr e4) c2 c3) (by rw [ht, hcol]; exact b) (by rw [ht, hcol]; exact d)
  rw [this, ht, hcol]
end
/-- two queries of which Check says the same -/
theorem like_eq {l0 m0 : List S37} {a a' : Int} {l2 m2 : List Int} {l3 m3 : List S47} {l4 m4 : List S69} {b b' : Int} (h0 : l0.length < 17592186044416) (h1 : m0.length < 17592186044416) (h2 : l2.length + l3.length < 28147497670000) (h3 : m2.length + m3.length < 28147497670000)
    (he : chkP l0 a l2 l3 l4 b = chkP m0 a' m2 m3 m4 b') : daybooklaw14_like.f (m2.length + m3.length + 1) l0 a l2 l3 l4 b m0 a' m2 m3 m4 b' = some true := by
  have e1 : typing_Check.f l0 a l2 l3 l4 b = some (chkP m0 a' m2 m3 m4 b') := by unfold typing_Check.f; rw [if_pos ⟨h0, h2⟩, he]
  have e2 : typing_Check.f m0 a' m2 m3 m4 b' = some (chkP m0 a' m2 m3 m4 b') := by unfold typing_Check.f; rw [if_pos ⟨h1, h3⟩]
  unfold daybooklaw14_like.f
  rw [e1, Option.bind_some, e2, Option.bind_some, if_pos rfl]
  have hl := chk_len m0 a' m2 m3 m4 b'
  have := sameInts_same (chkP m0 a' m2 m3 m4 b').1 (by omega) (m2.length + m3.length - (chkP m0 a' m2 m3 m4 b').1.length)
  rw [show (chkP m0 a' m2 m3 m4 b').1.length + (m2.length + m3.length - (chkP m0 a' m2 m3 m4 b').1.length) + 1 = m2.length + m3.length + 1 by omega] at this
  rw [this, Option.bind_some]
end Go.Proofs.YtoamflnkaaconaaDoor.X
