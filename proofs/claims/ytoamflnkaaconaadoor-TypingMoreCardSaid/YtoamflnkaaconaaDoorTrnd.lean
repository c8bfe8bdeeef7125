/- The law TypingTurned in plain Lean: changing a node's parts about changes nothing. -/
import Derived.Test.YtoamflnkaaconaaDoorHandCheck
namespace Go.Proofs.YtoamflnkaaconaaDoor.X
set_option linter.unusedVariables false
set_option linter.unusedSimpArgs false

/-- the turned operation -/
def turnP (op : Int) : Option Int :=
  if op = 4 ∨ op = 5 ∨ op = 1 ∨ op = 2 ∨ op = 12 ∨ op = 14 then some op
  else if op = 6 then some 8 else if op = 8 then some 6 else if op = 7 then some 9 else if op = 9 then some 7 else none
theorem res_turn_all : ∀ op : Fin 14, ∀ a : Fin 6, ∀ b : Fin 6, (match turnP ((op.val : Int) + 1) with | some o2 => resP o2 (b.val : Int) (a.val : Int) == resP ((op.val : Int) + 1) (a.val : Int) (b.val : Int) | none => true) = true := by decide +kernel
theorem res_turn (op o2 a b : Int) (h : turnP op = some o2) (ha : InR a) (hb : InR b) : resP o2 b a = resP op a b := by
  have hop : 1 ≤ op ∧ op ≤ 14 := by
    unfold turnP at h
    split at h
    · omega
    · split at h
      · omega
      · split at h
        · omega
        · split at h
          · omega
          · split at h
            · omega
            · cases h
  have h1 := res_turn_all ⟨(op - 1).toNat, by omega⟩ ⟨a.toNat, by have := ha.1; have := ha.2; omega⟩ ⟨b.toNat, by have := hb.1; have := hb.2; omega⟩
  have e1 : (((op - 1).toNat : Nat) : Int) + 1 = op := by omega
  have e2 : ((a.toNat : Nat) : Int) = a := by have := ha.1; omega
  have e3 : ((b.toNat : Nat) : Int) = b := by have := hb.1; omega
  simp only [e1, e2, e3, h] at h1
  simpa using h1
theorem shp_bin {op : Int} (h1 : 1 ≤ op) (h2 : op ≤ 14) (h3 : op ≠ 3) (l r f n : Int) : shp op l r f n = .bin op l r := by
  unfold shp
  rw [if_neg (by omega), if_neg (by omega), if_neg (by omega), if_neg (by omega), if_neg (by omega), if_neg (by omega), if_pos ⟨h1, h2⟩]
theorem turn_range {op o2 : Int} (h : turnP op = some o2) : (1 ≤ op ∧ op ≤ 14 ∧ op ≠ 3) ∧ (1 ≤ o2 ∧ o2 ≤ 14 ∧ o2 ≠ 3) := by
  unfold turnP at h
  split at h
  · injection h with h; omega
  · split at h
    · injection h with h; omega
    · split at h
      · injection h with h; omega
      · split at h
        · injection h with h; omega
        · split at h
          · injection h with h; omega
          · cases h
theorem tyAt_turn (n : S37) (o2 : Int) (h : turnP n.f0 = some o2) (ts : List Int) (hts : ∀ t ∈ ts, InR t) : tyAt ⟨o2, n.f2, n.f1, n.f3, n.f4, n.f5⟩ ts = tyAt n ts := by
  obtain ⟨⟨a1, a2, a3⟩, b1, b2, b3⟩ := turn_range h
  unfold tyAt shpN
  rw [shp_bin a1 a2 a3]
  show tyS (shp o2 n.f2 n.f1 n.f3 n.f4) ts = _
  rw [shp_bin b1 b2 b3]
  simp only [tyS]
  have hr := res_turn n.f0 o2 (atL ts n.f1) (atL ts n.f2) h (atL_in hts _) (atL_in hts _)
  by_cases c : atL ts n.f1 ≠ 0 ∧ atL ts n.f2 ≠ 0
  · rw [if_pos c, if_pos ⟨c.2, c.1⟩, hr]
  · rw [if_neg c, if_neg (fun h => c ⟨h.2, h.1⟩)]
theorem tys_append (a b : List S37) : tys (a ++ b) = b.foldl (fun ts n => ts ++ [tyAt n ts]) (tys a) := by simp [tys, List.foldl_append]
theorem tys_set (l : List S37) (k : Nat) (n' : S37) (hk : k < l.length) (h : tyAt n' (tys (l.take k)) = tyAt (l.getD k z37) (tys (l.take k))) : tys (l.set k n') = tys l := by
  have e1 : l.set k n' = l.take k ++ n' :: l.drop (k + 1) := List.set_eq_take_append_cons_drop.trans (by rw [if_pos hk])
  have e2 : l = l.take k ++ l.getD k z37 :: l.drop (k + 1) := by
    have : l.getD k z37 = l[k] := by simp [List.getD, hk]
    rw [this, List.getElem_cons_drop, List.take_append_drop]
  rw [e1]
  conv => rhs; rw [e2]
  rw [tys_append, tys_append, List.foldl_cons, List.foldl_cons, h]
/-- what Check answers hangs on the types alone -/
theorem chk_types {ns ms : List S37} (h : tys ns = tys ms) (wh : Int) (b : List Int) (s : List S47) (o : List S69) (lim : Int) : chkP ns wh b s o lim = chkP ms wh b s o lim := by
  unfold chkP
  rw [h]
end Go.Proofs.YtoamflnkaaconaaDoor.X
