/- The types of a list of nodes, in plain Lean. -/
import Derived.Test.YtoamflnkaaconaaDoorShp
import Derived.Test.YtoamflnkaaconaaDoorX0
import Derived.Test.YtoamflnkaaconaaDoorY3
namespace Go.Proofs.YtoamflnkaaconaaDoor.X
set_option linter.unusedVariables false
set_option linter.unusedSimpArgs false

def resP (op a b : Int) : Int := (Y.typing_results.f 5 op a b).getD 0
theorem res_all : ∀ op : Fin 14, ∀ a : Fin 6, ∀ b : Fin 6, (match Y.typing_results.f 5 ((op.val : Int) + 1) (a.val : Int) (b.val : Int) with | some r => decide (0 ≤ r ∧ r ≤ 5) | none => false) = true := by decide +kernel
theorem res_some (op a b : Int) (h1 : 1 ≤ op) (h2 : op ≤ 14) (ha : 0 ≤ a) (ha5 : a ≤ 5) (hb : 0 ≤ b) (hb5 : b ≤ 5) : Y.typing_results.f 5 op a b = some (resP op a b) ∧ 0 ≤ resP op a b ∧ resP op a b ≤ 5 := by
  have h := res_all ⟨(op - 1).toNat, by omega⟩ ⟨a.toNat, by omega⟩ ⟨b.toNat, by omega⟩
  have e1 : (((op - 1).toNat : Nat) : Int) + 1 = op := by omega
  have e2 : ((a.toNat : Nat) : Int) = a := by omega
  have e3 : ((b.toNat : Nat) : Int) = b := by omega
  simp only [e1, e2, e3] at h
  unfold resP
  cases hr : Y.typing_results.f 5 op a b with
  | none => rw [hr] at h; cases h
  | some r => rw [hr] at h; simpa using h
/-- the type at a place; 0 outside -/
def atL (ts : List Int) (k : Int) : Int := if k < 0 ∨ (ts.length : Int) ≤ k then 0 else ts.getD k.toNat 0
def tyS (s : Shp) (ts : List Int) : Int :=
  match s with
  | .leaf t => t
  | .un op l => if (op = 3 ∧ atL ts l = 4) ∨ (op = 15 ∧ (atL ts l = 1 ∨ atL ts l = 5)) then atL ts l else 0
  | .bin op l r => if atL ts l ≠ 0 ∧ atL ts r ≠ 0 then resP op (atL ts l) (atL ts r) else 0
  | .no => 0
def shpN (n : S37) : Shp := shp n.f0 n.f1 n.f2 n.f3 n.f4
def tyAt (n : S37) (ts : List Int) : Int := tyS (shpN n) ts
def tys (l : List S37) : List Int := l.foldl (fun ts n => ts ++ [tyAt n ts]) []
theorem tys_nil : tys [] = [] := rfl
theorem tys_snoc (l : List S37) (n : S37) : tys (l ++ [n]) = tys l ++ [tyAt n (tys l)] := by simp [tys, List.foldl_append]
theorem snoc_ind {α : Type} {P : List α → Prop} (h0 : P []) (h1 : ∀ l a, P l → P (l ++ [a])) (l : List α) : P l := by
  rw [← List.reverse_reverse l]
  induction l.reverse with
  | nil => exact h0
  | cons a t ih => rw [List.reverse_cons]; exact h1 _ _ ih
theorem tys_len (l : List S37) : (tys l).length = l.length := by
  refine snoc_ind (P := fun l => (tys l).length = l.length) rfl (fun l n ih => ?_) l
  rw [tys_snoc]; simp [ih]
def InR (t : Int) : Prop := 0 ≤ t ∧ t ≤ 5
instance (t : Int) : Decidable (InR t) := inferInstanceAs (Decidable (_ ∧ _))
theorem atL_in {ts : List Int} (h : ∀ t ∈ ts, InR t) (k : Int) : InR (atL ts k) := by
  unfold atL
  split
  · exact ⟨by omega, by omega⟩
  · rename_i hk
    have hk' : k.toNat < ts.length := by omega
    have : ts.getD k.toNat 0 = ts[k.toNat] := by simp [List.getD, hk']
    rw [this]
    exact h _ (List.getElem_mem _)
theorem typAt_in : ∀ k, k < 15 → InR (typAt k) := fifteen (by decide) (by decide) (by decide) (by decide) (by decide) (by decide) (by decide) (by decide) (by decide) (by decide) (by decide) (by decide) (by decide) (by decide) (by decide)
theorem fldT_in (f : Int) : InR (fldT f) := by
  unfold fldT
  split
  · exact ⟨by omega, by omega⟩
  · exact typAt_in _ (by omega)
/-- a shape that is one of a node's -/
def Shp.Ok : Shp → Prop
  | .leaf t => InR t ∧ t ≠ 0
  | .bin op _ _ => 1 ≤ op ∧ op ≤ 14
  | _ => True
theorem shp_ok (op l r f n : Int) : (shp op l r f n).Ok := by
  unfold shp
  split
  · split
    · trivial
    · exact ⟨fldT_in f, by assumption⟩
  · split
    · exact ⟨⟨by omega, by omega⟩, by omega⟩
    · split
      · exact ⟨⟨by omega, by omega⟩, by omega⟩
      · split
        · split
          · exact ⟨⟨by omega, by omega⟩, by omega⟩
          · trivial
        · split
          · split
            · exact ⟨⟨by omega, by omega⟩, by omega⟩
            · trivial
          · split
            · trivial
            · split
              · rename_i h; exact h
              · trivial
theorem tyS_in {s : Shp} (hs : s.Ok) {ts : List Int} (h : ∀ t ∈ ts, InR t) : InR (tyS s ts) := by
  unfold tyS
  cases s with
  | leaf t => exact hs.1
  | un op l => dsimp only; split
               · exact atL_in h l
               · exact ⟨by omega, by omega⟩
  | bin op l r =>
    dsimp only
    split
    · have a1 := atL_in h l
      have a2 := atL_in h r
      have := res_some op _ _ hs.1 hs.2 a1.1 a1.2 a2.1 a2.2
      exact this.2
    · exact ⟨by omega, by omega⟩
  | no => exact (by decide : InR 0)
theorem tys_in (l : List S37) : ∀ t ∈ tys l, InR t := by
  refine snoc_ind (P := fun l => ∀ t ∈ tys l, InR t) (fun t ht => by cases ht) (fun l n ih => ?_) l
  rw [tys_snoc]
  intro t ht
  rcases List.mem_append.1 ht with h | h
  · exact ih t h
  · rw [List.mem_singleton.1 h]
    exact tyS_in (shp_ok _ _ _ _ _) ih
theorem tys_take (l : List S37) (k : Nat) (hk : k < l.length) : tys (l.take (k + 1)) = tys (l.take k) ++ [tyAt (l.getD k z37) (tys (l.take k))] := by
  rw [List.take_add_one, List.getElem?_eq_getElem hk, Option.toList_some, tys_snoc]
  simp [List.getD, hk]
/-- have all nodes a type? -/
def okL (ts : List Int) : Bool := ts.all (· != 0)
theorem okL_snoc (ts : List Int) (t : Int) : okL (ts ++ [t]) = (okL ts && (t != 0)) := by simp [okL]
end Go.Proofs.YtoamflnkaaconaaDoor.X
