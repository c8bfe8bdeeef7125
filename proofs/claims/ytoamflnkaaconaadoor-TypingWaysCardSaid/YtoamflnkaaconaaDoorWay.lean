/- Plan and its parts in plain Lean: what the printed functions answer of a query that means something. -/
import Derived.Test.YtoamflnkaaconaaDoorTrnQ
import Derived.Test.YtoamflnkaaconaaDoorX22
import Derived.Test.YtoamflnkaaconaaDoorX19a
namespace Go.Proofs.YtoamflnkaaconaaDoor.X
set_option linter.unusedVariables false
set_option linter.unusedSimpArgs false
open Go.Proofs.YtoamflnkaaconaaDoorW.PrintWords Go.RowKit

theorem ok_at (l : List S37) : okL (tys l) = true → ∀ i, i < l.length → tyAt (l.getD i z37) (tys (l.take i)) ≠ 0 := by
  refine snoc_ind (P := fun l => okL (tys l) = true → ∀ i, i < l.length → tyAt (l.getD i z37) (tys (l.take i)) ≠ 0) (fun _ i hi => absurd hi (Nat.not_lt_zero _)) ?_ l
  intro l a ih h i hi
  rw [tys_snoc, okL_snoc, Bool.and_eq_true] at h
  rw [List.length_append, List.length_singleton] at hi
  rcases Nat.lt_or_ge i l.length with hl | hl
  · have := ih h.1 i hl
    rw [List.take_append_of_le_length (by omega)]
    have e : (l ++ [a]).getD i z37 = l.getD i z37 := by simp [List.getD, List.getElem?_append_left hl]
    rw [e]; exact this
  · have e : i = l.length := by omega
    subst e
    have e1 : (l ++ [a]).getD l.length z37 = a := by simp [List.getD]
    have e2 : (l ++ [a]).take l.length = l := by simp
    rw [e1, e2]
    simpa using h.2
theorem atL_range {ts : List Int} {k : Int} (h : atL ts k ≠ 0) : 0 ≤ k ∧ k < ts.length := by
  unfold atL at h
  split at h
  · exact absurd rfl h
  · omega
theorem bin_range {ns : List S37} (hok : okL (tys ns) = true) (i : Int) (h0 : 0 ≤ i) (hi : i < ns.length) (h1 : 1 ≤ (rd_T37 ns i).f0) (h2 : (rd_T37 ns i).f0 ≤ 14) (h3 : (rd_T37 ns i).f0 ≠ 3) :
    0 ≤ (rd_T37 ns i).f1 ∧ (rd_T37 ns i).f1 < i ∧ 0 ≤ (rd_T37 ns i).f2 ∧ (rd_T37 ns i).f2 < i := by
  have h := ok_at ns hok i.toNat (by omega)
  change tyAt (rd_T37 ns i) _ ≠ 0 at h
  unfold tyAt shpN at h
  rw [shp_bin h1 h2 h3] at h
  simp only [tyS] at h
  split at h
  · rename_i hc
    have a := atL_range hc.1
    have b := atL_range hc.2
    rw [tys_len, List.length_take] at a b
    omega
  · exact absurd rfl h

/-- does a node hold a field against a leaf? -/
def agP (ns : List S37) (n : S37) (fld op : Int) : Bool := (rd_T37 ns n.f1).f0 == 16 && (rd_T37 ns n.f1).f3 == fld && (rd_T37 ns n.f2).f0 == op
theorem against_is (ns : List S37) (n : S37) (fld op : Int) (h1 : 0 ≤ n.f1) (h2 : n.f1 < ns.length) (h3 : 0 ≤ n.f2) (h4 : n.f2 < ns.length) :
    typing_against.f ns n.f0 n.f1 n.f2 n.f3 n.f4 n.f5 fld op = some (agP ns n fld op) := by
  unfold typing_against.f agP
  rw [if_pos h1, if_pos h2]
  by_cases a : (rd_T37 ns n.f1).f0 = 16
  · rw [if_pos a]
    by_cases b : (rd_T37 ns n.f1).f3 = fld
    · rw [if_pos b, if_pos h3, if_pos h4]; simp [a, b]
    · rw [if_neg b]; simp [a, b]
  · rw [if_neg a]; simp [a]
/-- the tally of a node, by those ahead of it -/
def talAt (ns : List S37) (ts : List S74) (n : S37) : S74 :=
  if n.f0 = 2 then ⟨mn 2 ((rd_T74 ts n.f1).f0 + (rd_T74 ts n.f2).f0), mn 2 ((rd_T74 ts n.f1).f1 + (rd_T74 ts n.f2).f1), mn 2 ((rd_T74 ts n.f1).f2 + (rd_T74 ts n.f2).f2)⟩
  else if n.f0 = 4 ∧ agP ns n 6 18 = true then ⟨1, 0, 0⟩
  else if (n.f0 = 4 ∨ (6 ≤ n.f0 ∧ n.f0 ≤ 9)) ∧ agP ns n 3 19 = true then ⟨0, 1, 0⟩
  else ⟨0, 0, 1⟩
def talN (ns : List S37) : Nat → List S74
  | 0 => []
  | k + 1 => talN ns k ++ [talAt ns (talN ns k) (rd_T37 ns (k : Int))]
theorem talN_len (ns : List S37) : ∀ k, (talN ns k).length = k
  | 0 => rfl
  | k + 1 => by simp [talN, talN_len ns k]
def InT (t : S74) : Prop := (0 ≤ t.f0 ∧ t.f0 ≤ 2) ∧ (0 ≤ t.f1 ∧ t.f1 ≤ 2) ∧ (0 ≤ t.f2 ∧ t.f2 ≤ 2)
theorem inT_z : InT z74 := by unfold InT z74; simp
theorem mn2 {a b : Int} (ha : 0 ≤ a) (hb : 0 ≤ b) : 0 ≤ mn 2 (a + b) ∧ mn 2 (a + b) ≤ 2 := by unfold mn; split <;> omega
theorem inT_rd {ts : List S74} (h : ∀ t ∈ ts, InT t) (i : Int) : InT (rd_T74 ts i) := by
  unfold rd_T74
  rcases Nat.lt_or_ge i.toNat ts.length with hl | hl
  · have : ts.getD i.toNat z74 = ts[i.toNat] := by simp [List.getD, hl]
    rw [this]; exact h _ (List.getElem_mem hl)
  · have : ts.getD i.toNat z74 = z74 := by simp [List.getD, hl]
    rw [this]; exact inT_z
theorem talAt_in (ns : List S37) {ts : List S74} (h : ∀ t ∈ ts, InT t) (n : S37) : InT (talAt ns ts n) := by
  unfold talAt
  have a := inT_rd h n.f1
  have b := inT_rd h n.f2
  unfold InT at a b
  split
  · exact ⟨mn2 a.1.1 b.1.1, mn2 a.2.1.1 b.2.1.1, mn2 a.2.2.1 b.2.2.1⟩
  · split
    · unfold InT; simp
    · split
      · unfold InT; simp
      · unfold InT; simp
theorem talN_in (ns : List S37) : ∀ k, ∀ t ∈ talN ns k, InT t
  | 0 => fun t h => by cases h
  | k + 1 => fun t h => by
    rcases List.mem_append.1 h with h | h
    · exact talN_in ns k t h
    · rw [List.mem_singleton.1 h]; exact talAt_in ns (talN_in ns k) _
theorem rd_left (a b : List S74) (i : Int) (h0 : 0 ≤ i) (h : i < a.length) : rd_T74 (a ++ b) i = rd_T74 a i := by
  unfold rd_T74
  simp [List.getD, List.getElem?_append_left (show i.toNat < a.length by omega)]
theorem set_mid (a : List S74) (n : Nat) (x : S74) : (a ++ List.replicate (n + 1) z74).set a.length x = (a ++ [x]) ++ List.replicate n z74 := by
  rw [List.set_append_right _ _ (Nat.le_refl _), Nat.sub_self, List.replicate_succ, List.set_cons_zero, List.append_assoc]; rfl
theorem rd_take (l : List S37) (m : Nat) (i : Int) (h : i < m) (h0 : 0 ≤ i) : rd_T37 (l.take m) i = rd_T37 l i := by
  unfold rd_T37
  simp only [List.getD_eq_getElem?_getD]
  rw [List.getElem?_take_of_lt (by omega)]
theorem wrap_id {a : Int} (h0 : -9223372036854775808 ≤ a) (h1 : a ≤ 9223372036854775807) : wrap64 a = a := by unfold wrap64; omega
theorem rd_mid (a : List S74) (n : Nat) : rd_T74 (a ++ List.replicate (n + 1) z74) (a.length : Int) = z74 := by
  unfold rd_T74
  simp [List.getD]

theorem counted_l0 (ns : List S37) (hok : okL (tys ns) = true) (m : Nat) (hm : m < ns.length) (hl : ns.length < 2513169434916) : ∀ (d i k : Nat), i + d = m + 1 → 2 * d + 1 ≤ k →
    typing_counted.l0 k ns (m : Int) (talN ns i ++ List.replicate d z74) (ns.take (m + 1)) ((m + 1 : Nat) : Int) (i : Int) = some ((rd_T74 (talN ns (m + 1)) m).f0, (rd_T74 (talN ns (m + 1)) m).f1, (rd_T74 (talN ns (m + 1)) m).f2)
  | 0, i, k, h, hk => by
    obtain ⟨k, rfl⟩ : ∃ j, k = j + 1 := ⟨k - 1, by omega⟩
    obtain rfl : i = m + 1 := by omega
    simp only [typing_counted.l0]
    rw [if_neg (by omega), if_pos (by omega)]
    simp only [List.replicate_zero, List.append_nil]
    rw [if_pos (by rw [talN_len]; omega)]
  | d + 1, i, k, h, hk => by
    obtain ⟨k, rfl⟩ : ∃ j, k = j + 1 := ⟨k - 1, by omega⟩
    have ih := fun k hk => counted_l0 ns hok m hm hl d (i + 1) k (by omega) hk
    have hlen : (talN ns i ++ List.replicate (d + 1) z74).length = m + 1 := by rw [List.length_append, talN_len, List.length_replicate]; omega
    have hx5 : ∀ x, (talN ns i ++ List.replicate (d + 1) z74).set i x = (talN ns i ++ [x]) ++ List.replicate d z74 := fun x => by
      have := set_mid (talN ns i) d x
      rw [talN_len] at this; exact this
    have hrz : rd_T74 (talN ns i ++ List.replicate (d + 1) z74) (i : Int) = z74 := by
      have := rd_mid (talN ns i) d
      rw [talN_len] at this; exact this
    have ew : wrap64 ((i : Int) + 1) = ((i + 1 : Nat) : Int) := by rw [wrap_id (by omega) (by omega)]; omega
    have hrt := rd_take ns (m + 1) (i : Int) (by omega) (by omega)
    have hT : talN ns (i + 1) = talN ns i ++ [talAt ns (talN ns i) (rd_T37 ns (i : Int))] := rfl
    have fin : ∀ (x : S74) (k' : Nat), x = talAt ns (talN ns i) (rd_T37 ns (i : Int)) → 2 * d + 1 ≤ k' →
        typing_counted.l0 k' ns (m : Int) ((talN ns i ++ List.replicate (d + 1) z74).set i x) (ns.take (m + 1)) ((m + 1 : Nat) : Int) (wrap64 ((i : Int) + 1)) = some ((rd_T74 (talN ns (m + 1)) m).f0, (rd_T74 (talN ns (m + 1)) m).f1, (rd_T74 (talN ns (m + 1)) m).f2) := fun x k' hx hk' => by
      rw [hx5, hx, ← hT, ew]; exact ih k' hk'
    have hti : (List.take (m + 1) ns).length = m + 1 := by rw [List.length_take]; omega
    simp only [typing_counted.l0, hrt, hlen, hti]
    rw [if_pos (by omega), if_pos (by omega), if_pos (by omega)]
    obtain ⟨n, hn⟩ : ∃ n, rd_T37 ns (i : Int) = n := ⟨_, rfl⟩
    have hb := bin_range hok (i : Int) (by omega) (by omega)
    rw [hn] at hb fin
    simp only [hn]
    have hi : (i : Int).toNat = i := by omega
    by_cases h2 : n.f0 = 2
    · rw [if_pos h2]
      obtain ⟨b1, b2, b3, b4⟩ := hb (by omega) (by omega) (by omega)
      rw [if_pos b1, if_pos (by omega), if_pos b3, if_pos (by omega)]
      rw [rd_left _ _ _ b1 (by rw [talN_len]; omega), rd_left _ _ _ b3 (by rw [talN_len]; omega)]
      have i1 := inT_rd (talN_in ns i) n.f1
      have i2 := inT_rd (talN_in ns i) n.f2
      unfold InT at i1 i2
      simp only [typing_tally_plus.f, Option.bind_some]
      rw [wrap_id (by omega) (by omega), wrap_id (by omega) (by omega), wrap_id (by omega) (by omega), if_pos (by omega), hi]
      exact fin _ k (by unfold talAt; rw [if_pos h2]) (by omega)
    · rw [if_neg h2]
      obtain ⟨k, rfl⟩ : ∃ j, k = j + 1 := ⟨k - 1, by omega⟩
      by_cases h4 : n.f0 = 4
      · rw [if_pos h4]
        obtain ⟨b1, b2, b3, b4⟩ := hb (by omega) (by omega) (by omega)
        rw [against_is ns n 6 18 b1 (by omega) b3 (by omega), Option.bind_some]
        simp only [typing_counted.j1, hlen, hrz]
        cases ha : agP ns n 6 18 with
        | true =>
          rw [if_pos rfl, if_pos (by omega), if_pos (by omega), hi]
          exact fin _ k (by unfold talAt; rw [if_neg h2, if_pos ⟨h4, ha⟩]; rfl) (by omega)
        | false =>
          rw [if_neg (by simp), if_pos h4, against_is ns n 3 19 b1 (by omega) b3 (by omega), Option.bind_some]
          cases hd : agP ns n 3 19 with
          | true =>
            rw [if_pos rfl, if_pos (by omega), if_pos (by omega), hi]
            exact fin _ k (by unfold talAt; rw [if_neg h2, if_neg (by rw [ha]; simp), if_pos ⟨Or.inl h4, hd⟩]; rfl) (by omega)
          | false =>
            rw [if_neg (by simp), if_pos (by omega), if_pos (by omega), hi]
            exact fin _ k (by unfold talAt; rw [if_neg h2, if_neg (by rw [ha]; simp), if_neg (by rw [hd]; simp)]; rfl) (by omega)
      · rw [if_neg h4]
        simp only [typing_counted.j1, hlen, hrz]
        rw [if_neg (by simp), if_neg h4]
        by_cases h6 : n.f0 ≥ 6
        · rw [if_pos h6]
          by_cases h9 : n.f0 ≤ 9
          · rw [if_pos h9]
            obtain ⟨b1, b2, b3, b4⟩ := hb (by omega) (by omega) (by omega)
            rw [against_is ns n 3 19 b1 (by omega) b3 (by omega), Option.bind_some]
            cases hd : agP ns n 3 19 with
            | true =>
              rw [if_pos rfl, if_pos (by omega), if_pos (by omega), hi]
              exact fin _ k (by unfold talAt; rw [if_neg h2, if_neg (fun h => h4 h.1), if_pos ⟨Or.inr ⟨h6, h9⟩, hd⟩]; rfl) (by omega)
            | false =>
              rw [if_neg (by simp), if_pos (by omega), if_pos (by omega), hi]
              exact fin _ k (by unfold talAt; rw [if_neg h2, if_neg (fun h => h4 h.1), if_neg (by rw [hd]; simp)]; rfl) (by omega)
          · rw [if_neg h9, if_pos (by omega), if_pos (by omega), hi]
            exact fin _ k (by unfold talAt; rw [if_neg h2, if_neg (fun h => h4 h.1), if_neg (by omega)]; rfl) (by omega)
        · rw [if_neg h6, if_pos (by omega), if_pos (by omega), hi]
          exact fin _ k (by unfold talAt; rw [if_neg h2, if_neg (fun h => h4 h.1), if_neg (by omega)]; rfl) (by omega)
end Go.Proofs.YtoamflnkaaconaaDoor.X

namespace Go.Proofs.YtoamflnkaaconaaDoor.X
set_option linter.unusedVariables false
set_option linter.unusedSimpArgs false
open Go.Proofs.YtoamflnkaaconaaDoorW.PrintWords Go.RowKit

def tallyP (ns : List S37) (m : Nat) : S74 := rd_T74 (talN ns (m + 1)) m
theorem counted_is (ns : List S37) (hok : okL (tys ns) = true) (wh : Int) (h0 : 0 ≤ wh) (hw : wh < ns.length) (hl : ns.length < 2513169434916) (k : Nat) (hk : 2 * ns.length + 1 ≤ k) :
    typing_counted.f k ns wh = some ((tallyP ns wh.toNat).f0, (tallyP ns wh.toNat).f1, (tallyP ns wh.toNat).f2) := by
  obtain ⟨m, rfl⟩ : ∃ m : Nat, wh = m := ⟨wh.toNat, by omega⟩
  unfold typing_counted.f
  have ew : wrap64 ((m : Int) + 1) = ((m + 1 : Nat) : Int) := by rw [wrap_id (by omega) (by omega)]; omega
  rw [ew, if_pos (by omega), if_pos (by omega), if_pos (by omega), Option.bind_some]
  have := counted_l0 ns hok m (by omega) hl (m + 1) 0 k (by omega) (by omega)
  simp only [talN, List.nil_append] at this
  have hti : (List.take ((m + 1 : Nat) : Int).toNat ns).length = m + 1 := by rw [List.length_take]; omega
  have e3 : ((m + 1 : Nat) : Int).toNat = m + 1 := by omega
  simp only [e3, Int.toNat_natCast]
  rw [show (List.take (m + 1) ns).length = m + 1 by rw [List.length_take]; omega]
  exact this
/-- are all aggregates sums of the amount? -/
def bareP (ns : List S37) (sh : List S47) : Bool := sh.all fun a => a.f0 == 2 && (rd_T37 ns a.f1).f0 == 16 && (rd_T37 ns a.f1).f3 == 7
def ShOk (ns : List S37) (sh : List S47) : Prop := ∀ a ∈ sh, a.f0 = 2 → 0 ≤ a.f1 ∧ a.f1 < ns.length
theorem rd47_drop (sh : List S47) (i : Nat) (h : i < sh.length) : sh.drop i = rd_T47 sh (i : Int) :: sh.drop (i + 1) := by
  unfold rd_T47
  rw [List.drop_eq_getElem_cons h]
  simp [List.getD, h]
theorem rd47_mem (sh : List S47) (i : Nat) (h : i < sh.length) : rd_T47 sh (i : Int) ∈ sh := by
  unfold rd_T47
  have : sh.getD (i : Int).toNat z47 = sh[i] := by simp [List.getD, h]
  rw [this]; exact List.getElem_mem h
theorem bare_l0 (ns : List S37) (wh : Int) (by_ : List Int) (sh : List S47) (os : List S69) (lim : Int) (hs : ShOk ns sh) (hl : sh.length < 8796093022208) : ∀ (d i k : Nat), i + d = sh.length → d + 1 ≤ k →
    typing_bare.l0 k sh (sh.length : Int) (i : Int) ns wh by_ sh os lim = some (bareP ns (sh.drop i))
  | 0, i, k, h, hk => by
    obtain ⟨k, rfl⟩ : ∃ j, k = j + 1 := ⟨k - 1, by omega⟩
    simp only [typing_bare.l0]
    rw [if_neg (by omega), List.drop_eq_nil_of_le (by omega)]; rfl
  | d + 1, i, k, h, hk => by
    obtain ⟨k, rfl⟩ : ∃ j, k = j + 1 := ⟨k - 1, by omega⟩
    have ih := bare_l0 ns wh by_ sh os lim hs hl d (i + 1) k (by omega) (by omega)
    have ew : wrap64 ((i : Int) + 1) = ((i + 1 : Nat) : Int) := by rw [wrap_id (by omega) (by omega)]; omega
    simp only [typing_bare.l0]
    rw [if_pos (by omega), if_pos (by omega), if_pos (by omega), rd47_drop sh i (by omega), ew, ih]
    have hm := hs _ (rd47_mem sh i (by omega))
    obtain ⟨a, ha⟩ : ∃ a, rd_T47 sh (i : Int) = a := ⟨_, rfl⟩
    rw [ha] at hm ⊢
    simp only [bareP, List.all_cons]
    by_cases c1 : a.f0 = 2
    · obtain ⟨m1, m2⟩ := hm c1
      rw [if_pos c1, if_pos m1, if_pos m2]
      by_cases c2 : (rd_T37 ns a.f1).f0 = 16
      · rw [if_pos c2]
        by_cases c3 : (rd_T37 ns a.f1).f3 = 7
        · rw [if_pos c3]; simp [c1, c2, c3]
        · rw [if_neg c3]; simp [c3]
      · rw [if_neg c2]; simp [c2]
    · rw [if_neg c1]; simp [c1]
theorem bare_is (ns : List S37) (wh : Int) (by_ : List Int) (sh : List S47) (os : List S69) (lim : Int) (hs : ShOk ns sh) (hl : sh.length < 8796093022208) (k : Nat) (hk : sh.length + 1 ≤ k) :
    typing_bare.f k ns wh by_ sh os lim = some (by_.isEmpty && bareP ns sh) := by
  unfold typing_bare.f
  cases by_ with
  | nil =>
    rw [if_neg (by simp)]
    have := bare_l0 ns wh [] sh os lim hs hl sh.length 0 k (by omega) (by omega)
    simpa using this
  | cons b bs => rw [if_pos (by rw [List.length_cons]; omega)]; rfl
theorem all_l0 (ns : List S37) (wh : Int) (by_ : List Int) (sh : List S47) (os : List S69) (lim : Int) (hs : ShOk ns sh) (hl : sh.length < 8796093022208) : ∀ (d i k : Nat), i + d = sh.length → d + 1 ≤ k →
    daybooklaw14_all.l0 k (i : Int) ns wh by_ sh os lim = some (bareP ns (sh.drop i))
  | 0, i, k, h, hk => by
    obtain ⟨k, rfl⟩ : ∃ j, k = j + 1 := ⟨k - 1, by omega⟩
    simp only [daybooklaw14_all.l0]
    rw [if_neg (by omega), List.drop_eq_nil_of_le (by omega)]; rfl
  | d + 1, i, k, h, hk => by
    obtain ⟨k, rfl⟩ : ∃ j, k = j + 1 := ⟨k - 1, by omega⟩
    have ih := all_l0 ns wh by_ sh os lim hs hl d (i + 1) k (by omega) (by omega)
    have ew : wrap64 ((i : Int) + 1) = ((i + 1 : Nat) : Int) := by rw [wrap_id (by omega) (by omega)]; omega
    simp only [daybooklaw14_all.l0]
    rw [if_pos (by omega), if_pos (by omega), rd47_drop sh i (by omega), ew, ih]
    have hm := hs _ (rd47_mem sh i (by omega))
    obtain ⟨a, ha⟩ : ∃ a, rd_T47 sh (i : Int) = a := ⟨_, rfl⟩
    rw [ha] at hm ⊢
    simp only [bareP, List.all_cons]
    by_cases c1 : a.f0 = 2
    · obtain ⟨m1, m2⟩ := hm c1
      rw [if_pos c1, if_pos m1, if_pos m2]
      by_cases c2 : (rd_T37 ns a.f1).f0 = 16
      · rw [if_pos c2]
        by_cases c3 : (rd_T37 ns a.f1).f3 = 7
        · rw [if_pos c3]; simp [c1, c2, c3]
        · rw [if_neg c3]; simp [c3]
      · rw [if_neg c2]; simp [c2]
    · rw [if_neg c1]; simp [c1]
/-- the way of a query that means something -/
def wayP (ns : List S37) (wh : Int) (by_ : List Int) (sh : List S47) : Int :=
  if (by_.isEmpty && bareP ns sh) = false then 1
  else if wh = -1 then 2
  else if ((rd_T37 ns wh).f0 = 4 ∨ (rd_T37 ns wh).f0 = 10) ∧ agP ns (rd_T37 ns wh) 6 18 = true then 2
  else if (tallyP ns wh.toNat).f0 = 1 ∧ (tallyP ns wh.toNat).f1 > 0 ∧ (tallyP ns wh.toNat).f2 = 0 then 3 else 1
def planP (ns : List S37) (wh : Int) (by_ : List Int) (sh : List S47) (os : List S69) (lim : Int) : Int := if (chkP ns wh by_ sh os lim).2 = 0 then wayP ns wh by_ sh else 1
theorem chk_zero {ns : List S37} {wh : Int} {by_ : List Int} {sh : List S47} {os : List S69} {lim : Int} (h : (chkP ns wh by_ sh os lim).2 = 0) :
    okL (tys ns) = true ∧ (wh = -1 ∨ 0 ≤ wh ∧ wh < ns.length) ∧ ShOk ns sh ∧ okL (colsP (tys ns) by_ sh) = true ∧ badP (tys ns) wh sh lim = false ∧ ordP (colsP (tys ns) by_ sh).length os = true ∧ (chkP ns wh by_ sh os lim).1 = colsP (tys ns) by_ sh := by
  unfold chkP at h ⊢
  split at h
  · simp at h
  · rename_i h1
    rw [if_neg h1]
    split at h
    · rename_i h2
      rw [if_pos h2]
      have a : okL (tys ns) = true := by cases e : okL (tys ns) with | true => rfl | false => exact absurd (Or.inl e) h1
      have b : badP (tys ns) wh sh lim = false := by cases e : badP (tys ns) wh sh lim with | false => rfl | true => exact absurd (Or.inr e) h1
      refine ⟨a, ?_, ?_, h2.1, b, h2.2, rfl⟩
      · unfold badP at b
        simp only [Bool.or_eq_false_iff, Bool.and_eq_false_iff] at b
        rcases b.1.1 with c | c
        · left; simpa using c
        · right
          have c' : atL (tys ns) wh = 4 := by simpa using c
          have := atL_range (show atL (tys ns) wh ≠ 0 by rw [c']; decide)
          rw [tys_len] at this; exact this
      · intro x hx h2x
        have ho := h2.1
        unfold colsP okL at ho
        rw [List.all_append, Bool.and_eq_true] at ho
        have := List.all_eq_true.1 ho.2 _ (List.mem_map.2 ⟨x, hx, rfl⟩)
        have h3 : atL (tys ns) x.f1 ≠ 0 := by
          intro e
          rw [e] at this
          unfold colP at this
          simp [h2x] at this
        have := atL_range h3
        rw [tys_len] at this; exact this
    · simp at h
theorem plan_is (ns : List S37) (wh : Int) (by_ : List Int) (sh : List S47) (os : List S69) (lim : Int) (hn : ns.length < 2513169434916) (hs : sh.length < 8796093022208) (h23 : by_.length + sh.length < 28147497670000)
    (k : Nat) (hk : 2 * ns.length + sh.length + 4 ≤ k) : typing_Plan.f k ns wh by_ sh os lim = some (planP ns wh by_ sh os lim) := by
  have e1 : typing_Check.f ns wh by_ sh os lim = some (chkP ns wh by_ sh os lim) := by unfold typing_Check.f; rw [if_pos ⟨by omega, h23⟩]
  unfold typing_Plan.f planP
  rw [e1, Option.bind_some]
  obtain ⟨k, rfl⟩ : ∃ j, k = j + 1 := ⟨k - 1, by omega⟩
  by_cases h0 : (chkP ns wh by_ sh os lim).2 = 0
  · rw [if_pos h0, if_pos h0]
    obtain ⟨hok, hw, hsh, _⟩ := chk_zero h0
    rw [bare_is ns wh by_ sh os lim hsh hs (k + 1) (by omega), Option.bind_some]
    simp only [typing_Plan.j0, wayP]
    cases hb : (by_.isEmpty && bareP ns sh) with
    | false => rfl
    | true =>
      rw [if_neg (show ¬ ((!true) = true) by simp), if_neg (show ¬ (true = false) by simp)]
      by_cases hm : wh = -1
      · rw [if_pos hm, if_pos hm]
      · rw [if_neg hm, if_neg hm]
        obtain ⟨w0, w1⟩ : 0 ≤ wh ∧ wh < ns.length := by rcases hw with h | h; exact absurd h hm; exact h
        rw [if_pos w0, if_pos w1]
        have hbr := bin_range hok wh w0 w1
        obtain ⟨k, rfl⟩ : ∃ j, k = j + 1 := ⟨k - 1, by omega⟩
        have hc := counted_is ns hok wh w0 w1 hn k (by omega)
        obtain ⟨t, ht⟩ : ∃ t, tallyP ns wh.toNat = t := ⟨_, rfl⟩
        rw [ht] at hc ⊢
        obtain ⟨n, hn⟩ : ∃ n, rd_T37 ns wh = n := ⟨_, rfl⟩
        rw [hn] at hbr ⊢
        have tail : (if t.f0 = 1 then if t.f1 > 0 then if t.f2 = 0 then some (3 : Int) else some 1 else some 1 else some 1) = some (if t.f0 = 1 ∧ t.f1 > 0 ∧ t.f2 = 0 then 3 else 1) := by
          by_cases a : t.f0 = 1
          · by_cases b : t.f1 > 0
            · by_cases c : t.f2 = 0
              · simp [a, b, c]
              · simp [a, b, c]
            · simp [a, b]
          · simp [a]
        simp only [typing_Plan.j1, hc, Option.bind_some]
        by_cases h4 : n.f0 = 4
        · rw [if_pos h4]
          obtain ⟨b1, b2, b3, b4⟩ := hbr (by omega) (by omega) (by omega)
          rw [against_is ns n 6 18 b1 (by omega) b3 (by omega), Option.bind_some]
          cases ha : agP ns n 6 18 with
          | true => rw [if_pos rfl, if_pos ⟨Or.inl h4, rfl⟩]
          | false => rw [if_neg (show ¬ (false = true) by simp), if_neg (show ¬ ((n.f0 = 4 ∨ n.f0 = 10) ∧ false = true) by simp)]; exact tail
        · rw [if_neg h4]
          by_cases h10 : n.f0 = 10
          · rw [if_pos h10]
            obtain ⟨b1, b2, b3, b4⟩ := hbr (by omega) (by omega) (by omega)
            rw [against_is ns n 6 18 b1 (by omega) b3 (by omega), Option.bind_some]
            cases ha : agP ns n 6 18 with
            | true => rw [if_pos rfl, if_pos ⟨Or.inr h10, rfl⟩]
            | false => rw [if_neg (show ¬ (false = true) by simp), if_neg (show ¬ ((n.f0 = 4 ∨ n.f0 = 10) ∧ false = true) by simp)]; exact tail
          · rw [if_neg h10, if_neg (show ¬ (false = true) by simp), if_neg (show ¬ ((n.f0 = 4 ∨ n.f0 = 10) ∧ agP ns n 6 18 = true) from fun h => h.1.elim h4 h10)]; exact tail
  · rw [if_neg h0, if_neg h0]
    simp only [typing_Plan.j0, if_true]
end Go.Proofs.YtoamflnkaaconaaDoor.X
