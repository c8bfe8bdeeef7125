/- Arguments opened by their kinds: what reads as data of a type is a value of the kind, with its bounds. -/
import Derived.Test.YtoamflnkaaconaaDoorWWords
import Derived.Test.YtoamflnkaaconaaDoorWLast
import Derived.Test.YtoamflnkaaconaaDoorWMore
import Derived.ChangeArms
import Derived.SizedLaws
import Derived.WideShapes
import Derived.WalkKit
import Derived.FnData
import Derived.Lib.LaidTab
namespace Go.Proofs.YtoamflnkaaconaaDoor.X
set_option linter.unusedVariables false
set_option linter.unusedSimpArgs false
open Go.RowKit Go.Proofs.YtoamflnkaaconaaDoorW.PrintWords Go.Proofs.YtoamflnkaaconaaDoorW.PrintLast Go.WideShapes

/-- what reads as data of type t is a value of kind d -/
structure Opens (P : Program) {α : Type} (d : Kd α) (t : TypeId) (ok : α → Prop) : Prop where
  cells : P.cellsOf t = d.sz
  op : ∀ {H : Type} {enc : TypeId × Value → H} {w : World} {base : Nat} {sp : Nat → Bool} {held : Bool} {fuel : Nat} {cs : List Value} {x : DataW H × List MemPlace},
    DataW.trod enc P w base sp held fuel t cs = some x → (x.1.weights P t).all (· ≤ reachBytes) = true → ∃ a, d.K w a cs ∧ ok a
section
variable {P : Program}
theorem Opens.int {k : IntKind} {t : TypeId} (hu : P.underlying t = some (.int k)) (hc : P.cellsOf t = 1) : Opens P (Kd.int k) t (fun n => (Lit.int k n).wf = true) :=
  ⟨hc, fun h _ => by obtain ⟨n, rfl, _, hw⟩ := DataW.trod_int hu h; exact ⟨n, rfl, hw⟩⟩
theorem Opens.bool {t : TypeId} (hu : P.underlying t = some .bool) (hc : P.cellsOf t = 1) : Opens P Kd.bool t (fun _ => True) :=
  ⟨hc, fun h _ => by obtain ⟨b, rfl, _⟩ := DataW.trod_bool hu h; exact ⟨b, rfl, trivial⟩⟩
theorem Opens.string {t : TypeId} (hu : P.underlying t = some .string) (hc : P.cellsOf t = 1) : Opens P Kd.string t (fun s => s.size ≤ 140737488351232) :=
  ⟨hc, fun h hw => by
    obtain ⟨s, rfl, rfl, _⟩ := DataW.trod_string hu h
    refine ⟨s, rfl, ?_⟩
    simp only [DataW.weights, List.all_cons, List.all_nil, Bool.and_true, decide_eq_true_eq] at hw
    exact hw⟩
theorem Opens.iso {α β : Type} {d : Kd α} {t : TypeId} {ok : α → Prop} {ok' : β → Prop} (h : Opens P d t ok) (f : β → α) (g : α → β) (hg : ∀ y, f (g y) = y) (hok : ∀ y, ok y → ok' (g y)) : Opens P (Kd.iso d f) t ok' :=
  ⟨h.cells, fun ht hw => by
    obtain ⟨a, hk, ha⟩ := h.op ht hw
    exact ⟨g a, by show d.K _ (f (g a)) _; rw [hg]; exact hk, hok a ha⟩⟩
/-- the fields of a struct from one on -/
structure OpensF (P : Program) {α : Type} (d : Kd α) (fs : List Field) (off : Nat) (ok : α → Prop) : Prop where
  op : ∀ {H : Type} {enc : TypeId × Value → H} {w : World} {base : Nat} {sp : Nat → Bool} {held : Bool} {fuel : Nat} {cs : List Value} {xs : List (DataW H × List MemPlace)},
    cs.length = off + d.sz → xs.length = fs.length → (∀ (i : Nat) (f : Field), fs[i]? = some f → DataW.trod enc P w base sp held fuel f.type ((cs.drop f.offset).take (P.cellsOf f.type)) = xs[i]?) →
    (DataW.weightsEach P (fs.map (·.type)) (xs.map (·.1))).all (· ≤ reachBytes) = true → ∃ a, d.K w a (cs.drop off) ∧ ok a
theorem OpensF.one {α : Type} {d : Kd α} {f : Field} {off : Nat} {ok : α → Prop} (ho : f.offset = off) (h : Opens P d f.type ok) : OpensF P d [f] off ok :=
  ⟨fun {H enc w base sp held fuel cs xs} hl hx hr hw => by
    obtain ⟨x, rfl⟩ : ∃ x, xs = [x] := by
      match xs, hx with
      | [x], _ => exact ⟨x, rfl⟩
    have h0 := hr 0 f rfl
    rw [ho, h.cells, List.take_of_length_le (by rw [List.length_drop]; omega)] at h0
    refine h.op (by simpa using h0) ?_
    simpa [DataW.weightsEach] using hw⟩
theorem OpensF.more {α β : Type} {d : Kd α} {e : Kd β} {f : Field} {fs : List Field} {off : Nat} {ok : α → Prop} {ok' : β → Prop} (ho : f.offset = off) (h : Opens P d f.type ok) (hs : OpensF P e fs (off + d.sz) ok') :
    OpensF P (Kd.pair d e) (f :: fs) off (fun p => ok p.1 ∧ ok' p.2) :=
  ⟨fun {H enc w base sp held fuel cs xs} hl hx hr hw => by
    obtain ⟨x, ys, rfl⟩ : ∃ x ys, xs = x :: ys := by
      match xs, hx with
      | x :: ys, _ => exact ⟨x, ys, rfl⟩
    simp only [List.map_cons, DataW.weightsEach, List.all_append, Bool.and_eq_true] at hw
    have hsz : (Kd.pair d e).sz = d.sz + e.sz := rfl
    rw [hsz] at hl
    have h0 := hr 0 f rfl
    rw [ho, h.cells] at h0
    obtain ⟨a, ka, oa⟩ := h.op (by simpa using h0) hw.1
    obtain ⟨b, kb, ob⟩ := hs.op (cs := cs) (xs := ys) (by omega) (by simpa using hx) (fun i g hg => by simpa using hr (i + 1) g (by simpa using hg)) hw.2
    refine ⟨(a, b), ⟨_, _, ?_, ka, kb⟩, oa, ob⟩
    rw [← List.drop_drop, List.take_append_drop]⟩
theorem Opens.struct {α : Type} {d : Kd α} {t : TypeId} {fs : Array Field} {l : List Field} {ok : α → Prop} (hu : P.underlying t = some (.struct fs)) (hl : fs.toList = l) (hc : P.cellsOf t = d.sz) (h : OpensF P d l 0 ok) : Opens P d t ok :=
  ⟨hc, fun {H enc w base sp held fuel cs x} ht hw => by
    obtain ⟨xs, n, _, rfl, hcs, hxl, hr⟩ := DataW.trod_struct hu ht
    have := h.op (H := H) (enc := enc) (w := w) (base := base) (sp := sp) (held := held) (fuel := n) (cs := cs) (xs := xs) (by rw [hcs, hc]; omega) (by rw [hxl, ← hl, Array.length_toList]) (fun i f hf => hr i f (by rw [← hl] at hf; simpa using hf)) (by
      simp only [DataW.weights, hu] at hw
      rw [← hl]; exact hw)
    simpa using this⟩
theorem cells_get {w : World} {base n : Nat} {a : Addr} {cs : List Value} (h : w.cells? base a n = some cs) : cs.length = n ∧ ∀ i u, cs[i]? = some u → w.cell? (a.add i) = some u := by
  unfold World.cells? at h
  split at h
  · have hl := Lib.mapM_length h
    rw [List.length_range] at hl
    refine ⟨hl, fun i u hu => ?_⟩
    have hi : i < n := by have := (List.getElem?_eq_some_iff.1 hu).1; omega
    obtain ⟨b, hb, hf⟩ := Lib.mapM_at h i i (by simp [hi])
    rw [hu] at hb
    rw [hf, hb]
  · cases h
theorem pick {α : Type} (n : Nat) (R : Nat → α → Prop) (h : ∀ i, i < n → ∃ y, R i y) : ∃ ys : List α, ys.length = n ∧ ∀ i y, ys[i]? = some y → R i y := by
  induction n with
  | zero => exact ⟨[], rfl, fun i y hy => by simp at hy⟩
  | succ m ih =>
    obtain ⟨ys, h1, h2⟩ := ih (fun i hi => h i (by omega))
    obtain ⟨y, k⟩ := h m (by omega)
    refine ⟨ys ++ [y], by simp [h1], fun i z hz => ?_⟩
    rcases Nat.lt_or_ge i ys.length with hi | hi
    · exact h2 i z (by rw [List.getElem?_append_left hi] at hz; exact hz)
    · have hlen := (List.getElem?_eq_some_iff.1 hz).1
      rw [List.length_append, List.length_singleton] at hlen
      rw [List.getElem?_append_right hi] at hz
      have e : i = m := by omega
      rw [e, h1, Nat.sub_self] at hz
      simp at hz
      rw [e, ← hz]
      exact k
theorem addr_add_add (a : Addr) (m n : Nat) : (a.add m).add n = a.add (m + n) := by
  unfold Addr.add
  by_cases h1 : m = 0
  · simp [h1]
  · by_cases h2 : n = 0
    · simp [h2]
    · simp [h1, h2, Nat.add_assoc]
theorem Opens.slice {α : Type} {d : Kd α} {t e : TypeId} {B : Nat} {ok : α → Prop} (hu : P.underlying t = some (.slice e)) (hc : P.cellsOf t = 1) (hB : P.bytesOf e = B) (h : Opens P d e ok) :
    Opens P (Kd.slice e d) t (fun xs => xs.length * B ≤ 140737488351232 ∧ ∀ x ∈ xs, ok x) :=
  ⟨hc, fun {H enc w base sp held fuel cs x} ht hw => by
    rcases DataW.trod_slice hu ht with ⟨rfl, _⟩ | ⟨a, len, cap, elems, rest, n, _, rfl, rfl, hba, hlc, hcm, hel, hget, _, _⟩
    · exact ⟨[], ⟨none, 0, rfl, Nat.le_refl _, rfl, Nat.zero_le _, fun h => absurd h (Nat.lt_irrefl 0)⟩, by simp, fun _ h => by cases h⟩
    · simp only [DataW.weights, hu, List.all_cons, List.all_append, Bool.and_eq_true, decide_eq_true_eq, List.length_map] at hw
      obtain ⟨w1, w2, _⟩ := hw
      rw [hB] at w1
      have hwE : ∀ (l : List (DataW H × List MemPlace)), (DataW.weightsAll P e (l.map (·.1))).all (· ≤ reachBytes) = true → ∀ (i : Nat) (y : DataW H × List MemPlace), l[i]? = some y → (y.1.weights P e).all (· ≤ reachBytes) = true := by
        intro l
        induction l with
        | nil => intro _ i y hy; simp at hy
        | cons z l ih =>
          intro hl i y hy
          simp only [List.map_cons, DataW.weightsAll, List.all_append, Bool.and_eq_true] at hl
          cases i with
          | zero => simp at hy; subst hy; exact hl.1
          | succ i => exact ih hl.2 i y (by simpa using hy)
      have each : ∀ i, i < len → ∃ y c, (w.cells? base (a.add (i * P.cellsOf e)) (P.cellsOf e)) = some c ∧ d.K w y c ∧ ok y := fun i hi => by
        have hg := hget i hi
        have hsome : ∃ y, elems[i]? = some y := ⟨_, List.getElem?_eq_getElem (by omega)⟩
        obtain ⟨y, hy⟩ := hsome
        rw [hy] at hg
        obtain ⟨c, hc1, hc2⟩ := Option.bind_eq_some_iff.1 hg
        obtain ⟨z, hz, hok⟩ := h.op hc2 (hwE elems w2 i y hy)
        exact ⟨z, c, hc1, hz, hok⟩
      obtain ⟨ys, hys, hall⟩ : ∃ ys : List α, ys.length = len ∧ ∀ i y, ys[i]? = some y → ∃ c, (w.cells? base (a.add (i * P.cellsOf e)) (P.cellsOf e)) = some c ∧ d.K w y c ∧ ok y := by
        exact pick len _ (fun i hi => by
          obtain ⟨y, c, k1, k2, k3⟩ := each i hi
          exact ⟨y, c, k1, k2, k3⟩)
      refine ⟨ys, ⟨some a, cap, by rw [hys], by omega, rfl, ?_, fun _ => ⟨a, rfl, fun j p hj => ?_⟩⟩, ?_, fun x hx => ?_⟩
      · unfold maxLen at hcm; omega
      · obtain ⟨c, k1, k2, _⟩ := hall j p hj
        rw [h.cells] at k1
        obtain ⟨g1, g2⟩ := cells_get k1
        refine ⟨c, g1, k2, fun i u hu => ?_⟩
        have := g2 i u hu
        rw [addr_add_add] at this
        exact this
      · rw [hys]
        have : len * B ≤ (elems.length + rest.length) * B := Nat.mul_le_mul_right _ (by omega)
        unfold reachBytes at w1
        omega
      · obtain ⟨i, hi⟩ := List.getElem?_of_mem hx
        obtain ⟨c, _, _, ho⟩ := hall i x hi
        exact ho⟩
end
end Go.Proofs.YtoamflnkaaconaaDoor.X
