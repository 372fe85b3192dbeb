/- How the arguments of a statement read: a slice of items; and how a statement is closed that only makes memory. -/
import Derived.Test.YtcklnoefheanlaaRows
import Derived.Test.YtcklnoefheanlaaData
import Derived.ProofKit
import Derived.Deep.Slices
namespace Go.Proofs.Ytcklnoefheanlaa
open Go.ChangeShapes Go.WideShapes Go.ChangeAt Go.RowKit

theorem flat_get {k : Nat} {rows : List (List Value)} (hk : ∀ r ∈ rows, r.length = k) {j : Nat} {u : Value} (h : rows.flatten[j]? = some u) : ∃ i r m, rows[i]? = some r ∧ r[m]? = some u ∧ m < k ∧ j = i * k + m := by
  induction rows generalizing j with
  | nil => simp at h
  | cons r rows ih =>
    rw [List.flatten_cons] at h
    have hr : r.length = k := hk r (by simp)
    by_cases hj : j < k
    · rw [List.getElem?_append_left (by omega)] at h
      exact ⟨0, r, j, rfl, h, hj, by simp⟩
    · rw [List.getElem?_append_right (by omega)] at h
      obtain ⟨i, r', m, h1, h2, h3, h4⟩ := ih (fun r hr => hk r (by simp [hr])) h
      exact ⟨i + 1, r', m, by simpa using h1, h2, h3, by rw [Nat.add_mul]; omega⟩

theorem flat_len {k : Nat} {rows : List (List Value)} (hk : ∀ r ∈ rows, r.length = k) : rows.flatten.length = rows.length * k := by
  induction rows with
  | nil => simp
  | cons r rows ih => rw [List.flatten_cons, List.length_append, ih (fun r hr => hk r (by simp [hr])), hk r (by simp), List.length_cons, Nat.add_mul]; omega

theorem mapM_get {β : Type} {f : Nat → Option β} {n : Nat} {l : List β} (h : (List.range n).mapM f = some l) : l.length = n ∧ ∀ i, i < n → f i = l[i]? := by
  refine ⟨by simpa using mapM_some_length h, fun i hi => ?_⟩
  exact mapM_some_get h i i (by simp [hi])

section
variable {H : Type} {enc : TypeId × Value → H} {P : Program} {w : World} {base : Nat} {spare : Nat → Bool} {held : Bool}

theorem cells_get {a : Addr} {n : Nat} {cs : List Value} (h : w.cells? base a n = some cs) : cs.length = n ∧ ∀ j, j < n → w.cell? (a.add j) = cs[j]? := by
  unfold World.cells? at h
  split at h
  · exact mapM_get h
  · cases h

/-- A slice that came in: its rows, and what each reads as. -/
theorem read_slice {α : Type} {t e k : Nat} (ht : P.underlying t = some (.slice e)) (hk : P.cellsOf e = k) (hpos : 0 < k) (R : List Value → α → Prop)
    (hel : ∀ (n : Nat) (cs : List Value) (x : DataW H × List MemPlace), cs.length = k → DataW.trod enc P w base spare held n e cs = some x → ∃ a, R cs a)
    {fuel : Nat} {cs : List Value} {x : DataW H × List MemPlace} (h : DataW.trod enc P w base spare held fuel t cs = some x) :
    ∃ (v : Value) (rows : List (List Value)) (xs : List α), cs = [v] ∧ Sl w k v rows.length rows.flatten ∧ (∀ r ∈ rows, r.length = k) ∧ All2 R rows xs := by
  rcases Deep.open_slice ht h with ⟨rfl, _⟩ | ⟨a, len, cap, m, n, D, Pl, rfl, hb, hl, hm, hmm, _, hi⟩
  · exact ⟨_, [], [], rfl, Sl.nil w k, by simp, trivial⟩
  · have hlm : len ≤ m := by rw [hmm]; split <;> omega
    have hi' : ∀ i, i < len → ∃ y : List Value × α, y.1.length = k ∧ (∀ j, j < k → w.cell? (a.add (i * k + j)) = y.1[j]?) ∧ R y.1 y.2 := by
      intro i hlt
      obtain ⟨cs', h1, h2⟩ := hi i (by omega)
      rw [hk] at h1
      obtain ⟨g1, g2⟩ := cells_get h1
      obtain ⟨y, hy⟩ := hel n cs' _ g1 h2
      exact ⟨(cs', y), g1, fun j hj => by rw [← g2 j hj, Deep.add_add], hy⟩
    cases len with
    | zero => exact ⟨_, [], [], rfl, ⟨by simp, some a, cap, rfl, hl, hm, fun h => (by cases h), fun j u h => by simp at h⟩, by simp, trivial⟩
    | succ len =>
      haveI : Inhabited (List Value × α) := ⟨Classical.choose (hi' 0 (by omega))⟩
      obtain ⟨f, hf⟩ := Deep.choose_lt hi'
      refine ⟨_, (List.range (len + 1)).map (fun i => (f i).1), (List.range (len + 1)).map (fun i => (f i).2), rfl, ?_, ?_, ?_⟩
      · have hrk : ∀ r ∈ (List.range (len + 1)).map (fun i => (f i).1), r.length = k := by
          intro r hr
          obtain ⟨i, hi2, rfl⟩ := List.mem_map.1 hr
          exact (hf i (List.mem_range.1 hi2)).1
        have hspot : a.spot = none := by
          obtain ⟨b, o, s⟩ := a
          have h0 := (hf 0 (by omega)).2.1 0 hpos
          have hlen0 := (hf 0 (by omega)).1
          rw [List.getElem?_eq_getElem (by omega)] at h0
          simp only [Nat.zero_mul, Nat.zero_add, Addr.add, if_true] at h0
          cases s with
          | none => rfl
          | some s => unfold World.cell? at h0; split at h0 <;> simp at h0
        obtain ⟨b, o, s⟩ := a
        simp only at hspot
        subst hspot
        rw [List.length_map, List.length_range]
        refine ⟨by simpa using flat_len hrk, _, cap, rfl, hl, hm, fun h => (by cases h), fun j u hj => ?_⟩
        obtain ⟨i, r, m', h1, h2, h3, rfl⟩ := flat_get hrk hj
        rw [List.getElem?_map] at h1
        have hlt : i < len + 1 := by
          rcases Nat.lt_or_ge i (len + 1) with h | h
          · exact h
          · rw [List.getElem?_eq_none (by simpa using h)] at h1; simp at h1
        rw [List.getElem?_eq_getElem (by simpa using hlt)] at h1
        simp only [List.getElem_range, Option.map_some, Option.some.injEq] at h1
        subst h1
        refine ⟨b, o, rfl, ?_⟩
        have := (hf i hlt).2.1 m' h3
        rw [h2] at this
        have hadd : (⟨b, o, none⟩ : Addr).add (i * k + m') = ⟨b, o + (i * k + m'), none⟩ := by unfold Addr.add; split <;> simp_all
        rw [hadd] at this
        exact this
      · intro r hr
        obtain ⟨i, hi2, rfl⟩ := List.mem_map.1 hr
        exact (hf i (List.mem_range.1 hi2)).1
      · exact All2.map _ _ _ fun i hi2 => (hf i (List.mem_range.1 hi2)).2.2
end

section
variable {H : Type} {enc : TypeId × Value → H} {w : World} {base : Nat} {spare : Nat → Bool} {held : Bool}

end

end Go.Proofs.Ytcklnoefheanlaa
