/- How the arguments of a statement read: a slice of items; and how a statement is closed that only makes memory. -/
import Derived.Test.YtiikdpfbbcnplaaRows
import Derived.Test.YtiikdpfbbcnplaaData
import Derived.ProofKit
import Derived.Deep.Slices
namespace Go.Proofs.Ytiikdpfbbcnplaa
set_option maxRecDepth 100000
open Go.ChangeShapes Go.WideShapes Go.ChangeAt Go.RowKit

theorem flat_get {k : Nat} {rows : List (List Value)} (hk : ∀ r ∈ rows, r.length = k) {j : Nat} {u : Value} (h : rows.flatten[j]? = some u) : ∃ i r m, rows[i]? = some r ∧ r[m]? = some u ∧ m < k ∧ j = i * k + m := by
  induction rows generalizing j with
  | nil => simp at h
  | cons r rows ih =>
    rw [List.flatten_cons] at h
    have hr : r.length = k := hk r (by simp)
    by_cases hj : j < k
    · rw [List.getElem?_append_left (by omega)] at h
      exact ⟨0, r, j, rfl, h, hj, by simp⟩
    · rw [List.getElem?_append_right (by omega)] at h
      obtain ⟨i, r', m, h1, h2, h3, h4⟩ := ih (fun r hr => hk r (by simp [hr])) h
      exact ⟨i + 1, r', m, by simpa using h1, h2, h3, by rw [Nat.add_mul]; omega⟩

theorem flat_len {k : Nat} {rows : List (List Value)} (hk : ∀ r ∈ rows, r.length = k) : rows.flatten.length = rows.length * k := by
  induction rows with
  | nil => simp
  | cons r rows ih => rw [List.flatten_cons, List.length_append, ih (fun r hr => hk r (by simp [hr])), hk r (by simp), List.length_cons, Nat.add_mul]; omega

theorem mapM_get {β : Type} {f : Nat → Option β} {n : Nat} {l : List β} (h : (List.range n).mapM f = some l) : l.length = n ∧ ∀ i, i < n → f i = l[i]? := by
  refine ⟨by simpa using mapM_some_length h, fun i hi => ?_⟩
  exact mapM_some_get h i i (by simp [hi])

section
variable {H : Type} {enc : TypeId × Value → H} {P : Program} {w : World} {base : Nat} {spare : Nat → Bool} {held : Bool}

theorem cells_get {a : Addr} {n : Nat} {cs : List Value} (h : w.cells? base a n = some cs) : cs.length = n ∧ ∀ j, j < n → w.cell? (a.add j) = cs[j]? := by
  unfold World.cells? at h
  split at h
  · exact mapM_get h
  · cases h

/-- A slice that came in: its rows, and what each reads as. -/
theorem read_slice {α : Type} {t e k : Nat} (ht : P.underlying t = some (.slice e)) (hk : P.cellsOf e = k) (hpos : 0 < k) (R : List Value → α → Prop)
    (hel : ∀ (n : Nat) (cs : List Value) (x : DataW H × List MemPlace), cs.length = k → DataW.trod enc P w base spare held n e cs = some x → ∃ a, R cs a)
    {fuel : Nat} {cs : List Value} {x : DataW H × List MemPlace} (h : DataW.trod enc P w base spare held fuel t cs = some x) :
    ∃ (v : Value) (rows : List (List Value)) (xs : List α), cs = [v] ∧ Sl w k v rows.length rows.flatten ∧ (∀ r ∈ rows, r.length = k) ∧ All2 R rows xs := by
  rcases Deep.open_slice ht h with ⟨rfl, _⟩ | ⟨a, len, cap, m, n, D, Pl, rfl, hb, hl, hm, hmm, _, hi⟩
  · exact ⟨_, [], [], rfl, Sl.nil w k, by simp, trivial⟩
  · have hlm : len ≤ m := by rw [hmm]; split <;> omega
    have hi' : ∀ i, i < len → ∃ y : List Value × α, y.1.length = k ∧ (∀ j, j < k → w.cell? (a.add (i * k + j)) = y.1[j]?) ∧ R y.1 y.2 := by
      intro i hlt
      obtain ⟨cs', h1, h2⟩ := hi i (by omega)
      rw [hk] at h1
      obtain ⟨g1, g2⟩ := cells_get h1
      obtain ⟨y, hy⟩ := hel n cs' _ g1 h2
      exact ⟨(cs', y), g1, fun j hj => by rw [← g2 j hj, Deep.add_add], hy⟩
    cases len with
    | zero => exact ⟨_, [], [], rfl, ⟨by simp, some a, cap, rfl, hl, hm, fun h => (by cases h), fun j u h => by simp at h⟩, by simp, trivial⟩
    | succ len =>
      haveI : Inhabited (List Value × α) := ⟨Classical.choose (hi' 0 (by omega))⟩
      obtain ⟨f, hf⟩ := Deep.choose_lt hi'
      refine ⟨_, (List.range (len + 1)).map (fun i => (f i).1), (List.range (len + 1)).map (fun i => (f i).2), rfl, ?_, ?_, ?_⟩
      · have hrk : ∀ r ∈ (List.range (len + 1)).map (fun i => (f i).1), r.length = k := by
          intro r hr
          obtain ⟨i, hi2, rfl⟩ := List.mem_map.1 hr
          exact (hf i (List.mem_range.1 hi2)).1
        have hspot : a.spot = none := by
          obtain ⟨b, o, s⟩ := a
          have h0 := (hf 0 (by omega)).2.1 0 hpos
          have hlen0 := (hf 0 (by omega)).1
          rw [List.getElem?_eq_getElem (by omega)] at h0
          simp only [Nat.zero_mul, Nat.zero_add, Addr.add, if_true] at h0
          cases s with
          | none => rfl
          | some s => unfold World.cell? at h0; split at h0 <;> simp at h0
        obtain ⟨b, o, s⟩ := a
        simp only at hspot
        subst hspot
        rw [List.length_map, List.length_range]
        refine ⟨by simpa using flat_len hrk, _, cap, rfl, hl, hm, fun h => (by cases h), fun j u hj => ?_⟩
        obtain ⟨i, r, m', h1, h2, h3, rfl⟩ := flat_get hrk hj
        rw [List.getElem?_map] at h1
        have hlt : i < len + 1 := by
          rcases Nat.lt_or_ge i (len + 1) with h | h
          · exact h
          · rw [List.getElem?_eq_none (by simpa using h)] at h1; simp at h1
        rw [List.getElem?_eq_getElem (by simpa using hlt)] at h1
        simp only [List.getElem_range, Option.map_some, Option.some.injEq] at h1
        subst h1
        refine ⟨b, o, rfl, ?_⟩
        have := (hf i hlt).2.1 m' h3
        rw [h2] at this
        have hadd : (⟨b, o, none⟩ : Addr).add (i * k + m') = ⟨b, o + (i * k + m'), none⟩ := by unfold Addr.add; split <;> simp_all
        rw [hadd] at this
        exact this
      · intro r hr
        obtain ⟨i, hi2, rfl⟩ := List.mem_map.1 hr
        exact (hf i (List.mem_range.1 hi2)).1
      · exact All2.map _ _ _ fun i hi2 => (hf i (List.mem_range.1 hi2)).2.2
end

section
variable {H : Type} {enc : TypeId × Value → H} {w : World} {base : Nat} {spare : Nat → Bool} {held : Bool}

/-- An item's numbers are in the range of their kinds. -/
def Item.wf (x : Item) : Prop := (0 ≤ x.p ∧ x.p ≤ 255) ∧ (-9223372036854775808 ≤ x.t ∧ x.t ≤ 9223372036854775807) ∧ (-9223372036854775808 ≤ x.c ∧ x.c ≤ 9223372036854775807)

theorem read_item (n : Nat) (cs : List Value) (x : DataW H × List MemPlace) (hl : cs.length = 3) (h : DataW.trod enc Try.prog w base spare held n 103 cs = some x) : ∃ a : Item, cs = a.row ∧ a.wf := by
  have c8 : Try.prog.cellsOf 5 = 1 := by kernel_rfl
  have c64 : Try.prog.cellsOf 3 = 1 := by kernel_rfl
  obtain ⟨xs, m, rfl, rfl, _, hx, hf⟩ := DataW.trod_struct Try.underlying103 h
  match cs, hl with
  | [c0, c1, c2], _ =>
    have f0 : DataW.trod enc Try.prog w base spare held m 5 (([c0, c1, c2].drop 0).take (Try.prog.cellsOf 5)) = xs[0]? := hf 0 _ rfl
    have f1 : DataW.trod enc Try.prog w base spare held m 3 (([c0, c1, c2].drop 1).take (Try.prog.cellsOf 3)) = xs[1]? := hf 1 _ rfl
    have f2 : DataW.trod enc Try.prog w base spare held m 3 (([c0, c1, c2].drop 2).take (Try.prog.cellsOf 3)) = xs[2]? := hf 2 _ rfl
    rw [c8] at f0
    rw [c64] at f1 f2
    match xs, hx with
    | [y0, y1, y2], _ =>
      obtain ⟨p, e0, _, w0⟩ := DataW.trod_int Try.underlying5 f0
      obtain ⟨t, e1, _, w1⟩ := DataW.trod_int Try.underlying3 f1
      obtain ⟨c, e2, _, w2⟩ := DataW.trod_int Try.underlying3 f2
      simp at e0 e1 e2
      subst e0 e1 e2
      refine ⟨⟨p, t, c⟩, rfl, ?_, ?_, ?_⟩
      · simpa [Lit.wf, IntKind.min, IntKind.max, IntKind.signed, IntKind.bits] using w0
      · simpa [Lit.wf, IntKind.min, IntKind.max, IntKind.signed, IntKind.bits] using w1
      · simpa [Lit.wf, IntKind.min, IntKind.max, IntKind.signed, IntKind.bits] using w2

theorem rows_of_items : ∀ {rows : List (List Value)} {l : List Item}, All2 (fun cs (a : Item) => cs = a.row ∧ a.wf) rows l → rows.flatten = l.flatMap Item.row ∧ ∀ a ∈ l, a.wf
  | [], [], _ => ⟨rfl, fun _ h => by cases h⟩
  | r :: rows, a :: l, h => by
    obtain ⟨h1, h2⟩ := rows_of_items h.2
    refine ⟨by rw [List.flatten_cons, List.flatMap_cons, h1, h.1.1], fun b hb => ?_⟩
    rcases List.mem_cons.1 hb with rfl | hb
    · exact h.1.2
    · exact h2 b hb

theorem read_items {t : Nat} (ht : Try.prog.underlying t = some (.slice 103)) {n : Nat} {cs : List Value} {x : DataW H × List MemPlace} (h : DataW.trod enc Try.prog w base spare held n t cs = some x) :
    ∃ (v : Value) (l : List Item), cs = [v] ∧ Its w v l ∧ ∀ a ∈ l, a.wf := by
  obtain ⟨v, rows, l, rfl, hs, _, ha⟩ := read_slice (k := 3) ht (by kernel_rfl) (by omega) (fun cs (a : Item) => cs = a.row ∧ a.wf) (fun n cs x hl h => read_item n cs x hl h) h
  obtain ⟨e, hw⟩ := rows_of_items ha
  refine ⟨v, l, rfl, ?_, hw⟩
  unfold Its
  rw [← e, ← ha.length]
  exact hs

theorem open_items {t : Nat} (ht : Try.prog.underlying t = some (.slice 103)) {r : Reach} {b0 : Nat} {v : Value} {d : DataW H} {p : List MemPlace} (hv : Value.okWide Try.prog w r b0 t v) (h : DataW.Trod enc Try.prog w base spare held t v d p) :
    ∃ l : List Item, Its w v l ∧ ∀ a ∈ l, a.wf := by
  obtain ⟨a0, len, cap, rfl⟩ := okWide_slice ht hv
  obtain ⟨n, hn⟩ := h
  obtain ⟨u, l, e, hl, hw⟩ := read_items ht hn
  simp only [Value.cells, List.cons.injEq, and_true] at e
  subst e
  exact ⟨l, hl, hw⟩

theorem open_item {r : Reach} {b0 : Nat} {v : Value} {d : DataW H} {p : List MemPlace} (hv : Value.okWide Try.prog w r b0 103 v) (h : DataW.Trod enc Try.prog w base spare held 103 v d p) :
    ∃ x : Item, v = x.val ∧ x.wf := by
  obtain ⟨cs, rfl, hsz⟩ := okWide_struct Try.underlying103 hv
  have hc : Try.prog.cellsOf 103 = 3 := by kernel_rfl
  obtain ⟨n, hn⟩ := h
  obtain ⟨x, e, hw⟩ := read_item n _ _ (by simp only [Value.cells, Array.length_toList]; exact hsz.trans hc) hn
  refine ⟨x, ?_, hw⟩
  unfold Item.val
  congr 1
  apply Array.toList_inj.1
  simpa [Value.cells, Item.row] using e
end

end Go.Proofs.Ytiikdpfbbcnplaa
