/- The program's data as Lean data, and what a value in memory reads as; no program in sight. -/
import Derived.Test.YtiikdpfbbcnplaaLib
namespace Go.Proofs.Ytiikdpfbbcnplaa
set_option maxRecDepth 100000
open Go.RowKit

/-! ### items -/
structure Item where
  p : Int
  t : Int
  c : Int
  deriving DecidableEq

def Item.row (x : Item) : List Value := [.int .u8 x.p, .int .i64 x.t, .int .i64 x.c]
def Item.val (x : Item) : Value := .agg #[.int .u8 x.p, .int .i64 x.t, .int .i64 x.c]
def Its (w : World) (v : Value) (l : List Item) : Prop := Sl w 3 v l.length (l.flatMap Item.row)

theorem rows_len {α : Type} {k : Nat} (f : α → List Value) (hf : ∀ x, (f x).length = k) (l : List α) : (l.flatMap f).length = l.length * k := by
  induction l with
  | nil => simp
  | cons x l ih => rw [List.flatMap_cons, List.length_append, hf, ih, List.length_cons, Nat.add_mul]; omega

theorem rows_get {α : Type} {k : Nat} (f : α → List Value) (hf : ∀ x, (f x).length = k) (l : List α) (i j : Nat) (x : α) (hx : l[i]? = some x) (hj : j < k) : (l.flatMap f)[i * k + j]? = (f x)[j]? := by
  induction l generalizing i with
  | nil => simp at hx
  | cons y l ih =>
    rw [List.flatMap_cons]
    cases i with
    | zero =>
      simp only [List.getElem?_cons_zero, Option.some.injEq] at hx
      subst hx
      rw [List.getElem?_append_left (by rw [hf]; omega)]
      simp
    | succ i =>
      rw [List.getElem?_append_right (by rw [hf, Nat.add_mul]; omega), hf, show (i + 1) * k + j - k = i * k + j by rw [Nat.add_mul]; omega]
      exact ih i (by simpa using hx)

theorem rows_take {α : Type} {k : Nat} (f : α → List Value) (hf : ∀ x, (f x).length = k) (l : List α) (i : Nat) : (l.flatMap f).take (i * k) = (l.take i).flatMap f := by
  induction l generalizing i with
  | nil => simp
  | cons y l ih =>
    cases i with
    | zero => simp
    | succ i =>
      rw [List.flatMap_cons, List.take_succ_cons, List.flatMap_cons, show (i + 1) * k = (f y).length + i * k by rw [hf, Nat.add_mul]; omega, List.take_append, List.take_of_length_le (by omega), Nat.add_sub_cancel_left, ih]

theorem rows_drop {α : Type} {k : Nat} (f : α → List Value) (hf : ∀ x, (f x).length = k) (l : List α) (i : Nat) : (l.flatMap f).drop (i * k) = (l.drop i).flatMap f := by
  induction l generalizing i with
  | nil => simp
  | cons y l ih =>
    cases i with
    | zero => simp
    | succ i =>
      rw [List.flatMap_cons, List.drop_succ_cons, show (i + 1) * k = (f y).length + i * k by rw [hf, Nat.add_mul]; omega, List.drop_append, List.drop_of_length_le (by omega), Nat.add_sub_cancel_left, ih, List.nil_append]

theorem Item.row_len (x : Item) : x.row.length = 3 := rfl
theorem Item.one (l : List Item) : ∀ u ∈ l.flatMap Item.row, u.oneCell' = true := by
  intro u hu
  obtain ⟨x, _, hx⟩ := List.mem_flatMap.1 hu
  simp only [Item.row, List.mem_cons, List.not_mem_nil, or_false] at hx
  rcases hx with rfl | rfl | rfl <;> rfl

theorem Its.ext {w w' : World} {v : Value} {l : List Item} (h : Its w v l) (he : Ext w w') : Its w' v l := Sl.ext h he
theorem Its.nil (w : World) : Its w (.slice none 0 0) [] := Sl.nil w 3
theorem Its.form {w : World} {v : Value} {l : List Item} (h : Its w v l) : ∃ a cap, v = .slice a l.length cap ∧ l.length ≤ cap ∧ cap ≤ maxLen ∧ (a = none → cap = 0) := Sl.slice_form h

/-- The three cells of item i. -/
theorem Its.cell {w : World} {a : Option Addr} {n cap : Nat} {l : List Item} (h : Its w (.slice a n cap) l) {i : Nat} {x : Item} (hx : l[i]? = some x) :
    ∃ b off, a = some ⟨b, off, none⟩ ∧ b < w.heap.size ∧ w.cell? ⟨b, off + i * 3, none⟩ = some (.int .u8 x.p) ∧ w.cell? ⟨b, off + i * 3 + 1, none⟩ = some (.int .i64 x.t) ∧ w.cell? ⟨b, off + i * 3 + 2, none⟩ = some (.int .i64 x.c) := by
  have hi : i < l.length := (List.getElem?_eq_some_iff.1 hx).1
  obtain ⟨b, off, rfl, hb, hc⟩ := Sl.at h (by omega) (by omega : 0 < l.length)
  have g := rows_get Item.row Item.row_len l i
  refine ⟨b, off, rfl, hb, ?_, ?_, ?_⟩
  · have := hc (i * 3 + 0) _ ((g 0 x hx (by omega)).trans rfl)
    simpa using this
  · exact hc (i * 3 + 1) _ ((g 1 x hx (by omega)).trans rfl)
  · exact hc (i * 3 + 2) _ ((g 2 x hx (by omega)).trans rfl)

theorem Its.at {w : World} {a : Option Addr} {n cap : Nat} {l : List Item} (h : Its w (.slice a n cap) l) (hl : 0 < l.length) :
    ∃ b off, a = some ⟨b, off, none⟩ ∧ b < w.heap.size ∧ ∀ (i : Nat) (x : Item), l[i]? = some x → w.cell? ⟨b, off + i * 3, none⟩ = some (.int .u8 x.p) ∧ w.cell? ⟨b, off + i * 3 + 1, none⟩ = some (.int .i64 x.t) ∧ w.cell? ⟨b, off + i * 3 + 2, none⟩ = some (.int .i64 x.c) := by
  obtain ⟨b, off, rfl, hb, -⟩ := h.cell (i := 0) (x := l[0]) (by simp [hl])
  refine ⟨b, off, rfl, hb, fun i x hx => ?_⟩
  obtain ⟨b', off', e, _, h0, h1, h2⟩ := h.cell hx
  simp only [Option.some.injEq, Addr.mk.injEq, and_true] at e
  obtain ⟨rfl, rfl⟩ := e
  exact ⟨h0, h1, h2⟩

theorem Its.take {w : World} {a : Option Addr} {n cap : Nat} {l : List Item} (h : Its w (.slice a n cap) l) (i : Nat) (hi : i ≤ l.length) : Its w (.slice a i cap) (l.take i) := by
  have := Sl.take h i hi
  rw [rows_take Item.row Item.row_len] at this
  unfold Its
  rw [List.length_take, Nat.min_eq_left hi]
  exact this

theorem Its.drop {w : World} {a : Option Addr} {n cap : Nat} {l : List Item} (h : Its w (.slice a n cap) l) (i : Nat) (hi : i ≤ l.length) : Its w (.slice (if cap = i then a else a.map (·.add (i * 3))) (l.length - i) (cap - i)) (l.drop i) := by
  have := Sl.drop h i hi
  rw [rows_drop Item.row Item.row_len] at this
  unfold Its
  rw [List.length_drop]
  exact this

def inB (n : Int) : Bool := decide (0 ≤ n) && decide (n ≤ 1000000)
def Item.ok (x : Item) : Bool := (x.p == 1 || x.p == 2 || x.p == 3 || x.p == 4) && inB x.t && inB x.c
def okS (s : List Item) : Bool := decide (s.length ≤ 600) && s.all Item.ok
/-- The error of a stack. -/
def chk (s : List Item) : Int := if okS s then 0 else 8

/-- The greatest number below n at which p holds. -/
def lastUpTo (p : Nat → Bool) : Nat → Option Nat
  | 0 => none
  | n + 1 => if p n then some n else lastUpTo p n

theorem lastUpTo_is {p : Nat → Bool} : ∀ {n i : Nat}, lastUpTo p n = some i → i < n ∧ p i = true ∧ ∀ j, i < j → j < n → p j = false
  | 0, i, h => by simp [lastUpTo] at h
  | n + 1, i, h => by
    unfold lastUpTo at h
    split at h
    · rename_i hp
      simp only [Option.some.injEq] at h
      subst h
      exact ⟨by omega, hp, fun j h1 h2 => by omega⟩
    · rename_i hp
      obtain ⟨h1, h2, h3⟩ := lastUpTo_is h
      refine ⟨by omega, h2, fun j h4 h5 => ?_⟩
      by_cases e : j = n
      · subst e; simpa using hp
      · exact h3 j h4 (by omega)
theorem lastUpTo_no {p : Nat → Bool} : ∀ {n : Nat}, lastUpTo p n = none → ∀ j, j < n → p j = false
  | 0, _, j, hj => by omega
  | n + 1, h, j, hj => by
    unfold lastUpTo at h
    split at h
    · cases h
    · rename_i hp
      by_cases e : j = n
      · subst e; simpa using hp
      · exact lastUpTo_no h j (by omega)

def grants (tag : Int) (write : Bool) (x : Item) : Bool := x.t == tag && !(write && x.p == 4)
def findAt (s : List Item) (tag : Int) (write : Bool) : Option Nat := lastUpTo (fun i => (s[i]?).any (grants tag write)) s.length

theorem findAt_is {l : List Item} {tag : Int} {write : Bool} {i : Nat} (h : findAt l tag write = some i) : ∃ x, l[i]? = some x ∧ grants tag write x = true ∧ ∀ (j : Nat) (y : Item), i < j → l[j]? = some y → grants tag write y = false := by
  obtain ⟨h1, h2, h3⟩ := lastUpTo_is h
  have hi : l[i]? = some l[i] := by simp [h1]
  rw [hi] at h2
  refine ⟨l[i], hi, by simpa using h2, fun j y hj hy => ?_⟩
  have := h3 j hj (List.getElem?_eq_some_iff.1 hy).1
  rw [hy] at this
  simpa using this
theorem findAt_no {l : List Item} {tag : Int} {write : Bool} (h : findAt l tag write = none) (j : Nat) (y : Item) (hy : l[j]? = some y) : grants tag write y = false := by
  have := lastUpTo_no h j (List.getElem?_eq_some_iff.1 hy).1
  rw [hy] at this
  simpa using this

end Go.Proofs.Ytiikdpfbbcnplaa
