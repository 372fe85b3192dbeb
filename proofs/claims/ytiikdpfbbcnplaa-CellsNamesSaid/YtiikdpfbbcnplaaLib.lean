/- What a slice in memory reads as, which worlds extend which, and what append does to a slice that the call owns; nothing here speaks of the program. -/
import Derived.WalkKit
import Derived.WalkSpells
import Derived.WalkLawsBesides
import Derived.Deep.AppendSrc
import Derived.Lib.Hide
import Derived.Lib.LazyBuf
import Derived.WalkSmall
namespace Go.Proofs.Ytiikdpfbbcnplaa
set_option maxRecDepth 100000
open Go.RowKit

theorem Hid.mk {p : Prop} (h : p) : Hid p := h

/-! ### two lists, element by element -/
def All2 {α β : Type} (R : α → β → Prop) : List α → List β → Prop
  | [], [] => True
  | a :: as, b :: bs => R a b ∧ All2 R as bs
  | _, _ => False
theorem All2.length {α β : Type} {R : α → β → Prop} : ∀ {as : List α} {bs : List β}, All2 R as bs → as.length = bs.length
  | [], [], _ => rfl
  | _ :: _, _ :: _, h => by simp [All2.length h.2]
theorem All2.get {α β : Type} {R : α → β → Prop} {as : List α} {bs : List β} (h : All2 R as bs) {i : Nat} {b : β} (hx : bs[i]? = some b) : ∃ a, as[i]? = some a ∧ R a b := by
  induction as generalizing bs i with
  | nil => cases bs with
    | nil => simp at hx
    | cons b bs => exact h.elim
  | cons a as ih => cases bs with
    | nil => exact h.elim
    | cons b' bs =>
      cases i with
      | zero => simp only [List.getElem?_cons_zero, Option.some.injEq] at hx; subst hx; exact ⟨a, rfl, h.1⟩
      | succ i => simpa using ih h.2 (by simpa using hx)
theorem All2.get' {α β : Type} {R : α → β → Prop} {as : List α} {bs : List β} (h : All2 R as bs) {i : Nat} {a : α} (ha : as[i]? = some a) : ∃ b, bs[i]? = some b ∧ R a b := by
  have hi : i < bs.length := by rw [← h.length]; exact (List.getElem?_eq_some_iff.1 ha).1
  obtain ⟨a', h1, h2⟩ := h.get (List.getElem?_eq_getElem hi)
  rw [ha] at h1
  cases h1
  exact ⟨_, List.getElem?_eq_getElem hi, h2⟩
theorem All2.mono {α β : Type} {R R' : α → β → Prop} (hr : ∀ a b, R a b → R' a b) : ∀ {as : List α} {bs : List β}, All2 R as bs → All2 R' as bs
  | [], [], _ => trivial
  | _ :: _, _ :: _, h => ⟨hr _ _ h.1, All2.mono hr h.2⟩
theorem All2.append {α β : Type} {R : α → β → Prop} {as as' : List α} {bs bs' : List β} (h : All2 R as bs) (h' : All2 R as' bs') : All2 R (as ++ as') (bs ++ bs') := by
  induction as generalizing bs with
  | nil => cases bs with
    | nil => exact h'
    | cons b bs => exact h.elim
  | cons a as ih => cases bs with
    | nil => exact h.elim
    | cons b bs => exact ⟨h.1, ih h.2⟩
theorem All2.map {α β γ : Type} {R : α → β → Prop} (f : γ → α) (g : γ → β) : ∀ (l : List γ), (∀ x ∈ l, R (f x) (g x)) → All2 R (l.map f) (l.map g)
  | [], _ => trivial
  | x :: l, h => ⟨h x (by simp), All2.map f g l fun y hy => h y (by simp [hy])⟩
theorem All2.take {α β : Type} {R : α → β → Prop} : ∀ {as : List α} {bs : List β} (n : Nat), All2 R as bs → All2 R (as.take n) (bs.take n)
  | [], [], n, _ => by simp [All2]
  | _ :: _, _ :: _, 0, _ => trivial
  | _ :: _, _ :: _, n + 1, h => ⟨h.1, All2.take n h.2⟩
theorem All2.drop {α β : Type} {R : α → β → Prop} : ∀ {as : List α} {bs : List β} (n : Nat), All2 R as bs → All2 R (as.drop n) (bs.drop n)
  | [], [], n, _ => by simp [All2]
  | _ :: _, _ :: _, 0, h => h
  | _ :: _, _ :: _, n + 1, h => All2.drop n h.2
theorem All2.set {α β : Type} {R : α → β → Prop} {a : α} {b : β} (hab : R a b) : ∀ {as : List α} {bs : List β} (n : Nat), All2 R as bs → All2 R (as.set n a) (bs.set n b)
  | [], [], n, _ => by simp [All2]
  | _ :: _, _ :: _, 0, h => ⟨hab, h.2⟩
  | _ :: _, _ :: _, n + 1, h => ⟨h.1, All2.set hab n h.2⟩

/-! ### worlds -/
/-- w' extends w: all blocks of w are as they were. -/
def Ext (w w' : World) : Prop := Below w.heap.size w w'
theorem Ext.refl (w : World) : Ext w w := Below.refl _ _
theorem Ext.size {a b : World} (h : Ext a b) : a.heap.size ≤ b.heap.size := Below.size h
theorem Ext.trans {a b c : World} (h : Ext a b) (k : Ext b c) : Ext a c := Below.trans h (Below.mono k h.size)
theorem Ext.alloc {a w : World} (h : Ext a w) (o : Obj) : Ext a (w.alloc o) := Below.alloc h h.size o
theorem Ext.drew {a w : World} (h : Ext a w) : Ext a w.drew := Below.drew h
theorem Ext.drewN {a w : World} (h : Ext a w) (n : Nat) : Ext a (w.drewN n) := below_drewN h n
theorem Ext.setCell {a w : World} (h : Ext a w) {p : Addr} (hp : a.heap.size ≤ p.block) (u : Value) : Ext a (w.setCell p u) := Below.setCell h hp u
theorem Ext.below {B : Nat} {a b c : World} (h : Below B a b) (hB : B ≤ b.heap.size) (k : Ext b c) : Below B a c := Below.trans h (Below.mono k hB)
theorem Ext.blk {a w : World} (h : Ext a w) {b : Nat} (hb : b < a.heap.size) : w.heap[b]? = a.heap[b]? := Below.block h b hb
theorem Ext.cell {a w : World} (h : Ext a w) {p : Addr} {v : Value} (hv : a.cell? p = some v) : w.cell? p = some v :=
  (Below.cell h (World.block_lt_of_cell? a p hv)).trans hv
theorem Ext.cells {W w1 : World} (h : Ext W w1) : (∀ b o, b < W.heap.size → w1.cell? ⟨b, o, none⟩ = W.cell? ⟨b, o, none⟩) ∧ (∀ b o, b < W.heap.size → w1.frozen? ⟨b, o, none⟩ = W.frozen? ⟨b, o, none⟩) :=
  ⟨fun b o hb => Below.cell (p := ⟨b, o, none⟩) h hb, fun b o hb => Below.frozen (p := ⟨b, o, none⟩) h hb⟩
theorem Ext.of_grown {w w' : World} (hg : w.grownBy w' none) : Ext w w' := ⟨hg.os, hg.tape, hg.output, hg.size, fun k hk => hg.block k hk (by simp)⟩

/-! ### slices -/
/-- In w the slice v has n elements of k cells each, and these cells are xs. -/
def Sl (w : World) (k : Nat) (v : Value) (n : Nat) (xs : List Value) : Prop :=
  xs.length = n * k ∧ ∃ a cap, v = .slice a n cap ∧ n ≤ cap ∧ cap ≤ maxLen ∧ (a = none → cap = 0) ∧
    ∀ j u, xs[j]? = some u → ∃ b off, a = some ⟨b, off, none⟩ ∧ w.cell? ⟨b, off + j, none⟩ = some u

theorem Sl.len {w : World} {k : Nat} {v : Value} {n : Nat} {xs : List Value} (h : Sl w k v n xs) : xs.length = n * k := h.1

theorem Sl.ext {w w' : World} {k : Nat} {v : Value} {n : Nat} {xs : List Value} (h : Sl w k v n xs) (he : Ext w w') : Sl w' k v n xs := by
  obtain ⟨h1, a, cap, h2, h3, h4, h5, h6⟩ := h
  refine ⟨h1, a, cap, h2, h3, h4, h5, fun j u hj => ?_⟩
  obtain ⟨b, off, e, hc⟩ := h6 j u hj
  exact ⟨b, off, e, he.cell hc⟩

theorem Sl.nil (w : World) (k : Nat) : Sl w k (.slice none 0 0) 0 [] :=
  ⟨by simp, none, 0, rfl, Nat.le_refl _, by simp [maxLen], fun _ => rfl, fun j u h => by simp at h⟩

theorem Sl.zero {w : World} {k : Nat} {v : Value} {xs : List Value} (h : Sl w k v 0 xs) : xs = [] := List.eq_nil_of_length_eq_zero (by simpa using h.1)

/-- Two readings of one slice have one length. -/
theorem Sl.same_len {w w' : World} {k k' : Nat} {v : Value} {n n' : Nat} {xs ys : List Value} (h : Sl w k v n xs) (h' : Sl w' k' v n' ys) : n = n' := by
  obtain ⟨_, a, cap, rfl, _⟩ := h
  obtain ⟨_, a', cap', e, _⟩ := h'
  simp only [Value.slice.injEq] at e
  exact e.2.1

theorem Sl.slice_form {w : World} {k : Nat} {v : Value} {n : Nat} {xs : List Value} (h : Sl w k v n xs) : ∃ a cap, v = .slice a n cap ∧ n ≤ cap ∧ cap ≤ maxLen ∧ (a = none → cap = 0) := by
  obtain ⟨_, a, cap, h2, h3, h4, h5, _⟩ := h
  exact ⟨a, cap, h2, h3, h4, h5⟩

/-- The cells behind a slice that is not empty. -/
theorem Sl.at {w : World} {k : Nat} {a : Option Addr} {n m cap : Nat} {xs : List Value} (h : Sl w k (.slice a m cap) n xs) (hk : 0 < k) (hn : 0 < n) :
    ∃ b off, a = some ⟨b, off, none⟩ ∧ b < w.heap.size ∧ ∀ j u, xs[j]? = some u → w.cell? ⟨b, off + j, none⟩ = some u := by
  obtain ⟨h1, a', cap', e, _, _, _, h6⟩ := h
  simp only [Value.slice.injEq] at e
  obtain ⟨rfl, rfl, rfl⟩ := e
  have hx : 0 < xs.length := by rw [h1]; exact Nat.mul_pos hn hk
  obtain ⟨b, off, rfl, hc⟩ := h6 0 xs[0] (by simp [hx])
  refine ⟨b, off, rfl, World.block_lt_of_cell? w _ hc, fun j u hj => ?_⟩
  obtain ⟨b', off', e, hc'⟩ := h6 j u hj
  simp only [Option.some.injEq, Addr.mk.injEq, and_true] at e
  obtain ⟨rfl, rfl⟩ := e
  exact hc'

theorem Sl.firstCells {P : Program} {w : World} {k : Nat} {a : Option Addr} {n m cap : Nat} {xs : List Value} (h : Sl w k (.slice a m cap) n xs) :
    (Builtin.firstCells k n (.slice a m cap)).run P w = .ok xs.toArray w := by
  obtain ⟨h1, a', cap', e, _, _, _, h6⟩ := h
  simp only [Value.slice.injEq] at e
  obtain ⟨rfl, rfl, rfl⟩ := e
  cases a with
  | none =>
    have hx : xs = [] := by
      cases xs with
      | nil => rfl
      | cons x xs => obtain ⟨b, off, e, _⟩ := h6 0 x rfl; cases e
    subst hx
    exact run_firstCells_none w k m m cap
  | some ad =>
    refine run_firstCells_some w k m ad m cap xs h1 fun j u hj => ?_
    obtain ⟨b, off, e, hc⟩ := h6 j u hj
    simp only [Option.some.injEq] at e
    subst e
    have hadd : (⟨b, off, none⟩ : Addr).add j = ⟨b, off + j, none⟩ := by unfold Addr.add; split <;> simp_all
    rw [hadd]; exact hc

theorem Sl.src {P : Program} {w : World} {k : Nat} {v : Value} {n : Nat} {xs : List Value} {tx e' : TypeId} (h : Sl w k v n xs) (hk : P.underlying tx = some (.slice e')) (h1 : ∀ u ∈ xs, u.oneCell' = true) : Src P k tx v n xs w := by
  obtain ⟨a, cap, rfl, _⟩ := h.slice_form
  exact ⟨.inl ⟨e', hk⟩, fun _ => rfl, h.firstCells, (h.ext (Ext.refl w).drew).firstCells, h.len, h1⟩

/-- The cells up to an index, and those from an index on. -/
theorem Sl.take {w : World} {k : Nat} {a : Option Addr} {n m cap : Nat} {xs : List Value} (h : Sl w k (.slice a m cap) n xs) (i : Nat) (hi : i ≤ n) : Sl w k (.slice a i cap) i (xs.take (i * k)) := by
  obtain ⟨h1, a', cap', e, h3, h4, h5, h6⟩ := h
  simp only [Value.slice.injEq] at e
  obtain ⟨rfl, rfl, rfl⟩ := e
  refine ⟨by rw [List.length_take, h1]; exact Nat.min_eq_left (Nat.mul_le_mul_right _ hi), a, cap, rfl, by omega, h4, h5, fun j u hj => ?_⟩
  rw [List.getElem?_take] at hj
  split at hj
  · exact h6 j u hj
  · cases hj

theorem Sl.drop {w : World} {k : Nat} {a : Option Addr} {n m cap : Nat} {xs : List Value} (h : Sl w k (.slice a m cap) n xs) (i : Nat) (hi : i ≤ n) :
    Sl w k (.slice (if cap = i then a else a.map (·.add (i * k))) (n - i) (cap - i)) (n - i) (xs.drop (i * k)) := by
  obtain ⟨h1, a', cap', e, h3, h4, h5, h6⟩ := h
  simp only [Value.slice.injEq] at e
  obtain ⟨rfl, rfl, rfl⟩ := e
  refine ⟨by rw [List.length_drop, h1, Nat.sub_mul], _, _, rfl, by omega, by omega, ?_, fun j u hj => ?_⟩
  · intro hn
    split at hn
    · have := h5 hn; omega
    · have := h5 (by simpa using hn); omega
  · rw [List.getElem?_drop] at hj
    obtain ⟨b, off, e, hc⟩ := h6 _ u hj
    subst e
    have hlt : i * k + j < xs.length := by
      rcases Nat.lt_or_ge (i * k + j) xs.length with h | h
      · exact h
      · rw [List.getElem?_eq_none h] at hj; cases hj
    have hne : ¬ cap = i := by
      intro e
      have : m = i := by omega
      subst this
      omega
    rw [if_neg hne]
    refine ⟨b, off + i * k, ?_, by rw [Nat.add_assoc]; exact hc⟩
    simp only [Option.map_some, Option.some.injEq]
    unfold Addr.add
    split <;> simp_all

/-! ### slice expressions -/
theorem run_slice_from {P : Program} {t e : TypeId} {i : TypeInfo} (ht : P.underlying t = some (.slice e)) (hi : P.info? e = some i) (a : Option Addr) (n cap : Nat) (x : Int) (k : Nat) (hx : x = k) (hk : k ≤ n) (w : World) :
    (Instr.slice t (.slice a n cap) (some (.int .i64 x)) none none).run P w = .ok (.slice (if cap = k then a else a.map (·.add (k * i.size))) (n - k) (cap - k)) w := by
  subst hx
  simp [Instr.slice, run_underlying ht, Instr.sliceBounds, Instr.sliceBound, asIntOf, hk, sizeOf, typeInfo, hi]

theorem run_slice_upto {P : Program} {t e : TypeId} {i : TypeInfo} (ht : P.underlying t = some (.slice e)) (hi : P.info? e = some i) (a : Option Addr) (n cap : Nat) (x : Int) (k : Nat) (hx : x = k) (hk : k ≤ cap) (w : World) :
    (Instr.slice t (.slice a n cap) none (some (.int .i64 x)) none).run P w = .ok (.slice a k cap) w := by
  subst hx
  simp [Instr.slice, run_underlying ht, Instr.sliceBounds, Instr.sliceBound, asIntOf, hk, sizeOf, typeInfo, hi]
  intro _
  cases a with
  | none => rfl
  | some a => simp [Addr.add]

/-! ### a slice that the call owns -/
/-- v is nil, or its array is one of the call's own, from block B on. -/
def Own (w : World) (B : Nat) (e : TypeId) (k : Nat) (v : Value) (n : Nat) (xs : List Value) : Prop := w.ownsRow B e k v n xs

/-- What an append to v keeps: all blocks but v's own array. -/
structure Keeps (w w' : World) (B : Nat) (v : Value) : Prop where
  below : Below B w w'
  block : ∀ b, b < w.heap.size → (v.ownBlock = some b → b < B) → w'.heap[b]? = w.heap[b]?

theorem Own.nil (w : World) (B : Nat) (e : TypeId) (k : Nat) : Own w B e k (.slice none 0 0) 0 [] := w.ownsRow_nil B e k

theorem Own.sl {w : World} {B : Nat} {e : TypeId} {k : Nat} {v : Value} {n : Nat} {xs : List Value} (h : Own w B e k v n xs) : Sl w k v n xs := by
  have hc : ∀ g, v.ownBlock = some g → ∀ j u, xs[j]? = some u → w.cell? ((⟨g, 0, none⟩ : Addr).add j) = some u := fun g hg => World.ownsRow.cells h hg
  rcases h.2 with ⟨rfl, rfl⟩ | ⟨g, cap, cur, rfl, hb, hg, hnc, hcm, hcs, htake⟩
  · have hx : xs = [] := List.eq_nil_of_length_eq_zero (by simpa using h.1)
    subst hx
    exact Sl.nil w k
  · refine ⟨h.1, _, _, rfl, hnc, hcm, (fun h => by cases h), fun j u hj => ⟨g, 0, rfl, ?_⟩⟩
    have := hc g rfl j u hj
    have hadd : (⟨g, 0, none⟩ : Addr).add j = ⟨g, 0 + j, none⟩ := by unfold Addr.add; split <;> simp_all
    rw [hadd] at this
    exact this

theorem Own.ext {w w' : World} {B : Nat} {e : TypeId} {k : Nat} {v : Value} {n : Nat} {xs : List Value} (h : Own w B e k v n xs) (he : Ext w w') : Own w' B e k v n xs := by
  refine ⟨h.1, ?_⟩
  rcases h.2 with h2 | ⟨g, cap, cur, hv, hg, hh, r⟩
  · exact Or.inl h2
  · exact Or.inr ⟨g, cap, cur, hv, hg, by rw [he.blk (Array.getElem?_eq_some_iff.1 hh).1]; exact hh, r⟩

theorem Own.mono {w : World} {B B' : Nat} {e : TypeId} {k : Nat} {v : Value} {n : Nat} {xs : List Value} (h : Own w B e k v n xs) (hB : B' ≤ B) : Own w B' e k v n xs := by
  refine ⟨h.1, ?_⟩
  rcases h.2 with h2 | ⟨g, cap, cur, hv, hg, r⟩
  · exact Or.inl h2
  · exact Or.inr ⟨g, cap, cur, hv, Nat.le_trans hB hg, r⟩

/-- Where the array lies. -/
theorem Own.lt {w : World} {B : Nat} {e : TypeId} {k : Nat} {v : Value} {n : Nat} {xs : List Value} (h : Own w B e k v n xs) {g : Nat} (hg : v.ownBlock = some g) : B ≤ g ∧ g < w.heap.size := World.ownsRow.lt h g hg

/-- What turns another block leaves it. -/
theorem Own.keeps {w w' : World} {B B' : Nat} {e : TypeId} {k : Nat} {v u : Value} {n : Nat} {xs : List Value} (h : Own w B e k v n xs) (hK : Keeps w w' B' u) (hne : ∀ g, v.ownBlock = some g → u.ownBlock ≠ some g) : Own w' B e k v n xs := by
  refine ⟨h.1, ?_⟩
  rcases h.2 with h2 | ⟨g, cap, cur, rfl, hg, hh, r⟩
  · exact Or.inl h2
  · refine Or.inr ⟨g, cap, cur, rfl, hg, ?_, r⟩
    rw [hK.block g (Array.getElem?_eq_some_iff.1 hh).1 (fun e => absurd e (hne g rfl))]
    exact hh

/-- One with an element has an array. -/
theorem Own.form {w : World} {B : Nat} {e : TypeId} {k : Nat} {v : Value} {n : Nat} {xs : List Value} (h : Own w B e k v n xs) (hn : 0 < n) : ∃ g cap, v = .slice (some ⟨g, 0, none⟩) n cap ∧ n ≤ cap ∧ cap ≤ maxLen ∧ B ≤ g ∧ g < w.heap.size := by
  rcases h.2 with ⟨_, rfl⟩ | ⟨g, cap, cur, rfl, hg, hh, hnc, hcm, _⟩
  · omega
  · exact ⟨g, cap, rfl, hnc, hcm, hg, (Array.getElem?_eq_some_iff.1 hh).1⟩

/-- A store into one of its cells. -/
theorem Own.set {w : World} {B : Nat} {e : TypeId} {k : Nat} {g n cap : Nat} {xs : List Value} (h : Own w B e k (.slice (some ⟨g, 0, none⟩) n cap) n xs) (j : Nat) (u : Value) :
    Own (w.setCell ⟨g, j, none⟩ u) B e k (.slice (some ⟨g, 0, none⟩) n cap) n (xs.set j u) := (World.ownsRow.stored h j u).1
theorem Own.frozen {w : World} {B : Nat} {e : TypeId} {k : Nat} {g n cap : Nat} {xs : List Value} (h : Own w B e k (.slice (some ⟨g, 0, none⟩) n cap) n xs) (j : Nat) : w.frozen? ⟨g, j, none⟩ = false := World.ownsRow.frozenAt h j
theorem Own.cellAt {w : World} {B : Nat} {e : TypeId} {k : Nat} {g n cap : Nat} {xs : List Value} (h : Own w B e k (.slice (some ⟨g, 0, none⟩) n cap) n xs) (j : Nat) (hj : j < n * k) : w.cell? ⟨g, j, none⟩ = xs[j]? := World.ownsRow.cellAt h j hj
theorem Own.setKeeps {w : World} {B B' : Nat} {e : TypeId} {k : Nat} {g n cap : Nat} {xs : List Value} (h : Own w B e k (.slice (some ⟨g, 0, none⟩) n cap) n xs) (hB : B' ≤ B) (j : Nat) (u : Value) : Keeps w (w.setCell ⟨g, j, none⟩ u) B' (.slice (some ⟨g, 0, none⟩) n cap) := by
  have hg := (h.lt rfl).1
  refine ⟨Below.setCell (p := ⟨g, j, none⟩) (Below.refl _ w) (Nat.le_trans hB hg) _, fun b _ hb' => Below.heap_setCell _ _ _ _ (fun e => ?_)⟩
  subst e
  exact Nat.lt_irrefl _ (Nat.lt_of_lt_of_le (hb' rfl) (Nat.le_trans hB hg))

/-- What leaves its array leaves what a slice reads as. -/
theorem Sl.of_block {w w' : World} {k : Nat} {v : Value} {n : Nat} {xs : List Value} (h : Sl w k v n xs) (hb : ∀ g, v.ownBlock = some g → w'.heap[g]? = w.heap[g]?) : Sl w' k v n xs := by
  obtain ⟨h1, a, cap, rfl, h3, h4, h5, h6⟩ := h
  refine ⟨h1, a, cap, rfl, h3, h4, h5, fun j u hj => ?_⟩
  obtain ⟨b, off, rfl, hc⟩ := h6 j u hj
  exact ⟨b, off, rfl, (World.cell?_of_block (a := ⟨b, off + j, none⟩) (hb b rfl)).trans hc⟩

theorem results_tmp4 {fn : Func} {t u v x : Tmp} (h : fn.results = #[.tmp t, .tmp u, .tmp v, .tmp x]) (tmps : Array Value) (P : Program) (w : World) :
    (results fn tmps).run P w = .ok (.tuple #[tmps.getD t undef, tmps.getD u undef, tmps.getD v undef, tmps.getD x undef]) w := by
  simp [results, h]

theorem Keeps.refl (w : World) (B : Nat) (v : Value) : Keeps w w B v := ⟨Below.refl _ _, fun _ _ _ => rfl⟩
theorem Keeps.of_ext {w w' : World} (h : Ext w w') {B : Nat} (hB : B ≤ w.heap.size) (v : Value) : Keeps w w' B v :=
  ⟨Below.mono h hB, fun _ hb _ => h.blk hb⟩

/-- append: whatever was owned, the new slice is owned; all blocks but its own array are as they were. -/
theorem run_append_any {P : Program} {w : World} {B : Nat} {t tx ty e e' : TypeId} {i : TypeInfo} {z : Value} {k : Nat} {v x : Value} {n m : Nat} {xs ys : List Value}
    (ht : P.underlying t = some (.slice e)) (htx : P.underlying tx = some (.slice e')) (hi : P.info? e = some i) (hz : i.zero = some z) (hik : i.size = k) (hzk : z.cells.size = k)
    (hown : Own w B e k v n xs) (hx : Sl w k x m ys) (h1 : ∀ u ∈ ys, u.oneCell' = true) (h63 : n + m ≤ maxLen) (hbytes : (n + m) * i.bytes ≤ 140737488355328) (hB : B ≤ w.heap.size) :
    ∃ v' w', (Builtin.append_ #[t, tx] ty #[v, x]).run P w = .ok v' w' ∧ Own w' B e k v' (n + m) (xs ++ ys) ∧ Keeps w w' B v ∧
      (v'.ownBlock = v.ownBlock ∨ ∃ g, v'.ownBlock = some g ∧ w.heap.size ≤ g) ∧ (0 < m → ∃ g, v'.ownBlock = some g ∧ B ≤ g) := by
  subst hik
  have hsrc := hx.src htx h1
  have hsmall : n + m ≤ 9223372036854775807 := by simp only [maxLen] at h63; omega
  have hlen : (xs ++ ys).length = (n + m) * i.size := by rw [List.length_append, hown.sl.len, hx.len, Nat.add_mul]
  -- a new array
  have grow : ∀ (a : Option Addr) (c : Nat), v = .slice a n c → n ≤ c → c < n + m →
      ∃ v' w', (Builtin.append_ #[t, tx] ty #[v, x]).run P w = .ok v' w' ∧ Own w' B e i.size v' (n + m) (xs ++ ys) ∧ Keeps w w' B v ∧
        (v'.ownBlock = v.ownBlock ∨ ∃ g, v'.ownBlock = some g ∧ w.heap.size ≤ g) ∧ (0 < m → ∃ g, v'.ownBlock = some g ∧ B ≤ g) := by
    intro a c hv hnc hc
    subst hv
    have hold := ((hown.sl.ext (Ext.refl w).drew).firstCells (P := P))
    have hr := run_append_grow_src (P := P) w t tx ty e i z ht hi hz a n c xs hold x m ys hsrc hc (by omega) (growslice_fits (by omega) hbytes)
    have hge := grownCap_ge w (n + m) c e
    have hcm : grownCap w (n + m) c e ≤ maxLen := grownCap_le_maxLen w (n + m) c e h63
    refine ⟨_, _, hr, ⟨hlen, .inr ⟨w.heap.size, _, _, rfl, hB, heap_alloc_new w.drew _, hge, hcm, ?_, ?_⟩⟩, Keeps.of_ext ((Ext.refl w).drew.alloc _) hB _, .inr ⟨_, rfl, Nat.le_refl _⟩, fun _ => ⟨_, rfl, hB⟩⟩
    · rw [Array.size_append, List.size_toArray, size_zeroCells, hzk, hlen, ← Nat.add_mul]
      congr 1
      omega
    · rw [Array.toList_append, ← hlen]
      exact List.take_left
  have hrow := hown
  rcases hrow.2 with ⟨hv, hn⟩ | ⟨g, cap, cur, hv, hbg, hg, hnc, hcm, hcs, htake⟩
  · subst hv hn
    by_cases hm : m = 0
    · subst hm
      have hys := hx.zero
      subst hys
      have hroom : (Builtin.append_ #[t, tx] ty #[.slice none 0 0, x]).run P w = .ok (.slice none 0 0) w := by
        rcases hsrc.kind with ⟨e', hk⟩ | hk <;> simp [Builtin.append_, run_underlying ht, run_underlying hk, sizeOf, typeInfo, hi, hsrc.len, hsrc.cells]
      have hxs : xs = [] := List.eq_nil_of_length_eq_zero (by simpa using hrow.1)
      subst hxs
      exact ⟨_, _, hroom, Own.nil _ _ _ _, Keeps.refl _ _ _, .inl rfl, fun h => (by omega)⟩
    · exact grow none 0 rfl (Nat.le_refl _) (by omega)
  · subst hv
    by_cases hroom : n + m ≤ cap
    · have hcl : ∀ j, j < ys.length → g < w.heap.size ∧ w.heap[g]? = some (.cells cur e (0, 0)) ∧ n * i.size + j < cur.size := fun j hj => by
        refine ⟨(Array.getElem?_eq_some_iff.1 hg).1, hg, ?_⟩
        rw [hcs]
        have h2 := hx.len
        have h3 : (n + m) * i.size ≤ cap * i.size := Nat.mul_le_mul_right _ hroom
        rw [Nat.add_mul] at h3
        omega
      have hfit : n * i.size + ys.length ≤ cur.size := by rw [hx.len, hcs, ← Nat.add_mul]; exact Nat.mul_le_mul_right _ hroom
      have hst := run_storeCells_at P g (n * i.size) e ys 0 cur w hg (by simpa using hfit) h1
      simp only [Nat.add_zero] at hst
      have hr : (Builtin.append_ #[t, tx] ty #[.slice (some ⟨g, 0, none⟩) n cap, x]).run P w =
          .ok (.slice (some ⟨g, 0, none⟩) (n + m) cap) (w.setRow g (cur.toList.take (n * i.size) ++ ys ++ cur.toList.drop (n * i.size + ys.length)).toArray) := by
        rcases hsrc.kind with ⟨e', hk⟩ | hk <;> simp [Builtin.append_, run_underlying ht, run_underlying hk, sizeOf, typeInfo, hi, hsrc.len, hroom, hsrc.cells, Addr.add_lit, hst]
      refine ⟨_, _, hr, ⟨hlen, .inr ⟨g, cap, _, rfl, hbg, setRow_heap w g cur _ e _ hg, hroom, hcm, ?_, ?_⟩⟩, ⟨⟨rfl, rfl, rfl, by simp, fun b hb => setRow_other w g b _ (by omega)⟩, fun b _ hb' => ?_⟩, .inl rfl, fun _ => ⟨g, rfl, hbg⟩⟩
      · simp only [List.size_toArray, List.length_append, List.length_take, List.length_drop, Array.length_toList]
        omega
      · rw [htake, ← hlen]
        exact List.take_left
      · refine setRow_other w g b _ (fun e => ?_)
        have := hb' (by simp [Value.ownBlock, e])
        omega
    · exact grow (some ⟨g, 0, none⟩) cap rfl hnc (by omega)

theorem wp_append_any {P : Program} {w : World} {o : Oper} {a : Act} {K : Act → World → Prop} {Q : Exit → Act → World → Prop} (s x : Operand) (t tx : TypeId)
    (ho : o.op = .call { callee := .builtin .append, args := #[s, x], argTypes := #[t, tx] })
    {v u : Value} (hs : a.eval s = v) (hu : a.eval x = u) {B : Nat} {e e' : TypeId} {i : TypeInfo} {z : Value} {k : Nat} {n m : Nat} {xs ys : List Value}
    (ht : P.underlying t = some (.slice e)) (htx : P.underlying tx = some (.slice e')) (hi : P.info? e = some i) (hz : i.zero = some z) (hik : i.size = k) (hzk : z.cells.size = k)
    (hown : Own w B e k v n xs) (hx : Sl w k u m ys) (h1 : ∀ u ∈ ys, u.oneCell' = true) (h63 : n + m ≤ maxLen) (hbytes : (n + m) * i.bytes ≤ 140737488355328) (hB : B ≤ w.heap.size)
    (h : ∀ v' w', Own w' B e k v' (n + m) (xs ++ ys) → Keeps w w' B v → (v'.ownBlock = v.ownBlock ∨ ∃ g, v'.ownBlock = some g ∧ w.heap.size ≤ g) → (0 < m → ∃ g, v'.ownBlock = some g ∧ B ≤ g) → K (a.put o.dst v') w') : o.wp P a w K Q := by
  obtain ⟨v', w', hr, h2, h3, h4, h5⟩ := run_append_any (P := P) (ty := o.type) ht htx hi hz hik hzk hown hx h1 h63 hbytes hB
  unfold Oper.wp execOp
  simp only [ho, resolve, invoke, builtin, Sem.run_bind, Sem.run_pure, Result.andThen_ok, List.map_toArray, List.map_cons, List.map_nil, hs, hu, hr]
  exact h v' w' h2 h3 h4 h5

theorem wpList_append_any {P : Program} {w : World} {ops : Array Oper} {rest : List Oper} {o : Oper} {a : Act} {Q : Exit → Act → World → Prop} (hgd : o.guard = none) (s x : Operand) (t tx : TypeId)
    (ho : o.op = .call { callee := .builtin .append, args := #[s, x], argTypes := #[t, tx] })
    {v u : Value} (hs : a.eval s = v) (hu : a.eval x = u) {B : Nat} {e e' : TypeId} {i : TypeInfo} {z : Value} {k : Nat} {n m : Nat} {xs ys : List Value}
    (ht : P.underlying t = some (.slice e)) (htx : P.underlying tx = some (.slice e')) (hi : P.info? e = some i) (hz : i.zero = some z) (hik : i.size = k) (hzk : z.cells.size = k)
    (hown : Own w B e k v n xs) (hx : Sl w k u m ys) (h1 : ∀ u ∈ ys, u.oneCell' = true) (h63 : n + m ≤ maxLen) (hbytes : (n + m) * i.bytes ≤ 140737488355328) (hB : B ≤ w.heap.size)
    (h : ∀ v' w', Own w' B e k v' (n + m) (xs ++ ys) → Keeps w w' B v → (v'.ownBlock = v.ownBlock ∨ ∃ g, v'.ownBlock = some g ∧ w.heap.size ≤ g) → (0 < m → ∃ g, v'.ownBlock = some g ∧ B ≤ g) → wpList P ops Q rest (a.put o.dst v') w') : wpList P ops Q (o :: rest) a w :=
  wpList_plain hgd fun _ hK => wp_append_any s x t tx ho hs hu ht htx hi hz hik hzk hown hx h1 h63 hbytes hB fun v' w' h2 h3 h4 h5 => hK _ _ (h v' w' h2 h3 h4 h5)

theorem wpList_append_want {P : Program} {w : World} {ops : Array Oper} {rest : List Oper} {o : Oper} {a : Act} {Q : Exit → Act → World → Prop} (hw : Region.wanted o (yielded ops a.tmps) = true) (s x : Operand) (t tx : TypeId)
    (ho : o.op = .call { callee := .builtin .append, args := #[s, x], argTypes := #[t, tx] })
    {v u : Value} (hs : a.eval s = v) (hu : a.eval x = u) {B : Nat} {e e' : TypeId} {i : TypeInfo} {z : Value} {k : Nat} {n m : Nat} {xs ys : List Value}
    (ht : P.underlying t = some (.slice e)) (htx : P.underlying tx = some (.slice e')) (hi : P.info? e = some i) (hz : i.zero = some z) (hik : i.size = k) (hzk : z.cells.size = k)
    (hown : Own w B e k v n xs) (hx : Sl w k u m ys) (h1 : ∀ u ∈ ys, u.oneCell' = true) (h63 : n + m ≤ maxLen) (hbytes : (n + m) * i.bytes ≤ 140737488355328) (hB : B ≤ w.heap.size)
    (h : ∀ v' w', Own w' B e k v' (n + m) (xs ++ ys) → Keeps w w' B v → (v'.ownBlock = v.ownBlock ∨ ∃ g, v'.ownBlock = some g ∧ w.heap.size ≤ g) → (0 < m → ∃ g, v'.ownBlock = some g ∧ B ≤ g) → wpList P ops Q rest (a.put o.dst v') w') : wpList P ops Q (o :: rest) a w := by
  unfold wpList
  rw [if_pos hw]
  exact .inl (wp_append_any s x t tx ho hs hu ht htx hi hz hik hzk hown hx h1 h63 hbytes hB h)

end Go.Proofs.Ytiikdpfbbcnplaa
