/- Tables in memory: a slice whose rows hold one slice each; which blocks a call turns; no program in sight. -/
import Derived.Test.YtiikdpfbbcnplaaData
namespace Go.Proofs.Ytiikdpfbbcnplaa
set_option maxRecDepth 100000
open Go.RowKit

def i64B (n : Int) : Prop := -9223372036854775808 ≤ n ∧ n ≤ 9223372036854775807

/-! ### lists -/
theorem rows_setj {α : Type} {k : Nat} (f : α → List Value) (hf : ∀ x, (f x).length = k) (j : Nat) (u : Value) : ∀ (l : List α) (i : Nat) (x y : α), l[i]? = some x → j < k → f y = (f x).set j u → (l.flatMap f).set (i * k + j) u = (l.set i y).flatMap f
  | [], i, x, y, h, _, _ => by simp at h
  | z :: l, 0, x, y, h, hj, hy => by
    simp only [List.getElem?_cons_zero, Option.some.injEq] at h
    subst h
    rw [List.flatMap_cons, List.set_cons_zero, List.flatMap_cons, hy, List.set_append, if_pos (by rw [hf]; omega), Nat.zero_mul, Nat.zero_add]
  | z :: l, i + 1, x, y, h, hj, hy => by
    have ih := rows_setj f hf j u l i x y (by simpa using h) hj hy
    rw [List.flatMap_cons, List.set_cons_succ, List.flatMap_cons, ← ih, List.set_append, if_neg (by rw [hf, Nat.add_mul]; omega), hf, show (i + 1) * k + j - k = i * k + j by rw [Nat.add_mul]; omega]

theorem set_zip {α β : Type} (a : α) (b : β) : ∀ (as : List α) (bs : List β) (i : Nat), (as.zip bs).set i (a, b) = (as.set i a).zip (bs.set i b)
  | [], _, _ => by simp
  | _ :: _, [], _ => by simp
  | _ :: _, _ :: _, 0 => by simp
  | _ :: as, _ :: bs, i + 1 => by simp [set_zip a b as bs i]

theorem take_zip {α β : Type} : ∀ (as : List α) (bs : List β) (i : Nat), (as.zip bs).take i = (as.take i).zip (bs.take i)
  | [], _, _ => by simp
  | _ :: _, [], _ => by simp
  | _ :: _, _ :: _, 0 => by simp
  | _ :: as, _ :: bs, i + 1 => by simp [take_zip as bs i]
theorem drop_zip {α β : Type} : ∀ (as : List α) (bs : List β) (i : Nat), (as.zip bs).drop i = (as.drop i).zip (bs.drop i)
  | [], _, _ => by simp
  | _ :: _, [], _ => by simp
  | _ :: _, _ :: _, 0 => by simp
  | _ :: as, _ :: bs, i + 1 => by simp [drop_zip as bs i]
theorem set_same {α : Type} {l : List α} {i : Nat} {a : α} (h : l[i]? = some a) : l.set i a = l := by
  apply List.ext_getElem?
  intro j
  by_cases e : i = j
  · subst e
    rw [List.getElem?_set_self (List.getElem?_eq_some_iff.1 h).1, h]
  · rw [List.getElem?_set_ne e]

theorem All2.iff {α β : Type} {R : α → β → Prop} : ∀ {as : List α} {bs : List β}, All2 R as bs ↔ as.length = bs.length ∧ ∀ (i : Nat) (a : α) (b : β), as[i]? = some a → bs[i]? = some b → R a b
  | [], [] => by simp [All2]
  | [], _ :: _ => by simp [All2]
  | _ :: _, [] => by simp [All2]
  | a :: as, b :: bs => by
    rw [All2, All2.iff (as := as) (bs := bs)]
    constructor
    · rintro ⟨h, h1, h2⟩
      refine ⟨by simp [h1], fun i x y hx hy => ?_⟩
      cases i with
      | zero => simp at hx hy; subst hx hy; exact h
      | succ i => exact h2 i x y (by simpa using hx) (by simpa using hy)
    · rintro ⟨h1, h2⟩
      exact ⟨h2 0 a b rfl rfl, by simpa using h1, fun i x y hx hy => h2 (i + 1) x y (by simpa using hx) (by simpa using hy)⟩

section
variable {α : Type} (row : Value → α → List Value)
/-- The cells of a table. -/
def trows (vs : List Value) (l : List α) : List Value := (vs.zip l).flatMap fun p => row p.1 p.2
variable {k : Nat} (hrow : ∀ s a, (row s a).length = k)
include hrow
theorem trows_len {vs : List Value} {l : List α} (h : vs.length = l.length) : (trows row vs l).length = l.length * k := by
  rw [trows, rows_len (k := k) (fun p : Value × α => row p.1 p.2) (fun p => hrow p.1 p.2), List.length_zip, h, Nat.min_self]
theorem trows_get {vs : List Value} {l : List α} {i j : Nat} {s : Value} {a : α} (hs : vs[i]? = some s) (ha : l[i]? = some a) (hj : j < k) : (trows row vs l)[i * k + j]? = (row s a)[j]? :=
  rows_get (k := k) (fun p : Value × α => row p.1 p.2) (fun p => hrow p.1 p.2) _ i j (s, a) (by rw [List.getElem?_zip_eq_some]; exact ⟨hs, ha⟩) hj
theorem trows_set {vs : List Value} {l : List α} {i j : Nat} {s s' : Value} {a a' : α} {u : Value} (hs : vs[i]? = some s) (ha : l[i]? = some a) (hj : j < k) (hy : row s' a' = (row s a).set j u) :
    (trows row vs l).set (i * k + j) u = trows row (vs.set i s') (l.set i a') := by
  unfold trows
  rw [rows_setj (k := k) (fun p : Value × α => row p.1 p.2) (fun p => hrow p.1 p.2) j u _ i (s, a) (s', a') (by rw [List.getElem?_zip_eq_some]; exact ⟨hs, ha⟩) hj hy, set_zip]
theorem trows_take (vs : List Value) (l : List α) (i : Nat) : (trows row vs l).take (i * k) = trows row (vs.take i) (l.take i) := by
  unfold trows
  rw [rows_take (k := k) (fun p : Value × α => row p.1 p.2) (fun p => hrow p.1 p.2), take_zip]
theorem trows_drop (vs : List Value) (l : List α) (i : Nat) : (trows row vs l).drop (i * k) = trows row (vs.drop i) (l.drop i) := by
  unfold trows
  rw [rows_drop (k := k) (fun p : Value × α => row p.1 p.2) (fun p => hrow p.1 p.2), drop_zip]
omit hrow
theorem trows_append {vs vs' : List Value} {l l' : List α} (h : vs.length = l.length) : trows row (vs ++ vs') (l ++ l') = trows row vs l ++ trows row vs' l' := by
  unfold trows
  rw [List.zip_append h, List.flatMap_append]
theorem trows_one (s : Value) (a : α) : trows row [s] [a] = row s a := by simp [trows]
theorem trows_oneCell (h1 : ∀ s a, ∀ u ∈ row s a, u.oneCell' = true) (vs : List Value) (l : List α) : ∀ u ∈ trows row vs l, u.oneCell' = true := by
  intro u hu
  obtain ⟨p, _, hp⟩ := List.mem_flatMap.1 hu
  exact h1 _ _ u hp
end

/-- In w the slice v reads as the table l, whose rows' slices read by R. -/
def Tb {α : Type} (row : Value → α → List Value) (k : Nat) (R : Value → α → Prop) (w : World) (v : Value) (l : List α) : Prop := ∃ vs : List Value, All2 R vs l ∧ Sl w k v l.length (trows row vs l)

section
variable {α : Type} {row : Value → α → List Value} {k : Nat} {R R' : Value → α → Prop}
theorem Tb.ext {w w' : World} {v : Value} {l : List α} (h : Tb row k R w v l) (he : Ext w w') (hr : ∀ s a, R s a → R' s a) : Tb row k R' w' v l := by
  obtain ⟨vs, h1, h2⟩ := h
  exact ⟨vs, h1.mono hr, h2.ext he⟩
theorem Tb.nil (w : World) : Tb row k R w (.slice none 0 0) [] := ⟨[], trivial, Sl.nil w k⟩
theorem Tb.form {w : World} {v : Value} {l : List α} (h : Tb row k R w v l) : ∃ a cap, v = .slice a l.length cap ∧ l.length ≤ cap ∧ cap ≤ maxLen ∧ (a = none → cap = 0) := h.choose_spec.2.slice_form
theorem Tb.cell {w : World} {a : Option Addr} {n cap : Nat} {l : List α} (h : Tb row k R w (.slice a n cap) l) (hrow : ∀ s a, (row s a).length = k) (hk : 0 < k) {i : Nat} {x : α} (hx : l[i]? = some x) :
    ∃ b off s, a = some ⟨b, off, none⟩ ∧ b < w.heap.size ∧ R s x ∧ ∀ j u, (row s x)[j]? = some u → w.cell? ⟨b, off + (i * k + j), none⟩ = some u := by
  obtain ⟨vs, h1, h2⟩ := h
  have hi : i < l.length := (List.getElem?_eq_some_iff.1 hx).1
  obtain ⟨s, hs, hc⟩ := h1.get hx
  obtain ⟨b, off, rfl, hb, hcell⟩ := Sl.at h2 hk (by omega : 0 < l.length)
  refine ⟨b, off, s, rfl, hb, hc, fun j u hj => hcell (i * k + j) u ?_⟩
  rw [trows_get row hrow hs hx (by rw [← hrow s x]; exact (List.getElem?_eq_some_iff.1 hj).1)]
  exact hj
end

theorem Own.made' (w : World) (B : Nat) (e : TypeId) (k : Nat) (hB : B ≤ w.heap.size) : Own (w.alloc (.cells #[] e)) B e k (.slice (some ⟨w.heap.size, 0, none⟩) 0 0) 0 [] :=
  World.ownsRow_made w #[] 0 hB (Nat.zero_le _) (by simp)

theorem Own.lit' (w : World) {B : Nat} {e : TypeId} {k : Nat} (cs : Array Value) (n : Nat) (hB : B ≤ w.heap.size) (hm : n ≤ maxLen) (hs : cs.size = n * k) :
    Own (w.alloc (.cells cs e)) B e k (.slice (some ⟨w.heap.size, 0, none⟩) n n) n cs.toList := World.ownsRow_lit w cs n hB hm hs

/-! ### which blocks a call turns -/
/-- w' is w with new blocks, and with writes to the blocks in S. -/
structure ExtBut (S : Nat → Prop) (w w' : World) : Prop where
  os : w'.os = w.os
  tape : w'.tape = w.tape
  output : w'.output = w.output
  size : w.heap.size ≤ w'.heap.size
  block : ∀ b, b < w.heap.size → ¬ S b → w'.heap[b]? = w.heap[b]?

theorem ExtBut.refl (S : Nat → Prop) (w : World) : ExtBut S w w := ⟨rfl, rfl, rfl, Nat.le_refl _, fun _ _ _ => rfl⟩
theorem ExtBut.of_ext {S : Nat → Prop} {w w' : World} (h : Ext w w') : ExtBut S w w' := ⟨h.os, h.tape, h.output, h.size, fun _ hb _ => h.blk hb⟩
theorem ExtBut.trans {S : Nat → Prop} {a b c : World} (h : ExtBut S a b) (k : ExtBut S b c) : ExtBut S a c :=
  ⟨k.os.trans h.os, k.tape.trans h.tape, k.output.trans h.output, Nat.le_trans h.size k.size, fun x hx hS => (k.block x (Nat.lt_of_lt_of_le hx h.size) hS).trans (h.block x hx hS)⟩
theorem ExtBut.trans' {S S' : Nat → Prop} {a b c : World} (h : ExtBut S a b) (k : ExtBut S' b c) (hS : ∀ x, x < a.heap.size → S' x → S x) : ExtBut S a c :=
  ⟨k.os.trans h.os, k.tape.trans h.tape, k.output.trans h.output, Nat.le_trans h.size k.size, fun x hx hn => (k.block x (Nat.lt_of_lt_of_le hx h.size) fun e => hn (hS x hx e)).trans (h.block x hx hn)⟩
theorem ExtBut.mono {S S' : Nat → Prop} {a b : World} (h : ExtBut S a b) (hS : ∀ x, x < a.heap.size → S x → S' x) : ExtBut S' a b :=
  ⟨h.os, h.tape, h.output, h.size, fun x hx hn => h.block x hx fun hs => hn (hS x hx hs)⟩
/-- Only new blocks were turned. -/
theorem ExtBut.ext {S : Nat → Prop} {w0 w w' : World} (h0 : Ext w0 w) (h : ExtBut S w w') (hS : ∀ x, S x → w0.heap.size ≤ x) : Ext w0 w' :=
  Below.trans h0 ⟨h.os, h.tape, h.output, h.size, fun b hb => h.block b (Nat.lt_of_lt_of_le hb h0.size) fun hs => absurd (hS b hs) (by omega)⟩
theorem ExtBut.setCell (w : World) (p : Addr) (u : Value) : ExtBut (· = p.block) w (w.setCell p u) :=
  ⟨rfl, rfl, rfl, by simp, fun b _ hb => Below.heap_setCell _ _ _ _ hb⟩
theorem ExtBut.alloc {S : Nat → Prop} {w w' : World} (h : ExtBut S w w') (o : Obj) : ExtBut S w (w'.alloc o) := h.trans (ExtBut.of_ext ((Ext.refl _).alloc o))
theorem ExtBut.drewN {S : Nat → Prop} {w w' : World} (h : ExtBut S w w') (n : Nat) : ExtBut S w (w'.drewN n) := h.trans (ExtBut.of_ext ((Ext.refl _).drewN n))
theorem ExtBut.of_keeps {w w' : World} {B : Nat} {v : Value} (h : Keeps w w' B v) : ExtBut (fun b => v.ownBlock = some b) w w' :=
  ⟨h.below.os, h.below.tape, h.below.output, h.below.size, fun b hb hn => h.block b hb fun e => absurd e hn⟩
theorem ExtBut.cell {S : Nat → Prop} {w w' : World} (h : ExtBut S w w') {p : Addr} {v : Value} (hv : w.cell? p = some v) (hp : ¬ S p.block) : w'.cell? p = some v :=
  (World.cell?_of_block (h.block p.block (World.block_lt_of_cell? w p hv) hp)).trans hv
theorem ExtBut.own {S : Nat → Prop} {w w' : World} {B : Nat} {e : TypeId} {k : Nat} {v : Value} {n : Nat} {xs : List Value} (h : Own w B e k v n xs) (hE : ExtBut S w w') (hS : ∀ g, v.ownBlock = some g → ¬ S g) : Own w' B e k v n xs := by
  refine ⟨h.1, ?_⟩
  rcases h.2 with h2 | ⟨g, cap, cur, rfl, hg, hh, r⟩
  · exact Or.inl h2
  · refine Or.inr ⟨g, cap, cur, rfl, hg, ?_, r⟩
    rw [hE.block g (Array.getElem?_eq_some_iff.1 hh).1 (hS g rfl)]
    exact hh
theorem ExtBut.sl {S : Nat → Prop} {w w' : World} {k : Nat} {v : Value} {n : Nat} {xs : List Value} (h : Sl w k v n xs) (hE : ExtBut S w w') (hS : ∀ g, v.ownBlock = some g → ¬ S g) : Sl w' k v n xs := by
  obtain ⟨h1, a, cap, rfl, h3, h4, h5, h6⟩ := h
  refine ⟨h1, a, cap, rfl, h3, h4, h5, fun j u hj => ?_⟩
  obtain ⟨b, off, rfl, hc⟩ := h6 j u hj
  exact ⟨b, off, rfl, hE.cell hc (hS b rfl)⟩

/-! ### a variable that lies in a block of its own -/
/-- Block B holds these cells. -/
def Box (w : World) (B : Nat) (e : TypeId) (vs : Array Value) : Prop := w.heap[B]? = some (.cells vs e (0, 0))
theorem Box.lt {w : World} {B : Nat} {e : TypeId} {vs : Array Value} (h : Box w B e vs) : B < w.heap.size := (Array.getElem?_eq_some_iff.1 h).1
theorem Box.new (w : World) (e : TypeId) (vs : Array Value) : Box (w.alloc (.cells vs e)) w.heap.size e vs := heap_alloc_new w _
theorem Box.ext {w w' : World} {B : Nat} {e : TypeId} {vs : Array Value} (h : Box w B e vs) (hE : Ext w w') : Box w' B e vs := (hE.blk h.lt).trans h
theorem Box.but {S : Nat → Prop} {w w' : World} {B : Nat} {e : TypeId} {vs : Array Value} (h : Box w B e vs) (hE : ExtBut S w w') (hS : ¬ S B) : Box w' B e vs := (hE.block B h.lt hS).trans h
theorem Box.cell {w : World} {B : Nat} {e : TypeId} {vs : Array Value} (h : Box w B e vs) (j : Nat) : w.cell? ⟨B, j, none⟩ = vs[j]? := by simp [World.cell?, show w.heap[B]? = _ from h]
theorem Box.frozen {w : World} {B : Nat} {e : TypeId} {vs : Array Value} (h : Box w B e vs) (j : Nat) : w.frozen? ⟨B, j, none⟩ = false := by simp [World.frozen?, show w.heap[B]? = _ from h]
theorem Box.set {w : World} {B : Nat} {e : TypeId} {vs : Array Value} (h : Box w B e vs) (j : Nat) (u : Value) : Box (w.setCell ⟨B, j, none⟩ u) B e (vs.setIfInBounds j u) := by
  have hlt := h.lt
  have h' : w.heap[B] = .cells vs e (0, 0) := by
    have : w.heap[B]? = _ := h
    simpa [Array.getElem?_eq_getElem hlt] using this
  show (w.heap.modify B _)[B]? = _
  rw [Array.getElem?_eq_getElem (by simpa using hlt), Array.getElem_modify_self, h']
  rfl
theorem Box.other {w : World} {B : Nat} {e : TypeId} {vs : Array Value} (h : Box w B e vs) {p : Addr} (hp : p.block ≠ B) (u : Value) : Box (w.setCell p u) B e vs :=
  h.but (ExtBut.setCell w p u) (fun e => hp e.symm)

/-! ### a table that the call owns, with the slices in it -/
/-- No two of them lie in one block. -/
def Apart (vs : List Value) : Prop := ∀ (i j : Nat) (a b : Value), i ≠ j → vs[i]? = some a → vs[j]? = some b → ∀ g, a.ownBlock = some g → b.ownBlock ≠ some g

structure OTb {α : Type} (row : Value → α → List Value) (e k : Nat) (RO : World → Nat → Value → α → Prop) (w : World) (B : Nat) (v : Value) (vs : List Value) (l : List α) : Prop where
  outer : Own w B e k v l.length (trows row vs l)
  inner : All2 (RO w B) vs l
  apart : Apart vs
  far : ∀ s ∈ vs, ∀ g, s.ownBlock = some g → v.ownBlock ≠ some g

theorem OTb.but {α : Type} {row : Value → α → List Value} {e k : Nat} {RO : World → Nat → Value → α → Prop} {w w' : World} {S : Nat → Prop} {B : Nat} {v : Value} {vs : List Value} {l : List α}
    (hkeep : ∀ {w w' : World} {S : Nat → Prop} {B : Nat} {s : Value} {a : α}, RO w B s a → ExtBut S w w' → (∀ g, s.ownBlock = some g → ¬ S g) → RO w' B s a)
    (h : OTb row e k RO w B v vs l) (hE : ExtBut S w w') (hv : ∀ g, v.ownBlock = some g → ¬ S g) (hs : ∀ s ∈ vs, ∀ g, s.ownBlock = some g → ¬ S g) : OTb row e k RO w' B v vs l :=
  ⟨ExtBut.own h.outer hE hv, All2.iff.2 ⟨(All2.iff.1 h.inner).1, fun i a b ha hb => hkeep ((All2.iff.1 h.inner).2 i a b ha hb) hE (hs a (List.mem_of_getElem? ha))⟩, h.apart, h.far⟩

theorem OTb.ext {α : Type} {row : Value → α → List Value} {e k : Nat} {RO : World → Nat → Value → α → Prop} {w w' : World} {B : Nat} {v : Value} {vs : List Value} {l : List α}
    (hkeep : ∀ {w w' : World} {S : Nat → Prop} {B : Nat} {s : Value} {a : α}, RO w B s a → ExtBut S w w' → (∀ g, s.ownBlock = some g → ¬ S g) → RO w' B s a)
    (h : OTb row e k RO w B v vs l) (hE : Ext w w') : OTb row e k RO w' B v vs l :=
  h.but hkeep (ExtBut.of_ext (S := fun _ => False) hE) (fun _ _ h => h) (fun _ _ _ _ h => h)
theorem OTb.mono {α : Type} {row : Value → α → List Value} {e k : Nat} {RO : World → Nat → Value → α → Prop} {w : World} {B B' : Nat} {v : Value} {vs : List Value} {l : List α}
    (hmono : ∀ {w : World} {B B' : Nat} {s : Value} {a : α}, RO w B s a → B' ≤ B → RO w B' s a) (h : OTb row e k RO w B v vs l) (hB : B' ≤ B) : OTb row e k RO w B' v vs l :=
  ⟨h.outer.mono hB, h.inner.mono fun _ _ h => hmono h hB, h.apart, h.far⟩
theorem OTb.nil {α : Type} {row : Value → α → List Value} {e k : Nat} {RO : World → Nat → Value → α → Prop} (w : World) (B : Nat) : OTb row e k RO w B (.slice none 0 0) [] [] :=
  ⟨Own.nil _ _ _ _, trivial, fun i j a b _ h => by simp at h, fun s h => by cases h⟩
theorem OTb.inner_lt {α : Type} {row : Value → α → List Value} {e k : Nat} {RO : World → Nat → Value → α → Prop} {w : World} {B : Nat} {v : Value} {vs : List Value} {l : List α}
    (hlt : ∀ {w : World} {B : Nat} {s : Value} {a : α}, RO w B s a → ∀ g, s.ownBlock = some g → B ≤ g ∧ g < w.heap.size) (h : OTb row e k RO w B v vs l) : ∀ s ∈ vs, ∀ g, s.ownBlock = some g → B ≤ g ∧ g < w.heap.size := fun s hs g e => by
  obtain ⟨i, hi⟩ := List.mem_iff_getElem?.1 hs
  obtain ⟨a, _, hr⟩ := h.inner.get' hi
  exact hlt hr g e
/-- One row more. -/
theorem OTb.push {α : Type} {row : Value → α → List Value} {e k : Nat} {RO : World → Nat → Value → α → Prop} {w wx w' : World} {B : Nat} {v v' s : Value} {vs : List Value} {l : List α} {a : α}
    (hkeep : ∀ {w w' : World} {S : Nat → Prop} {B : Nat} {s : Value} {a : α}, RO w B s a → ExtBut S w w' → (∀ g, s.ownBlock = some g → ¬ S g) → RO w' B s a)
    (hlt : ∀ {w : World} {B : Nat} {s : Value} {a : α}, RO w B s a → ∀ g, s.ownBlock = some g → B ≤ g ∧ g < w.heap.size)
    (h : OTb row e k RO w B v vs l) (hE : Ext w wx) (hR : RO wx B s a) (hs : ∀ g, s.ownBlock = some g → w.heap.size ≤ g) (hO : Own w' B e k v' (l.length + 1) (trows row vs l ++ row s a)) (hK : Keeps wx w' B v)
    (hb : v'.ownBlock = v.ownBlock ∨ ∃ g, v'.ownBlock = some g ∧ wx.heap.size ≤ g) : OTb row e k RO w' B v' (vs ++ [s]) (l ++ [a]) := by
  have hl := (All2.iff.1 h.inner).1
  have hX := ExtBut.of_keeps hK
  have hvlt : ∀ g, v.ownBlock = some g → g < w.heap.size := fun g e => (h.outer.lt e).2
  have hold : ∀ s' ∈ vs, ∀ g, s'.ownBlock = some g → g < w.heap.size := fun s' hs' g e => by
    obtain ⟨i, hi⟩ := List.mem_iff_getElem?.1 hs'
    obtain ⟨a', ha', hr⟩ := h.inner.get' hi
    exact (hlt hr g e).2
  have hnew : ∀ s' ∈ vs ++ [s], ∀ g, s'.ownBlock = some g → g < wx.heap.size := fun s' hs' g e => by
    rcases List.mem_append.1 hs' with h1 | h1
    · exact Nat.lt_of_lt_of_le (hold s' h1 g e) hE.size
    · simp at h1
      subst h1
      exact (hlt hR g e).2
  refine ⟨?_, ?_, ?_, ?_⟩
  · rw [trows_append row hl, trows_one, List.length_append]
    exact hO
  · refine All2.append (All2.iff.2 ⟨hl, fun i x y hx hy => ?_⟩) ⟨?_, trivial⟩
    · exact hkeep (hkeep ((All2.iff.1 h.inner).2 i x y hx hy) (ExtBut.of_ext (S := fun _ => False) hE) (fun _ _ h => h)) hX (fun g e1 e2 => h.far x (List.mem_of_getElem? hx) g e1 e2)
    · exact hkeep hR hX (fun g e1 e2 => by have := hs g e1; have := hvlt g e2; omega)
  · intro i j x y hne hx hy g ex ey
    have part : ∀ {i : Nat} {x : Value}, (vs ++ [s])[i]? = some x → (i < vs.length ∧ vs[i]? = some x) ∨ (i = vs.length ∧ x = s) := fun {i x} hx => by
      by_cases hi : i < vs.length
      · rw [List.getElem?_append_left hi] at hx
        exact .inl ⟨hi, hx⟩
      · have hlt := (List.getElem?_eq_some_iff.1 hx).1
        rw [List.length_append, List.length_singleton] at hlt
        have hi' : i = vs.length := by omega
        subst hi'
        simp at hx
        exact .inr ⟨rfl, hx.symm⟩
    rcases part hx with ⟨hi, hx'⟩ | ⟨hi, rfl⟩ <;> rcases part hy with ⟨hj, hy'⟩ | ⟨hj, rfl⟩
    · exact h.apart i j x y hne hx' hy' g ex ey
    · have := hold x (List.mem_of_getElem? hx') g ex
      have := hs g ey
      omega
    · have := hold y (List.mem_of_getElem? hy') g ey
      have := hs g ex
      omega
    · omega
  · intro s' hs' g e1 e2
    rcases hb with hb | ⟨g', hb, hge⟩
    · rw [hb] at e2
      rcases List.mem_append.1 hs' with h1 | h1
      · exact h.far s' h1 g e1 e2
      · simp at h1
        subst h1
        have := hs g e1
        have := hvlt g e2
        omega
    · rw [hb] at e2
      cases e2
      have := hnew s' hs' g e1
      omega

/-- What holds after k rounds of a loop that gives each row a slice of its own. -/
structure CInv {α : Type} (row : Value → α → List Value) (e k : Nat) (RO : World → Nat → Value → α → Prop) (w0 w1 wr : World) (g cap : Nat) (vs0 : List Value) (l : List α) (n : Nat) : Prop where
  vs : ∃ vs : List Value, vs.length = l.length ∧ Own wr w0.heap.size e k (.slice (some ⟨g, 0, none⟩) l.length cap) l.length (trows row vs l) ∧ (∀ (i : Nat) (s : Value) (a : α), i < n → vs[i]? = some s → l[i]? = some a → RO wr w0.heap.size s a ∧ ∀ b, s.ownBlock = some b → w1.heap.size ≤ b ∧ b < wr.heap.size) ∧ (∀ (i j : Nat) (a b : Value), i < n → j < n → i ≠ j → vs[i]? = some a → vs[j]? = some b → ∀ g, a.ownBlock = some g → b.ownBlock ≠ some g) ∧ (∀ i : Nat, n ≤ i → vs[i]? = vs0[i]?)
  ext0 : Ext w0 w1
  glo : w0.heap.size ≤ g ∧ g < w1.heap.size
  keep : ExtBut (· = g) w1 wr

section
variable {α : Type} {row : Value → α → List Value} {e k : Nat} {RO : World → Nat → Value → α → Prop} {w0 w1 wr : World} {g cap : Nat} {vs0 : List Value} {l : List α} {n : Nat}
theorem CInv.ext (h : CInv row e k RO w0 w1 wr g cap vs0 l n) : Ext w0 wr := h.keep.ext h.ext0 fun _ hx => hx ▸ h.glo.1

theorem CInv.start (hv : vs0.length = l.length) (hO : Own w1 w0.heap.size e k (.slice (some ⟨g, 0, none⟩) l.length cap) l.length (trows row vs0 l)) (hE : Ext w0 w1) : CInv row e k RO w0 w1 w1 g cap vs0 l 0 :=
  ⟨⟨vs0, hv, hO, fun i _ _ h => by omega, fun i _ _ _ h => by omega, fun _ _ => rfl⟩, hE, hO.lt rfl, ExtBut.refl _ _⟩

theorem CInv.step (hrow : ∀ s a, (row s a).length = k) (hkeep : ∀ {w w' : World} {S : Nat → Prop} {B : Nat} {s : Value} {a : α}, RO w B s a → ExtBut S w w' → (∀ g, s.ownBlock = some g → ¬ S g) → RO w' B s a)
    (h : CInv row e k RO w0 w1 wr g cap vs0 l n) {a : α} {s s' : Value} {j : Nat} {w' : World} (ha : l[n]? = some a) (hs : vs0[n]? = some s) (hj : j < k) (hset : row s' a = (row s a).set j s') (hE : Ext wr w') (hR : RO w' w0.heap.size s' a)
    (hb : ∀ b, s'.ownBlock = some b → wr.heap.size ≤ b ∧ b < w'.heap.size) : CInv row e k RO w0 w1 (w'.setCell ⟨g, n * k + j, none⟩ s') g cap vs0 l (n + 1) := by
  obtain ⟨⟨vs, hl, hO, hi, hap, hold⟩, h0, hg, hk⟩ := h
  have hsn : vs[n]? = some s := (hold n (Nat.le_refl _)).trans hs
  have hn : n < vs.length := (List.getElem?_eq_some_iff.1 hsn).1
  have hO' := (hO.ext hE).set (n * k + j) s'
  rw [trows_set row hrow hsn ha hj hset, set_same ha] at hO'
  have hk1 := hk.size
  have hE' := hE.size
  have hgr : g < wr.heap.size := by omega
  have hS : ExtBut (· = g) w' (w'.setCell ⟨g, n * k + j, none⟩ s') := ExtBut.setCell w' ⟨g, n * k + j, none⟩ s'
  refine ⟨⟨vs.set n s', by simpa using hl, hO', ?_, ?_, ?_⟩, h0, hg, hk.trans ((ExtBut.of_ext hE).trans hS)⟩
  · intro i x y hin hx hy
    by_cases e1 : i = n
    · subst e1
      rw [List.getElem?_set_self hn] at hx
      cases hx
      rw [ha] at hy
      cases hy
      exact ⟨hkeep hR hS (fun b e he => by have := (hb b e).1; omega), fun b e => ⟨by have := (hb b e).1; omega, by simpa using (hb b e).2⟩⟩
    · rw [List.getElem?_set_ne (fun e => e1 e.symm)] at hx
      obtain ⟨h1, h2⟩ := hi i x y (by omega) hx hy
      exact ⟨hkeep (hkeep h1 (ExtBut.of_ext (S := fun _ => False) hE) (fun _ _ h => h)) hS (fun b e he => by have := (h2 b e).1; omega), fun b e => ⟨(h2 b e).1, by have := (h2 b e).2; simp; omega⟩⟩
  · intro i j' x y hin hjn hne hx hy b hxb hyb
    by_cases e1 : i = n
    · subst e1
      rw [List.getElem?_set_self hn] at hx
      cases hx
      rw [List.getElem?_set_ne hne] at hy
      have hyl : j' < l.length := by rw [← hl]; exact (List.getElem?_eq_some_iff.1 hy).1
      have := ((hi j' y _ (by omega) hy (List.getElem?_eq_getElem hyl)).2 b hyb).2
      have := (hb b hxb).1
      omega
    · rw [List.getElem?_set_ne (fun e => e1 e.symm)] at hx
      by_cases e2 : j' = n
      · subst e2
        rw [List.getElem?_set_self hn] at hy
        cases hy
        have hxl : i < l.length := by rw [← hl]; exact (List.getElem?_eq_some_iff.1 hx).1
        have := ((hi i x _ (by omega) hx (List.getElem?_eq_getElem hxl)).2 b hxb).2
        have := (hb b hyb).1
        omega
      · rw [List.getElem?_set_ne (fun e => e2 e.symm)] at hy
        exact hap i j' x y (by omega) (by omega) hne hx hy b hxb hyb
  · intro i hin
    rw [List.getElem?_set_ne (by omega)]
    exact hold i (by omega)

theorem CInv.finish (h : CInv row e k RO w0 w1 wr g cap vs0 l l.length) : ∃ vs, OTb row e k RO wr w0.heap.size (.slice (some ⟨g, 0, none⟩) l.length cap) vs l ∧ Ext w0 wr ∧ ∀ s ∈ vs, ∀ b, s.ownBlock = some b → w1.heap.size ≤ b := by
  have hE := h.ext
  obtain ⟨⟨vs, hl, hO, hi, hap, hold⟩, h0, hg, hk⟩ := h
  have lt : ∀ {i : Nat} {s : Value}, vs[i]? = some s → i < l.length := fun h => by rw [← hl]; exact (List.getElem?_eq_some_iff.1 h).1
  refine ⟨vs, ⟨hO, All2.iff.2 ⟨hl, fun i s a hs ha => (hi i s a (lt hs) hs ha).1⟩, fun i j a b hne ha hb => hap i j a b (lt ha) (lt hb) hne ha hb, fun s hs b hb => ?_⟩, hE, fun s hs b hb => ?_⟩
  all_goals
    obtain ⟨i, hi2⟩ := List.mem_iff_getElem?.1 hs
  rotate_left
  · exact ((hi i s _ (lt hi2) hi2 (List.getElem?_eq_getElem (lt hi2))).2 b hb).1
  have := ((hi i s _ (lt hi2) hi2 (List.getElem?_eq_getElem (lt hi2))).2 b hb).1
  intro e
  simp only [Value.ownBlock, Option.some.injEq] at e
  omega
end

end Go.Proofs.Ytiikdpfbbcnplaa
