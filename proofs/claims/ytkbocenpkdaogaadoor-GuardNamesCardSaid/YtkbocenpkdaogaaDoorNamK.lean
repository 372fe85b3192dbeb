/- Literal tables of stacks; what the calls of StacksNames give; no program in sight. (printed by gen/names33.py) -/
import Derived.Test.YtkbocenpkdaogaaDoorStkI
import Derived.Test.YtkbocenpkdaogaaDoorReadK
import Derived.Laws.MakeOwn
namespace Go.Proofs.YtkbocenpkdaogaaDoor
set_option maxRecDepth 100000
open Go.RowKit

/-- A literal slice of stacks. -/
theorem Sts.lit (w : World) (cs : Array Value) (vs : List Value) (l : List (List Item)) (n b : Nat) (e : TypeId) (hv : All2 (fun s a => Its w s a) vs l) (hb : w.heap.size = b) (hn : l.length = n) (hm : n ≤ maxLen) (hc : cs.toList = trows srow vs l) : Sts (w.alloc (.cells cs e)) (.slice (some ⟨b, 0, none⟩) n n) l := by
  subst hn hb
  have hs : cs.size = l.length * 1 := by
    have := congrArg List.length hc
    rw [trows_len srow srow_len hv.length] at this
    simpa using this
  have := (Own.lit (B := 0) (e := e) (k := 1) w cs l.length (Nat.zero_le _) hm hs).sl
  rw [hc] at this
  exact ⟨vs, All2.mono (fun _ _ h => Its.ext h ((Ext.refl w).alloc _)) hv, this⟩
theorem Kts.lit (w : World) (cs : Array Value) (vs : List Value) (l : List Stk) (n b : Nat) (e : TypeId) (hv : All2 (fun s (x : Stk) => Sts w s x.cells) vs l) (hb : w.heap.size = b) (hn : l.length = n) (hm : n ≤ maxLen) (hc : cs.toList = trows krow vs l) : Kts (w.alloc (.cells cs e)) (.slice (some ⟨b, 0, none⟩) n n) l := by
  subst hn hb
  have hs : cs.size = l.length * 2 := by
    have := congrArg List.length hc
    rw [trows_len krow krow_len hv.length] at this
    simpa using this
  have := (Own.lit (B := 0) (e := e) (k := 2) w cs l.length (Nat.zero_le _) hm hs).sl
  rw [hc] at this
  exact ⟨vs, All2.mono (fun _ _ h => Sts.ext h ((Ext.refl w).alloc _)) hv, this⟩

theorem Sts.lit1 (w : World) (s : Value) (a : List Item) (b : Nat) (e : TypeId) (h : Its w s a) (hb : w.heap.size = b) : Sts (w.alloc (.cells #[s] e)) (.slice (some ⟨b, 0, none⟩) 1 1) [a] :=
  Sts.lit w #[s] [s] [a] 1 b e ⟨h, trivial⟩ hb rfl (by simp [maxLen]) rfl
theorem Sts.lit2 (w : World) (s t : Value) (a c : List Item) (b : Nat) (e : TypeId) (h : Its w s a) (h2 : Its w t c) (hb : w.heap.size = b) : Sts (w.alloc (.cells #[s, t] e)) (.slice (some ⟨b, 0, none⟩) 2 2) [a, c] :=
  Sts.lit w #[s, t] [s, t] [a, c] 2 b e ⟨h, h2, trivial⟩ hb rfl (by simp [maxLen]) rfl
theorem Sts.lit3 (w : World) (s t u : Value) (a c d : List Item) (b : Nat) (e : TypeId) (h : Its w s a) (h2 : Its w t c) (h3 : Its w u d) (hb : w.heap.size = b) : Sts (w.alloc (.cells #[s, t, u] e)) (.slice (some ⟨b, 0, none⟩) 3 3) [a, c, d] :=
  Sts.lit w #[s, t, u] [s, t, u] [a, c, d] 3 b e ⟨h, h2, h3, trivial⟩ hb rfl (by simp [maxLen]) rfl
theorem Kts.lit5 (w : World) (n0 n1 n2 n3 n4 : Int) (s0 s1 s2 s3 s4 : Value) (l0 l1 l2 l3 l4 : List (List Item)) (b : Nat) (e : TypeId) (h0 : Sts w s0 l0) (h1 : Sts w s1 l1) (h2 : Sts w s2 l2) (h3 : Sts w s3 l3) (h4 : Sts w s4 l4) (hb : w.heap.size = b) :
    Kts (w.alloc (.cells #[.int .i64 n0, s0, .int .i64 n1, s1, .int .i64 n2, s2, .int .i64 n3, s3, .int .i64 n4, s4] e)) (.slice (some ⟨b, 0, none⟩) 5 5) [⟨n0, l0⟩, ⟨n1, l1⟩, ⟨n2, l2⟩, ⟨n3, l3⟩, ⟨n4, l4⟩] :=
  Kts.lit w _ [s0, s1, s2, s3, s4] _ 5 b e ⟨h0, h1, h2, h3, h4, trivial⟩ hb rfl (by simp [maxLen]) rfl

/-- A block of one's own reads as a slice. -/
theorem Sl.of_box {w : World} {b k n : Nat} {e : TypeId} {vs : Array Value} (h : Box w b e vs) (hs : vs.size = n * k) (hm : n ≤ maxLen) : Sl w k (.slice (some ⟨b, 0, none⟩) n n) n vs.toList := by
  refine ⟨by simpa using hs, _, _, rfl, Nat.le_refl _, hm, fun h => (by cases h), fun j u hj => ⟨b, 0, rfl, ?_⟩⟩
  rw [Nat.zero_add, h.cell j]
  simpa using hj
theorem Its.of_box {w : World} {b n : Nat} {e : TypeId} {vs : Array Value} {l : List Item} (h : Box w b e vs) (hn : l.length = n) (hm : n ≤ maxLen) (hc : vs.toList = l.flatMap Item.row) : Its w (.slice (some ⟨b, 0, none⟩) n n) l := by
  subst hn
  have hs : vs.size = l.length * 3 := by
    have := congrArg List.length hc
    rw [rows_len Item.row Item.row_len] at this
    simpa using this
  have := Sl.of_box h hs hm
  rw [hc] at this
  exact this
theorem Nts.of_box {w : World} {b n : Nat} {e : TypeId} {vs : Array Value} {l : List Int} (h : Box w b e vs) (hn : l.length = n) (hm : n ≤ maxLen) (hc : vs.toList = l.flatMap irow) : Nts w (.slice (some ⟨b, 0, none⟩) n n) l := by
  subst hn
  have hs : vs.size = l.length * 1 := by
    have := congrArg List.length hc
    rw [rows_len irow irow_len] at this
    simpa using this
  have := Sl.of_box h hs hm
  rw [hc] at this
  exact this
theorem Sts.of_box {w : World} {b n : Nat} {e : TypeId} {vs : Array Value} {l : List (List Item)} (h : Box w b e vs) (us : List Value) (hv : All2 (fun s a => Its w s a) us l) (hn : l.length = n) (hm : n ≤ maxLen) (hc : vs.toList = trows srow us l) : Sts w (.slice (some ⟨b, 0, none⟩) n n) l := by
  subst hn
  have hs : vs.size = l.length * 1 := by
    have := congrArg List.length hc
    rw [trows_len srow srow_len hv.length] at this
    simpa using this
  have := Sl.of_box h hs hm
  rw [hc] at this
  exact ⟨us, hv, this⟩
theorem make_Stk (n : Nat) (cs : Array Value) (hc : madeCells #[.slice none 0 0] n = cs) (hn : n ≤ 1000000) (W : World) : (Instr.makeSlice 54 (.int .i64 (n : Int)) (.int .i64 (n : Int))).run Tryd.prog W = .ok (.slice (some ⟨W.heap.size, 0, none⟩) n n) (W.alloc (.cells cs 31)) := by
  have h : (Tryd.prog.info? 31).map (fun i => (i.zero.map (fun z => z.cells), i.size, i.bytes)) = some (some #[.slice none 0 0], 1, 24) := by kernel_rfl
  cases hi : Tryd.prog.info? 31 with
  | none => rw [hi] at h; simp at h
  | some i =>
    rw [hi] at h
    simp only [Option.map_some, Option.some.injEq, Prod.mk.injEq] at h
    obtain ⟨h1, h2, h3⟩ := h
    cases hz : i.zero with
    | none => rw [hz] at h1; simp at h1
    | some z =>
      rw [hz] at h1
      have hz' : z.cells = #[.slice none 0 0] := by simpa using h1
      have := run_make W 54 31 i z Tryd.underlying54 hi hz .i64 .i64 n n (by omega) (Int.le_refl _) (by rw [h3]; omega) (by omega)
      rw [this, hz', h2, Int.toNat_natCast, Nat.mul_one, hc]
theorem made1 : madeCells #[.slice none 0 0] 1 = #[.slice none 0 0] := by
  apply Array.toList_inj.1
  simp [madeCells, Array.range]
theorem made3 : madeCells #[.slice none 0 0] 3 = #[.slice none 0 0, .slice none 0 0, .slice none 0 0] := by
  apply Array.toList_inj.1
  simp [madeCells, Array.range]
theorem box_drewK {W w : World} {vs : Array Value} {e : TypeId} (h : Ext (W.alloc (.cells vs e)).drew w) : Box w W.heap.size e vs := Box.ext (Box.ext (Box.new W e vs) (Ext.refl _).drew) h
def bads33 : List Stk := [⟨0, []⟩, ⟨0, [[], [], []]⟩, ⟨-1, [[]]⟩, ⟨1000001, [[]]⟩, ⟨0, [[], [⟨0, 0, 0⟩]]⟩]
theorem bads33_all : ∀ (i : Nat) (x : Stk), bads33[i]? = some x → stkErr x = 8 ∧ use33 x (-1) 0 0 false [] = (Stk.zero, 0, 8) ∧ use33 x (-1) 0 0 true [] = (Stk.zero, 0, 8) ∧ tag33 x (-1) 0 0 0 ⟨0, 0, 0⟩ [] = (Stk.zero, 0, 8) := by
  intro i x hx
  have hm := List.mem_of_getElem? hx
  revert x
  have : ∀ x ∈ bads33, stkErr x = 8 ∧ use33 x (-1) 0 0 false [] = (Stk.zero, 0, 8) ∧ use33 x (-1) 0 0 true [] = (Stk.zero, 0, 8) ∧ tag33 x (-1) 0 0 0 ⟨0, 0, 0⟩ [] = (Stk.zero, 0, 8) := by decide +kernel
  intro x _ hm
  exact this x hm
def rng33 : List (Int × Int) := [(-1, 1), (0, 0), (0, 3), (1, 2), (2, 1), (0, -1), (9223372036854775807, 1), (1, 9223372036854775807)]
def top33 : List Item := [⟨1, 1000000, 0⟩]
def two33 : List (List Item) := [[⟨1, 1, 0⟩, ⟨1, 2, 3⟩], [⟨1, 4, 0⟩]]
theorem rng33_all : ∀ p ∈ rng33, use33 ⟨1000000, [top33, top33]⟩ p.1 p.2 1000000 false [] = (Stk.zero, 0, 6) ∧ use33 ⟨1000000, [top33, top33]⟩ p.1 p.2 1000000 true [] = (Stk.zero, 0, 6) ∧ tag33 ⟨1000000, [top33, top33]⟩ p.1 p.2 9 1000000 ⟨0, 0, 0⟩ [] = (Stk.zero, 0, 6) := by decide +kernel
theorem names33_data : ∃ X : List (List Item), newK 1000000 2 1000000 = (⟨1000000, X⟩, 0) ∧ X.length = 2 ∧ X[1]? = some top33 ∧
    (∀ p ∈ rng33, use33 ⟨1000000, X⟩ p.1 p.2 1000000 false [] = (Stk.zero, 0, 6) ∧ use33 ⟨1000000, X⟩ p.1 p.2 1000000 true [] = (Stk.zero, 0, 6) ∧ tag33 ⟨1000000, X⟩ p.1 p.2 9 1000000 ⟨0, 0, 0⟩ [] = (Stk.zero, 0, 6)) ∧
    tag33 ⟨1000000, X⟩ 0 1 0 1 ⟨0, 0, 0⟩ [] = (Stk.zero, 0, 2) ∧ tag33 ⟨1000000, X⟩ 0 1 5 1 ⟨0, 0, 0⟩ [] = (Stk.zero, 0, 2) ∧ tag33 ⟨1000000, X⟩ 0 1 1 1 ⟨0, -1, 0⟩ [] = (Stk.zero, 0, 2) ∧ tag33 ⟨1000000, X⟩ 0 1 9 1 ⟨0, 0, 0⟩ [] = (Stk.zero, 0, 2) :=
  ⟨[top33, top33], by decide +kernel, rfl, rfl, rng33_all, by decide +kernel, by decide +kernel, by decide +kernel, by decide +kernel⟩
theorem news33_a : newK (-1) 1 0 = (Stk.zero, 2) := by decide +kernel
theorem news33_b : newK 0 1 1000001 = (Stk.zero, 2) := by decide +kernel
theorem news33_c : newK 0 0 0 = (Stk.zero, 2) := by decide +kernel
theorem news33_d : newK 0 3 0 = (Stk.zero, 2) := by decide +kernel
theorem zero33_read : use33 ⟨0, []⟩ 0 1 0 false [0] = (Stk.zero, 0, 8) := by decide +kernel
theorem two33_a : use33 ⟨0, two33⟩ 0 2 1 true [3] = (Stk.zero, 2, 0) := by decide +kernel
theorem two33_b : use33 ⟨0, two33⟩ 1 1 1 true [3] = (Stk.zero, 1, 0) := by decide +kernel
theorem two33_c : use33 ⟨0, two33⟩ 0 2 1 true [] = (Stk.zero, 1, 0) := by decide +kernel

end Go.Proofs.YtkbocenpkdaogaaDoor
