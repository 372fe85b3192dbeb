/- Several texts in one: ReadK, NamK, Law31A, Law31B, DeaA, DeaB, DeaC, DeaD. -/
import Derived.Test.YtkbocenpkdaogaaDoorQ06
import Derived.Test.YtkbocenpkdaogaaDoorQ04
import Derived.Laws.MakeOwn
import Derived.Test.YtkbocenpkdaogaaDoorQ05
import Derived.WalkMore
import Derived.Deep.LoopGhost
/- How the arguments of a statement read: stacks of an allocation, and slices of them. -/
namespace Go.Proofs.YtkbocenpkdaogaaDoor
set_option maxRecDepth 100000
open Go.ChangeShapes Go.WideShapes Go.ChangeAt Go.RowKit

def krow (s : Value) (x : Stk) : List Value := [.int .i64 x.num, s]
theorem krow_len (s : Value) (x : Stk) : (krow s x).length = 2 := rfl
/-- In w the slice v reads as the stacks of many allocations. -/
def Kts (w : World) (v : Value) (l : List Stk) : Prop := Tb krow 2 (fun s x => Sts w s x.cells) w v l
theorem Kts.ext {w w' : World} {v : Value} {l : List Stk} (h : Kts w v l) (he : Ext w w') : Kts w' v l := Tb.ext h he fun _ _ h => Sts.ext h he
theorem Kts.nil (w : World) : Kts w (.slice none 0 0) [] := Tb.nil w
theorem Kts.form {w : World} {v : Value} {l : List Stk} (h : Kts w v l) : ∃ a cap, v = .slice a l.length cap ∧ l.length ≤ cap ∧ cap ≤ maxLen ∧ (a = none → cap = 0) := Tb.form h
theorem Kts.cell {w : World} {a : Option Addr} {n cap : Nat} {l : List Stk} (h : Kts w (.slice a n cap) l) {i : Nat} {x : Stk} (hx : l[i]? = some x) :
    ∃ b off s, a = some ⟨b, off, none⟩ ∧ b < w.heap.size ∧ w.cell? ⟨b, off + i * 2, none⟩ = some (.int .i64 x.num) ∧ w.cell? ⟨b, off + i * 2 + 1, none⟩ = some s ∧ Sts w s x.cells := by
  obtain ⟨b, off, s, rfl, hb, hc, hcell⟩ := Tb.cell h krow_len (by omega) hx
  refine ⟨b, off, s, rfl, hb, ?_, ?_, hc⟩
  · simpa using hcell 0 _ rfl
  · exact hcell 1 _ rfl

section
variable {H : Type} {enc : TypeId × Value → H} {w : World} {base : Nat} {spare : Nat → Bool} {held : Bool}

theorem read_stacks {n : Nat} {cs : List Value} {x : DataW H × List MemPlace} (h : DataW.trod enc Tryd.prog w base spare held n 54 cs = some x) :
    ∃ (v : Value) (l : List (List Item)), cs = [v] ∧ Sts w v l := by
  obtain ⟨v, rows, l, rfl, hs, _, ha⟩ := read_slice (k := 1) Tryd.underlying54 (by kernel_rfl) (by omega) (fun cs (a : List Item) => ∃ s, cs = srow s a ∧ Its w s a) (fun n cs x hl h => by
    obtain ⟨u, l, e, hi, _⟩ := read_items Tryd.underlying31 h
    exact ⟨l, u, e, hi⟩) h
  obtain ⟨vs, h1, h2⟩ := ha.tab
  refine ⟨v, l, rfl, vs, h1, ?_⟩
  rw [← h2, ← ha.length]
  exact hs

theorem read_stk (n : Nat) (cs : List Value) (x : DataW H × List MemPlace) (hl : cs.length = 2) (h : DataW.trod enc Tryd.prog w base spare held n 56 cs = some x) : ∃ (m : Stk) (s : Value), cs = krow s m ∧ Sts w s m.cells ∧ i64B m.num := by
  have c64 : Tryd.prog.cellsOf 3 = 1 := by kernel_rfl
  have cS : Tryd.prog.cellsOf 54 = 1 := by kernel_rfl
  obtain ⟨xs, m, rfl, rfl, _, hx, hf⟩ := DataW.trod_struct Tryd.underlying56 h
  match cs, hl with
  | [c0, c1], _ =>
    have f0 : DataW.trod enc Tryd.prog w base spare held m 3 (([c0, c1].drop 0).take (Tryd.prog.cellsOf 3)) = xs[0]? := hf 0 _ rfl
    have f1 : DataW.trod enc Tryd.prog w base spare held m 54 (([c0, c1].drop 1).take (Tryd.prog.cellsOf 54)) = xs[1]? := hf 1 _ rfl
    rw [c64] at f0
    rw [cS] at f1
    match xs, hx with
    | [y0, y1], _ =>
      obtain ⟨p, e0, _, w0⟩ := DataW.trod_int Tryd.underlying3 f0
      obtain ⟨s, l, e1, hl⟩ := read_stacks f1
      simp at e0 e1
      subst e0 e1
      refine ⟨⟨p, l⟩, c1, rfl, hl, ?_⟩
      simpa [Lit.wf, IntKind.min, IntKind.max, IntKind.signed, IntKind.bits, i64B] using w0

theorem open_stacks {r : Reach} {b0 : Nat} {v : Value} {d : DataW H} {p : List MemPlace} (hv : Value.okWide Tryd.prog w r b0 56 v) (h : DataW.Trod enc Tryd.prog w base spare held 56 v d p) :
    ∃ (m : Stk) (s : Value), v = .agg #[.int .i64 m.num, s] ∧ Sts w s m.cells ∧ i64B m.num := by
  obtain ⟨cs, rfl, hsz⟩ := okWide_struct Tryd.underlying56 hv
  have hc : Tryd.prog.cellsOf 56 = 2 := by kernel_rfl
  obtain ⟨n, hn⟩ := h
  obtain ⟨m, s, e, hl, hw⟩ := read_stk n _ _ (by simp only [Value.cells, Array.length_toList]; exact hsz.trans hc) hn
  refine ⟨m, s, ?_, hl, hw⟩
  congr 1
  apply Array.toList_inj.1
  simpa [Value.cells, krow] using e

theorem open_manystacks {t : Nat} (ht : Tryd.prog.underlying t = some (.slice 56)) {r : Reach} {b0 : Nat} {v : Value} {d : DataW H} {p : List MemPlace} (hv : Value.okWide Tryd.prog w r b0 t v) (h : DataW.Trod enc Tryd.prog w base spare held t v d p) :
    ∃ l : List Stk, Kts w v l ∧ ∀ a ∈ l, i64B a.num := by
  obtain ⟨a0, len, cap, rfl⟩ := okWide_slice ht hv
  obtain ⟨n, hn⟩ := h
  obtain ⟨u, rows, l, e, hs, _, ha⟩ := read_slice (k := 2) ht (by kernel_rfl) (by omega) (fun cs (a : Stk) => ∃ s, cs = krow s a ∧ (Sts w s a.cells ∧ i64B a.num)) (fun n cs x hl h => by
    obtain ⟨m, s, h1, h2, h3⟩ := read_stk n cs x hl h
    exact ⟨m, s, h1, h2, h3⟩) hn
  simp only [Value.cells, List.cons.injEq, and_true] at e
  subst e
  obtain ⟨vs, h1, h2⟩ := ha.tab
  refine ⟨l, ⟨vs, h1.mono fun _ _ h => h.1, ?_⟩, fun a hm => ?_⟩
  · rw [← h2, ← ha.length]
    exact hs
  · obtain ⟨i, hi⟩ := List.mem_iff_getElem?.1 hm
    obtain ⟨s, _, _, hw⟩ := h1.get hi
    exact hw
end

end Go.Proofs.YtkbocenpkdaogaaDoor

/- Literal tables of stacks; what the calls of StacksNames give; no program in sight. (printed by gen/names33.py) -/
namespace Go.Proofs.YtkbocenpkdaogaaDoor
set_option maxRecDepth 100000
open Go.RowKit

/-- A literal slice of stacks. -/
theorem Sts.lit (w : World) (cs : Array Value) (vs : List Value) (l : List (List Item)) (n b : Nat) (e : TypeId) (hv : All2 (fun s a => Its w s a) vs l) (hb : w.heap.size = b) (hn : l.length = n) (hm : n ≤ maxLen) (hc : cs.toList = trows srow vs l) : Sts (w.alloc (.cells cs e)) (.slice (some ⟨b, 0, none⟩) n n) l := by
  subst hn hb
  have hs : cs.size = l.length * 1 := by
    have := congrArg List.length hc
    rw [trows_len srow srow_len hv.length] at this
    simpa using this
  have := (Own.lit (B := 0) (e := e) (k := 1) w cs l.length (Nat.zero_le _) hm hs).sl
  rw [hc] at this
  exact ⟨vs, All2.mono (fun _ _ h => Its.ext h ((Ext.refl w).alloc _)) hv, this⟩
theorem Kts.lit (w : World) (cs : Array Value) (vs : List Value) (l : List Stk) (n b : Nat) (e : TypeId) (hv : All2 (fun s (x : Stk) => Sts w s x.cells) vs l) (hb : w.heap.size = b) (hn : l.length = n) (hm : n ≤ maxLen) (hc : cs.toList = trows krow vs l) : Kts (w.alloc (.cells cs e)) (.slice (some ⟨b, 0, none⟩) n n) l := by
  subst hn hb
  have hs : cs.size = l.length * 2 := by
    have := congrArg List.length hc
    rw [trows_len krow krow_len hv.length] at this
    simpa using this
  have := (Own.lit (B := 0) (e := e) (k := 2) w cs l.length (Nat.zero_le _) hm hs).sl
  rw [hc] at this
  exact ⟨vs, All2.mono (fun _ _ h => Sts.ext h ((Ext.refl w).alloc _)) hv, this⟩

theorem Sts.lit1 (w : World) (s : Value) (a : List Item) (b : Nat) (e : TypeId) (h : Its w s a) (hb : w.heap.size = b) : Sts (w.alloc (.cells #[s] e)) (.slice (some ⟨b, 0, none⟩) 1 1) [a] :=
  Sts.lit w #[s] [s] [a] 1 b e ⟨h, trivial⟩ hb rfl (by simp [maxLen]) rfl
theorem Sts.lit2 (w : World) (s t : Value) (a c : List Item) (b : Nat) (e : TypeId) (h : Its w s a) (h2 : Its w t c) (hb : w.heap.size = b) : Sts (w.alloc (.cells #[s, t] e)) (.slice (some ⟨b, 0, none⟩) 2 2) [a, c] :=
  Sts.lit w #[s, t] [s, t] [a, c] 2 b e ⟨h, h2, trivial⟩ hb rfl (by simp [maxLen]) rfl
theorem Sts.lit3 (w : World) (s t u : Value) (a c d : List Item) (b : Nat) (e : TypeId) (h : Its w s a) (h2 : Its w t c) (h3 : Its w u d) (hb : w.heap.size = b) : Sts (w.alloc (.cells #[s, t, u] e)) (.slice (some ⟨b, 0, none⟩) 3 3) [a, c, d] :=
  Sts.lit w #[s, t, u] [s, t, u] [a, c, d] 3 b e ⟨h, h2, h3, trivial⟩ hb rfl (by simp [maxLen]) rfl
theorem Kts.lit5 (w : World) (n0 n1 n2 n3 n4 : Int) (s0 s1 s2 s3 s4 : Value) (l0 l1 l2 l3 l4 : List (List Item)) (b : Nat) (e : TypeId) (h0 : Sts w s0 l0) (h1 : Sts w s1 l1) (h2 : Sts w s2 l2) (h3 : Sts w s3 l3) (h4 : Sts w s4 l4) (hb : w.heap.size = b) :
    Kts (w.alloc (.cells #[.int .i64 n0, s0, .int .i64 n1, s1, .int .i64 n2, s2, .int .i64 n3, s3, .int .i64 n4, s4] e)) (.slice (some ⟨b, 0, none⟩) 5 5) [⟨n0, l0⟩, ⟨n1, l1⟩, ⟨n2, l2⟩, ⟨n3, l3⟩, ⟨n4, l4⟩] :=
  Kts.lit w _ [s0, s1, s2, s3, s4] _ 5 b e ⟨h0, h1, h2, h3, h4, trivial⟩ hb rfl (by simp [maxLen]) rfl

/-- A block of one's own reads as a slice. -/
theorem Sl.of_box {w : World} {b k n : Nat} {e : TypeId} {vs : Array Value} (h : Box w b e vs) (hs : vs.size = n * k) (hm : n ≤ maxLen) : Sl w k (.slice (some ⟨b, 0, none⟩) n n) n vs.toList := by
  refine ⟨by simpa using hs, _, _, rfl, Nat.le_refl _, hm, fun h => (by cases h), fun j u hj => ⟨b, 0, rfl, ?_⟩⟩
  rw [Nat.zero_add, h.cell j]
  simpa using hj
theorem Its.of_box {w : World} {b n : Nat} {e : TypeId} {vs : Array Value} {l : List Item} (h : Box w b e vs) (hn : l.length = n) (hm : n ≤ maxLen) (hc : vs.toList = l.flatMap Item.row) : Its w (.slice (some ⟨b, 0, none⟩) n n) l := by
  subst hn
  have hs : vs.size = l.length * 3 := by
    have := congrArg List.length hc
    rw [rows_len Item.row Item.row_len] at this
    simpa using this
  have := Sl.of_box h hs hm
  rw [hc] at this
  exact this
theorem Nts.of_box {w : World} {b n : Nat} {e : TypeId} {vs : Array Value} {l : List Int} (h : Box w b e vs) (hn : l.length = n) (hm : n ≤ maxLen) (hc : vs.toList = l.flatMap irow) : Nts w (.slice (some ⟨b, 0, none⟩) n n) l := by
  subst hn
  have hs : vs.size = l.length * 1 := by
    have := congrArg List.length hc
    rw [rows_len irow irow_len] at this
    simpa using this
  have := Sl.of_box h hs hm
  rw [hc] at this
  exact this
theorem Sts.of_box {w : World} {b n : Nat} {e : TypeId} {vs : Array Value} {l : List (List Item)} (h : Box w b e vs) (us : List Value) (hv : All2 (fun s a => Its w s a) us l) (hn : l.length = n) (hm : n ≤ maxLen) (hc : vs.toList = trows srow us l) : Sts w (.slice (some ⟨b, 0, none⟩) n n) l := by
  subst hn
  have hs : vs.size = l.length * 1 := by
    have := congrArg List.length hc
    rw [trows_len srow srow_len hv.length] at this
    simpa using this
  have := Sl.of_box h hs hm
  rw [hc] at this
  exact ⟨us, hv, this⟩
theorem make_Stk (n : Nat) (cs : Array Value) (hc : madeCells #[.slice none 0 0] n = cs) (hn : n ≤ 1000000) (W : World) : (Instr.makeSlice 54 (.int .i64 (n : Int)) (.int .i64 (n : Int))).run Tryd.prog W = .ok (.slice (some ⟨W.heap.size, 0, none⟩) n n) (W.alloc (.cells cs 31)) := by
  have h : (Tryd.prog.info? 31).map (fun i => (i.zero.map (fun z => z.cells), i.size, i.bytes)) = some (some #[.slice none 0 0], 1, 24) := by kernel_rfl
  cases hi : Tryd.prog.info? 31 with
  | none => rw [hi] at h; simp at h
  | some i =>
    rw [hi] at h
    simp only [Option.map_some, Option.some.injEq, Prod.mk.injEq] at h
    obtain ⟨h1, h2, h3⟩ := h
    cases hz : i.zero with
    | none => rw [hz] at h1; simp at h1
    | some z =>
      rw [hz] at h1
      have hz' : z.cells = #[.slice none 0 0] := by simpa using h1
      have := run_make W 54 31 i z Tryd.underlying54 hi hz .i64 .i64 n n (by omega) (Int.le_refl _) (by rw [h3]; omega) (by omega)
      rw [this, hz', h2, Int.toNat_natCast, Nat.mul_one, hc]
theorem made1 : madeCells #[.slice none 0 0] 1 = #[.slice none 0 0] := by
  apply Array.toList_inj.1
  simp [madeCells, Array.range]
theorem made3 : madeCells #[.slice none 0 0] 3 = #[.slice none 0 0, .slice none 0 0, .slice none 0 0] := by
  apply Array.toList_inj.1
  simp [madeCells, Array.range]
theorem box_drewK {W w : World} {vs : Array Value} {e : TypeId} (h : Ext (W.alloc (.cells vs e)).drew w) : Box w W.heap.size e vs := Box.ext (Box.ext (Box.new W e vs) (Ext.refl _).drew) h
def bads33 : List Stk := [⟨0, []⟩, ⟨0, [[], [], []]⟩, ⟨-1, [[]]⟩, ⟨1000001, [[]]⟩, ⟨0, [[], [⟨0, 0, 0⟩]]⟩]
theorem bads33_all : ∀ (i : Nat) (x : Stk), bads33[i]? = some x → stkErr x = 8 ∧ use33 x (-1) 0 0 false [] = (Stk.zero, 0, 8) ∧ use33 x (-1) 0 0 true [] = (Stk.zero, 0, 8) ∧ tag33 x (-1) 0 0 0 ⟨0, 0, 0⟩ [] = (Stk.zero, 0, 8) := by
  intro i x hx
  have hm := List.mem_of_getElem? hx
  revert x
  have : ∀ x ∈ bads33, stkErr x = 8 ∧ use33 x (-1) 0 0 false [] = (Stk.zero, 0, 8) ∧ use33 x (-1) 0 0 true [] = (Stk.zero, 0, 8) ∧ tag33 x (-1) 0 0 0 ⟨0, 0, 0⟩ [] = (Stk.zero, 0, 8) := by decide +kernel
  intro x _ hm
  exact this x hm
def rng33 : List (Int × Int) := [(-1, 1), (0, 0), (0, 3), (1, 2), (2, 1), (0, -1), (9223372036854775807, 1), (1, 9223372036854775807)]
def top33 : List Item := [⟨1, 1000000, 0⟩]
def two33 : List (List Item) := [[⟨1, 1, 0⟩, ⟨1, 2, 3⟩], [⟨1, 4, 0⟩]]
theorem rng33_all : ∀ p ∈ rng33, use33 ⟨1000000, [top33, top33]⟩ p.1 p.2 1000000 false [] = (Stk.zero, 0, 6) ∧ use33 ⟨1000000, [top33, top33]⟩ p.1 p.2 1000000 true [] = (Stk.zero, 0, 6) ∧ tag33 ⟨1000000, [top33, top33]⟩ p.1 p.2 9 1000000 ⟨0, 0, 0⟩ [] = (Stk.zero, 0, 6) := by decide +kernel
theorem names33_data : ∃ X : List (List Item), newK 1000000 2 1000000 = (⟨1000000, X⟩, 0) ∧ X.length = 2 ∧ X[1]? = some top33 ∧
    (∀ p ∈ rng33, use33 ⟨1000000, X⟩ p.1 p.2 1000000 false [] = (Stk.zero, 0, 6) ∧ use33 ⟨1000000, X⟩ p.1 p.2 1000000 true [] = (Stk.zero, 0, 6) ∧ tag33 ⟨1000000, X⟩ p.1 p.2 9 1000000 ⟨0, 0, 0⟩ [] = (Stk.zero, 0, 6)) ∧
    tag33 ⟨1000000, X⟩ 0 1 0 1 ⟨0, 0, 0⟩ [] = (Stk.zero, 0, 2) ∧ tag33 ⟨1000000, X⟩ 0 1 5 1 ⟨0, 0, 0⟩ [] = (Stk.zero, 0, 2) ∧ tag33 ⟨1000000, X⟩ 0 1 1 1 ⟨0, -1, 0⟩ [] = (Stk.zero, 0, 2) ∧ tag33 ⟨1000000, X⟩ 0 1 9 1 ⟨0, 0, 0⟩ [] = (Stk.zero, 0, 2) :=
  ⟨[top33, top33], by decide +kernel, rfl, rfl, rng33_all, by decide +kernel, by decide +kernel, by decide +kernel, by decide +kernel⟩
theorem news33_a : newK (-1) 1 0 = (Stk.zero, 2) := by decide +kernel
theorem news33_b : newK 0 1 1000001 = (Stk.zero, 2) := by decide +kernel
theorem news33_c : newK 0 0 0 = (Stk.zero, 2) := by decide +kernel
theorem news33_d : newK 0 3 0 = (Stk.zero, 2) := by decide +kernel
theorem zero33_read : use33 ⟨0, []⟩ 0 1 0 false [0] = (Stk.zero, 0, 8) := by decide +kernel
theorem two33_a : use33 ⟨0, two33⟩ 0 2 1 true [3] = (Stk.zero, 2, 0) := by decide +kernel
theorem two33_b : use33 ⟨0, two33⟩ 1 1 1 true [3] = (Stk.zero, 1, 0) := by decide +kernel
theorem two33_c : use33 ⟨0, two33⟩ 0 2 1 true [] = (Stk.zero, 1, 0) := by decide +kernel

end Go.Proofs.YtkbocenpkdaogaaDoor

/- Contracts: the helpers of the statements of layer 31 that use layer 30. (printed by gen/law31b.py) -/
namespace Go.Proofs.YtkbocenpkdaogaaDoor
set_option maxRecDepth 100000
open Go.RowKit

def ex31 : List Item := [⟨1, 1, 0⟩, ⟨1, 2, 5⟩]
theorem ex31_a : useR ex31 1 true [5] = ([], 2, 0) := by decide
theorem ex31_b : useR ex31 1 true [4] = ([⟨1, 1, 0⟩], 0, 0) := by decide
/-- A literal slice of numbers reads as its numbers. -/
theorem Nts.litl (w : World) (cs : Array Value) (l : List Int) (n b : Nat) (hb : w.heap.size = b) (hn : l.length = n) (hm : n ≤ maxLen) (hc : cs.toList = l.flatMap irow) : Nts (w.alloc (.cells cs 3)) (.slice (some ⟨b, 0, none⟩) n n) l := by
  subst hn hb
  have hs : cs.size = l.length * 1 := by
    have := congrArg List.length hc
    rw [rows_len irow irow_len] at this
    simpa using this
  have := (Own.lit (B := 0) (e := 3) (k := 1) w cs l.length (Nat.zero_le _) hm hs).sl
  rw [hc] at this
  exact this

set_option maxHeartbeats 400000 in
theorem law31_example (w : World) : Calls Tryd.prog 21 #[] w (RetL 23 w ex31) := by
  have hO := Own.lit (B := w.heap.size) (e := 23) (k := 3) w #[.int .u8 1, .int .i64 1, .int .i64 0, .int .u8 1, .int .i64 2, .int .i64 5] 2 (Nat.le_refl _) (by simp [maxLen]) rfl
  go_enter Tryd.func21, Tryd.ntmps21
  go_wp2
  go_ret
  exact ⟨_, rfl, hO, (Ext.refl _).alloc _⟩

set_option maxHeartbeats 1600000 in
set_option maxRecDepth 100000 in
theorem law31_aliveO (w : World) : Calls Tryd.prog 22 #[] w fun e w' => e = .returned (.bool true) ∧ Ext w w' := by
  go_enter Tryd.func22, Tryd.ntmps22
  go_wp2_with fail
  refine (law31_example _).mono ?_
  rintro e w1 ⟨vx, rfl, hvx, hE1⟩
  have hX : Its w1 vx ex31 := hvx.sl
  clear hvx
  obtain ⟨a1, c1, rfl, -⟩ := hX.form
  go_wp2_with fail
  have hx1 : Ext w1 (w1.alloc (.cells #[.int .i64 5] 3)) := (Ext.refl _).alloc _
  refine (guard_WriteO (run := [5]) 1 (hX.ext hx1) (Nts.litl _ _ _ _ _ rfl rfl (by simp [maxLen]) rfl)).mono ?_
  rintro e w2 ⟨va, rfl, hva, hE2⟩
  have hF2 := (hE1.trans hx1).trans hE2
  rw [ex31_a] at hva
  rw [ex31_a]
  obtain ⟨a2, c2, rfl, -⟩ := hva.its.form
  replace hva := hva.its; clear hva hX
  dsimp only [List.length_nil]
  go_wp2_with fail
  refine (law31_example _).mono ?_
  rintro e w3 ⟨vy, rfl, hvy, hE3⟩
  have hF3 := hF2.trans hE3
  have hY : Its w3 vy ex31 := hvy.sl
  clear hvy
  obtain ⟨a3, c3, rfl, -⟩ := hY.form
  go_wp2_with fail
  have hx3 : Ext w3 (w3.alloc (.cells #[.int .i64 4] 3)) := (Ext.refl _).alloc _
  refine (guard_WriteO (run := [4]) 1 (hY.ext hx3) (Nts.litl _ _ _ _ _ rfl rfl (by simp [maxLen]) rfl)).mono ?_
  rintro e w4 ⟨vb, rfl, hvb, hE4⟩
  have hF4 := (hF3.trans hx3).trans hE4
  rw [ex31_b] at hvb
  rw [ex31_b]
  replace hvb := hvb.its; obtain ⟨a4, c4, rfl, -⟩ := hvb.form
  clear hY
  dsimp only
  go_wp2_with fail
  refine (law31_example _).mono ?_
  rintro e w5 ⟨vz, rfl, hvz, hE5⟩
  have hF5 := hF4.trans hE5
  have hZ : Its w5 vz ex31 := hvz.sl
  clear hvz
  obtain ⟨a5, c5, rfl, hc5, -⟩ := hZ.form
  have hz1 := hZ.take 1 (by decide)
  have hc6 : 1 ≤ c5 := Nat.le_trans (by decide) hc5
  have hs1 := slice_upto_Stack a5 ex31 c5 1 1 rfl hc6
  go_wp2_with fail
  refine (ref28_Same_yes (hvb.ext hE5) hz1).mono ?_
  rintro e w6 ⟨rfl, hE6⟩
  go_wp2
  go_ret
  exact ⟨rfl, hF5.trans hE6⟩


/-- An access by its number: 0 reads, 5 writes, each other one retags with this kind, an item of the tag 9. -/
def doR (l : List Item) (what tag : Int) (run : List Int) : List Item × Int × Int := if what = 0 then useR l tag false run else if what = 5 then useR l tag true run else tagR l what tag ⟨0, 9, 0⟩ run


end Go.Proofs.YtkbocenpkdaogaaDoor

/- Plain laws of layer 31: fewer calls, none; what is held stays. No program in sight. -/
namespace Go.Proofs.YtkbocenpkdaogaaDoor
set_option maxRecDepth 100000
open Go.RowKit

/-- What the unguarded access gives: the stack, what goes, why not, the error. -/
def baseR (l : List Item) (k tag : Int) : List Item × List Item × Int × Int :=
  if k = 0 then (accL l tag false, accG l tag false, accW l tag false, chk l) else if k = 5 then (accL l tag true, accG l tag true, accW l tag true, chk l) else retagR l k tag ⟨0, 9, 0⟩
theorem doR_base (l : List Item) (k tag : Int) (run : List Int) : doR l k tag run = if okR run then toldR' (baseR l k tag).1 (baseR l k tag).2.1 (baseR l k tag).2.2.1 (baseR l k tag).2.2.2 run else ([], 0, 8) := by
  unfold doR baseR useR tagR
  by_cases h0 : k = 0
  · rw [if_pos h0, if_pos h0]
  · rw [if_neg h0, if_neg h0]
    by_cases h5 : k = 5
    · rw [if_pos h5, if_pos h5]
    · rw [if_neg h5, if_neg h5]

theorem firstR_isSome (G : List Item) (run : List Int) : (firstR G run).isSome = G.any (heldBy run) := by
  unfold firstR
  induction G with
  | nil => rfl
  | cons x G ih =>
    rw [List.findIdx?_cons, List.any_cons]
    cases heldBy run x
    · simp only [Bool.false_or]
      rw [← ih]
      simp
    · simp

theorem okFrom_weak {a b : Int} {l : List Int} (h : okFrom b l = true) (hab : a ≤ b) : okFrom a l = true := by
  cases l with
  | nil => rfl
  | cons x l =>
    simp only [okFrom, Bool.and_eq_true, decide_eq_true_eq] at h ⊢
    exact ⟨⟨by omega, h.1.2⟩, h.2⟩
theorem okFrom_erase {last : Int} {l : List Int} (h : okFrom last l = true) (i : Nat) : okFrom last (l.take i ++ l.drop (i + 1)) = true := by
  induction l generalizing last i with
  | nil => simp [okFrom]
  | cons x l ih =>
    have h' := h
    simp only [okFrom, Bool.and_eq_true, decide_eq_true_eq] at h'
    cases i with
    | zero => simpa using okFrom_weak h'.2 (by omega)
    | succ i =>
      rw [List.take_succ_cons, List.drop_succ_cons, List.cons_append]
      simp only [okFrom, Bool.and_eq_true, decide_eq_true_eq]
      exact ⟨h'.1, ih h'.2 i⟩
theorem okR_erase {run : List Int} (h : okR run = true) {i : Nat} (hi : i < run.length) : okR (run.take i ++ run.drop (i + 1)) = true := by
  have h1 := okR_len h
  have h2 := okFrom_erase (okR_from h) i
  unfold okR
  rw [h2, Bool.and_true, decide_eq_true_eq, List.length_append, List.length_take, List.length_drop]
  omega
theorem held_fewer {run : List Int} {i : Nat} {G : List Item} (h : (firstR G (run.take i ++ run.drop (i + 1))).isSome = true) : (firstR G run).isSome = true := by
  rw [firstR_isSome] at h ⊢
  obtain ⟨x, hx, hh⟩ := List.any_eq_true.1 h
  refine List.any_eq_true.2 ⟨x, hx, ?_⟩
  unfold heldBy hasR at hh ⊢
  rw [List.contains_iff_mem] at hh ⊢
  rcases List.mem_append.1 hh with hh | hh
  · exact List.mem_of_mem_take hh
  · exact List.mem_of_mem_drop hh

theorem fewer_law {l : List Item} {k tag : Int} {run : List Int} (h : okR run = true) {i : Nat} (hi : i < run.length) {A B : List Item} {v e w f : Int} (hA : doR l k tag run = (A, v, e)) (hB : doR l k tag (run.take i ++ run.drop (i + 1)) = (B, w, f)) :
    f = e ∧ ((v = 2 ∧ e = 0) ∨ (B = A ∧ w = v)) := by
  rw [doR_base, if_pos h] at hA
  rw [doR_base, if_pos (okR_erase h hi)] at hB
  generalize baseR l k tag = b at hA hB
  obtain ⟨X, G, why, er⟩ := b
  simp only at hA hB
  by_cases hr : er = 0 ∧ why = 0 ∧ (firstR G run).isSome = true
  · rw [toldR'_yes hr] at hA
    simp only [Prod.mk.injEq] at hA
    obtain ⟨rfl, rfl, rfl⟩ := hA
    by_cases hr' : er = 0 ∧ why = 0 ∧ (firstR G (run.take i ++ run.drop (i + 1))).isSome = true
    · rw [toldR'_yes hr'] at hB
      simp only [Prod.mk.injEq] at hB
      exact ⟨hB.2.2.symm, .inl ⟨rfl, rfl⟩⟩
    · rw [toldR'_no hr'] at hB
      simp only [Prod.mk.injEq] at hB
      exact ⟨by rw [← hB.2.2, hr.1], .inl ⟨rfl, rfl⟩⟩
  · have hr' : ¬ (er = 0 ∧ why = 0 ∧ (firstR G (run.take i ++ run.drop (i + 1))).isSome = true) := fun h' => hr ⟨h'.1, h'.2.1, held_fewer h'.2.2⟩
    rw [toldR'_no hr] at hA
    rw [toldR'_no hr', hA] at hB
    simp only [Prod.mk.injEq] at hB
    exact ⟨hB.2.2.symm, .inr ⟨hB.1.symm, hB.2.1.symm⟩⟩

theorem none_law {l : List Item} {k tag : Int} : doR l k tag [] = ((baseR l k tag).1, (baseR l k tag).2.2.1, (baseR l k tag).2.2.2) := by
  rw [doR_base, if_pos (by decide), toldR'_no]
  rw [firstR_isSome]
  rintro ⟨-, -, h⟩
  obtain ⟨x, -, hh⟩ := List.any_eq_true.1 h
  simp [heldBy, hasR] at hh

theorem slice_from_Ints (a : Option Addr) (l : List Int) (cap : Nat) (x : Int) (k : Nat) (hx : x = k) (hk : k ≤ l.length) :
    ∃ b c, (∀ w, (Instr.slice 37 (.slice a l.length cap) (some (.int .i64 x)) none none).run Tryd.prog w = .ok (.slice b (l.length - k) c) w) ∧ ∀ w, Nts w (.slice a l.length cap) l → Nts w (.slice b (l.length - k) c) (l.drop k) := by
  obtain ⟨i, z, hi, hz, hi3, hz3, hby⟩ := Int.infoE
  refine ⟨_, _, fun w => run_slice_from Tryd.underlying37 hi a l.length cap x k hx hk w, fun w h => ?_⟩
  rw [hi3]
  have := Sl.drop h k hk
  rw [rows_drop irow irow_len] at this
  unfold Nts
  rw [List.length_drop]
  exact this

end Go.Proofs.YtkbocenpkdaogaaDoor

/- Contracts: the held items of layer 34: holds, free. (printed by gen/dea34.py) -/
namespace Go.Proofs.YtkbocenpkdaogaaDoor
set_option maxRecDepth 100000
open Go.RowKit

def freeB (l : List (List Item)) (run : List Int) : Bool := !(l.any fun s => s.any (heldBy run))
def keptL (l : List (List Item)) (run : List Int) : List Item := l.flatMap fun s => s.filter (heldBy run)

/-- The two facts that a search keeps: what stands left of i is less, what stands from j on is not. -/
theorem search_endC {l : List Int} {t : Int} (hs : okFrom 0 l = true) {i : Nat} (hlo : ∀ k x, k < i → l[k]? = some x → x < t) (hhi : ∀ k x, i ≤ k → l[k]? = some x → t ≤ x) : l.contains t = (l[i]? == some t) := by
  cases h : l.contains t
  · cases h2 : (l[i]? == some t)
    · rfl
    · have h3 : l[i]? = some t := by simpa using h2
      have := List.mem_of_getElem? h3
      have h4 : l.contains t = true := by simpa using this
      rw [h] at h4; cases h4
  · have hm : t ∈ l := by simpa using h
    obtain ⟨k, hk⟩ := List.mem_iff_getElem?.1 hm
    rcases Nat.lt_trichotomy k i with h1 | h1 | h1
    · have := hlo k t h1 hk; omega
    · subst h1; simp [hk]
    · have hlt : i < l.length := by have := (List.getElem?_eq_some_iff.1 hk).1; omega
      have h5 : l[i]? = some l[i] := by simp [hlt]
      have := hhi i _ (Nat.le_refl _) h5
      have := okFrom_lt hs h1 h5 hk
      omega

set_option maxHeartbeats 1600000 in
theorem binarySearchC {l : List Int} {v : Value} {w : World} (t : Int) (hl : Nts w v l) (hs : okFrom 0 l = true) (hlen : l.length ≤ 1000) :
    Calls Tryd.prog 74 #[v, .int .i64 t] w (RetIB (hasR l t) w) := by
  obtain ⟨a, cp, rfl, hlc, hcm, -⟩ := hl.form
  unfold maxLen at hcm
  have hL := Lib.hid hl
  have hS := Lib.hid hs
  clear hl hs
  go_enter Tryd.func74, Tryd.ntmps74
  go_wp2
  go_loop [7, 8] (fun iv jv => ∃ i j : Nat, i ≤ j ∧ j ≤ l.length ∧ iv = .int .i64 i ∧ jv = .int .i64 j ∧ Hid ((∀ k x, k < i → l[k]? = some x → x < t) ∧ (∀ k x, j ≤ k → l[k]? = some x → t ≤ x))) (fun iv jv => (intOf jv).toNat - (intOf iv).toNat)
  case atStart => exact ⟨0, l.length, Nat.zero_le _, Nat.le_refl _, rfl, rfl, ⟨fun k x h => by omega, fun k x h hx => by rw [List.getElem?_eq_none h] at hx; cases hx⟩⟩
  case round =>
    obtain ⟨i, j, hij, hj, rfl, rfl, hN⟩ := hrel
    by_cases hlt : i < j
    · obtain ⟨x, hx⟩ : ∃ x, l[(i + j) / 2]? = some x := ⟨l[(i + j) / 2]'(by omega), by simp⟩
      obtain ⟨b, off, rfl, hb, c0⟩ := hL.out.cell hx
      have hi0 : (0 : Int) ≤ ((i : Int) + (j : Int)) / 2 := by omega
      have hi1 : ((i : Int) + (j : Int)) / 2 < (l.length : Int) := by omega
      have hmid : Hid (i ≤ (i + j) / 2 ∧ (i + j) / 2 < j) := Hid.mk (by omega)
      by_cases hxt : x < t
      · have hq : Hid (decide (x < t) = true) := Hid.mk (decide_eq_true hxt)
        have hR : Hid ((∀ k y, k < (i + j) / 2 + 1 → l[k]? = some y → y < t) ∧ (∀ k y, j ≤ k → l[k]? = some y → t ≤ y)) := Hid.mk ⟨fun k y hk hy => by
          rcases Nat.lt_or_eq_of_le (Nat.lt_succ_iff.1 hk) with h1 | h1
          · have := okFrom_lt hS.out h1 hy hx; omega
          · subst h1; rw [hx] at hy; cases hy; exact hxt, hN.out.2⟩
        clear hx hxt
        go_wp2_with fail
        refine (cmp_Less _ _ _).mono ?_
        rintro e w' ⟨rfl, rfl⟩
        rw [hq.out]
        go_wp2
        go_round
        case rel => exact ⟨(i + j) / 2 + 1, j, by have := hmid.out; omega, hj, by congr 1, rfl, hR.out⟩
        case measure => have := hmid.out; simp [intOf]; omega
      · have hq : Hid (decide (x < t) = false) := Hid.mk (decide_eq_false hxt)
        have hR : Hid ((∀ k y, k < i → l[k]? = some y → y < t) ∧ (∀ k y, (i + j) / 2 ≤ k → l[k]? = some y → t ≤ y)) := Hid.mk ⟨hN.out.1, fun k y hk hy => by
          rcases Nat.lt_or_eq_of_le hk with h1 | h1
          · have := okFrom_lt hS.out h1 hx hy; omega
          · subst h1; rw [hx] at hy; cases hy; omega⟩
        clear hx hxt
        go_wp2_with fail
        refine (cmp_Less _ _ _).mono ?_
        rintro e w' ⟨rfl, rfl⟩
        rw [hq.out]
        go_wp2
        go_round
        case rel => exact ⟨i, (i + j) / 2, by have := hmid.out; omega, by have := hmid.out; omega, rfl, by congr 1, hR.out⟩
        case measure => have := hmid.out; simp [intOf]; omega
    · obtain rfl : i = j := by omega
      have hend := search_endC hS.out hN.out.1 hN.out.2
      by_cases hil : i < l.length
      · obtain ⟨x, hx⟩ : ∃ x, l[i]? = some x := ⟨l[i], by simp [hil]⟩
        obtain ⟨b, off, rfl, hb, c0⟩ := hL.out.cell hx
        have hi0 : (0 : Int) ≤ (i : Int) := by omega
        have hi1 : (i : Int) < (l.length : Int) := by omega
        have hd : decide ((i : Int) < (l.length : Int)) = true := decide_eq_true (by omega)
        rw [hx] at hend
        have hend' : Hid (hasR l t = (x == t)) := Hid.mk (by rw [hasR, hend]; rfl)
        clear hx hend
        cases hxt : x == t
        · rw [hxt] at hend'
          go_wp2_with (go_at_call 79; refine (slices_isNaN _ _).mono ?_; rintro e w' ⟨rfl, rfl⟩)
          go_ret2
          exact ⟨_, by rw [hend'.out]; rfl, rfl⟩
        · rw [hxt] at hend'
          go_wp2_with (go_at_call 79; refine (slices_isNaN _ _).mono ?_; rintro e w' ⟨rfl, rfl⟩)
          go_ret2
          exact ⟨_, by rw [hend'.out]; rfl, rfl⟩
      · have hd : decide ((i : Int) < (l.length : Int)) = false := decide_eq_false (by omega)
        rw [List.getElem?_eq_none (by omega)] at hend
        have hend' : Hid (hasR l t = false) := Hid.mk (by rw [hasR, hend]; rfl)
        clear hend
        go_wp2
        go_ret2
        exact ⟨_, by rw [hend'.out]; rfl, rfl⟩

theorem callFunc_holds (args : Array Value) (w : World) : (callFunc 61 args).run Tryd.prog w = .ok (.enter 61 args) w := by kernel_rfl

set_option maxHeartbeats 400000 in
theorem dealloc_holds {run : List Int} {v : Value} {w : World} (x : Item) (hl : Nts w v run) (hok : okR run = true) :
    Calls Tryd.prog 61 #[v, x.val] w fun e w' => e = .returned (.bool (heldBy run x)) ∧ Ext w w' := by
  obtain ⟨p, t, c⟩ := x
  have hE := (Ext.refl w).alloc (.cells #[.int .u8 p, .int .i64 t, .int .i64 c] 23)
  have hBS := Lib.hid (binarySearchC c (hl.ext hE) (okR_from hok) (by have := okR_len hok; omega))
  obtain ⟨a, cp, rfl, -⟩ := hl.form
  clear hl hok
  unfold Item.val
  go_enter Tryd.func61, Tryd.ntmps61
  go_wp2_with fail
  refine hBS.out.mono ?_
  rintro e w1 ⟨i, rfl, rfl⟩
  go_wp2
  go_ret
  exact ⟨rfl, hE⟩

set_option maxHeartbeats 1600000 in
theorem dealloc_free {l : List (List Item)} {run : List Int} {num : Int} {s v : Value} {w : World} (hl : Sts w s l) (hr : Nts w v run) (hok : okR run = true) :
    Calls Tryd.prog 60 #[.agg #[.int .i64 num, s], v] w fun e w' => e = .returned (.bool (freeB l run)) ∧ Ext w w' := by
  have hE0 := (Ext.refl w).alloc (.cells #[.int .i64 num, s] 56)
  have hl0 := hl.ext hE0
  have hr0 := hr.ext hE0
  obtain ⟨a, cp, rfl, hlc, hcm, -⟩ := hl.form
  obtain ⟨a2, cp2, rfl, -⟩ := hr.form
  unfold maxLen at hcm
  have hW := Lib.hid hl0
  have hR := Lib.hid hr0
  replace hok := Lib.hid hok
  clear hl hl0 hr hr0
  go_enter Tryd.func60, Tryd.ntmps60
  go_wp2
  go_step3
  go_wp2
  go_step3
  go_wp2
  obtain ⟨w1, hw1⟩ : ∃ w1, w.alloc (.cells #[.int .i64 num, .slice a l.length cp] 56) = w1 := ⟨_, rfl⟩
  rw [hw1] at hE0 hW hR ⊢
  clear hw1
  go_loopw [6, 16] (fun ov iv wr => ∃ k : Nat, k ≤ l.length ∧ iv = .int .i64 k ∧ ov = .bool true ∧ Ext w1 wr ∧ Hid ((l.take k).any (fun s => s.any (heldBy run)) = false)) (fun _ iv _ => l.length - (intOf iv).toNat)
  case atStart => exact ⟨0, Nat.zero_le _, rfl, rfl, Ext.refl _, by simp [Hid]⟩
  case round =>
    obtain ⟨k, hk, rfl, rfl, hE, hN⟩ := hrel
    by_cases hlt : k < l.length
    · obtain ⟨x, hx⟩ : ∃ x, l[k]? = some x := ⟨l[k], by simp [hlt]⟩
      obtain ⟨b, off, sv, rfl, hbb, d0, hcl⟩ := (hW.out.ext hE).cell hx
      have hX := Lib.hid hx
      obtain ⟨ca, ccp, rfl, hclc, hccm, -⟩ := hcl.form
      unfold maxLen at hccm
      have hC := Lib.hid hcl
      clear hx hbb hcl
      go_wp2
      obtain ⟨w2, hw2⟩ : ∃ w2, wr = w2 := ⟨_, rfl⟩
      have hE2 : Ext w1 w2 := hw2 ▸ hE
      have hC2 : Hid (Its w2 (.slice ca x.length ccp) x) := hw2 ▸ hC
      rw [hw2]
      clear hw2 hC
      go_loopw [6, 22] (fun ov jv wq => ∃ j : Nat, j ≤ x.length ∧ jv = .int .i64 j ∧ ov = .bool true ∧ Ext w2 wq ∧ Hid ((x.take j).any (heldBy run) = false)) (fun _ jv _ => x.length - (intOf jv).toNat)
      case atStart => exact ⟨0, Nat.zero_le _, rfl, rfl, Ext.refl _, by simp [Hid]⟩
      case round =>
        obtain ⟨j, hj, rfl, rfl, hY, hM⟩ := hrel
        by_cases hjl : j < x.length
        · obtain ⟨y, hy⟩ : ∃ y, x[j]? = some y := ⟨x[j], by simp [hjl]⟩
          obtain ⟨b2, off2, rfl, hbb2, c0, c1, c2⟩ := (hC2.out.ext hY).cell hy
          have hYl := Lib.hid hy
          obtain ⟨yp, yt, yc⟩ := y
          have hEa := (Ext.refl wr).alloc (.cells #[.int .u8 yp, .int .i64 yt, .int .i64 yc] 23)
          clear hy hbb2
          cases hh : heldBy run ⟨yp, yt, yc⟩
          · have hh' := Lib.hid hh
            have hM2 := Lib.hid (sany_take_succ hM.out hYl.out hh)
            clear hh
            go_wp2_with fail
            refine (dealloc_holds ⟨yp, yt, yc⟩ (((hR.out.ext hE2).ext hY).ext hEa) hok.out).mono ?_
            rintro e w4 ⟨rfl, hE4⟩
            rw [hh'.out]
            go_wp2
            go_roundw
            case rel => exact ⟨j + 1, by omega, by go_num, rfl, (hY.trans hEa).trans hE4, hM2.out⟩
            case measure => simp [intOf]; omega
          · have hh' := Lib.hid hh
            have hres : Hid (freeB l run = false) := Hid.mk (by unfold freeB; rw [sany_hit hX.out (sany_hit hYl.out hh)]; rfl)
            clear hh
            go_wp2_with fail
            refine (dealloc_holds ⟨yp, yt, yc⟩ (((hR.out.ext hE2).ext hY).ext hEa) hok.out).mono ?_
            rintro e w4 ⟨rfl, hE4⟩
            rw [hh'.out]
            go_wp2
            (try rw [Exit.noGoto_ret])
            go_ret
            exact ⟨by rw [hres.out] <;> rfl, (((hE0.trans hE2).trans hY).trans hEa).trans hE4⟩
        · have hje : j = x.length := by omega
          subst hje
          have hN2 := Lib.hid (sany_take_succ (p := fun s : List Item => s.any (heldBy run)) hN.out hX.out (by have := hM.out; rwa [List.take_length] at this))
          go_wp2
          go_roundw
          case rel => exact ⟨k + 1, by omega, by go_num, rfl, hE2.trans hY, hN2.out⟩
          case measure => simp [intOf]; omega
    · have hkl : k = l.length := by omega
      subst hkl
      have hres : Hid (freeB l run = true) := Hid.mk (by
        unfold freeB
        have := hN.out
        rw [List.take_length] at this
        rw [this]; rfl)
      go_wp2
      (try rw [Exit.noGoto_ret])
      go_ret
      exact ⟨by rw [hres.out] <;> rfl, hE0.trans hE⟩

end Go.Proofs.YtkbocenpkdaogaaDoor

/- Contracts: Protects, End, All of layer 34, the program's and the reference's. (printed by gen/dea34.py) -/
namespace Go.Proofs.YtkbocenpkdaogaaDoor
set_option maxRecDepth 100000
open Go.RowKit

def askErr (x : Stk) (run : List Int) : Int := if okR run then stkErr x else 8
def protR (x : Stk) (run : List Int) : List Item × Int := if askErr x run = 0 then (keptL x.cells run, 0) else ([], askErr x run)
def endR34 (x : Stk) (run : List Int) : Int × Int := if askErr x run = 0 then (if freeB x.cells run then 0 else 2, 0) else (0, askErr x run)
theorem askErr_cases (x : Stk) (run : List Int) : askErr x run = 8 ∨ (askErr x run = 0 ∧ okR run = true ∧ okK x = true) := by
  unfold askErr
  cases h : okR run
  · exact .inl (by simp)
  · cases hk : okK x
    · exact .inl (by simp [stkErr_bad hk])
    · exact .inr ⟨by simp [stkErr_ok hk], rfl, rfl⟩
theorem okK_small {x : Stk} (h : okK x = true) : x.cells.length ≤ 2 ∧ ∀ s ∈ x.cells, s.length ≤ 600 := by
  unfold okK at h
  simp only [Bool.and_eq_true, decide_eq_true_eq] at h
  refine ⟨h.1.2, fun s hs => ?_⟩
  have := List.all_eq_true.1 h.2 s hs
  unfold okS at this
  simp only [Bool.and_eq_true, decide_eq_true_eq] at this
  exact this.1
theorem kept_succ {l : List (List Item)} {run : List Int} {k : Nat} {x : List Item} (hx : l[k]? = some x) : keptL (l.take (k + 1)) run = keptL (l.take k) run ++ x.filter (heldBy run) := by
  rw [List.take_add_one, hx]
  simp [keptL]
theorem kept_len {l : List (List Item)} {run : List Int} (h : ∀ s ∈ l, s.length ≤ 600) : ∀ k : Nat, (keptL (l.take k) run).length ≤ 600 * k
  | 0 => by simp [keptL]
  | k + 1 => by
    have ih := kept_len (run := run) h k
    cases hx : l[k]? with
    | none =>
      rw [List.take_of_length_le (by have := List.getElem?_eq_none_iff.1 hx; omega), ← List.take_of_length_le (i := k) (List.getElem?_eq_none_iff.1 hx)]
      omega
    | some x =>
      rw [kept_succ hx, List.length_append]
      have h1 := h x (List.mem_of_getElem? hx)
      have h2 := List.length_filter_le (heldBy run) x
      omega
theorem filt_yes {n : List Item} {q : Item → Bool} {j : Nat} {y : Item} (hy : n[j]? = some y) (hq : q y = true) : (n.take (j + 1)).filter q = (n.take j).filter q ++ [y] := by
  rw [List.take_add_one, hy, List.filter_append]; simp [hq]
theorem filt_no {n : List Item} {q : Item → Bool} {j : Nat} {y : Item} (hy : n[j]? = some y) (hq : q y = false) : (n.take (j + 1)).filter q = (n.take j).filter q := by
  rw [List.take_add_one, hy, List.filter_append]; simp [hq]
theorem free_kept (l : List (List Item)) (run : List Int) : freeB l run = ((keptL l run).length == 0) := by
  unfold freeB keptL
  induction l with
  | nil => rfl
  | cons s l ih =>
    rw [List.any_cons, List.flatMap_cons, List.length_append, Bool.not_or, ih]
    have : (!s.any (heldBy run)) = ((s.filter (heldBy run)).length == 0) := by
      cases h : s.any (heldBy run)
      · have : s.filter (heldBy run) = [] := List.filter_eq_nil_iff.2 (fun x hx => by
          have := List.any_eq_false.1 h x hx; simpa using this)
        rw [this]; rfl
      · obtain ⟨x, hx, hh⟩ := List.any_eq_true.1 h
        have hm : x ∈ s.filter (heldBy run) := List.mem_filter.2 ⟨hx, hh⟩
        have : 0 < (s.filter (heldBy run)).length := List.length_pos_of_mem hm
        simp
        exact ⟨x, hx, hh⟩
    rw [this]
    cases h1 : (s.filter (heldBy run)).length == 0 <;> cases h2 : (l.flatMap fun s => s.filter (heldBy run)).length == 0 <;> simp_all

set_option maxHeartbeats 800000 in
theorem dealloc_asked {l : List (List Item)} {num : Int} {run : List Int} {s v : Value} {w : World} (hl : Sts w s l) (hr : Nts w v run) :
    Calls Tryd.prog 59 #[.agg #[.int .i64 num, s], v] w fun e w' => e = .returned (.int .i64 (askErr ⟨num, l⟩ run)) ∧ Ext w w' := by
  have hE0 := (Ext.refl w).alloc (.cells #[.int .i64 num, s] 56)
  have hl0 := hl.ext hE0
  have hr0 := hr.ext hE0
  obtain ⟨a, cp, rfl, -⟩ := hl.form
  obtain ⟨a2, cp2, rfl, -⟩ := hr.form
  have bM := Box.new w 56 #[.int .i64 num, .slice a l.length cp]
  clear hl hr
  cases hok : okR run
  · have h8 := Lib.hid (runErr_bad hok)
    have hres : Hid (askErr ⟨num, l⟩ run = 8) := Hid.mk (by simp [askErr, hok])
    clear hok
    go_enter Tryd.func59, Tryd.ntmps59
    go_wp2_with fail
    refine (guard_Check hr0).mono ?_
    rintro e w1 ⟨rfl, rfl⟩
    rw [h8.out]
    go_wp2
    go_ret
    exact ⟨by rw [hres.out] <;> rfl, hE0⟩
  · have h0 := Lib.hid (runErr_ok hok)
    have hres : Hid (askErr ⟨num, l⟩ run = stkErr ⟨num, l⟩) := Hid.mk (by simp [askErr, hok])
    clear hok
    go_enter Tryd.func59, Tryd.ntmps59
    go_wp2_with fail
    refine (guard_Check hr0).mono ?_
    rintro e w1 ⟨rfl, rfl⟩
    rw [h0.out]
    go_wp2_with fail
    refine (stacks_Check hl0).mono ?_
    rintro e w2 ⟨rfl, hE2⟩
    go_wp2
    go_ret
    exact ⟨by rw [hres.out] <;> rfl, hE0.trans hE2⟩



end Go.Proofs.YtkbocenpkdaogaaDoor

/- Contracts: Protects and End of layer 34, the program's and the reference's. (printed by gen/dea34.py) -/
namespace Go.Proofs.YtkbocenpkdaogaaDoor
set_option maxRecDepth 100000
open Go.RowKit

theorem protR_bad {x : Stk} {run : List Int} (h : askErr x run = 8) : protR x run = ([], 8) := by simp [protR, h]
theorem protR_ok {x : Stk} {run : List Int} (h : askErr x run = 0) : protR x run = (keptL x.cells run, 0) := by simp [protR, h]
theorem endR34_bad {x : Stk} {run : List Int} (h : askErr x run = 8) : endR34 x run = (0, 8) := by simp [endR34, h]
theorem endR34_ok {x : Stk} {run : List Int} (h : askErr x run = 0) : endR34 x run = (if freeB x.cells run then 0 else 2, 0) := by simp [endR34, h]

set_option maxHeartbeats 1600000 in
theorem dealloc_Protects {l : List (List Item)} {run : List Int} {num : Int} {s v : Value} {w : World} (hl : Sts w s l) (hr : Nts w v run) :
    Calls Tryd.prog 38 #[.agg #[.int .i64 num, s], v] w (RetLN 23 w (protR ⟨num, l⟩ run).1 (protR ⟨num, l⟩ run).2) := by
  have hE0 := (Ext.refl w).alloc (.cells #[.int .i64 num, s] 56)
  have hl0 := hl.ext hE0
  have hr0 := hr.ext hE0
  have bM := Box.new w 56 #[.int .i64 num, s]
  obtain ⟨a, cp, rfl, hlc, hcm, -⟩ := hl.form
  obtain ⟨a2, cp2, rfl, -⟩ := hr.form
  unfold maxLen at hcm
  have hL := Lib.hid hl0
  have hV := Lib.hid hr0
  clear hl hl0 hr hr0
  rcases askErr_cases ⟨num, l⟩ run with h8 | ⟨h0, hok, hkk⟩
  · have hres := Lib.hid (protR_bad h8)
    replace h8 := Lib.hid h8
    go_enter Tryd.func38, Tryd.ntmps38
    go_wp2_with fail
    refine (dealloc_asked hL.out hV.out).mono ?_
    rintro e w1 ⟨rfl, hE1⟩
    rw [h8.out]
    go_wp2
    go_ret2
    rw [hres.out]
    exact ⟨_, rfl, Own.nil _ _ _ _, hE0.trans hE1⟩
  · have hres := Lib.hid (protR_ok h0)
    have hsm : l.length ≤ 2 ∧ ∀ s ∈ l, s.length ≤ 600 := okK_small hkk
    replace h0 := Lib.hid h0
    replace hok := Lib.hid hok
    clear hkk
    go_enter Tryd.func38, Tryd.ntmps38
    go_wp2_with fail
    refine (dealloc_asked hL.out hV.out).mono ?_
    rintro e w1 ⟨rfl, hE1⟩
    rw [h0.out]
    replace bM := bM.ext hE1
    have m0 : World.cell? w1 ⟨w.heap.size, 0, none⟩ = some (.int .i64 num) := bM.cell 0
    have m1 : World.cell? w1 ⟨w.heap.size, 1, none⟩ = some (.slice a l.length cp) := bM.cell 1
    have hW := Lib.hid (hL.out.ext hE1)
    have hR := Lib.hid (hV.out.ext hE1)
    replace hE0 := hE0.trans hE1
    clear bM
    go_wp2
    go_loopw [8, 24] (fun ov iv wr => ∃ k : Nat, k ≤ l.length ∧ iv = .int .i64 k ∧ OwnI wr w1.heap.size ov (keptL (l.take k) run) ∧ Ext w1 wr) (fun _ iv _ => l.length - (intOf iv).toNat)
    case atStart => exact ⟨0, Nat.zero_le _, rfl, OwnI.nil _ _, Ext.refl _⟩
    case round =>
      obtain ⟨k, hk, rfl, hO, hE⟩ := hrel
      have hklen := kept_len (run := run) hsm.2 k
      by_cases hlt : k < l.length
      · obtain ⟨x, hx⟩ : ∃ x, l[k]? = some x := ⟨l[k], by simp [hlt]⟩
        have hx6 : x.length ≤ 600 := hsm.2 x (List.mem_of_getElem? hx)
        obtain ⟨b, off, sv, rfl, hbb, d1, hcl⟩ := hW.out.cell hx
        have d0 := hE.cell d1
        have hX := Lib.hid hx
        obtain ⟨ca, ccp, rfl, hclc, hccm, -⟩ := hcl.form
        unfold maxLen at hccm
        have hC := Lib.hid hcl
        clear hx hbb hcl
        go_wp2
        clear d0
        go_loopw [8, 30] (fun ov jv wq => ∃ j : Nat, j ≤ x.length ∧ jv = .int .i64 j ∧ OwnI wq w1.heap.size ov (keptL (l.take k) run ++ (x.take j).filter (heldBy run)) ∧ Ext w1 wq) (fun _ jv _ => x.length - (intOf jv).toNat)
        case atStart => exact ⟨0, Nat.zero_le _, rfl, by simpa using hO, hE⟩
        case round =>
          obtain ⟨j, hj, rfl, hQ, hY⟩ := hrel
          by_cases hjl : j < x.length
          · obtain ⟨y, hy⟩ : ∃ y, x[j]? = some y := ⟨x[j], by simp [hjl]⟩
            obtain ⟨b4, off4, rfl, hbb4, c0, c1, c2⟩ := (hC.out.ext hY).cell hy
            have hYl := Lib.hid hy
            obtain ⟨yp, yt, yc⟩ := y
            have hEa := (Ext.refl wr).alloc (.cells #[.int .u8 yp, .int .i64 yt, .int .i64 yc] 23)
            have hflen : ((x.take j).filter (heldBy run)).length ≤ 600 := by
              have h1 := List.length_filter_le (heldBy run) (x.take j)
              rw [List.length_take] at h1
              omega
            clear hy hbb4
            cases hh : heldBy run ⟨yp, yt, yc⟩
            · have hh' := Lib.hid hh
              have hM2 : Hid ((x.take (j + 1)).filter (heldBy run) = (x.take j).filter (heldBy run)) := Hid.mk (filt_no hYl.out hh)
              clear hh
              go_wp2_with fail
              refine (dealloc_holds ⟨yp, yt, yc⟩ ((hR.out.ext hY).ext hEa) hok.out).mono ?_
              rintro e w4 ⟨rfl, hE4⟩
              rw [hh'.out]
              go_wp2
              go_roundw
              case rel => exact ⟨j + 1, by omega, by go_num, by rw [hM2.out]; exact (hQ.ext hEa).ext hE4, (hY.trans hEa).trans hE4⟩
              case measure => simp [intOf]; omega
            · have hh' := Lib.hid hh
              have hM2 : Hid (keptL (l.take k) run ++ (x.take (j + 1)).filter (heldBy run) = (keptL (l.take k) run ++ (x.take j).filter (heldBy run)) ++ [⟨yp, yt, yc⟩]) := Hid.mk (by rw [filt_yes hYl.out hh, List.append_assoc])
              clear hh
              obtain ⟨KL, hKL⟩ : ∃ KL, keptL (l.take k) run ++ (x.take j).filter (heldBy run) = KL := ⟨_, rfl⟩
              rw [hKL] at hQ hM2
              have hKl : KL.length ≤ 10000 := by rw [← hKL, List.length_append]; omega
              clear hKL
              obtain ⟨qa, qc, rfl, -⟩ := hQ.its.form
              have hQ' := Lib.hid hQ
              clear hQ
              go_wp2_with fail
              refine (dealloc_holds ⟨yp, yt, yc⟩ ((hR.out.ext hY).ext hEa) hok.out).mono ?_
              rintro e w4 ⟨rfl, hE4⟩
              rw [hh'.out]
              have hWx : Ext wr w4 := hEa.trans hE4
              have bI := (Box.new wr 23 #[.int .u8 yp, .int .i64 yt, .int .i64 yc]).ext hE4
              have k0 : World.cell? w4 ⟨wr.heap.size, 0, none⟩ = some (.int .u8 yp) := bI.cell 0
              have k1 : World.cell? w4 ⟨wr.heap.size, 1, none⟩ = some (.int .i64 yt) := bI.cell 1
              have k2 : World.cell? w4 ⟨wr.heap.size, 2, none⟩ = some (.int .i64 yc) := bI.cell 2
              have hE6 : Ext wr (w4.alloc (.cells #[.int .u8 yp, .int .i64 yt, .int .i64 yc] 23)) := hWx.alloc _
              have hS6 : Sl (w4.alloc (.cells #[.int .u8 yp, .int .i64 yt, .int .i64 yc] 23)) 3 (.slice (some ⟨w4.heap.size, 0, none⟩) 1 1) 1 (Item.row ⟨yp, yt, yc⟩) := (Own.lit' (B := 0) (e := 23) (k := 3) w4 #[.int .u8 yp, .int .i64 yt, .int .i64 yc] 1 (Nat.zero_le _) (by simp [maxLen]) rfl).sl
              obtain ⟨ti, tz, hti, htz, hti3, htz3, htby⟩ := Item.infoE
              replace hti := Lib.hid hti; replace htz := Lib.hid htz; replace hti3 := Lib.hid hti3; replace htz3 := Lib.hid htz3; replace htby := Lib.hid htby
              have hS6' := Lib.hid hS6
              have hE6' := Lib.hid hE6
              clear hS6 hE6
              go_wp2_with (at_builtin; refine Hid.out ?_)
              refine Hid.mk ?_
              refine wpList_append_any rfl _ _ 30 30 rfl rfl rfl Tryd.underlying30 Tryd.underlying30 hti.out htz.out hti3.out htz3.out (Own.ext hQ'.out hE6'.out) hS6'.out (by simp [Item.row, Value.oneCell']) (by simp [maxLen]; omega) (by rw [htby.out]; omega) (Nat.le_trans hY.size hE6'.out.size) ?_
              intro v' w6 hOv hKv _ _
              have hOw : OwnI w6 w1.heap.size v' (KL ++ [⟨yp, yt, yc⟩]) := by
                unfold OwnI
                rw [List.length_append, List.flatMap_append]
                simpa using hOv
              have hX6 : Ext w1 w6 := ExtBut.ext (hY.trans hE6'.out) ((ExtBut.of_keeps hKv).mono (S' := fun b => w1.heap.size ≤ b) (fun b _ hb => (hQ'.out.lt _ hb).1)) (fun b hb => hb) |> fun h => h
              clear hOv hKv
              go_wp2
              go_roundw
              case rel => exact ⟨j + 1, by omega, by go_num, by rw [hM2.out]; exact hOw, hX6⟩
              case measure => simp [intOf]; omega
          · have hje : j = x.length := by omega
            subst hje
            have hN2 : Hid (keptL (l.take (k + 1)) run = keptL (l.take k) run ++ (x.take x.length).filter (heldBy run)) := Hid.mk (by rw [kept_succ hX.out, List.take_length])
            go_wp2
            go_roundw
            case rel => exact ⟨k + 1, by omega, by go_num, by rw [hN2.out]; exact hQ, hY⟩
            case measure => simp [intOf]; omega
      · have hkl : k = l.length := by omega
        subst hkl
        rw [List.take_length] at hO
        obtain ⟨fa, fc, rfl, -⟩ := hO.its.form
        go_wp2
        go_ret2
        rw [hres.out]
        exact ⟨_, rfl, OwnI.mono hO hE0.size, hE0.trans hE⟩


set_option maxHeartbeats 1600000 in
theorem dealloc_End {l : List (List Item)} {run : List Int} {num : Int} {s v : Value} {w : World} (hl : Sts w s l) (hr : Nts w v run) :
    Calls Tryd.prog 37 #[.agg #[.int .i64 num, s], v] w fun e w' => e = .returned (.tuple #[.int .u8 (endR34 ⟨num, l⟩ run).1, .int .i64 (endR34 ⟨num, l⟩ run).2]) ∧ Ext w w' := by
  have hE0 := (Ext.refl w).alloc (.cells #[.int .i64 num, s] 56)
  have hl0 := hl.ext hE0
  have hr0 := hr.ext hE0
  have bM := Box.new w 56 #[.int .i64 num, s]
  obtain ⟨a, cp, rfl, hlc, hcm, -⟩ := hl.form
  obtain ⟨a2, cp2, rfl, -⟩ := hr.form
  unfold maxLen at hcm
  have hL := Lib.hid hl0
  have hV := Lib.hid hr0
  clear hl hl0 hr hr0
  rcases askErr_cases ⟨num, l⟩ run with h8 | ⟨h0, hok, hkk⟩
  · have hres := Lib.hid (endR34_bad h8)
    replace h8 := Lib.hid h8
    go_enter Tryd.func37, Tryd.ntmps37
    go_wp2_with fail
    refine (dealloc_asked hL.out hV.out).mono ?_
    rintro e w1 ⟨rfl, hE1⟩
    rw [h8.out]
    go_wp2
    go_ret2
    exact ⟨by rw [hres.out] <;> rfl, hE0.trans hE1⟩
  · have hres := Lib.hid (endR34_ok h0)
    have hsm : l.length ≤ 2 ∧ ∀ s ∈ l, s.length ≤ 600 := okK_small hkk
    replace h0 := Lib.hid h0
    replace hok := Lib.hid hok
    clear hkk
    cases hf : freeB l run
    all_goals
      replace hf := Lib.hid hf
      go_enter Tryd.func37, Tryd.ntmps37
      go_wp2_with fail
      refine (dealloc_asked hL.out hV.out).mono ?_
      rintro e w1 ⟨rfl, hE1⟩
      rw [h0.out]
      replace bM := bM.ext hE1
      have m0 : World.cell? w1 ⟨w.heap.size, 0, none⟩ = some (.int .i64 num) := bM.cell 0
      have m1 : World.cell? w1 ⟨w.heap.size, 1, none⟩ = some (.slice a l.length cp) := bM.cell 1
      go_wp2_with fail
      refine (dealloc_free (hL.out.ext hE1) (hV.out.ext hE1) hok.out).mono ?_
      rintro e w2 ⟨rfl, hE2⟩
      rw [hf.out]
      go_wp2
      go_ret2
      exact ⟨by rw [hres.out, hf.out] <;> rfl, (hE0.trans hE1).trans hE2⟩


end Go.Proofs.YtkbocenpkdaogaaDoor

/- Contracts: All of layer 34, the program's and the reference's. (printed by gen/all34.py) -/
namespace Go.Proofs.YtkbocenpkdaogaaDoor
set_option maxRecDepth 100000
open Go.RowKit

def badK (x : Stk) : Bool := !okK x
def stayK (run : List Int) (x : Stk) : Bool := !freeB x.cells run
def allR34 (l : List Stk) (run : List Int) : Int × Int × Int :=
  if okR run then (if 400 < l.length then (0, 0, 4) else if l.any badK then (0, 0, 8) else match l.findIdx? (stayK run) with | some i => ((i : Int), 2, 0) | none => ((l.length : Int), 0, 0)) else (0, 0, 8)
theorem allR_bad {l : List Stk} {run : List Int} (h : okR run = false) : allR34 l run = (0, 0, 8) := by simp [allR34, h]
theorem allR_many {l : List Stk} {run : List Int} (h : okR run = true) (h2 : 400 < l.length) : allR34 l run = (0, 0, 4) := by simp [allR34, h, h2]
theorem allR_badK {l : List Stk} {run : List Int} (h : okR run = true) (h2 : ¬ 400 < l.length) (h3 : l.any badK = true) : allR34 l run = (0, 0, 8) := by rw [allR34, if_pos h, if_neg h2, if_pos h3]
theorem allR_some {l : List Stk} {run : List Int} {i : Nat} (h : okR run = true) (h2 : ¬ 400 < l.length) (h3 : l.any badK = false) (h4 : l.findIdx? (stayK run) = some i) : allR34 l run = ((i : Int), 2, 0) := by rw [allR34, if_pos h, if_neg h2, if_neg (by simp [h3]), h4]
theorem allR_none {l : List Stk} {run : List Int} (h : okR run = true) (h2 : ¬ 400 < l.length) (h3 : l.any badK = false) (h4 : l.findIdx? (stayK run) = none) : allR34 l run = ((l.length : Int), 0, 0) := by rw [allR34, if_pos h, if_neg h2, if_neg (by simp [h3]), h4]
theorem kIdx_hit {p : Stk → Bool} {l : List Stk} {k : Nat} {x : Stk} (h : (l.take k).any p = false) (hx : l[k]? = some x) (hp : p x = true) : l.findIdx? p = some k := by
  rw [List.findIdx?_eq_some_iff_getElem]
  obtain ⟨hk, rfl⟩ := List.getElem?_eq_some_iff.1 hx
  refine ⟨hk, hp, fun j hj => ?_⟩
  simp only [List.any_eq_false] at h
  have := h l[j] (by rw [List.mem_iff_getElem?]; exact ⟨j, by rw [List.getElem?_take, if_pos hj]; simp⟩)
  simpa using this
theorem kIdx_miss {p : Stk → Bool} {l : List Stk} (h : l.any p = false) : l.findIdx? p = none := by
  rw [List.findIdx?_eq_none_iff]
  simpa [List.any_eq_false] using h

theorem callFunc_all1 (args : Array Value) (w : World) : (callFunc 63 args).run Tryd.prog w = .ok (.enter 63 args) w := by kernel_rfl

/-- The test of the stacks of an allocation by a function value. -/
def PredK (g : Nat) (cap : Array Value) (W : World) (p : Stk → Bool) : Prop :=
  ∀ (x : Stk) (s : Value) (w : World), Ext W w → Sts w s x.cells → Calls Tryd.prog g (#[.agg #[.int .i64 x.num, s]] ++ cap) w fun e w' => e = .returned (.bool (p x)) ∧ Ext w w'

set_option maxHeartbeats 400000 in
theorem dealloc_all1 {run : List Int} {v : Value} (B : Nat) (W : World) (hc : W.cell? ⟨B, 0, none⟩ = some v) (hr : Nts W v run) (hok : okR run = true) : PredK 63 #[.pointer (some ⟨B, 0, none⟩)] W (stayK run) := by
  intro x s w hW hl
  obtain ⟨num, l⟩ := x
  dsimp only at *
  have hE := (Ext.refl w).alloc (.cells #[.int .i64 num, s] 56)
  have d0 : (w.alloc (.cells #[.int .i64 num, s] 56)).cell? ⟨B, 0, none⟩ = some v := hE.cell (hW.cell hc)
  have hF := Lib.hid (dealloc_free (num := num) (hl.ext hE) ((hr.ext hW).ext hE) hok)
  obtain ⟨a, cp, rfl, -⟩ := hl.form
  obtain ⟨a2, cp2, rfl, -⟩ := hr.form
  clear hc hW hl hr hok
  show Calls Tryd.prog 63 #[.agg #[.int .i64 num, .slice a l.length cp], .pointer (some ⟨B, 0, none⟩)] w _
  go_enter Tryd.func63, Tryd.ntmps63
  go_wp2_with fail
  refine hF.out.mono ?_
  rintro e w1 ⟨rfl, hE1⟩
  go_wp2
  go_ret
  exact ⟨rfl, hE.trans hE1⟩

set_option maxHeartbeats 800000 in
theorem indexFunc_stk {g : Nat} {cap : Array Value} {p : Stk → Bool} {l : List Stk} {v : Value} {w : World} (hg : ∀ args w, (callFunc g args).run Tryd.prog w = .ok (.enter g args) w)
    (hp : PredK g cap w p) (hl : Kts w v l) : Calls Tryd.prog 62 #[v, .func (.func g) #[] cap] w fun e w' => (∃ i : Int, e = .returned (.int .i64 i) ∧ Hid ((∃ k : Nat, i = (k : Int) ∧ l.findIdx? p = some k) ∨ (i = -1 ∧ l.findIdx? p = none))) ∧ Ext w w' := by
  obtain ⟨a, cp, rfl, hlc, hcm, -⟩ := hl.form
  unfold maxLen at hcm
  have hL := Lib.hid hl
  clear hl
  go_enter Tryd.func62, Tryd.ntmps62
  go_wp2
  go_loopw [8] (fun i wr => ∃ k : Nat, k ≤ l.length ∧ i = .int .i64 k ∧ Ext w wr ∧ Hid ((l.take k).any p = false)) (fun i _ => l.length - (intOf i).toNat)
  case atStart => exact ⟨0, Nat.zero_le _, rfl, Ext.refl _, by simp [Hid]⟩
  case round =>
    obtain ⟨k, hk, rfl, hE, hN⟩ := hrel
    by_cases hlt : k < l.length
    · obtain ⟨x, hx⟩ : ∃ x, l[k]? = some x := ⟨l[k], by simp [hlt]⟩
      obtain ⟨b, off, sv, rfl, hbb, d0, d1, hcl⟩ := (hL.out.ext hE).cell hx
      have hX := Lib.hid hx
      clear hx
      replace hcl := Lib.hid hcl
      cases hpx : p x
      all_goals
        have hP := Lib.hid hpx
        clear hpx
        go_wp2_with fail
        refine (hp x sv wr hE hcl.out).mono ?_
        rintro e w1 ⟨rfl, hE1⟩
        have hpx := hP.out
        go_wp2
      · go_roundw
        case rel => exact ⟨k + 1, by omega, by go_num, hE.trans hE1, sany_take_succ hN.out hX.out hP.out⟩
        case measure => simp [intOf]; omega
      · go_ret
        exact ⟨⟨_, rfl, .inl ⟨k, rfl, kIdx_hit hN.out hX.out hP.out⟩⟩, hE.trans hE1⟩
    · have hkl : k = l.length := by omega
      subst hkl
      have hN' := hN.out
      rw [List.take_length] at hN'
      have hg := Lib.hid (kIdx_miss hN')
      clear hN'
      go_wp2
      go_ret
      exact ⟨⟨_, rfl, .inr ⟨rfl, hg.out⟩⟩, hE⟩

set_option maxHeartbeats 3200000 in
theorem dealloc_All {l : List Stk} {run : List Int} {s v : Value} {w : World} (hl : Kts w s l) (hr : Nts w v run) :
    Calls Tryd.prog 39 #[s, v] w fun e w' => e = .returned (.tuple #[.int .i64 (allR34 l run).1, .int .u8 (allR34 l run).2.1, .int .i64 (allR34 l run).2.2]) ∧ Ext w w' := by
  have hE0 := (Ext.refl w).alloc (.cells #[v] 37)
  have hl0 := hl.ext hE0
  have hr0 := hr.ext hE0
  obtain ⟨a, cp, rfl, hlc, hcm, -⟩ := hl.form
  obtain ⟨a2, cp2, rfl, -⟩ := hr.form
  unfold maxLen at hcm
  have hL := Lib.hid hl0
  have hR := Lib.hid hr0
  clear hl hr hl0 hr0
  cases hok : okR run
  · have hres := Lib.hid (allR_bad (l := l) hok)
    have he : Hid (runErr run = 8) := Hid.mk (by simp [runErr, hok])
    clear hok
    go_enter Tryd.func39, Tryd.ntmps39
    go_wp2_with fail
    refine (guard_Check hR.out).mono ?_
    rintro e w2 ⟨rfl, rfl⟩
    rw [he.out]
    go_wp2
    go_ret3
    exact ⟨by rw [hres.out] <;> rfl, hE0⟩
  have he : Hid (runErr run = 0) := Hid.mk (by simp [runErr, hok])
  replace hok := Lib.hid hok
  by_cases hmany : 400 < l.length
  · have hres := Lib.hid (allR_many hok.out hmany)
    have h4 : decide (400 < l.length) = true := decide_eq_true hmany
    have h4' : decide ((400 : Int) < (l.length : Int)) = true := decide_eq_true (by omega)
    go_enter Tryd.func39, Tryd.ntmps39
    go_wp2_with fail
    refine (guard_Check hR.out).mono ?_
    rintro e w2 ⟨rfl, rfl⟩
    rw [he.out]
    go_wp2
    go_ret3
    exact ⟨by rw [hres.out] <;> rfl, hE0⟩
  have h4 : decide (400 < l.length) = false := decide_eq_false hmany
  have h4' : decide ((400 : Int) < (l.length : Int)) = false := decide_eq_false (by omega)
  replace hmany := Lib.hid hmany
  go_enter Tryd.func39, Tryd.ntmps39
  go_wp2_with fail
  refine (guard_Check hR.out).mono ?_
  rintro e w2 ⟨rfl, rfl⟩
  rw [he.out]
  go_wp2
  obtain ⟨w1, hw1⟩ : ∃ z, w.alloc (.cells #[.slice a2 run.length cp2] 37) = z := ⟨_, rfl⟩
  have b0 : w1.cell? ⟨w.heap.size, 0, none⟩ = some (.slice a2 run.length cp2) := by rw [← hw1]; simp
  rw [hw1] at hE0 hL hR ⊢
  clear hw1
  go_loopw [22] (fun iv wr => ∃ k : Nat, k ≤ l.length ∧ iv = .int .i64 k ∧ Ext w1 wr ∧ Hid ((l.take k).any badK = false)) (fun iv _ => l.length - (intOf iv).toNat)
  case atStart => exact ⟨0, Nat.zero_le _, rfl, Ext.refl _, by simp [Hid]⟩
  case round =>
    obtain ⟨k, hk, rfl, hE, hN⟩ := hrel
    by_cases hlt : k < l.length
    · obtain ⟨x, hx⟩ : ∃ x, l[k]? = some x := ⟨l[k], by simp [hlt]⟩
      obtain ⟨b, off, sv, rfl, hbb, d0, d1, hcl⟩ := (hL.out.ext hE).cell hx
      have hX := Lib.hid hx
      obtain ⟨ca, ccp, rfl, -⟩ := hcl.form
      obtain ⟨xn, xl⟩ := x
      replace hcl := Lib.hid hcl
      clear hx
      dsimp only at *
      cases hb : okK ⟨xn, xl⟩
      · have hres := Lib.hid (allR_badK hok.out hmany.out (sany_hit hX.out (by simp [badK, hb])))
        have hE8 := Lib.hid (stkErr_bad hb)
        clear hb
        go_wp2_with fail
        refine (stacks_Check (hcl.out.ext ((Ext.refl wr).alloc _))).mono ?_
        rintro e w3 ⟨rfl, hE3⟩
        rw [hE8.out]
        go_wp2
        go_ret3
        exact ⟨by rw [hres.out] <;> rfl, (hE0.trans hE).trans (((Ext.refl wr).alloc _).trans hE3)⟩
      · have hN2 := Lib.hid (sany_take_succ hN.out hX.out (by simp [badK, hb]))
        have hE8 := Lib.hid (stkErr_ok hb)
        clear hb
        go_wp2_with fail
        refine (stacks_Check (hcl.out.ext ((Ext.refl wr).alloc _))).mono ?_
        rintro e w3 ⟨rfl, hE3⟩
        rw [hE8.out]
        go_wp2
        go_roundw
        case rel => exact ⟨k + 1, by omega, by go_num, hE.trans (((Ext.refl wr).alloc _).trans hE3), hN2.out⟩
        case measure => simp [intOf]; omega
    · have hkl : k = l.length := by omega
      subst hkl
      have hlt' : decide ((l.length : Int) < (l.length : Int)) = false := decide_eq_false (by omega)
      have hNN := hN.out
      rw [List.take_length] at hNN
      replace hNN := Lib.hid hNN
      clear hN
      have hI := Lib.hid (indexFunc_stk callFunc_all1 (dealloc_all1 w.heap.size wr (hE.cell b0) (hR.out.ext hE) hok.out) (hL.out.ext hE))
      clear hlt
      go_wp2_with fail
      refine hI.out.mono ?_
      rintro e w3 ⟨⟨i, rfl, hi⟩, hE3⟩
      rcases hi.out with ⟨j, rfl, hj⟩ | ⟨rfl, hj⟩
      · have hres := Lib.hid (allR_some hok.out hmany.out hNN.out hj)
        have hge : decide ((0 : Int) ≤ (j : Int)) = true := decide_eq_true (by omega)
        clear hi hj
        go_wp2
        go_ret3
        exact ⟨by rw [hres.out] <;> rfl, hE0.trans (hE.trans hE3)⟩
      · have hres := Lib.hid (allR_none hok.out hmany.out hNN.out hj)
        clear hi hj
        go_wp2
        go_ret3
        exact ⟨by rw [hres.out] <;> rfl, hE0.trans (hE.trans hE3)⟩


end Go.Proofs.YtkbocenpkdaogaaDoor
