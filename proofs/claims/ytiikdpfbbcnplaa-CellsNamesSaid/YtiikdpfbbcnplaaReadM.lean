/- How the arguments of a statement read: pointers, cells, memories. -/
import Derived.Test.YtiikdpfbbcnplaaRead
import Derived.Test.YtiikdpfbbcnplaaCellB
namespace Go.Proofs.Ytiikdpfbbcnplaa
set_option maxRecDepth 100000
open Go.ChangeShapes Go.WideShapes Go.ChangeAt Go.RowKit

/-- Each row holds a slice. -/
theorem All2.tab {α : Type} {row : Value → α → List Value} {Q : Value → α → Prop} : ∀ {rows : List (List Value)} {l : List α}, All2 (fun cs a => ∃ s, cs = row s a ∧ Q s a) rows l → ∃ vs, All2 Q vs l ∧ rows.flatten = trows row vs l
  | [], [], _ => ⟨[], trivial, rfl⟩
  | r :: rows, a :: l, h => by
    obtain ⟨vs, h1, h2⟩ := All2.tab h.2
    obtain ⟨s, rfl, hq⟩ := h.1
    exact ⟨s :: vs, ⟨hq, h1⟩, by rw [List.flatten_cons, h2]; simp [trows]⟩

section
variable {H : Type} {enc : TypeId × Value → H} {w : World} {base : Nat} {spare : Nat → Bool} {held : Bool}

def Ptr.row (p : Ptr) : List Value := [.int .i64 p.a, .int .i64 p.o, .int .i64 p.t]
def Ptr.wf (p : Ptr) : Prop := i64B p.a ∧ i64B p.o ∧ i64B p.t
theorem read_ptr (n : Nat) (cs : List Value) (x : DataW H × List MemPlace) (hl : cs.length = 3) (h : DataW.trod enc Try.prog w base spare held n 27 cs = some x) : ∃ a : Ptr, cs = a.row ∧ a.wf := by
  have c64 : Try.prog.cellsOf 3 = 1 := by kernel_rfl
  obtain ⟨xs, m, rfl, rfl, _, hx, hf⟩ := DataW.trod_struct Try.underlying27 h
  match cs, hl with
  | [c0, c1, c2], _ =>
    have f0 : DataW.trod enc Try.prog w base spare held m 3 (([c0, c1, c2].drop 0).take (Try.prog.cellsOf 3)) = xs[0]? := hf 0 _ rfl
    have f1 : DataW.trod enc Try.prog w base spare held m 3 (([c0, c1, c2].drop 1).take (Try.prog.cellsOf 3)) = xs[1]? := hf 1 _ rfl
    have f2 : DataW.trod enc Try.prog w base spare held m 3 (([c0, c1, c2].drop 2).take (Try.prog.cellsOf 3)) = xs[2]? := hf 2 _ rfl
    rw [c64] at f0 f1 f2
    match xs, hx with
    | [y0, y1, y2], _ =>
      obtain ⟨p, e0, _, w0⟩ := DataW.trod_int Try.underlying3 f0
      obtain ⟨t, e1, _, w1⟩ := DataW.trod_int Try.underlying3 f1
      obtain ⟨c, e2, _, w2⟩ := DataW.trod_int Try.underlying3 f2
      simp at e0 e1 e2
      subst e0 e1 e2
      refine ⟨⟨p, t, c⟩, rfl, ?_, ?_, ?_⟩
      · simpa [Lit.wf, IntKind.min, IntKind.max, IntKind.signed, IntKind.bits, i64B] using w0
      · simpa [Lit.wf, IntKind.min, IntKind.max, IntKind.signed, IntKind.bits, i64B] using w1
      · simpa [Lit.wf, IntKind.min, IntKind.max, IntKind.signed, IntKind.bits, i64B] using w2

theorem open_ptrv {r : Reach} {b0 : Nat} {v : Value} {d : DataW H} {p : List MemPlace} (hv : Value.okWide Try.prog w r b0 27 v) (h : DataW.Trod enc Try.prog w base spare held 27 v d p) :
    ∃ x : Ptr, v = x.val ∧ x.wf := by
  obtain ⟨cs, rfl, hsz⟩ := okWide_struct Try.underlying27 hv
  have hc : Try.prog.cellsOf 27 = 3 := by kernel_rfl
  obtain ⟨n, hn⟩ := h
  obtain ⟨x, e, hw⟩ := read_ptr n _ _ (by simp only [Value.cells, Array.length_toList]; exact hsz.trans hc) hn
  refine ⟨x, ?_, hw⟩
  unfold Ptr.val
  congr 1
  apply Array.toList_inj.1
  simpa [Value.cells, Ptr.row] using e

def Cell.wf (c : Cell) : Prop := (0 ≤ c.k ∧ c.k ≤ 255) ∧ i64B c.n ∧ i64B c.a ∧ i64B c.o ∧ i64B c.t
theorem read_cell (n : Nat) (cs : List Value) (x : DataW H × List MemPlace) (hl : cs.length = 5) (h : DataW.trod enc Try.prog w base spare held n 29 cs = some x) : ∃ a : Cell, cs = a.row ∧ a.wf := by
  have c8 : Try.prog.cellsOf 5 = 1 := by kernel_rfl
  have c64 : Try.prog.cellsOf 2 = 1 := by kernel_rfl
  have cP : Try.prog.cellsOf 27 = 3 := by kernel_rfl
  obtain ⟨xs, m, rfl, rfl, _, hx, hf⟩ := DataW.trod_struct Try.underlying29 h
  match cs, hl with
  | [c0, c1, c2, c3, c4], _ =>
    have f0 : DataW.trod enc Try.prog w base spare held m 5 (([c0, c1, c2, c3, c4].drop 0).take (Try.prog.cellsOf 5)) = xs[0]? := hf 0 _ rfl
    have f1 : DataW.trod enc Try.prog w base spare held m 2 (([c0, c1, c2, c3, c4].drop 1).take (Try.prog.cellsOf 2)) = xs[1]? := hf 1 _ rfl
    have f2 : DataW.trod enc Try.prog w base spare held m 27 (([c0, c1, c2, c3, c4].drop 2).take (Try.prog.cellsOf 27)) = xs[2]? := hf 2 _ rfl
    rw [c8] at f0
    rw [c64] at f1
    rw [cP] at f2
    match xs, hx with
    | [y0, y1, y2], _ =>
      obtain ⟨p, e0, _, w0⟩ := DataW.trod_int Try.underlying5 f0
      obtain ⟨t, e1, _, w1⟩ := DataW.trod_int Try.underlying2 f1
      obtain ⟨q, e2, w2⟩ := read_ptr m _ _ (by simp) f2
      simp [Ptr.row] at e0 e1 e2
      obtain ⟨e2, e3, e4⟩ := e2
      subst e0 e1 e2 e3 e4
      refine ⟨⟨p, t, q.a, q.o, q.t⟩, rfl, ?_, ?_, w2⟩
      · simpa [Lit.wf, IntKind.min, IntKind.max, IntKind.signed, IntKind.bits] using w0
      · simpa [Lit.wf, IntKind.min, IntKind.max, IntKind.signed, IntKind.bits, i64B] using w1

theorem open_cellv {r : Reach} {b0 : Nat} {v : Value} {d : DataW H} {p : List MemPlace} (hv : Value.okWide Try.prog w r b0 29 v) (h : DataW.Trod enc Try.prog w base spare held 29 v d p) :
    ∃ x : Cell, v = x.val ∧ x.wf := by
  obtain ⟨cs, rfl, hsz⟩ := okWide_struct Try.underlying29 hv
  have hc : Try.prog.cellsOf 29 = 5 := by kernel_rfl
  obtain ⟨n, hn⟩ := h
  obtain ⟨x, e, hw⟩ := read_cell n _ _ (by simp only [Value.cells, Array.length_toList]; exact hsz.trans hc) hn
  refine ⟨x, ?_, hw⟩
  unfold Cell.val
  congr 1
  apply Array.toList_inj.1
  simpa [Value.cells, Cell.row] using e

theorem rows_of_cells : ∀ {rows : List (List Value)} {l : List Cell}, All2 (fun cs (a : Cell) => cs = a.row ∧ a.wf) rows l → rows.flatten = l.flatMap Cell.row ∧ ∀ a ∈ l, a.wf
  | [], [], _ => ⟨rfl, fun _ h => by cases h⟩
  | r :: rows, a :: l, h => by
    obtain ⟨h1, h2⟩ := rows_of_cells h.2
    refine ⟨by rw [List.flatten_cons, List.flatMap_cons, h1, h.1.1], fun b hb => ?_⟩
    rcases List.mem_cons.1 hb with rfl | hb
    · exact h.1.2
    · exact h2 b hb

theorem read_cells {t : Nat} (ht : Try.prog.underlying t = some (.slice 29)) {n : Nat} {cs : List Value} {x : DataW H × List MemPlace} (h : DataW.trod enc Try.prog w base spare held n t cs = some x) :
    ∃ (v : Value) (l : List Cell), cs = [v] ∧ Cls w v l ∧ ∀ a ∈ l, a.wf := by
  obtain ⟨v, rows, l, rfl, hs, _, ha⟩ := read_slice (k := 5) ht (by kernel_rfl) (by omega) (fun cs (a : Cell) => cs = a.row ∧ a.wf) (fun n cs x hl h => read_cell n cs x hl h) h
  obtain ⟨e, hw⟩ := rows_of_cells ha
  refine ⟨v, l, rfl, ?_, hw⟩
  unfold Cls
  rw [← e, ← ha.length]
  exact hs

theorem open_cells {t : Nat} (ht : Try.prog.underlying t = some (.slice 29)) {r : Reach} {b0 : Nat} {v : Value} {d : DataW H} {p : List MemPlace} (hv : Value.okWide Try.prog w r b0 t v) (h : DataW.Trod enc Try.prog w base spare held t v d p) :
    ∃ l : List Cell, Cls w v l ∧ ∀ a ∈ l, a.wf := by
  obtain ⟨a0, len, cap, rfl⟩ := okWide_slice ht hv
  obtain ⟨n, hn⟩ := h
  obtain ⟨u, l, e, hl, hw⟩ := read_cells ht hn
  simp only [Value.cells, List.cons.injEq, and_true] at e
  subst e
  exact ⟨l, hl, hw⟩

def Alloc.wf (a : Alloc) : Prop := i64B a.num ∧ ∀ c ∈ a.cells, c.wf
theorem read_alloc (n : Nat) (cs : List Value) (x : DataW H × List MemPlace) (hl : cs.length = 3) (h : DataW.trod enc Try.prog w base spare held n 70 cs = some x) : ∃ a : Alloc, ∃ s, cs = arow s a ∧ Cls w s a.cells ∧ a.wf := by
  have c64 : Try.prog.cellsOf 3 = 1 := by kernel_rfl
  have cB : Try.prog.cellsOf 4 = 1 := by kernel_rfl
  have cS : Try.prog.cellsOf 35 = 1 := by kernel_rfl
  obtain ⟨xs, m, rfl, rfl, _, hx, hf⟩ := DataW.trod_struct Try.underlying70 h
  match cs, hl with
  | [c0, c1, c2], _ =>
    have f0 : DataW.trod enc Try.prog w base spare held m 3 (([c0, c1, c2].drop 0).take (Try.prog.cellsOf 3)) = xs[0]? := hf 0 _ rfl
    have f1 : DataW.trod enc Try.prog w base spare held m 4 (([c0, c1, c2].drop 1).take (Try.prog.cellsOf 4)) = xs[1]? := hf 1 _ rfl
    have f2 : DataW.trod enc Try.prog w base spare held m 35 (([c0, c1, c2].drop 2).take (Try.prog.cellsOf 35)) = xs[2]? := hf 2 _ rfl
    rw [c64] at f0
    rw [cB] at f1
    rw [cS] at f2
    match xs, hx with
    | [y0, y1, y2], _ =>
      obtain ⟨p, e0, _, w0⟩ := DataW.trod_int Try.underlying3 f0
      obtain ⟨t, e1, _⟩ := DataW.trod_bool Try.underlying4 f1
      obtain ⟨q, l, e2, hc, w2⟩ := read_cells Try.underlying35 f2
      simp at e0 e1 e2
      subst e0 e1 e2
      refine ⟨⟨p, t, l⟩, c2, rfl, hc, ?_, w2⟩
      simpa [Lit.wf, IntKind.min, IntKind.max, IntKind.signed, IntKind.bits, i64B] using w0

theorem read_allocs {t : Nat} (ht : Try.prog.underlying t = some (.slice 70)) {n : Nat} {cs : List Value} {x : DataW H × List MemPlace} (h : DataW.trod enc Try.prog w base spare held n t cs = some x) :
    ∃ (v : Value) (l : List Alloc), cs = [v] ∧ Als w v l ∧ ∀ a ∈ l, a.wf := by
  obtain ⟨v, rows, l, rfl, hs, _, ha⟩ := read_slice (k := 3) ht (by kernel_rfl) (by omega) (fun cs (a : Alloc) => ∃ s, cs = arow s a ∧ Cls w s a.cells ∧ a.wf) (fun n cs x hl h => read_alloc n cs x hl h) h
  obtain ⟨vs, h1, h2⟩ := ha.tab
  refine ⟨v, l, rfl, ⟨vs, h1.mono fun _ _ h => h.1, ?_⟩, fun a hm => ?_⟩
  · rw [← h2, ← ha.length]
    exact hs
  · obtain ⟨i, hi⟩ := List.mem_iff_getElem?.1 hm
    obtain ⟨s, _, _, hw⟩ := h1.get hi
    exact hw

def Mem.wf (m : Mem) : Prop := i64B m.next ∧ ∀ a ∈ m.al, a.wf
theorem read_mem (n : Nat) (cs : List Value) (x : DataW H × List MemPlace) (hl : cs.length = 2) (h : DataW.trod enc Try.prog w base spare held n 24 cs = some x) : ∃ (m : Mem) (s : Value), cs = [s, .int .i64 m.next] ∧ Als w s m.al ∧ m.wf := by
  have c64 : Try.prog.cellsOf 3 = 1 := by kernel_rfl
  have cS : Try.prog.cellsOf 22 = 1 := by kernel_rfl
  obtain ⟨xs, m, rfl, rfl, _, hx, hf⟩ := DataW.trod_struct Try.underlying24 h
  match cs, hl with
  | [c0, c1], _ =>
    have f0 : DataW.trod enc Try.prog w base spare held m 22 (([c0, c1].drop 0).take (Try.prog.cellsOf 22)) = xs[0]? := hf 0 _ rfl
    have f1 : DataW.trod enc Try.prog w base spare held m 3 (([c0, c1].drop 1).take (Try.prog.cellsOf 3)) = xs[1]? := hf 1 _ rfl
    rw [cS] at f0
    rw [c64] at f1
    match xs, hx with
    | [y0, y1], _ =>
      obtain ⟨s, l, e0, hl, wl⟩ := read_allocs Try.underlying22 f0
      obtain ⟨p, e1, _, w1⟩ := DataW.trod_int Try.underlying3 f1
      simp at e0 e1
      subst e0 e1
      refine ⟨⟨l, p⟩, c0, rfl, hl, ?_, wl⟩
      simpa [Lit.wf, IntKind.min, IntKind.max, IntKind.signed, IntKind.bits, i64B] using w1

theorem open_mem {r : Reach} {b0 : Nat} {v : Value} {d : DataW H} {p : List MemPlace} (hv : Value.okWide Try.prog w r b0 24 v) (h : DataW.Trod enc Try.prog w base spare held 24 v d p) :
    ∃ (m : Mem) (s : Value), v = .agg #[s, .int .i64 m.next] ∧ Als w s m.al ∧ m.wf := by
  obtain ⟨cs, rfl, hsz⟩ := okWide_struct Try.underlying24 hv
  have hc : Try.prog.cellsOf 24 = 2 := by kernel_rfl
  obtain ⟨n, hn⟩ := h
  obtain ⟨m, s, e, hl, hw⟩ := read_mem n _ _ (by simp only [Value.cells, Array.length_toList]; exact hsz.trans hc) hn
  refine ⟨m, s, ?_, hl, hw⟩
  congr 1
  apply Array.toList_inj.1
  simpa [Value.cells] using e
end

end Go.Proofs.Ytiikdpfbbcnplaa
