/- How the arguments of a statement read: stacks of an allocation, and slices of them. -/
import Derived.Test.YtkbocenpkdaogaaDoorReadM
import Derived.Test.YtkbocenpkdaogaaDoorStkA
namespace Go.Proofs.YtkbocenpkdaogaaDoor
set_option maxRecDepth 100000
open Go.ChangeShapes Go.WideShapes Go.ChangeAt Go.RowKit

def krow (s : Value) (x : Stk) : List Value := [.int .i64 x.num, s]
theorem krow_len (s : Value) (x : Stk) : (krow s x).length = 2 := rfl
/-- In w the slice v reads as the stacks of many allocations. -/
def Kts (w : World) (v : Value) (l : List Stk) : Prop := Tb krow 2 (fun s x => Sts w s x.cells) w v l
theorem Kts.ext {w w' : World} {v : Value} {l : List Stk} (h : Kts w v l) (he : Ext w w') : Kts w' v l := Tb.ext h he fun _ _ h => Sts.ext h he
theorem Kts.nil (w : World) : Kts w (.slice none 0 0) [] := Tb.nil w
theorem Kts.form {w : World} {v : Value} {l : List Stk} (h : Kts w v l) : ∃ a cap, v = .slice a l.length cap ∧ l.length ≤ cap ∧ cap ≤ maxLen ∧ (a = none → cap = 0) := Tb.form h
theorem Kts.cell {w : World} {a : Option Addr} {n cap : Nat} {l : List Stk} (h : Kts w (.slice a n cap) l) {i : Nat} {x : Stk} (hx : l[i]? = some x) :
    ∃ b off s, a = some ⟨b, off, none⟩ ∧ b < w.heap.size ∧ w.cell? ⟨b, off + i * 2, none⟩ = some (.int .i64 x.num) ∧ w.cell? ⟨b, off + i * 2 + 1, none⟩ = some s ∧ Sts w s x.cells := by
  obtain ⟨b, off, s, rfl, hb, hc, hcell⟩ := Tb.cell h krow_len (by omega) hx
  refine ⟨b, off, s, rfl, hb, ?_, ?_, hc⟩
  · simpa using hcell 0 _ rfl
  · exact hcell 1 _ rfl

section
variable {H : Type} {enc : TypeId × Value → H} {w : World} {base : Nat} {spare : Nat → Bool} {held : Bool}

theorem read_stacks {n : Nat} {cs : List Value} {x : DataW H × List MemPlace} (h : DataW.trod enc Tryd.prog w base spare held n 54 cs = some x) :
    ∃ (v : Value) (l : List (List Item)), cs = [v] ∧ Sts w v l := by
  obtain ⟨v, rows, l, rfl, hs, _, ha⟩ := read_slice (k := 1) Tryd.underlying54 (by kernel_rfl) (by omega) (fun cs (a : List Item) => ∃ s, cs = srow s a ∧ Its w s a) (fun n cs x hl h => by
    obtain ⟨u, l, e, hi, _⟩ := read_items Tryd.underlying31 h
    exact ⟨l, u, e, hi⟩) h
  obtain ⟨vs, h1, h2⟩ := ha.tab
  refine ⟨v, l, rfl, vs, h1, ?_⟩
  rw [← h2, ← ha.length]
  exact hs

theorem read_stk (n : Nat) (cs : List Value) (x : DataW H × List MemPlace) (hl : cs.length = 2) (h : DataW.trod enc Tryd.prog w base spare held n 56 cs = some x) : ∃ (m : Stk) (s : Value), cs = krow s m ∧ Sts w s m.cells ∧ i64B m.num := by
  have c64 : Tryd.prog.cellsOf 3 = 1 := by kernel_rfl
  have cS : Tryd.prog.cellsOf 54 = 1 := by kernel_rfl
  obtain ⟨xs, m, rfl, rfl, _, hx, hf⟩ := DataW.trod_struct Tryd.underlying56 h
  match cs, hl with
  | [c0, c1], _ =>
    have f0 : DataW.trod enc Tryd.prog w base spare held m 3 (([c0, c1].drop 0).take (Tryd.prog.cellsOf 3)) = xs[0]? := hf 0 _ rfl
    have f1 : DataW.trod enc Tryd.prog w base spare held m 54 (([c0, c1].drop 1).take (Tryd.prog.cellsOf 54)) = xs[1]? := hf 1 _ rfl
    rw [c64] at f0
    rw [cS] at f1
    match xs, hx with
    | [y0, y1], _ =>
      obtain ⟨p, e0, _, w0⟩ := DataW.trod_int Tryd.underlying3 f0
      obtain ⟨s, l, e1, hl⟩ := read_stacks f1
      simp at e0 e1
      subst e0 e1
      refine ⟨⟨p, l⟩, c1, rfl, hl, ?_⟩
      simpa [Lit.wf, IntKind.min, IntKind.max, IntKind.signed, IntKind.bits, i64B] using w0

theorem open_stacks {r : Reach} {b0 : Nat} {v : Value} {d : DataW H} {p : List MemPlace} (hv : Value.okWide Tryd.prog w r b0 56 v) (h : DataW.Trod enc Tryd.prog w base spare held 56 v d p) :
    ∃ (m : Stk) (s : Value), v = .agg #[.int .i64 m.num, s] ∧ Sts w s m.cells ∧ i64B m.num := by
  obtain ⟨cs, rfl, hsz⟩ := okWide_struct Tryd.underlying56 hv
  have hc : Tryd.prog.cellsOf 56 = 2 := by kernel_rfl
  obtain ⟨n, hn⟩ := h
  obtain ⟨m, s, e, hl, hw⟩ := read_stk n _ _ (by simp only [Value.cells, Array.length_toList]; exact hsz.trans hc) hn
  refine ⟨m, s, ?_, hl, hw⟩
  congr 1
  apply Array.toList_inj.1
  simpa [Value.cells, krow] using e

theorem open_manystacks {t : Nat} (ht : Tryd.prog.underlying t = some (.slice 56)) {r : Reach} {b0 : Nat} {v : Value} {d : DataW H} {p : List MemPlace} (hv : Value.okWide Tryd.prog w r b0 t v) (h : DataW.Trod enc Tryd.prog w base spare held t v d p) :
    ∃ l : List Stk, Kts w v l ∧ ∀ a ∈ l, i64B a.num := by
  obtain ⟨a0, len, cap, rfl⟩ := okWide_slice ht hv
  obtain ⟨n, hn⟩ := h
  obtain ⟨u, rows, l, e, hs, _, ha⟩ := read_slice (k := 2) ht (by kernel_rfl) (by omega) (fun cs (a : Stk) => ∃ s, cs = krow s a ∧ (Sts w s a.cells ∧ i64B a.num)) (fun n cs x hl h => by
    obtain ⟨m, s, h1, h2, h3⟩ := read_stk n cs x hl h
    exact ⟨m, s, h1, h2, h3⟩) hn
  simp only [Value.cells, List.cons.injEq, and_true] at e
  subst e
  obtain ⟨vs, h1, h2⟩ := ha.tab
  refine ⟨l, ⟨vs, h1.mono fun _ _ h => h.1, ?_⟩, fun a hm => ?_⟩
  · rw [← h2, ← ha.length]
    exact hs
  · obtain ⟨i, hi⟩ := List.mem_iff_getElem?.1 hm
    obtain ⟨s, _, _, hw⟩ := h1.get hi
    exact hw
end

end Go.Proofs.YtkbocenpkdaogaaDoor
