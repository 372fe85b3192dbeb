/- In place: copy into a row that is owned as a whole; one row of an owned memory is written. -/
import Derived.Test.YtiikdpfbbcnplaaCelX4
import Derived.Test.YtiikdpfbbcnplaaCelP
namespace Go.Proofs.Ytiikdpfbbcnplaa
set_option maxRecDepth 100000
open Go.RowKit

/-- copy into a row that is owned as a whole, from an element on. -/
theorem run_copy_fit {P : Program} {w : World} {B : Nat} {t tx ty e : TypeId} {i : TypeInfo} {k : Nat} {g n cap j m dcap scap : Nat} {sa : Option Addr} {xs ys : List Value}
    (ht : P.underlying t = some (.slice e)) (hi : P.info? e = some i) (hik : i.size = k)
    (hown : Own w B e k (.slice (some ⟨g, 0, none⟩) n cap) n xs) (hx : Sl w k (.slice sa m scap) m ys) (h1 : ∀ u ∈ ys, u.oneCell' = true) (hj : j + m ≤ n) :
    ∃ w', (Builtin.copy_ #[t, tx] ty #[.slice (some ⟨g, j * k, none⟩) m dcap, .slice sa m scap]).run P w = .ok (goInt m) w' ∧
      Own w' B e k (.slice (some ⟨g, 0, none⟩) n cap) n (xs.take (j * k) ++ ys ++ xs.drop ((j + m) * k)) ∧ ExtBut (fun b => b = g) w w' := by
  subst hik
  rcases hown.2 with ⟨h, _⟩ | ⟨g', cap', cur, hv, hbg, hg, hnc, hcm, hcs, htake⟩
  · cases h
  simp only [Value.slice.injEq, Option.some.injEq, Addr.mk.injEq, and_true, true_and] at hv
  obtain ⟨rfl, rfl⟩ := hv
  have hm1 : (j + m) * i.size ≤ n * i.size := Nat.mul_le_mul_right _ hj
  have hm2 : n * i.size ≤ cap * i.size := Nat.mul_le_mul_right _ hnc
  have hm3 : (j + m) * i.size = j * i.size + m * i.size := Nat.add_mul _ _ _
  have hys : ys.length = m * i.size := hx.len
  have hfit : j * i.size + ys.length ≤ cur.size := by rw [hys, hcs]; omega
  have hst := run_storeCells_at P g (j * i.size) e ys 0 cur w hg (by simpa using hfit) h1
  simp only [Nat.add_zero] at hst
  have hfc := hx.firstCells (P := P)
  have hr : (Builtin.copy_ #[t, tx] ty #[.slice (some ⟨g, j * i.size, none⟩) m dcap, .slice sa m scap]).run P w =
      .ok (goInt m) (w.setRow g (cur.toList.take (j * i.size) ++ ys ++ cur.toList.drop (j * i.size + ys.length)).toArray) := by
    simp [Builtin.copy_, run_underlying ht, Builtin.lenOf, sizeOf, typeInfo, hi, hfc, hst]
  have hxl : xs.length = n * i.size := hown.1
  refine ⟨_, hr, ⟨?_, .inr ⟨g, cap, _, rfl, hbg, setRow_heap w g cur _ e _ hg, hnc, hcm, ?_, ?_⟩⟩, ⟨rfl, rfl, rfl, by simp, fun b hb hne => setRow_other w g b _ hne⟩⟩
  · simp only [List.length_append, List.length_take, List.length_drop, hys, hxl]
    omega
  · simp only [List.size_toArray, List.length_append, List.length_take, List.length_drop, Array.length_toList]
    omega
  · have hle : j * i.size ≤ n * i.size := by omega
    rw [← htake, List.take_append, List.take_of_length_le (by simp only [List.length_append, List.length_take, Array.length_toList, hys]; omega)]
    congr 1
    · congr 1
      rw [List.take_take, Nat.min_eq_left hle]
    · rw [List.drop_take, hys, hm3, show (cur.toList.take (j * i.size) ++ ys).length = j * i.size + m * i.size by simp only [List.length_append, List.length_take, Array.length_toList, hys]; omega, Nat.sub_add_eq]

theorem wpList_copy_run {P : Program} {w : World} {ops : Array Oper} {rest : List Oper} {o : Oper} {a : Act} {Q : Exit → Act → World → Prop} (hgd : o.guard = none) (s x : Operand) (t tx ty : TypeId)
    (ho : o.op = .call { callee := .builtin .copy, args := #[s, x], argTypes := #[t, tx] }) (hty : o.type = ty) {v u v' : Value} {w' : World} (hs : a.eval s = v) (hu : a.eval x = u)
    (hr : (Builtin.copy_ #[t, tx] ty #[v, u]).run P w = .ok v' w') (h : wpList P ops Q rest (a.put o.dst v') w') : wpList P ops Q (o :: rest) a w := by
  subst hty
  refine wpList_plain hgd fun _ hK => ?_
  unfold Oper.wp execOp
  simp only [ho, resolve, invoke, builtin, Sem.run_bind, Sem.run_pure, Result.andThen_ok, List.map_toArray, List.map_cons, List.map_nil, hs, hu, hr]
  exact hK _ _ h

/-- The rows of a list with one element turned, cell by cell. -/
theorem rows_set5 (L : List Cell) (j : Nat) (x c : Cell) (hx : L[j]? = some x) :
    ((((((L.flatMap Cell.row).set (j * 5) (.int .u8 c.k)).set (j * 5 + 1) (.int .i64 c.n)).set (j * 5 + 2) (.int .i64 c.a)).set (j * 5 + 3) (.int .i64 c.o)).set (j * 5 + 4) (.int .i64 c.t)) = (L.set j c).flatMap Cell.row := by
  have hj := (List.getElem?_eq_some_iff.1 hx).1
  have h0 := rows_setj Cell.row Cell.row_len 0 (.int .u8 c.k) L j x ⟨c.k, x.n, x.a, x.o, x.t⟩ hx (by omega) rfl
  have h1 := rows_setj Cell.row Cell.row_len 1 (.int .i64 c.n) (L.set j ⟨c.k, x.n, x.a, x.o, x.t⟩) j ⟨c.k, x.n, x.a, x.o, x.t⟩ ⟨c.k, c.n, x.a, x.o, x.t⟩ (List.getElem?_set_self hj) (by omega) rfl
  have h2 := rows_setj Cell.row Cell.row_len 2 (.int .i64 c.a) (L.set j ⟨c.k, c.n, x.a, x.o, x.t⟩) j ⟨c.k, c.n, x.a, x.o, x.t⟩ ⟨c.k, c.n, c.a, x.o, x.t⟩ (List.getElem?_set_self hj) (by omega) rfl
  have h3 := rows_setj Cell.row Cell.row_len 3 (.int .i64 c.o) (L.set j ⟨c.k, c.n, c.a, x.o, x.t⟩) j ⟨c.k, c.n, c.a, x.o, x.t⟩ ⟨c.k, c.n, c.a, c.o, x.t⟩ (List.getElem?_set_self hj) (by omega) rfl
  have h4 := rows_setj Cell.row Cell.row_len 4 (.int .i64 c.t) (L.set j ⟨c.k, c.n, c.a, c.o, x.t⟩) j ⟨c.k, c.n, c.a, c.o, x.t⟩ c (List.getElem?_set_self hj) (by omega) rfl
  rw [List.set_set] at h1 h2 h3 h4
  rw [Nat.add_zero] at h0
  rw [h0, h1, h2, h3, h4]

/-- One row's cells were turned, its number and whether it is live stay. -/
theorem OM.put_inner {w w' : World} {B : Nat} {v s : Value} {vs : List Value} {l : List Alloc} {i g : Nat} {x y : Alloc} (h : OM w B v vs l) (hx : l[i]? = some x) (hs : vs[i]? = some s) (hg : s.ownBlock = some g)
    (hX : ExtBut (fun b => b = g) w w') (hR : OwnC w' B s y) (hn : y.num = x.num) (hl : y.live = x.live) : OM w' B v vs (l.set i y) := by
  have hlen := (All2.iff.1 h.inner).1
  have hil := (List.getElem?_eq_some_iff.1 hx).1
  have ht : trows arow vs (l.set i y) = trows arow vs l := by
    have h1 := trows_set arow arow_len (j := 0) (s := s) (s' := s) (a := x) (a' := y) (u := .int .i64 x.num) hs hx (by omega) (by simp [arow, hn, hl])
    rw [set_same hs] at h1
    rw [← h1]
    apply set_same
    rw [trows_get arow arow_len hs hx (by omega)]
    rfl
  refine ⟨?_, All2.iff.2 ⟨by simpa using hlen, fun j a b ha hb => ?_⟩, h.apart, h.far⟩
  · rw [ht, List.length_set]
    exact ExtBut.own h.outer hX (fun b e h' => h.far s (List.mem_of_getElem? hs) g hg (by rw [e, h']))
  · by_cases e : i = j
    · subst e
      rw [List.getElem?_set_self hil] at hb
      rw [hs] at ha
      cases ha
      cases hb
      exact hR
    · rw [List.getElem?_set_ne e] at hb
      exact OwnC.keep ((All2.iff.1 h.inner).2 j a b ha hb) hX (fun b' e1 e2 => h.apart i j s a e hs ha g hg (by rw [e1, e2]))

theorem box_of_alloc_drew {W w : World} {vs : Array Value} {e : TypeId} (h : Ext (W.alloc (.cells vs e)).drew w) : Box w W.heap.size e vs :=
  Box.ext (Box.ext (Box.new W e vs) (Ext.refl _).drew) h
theorem ExtBut.set' {a w : World} {g : Nat} (h : ExtBut (fun b => b = g) a w) {p : Addr} (hp : p.block = g) (u : Value) : ExtBut (fun b => b = g) a (w.setCell p u) :=
  h.trans ((ExtBut.setCell w p u).mono fun x _ e => e.trans hp)
theorem put_step {x : Alloc} {o k : Nat} {l : List Cell} {c : Cell} (ho : o + l.length ≤ x.cells.length) (hc : l[k]? = some c) : (putCells x o (l.take k)).cells.set (o + k) c = (putCells x o (l.take (k + 1))).cells := by
  have hk := (List.getElem?_eq_some_iff.1 hc).1
  have h1 : (x.cells.take o).length = o := by rw [List.length_take]; omega
  have h2 : (l.take k).length = k := by rw [List.length_take]; omega
  have h3 : (l.take (k + 1)).length = k + 1 := by rw [List.length_take]; omega
  show (x.cells.take o ++ l.take k ++ x.cells.drop (o + (l.take k).length)).set (o + k) c = x.cells.take o ++ l.take (k + 1) ++ x.cells.drop (o + (l.take (k + 1)).length)
  have hd : x.cells.drop (o + k) = x.cells[o + k]'(by omega) :: x.cells.drop (o + k + 1) := List.drop_eq_getElem_cons (by omega)
  rw [h2, h3, List.set_append_right _ _ (by rw [List.length_append]; omega), List.length_append, h1, h2, Nat.sub_self, hd, List.set_cons_zero, List.take_add_one, hc]
  simp [Nat.add_assoc]
theorem put_none (x : Alloc) (o : Nat) : putCells x o [] = x := by
  simp [putCells]

/-- A memory, a reason, an error. -/
def RetMW (w : World) (m : Mem) (why err : Int) (en : Ending) (w' : World) : Prop := ∃ v, en = .returned (.tuple #[v, .int .u8 why, .int .i64 err]) ∧ FrM w w' v m ∧ Ext w w'

end Go.Proofs.Ytiikdpfbbcnplaa
