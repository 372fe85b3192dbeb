/- In place: append within an owned row, and the filter that Forget is. -/
import Derived.Test.YtiikdpfbbcnplaaCelWB
namespace Go.Proofs.Ytiikdpfbbcnplaa
set_option maxRecDepth 100000
open Go.RowKit

/-- append within a row that is owned as a whole: the new elements stand in it, the rest stays. -/
theorem run_append_fit {P : Program} {w : World} {B : Nat} {t tx ty e e' : TypeId} {i : TypeInfo} {k : Nat} {g n cap j m : Nat} {x : Value} {xs ys : List Value}
    (ht : P.underlying t = some (.slice e)) (htx : P.underlying tx = some (.slice e')) (hi : P.info? e = some i) (hik : i.size = k)
    (hown : Own w B e k (.slice (some ⟨g, 0, none⟩) n cap) n xs) (hx : Sl w k x m ys) (h1 : ∀ u ∈ ys, u.oneCell' = true) (hj : j + m ≤ n) :
    ∃ w', (Builtin.append_ #[t, tx] ty #[.slice (some ⟨g, 0, none⟩) j cap, x]).run P w = .ok (.slice (some ⟨g, 0, none⟩) (j + m) cap) w' ∧
      Own w' B e k (.slice (some ⟨g, 0, none⟩) n cap) n (xs.take (j * k) ++ ys ++ xs.drop ((j + m) * k)) ∧ ExtBut (fun b => b = g) w w' := by
  subst hik
  have hsrc := hx.src htx h1
  rcases hown.2 with ⟨h, _⟩ | ⟨g', cap', cur, hv, hbg, hg, hnc, hcm, hcs, htake⟩
  · cases h
  simp only [Value.slice.injEq, Option.some.injEq, Addr.mk.injEq, and_true, true_and] at hv
  obtain ⟨rfl, rfl⟩ := hv
  have hm1 : (j + m) * i.size ≤ n * i.size := Nat.mul_le_mul_right _ hj
  have hm2 : n * i.size ≤ cap * i.size := Nat.mul_le_mul_right _ hnc
  have hm3 : (j + m) * i.size = j * i.size + m * i.size := Nat.add_mul _ _ _
  have hys : ys.length = m * i.size := hx.len
  have hfit : j * i.size + ys.length ≤ cur.size := by rw [hys, hcs]; omega
  have hst := run_storeCells_at P g (j * i.size) e ys 0 cur w hg (by simpa using hfit) h1
  simp only [Nat.add_zero] at hst
  have hroom : j + m ≤ cap := by omega
  have hr : (Builtin.append_ #[t, tx] ty #[.slice (some ⟨g, 0, none⟩) j cap, x]).run P w =
      .ok (.slice (some ⟨g, 0, none⟩) (j + m) cap) (w.setRow g (cur.toList.take (j * i.size) ++ ys ++ cur.toList.drop (j * i.size + ys.length)).toArray) := by
    rcases hsrc.kind with ⟨e', hk⟩ | hk <;> simp [Builtin.append_, run_underlying ht, run_underlying hk, sizeOf, typeInfo, hi, hsrc.len, hroom, hsrc.cells, Addr.add_lit, hst]
  have hxl : xs.length = n * i.size := hown.1
  refine ⟨_, hr, ⟨?_, .inr ⟨g, cap, _, rfl, hbg, setRow_heap w g cur _ e _ hg, hnc, hcm, ?_, ?_⟩⟩, ⟨rfl, rfl, rfl, by simp, fun b hb hne => setRow_other w g b _ hne⟩⟩
  · simp only [List.length_append, List.length_take, List.length_drop, hys, hxl]
    omega
  · simp only [List.size_toArray, List.length_append, List.length_take, List.length_drop, Array.length_toList]
    omega
  · have hle : j * i.size ≤ n * i.size := by omega
    rw [← htake, List.take_append, List.take_of_length_le (by simp only [List.length_append, List.length_take, Array.length_toList, hys]; omega)]
    congr 1
    · congr 1
      rw [List.take_take, Nat.min_eq_left hle]
    · rw [List.drop_take, hys, hm3, show (cur.toList.take (j * i.size) ++ ys).length = j * i.size + m * i.size by simp only [List.length_append, List.length_take, Array.length_toList, hys]; omega, Nat.sub_add_eq]

theorem wpList_append_run {P : Program} {w : World} {ops : Array Oper} {rest : List Oper} {o : Oper} {a : Act} {Q : Exit → Act → World → Prop} (hgd : o.guard = none) (s x : Operand) (t tx ty : TypeId)
    (ho : o.op = .call { callee := .builtin .append, args := #[s, x], argTypes := #[t, tx] }) (hty : o.type = ty) {v u v' : Value} {w' : World} (hs : a.eval s = v) (hu : a.eval x = u)
    (hr : (Builtin.append_ #[t, tx] ty #[v, u]).run P w = .ok v' w') (h : wpList P ops Q rest (a.put o.dst v') w') : wpList P ops Q (o :: rest) a w := by
  subst hty
  refine wpList_plain hgd fun _ hK => ?_
  unfold Oper.wp execOp
  simp only [ho, resolve, invoke, builtin, Sem.run_bind, Sem.run_pure, Result.andThen_ok, List.map_toArray, List.map_cons, List.map_nil, hs, hu, hr]
  exact hK _ _ h

theorem run_slice_full {P : Program} {t e : TypeId} {i : TypeInfo} (ht : P.underlying t = some (.slice e)) (hi : P.info? e = some i) (a : Option Addr) (n cap : Nat) (k : Nat) (hk : k ≤ cap) (w : World) :
    (Instr.slice t (.slice a n cap) none (some (.int .i64 (k : Int))) (some (.int .i64 (k : Int)))).run P w = .ok (.slice a k k) w := by
  simp [Instr.slice, run_underlying ht, Instr.sliceBounds, Instr.sliceBound, asIntOf, hk, sizeOf, typeInfo, hi]
  cases a with
  | none => simp
  | some a => simp [Addr.add]

section
variable (vs : List Value) (l : List Alloc)
/-- The live ones of the first k, with their slices. -/
def zf (k : Nat) : List (Value × Alloc) := ((vs.zip l).take k).filter (fun p => p.2.live)
def zrows (z : List (Value × Alloc)) : List Value := z.flatMap fun p => arow p.1 p.2
variable {vs l}
theorem zrows_len (z : List (Value × Alloc)) : (zrows z).length = z.length * 3 := rows_len (k := 3) (fun p : Value × Alloc => arow p.1 p.2) (fun _ => rfl) z
theorem zf_zero : zf vs l 0 = [] := by simp [zf]
theorem zf_le (k : Nat) : (zf vs l k).length ≤ k := Nat.le_trans (List.length_filter_le _ _) (List.length_take_le _ _)
theorem zf_yes {k : Nat} {s : Value} {x : Alloc} (hs : vs[k]? = some s) (hx : l[k]? = some x) (h : x.live = true) : zf vs l (k + 1) = zf vs l k ++ [(s, x)] := by
  have hz : (vs.zip l)[k]? = some (s, x) := by rw [List.getElem?_zip_eq_some]; exact ⟨hs, hx⟩
  rw [zf, List.take_add_one, hz, List.filter_append]
  simp [zf, h]
theorem zf_no {k : Nat} {s : Value} {x : Alloc} (hs : vs[k]? = some s) (hx : l[k]? = some x) (h : x.live = false) : zf vs l (k + 1) = zf vs l k := by
  have hz : (vs.zip l)[k]? = some (s, x) := by rw [List.getElem?_zip_eq_some]; exact ⟨hs, hx⟩
  rw [zf, List.take_add_one, hz, List.filter_append]
  simp [zf, h]
theorem zf_snd (hl : vs.length = l.length) : (zf vs l l.length).map Prod.snd = l.filter (·.live) := by
  have h1 : (vs.zip l).take l.length = vs.zip l := List.take_of_length_le (by rw [List.length_zip]; omega)
  have h2 : (vs.zip l).map Prod.snd = l := by rw [← List.unzip_snd, List.unzip_zip_right (by omega)]
  rw [zf, h1]
  conv => rhs; rw [← h2]
  rw [List.filter_map]
  rfl
theorem zf_rows (z : List (Value × Alloc)) : trows arow (z.map Prod.fst) (z.map Prod.snd) = zrows z := by
  unfold trows zrows
  congr 1
  induction z with
  | nil => rfl
  | cons p z ih => simp [ih]
end
/-- In place: what has been kept stands in front, what has not been looked at stands where it stood. -/
structure FInv (B : Nat) (w3 wr : World) (g cp : Nat) (vs : List Value) (l : List Alloc) (k : Nat) : Prop where
  ys : ∃ ys, Own wr B 70 3 (.slice (some ⟨g, 0, none⟩) l.length cp) l.length ys ∧ ys.take ((zf vs l k).length * 3) = zrows (zf vs l k) ∧ ys.drop (k * 3) = (trows arow vs l).drop (k * 3)
  keep : ExtBut (fun b => b = g) w3 wr
theorem FInv.start {B : Nat} {w3 : World} {g cp : Nat} {vs : List Value} {l : List Alloc} (hO : Own w3 B 70 3 (.slice (some ⟨g, 0, none⟩) l.length cp) l.length (trows arow vs l)) : FInv B w3 w3 g cp vs l 0 :=
  ⟨⟨_, hO, by simp [zf_zero, zrows], rfl⟩, ExtBut.refl _ _⟩
theorem FInv.skip {B : Nat} {w3 wr w' : World} {g cp : Nat} {vs : List Value} {l : List Alloc} {k : Nat} {s : Value} {x : Alloc} (h : FInv B w3 wr g cp vs l k) (hs : vs[k]? = some s) (hx : l[k]? = some x) (hl : x.live = false) (hE : Ext wr w') : FInv B w3 w' g cp vs l (k + 1) := by
  obtain ⟨⟨ys, h1, h2, h3⟩, h4⟩ := h
  refine ⟨⟨ys, h1.ext hE, by rw [zf_no hs hx hl]; exact h2, ?_⟩, h4.trans (ExtBut.of_ext hE)⟩
  rw [Nat.add_mul, ← List.drop_drop, ← List.drop_drop, h3]
theorem FInv.cells {B : Nat} {w3 wr : World} {g cp : Nat} {vs : List Value} {l : List Alloc} {k : Nat} {s : Value} {x : Alloc} (h : FInv B w3 wr g cp vs l k) (hs : vs[k]? = some s) (hx : l[k]? = some x) :
    wr.cell? ⟨g, k * 3, none⟩ = some (.int .i64 x.num) ∧ wr.cell? ⟨g, k * 3 + 1, none⟩ = some (.bool x.live) ∧ wr.cell? ⟨g, k * 3 + 2, none⟩ = some s := by
  obtain ⟨⟨ys, h1, h2, h3⟩, h4⟩ := h
  have hk : k < l.length := (List.getElem?_eq_some_iff.1 hx).1
  have t : ∀ j, j < 3 → wr.cell? ⟨g, k * 3 + j, none⟩ = (arow s x)[j]? := fun j hj => by
    rw [h1.cellAt (k * 3 + j) (by omega)]
    have e1 : ys[k * 3 + j]? = (ys.drop (k * 3))[j]? := by rw [List.getElem?_drop]
    have e2 : (trows arow vs l)[k * 3 + j]? = ((trows arow vs l).drop (k * 3))[j]? := by rw [List.getElem?_drop]
    rw [e1, h3, ← e2]
    exact trows_get arow arow_len hs hx hj
  exact ⟨t 0 (by omega), t 1 (by omega), t 2 (by omega)⟩
set_option maxRecDepth 100000 in
theorem FInv.take {B : Nat} {w3 wr wx : World} {g cp : Nat} {vs : List Value} {l : List Alloc} {k : Nat} {s v : Value} {x : Alloc} (h : FInv B w3 wr g cp vs l k) (hs : vs[k]? = some s) (hx : l[k]? = some x) (hl : x.live = true) (hE : Ext wr wx)
    (hv : Sl wx 3 v 1 (arow s x)) (hs1 : s.oneCell' = true) : ∃ w', (Builtin.append_ #[22, 22] 22 #[.slice (some ⟨g, 0, none⟩) (zf vs l k).length cp, v]).run Try.prog wx = .ok (.slice (some ⟨g, 0, none⟩) ((zf vs l k).length + 1) cp) w' ∧ FInv B w3 w' g cp vs l (k + 1) ∧ ExtBut (fun b => b = g) wx w' := by
  obtain ⟨⟨ys, h1, h2, h3⟩, h4⟩ := h
  obtain ⟨i, z, hi, hz, hi3, hz3, hby⟩ := Alloc.infoE
  have hk : k < l.length := (List.getElem?_eq_some_iff.1 hx).1
  have hle := zf_le (vs := vs) (l := l) k
  have hyl : ys.length = l.length * 3 := h1.1
  obtain ⟨w', hr, hO, hX⟩ := run_append_fit (P := Try.prog) (ty := 22) (j := (zf vs l k).length) Try.underlying22 Try.underlying22 hi hi3 (h1.ext hE) hv (by intro u hu; simp only [arow, List.mem_cons, List.not_mem_nil, or_false] at hu; rcases hu with rfl | rfl | rfl; rfl; rfl; exact hs1) (by omega)
  refine ⟨w', hr, ⟨⟨_, hO, ?_, ?_⟩, (h4.trans (ExtBut.of_ext hE)).trans hX⟩, hX⟩
  · rw [zf_yes hs hx hl, List.length_append, List.length_singleton, zrows, List.flatMap_append, ← zrows, ← h2, List.take_append, List.take_of_length_le (by simp [arow_len]; omega)]
    simp [arow_len, List.length_take]
    left
    omega
  · rw [List.drop_append, List.drop_of_length_le (by simp [arow_len, List.length_take]; omega), List.nil_append]
    have e : (List.take ((zf vs l k).length * 3) ys ++ arow s x).length = (zf vs l k).length * 3 + 3 := by simp [arow_len, List.length_take]; omega
    rw [e, List.drop_drop, show ((zf vs l k).length + 1) * 3 + ((k + 1) * 3 - ((zf vs l k).length * 3 + 3)) = k * 3 + 3 by omega, ← List.drop_drop, h3, List.drop_drop]
    congr 1
    omega
theorem Sl.tight {w : World} {k : Nat} {a : Option Addr} {n cap : Nat} {xs : List Value} (h : Sl w k (.slice a n cap) n xs) (hk : n ≤ maxLen) (hx : a = none → n = 0) : Sl w k (.slice a n n) n xs := by
  obtain ⟨h1, a', cap', e, h3, h4, h5, h6⟩ := h
  simp only [Value.slice.injEq] at e
  obtain ⟨rfl, _, rfl⟩ := e
  exact ⟨h1, a, n, rfl, Nat.le_refl _, hk, hx, h6⟩
theorem FInv.read {B : Nat} {w3 wr w7 : World} {g cp : Nat} {vs : List Value} {l : List Alloc} {S : Nat → Prop} (h : FInv B w3 wr g cp vs l l.length) (hOM : OM w3 B (.slice (some ⟨g, 0, none⟩) l.length cp) vs l) (hg : B ≤ g) (hX : ExtBut S wr w7) (hS : ∀ b, S b → b < B) :
    Als w7 (.slice (some ⟨g, 0, none⟩) (zf vs l l.length).length (zf vs l l.length).length) (l.filter (·.live)) := by
  obtain ⟨⟨ys, h1, h2, h3⟩, h4⟩ := h
  have hl := (All2.iff.1 hOM.inner).1
  have hle := zf_le (vs := vs) (l := l) l.length
  have e1 := zf_snd hl
  refine ⟨(zf vs l l.length).map Prod.fst, ?_, ?_⟩
  · rw [← e1]
    refine All2.map _ _ _ fun p hp => ?_
    have hp2 := List.mem_of_mem_take (List.mem_filter.1 hp).1
    obtain ⟨i, hi⟩ := List.mem_iff_getElem?.1 hp2
    rw [List.getElem?_zip_eq_some] at hi
    have hr := (All2.iff.1 hOM.inner).2 i _ _ hi.1 hi.2
    have h5 := OM.inner_lt hOM p.1 (List.mem_of_getElem? hi.1)
    have h6 := hOM.far p.1 (List.mem_of_getElem? hi.1)
    exact ExtBut.sl (ExtBut.sl (OwnC.read hr) h4 (fun b e hb => h6 b e (by rw [hb]; rfl))) hX (fun b e hb => by have := (h5 b e).1; have := hS b hb; omega)
  · have h7 := (ExtBut.own h1 hX (fun b e hb => by have h' : some g = some b := e; cases h'; have := hS _ hb; omega)).sl
    have h8 := h7.take (zf vs l l.length).length (by omega)
    rw [h2, ← zf_rows, e1] at h8
    rw [← e1, List.length_map, e1]
    obtain ⟨_, _, _, _, hcm, _⟩ := h7
    exact h8.tight (by rcases h1.2 with ⟨h, _⟩ | ⟨_, _, _, hv, _, _, hnc, hcm', _⟩; cases h; simp only [Value.slice.injEq] at hv; omega) (fun e => by cases e)

end Go.Proofs.Ytiikdpfbbcnplaa
