/- Plain laws of layers 26 and 27: what a store leaves, and what is loaded afterwards; no program is walked. -/
import Derived.Test.YtiikdpfbbcnplaaCelX3
import Derived.Test.YtiikdpfbbcnplaaOth26
namespace Go.Proofs.Ytiikdpfbbcnplaa
set_option maxRecDepth 100000
open Go.RowKit

theorem okAl_put {next : Int} {y : Alloc} : ∀ (l : List Alloc) (least : Int) (i : Nat) (x : Alloc), okAl next least l = true → l[i]? = some x → y.num = x.num → 1 ≤ y.cells.length → y.cells.length ≤ 2 →
    y.cells.all (cellIn y.live) = true → okAl next least (l.set i y) = true
  | [], _, i, x, _, h, _, _, _, _ => by simp at h
  | a :: l, least, 0, x, h, hx, h1, h2, h3, h4 => by
    simp only [List.getElem?_cons_zero, Option.some.injEq] at hx
    subst hx
    have h4' : y.cells.all (fun c => c.ok && (y.live || c.k == 0)) = true := h4
    simp only [okAl, Bool.and_eq_true, decide_eq_true_eq] at h
    simp only [List.set_cons_zero, okAl, Bool.and_eq_true, decide_eq_true_eq, h4', h1]
    exact ⟨⟨⟨⟨⟨h.1.1.1.1.1, h.1.1.1.1.2⟩, h2⟩, h3⟩, trivial⟩, h.2⟩
  | a :: l, least, i + 1, x, h, hx, h1, h2, h3, h4 => by
    simp only [okAl, Bool.and_eq_true] at h
    simp only [List.set_cons_succ, okAl, Bool.and_eq_true]
    exact ⟨h.1, okAl_put l _ i x h.2 (by simpa using hx) h1 h2 h3 h4⟩
theorem okAl_in {next : Int} : ∀ (l : List Alloc) (least : Int), okAl next least l = true → ∀ (i : Nat) (x : Alloc), l[i]? = some x → 1 ≤ x.cells.length ∧ x.cells.length ≤ 2 ∧ x.cells.all (cellIn x.live) = true
  | [], _, _, i, x, h => by simp at h
  | a :: l, least, h, i, x, hx => by
    simp only [okAl, Bool.and_eq_true, decide_eq_true_eq] at h
    cases i with
    | zero =>
      simp only [List.getElem?_cons_zero, Option.some.injEq] at hx
      subst hx
      exact ⟨h.1.1.1.2, h.1.1.2, h.1.2⟩
    | succ i => exact okAl_in l _ h.2 i x (by simpa using hx)
theorem atNum_put {l : List Alloc} {i : Nat} {x y : Alloc} (hx : l[i]? = some x) (h : y.num = x.num) (n : Int) : atNum (l.set i y) n = atNum l n := by
  unfold atNum
  have key : ∀ (l : List Alloc) (i : Nat), l[i]? = some x → (l.set i y).findIdx? (fun a => a.num == n) = l.findIdx? (fun a => a.num == n) := by
    intro l
    induction l with
    | nil => intro i h; simp at h
    | cons a l ih =>
      intro i hi
      cases i with
      | zero =>
        simp only [List.getElem?_cons_zero, Option.some.injEq] at hi
        subst hi
        rw [List.set_cons_zero, List.findIdx?_cons, List.findIdx?_cons, h]
      | succ i => rw [List.set_cons_succ, List.findIdx?_cons, List.findIdx?_cons, ih i (by simpa using hi)]
  exact key l i hx
theorem put_len {x : Alloc} {o : Nat} {l : List Cell} (h : o + l.length ≤ x.cells.length) : (putCells x o l).cells.length = x.cells.length := by
  simp only [putCells, List.length_append, List.length_take, List.length_drop]
  omega
theorem put_all {x : Alloc} {o : Nat} {l : List Cell} (hx : x.cells.all (cellIn x.live) = true) (hl : l.all Cell.ok = true) (hv : x.live = true) : (putCells x o l).cells.all (cellIn (putCells x o l).live) = true := by
  show (x.cells.take o ++ l ++ x.cells.drop (o + l.length)).all (cellIn x.live) = true
  rw [List.all_eq_true] at hx hl ⊢
  intro c hc
  rcases List.mem_append.1 hc with hc | hc
  · rcases List.mem_append.1 hc with hc | hc
    · exact hx c (List.mem_of_mem_take hc)
    · simp [cellIn, hl c hc, hv]
  · exact hx c (List.mem_of_mem_drop hc)
theorem ok_put {m : Mem} {i o : Nat} {x : Alloc} {l : List Cell} (h : m.ok = true) (hx : m.al[i]? = some x) (hv : x.live = true) (ho : o + l.length ≤ x.cells.length) (hl : l.all Cell.ok = true) : (⟨m.al.set i (putCells x o l), m.next⟩ : Mem).ok = true := by
  unfold Mem.ok okM at h ⊢
  simp only [Bool.and_eq_true, decide_eq_true_eq] at h ⊢
  obtain ⟨h1, h2, h3⟩ := okAl_in _ _ h.2 i x hx
  exact ⟨⟨by simpa using h.1.1, h.1.2⟩, okAl_put _ _ i x h.2 hx rfl (by rw [put_len ho]; exact h1) (by rw [put_len ho]; exact h2) (put_all h3 hl hv)⟩

theorem storeR_err {m : Mem} {p : Ptr} {l : List Cell} {err : Int} (h : (askR m p l.length).2 = err) (he : err ≠ 0) : storeR m p l = (Mem.zero, 0, err) := by
  subst h
  rw [storeR, if_neg he]
theorem storeR_bad {m : Mem} {p : Ptr} {l : List Cell} (h : (askR m p l.length).2 = 0) (hl : l.all Cell.ok = false) : storeR m p l = (Mem.zero, 0, 8) := by
  rw [storeR, if_pos h, hl]
  rfl
theorem storeR_none {m : Mem} {p : Ptr} {l : List Cell} (h : askR m p l.length = (none, 0)) (hl : l.all Cell.ok = true) : storeR m p l = (Mem.zero, 3, 0) := by
  rw [storeR, h, if_pos rfl, if_pos hl]
theorem storeR_dead {m : Mem} {p : Ptr} {l : List Cell} {i : Nat} {x : Alloc} (h : askR m p l.length = (some i, 0)) (hl : l.all Cell.ok = true) (hx : m.al[i]? = some x) (hv : x.live = false) : storeR m p l = (Mem.zero, 3, 0) := by
  have hg : m.al.getD i Alloc.zero = x := by rw [List.getD_eq_getElem?_getD, hx]; rfl
  rw [storeR, h, if_pos rfl, if_pos hl]
  show (if (m.al.getD i Alloc.zero).live = true then _ else _) = _
  rw [hg, hv]
  rfl
theorem storeR_yes {m : Mem} {p : Ptr} {l : List Cell} {i : Nat} {x : Alloc} (h : askR m p l.length = (some i, 0)) (hl : l.all Cell.ok = true) (hx : m.al[i]? = some x) (hv : x.live = true) : storeR m p l = (⟨m.al.set i (putCells x p.o.toNat l), m.next⟩, 0, 0) := by
  have hg : m.al.getD i Alloc.zero = x := by rw [List.getD_eq_getElem?_getD, hx]; rfl
  rw [storeR, h, if_pos rfl, if_pos hl]
  show (if (m.al.getD i Alloc.zero).live = true then ((⟨storeAt m.al i p.o.toNat l, m.next⟩, 0, 0) : Mem × Int × Int) else _) = _
  rw [hg, hv, if_pos rfl]
  unfold storeAt
  rw [hx]
/-- The three ways of a store: not possible at all; the storage is not there; it is done. -/
theorem storeR_cases (m : Mem) (p : Ptr) (l : List Cell) : (∃ e, storeR m p l = (Mem.zero, 0, e) ∧ e ≠ 0) ∨ (storeR m p l = (Mem.zero, 3, 0) ∧ l.all Cell.ok = true ∧ (askR m p l.length).2 = 0 ∧ rangeR m p l.length = []) ∨
    ∃ i x, askR m p l.length = (some i, 0) ∧ m.al[i]? = some x ∧ x.live = true ∧ l.all Cell.ok = true ∧ storeR m p l = (⟨m.al.set i (putCells x p.o.toNat l), m.next⟩, 0, 0) := by
  obtain ⟨ix, err, hask⟩ : ∃ ix err, askR m p l.length = (ix, err) := ⟨_, _, rfl⟩
  by_cases he : err = 0
  · subst he
    cases hl : l.all Cell.ok
    · exact .inl ⟨8, storeR_bad (by rw [hask]) hl, by decide⟩
    · cases ix with
      | none => exact .inr (.inl ⟨storeR_none hask hl, rfl, by rw [hask], rangeR_none hask⟩)
      | some i =>
        obtain ⟨-, -, -, -, -, -, -, x, hx, -, -⟩ := askR_inv hask
        cases hv : x.live
        · exact .inr (.inl ⟨storeR_dead hask hl hx hv, rfl, by rw [hask], rangeR_dead hask hx hv⟩)
        · exact .inr (.inr ⟨i, x, hask, hx, hv, rfl, storeR_yes hask hl hx hv⟩)
  · exact .inl ⟨err, storeR_err (by rw [hask]) he, he⟩

/-- What is asked of a range does not hang on what is in the cells. -/
theorem askR_put {m : Mem} {i o : Nat} {x : Alloc} {l : List Cell} (h : m.ok = true) (hx : m.al[i]? = some x) (hv : x.live = true) (ho : o + l.length ≤ x.cells.length) (hl : l.all Cell.ok = true) (p : Ptr) (n : Int) :
    askR ⟨m.al.set i (putCells x o l), m.next⟩ p n = askR m p n := by
  unfold askR
  rw [ok_put h hx hv ho hl, h]
  rw [show atNum (⟨m.al.set i (putCells x o l), m.next⟩ : Mem).al p.a = atNum m.al p.a from atNum_put (y := putCells x o l) hx rfl _]
  cases hj : atNum m.al p.a with
  | none => rfl
  | some j =>
    have : (((m.al.set i (putCells x o l)).getD j Alloc.zero).cells.length : Int) = ((m.al.getD j Alloc.zero).cells.length : Int) := by
      rw [List.getD_eq_getElem?_getD, List.getD_eq_getElem?_getD]
      by_cases e : i = j
      · subst e
        rw [List.getElem?_set_self (List.getElem?_eq_some_iff.1 hx).1, hx]
        show ((putCells x o l).cells.length : Int) = _
        rw [put_len ho]
        rfl
      · rw [List.getElem?_set_ne e]
    show (if p.a < 0 ∨ m.next ≤ p.a ∨ n < 1 ∨ 2 < n then _ else if p.o < 0 ∨ (((m.al.set i (putCells x o l)).getD j Alloc.zero).cells.length : Int) - n < p.o then _ else _) = _
    rw [this]
    rfl
theorem cut_put {x : Alloc} {o : Nat} {l : List Cell} (ho : o + l.length ≤ x.cells.length) : cutOf (putCells x o l) o l.length = l := by
  have h1 : (x.cells.take o).length = o := by rw [List.length_take]; omega
  show ((x.cells.take o ++ l ++ x.cells.drop (o + l.length)).drop o).take l.length = l
  rw [List.append_assoc, List.drop_append, List.drop_of_length_le (by omega), h1, Nat.sub_self, List.drop_zero, List.nil_append, List.take_append_of_le_length (Nat.le_refl _), List.take_length]
theorem put_put {x : Alloc} {o : Nat} {l l' : List Cell} (ho : o + l.length ≤ x.cells.length) (he : l'.length = l.length) : putCells (putCells x o l) o l' = putCells x o l' := by
  have h1 : (x.cells.take o).length = o := by rw [List.length_take]; omega
  have e1 : (x.cells.take o ++ l ++ x.cells.drop (o + l.length)).take o = x.cells.take o := by
    rw [List.append_assoc, List.take_append_of_le_length (by omega), List.take_of_length_le (by omega)]
  have e2 : (x.cells.take o ++ l ++ x.cells.drop (o + l.length)).drop (o + l.length) = x.cells.drop (o + l.length) := by
    rw [List.drop_append, List.drop_of_length_le (by simp only [List.length_append]; omega), List.length_append, h1, Nat.sub_self, List.drop_zero, List.nil_append]
  simp only [putCells, he, e1, e2]
theorem put_two {x : Alloc} {o : Nat} {c d : Cell} (ho : o + 2 ≤ x.cells.length) : putCells (putCells x o [c]) (o + 1) [d] = putCells x o [c, d] := by
  have h1 : (x.cells.take o).length = o := by rw [List.length_take]; omega
  have e1 : (x.cells.take o ++ [c] ++ x.cells.drop (o + 1)).take (o + 1) = x.cells.take o ++ [c] := by
    rw [List.take_append_of_le_length (by simp only [List.length_append, List.length_singleton]; omega), List.take_of_length_le (by simp only [List.length_append, List.length_singleton]; omega)]
  have e2 : (x.cells.take o ++ [c] ++ x.cells.drop (o + 1)).drop (o + 1 + 1) = x.cells.drop (o + 2) := by
    rw [List.drop_append, List.drop_of_length_le (by simp only [List.length_append, List.length_singleton]; omega), List.nil_append, List.length_append, h1, List.length_singleton, List.drop_drop]
    congr 1
    omega
  show (⟨x.num, x.live, (x.cells.take o ++ [c] ++ x.cells.drop (o + 1)).take (o + 1) ++ [d] ++ (x.cells.take o ++ [c] ++ x.cells.drop (o + 1)).drop (o + 1 + 1)⟩ : Alloc) = ⟨x.num, x.live, x.cells.take o ++ [c, d] ++ x.cells.drop (o + 2)⟩
  rw [e1, e2]
  simp
theorem set_put {l : List Alloc} {i : Nat} {x y : Alloc} (hx : l[i]? = some x) : (l.set i y)[i]? = some y := List.getElem?_set_self (List.getElem?_eq_some_iff.1 hx).1

end Go.Proofs.Ytiikdpfbbcnplaa
