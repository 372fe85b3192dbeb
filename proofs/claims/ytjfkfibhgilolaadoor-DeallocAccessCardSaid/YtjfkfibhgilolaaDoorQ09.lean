/- Several texts in one: DeaF, CellA, CellB, ReadM, ReadK, ReadI. -/
import Derived.Test.YtjfkfibhgilolaaDoorQ07
import Derived.Test.YtjfkfibhgilolaaDoorQ08
import Derived.Test.YtjfkfibhgilolaaDoorQ01
import Derived.Test.YtjfkfibhgilolaaDoorQ04
/- What protects an allocation still does after an access of all its cells; no program in sight. (printed by gen/dea34c.py) -/
namespace Go.Proofs.YtjfkfibhgilolaaDoor
set_option maxRecDepth 100000
open Go.RowKit

theorem All2.filter {α β : Type} {R : α → β → Prop} {p : α → Bool} {q : β → Bool} (hr : ∀ a b, R a b → p a = q b) : ∀ {xs : List α} {ys : List β}, All2 R xs ys → All2 R (xs.filter p) (ys.filter q)
  | [], [], _ => trivial
  | a :: xs, b :: ys, h => by
    have e := hr a b h.1
    have ih := All2.filter hr h.2
    rw [List.filter_cons, List.filter_cons, ← e]
    cases p a
    · simpa using ih
    · exact ⟨h.1, ih⟩
theorem All2.refl' {α : Type} {R : α → α → Prop} (hr : ∀ a, R a a) : ∀ l : List α, All2 R l l
  | [] => trivial
  | a :: l => ⟨hr a, All2.refl' hr l⟩
theorem Same1.held {run : List Int} (x y : Item) (h : Same1 x y) : heldBy run x = heldBy run y := by
  rcases h with rfl | ⟨-, rfl⟩ <;> rfl

theorem use_prot {l : List Item} {tag : Int} {write : Bool} {i : Nat} {run : List Int} (hf : findAt l tag write = some i) (hh : ∀ x ∈ useGone l i write, heldBy run x = false) : All2 Same1 (l.filter (heldBy run)) ((useLeft l i write).filter (heldBy run)) := by
  obtain ⟨x0, hx0, -, -⟩ := findAt_is hf
  have hil : i < l.length := (List.getElem?_eq_some_iff.1 hx0).1
  have hl : (l.filter (heldBy run)) = (l.take (i + 1)).filter (heldBy run) ++ (l.drop (i + 1)).filter (heldBy run) := by rw [← List.filter_append, List.take_append_drop]
  rw [hl]
  cases write
  · have hg : ∀ x ∈ (l.drop (i + 1)).filter (fun x => x.p == 1), heldBy run x = false := hh
    have he : (l.drop (i + 1)).filter (heldBy run) = ((l.drop (i + 1)).filter (fun x => x.p != 1)).filter (heldBy run) := by
      rw [List.filter_filter]
      refine List.filter_congr fun x hx => ?_
      by_cases h1 : x.p = 1
      · rw [hg x (List.mem_filter.2 ⟨hx, by simp [h1]⟩)]; rfl
      · simp [h1]
    show All2 Same1 _ ((l.take (i + 1) ++ (l.drop (i + 1)).filter (fun x => x.p != 1)).filter (heldBy run))
    rw [List.filter_append, he]
    exact All2.refl' (fun a => .inl rfl) _
  · have hg : ∀ x ∈ l.drop (i + 1), heldBy run x = false := hh
    have he : (l.drop (i + 1)).filter (heldBy run) = [] := List.filter_eq_nil_iff.2 fun x hx => by simp [hg x hx]
    show All2 Same1 _ ((actAt (l.take (i + 1)) i).filter (heldBy run))
    rw [he, List.append_nil]
    refine All2.filter Same1.held ?_
    refine All2.iff.2 ⟨(actAt_len _ _).symm, fun k a b ha hb => ?_⟩
    by_cases hk : k = i
    · subst hk
      by_cases hp : a.p = 2
      · rw [actAt_get_yes ha hp] at hb
        cases hb
        exact .inr ⟨hp, rfl⟩
      · rw [actAt_get_no ha hp] at hb
        cases hb
        exact .inl rfl
    · rw [actAt_get_ne hk, ha] at hb
      cases hb
      exact .inl rfl

theorem told_zero {X G T : List Item} {why er : Int} {run : List Int} (h : toldR' X G why er run = (T, 0, 0)) : X = T ∧ why = 0 ∧ er = 0 ∧ ∀ x ∈ G, heldBy run x = false := by
  have hnh : ¬ (er = 0 ∧ why = 0 ∧ (firstR G run).isSome = true) := by
    intro hy
    rw [toldR'_yes hy] at h
    simp at h
  rw [toldR'_no hnh] at h
  simp only [Prod.mk.injEq] at h
  obtain ⟨rfl, rfl, rfl⟩ := h
  refine ⟨rfl, rfl, rfl, fun x hx => ?_⟩
  cases hh : heldBy run x
  · rfl
  · exact absurd ⟨rfl, rfl, by rw [firstR_isSome]; exact List.any_eq_true.2 ⟨x, hx, hh⟩⟩ hnh

def accF (what tag : Int) (it : Item) (run : List Int) (l : List Item) : List Item × Int × Int := if what = 0 then useR l tag false run else if what = 5 then useR l tag true run else tagR l what tag it run
def newP (what : Int) (it : Item) (run : List Int) : Bool := what != 0 && what != 5 && hasR run it.c

theorem use_cell {l T : List Item} {tag : Int} {b : Bool} {run : List Int} (h : useR l tag b run = (T, 0, 0)) : All2 Same1 (l.filter (heldBy run)) (T.filter (heldBy run)) := by
  unfold useR at h
  cases hr : okR run
  · rw [hr] at h
    simp at h
  · rw [hr, if_pos rfl] at h
    obtain ⟨h1, h3, h4, h2⟩ := told_zero h
    have hok : okS l = true := by
      cases ho : okS l
      · simp [chk, ho] at h4
      · rfl
    simp only [accL, accG, accW, hok, if_true, usedL, usedG, usedW] at h1 h2 h3
    cases hf : findAt l tag b with
    | none => simp [hf] at h3
    | some i =>
      simp only [hf] at h1 h2
      subst h1
      exact use_prot hf h2

theorem cell_prot {l T : List Item} {what tag : Int} {it : Item} {run : List Int} (h : accF what tag it run l = (T, 0, 0)) :
    ∃ m suf, T.filter (heldBy run) = m ++ suf ∧ suf.length = (if newP what it run then 1 else 0) ∧ All2 Same1 (l.filter (heldBy run)) m := by
  unfold accF at h
  by_cases h0 : what = 0
  · rw [if_pos h0] at h
    exact ⟨_, [], (List.append_nil _).symm, by simp [newP, h0], use_cell h⟩
  · rw [if_neg h0] at h
    by_cases h5 : what = 5
    · rw [if_pos h5] at h
      exact ⟨_, [], (List.append_nil _).symm, by simp [newP, h5], use_cell h⟩
    · rw [if_neg h5] at h
      unfold tagR at h
      cases hr : okR run
      · rw [hr] at h
        simp at h
      · rw [hr, if_pos rfl] at h
        obtain ⟨h1, h3, h4, h2⟩ := told_zero h
        have hok : okS l = true := by
          cases ho : okS l
          · rw [retagR_bad ho] at h4; simp at h4
          · rfl
        obtain ⟨⟨X, G, w, e⟩, hb⟩ : ∃ z, retagR l what tag it = z := ⟨_, rfl⟩
        rw [hb] at h1 h2 h3 h4
        dsimp only at h1 h2 h3 h4
        subst h1 h3 h4
        obtain ⟨-, -, hw, -, hs⟩ := retag_spec hok hb
        rcases hs with ⟨hs, -⟩ | ⟨-, hX, hG', -⟩
        · cases hs
        · rcases usedW_cases l tag (writesOf what) with ⟨-, hf⟩ | ⟨hf, -⟩
          · obtain ⟨i, hf⟩ := Option.isSome_iff_exists.1 hf
            simp only [usedL, usedG, hf] at hX hG'
            rw [hX, List.filter_append]
            refine ⟨_, _, rfl, ?_, use_prot hf (by rw [← hG']; exact h2)⟩
            have hnp : newP what it run = hasR run it.c := by simp [newP, h0, h5]
            rw [hnp, List.filter_cons]
            show (if hasR run it.c = true then _ else _ : List Item).length = _
            cases hasR run it.c <;> rfl
          · rw [hf] at hw; cases hw

/-- Each of A stands in B, in order. -/
def EmbA (A B : List Item) (pos : Nat → Nat) : Prop := ∀ (i : Nat) (x : Item), A[i]? = some x → (∃ y, B[pos i]? = some y ∧ Same1 x y) ∧ (i + 1 < A.length → pos i < pos (i + 1))
theorem EmbA.of_all {A m suf : List Item} (h : All2 Same1 A m) : EmbA A (m ++ suf) id := by
  intro i x hx
  refine ⟨?_, fun _ => Nat.lt_succ_self i⟩
  have hi : i < m.length := by rw [← h.length]; exact (List.getElem?_eq_some_iff.1 hx).1
  exact ⟨m[i], by rw [id, List.getElem?_append_left hi, List.getElem?_eq_getElem hi], (All2.iff.1 h).2 i x _ hx (List.getElem?_eq_getElem hi)⟩
theorem EmbA.append {A B A' B' : List Item} {pos pos' : Nat → Nat} (h : EmbA A B pos) (h' : EmbA A' B' pos') : EmbA (A ++ A') (B ++ B') (fun i => if i < A.length then pos i else B.length + pos' (i - A.length)) := by
  intro i x hx
  by_cases hi : i < A.length
  · rw [List.getElem?_append_left hi] at hx
    obtain ⟨⟨y, hy, hs⟩, hup⟩ := h i x hx
    have hlt : pos i < B.length := (List.getElem?_eq_some_iff.1 hy).1
    refine ⟨⟨y, by simp only [hi, if_true]; rw [List.getElem?_append_left hlt]; exact hy, hs⟩, fun _ => ?_⟩
    simp only [hi, if_true]
    by_cases hi2 : i + 1 < A.length
    · simp only [hi2, if_true]; exact hup hi2
    · simp only [hi2, if_false]; omega
  · rw [List.getElem?_append_right (by omega)] at hx
    obtain ⟨⟨y, hy, hs⟩, hup⟩ := h' (i - A.length) x hx
    refine ⟨⟨y, ?_, hs⟩, fun hn => ?_⟩
    · simp only [hi, if_false]
      rw [List.getElem?_append_right (by omega), Nat.add_sub_cancel_left]; exact hy
    · have hi2 : ¬ i + 1 < A.length := by omega
      simp only [hi, hi2, if_false]
      have := hup (by simp only [List.length_append] at hn; omega)
      rw [show i + 1 - A.length = i - A.length + 1 by omega]
      omega

theorem all_prot {what tag : Int} {it : Item} {run : List Int} : ∀ {l yl : List (List Item)}, yl.length = l.length → (∀ (i : Nat) p, l[i]? = some p → ∃ T, yl[i]? = some T ∧ accF what tag it run p = (T, 0, 0)) →
    ∃ pos, EmbA (keptL l run) (keptL yl run) pos ∧ (keptL yl run).length = (keptL l run).length + (if newP what it run then l.length else 0)
  | [], [], _, _ => ⟨id, fun i x hx => by simp [keptL] at hx, by simp [keptL]⟩
  | p :: l, T :: yl, hl, h => by
    obtain ⟨T', hT, hp⟩ := h 0 p rfl
    cases hT
    obtain ⟨pos', h1, h2⟩ := all_prot (l := l) (yl := yl) (by simpa using hl) (fun i q hq => h (i + 1) q hq)
    obtain ⟨m, suf, e, hs, ha⟩ := cell_prot hp
    have e1 : keptL (p :: l) run = p.filter (heldBy run) ++ keptL l run := rfl
    have e2 : keptL (T :: yl) run = T.filter (heldBy run) ++ keptL yl run := rfl
    rw [e1, e2, e]
    refine ⟨_, (EmbA.of_all ha).append h1, ?_⟩
    have hlen := ha.length
    simp only [List.length_append, h2, hs, List.length_cons]
    split <;> omega

theorem useF_ok {x : Stk} {what tag : Int} {n : Nat} {it : Item} {run : List Int} {y : Stk} {why : Int}
    (h : (if what = 0 then use33 x 0 n tag false run else if what = 5 then use33 x 0 n tag true run else tag33 x 0 n what tag it run) = (y, why, 0)) : ask33 x 0 n run = 0 ∧ eachR (accF what tag it run) x 0 n = (y, why, 0) := by
  have fu : ∀ b, use33 x 0 n tag b run = (y, why, 0) → ask33 x 0 n run = 0 ∧ eachR (fun l => useR l tag b run) x 0 n = (y, why, 0) := by
    intro b hb
    by_cases ha : ask33 x 0 n run = 0
    · refine ⟨ha, ?_⟩
      rw [use33, if_pos ha] at hb
      exact hb
    · rw [use33, if_neg ha] at hb
      exact absurd (congrArg (fun z => z.2.2) hb) ha
  by_cases h0 : what = 0
  · rw [if_pos h0] at h
    have hf : accF what tag it run = fun l => useR l tag false run := by funext l; rw [accF, if_pos h0]
    rw [hf]; exact fu _ h
  · rw [if_neg h0] at h
    by_cases h5 : what = 5
    · rw [if_pos h5] at h
      have hf : accF what tag it run = fun l => useR l tag true run := by funext l; rw [accF, if_neg h0, if_pos h5]
      rw [hf]; exact fu _ h
    · rw [if_neg h5] at h
      have hf : accF what tag it run = fun l => tagR l what tag it run := by funext l; rw [accF, if_neg h0, if_neg h5]
      rw [hf]
      by_cases ha : ask33 x 0 n run = 0
      · refine ⟨ha, ?_⟩
        rw [tag33, if_pos ha] at h
        by_cases hk : kindOk what = true
        · rw [if_pos hk] at h; exact h
        · rw [if_neg hk] at h; cases h
      · rw [tag33, if_neg ha] at h
        exact absurd (congrArg (fun z => z.2.2) h) ha

theorem access_okS {what tag : Int} {it : Item} {run : List Int} (l : List Item) : okS (accF what tag it run l).1 = true := by
  unfold accF
  split
  · exact useR_okS ..
  · split
    · exact useR_okS ..
    · exact tagR_okS ..

/-- After an access of all the cells that is possible: both ask without an error, and what protected still does. -/
theorem access_law {num what tag yn : Int} {it : Item} {run : List Int} {l yl : List (List Item)}
    (h : (if what = 0 then use33 ⟨num, l⟩ 0 (l.length : Nat) tag false run else if what = 5 then use33 ⟨num, l⟩ 0 (l.length : Nat) tag true run else tag33 ⟨num, l⟩ 0 (l.length : Nat) what tag it run) = (⟨yn, yl⟩, 0, 0)) :
    protR ⟨num, l⟩ run = (keptL l run, 0) ∧ protR ⟨yn, yl⟩ run = (keptL yl run, 0) ∧ (∃ pos, EmbA (keptL l run) (keptL yl run) pos) ∧ (keptL yl run).length = (keptL l run).length + (if newP what it run then l.length else 0) ∧ l.length ≤ 2 ∧ (keptL l run).length ≤ 1200 := by
  obtain ⟨hask, hE⟩ := useF_ok h
  rcases ask33_cases ⟨num, l⟩ ((0 : Int)) (((l.length : Nat) : Int)) run with h1 | h1 | ⟨-, hrok, hok, hin⟩
  · rw [hask] at h1; cases h1
  · rw [hask] at h1; cases h1
  · have hT : 0 + l.length ≤ l.length := by omega
    obtain ⟨hFe, hall, hz, -⟩ := each_cells hT hE
    obtain ⟨rfl, hyl⟩ := hz rfl
    have hcell : ∀ (i : Nat) p, l[i]? = some p → ∃ T, yl[i]? = some T ∧ accF what tag it run p = (T, 0, 0) := by
      intro i p hp
      have hi : i < l.length := (List.getElem?_eq_some_iff.1 hp).1
      obtain ⟨e1, e2, e3⟩ := (hall i p hp).2 ⟨Nat.zero_le _, by omega⟩
      obtain ⟨e4, e5⟩ := e3 rfl
      rw [if_pos e4] at e2
      have hnx : fstW (accF what tag it run) l 0 l.length (i + 1) = 0 := by
        apply Decidable.byContradiction
        intro hn
        have := fstW_keep hn (l.length - (i + 1))
        rw [show i + 1 + (l.length - (i + 1)) = l.length by omega] at this
        exact this hFe
      rw [hnx] at e2
      exact ⟨_, e5, Prod.ext rfl (Prod.ext e2.symm e1)⟩
    obtain ⟨pos, hp1, hp2⟩ := all_prot hyl hcell
    have hsm := okK_small hok
    have hyok : okK ⟨yn, yl⟩ = true := by
      unfold okK at hok ⊢
      simp only [Bool.and_eq_true, decide_eq_true_eq] at hok ⊢
      refine ⟨⟨⟨hok.1.1.1, by omega⟩, by omega⟩, List.all_eq_true.2 fun T hT => ?_⟩
      obtain ⟨i, hi⟩ := List.mem_iff_getElem?.1 hT
      have hil : i < l.length := by rw [← hyl]; exact (List.getElem?_eq_some_iff.1 hi).1
      obtain ⟨T', e1, e2⟩ := hcell i l[i] (List.getElem?_eq_getElem hil)
      rw [hi] at e1
      cases e1
      have := access_okS (what := what) (tag := tag) (it := it) (run := run) l[i]
      rw [e2] at this
      exact this
    refine ⟨protR_ok (by rw [askErr, if_pos hrok, stkErr_ok hok]), protR_ok (by rw [askErr, if_pos hrok, stkErr_ok hyok]), ⟨pos, hp1⟩, hp2, hsm.1, ?_⟩
    have := kept_len (run := run) hsm.2 l.length
    rw [List.take_length] at this
    have h2 := hsm.1
    dsimp only at h2
    omega

end Go.Proofs.YtjfkfibhgilolaaDoor

/- Memory as Lean data: cells, allocations, and what a value in memory reads as; no program in sight. -/
namespace Go.Proofs.YtjfkfibhgilolaaDoor
set_option maxRecDepth 100000
open Go.RowKit

/-! ### cells -/
structure Cell where
  k : Int
  n : Int
  a : Int
  o : Int
  t : Int
  deriving DecidableEq
def Cell.row (c : Cell) : List Value := [.int .u8 c.k, .int .i64 c.n, .int .i64 c.a, .int .i64 c.o, .int .i64 c.t]
def Cell.val (c : Cell) : Value := .agg #[.int .u8 c.k, .int .i64 c.n, .int .i64 c.a, .int .i64 c.o, .int .i64 c.t]
def Cell.zero : Cell := ⟨0, 0, 0, 0, 0⟩
theorem Cell.row_len (c : Cell) : c.row.length = 5 := rfl
theorem Cell.one (l : List Cell) : ∀ u ∈ l.flatMap Cell.row, u.oneCell' = true := by
  intro u hu
  obtain ⟨x, _, hx⟩ := List.mem_flatMap.1 hu
  simp only [Cell.row, List.mem_cons, List.not_mem_nil, or_false] at hx
  rcases hx with rfl | rfl | rfl | rfl | rfl <;> rfl

def Cls (w : World) (v : Value) (l : List Cell) : Prop := Sl w 5 v l.length (l.flatMap Cell.row)
theorem Cls.ext {w w' : World} {v : Value} {l : List Cell} (h : Cls w v l) (he : Ext w w') : Cls w' v l := Sl.ext h he
theorem Cls.nil (w : World) : Cls w (.slice none 0 0) [] := Sl.nil w 5
theorem Cls.form {w : World} {v : Value} {l : List Cell} (h : Cls w v l) : ∃ a cap, v = .slice a l.length cap ∧ l.length ≤ cap ∧ cap ≤ maxLen ∧ (a = none → cap = 0) := Sl.slice_form h
theorem Cls.cell {w : World} {a : Option Addr} {n cap : Nat} {l : List Cell} (h : Cls w (.slice a n cap) l) {i : Nat} {x : Cell} (hx : l[i]? = some x) :
    ∃ b off, a = some ⟨b, off, none⟩ ∧ b < w.heap.size ∧ w.cell? ⟨b, off + i * 5, none⟩ = some (.int .u8 x.k) ∧ w.cell? ⟨b, off + i * 5 + 1, none⟩ = some (.int .i64 x.n) ∧ w.cell? ⟨b, off + i * 5 + 2, none⟩ = some (.int .i64 x.a) ∧ w.cell? ⟨b, off + i * 5 + 3, none⟩ = some (.int .i64 x.o) ∧ w.cell? ⟨b, off + i * 5 + 4, none⟩ = some (.int .i64 x.t) := by
  have hi : i < l.length := (List.getElem?_eq_some_iff.1 hx).1
  obtain ⟨b, off, rfl, hb, hc⟩ := Sl.at h (by omega) (by omega : 0 < l.length)
  have g := rows_get Cell.row Cell.row_len l i
  refine ⟨b, off, rfl, hb, ?_, ?_, ?_, ?_, ?_⟩
  · have := hc (i * 5 + 0) _ ((g 0 x hx (by omega)).trans rfl)
    simpa using this
  · exact hc (i * 5 + 1) _ ((g 1 x hx (by omega)).trans rfl)
  · exact hc (i * 5 + 2) _ ((g 2 x hx (by omega)).trans rfl)
  · exact hc (i * 5 + 3) _ ((g 3 x hx (by omega)).trans rfl)
  · exact hc (i * 5 + 4) _ ((g 4 x hx (by omega)).trans rfl)

/-- No pointer. -/
def Cell.noP (c : Cell) : Bool := c.a == 0 && c.o == 0 && c.t == 0
def Cell.ok (c : Cell) : Bool :=
  if c.k = 0 then c.n == 0 && c.noP else if c.k = 1 then c.noP else if c.k = 2 then c.n == 0 && inB c.a && inB c.t && decide (0 ≤ c.o) && decide (c.o ≤ 2) else false
def cellErr (c : Cell) : Int := if c.ok then 0 else 8

/-! ### allocations -/
structure Alloc where
  num : Int
  live : Bool
  cells : List Cell
  deriving DecidableEq
def arow (s : Value) (a : Alloc) : List Value := [.int .i64 a.num, .bool a.live, s]
theorem arow_len (s : Value) (a : Alloc) : (arow s a).length = 3 := rfl
theorem arow_one (vs : List Value) (l : List Alloc) (h : ∀ s ∈ vs, s.oneCell' = true) : ∀ u ∈ trows arow vs l, u.oneCell' = true := by
  intro u hu
  obtain ⟨p, hp, hu⟩ := List.mem_flatMap.1 hu
  simp only [arow, List.mem_cons, List.not_mem_nil, or_false] at hu
  rcases hu with rfl | rfl | rfl
  · rfl
  · rfl
  · exact h _ (List.of_mem_zip hp).1
/-- In w the slice v reads as the allocations l. -/
def Als (w : World) (v : Value) (l : List Alloc) : Prop := Tb arow 3 (fun s a => Cls w s a.cells) w v l

theorem Als.ext {w w' : World} {v : Value} {l : List Alloc} (h : Als w v l) (he : Ext w w') : Als w' v l := Tb.ext h he fun _ _ h => Cls.ext h he
theorem Als.nil (w : World) : Als w (.slice none 0 0) [] := Tb.nil w
theorem Als.form {w : World} {v : Value} {l : List Alloc} (h : Als w v l) : ∃ a cap, v = .slice a l.length cap ∧ l.length ≤ cap ∧ cap ≤ maxLen ∧ (a = none → cap = 0) := Tb.form h
theorem Als.cell {w : World} {a : Option Addr} {n cap : Nat} {l : List Alloc} (h : Als w (.slice a n cap) l) {i : Nat} {x : Alloc} (hx : l[i]? = some x) :
    ∃ b off s, a = some ⟨b, off, none⟩ ∧ b < w.heap.size ∧ w.cell? ⟨b, off + i * 3, none⟩ = some (.int .i64 x.num) ∧ w.cell? ⟨b, off + i * 3 + 1, none⟩ = some (.bool x.live) ∧ w.cell? ⟨b, off + i * 3 + 2, none⟩ = some s ∧ Cls w s x.cells := by
  obtain ⟨b, off, s, rfl, hb, hc, hcell⟩ := Tb.cell h arow_len (by omega) hx
  refine ⟨b, off, s, rfl, hb, ?_, ?_, ?_, hc⟩
  · simpa using hcell 0 _ rfl
  · exact hcell 1 _ rfl
  · exact hcell 2 _ rfl

/-- Valid allocations: each number at least `least` and below next, increasing; one or two cells, all valid; those that ended are unset. -/
def okAl (next : Int) : Int → List Alloc → Bool
  | _, [] => true
  | least, a :: l => decide (least ≤ a.num) && decide (a.num < next) && decide (1 ≤ a.cells.length) && decide (a.cells.length ≤ 2) && a.cells.all (fun c => c.ok && (a.live || c.k == 0)) && okAl next (a.num + 1) l
def okM (l : List Alloc) (next : Int) : Bool := decide (l.length ≤ 400) && inB next && okAl next 0 l
def memErr (l : List Alloc) (next : Int) : Int := if okM l next then 0 else 8

theorem okAl_drop {next least : Int} {l : List Alloc} {k : Nat} {x : Alloc} (hx : l[k]? = some x) :
    okAl next least (l.drop k) = (decide (least ≤ x.num) && decide (x.num < next) && decide (1 ≤ x.cells.length) && decide (x.cells.length ≤ 2) && x.cells.all (fun c => c.ok && (x.live || c.k == 0)) && okAl next (x.num + 1) (l.drop (k + 1))) := by
  obtain ⟨hk, rfl⟩ := List.getElem?_eq_some_iff.1 hx
  rw [List.drop_eq_getElem_cons hk]
  rfl


/-! ### what the functions on memories compute -/
structure Mem where
  al : List Alloc
  next : Int
  deriving DecidableEq
def Mem.zero : Mem := ⟨[], 0⟩
def RdM (w : World) (v : Value) (m : Mem) : Prop := ∃ s, v = .agg #[s, .int .i64 m.next] ∧ Als w s m.al
theorem RdM.ext {w w' : World} {v : Value} {m : Mem} (h : RdM w v m) (he : Ext w w') : RdM w' v m := by
  obtain ⟨s, rfl, hs⟩ := h
  exact ⟨s, rfl, hs.ext he⟩
theorem RdM.zero (w : World) : RdM w (.agg #[.slice none 0 0, .int .i64 0]) Mem.zero := ⟨_, rfl, Als.nil w⟩
def Mem.ok (m : Mem) : Bool := okM m.al m.next
def Mem.err (m : Mem) : Int := if m.ok then 0 else 8
theorem Mem.err_eq (m : Mem) : m.err = memErr m.al m.next := rfl

def newAlloc (num : Int) (size : Nat) : Alloc := ⟨num, true, List.replicate size Cell.zero⟩
/-- Add: the memory, the number, the error. -/
def addR (m : Mem) (size : Int) : Mem × Int × Int :=
  if m.ok then
    if size < 1 ∨ 2 < size then (Mem.zero, 0, 2)
    else if m.al.length = 400 ∨ m.next = 1000000 then (Mem.zero, 0, 18)
    else (⟨m.al ++ [newAlloc m.next size.toNat], m.next + 1⟩, m.next, 0)
  else (Mem.zero, 0, 8)
def atNum (l : List Alloc) (n : Int) : Option Nat := l.findIdx? (fun a => a.num == n)
def Alloc.zero : Alloc := ⟨0, false, []⟩
/-- Get: the allocation, the error. -/
def getR (m : Mem) (n : Int) : Alloc × Int :=
  if m.ok then
    match atNum m.al n with
    | none => (Alloc.zero, 6)
    | some i => (m.al.getD i Alloc.zero, 0)
  else (Alloc.zero, 8)
def ended (a : Alloc) : Alloc := ⟨a.num, false, List.replicate a.cells.length Cell.zero⟩
def endAt (l : List Alloc) (i : Nat) : List Alloc := match l[i]? with | some a => l.set i (ended a) | none => l
/-- End: the memory, the error. -/
def endR (m : Mem) (n : Int) : Mem × Int :=
  if m.ok then
    match atNum m.al n with
    | none => (Mem.zero, 6)
    | some i => if (m.al.getD i Alloc.zero).live then (⟨endAt m.al i, m.next⟩, 0) else (Mem.zero, 6)
  else (Mem.zero, 8)
/-- Forget: the memory, the error. -/
def forgetR (m : Mem) : Mem × Int := if m.ok then (⟨m.al.filter (·.live), m.next⟩, 0) else (Mem.zero, 8)
/-- More than 410 allocations, or one of more than 5 cells. -/
def greatM (l : List Alloc) : Bool := (l.take 411).any (fun a => decide (5 < a.cells.length)) || decide (410 < l.length)

end Go.Proofs.YtjfkfibhgilolaaDoor

/- What the functions on cells of a memory compute (layer 27), and plain laws of layers 26 and 27; no program in sight. -/
namespace Go.Proofs.YtjfkfibhgilolaaDoor
set_option maxRecDepth 100000
open Go.RowKit

structure Ptr where
  a : Int
  o : Int
  t : Int
  deriving DecidableEq
def Ptr.val (p : Ptr) : Value := .agg #[.int .i64 p.a, .int .i64 p.o, .int .i64 p.t]

/-- The index of the allocation of a range, if there is one, and the error. -/
def askR (m : Mem) (p : Ptr) (n : Int) : Option Nat × Int :=
  if m.ok then
    if p.a < 0 ∨ m.next ≤ p.a ∨ n < 1 ∨ 2 < n then (none, 2)
    else match atNum m.al p.a with
      | none => (none, 0)
      | some i => if p.o < 0 ∨ ((m.al.getD i Alloc.zero).cells.length : Int) - n < p.o then (none, 6) else (some i, 0)
  else (none, 8)
def cutOf (a : Alloc) (o n : Nat) : List Cell := (a.cells.drop o).take n
/-- The cells of a range; none if its allocation is not there. -/
def rangeR (m : Mem) (p : Ptr) (n : Int) : List Cell :=
  match (askR m p n).1 with
  | none => []
  | some i => if (m.al.getD i Alloc.zero).live then cutOf (m.al.getD i Alloc.zero) p.o.toNat n.toNat else []
/-- LoadAll: the cells, why not, the error. -/
def loadR (m : Mem) (p : Ptr) (n : Int) : List Cell × Int × Int :=
  if (askR m p n).2 = 0 then
    if rangeR m p n = [] then ([], 3, 0) else if (rangeR m p n).any (· == Cell.zero) then ([], 4, 0) else (rangeR m p n, 0, 0)
  else ([], 0, (askR m p n).2)
def load1R (m : Mem) (p : Ptr) : Cell × Int × Int := ((loadR m p 1).1.headD Cell.zero, (loadR m p 1).2)
def putCells (a : Alloc) (o : Nat) (l : List Cell) : Alloc := ⟨a.num, a.live, a.cells.take o ++ l ++ a.cells.drop (o + l.length)⟩
def storeAt (al : List Alloc) (i o : Nat) (l : List Cell) : List Alloc := match al[i]? with | some a => al.set i (putCells a o l) | none => al
/-- StoreAll: the memory, why not, the error. -/
def storeR (m : Mem) (p : Ptr) (l : List Cell) : Mem × Int × Int :=
  if (askR m p l.length).2 = 0 then
    if l.all Cell.ok then
      match (askR m p l.length).1 with
      | none => (Mem.zero, 3, 0)
      | some i => if (m.al.getD i Alloc.zero).live then (⟨storeAt m.al i p.o.toNat l, m.next⟩, 0, 0) else (Mem.zero, 3, 0)
    else (Mem.zero, 0, 8)
  else (Mem.zero, 0, (askR m p l.length).2)

end Go.Proofs.YtjfkfibhgilolaaDoor

/- How the arguments of a statement read: pointers, cells, memories. -/
namespace Go.Proofs.YtjfkfibhgilolaaDoor
set_option maxRecDepth 100000
open Go.ChangeShapes Go.WideShapes Go.ChangeAt Go.RowKit

/-- Each row holds a slice. -/
theorem All2.tab {α : Type} {row : Value → α → List Value} {Q : Value → α → Prop} : ∀ {rows : List (List Value)} {l : List α}, All2 (fun cs a => ∃ s, cs = row s a ∧ Q s a) rows l → ∃ vs, All2 Q vs l ∧ rows.flatten = trows row vs l
  | [], [], _ => ⟨[], trivial, rfl⟩
  | r :: rows, a :: l, h => by
    obtain ⟨vs, h1, h2⟩ := All2.tab h.2
    obtain ⟨s, rfl, hq⟩ := h.1
    exact ⟨s :: vs, ⟨hq, h1⟩, by rw [List.flatten_cons, h2]; simp [trows]⟩

section
variable {H : Type} {enc : TypeId × Value → H} {w : World} {base : Nat} {spare : Nat → Bool} {held : Bool}



end

end Go.Proofs.YtjfkfibhgilolaaDoor

/- How the arguments of a statement read: stacks of an allocation, and slices of them. -/
namespace Go.Proofs.YtjfkfibhgilolaaDoor
set_option maxRecDepth 100000
open Go.ChangeShapes Go.WideShapes Go.ChangeAt Go.RowKit

def krow (s : Value) (x : Stk) : List Value := [.int .i64 x.num, s]
theorem krow_len (s : Value) (x : Stk) : (krow s x).length = 2 := rfl
/-- In w the slice v reads as the stacks of many allocations. -/
def Kts (w : World) (v : Value) (l : List Stk) : Prop := Tb krow 2 (fun s x => Sts w s x.cells) w v l
theorem Kts.ext {w w' : World} {v : Value} {l : List Stk} (h : Kts w v l) (he : Ext w w') : Kts w' v l := Tb.ext h he fun _ _ h => Sts.ext h he
theorem Kts.nil (w : World) : Kts w (.slice none 0 0) [] := Tb.nil w
theorem Kts.form {w : World} {v : Value} {l : List Stk} (h : Kts w v l) : ∃ a cap, v = .slice a l.length cap ∧ l.length ≤ cap ∧ cap ≤ maxLen ∧ (a = none → cap = 0) := Tb.form h
theorem Kts.cell {w : World} {a : Option Addr} {n cap : Nat} {l : List Stk} (h : Kts w (.slice a n cap) l) {i : Nat} {x : Stk} (hx : l[i]? = some x) :
    ∃ b off s, a = some ⟨b, off, none⟩ ∧ b < w.heap.size ∧ w.cell? ⟨b, off + i * 2, none⟩ = some (.int .i64 x.num) ∧ w.cell? ⟨b, off + i * 2 + 1, none⟩ = some s ∧ Sts w s x.cells := by
  obtain ⟨b, off, s, rfl, hb, hc, hcell⟩ := Tb.cell h krow_len (by omega) hx
  refine ⟨b, off, s, rfl, hb, ?_, ?_, hc⟩
  · simpa using hcell 0 _ rfl
  · exact hcell 1 _ rfl

section
variable {H : Type} {enc : TypeId × Value → H} {w : World} {base : Nat} {spare : Nat → Bool} {held : Bool}

theorem read_stacks {n : Nat} {cs : List Value} {x : DataW H × List MemPlace} (h : DataW.trod enc Tryd.prog w base spare held n 54 cs = some x) :
    ∃ (v : Value) (l : List (List Item)), cs = [v] ∧ Sts w v l := by
  obtain ⟨v, rows, l, rfl, hs, _, ha⟩ := read_slice (k := 1) Tryd.underlying54 (by kernel_rfl) (by omega) (fun cs (a : List Item) => ∃ s, cs = srow s a ∧ Its w s a) (fun n cs x hl h => by
    obtain ⟨u, l, e, hi, _⟩ := read_items Tryd.underlying31 h
    exact ⟨l, u, e, hi⟩) h
  obtain ⟨vs, h1, h2⟩ := ha.tab
  refine ⟨v, l, rfl, vs, h1, ?_⟩
  rw [← h2, ← ha.length]
  exact hs

theorem read_stk (n : Nat) (cs : List Value) (x : DataW H × List MemPlace) (hl : cs.length = 2) (h : DataW.trod enc Tryd.prog w base spare held n 56 cs = some x) : ∃ (m : Stk) (s : Value), cs = krow s m ∧ Sts w s m.cells ∧ i64B m.num := by
  have c64 : Tryd.prog.cellsOf 3 = 1 := by kernel_rfl
  have cS : Tryd.prog.cellsOf 54 = 1 := by kernel_rfl
  obtain ⟨xs, m, rfl, rfl, _, hx, hf⟩ := DataW.trod_struct Tryd.underlying56 h
  match cs, hl with
  | [c0, c1], _ =>
    have f0 : DataW.trod enc Tryd.prog w base spare held m 3 (([c0, c1].drop 0).take (Tryd.prog.cellsOf 3)) = xs[0]? := hf 0 _ rfl
    have f1 : DataW.trod enc Tryd.prog w base spare held m 54 (([c0, c1].drop 1).take (Tryd.prog.cellsOf 54)) = xs[1]? := hf 1 _ rfl
    rw [c64] at f0
    rw [cS] at f1
    match xs, hx with
    | [y0, y1], _ =>
      obtain ⟨p, e0, _, w0⟩ := DataW.trod_int Tryd.underlying3 f0
      obtain ⟨s, l, e1, hl⟩ := read_stacks f1
      simp at e0 e1
      subst e0 e1
      refine ⟨⟨p, l⟩, c1, rfl, hl, ?_⟩
      simpa [Lit.wf, IntKind.min, IntKind.max, IntKind.signed, IntKind.bits, i64B] using w0

theorem open_stacks {r : Reach} {b0 : Nat} {v : Value} {d : DataW H} {p : List MemPlace} (hv : Value.okWide Tryd.prog w r b0 56 v) (h : DataW.Trod enc Tryd.prog w base spare held 56 v d p) :
    ∃ (m : Stk) (s : Value), v = .agg #[.int .i64 m.num, s] ∧ Sts w s m.cells ∧ i64B m.num := by
  obtain ⟨cs, rfl, hsz⟩ := okWide_struct Tryd.underlying56 hv
  have hc : Tryd.prog.cellsOf 56 = 2 := by kernel_rfl
  obtain ⟨n, hn⟩ := h
  obtain ⟨m, s, e, hl, hw⟩ := read_stk n _ _ (by simp only [Value.cells, Array.length_toList]; exact hsz.trans hc) hn
  refine ⟨m, s, ?_, hl, hw⟩
  congr 1
  apply Array.toList_inj.1
  simpa [Value.cells, krow] using e

theorem open_manystacks {t : Nat} (ht : Tryd.prog.underlying t = some (.slice 56)) {r : Reach} {b0 : Nat} {v : Value} {d : DataW H} {p : List MemPlace} (hv : Value.okWide Tryd.prog w r b0 t v) (h : DataW.Trod enc Tryd.prog w base spare held t v d p) :
    ∃ l : List Stk, Kts w v l ∧ ∀ a ∈ l, i64B a.num := by
  obtain ⟨a0, len, cap, rfl⟩ := okWide_slice ht hv
  obtain ⟨n, hn⟩ := h
  obtain ⟨u, rows, l, e, hs, _, ha⟩ := read_slice (k := 2) ht (by kernel_rfl) (by omega) (fun cs (a : Stk) => ∃ s, cs = krow s a ∧ (Sts w s a.cells ∧ i64B a.num)) (fun n cs x hl h => by
    obtain ⟨m, s, h1, h2, h3⟩ := read_stk n cs x hl h
    exact ⟨m, s, h1, h2, h3⟩) hn
  simp only [Value.cells, List.cons.injEq, and_true] at e
  subst e
  obtain ⟨vs, h1, h2⟩ := ha.tab
  refine ⟨l, ⟨vs, h1.mono fun _ _ h => h.1, ?_⟩, fun a hm => ?_⟩
  · rw [← h2, ← ha.length]
    exact hs
  · obtain ⟨i, hi⟩ := List.mem_iff_getElem?.1 hm
    obtain ⟨s, _, _, hw⟩ := h1.get hi
    exact hw
end

end Go.Proofs.YtjfkfibhgilolaaDoor

/- How a list of numbers among the arguments reads. -/
namespace Go.Proofs.YtjfkfibhgilolaaDoor
set_option maxRecDepth 100000
open Go.ChangeShapes Go.WideShapes Go.ChangeAt Go.RowKit

section
variable {H : Type} {enc : TypeId × Value → H} {w : World} {base : Nat} {spare : Nat → Bool} {held : Bool}
theorem rows_of_ints : ∀ {rows : List (List Value)} {l : List Int}, All2 (fun cs (a : Int) => cs = irow a ∧ i64B a) rows l → rows.flatten = l.flatMap irow ∧ ∀ a ∈ l, i64B a
  | [], [], _ => ⟨rfl, fun _ h => by cases h⟩
  | r :: rows, a :: l, h => by
    obtain ⟨h1, h2⟩ := rows_of_ints h.2
    refine ⟨by rw [List.flatten_cons, List.flatMap_cons, h1, h.1.1], fun b hb => ?_⟩
    rcases List.mem_cons.1 hb with rfl | hb
    · exact h.1.2
    · exact h2 b hb
theorem read_ints {t : Nat} (ht : Tryd.prog.underlying t = some (.slice 3)) {n : Nat} {cs : List Value} {x : DataW H × List MemPlace} (h : DataW.trod enc Tryd.prog w base spare held n t cs = some x) :
    ∃ (v : Value) (l : List Int), cs = [v] ∧ Nts w v l ∧ ∀ a ∈ l, i64B a := by
  obtain ⟨v, rows, l, rfl, hs, _, ha⟩ := read_slice (k := 1) ht (by kernel_rfl) (by omega) (fun cs (a : Int) => cs = irow a ∧ i64B a) (fun n cs x hl h => by
    obtain ⟨a, e, _, hw⟩ := DataW.trod_int Tryd.underlying3 h
    exact ⟨a, e, by simpa [Lit.wf, IntKind.min, IntKind.max, IntKind.signed, IntKind.bits, i64B] using hw⟩) h
  obtain ⟨e, hw⟩ := rows_of_ints ha
  refine ⟨v, l, rfl, ?_, hw⟩
  unfold Nts
  rw [← e, ← ha.length]
  exact hs
theorem open_ints' {t : Nat} (ht : Tryd.prog.underlying t = some (.slice 3)) {r : Reach} {b0 : Nat} {v : Value} {d : DataW H} {p : List MemPlace} (hv : Value.okWide Tryd.prog w r b0 t v) (h : DataW.Trod enc Tryd.prog w base spare held t v d p) :
    ∃ l : List Int, Nts w v l ∧ ∀ a ∈ l, i64B a := by
  obtain ⟨a0, len, cap, rfl⟩ := okWide_slice ht hv
  obtain ⟨n, hn⟩ := h
  obtain ⟨u, l, e, hl, hw⟩ := read_ints ht hn
  simp only [Value.cells, List.cons.injEq, and_true] at e
  subst e
  exact ⟨l, hl, hw⟩
end

end Go.Proofs.YtjfkfibhgilolaaDoor
