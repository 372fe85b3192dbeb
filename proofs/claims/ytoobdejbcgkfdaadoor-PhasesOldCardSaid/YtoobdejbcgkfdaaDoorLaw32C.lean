/- Plain laws of layer 32: what is reserved stays so through reads; reads one by one. No program in sight. -/
import Derived.Test.YtoobdejbcgkfdaaDoorPhsB
import Derived.Test.YtoobdejbcgkfdaaDoorLaw31B
import Derived.Test.YtoobdejbcgkfdaaDoorLaw30A
import Derived.Test.YtoobdejbcgkfdaaDoorAccF
namespace Go.Proofs.YtoobdejbcgkfdaaDoor
set_option maxRecDepth 100000
open Go.RowKit

/-- A guarded read or write of a valid stack: no error; not held: what the access leaves. -/
theorem useR_valid {l : List Item} {tag : Int} {write : Bool} {run : List Int} (hr : okR run = true) (hok : okS l = true) :
    (findAt l tag write = none ∧ useR l tag write run = ([], 1, 0)) ∨ ∃ i, findAt l tag write = some i ∧ ((useR l tag write run = ([], 2, 0)) ∨ (useR l tag write run = (useLeft l i write, 0, 0) ∧ (firstR (useGone l i write) run).isSome = false)) := by
  unfold useR
  rw [if_pos hr]
  simp only [accL, accG, accW, hok, if_true, chk, usedL, usedG, usedW]
  cases hf : findAt l tag write with
  | none => exact .inl ⟨rfl, toldR'_no (by simp)⟩
  | some i =>
    refine .inr ⟨i, rfl, ?_⟩
    cases hh : (firstR (useGone l i write) run).isSome
    · exact .inr ⟨toldR'_no (by simp [hh]), rfl⟩
    · exact .inl (toldR'_yes ⟨rfl, rfl, hh⟩)

theorem findAt_cases (l : List Item) (tag : Int) (write : Bool) : (∃ i, findAt l tag write = some i) ∨ findAt l tag write = none := by
  cases h : findAt l tag write with
  | none => exact .inr rfl
  | some i => exact .inl ⟨i, rfl⟩

theorem useR_err {l : List Item} {tag : Int} {write : Bool} {run : List Int} (hr : okR run = true) (hok : okS l = true) : (useR l tag write run).2.2 = 0 ∧ ((useR l tag write run).2.1 = 0 ∨ ((useR l tag write run).1 = [] ∧ ((useR l tag write run).2.1 = 1 ∨ (useR l tag write run).2.1 = 2))) := by
  rcases useR_valid (tag := tag) (write := write) hr hok with ⟨-, h⟩ | ⟨i, -, h | ⟨h, -⟩⟩
  · rw [h]; exact ⟨rfl, .inr ⟨rfl, .inl rfl⟩⟩
  · rw [h]; exact ⟨rfl, .inr ⟨rfl, .inr rfl⟩⟩
  · rw [h]; exact ⟨rfl, .inl rfl⟩
theorem useR_ok {l : List Item} {tag : Int} {write : Bool} {run : List Int} (hr : okR run = true) (hok : okS l = true) : okS (useR l tag write run).1 = true := by
  rcases useR_valid (tag := tag) (write := write) hr hok with ⟨-, h⟩ | ⟨i, -, h | ⟨h, -⟩⟩
  · rw [h]; rfl
  · rw [h]; rfl
  · rw [h]; exact useLeft_ok hok

/-- A read again of the same tag changes nothing. -/
theorem read_again {l N : List Item} {tag : Int} {run : List Int} (hr : okR run = true) (hok : okS l = true) (h : useR l tag false run = (N, 0, 0)) : useR N tag false run = (N, 0, 0) := by
  rcases useR_valid (tag := tag) (write := false) hr hok with ⟨-, h1⟩ | ⟨i, hf, h1 | ⟨h1, -⟩⟩
  · rw [h1] at h; simp at h
  · rw [h1] at h; simp at h
  · rw [h1] at h
    simp only [Prod.mk.injEq, and_true] at h
    subst h
    obtain ⟨e1, e2, e3, e4⟩ := use_again hok hf
    unfold useR
    rw [if_pos hr, e1, e2, e3, e4]
    exact toldR'_no (by simp [firstR])

theorem reads_ok {run : List Int} (hr : okR run = true) : ∀ (ts : List Int) (l : List Item), okS l = true → okS (readsR run l ts).1 = true ∧ (((readsR run l ts).2.2 = 0 ∧ (readsR run l ts).2.1 = (ts.length : Int)) ∨ ((readsR run l ts).2.2 ≠ 0 ∧ (readsR run l ts).2.1 < (ts.length : Int) ∧ (readsR run l ts).1 = []))
  | [], l, h => ⟨h, .inl ⟨rfl, rfl⟩⟩
  | t :: ts, l, h => by
    unfold readsR
    by_cases h0 : (useR l t false run).2.1 = 0
    · rw [if_pos h0]
      obtain ⟨h1, h2⟩ := reads_ok hr ts _ (useR_ok (tag := t) (write := false) hr h)
      refine ⟨h1, ?_⟩
      simp only [List.length_cons]
      rcases h2 with ⟨h2, h3⟩ | ⟨h2, h3, h4⟩
      · exact .inl ⟨h2, by rw [h3]; omega⟩
      · exact .inr ⟨h2, by omega, h4⟩
    · rw [if_neg h0]
      exact ⟨rfl, .inr ⟨h0, by simp only [List.length_cons]; omega, rfl⟩⟩

/-- The reserved item r stands in l, and is the only one of its tag. -/
structure Resv (l : List Item) (r : Item) : Prop where
  ok : okS l = true
  mem : r ∈ l
  only : ∀ x ∈ l, x.t = r.t → x = r
theorem Resv.find {l : List Item} {r : Item} {write : Bool} (h : Resv l r) (hr : r.p = 2) : ∃ i, findAt l r.t write = some i ∧ l[i]? = some r := by
  obtain ⟨j, hj⟩ := List.mem_iff_getElem?.1 h.mem
  have hg : grants r.t write r = true := by simp [grants, hr]
  cases hf : findAt l r.t write with
  | none => rw [findAt_no hf j r hj] at hg; cases hg
  | some i =>
    obtain ⟨x, hx, hgx, -⟩ := findAt_is hf
    have ht : x.t = r.t := by
      unfold grants at hgx
      simp only [Bool.and_eq_true, beq_iff_eq] at hgx
      exact hgx.1
    have := h.only x (List.mem_of_getElem? hx) ht
    subst this
    exact ⟨i, rfl, hx⟩
theorem Resv.left {l : List Item} {r : Item} {t : Int} {i : Nat} (h : Resv l r) (hr : r.p = 2) (hf : findAt l t false = some i) : Resv (useLeft l i false) r := by
  refine ⟨useLeft_ok h.ok, ?_, fun x hx hxt => ?_⟩
  · unfold useLeft
    rw [if_neg (by decide)]
    have hm := h.mem
    rw [← List.take_append_drop (i + 1) l] at hm
    rcases List.mem_append.1 hm with hm | hm
    · exact List.mem_append_left _ hm
    · exact List.mem_append_right _ (List.mem_filter.2 ⟨hm, by simp [hr]⟩)
  · unfold useLeft at hx
    rw [if_neg (by decide)] at hx
    refine h.only x ?_ hxt
    rcases List.mem_append.1 hx with hx | hx
    · exact List.mem_of_mem_take hx
    · exact List.mem_of_mem_drop (List.mem_filter.1 hx).1
theorem Resv.read {l N : List Item} {r : Item} {t : Int} {run : List Int} (h : Resv l r) (hp : r.p = 2) (hr : okR run = true) {e : Int} (hu : useR l t false run = (N, 0, e)) : Resv N r := by
  rcases useR_valid (tag := t) (write := false) hr h.ok with ⟨-, h1⟩ | ⟨i, hf, h1 | ⟨h1, -⟩⟩
  · rw [h1] at hu; simp at hu
  · rw [h1] at hu; simp at hu
  · rw [h1] at hu
    simp only [Prod.mk.injEq] at hu
    rw [← hu.1]
    exact h.left hp hf
theorem Resv.reads {run : List Int} {r : Item} (hp : r.p = 2) (hr : okR run = true) : ∀ (ts : List Int) (l : List Item), Resv l r → (readsR run l ts).2.2 = 0 → Resv (readsR run l ts).1 r
  | [], l, h, _ => h
  | t :: ts, l, h, h0 => by
    unfold readsR at h0 ⊢
    by_cases hu : (useR l t false run).2.1 = 0
    · rw [if_pos hu] at h0 ⊢
      exact Resv.reads hp hr ts _ (h.read hp hr (e := (useR l t false run).2.2) (by rw [← hu])) h0
    · rw [if_neg hu] at h0
      exact absurd h0 hu
theorem Resv.phase {l : List Item} {r : Item} (h : Resv l r) (hp : r.p = 2) : phaseR l r.t = (1, 0) := by
  obtain ⟨i, hf, hx⟩ := h.find (write := true) hp
  rw [phaseR_ok h.ok, phaseOf_some hf hx, if_pos hp]
/-- Activated it is active, and on top. -/
theorem Resv.write {l N : List Item} {r : Item} {run : List Int} (h : Resv l r) (hp : r.p = 2) (hr : okR run = true) {e : Int} (hu : useR l r.t true run = (N, 0, e)) :
    (∃ M, N = M ++ [⟨1, r.t, r.c⟩]) ∧ okS N = true ∧ phaseR N r.t = (2, 0) := by
  obtain ⟨i, hf, hx⟩ := h.find (write := true) hp
  have hil := (List.getElem?_eq_some_iff.1 hx).1
  rcases useR_valid (tag := r.t) (write := true) hr h.ok with ⟨h0, -⟩ | ⟨j, hf', h1 | ⟨h1, -⟩⟩
  · rw [hf] at h0; cases h0
  · rw [h1] at hu; simp at hu
  · rw [hf] at hf'
    cases hf'
    rw [h1] at hu
    simp only [Prod.mk.injEq] at hu
    have hok : okS N = true := by rw [← hu.1]; exact useLeft_ok h.ok
    have hN : N = l.take i ++ [⟨1, r.t, r.c⟩] := by
      rw [← hu.1]
      unfold useLeft actAt
      rw [if_pos rfl, take_get hx]
      simp only [hp, if_true]
      rw [List.take_add_one, hx]
      have : (l.take i).length = i := by rw [List.length_take]; omega
      simp [List.set_append, this]
    refine ⟨⟨_, hN⟩, hok, ?_⟩
    have hf2 : findAt N r.t true = some (l.take i).length := by rw [hN]; exact findAt_top (by simp [grants])
    rw [phaseR_ok hok, phaseOf_some (x := ⟨1, r.t, r.c⟩) hf2 (by rw [hN]; simp)]
    simp
theorem resv_access {l : List Item} {r : Item} {write : Bool} {run : List Int} (h : Resv l r) (hp : r.p = 2) (hr : okR run = true) : (useR l r.t write run).2.2 = 0 ∧ (useR l r.t write run).2.1 ≠ 1 := by
  obtain ⟨i, hf, hx⟩ := h.find (write := write) hp
  rcases useR_valid (tag := r.t) (write := write) hr h.ok with ⟨h0, -⟩ | ⟨j, -, h1 | ⟨h1, -⟩⟩
  · rw [hf] at h0; cases h0
  · rw [h1]; exact ⟨rfl, by simp⟩
  · rw [h1]; exact ⟨rfl, by simp⟩

/-- What Reserve leaves, if it is possible: no item of l has the tag. -/
theorem reserve_law {l T : List Item} {old tag : Int} {run : List Int} (hno : findAt l tag false = none) (h : tagR l 3 old ⟨0, tag, 0⟩ run = (T, 0, 0)) : okR run = true ∧ Resv T ⟨2, tag, 0⟩ ∧ ∃ i, findAt l old false = some i ∧ T = useLeft l i false ++ [⟨2, tag, 0⟩] := by
  unfold tagR at h
  cases hr : okR run
  · rw [hr] at h; simp at h
  · rw [hr, if_pos rfl] at h
    obtain ⟨⟨X, G, why, er⟩, hb⟩ : ∃ b, retagR l 3 old ⟨0, tag, 0⟩ = b := ⟨_, rfl⟩
    rw [hb] at h
    simp only at h
    have hnh : ¬ (er = 0 ∧ why = 0 ∧ (firstR G run).isSome = true) := by
      intro hy
      rw [toldR'_yes hy] at h
      simp at h
    rw [toldR'_no hnh] at h
    simp only [Prod.mk.injEq] at h
    obtain ⟨rfl, rfl, rfl⟩ := h
    have hok : okS l = true := by
      cases ho : okS l
      · rw [retagR_bad ho] at hb; simp at hb
      · rfl
    have hXok : okS X = true := by
      have := retagR_ok (l := l) (k := 3) (old := old) (x := ⟨0, tag, 0⟩)
      rw [hb] at this
      exact this
    obtain ⟨-, -, hw, -, hs⟩ := retag_spec hok hb
    rcases hs with ⟨hs, -⟩ | ⟨-, hX, hG', -⟩
    · cases hs
    · have hw3 : writesOf 3 = false := by decide
      rw [hw3] at hw hX
      rcases usedW_cases l old false with ⟨-, hf⟩ | ⟨hf, -⟩
      · obtain ⟨i, hf⟩ := Option.isSome_iff_exists.1 hf
        simp only [usedL, hf] at hX
        have hp3 : permOf 3 = 2 := by decide
        rw [hp3] at hX
        refine ⟨rfl, ⟨hXok, by rw [hX]; simp, fun x hx hxt => ?_⟩, i, hf, hX⟩
        rw [hX] at hx
        rcases List.mem_append.1 hx with hx | hx
        · exfalso
          have hxl : x ∈ l := by
            rcases useLeft_mem hx with h1 | ⟨y, hy, -, -⟩
            · exact h1
            · unfold useLeft at hx
              rw [if_neg (by decide)] at hx
              rcases List.mem_append.1 hx with hx | hx
              · exact List.mem_of_mem_take hx
              · exact List.mem_of_mem_drop (List.mem_filter.1 hx).1
          obtain ⟨j, hj⟩ := List.mem_iff_getElem?.1 hxl
          have := findAt_no hno j x hj
          simp [grants] at this
          exact this hxt
        · simpa using hx
      · rw [hf] at hw; cases hw

end Go.Proofs.YtoobdejbcgkfdaaDoor
