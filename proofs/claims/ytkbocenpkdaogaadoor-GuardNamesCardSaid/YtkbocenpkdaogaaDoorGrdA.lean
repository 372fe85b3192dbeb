/- Running calls: what a slice of numbers reads as, and what the functions of layer 31 on calls compute; no program in sight. -/
import Derived.Test.YtkbocenpkdaogaaDoorTab
namespace Go.Proofs.YtkbocenpkdaogaaDoor
set_option maxRecDepth 100000
open Go.RowKit

def irow (n : Int) : List Value := [.int .i64 n]
theorem irow_len (n : Int) : (irow n).length = 1 := rfl
def Nts (w : World) (v : Value) (l : List Int) : Prop := Sl w 1 v l.length (l.flatMap irow)
theorem Nts.ext {w w' : World} {v : Value} {l : List Int} (h : Nts w v l) (he : Ext w w') : Nts w' v l := Sl.ext h he
theorem Nts.nil (w : World) : Nts w (.slice none 0 0) [] := Sl.nil w 1
theorem Nts.form {w : World} {v : Value} {l : List Int} (h : Nts w v l) : ∃ a cap, v = .slice a l.length cap ∧ l.length ≤ cap ∧ cap ≤ maxLen ∧ (a = none → cap = 0) := Sl.slice_form h
theorem Nts.cell {w : World} {a : Option Addr} {n cap : Nat} {l : List Int} (h : Nts w (.slice a n cap) l) {i : Nat} {x : Int} (hx : l[i]? = some x) : ∃ b off, a = some ⟨b, off, none⟩ ∧ b < w.heap.size ∧ w.cell? ⟨b, off + i, none⟩ = some (.int .i64 x) := by
  have hi : i < l.length := (List.getElem?_eq_some_iff.1 hx).1
  obtain ⟨b, off, rfl, hb, hc⟩ := Sl.at h (by omega) (by omega : 0 < l.length)
  refine ⟨b, off, rfl, hb, ?_⟩
  have := hc (i * 1 + 0) _ ((rows_get irow irow_len l i 0 x hx (by omega)).trans rfl)
  simpa using this
theorem Nts.one (l : List Int) : ∀ u ∈ l.flatMap irow, u.oneCell' = true := by
  intro u hu
  obtain ⟨x, _, hx⟩ := List.mem_flatMap.1 hu
  simp only [irow, List.mem_cons, List.not_mem_nil, or_false] at hx
  subst hx
  rfl
theorem Nts.take {w : World} {a : Option Addr} {n cap : Nat} {l : List Int} (h : Nts w (.slice a n cap) l) (i : Nat) (hi : i ≤ l.length) : Nts w (.slice a i cap) (l.take i) := by
  have := Sl.take h i hi
  rw [rows_take irow irow_len] at this
  unfold Nts
  rw [List.length_take, Nat.min_eq_left hi]
  exact this

/-- Strictly rising, above `last`, at most 1000000. -/
def okFrom : Int → List Int → Bool
  | _, [] => true
  | last, n :: l => decide (last < n) && decide (n ≤ 1000000) && okFrom n l
def okR (l : List Int) : Bool := decide (l.length ≤ 32) && okFrom 0 l
def runErr (l : List Int) : Int := if okR l then 0 else 8
theorem okFrom_drop {last : Int} {l : List Int} {k : Nat} {x : Int} (hx : l[k]? = some x) : okFrom last (l.drop k) = (decide (last < x) && decide (x ≤ 1000000) && okFrom x (l.drop (k + 1))) := by
  obtain ⟨hk, rfl⟩ := List.getElem?_eq_some_iff.1 hx
  rw [List.drop_eq_getElem_cons hk]
  rfl
theorem okFrom_all {last : Int} {l : List Int} (h : okFrom last l = true) : ∀ n ∈ l, last < n ∧ n ≤ 1000000 := by
  induction l generalizing last with
  | nil => intro n hn; cases hn
  | cons x l ih =>
    simp only [okFrom, Bool.and_eq_true, decide_eq_true_eq] at h
    intro n hn
    rcases List.mem_cons.1 hn with rfl | hn
    · omega
    · have := ih h.2 n hn; omega
theorem okFrom_lt {last : Int} {l : List Int} (h : okFrom last l = true) {i j : Nat} {x y : Int} (hij : i < j) (hx : l[i]? = some x) (hy : l[j]? = some y) : x < y := by
  induction l generalizing last i j with
  | nil => simp at hx
  | cons z l ih =>
    simp only [okFrom, Bool.and_eq_true, decide_eq_true_eq] at h
    cases j with
    | zero => omega
    | succ j =>
      cases i with
      | zero =>
        simp only [List.getElem?_cons_zero, Option.some.injEq] at hx
        subst hx
        exact (okFrom_all h.2 y (List.mem_of_getElem? (by simpa using hy))).1
      | succ i => exact ih (i := i) (j := j) h.2 (by omega) (by simpa using hx) (by simpa using hy)
theorem okFrom_append {last : Int} {l : List Int} {c : Int} : okFrom last (l ++ [c]) = (okFrom last l && decide (l.getLastD last < c) && decide (c ≤ 1000000)) := by
  induction l generalizing last with
  | nil => simp [okFrom]
  | cons x l ih =>
    rw [List.cons_append, okFrom, ih, okFrom]
    have : (x :: l).getLastD last = l.getLastD x := by cases l <;> rfl
    rw [this]
    simp only [Bool.and_assoc]
def lastR (l : List Int) : Int := l.getLastD 0
/-- Enter: the calls, the error. -/
def enterR (l : List Int) (call : Int) : List Int × Int :=
  if okR l then if call ≤ lastR l ∨ 1000000 < call then ([], 2) else if l.length = 32 then ([], 18) else (l ++ [call], 0) else ([], 8)
def leaveR (l : List Int) : List Int × Int := if okR l then if l.length = 0 then ([], 6) else (l.take (l.length - 1), 0) else ([], 8)
/-- Does the call run? -/
def hasR (run : List Int) (t : Int) : Bool := run.contains t
def RetIB (b : Bool) (w : World) (e : Ending) (w' : World) : Prop := ∃ i : Int, e = .returned (.tuple #[.int .i64 i, .bool b]) ∧ w = w'
def heldBy (run : List Int) (x : Item) : Bool := hasR run x.c
def firstR (items : List Item) (run : List Int) : Option Nat := items.findIdx? (heldBy run)
def heldR (items : List Item) (run : List Int) : Int × Int :=
  if okR run then if items.all Item.ok then match firstR items run with | none => (0, 6) | some i => ((i : Int), 0) else (0, 8) else (0, 8)
theorem lastR_get {l : List Int} {x : Int} (hx : l[l.length - 1]? = some x) : lastR l = x := by
  unfold lastR
  rw [List.getLastD_eq_getLast?, List.getLast?_eq_getElem?, hx]
  rfl
theorem lastR_nil : lastR [] = 0 := rfl
theorem runErr_ok {l : List Int} (h : okR l = true) : runErr l = 0 := by simp [runErr, h]
theorem runErr_bad {l : List Int} (h : okR l = false) : runErr l = 8 := by simp [runErr, h]
theorem okR_len {l : List Int} (h : okR l = true) : l.length ≤ 32 := by
  unfold okR at h
  simp only [Bool.and_eq_true, decide_eq_true_eq] at h
  exact h.1
theorem okR_from {l : List Int} (h : okR l = true) : okFrom 0 l = true := by
  unfold okR at h
  simp only [Bool.and_eq_true] at h
  exact h.2

end Go.Proofs.YtkbocenpkdaogaaDoor
