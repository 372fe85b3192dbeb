/- What the functions of layers 30 to 32 compute; no program in sight. -/
import Derived.Test.YtkbocenpkdaogaaDoorAccE
import Derived.Test.YtkbocenpkdaogaaDoorGrdA
import Derived.Test.YtkbocenpkdaogaaDoorFoot
namespace Go.Proofs.YtkbocenpkdaogaaDoor
set_option maxRecDepth 100000
open Go.RowKit

/-! ### layer 30 -/
def kindOk (k : Int) : Bool := decide (1 ≤ k) && decide (k ≤ 4)
def kindErr (k : Int) : Int := if kindOk k then 0 else 2
def permOf (k : Int) : Int := if k = 1 then 4 else if k = 2 then 1 else if k = 3 then 2 else 3
def permR (k : Int) : Int := if kindOk k then permOf k else 0
def writesOf (k : Int) : Bool := k == 2 || k == 4
def argOk (x : Item) : Bool := x.p == 0 && inB x.t && inB x.c
/-- Retag: the stack, what goes, why not, the error. -/
def retagR (l : List Item) (k old : Int) (x : Item) : List Item × List Item × Int × Int :=
  if okS l then
    if kindOk k && argOk x then
      if usedW l old (writesOf k) = 0 then
        if (usedL l old (writesOf k)).length = 600 then ([], [], 0, 18)
        else (usedL l old (writesOf k) ++ [⟨permOf k, x.t, x.c⟩], usedG l old (writesOf k), 0, 0)
      else ([], [], usedW l old (writesOf k), 0)
    else ([], [], 0, 2)
  else ([], [], 0, 8)
theorem retagR_bad {l : List Item} {k old : Int} {x : Item} (h : okS l = false) : retagR l k old x = ([], [], 0, 8) := by simp [retagR, h]
theorem retagR_arg {l : List Item} {k old : Int} {x : Item} (h : okS l = true) (ha : (kindOk k && argOk x) = false) : retagR l k old x = ([], [], 0, 2) := by simp [retagR, h, ha]
theorem retagR_no {l : List Item} {k old : Int} {x : Item} (h : okS l = true) (ha : (kindOk k && argOk x) = true) (hw : usedW l old (writesOf k) ≠ 0) : retagR l k old x = ([], [], usedW l old (writesOf k), 0) := by simp [retagR, h, ha, hw]
theorem retagR_full {l : List Item} {k old : Int} {x : Item} (h : okS l = true) (ha : (kindOk k && argOk x) = true) (hw : usedW l old (writesOf k) = 0) (hf : (usedL l old (writesOf k)).length = 600) : retagR l k old x = ([], [], 0, 18) := by simp [retagR, h, ha, hw, hf]
theorem retagR_yes {l : List Item} {k old : Int} {x : Item} (h : okS l = true) (ha : (kindOk k && argOk x) = true) (hw : usedW l old (writesOf k) = 0) (hf : ¬ (usedL l old (writesOf k)).length = 600) :
    retagR l k old x = (usedL l old (writesOf k) ++ [⟨permOf k, x.t, x.c⟩], usedG l old (writesOf k), 0, 0) := by simp [retagR, h, ha, hw, hf]
theorem permOf_ok (k : Int) : 1 ≤ permOf k ∧ permOf k ≤ 4 := by
  unfold permOf
  split
  · omega
  · split
    · omega
    · split <;> omega
theorem usedW_cases (l : List Item) (tag : Int) (write : Bool) : usedW l tag write = 0 ∧ (findAt l tag write).isSome = true ∨ usedW l tag write = 1 ∧ (findAt l tag write) = none := by
  unfold usedW
  cases findAt l tag write with
  | none => exact .inr ⟨rfl, rfl⟩
  | some i => exact .inl ⟨rfl, rfl⟩
theorem usedL_ok {l : List Item} {tag : Int} {write : Bool} (h : okS l = true) : okS (usedL l tag write) = true := by
  unfold usedL
  cases findAt l tag write with
  | none => rfl
  | some i => exact useLeft_ok h
theorem usedL_len {l : List Item} {tag : Int} {write : Bool} : (usedL l tag write).length ≤ l.length := by
  unfold usedL
  cases findAt l tag write with
  | none => exact Nat.zero_le _
  | some i => exact useLeft_len l i write
theorem newItem_ok {k : Int} {x : Item} (h : argOk x = true) : Item.ok ⟨permOf k, x.t, x.c⟩ = true := by
  unfold argOk at h
  simp only [Bool.and_eq_true] at h
  have hp := permOf_ok k
  obtain hp | hp | hp | hp : permOf k = 1 ∨ permOf k = 2 ∨ permOf k = 3 ∨ permOf k = 4 := by omega
  all_goals simp [Item.ok, hp, h.1.2, h.2]
theorem okS_snoc {l : List Item} {x : Item} (h : okS l = true) (hx : x.ok = true) (hn : ¬ l.length = 600) : okS (l ++ [x]) = true := by
  unfold okS at h ⊢
  simp only [Bool.and_eq_true, decide_eq_true_eq] at h ⊢
  rw [List.length_append, List.all_append, h.2]
  exact ⟨by have := h.1; simp; omega, by simp [hx]⟩
theorem retagR_ok {l : List Item} {k old : Int} {x : Item} : okS (retagR l k old x).1 = true := by
  unfold retagR
  by_cases h : okS l = true
  · rw [if_pos h]
    by_cases ha : (kindOk k && argOk x) = true
    · rw [if_pos ha]
      split
      · split
        · rfl
        · rename_i hf
          simp only [Bool.and_eq_true] at ha
          exact okS_snoc (usedL_ok h) (newItem_ok ha.2) hf
      · rfl
    · rw [if_neg ha]; rfl
  · rw [if_neg h]; rfl

/-! ### layer 31 -/
def toldR' (l gone : List Item) (why e : Int) (run : List Int) : List Item × Int × Int := if e = 0 ∧ why = 0 ∧ (firstR gone run).isSome = true then ([], 2, 0) else (l, why, e)
theorem toldR'_no {l gone : List Item} {why e : Int} {run : List Int} (h : ¬ (e = 0 ∧ why = 0 ∧ (firstR gone run).isSome = true)) : toldR' l gone why e run = (l, why, e) := by rw [toldR', if_neg h]
theorem toldR'_yes {l gone : List Item} {why e : Int} {run : List Int} (h : e = 0 ∧ why = 0 ∧ (firstR gone run).isSome = true) : toldR' l gone why e run = ([], 2, 0) := by rw [toldR', if_pos h]
/-- A guarded read or write: the stack, why not, the error. -/
def useR (l : List Item) (tag : Int) (write : Bool) (run : List Int) : List Item × Int × Int := if okR run then toldR' (accL l tag write) (accG l tag write) (accW l tag write) (chk l) run else ([], 0, 8)
/-- A guarded retag. -/
def tagR (l : List Item) (k old : Int) (x : Item) (run : List Int) : List Item × Int × Int := if okR run then toldR' (retagR l k old x).1 (retagR l k old x).2.1 (retagR l k old x).2.2.1 (retagR l k old x).2.2.2 run else ([], 0, 8)

/-! ### layer 32 -/
def phaseOf (l : List Item) (tag : Int) : Int := match findAt l tag true with
  | none => 0
  | some i => if (l[i]?).any (fun x => x.p == 2) then 1 else 2
def phaseR (l : List Item) (tag : Int) : Int × Int := if okS l then (phaseOf l tag, 0) else (0, 8)
/-- Reads one after the other: the stack, how many, why not. -/
def readsR (run : List Int) : List Item → List Int → List Item × Int × Int
  | l, [] => (l, 0, 0)
  | l, t :: ts => if (useR l t false run).2.1 = 0 then ((readsR run (useR l t false run).1 ts).1, (readsR run (useR l t false run).1 ts).2.1 + 1, (readsR run (useR l t false run).1 ts).2.2) else ([], 0, (useR l t false run).2.1)
def manyR (l : List Item) (tags run : List Int) : List Item × Int × Int × Int :=
  if okR run then if okS l then if 600 < tags.length then ([], 0, 0, 4) else ((readsR run l tags).1, (readsR run l tags).2.1, (readsR run l tags).2.2, 0) else ([], 0, 0, 8) else ([], 0, 0, 8)

end Go.Proofs.YtkbocenpkdaogaaDoor
