/- What the calls of AccessNames give; no program's function in sight. (printed by gen/names29.py) -/
import Derived.Test.YtcndhbkbbmgeeaaAccD
import Derived.Test.YtcndhbkbbmgeeaaTab
import Derived.Test.YtcndhbkbbmgeeaaRegInw
namespace Go.Proofs.Ytcndhbkbbmgeeaa
set_option maxRecDepth 100000
open Go.RowKit

theorem Sl.of_boxU {w : World} {b k n : Nat} {e : TypeId} {vs : Array Value} (h : Box w b e vs) (hs : vs.size = n * k) (hm : n ≤ maxLen) : Sl w k (.slice (some ⟨b, 0, none⟩) n n) n vs.toList := by
  refine ⟨by simpa using hs, _, _, rfl, Nat.le_refl _, hm, fun h => (by cases h), fun j u hj => ⟨b, 0, rfl, ?_⟩⟩
  rw [Nat.zero_add, h.cell j]
  simpa using hj
theorem Its.of_boxU {w : World} {b n : Nat} {e : TypeId} {vs : Array Value} {l : List Item} (h : Box w b e vs) (hn : l.length = n) (hm : n ≤ maxLen) (hc : vs.toList = l.flatMap Item.row) : Its w (.slice (some ⟨b, 0, none⟩) n n) l := by
  subst hn
  have hs : vs.size = l.length * 3 := by
    have := congrArg List.length hc
    rw [rows_len Item.row Item.row_len] at this
    simpa using this
  have := Sl.of_boxU h hs hm
  rw [hc] at this
  exact this
def PrI (l : List Item) : Pr := ⟨fun v w => Its w v l, fun _ _ _ h he => Its.ext h he⟩
def one29 : Item := ⟨1, 1, 0⟩
def x29 (q : Int) : Item := ⟨q, 2, 5⟩
def t29 : List Item := [⟨1, 3, 0⟩, ⟨2, 3, 0⟩, ⟨3, 3, 0⟩, ⟨4, 3, 0⟩]
def s29 (q : Int) (k : Nat) : List Item := one29 :: x29 q :: t29.take k
theorem s29_next (q : Int) {k : Nat} (h : k < 4) : s29 q k ++ [⟨(k : Int) + 1, 3, 0⟩] = s29 q (k + 1) := by
  have : k = 0 ∨ k = 1 ∨ k = 2 ∨ k = 3 := by omega
  rcases this with rfl | rfl | rfl | rfl <;> rfl
theorem s29_len (q : Int) {k : Nat} (h : k ≤ 4) : (s29 q k).length = k + 2 := by simp [s29, t29]; omega
def four29 (q : Int) : Prop := q = 1 ∨ q = 2 ∨ q = 3 ∨ q = 4
theorem l29_a {q : Int} (h : four29 q) : chk (s29 q 4) = 0 ∧ accW (s29 q 4) 2 false = 0 ∧ accL (s29 q 4) 2 false = [one29, x29 q, ⟨2, 3, 0⟩, ⟨3, 3, 0⟩, ⟨4, 3, 0⟩] ∧ accG (s29 q 4) 2 false = [⟨1, 3, 0⟩] := by
  rcases h with rfl | rfl | rfl | rfl <;> decide
theorem l29_b : chk (s29 4 4) = 0 ∧ accW (s29 4 4) 2 true = 1 ∧ accL (s29 4 4) 2 true = [] ∧ accG (s29 4 4) 2 true = [] := by decide
theorem l29_c : chk (s29 2 4) = 0 ∧ accW (s29 2 4) 2 true = 0 ∧ accL (s29 2 4) 2 true = [one29, ⟨1, 2, 5⟩] ∧ accG (s29 2 4) 2 true = t29 := by decide
theorem l29_d {q : Int} (h : q = 1 ∨ q = 3) : chk (s29 q 4) = 0 ∧ accW (s29 q 4) 2 true = 0 ∧ accL (s29 q 4) 2 true = [one29, ⟨q, 2, 5⟩] ∧ accG (s29 q 4) 2 true = t29 := by
  rcases h with rfl | rfl <;> decide
def tw29 : List Item := [⟨1, 1, 0⟩, ⟨3, 1, 0⟩, ⟨4, 1, 0⟩, ⟨1, 9, 0⟩]
theorem l29_e : chk tw29 = 0 ∧ accW tw29 1 true = 0 ∧ accL tw29 1 true = tw29.take 2 ∧ accG tw29 1 true = [⟨4, 1, 0⟩, ⟨1, 9, 0⟩] := by decide
theorem l29_f : chk tw29 = 0 ∧ accW tw29 1 false = 0 ∧ accL tw29 1 false = tw29.take 3 ∧ accG tw29 1 false = [⟨1, 9, 0⟩] := by decide
theorem l29_g (write : Bool) : chk ([] : List Item) = 0 ∧ accW ([] : List Item) 0 write = 1 ∧ accL ([] : List Item) 0 write = [] ∧ accG ([] : List Item) 0 write = [] := by cases write <;> decide

end Go.Proofs.Ytcndhbkbbmgeeaa
