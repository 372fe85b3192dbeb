/- Stacks of an allocation as Lean data, and what a value in memory reads as; what New gives; no program in sight. -/
import Derived.Test.YtkbocenpkdaogaaDoorGrdG
namespace Go.Proofs.YtkbocenpkdaogaaDoor
set_option maxRecDepth 100000
open Go.RowKit

structure Stk where
  num : Int
  cells : List (List Item)
  deriving DecidableEq
def Stk.zero : Stk := ⟨0, []⟩
def srow (s : Value) (_ : List Item) : List Value := [s]
theorem srow_len (s : Value) (a : List Item) : (srow s a).length = 1 := rfl
theorem srow_one (vs : List Value) (l : List (List Item)) (h : ∀ s ∈ vs, s.oneCell' = true) : ∀ u ∈ trows srow vs l, u.oneCell' = true := by
  intro u hu
  obtain ⟨p, hp, hu⟩ := List.mem_flatMap.1 hu
  simp only [srow, List.mem_cons, List.not_mem_nil, or_false] at hu
  subst hu
  exact h _ (List.of_mem_zip hp).1
/-- In w the slice v reads as the stacks l. -/
def Sts (w : World) (v : Value) (l : List (List Item)) : Prop := Tb srow 1 (fun s a => Its w s a) w v l
theorem Sts.ext {w w' : World} {v : Value} {l : List (List Item)} (h : Sts w v l) (he : Ext w w') : Sts w' v l := Tb.ext h he fun _ _ h => Its.ext h he
theorem Sts.nil (w : World) : Sts w (.slice none 0 0) [] := Tb.nil w
theorem Sts.form {w : World} {v : Value} {l : List (List Item)} (h : Sts w v l) : ∃ a cap, v = .slice a l.length cap ∧ l.length ≤ cap ∧ cap ≤ maxLen ∧ (a = none → cap = 0) := Tb.form h
theorem Sts.cell {w : World} {a : Option Addr} {n cap : Nat} {l : List (List Item)} (h : Sts w (.slice a n cap) l) {i : Nat} {x : List Item} (hx : l[i]? = some x) :
    ∃ b off s, a = some ⟨b, off, none⟩ ∧ b < w.heap.size ∧ w.cell? ⟨b, off + i, none⟩ = some s ∧ Its w s x := by
  obtain ⟨b, off, s, rfl, hb, hc, hcell⟩ := Tb.cell h srow_len (by omega) hx
  exact ⟨b, off, s, rfl, hb, by simpa using hcell 0 _ rfl, hc⟩

def okK (x : Stk) : Bool := inB x.num && decide (1 ≤ x.cells.length) && decide (x.cells.length ≤ 2) && x.cells.all okS
def stkErr (x : Stk) : Int := if okK x then 0 else 8
def wideS (s : List Item) : Bool := decide (610 < s.length)
/-- More than 4 stacks, or one of more than 610 items. -/
def greatK (l : List (List Item)) : Bool := (l.take 5).any wideS || decide (4 < l.length)
def newK (number size tag : Int) : Stk × Int := if inB number && inB tag && decide (1 ≤ size) && decide (size ≤ 2) then (⟨number, List.replicate size.toNat [⟨1, tag, 0⟩]⟩, 0) else (Stk.zero, 2)

theorem sany_take_succ {α : Type} {p : α → Bool} {l : List α} {k : Nat} {x : α} (h : (l.take k).any p = false) (hx : l[k]? = some x) (hp : p x = false) : (l.take (k + 1)).any p = false := by
  rw [List.take_add_one, hx]
  simp [List.any_append, h, hp]
theorem sany_hit {α : Type} {p : α → Bool} {l : List α} {k : Nat} {x : α} (hx : l[k]? = some x) (hp : p x = true) : l.any p = true :=
  List.any_eq_true.2 ⟨x, List.mem_of_getElem? hx, hp⟩
theorem greatK_hit {l : List (List Item)} {k : Nat} {x : List Item} (hx : l[k]? = some x) (hk : k ≤ 4) (hp : wideS x = true) : greatK l = true := by
  rw [greatK, sany_hit (k := k) (x := x) (by rw [List.getElem?_take, if_pos (by omega)]; exact hx) hp, Bool.true_or]

/-! ### stacks that the call owns -/
def OwnS (w : World) (B : Nat) (v : Value) (vs : List Value) (l : List (List Item)) : Prop := OTb srow 31 1 OwnI w B v vs l
theorem OwnI.keep {w w' : World} {S : Nat → Prop} {B : Nat} {s : Value} {a : List Item} (h : OwnI w B s a) (hE : ExtBut S w w') (hS : ∀ g, s.ownBlock = some g → ¬ S g) : OwnI w' B s a := ExtBut.own h hE hS
theorem OwnI.lt {w : World} {B : Nat} {s : Value} {a : List Item} (h : OwnI w B s a) (g : Nat) (hg : s.ownBlock = some g) : B ≤ g ∧ g < w.heap.size := Own.lt h hg
theorem OwnS.ext {w w' : World} {B : Nat} {v : Value} {vs : List Value} {l : List (List Item)} (h : OwnS w B v vs l) (hE : Ext w w') : OwnS w' B v vs l := OTb.ext OwnI.keep h hE
theorem OwnS.but {S : Nat → Prop} {w w' : World} {B : Nat} {v : Value} {vs : List Value} {l : List (List Item)} (h : OwnS w B v vs l) (hE : ExtBut S w w') (hS : ∀ b, B ≤ b → ¬ S b) : OwnS w' B v vs l :=
  OTb.but OwnI.keep h hE (fun g hg => hS g (Own.lt h.outer hg).1) (fun s hs g hg => hS g (OTb.inner_lt OwnI.lt h s hs g hg).1)
theorem OwnS.mono {w : World} {B B' : Nat} {v : Value} {vs : List Value} {l : List (List Item)} (h : OwnS w B v vs l) (hB : B' ≤ B) : OwnS w B' v vs l := OTb.mono OwnI.mono h hB
theorem OwnS.nil (w : World) (B : Nat) : OwnS w B (.slice none 0 0) [] [] := OTb.nil w B
theorem OwnS.sts {w : World} {B : Nat} {v : Value} {vs : List Value} {l : List (List Item)} (h : OwnS w B v vs l) : Sts w v l := ⟨vs, h.inner.mono fun _ _ h => h.its, h.outer.sl⟩

theorem OwnS.outer {w : World} {B : Nat} {v : Value} {vs : List Value} {l : List (List Item)} (h : OwnS w B v vs l) : Own w B 31 1 v l.length (trows srow vs l) := OTb.outer h
theorem OwnS.inner_lt {w : World} {B : Nat} {v : Value} {vs : List Value} {l : List (List Item)} (h : OwnS w B v vs l) : ∀ s ∈ vs, ∀ g, s.ownBlock = some g → B ≤ g ∧ g < w.heap.size := OTb.inner_lt OwnI.lt h
theorem OwnS.push {w wx w' : World} {B : Nat} {v v' s : Value} {vs : List Value} {l : List (List Item)} {a : List Item} (h : OwnS w B v vs l) (hE : Ext w wx) (hR : OwnI wx B s a) (hs : ∀ g, s.ownBlock = some g → w.heap.size ≤ g)
    (hO : Own w' B 31 1 v' (l.length + 1) (trows srow vs l ++ srow s a)) (hK : Keeps wx w' B v) (hb : v'.ownBlock = v.ownBlock ∨ ∃ g, v'.ownBlock = some g ∧ wx.heap.size ≤ g) : OwnS w' B v' (vs ++ [s]) (l ++ [a]) :=
  OTb.push OwnI.keep OwnI.lt h hE hR hs hO hK hb

theorem Stack.infoE : ∃ i z, Tryd.prog.info? 31 = some i ∧ i.zero = some z ∧ i.size = 1 ∧ z.cells.size = 1 ∧ i.bytes = 24 := by
  have h : (Tryd.prog.info? 31).map (fun i => (i.zero.map (fun z => z.cells.size), i.size, i.bytes)) = some (some 1, 1, 24) := by kernel_rfl
  cases hi : Tryd.prog.info? 31 with
  | none => rw [hi] at h; simp at h
  | some i =>
    rw [hi] at h
    simp only [Option.map_some, Option.some.injEq, Prod.mk.injEq] at h
    obtain ⟨h1, h2, h3⟩ := h
    cases hz : i.zero with
    | none => rw [hz] at h1; simp at h1
    | some z =>
      rw [hz] at h1
      exact ⟨i, z, rfl, hz, h2, by simpa using h1, h3⟩

/-- Stacks that are the call's own. -/
def RetSt (w : World) (x : Stk) (en : Ending) (w' : World) : Prop := ∃ v vs, en = .returned (.agg #[.int .i64 x.num, v]) ∧ OwnS w' w.heap.size v vs x.cells ∧ Ext w w'
/-- Stacks that are the call's own, and an error. -/
def RetK (w : World) (x : Stk) (n : Int) (en : Ending) (w' : World) : Prop := ∃ v vs, en = .returned (.tuple #[.agg #[.int .i64 x.num, v], .int .i64 n]) ∧ OwnS w' w.heap.size v vs x.cells ∧ Ext w w'
/-- Stacks that are the call's own, a reason, and an error. -/
def RetKW (w : World) (x : Stk) (why n : Int) (en : Ending) (w' : World) : Prop := ∃ v vs, en = .returned (.tuple #[.agg #[.int .i64 x.num, v], .int .u8 why, .int .i64 n]) ∧ OwnS w' w.heap.size v vs x.cells ∧ Ext w w'

end Go.Proofs.YtkbocenpkdaogaaDoor
