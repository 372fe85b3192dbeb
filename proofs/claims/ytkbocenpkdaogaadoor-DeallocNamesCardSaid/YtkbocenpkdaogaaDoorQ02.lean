/- Several texts in one: GrdB, ItemsA, ItemsB, ItemsC, ItemsD, GrdC, GrdD, GrdE, ItemsE. -/
import Derived.Test.YtkbocenpkdaogaaDoorProg
import Derived.Test.YtkbocenpkdaogaaDoorQ01
import Derived.BigQuiet
import Derived.Deep.QuietTactic
import Derived.Deep.RegionHeld3
import Derived.Deep.DeepMust
import Derived.Deep.RegionLaw
/- Contracts: the tests of running calls, the search in them, and what compares them. -/
namespace Go.Proofs.YtkbocenpkdaogaaDoor
set_option maxRecDepth 100000
open Go.RowKit

set_option maxHeartbeats 800000 in
theorem guard_Check {l : List Int} {v : Value} {w : World} (hl : Nts w v l) : Calls Tryd.prog 20 #[v] w fun e w' => e = .returned (.int .i64 (runErr l)) ∧ w = w' := by
  obtain ⟨a, cp, rfl, hlc, hcm, -⟩ := hl.form
  unfold maxLen at hcm
  have hL := Lib.hid hl
  clear hl
  by_cases h6 : l.length ≤ 32
  · have hd : decide ((32 : Int) < (l.length : Int)) = false := decide_eq_false (by omega)
    go_enter Tryd.func20, Tryd.ntmps20
    go_wp2
    go_loop [3, 11] (fun lv iv => ∃ (k : Nat) (last : Int), k ≤ l.length ∧ iv = .int .i64 k ∧ lv = .int .i64 last ∧ Hid (okFrom 0 l = okFrom last (l.drop k))) (fun _ iv => l.length - (intOf iv).toNat)
    case atStart => exact ⟨0, 0, Nat.zero_le _, rfl, rfl, by simp [Hid]⟩
    case round =>
      obtain ⟨k, last, hk, rfl, rfl, hN⟩ := hrel
      by_cases hlt : k < l.length
      · obtain ⟨x, hx⟩ : ∃ x, l[k]? = some x := ⟨l[k], by simp [hlt]⟩
        obtain ⟨b, off, rfl, hb, c0⟩ := hL.out.cell hx
        have hst := Lib.hid (hN.out.trans (okFrom_drop hx))
        clear hx
        by_cases g1 : x ≤ last
        · have q1 : decide (x ≤ last) = true := decide_eq_true g1
          have hr : Hid (runErr l = 8) := Hid.mk (runErr_bad (by rw [okR, hst.out]; simp; omega))
          go_wp2
          go_ret
          exact ⟨by rw [hr.out]; rfl, rfl⟩
        · have q1 : decide (x ≤ last) = false := decide_eq_false g1
          by_cases g2 : 1000000 < x
          · have q2 : decide (1000000 < x) = true := decide_eq_true g2
            have hr : Hid (runErr l = 8) := Hid.mk (runErr_bad (by rw [okR, hst.out]; simp; omega))
            go_wp2
            go_ret
            exact ⟨by rw [hr.out]; rfl, rfl⟩
          · have q2 : decide (1000000 < x) = false := decide_eq_false g2
            have hst2 : Hid (okFrom 0 l = okFrom x (l.drop (k + 1))) := Hid.mk (by rw [hst.out, decide_eq_true (by omega), decide_eq_true (by omega)]; rfl)
            go_wp2
            go_round
            case rel => exact ⟨k + 1, x, by omega, by go_num, rfl, hst2.out⟩
            case measure => simp [intOf]; omega
      · have hkl : k = l.length := by omega
        subst hkl
        have hr : Hid (runErr l = 0) := Hid.mk (runErr_ok (by rw [okR, hN.out, List.drop_length]; simp [okFrom, h6]))
        go_wp2
        go_ret
        exact ⟨by rw [hr.out]; rfl, rfl⟩
  · have hd : decide ((32 : Int) < (l.length : Int)) = true := decide_eq_true (by omega)
    have hr : Hid (runErr l = 8) := Hid.mk (runErr_bad (by rw [okR]; simp; omega))
    go_enter Tryd.func20, Tryd.ntmps20
    go_wp2
    go_ret
    exact ⟨by rw [hr.out]; rfl, rfl⟩


theorem cmp_isNaN (n : Int) (w : World) : Calls Tryd.prog 82 #[.int .i64 n] w fun e w' => e = .returned (.bool false) ∧ w = w' := by
  go_enter Tryd.func82, Tryd.ntmps82
  go_wp2
  go_ret
  exact ⟨rfl, rfl⟩
theorem slices_isNaN (n : Int) (w : World) : Calls Tryd.prog 79 #[.int .i64 n] w fun e w' => e = .returned (.bool false) ∧ w = w' := by
  go_enter Tryd.func79, Tryd.ntmps79
  go_wp2
  go_ret
  exact ⟨rfl, rfl⟩
theorem cmp_Less (n m : Int) (w : World) : Calls Tryd.prog 78 #[.int .i64 n, .int .i64 m] w fun e w' => e = .returned (.bool (decide (n < m))) ∧ w = w' := by
  go_enter Tryd.func78, Tryd.ntmps78
  go_wp2_with fail
  refine (cmp_isNaN _ _).mono ?_
  rintro e w' ⟨rfl, rfl⟩
  go_wp2
  go_ret
  exact ⟨rfl, rfl⟩

/-- The two facts that a search keeps: what stands left of i is less, what stands from j on is not. -/
theorem search_end {l : List Int} {t : Int} (hs : okFrom 0 l = true) {i : Nat} (hlo : ∀ k x, k < i → l[k]? = some x → x < t) (hhi : ∀ k x, i ≤ k → l[k]? = some x → t ≤ x) : l.contains t = (l[i]? == some t) := by
  cases h : l.contains t
  · cases h2 : (l[i]? == some t)
    · rfl
    · have h3 : l[i]? = some t := by simpa using h2
      have := List.mem_of_getElem? h3
      have h4 : l.contains t = true := by simpa using this
      rw [h] at h4; cases h4
  · have hm : t ∈ l := by simpa using h
    obtain ⟨k, hk⟩ := List.mem_iff_getElem?.1 hm
    rcases Nat.lt_trichotomy k i with h1 | h1 | h1
    · have := hlo k t h1 hk; omega
    · subst h1; simp [hk]
    · have hlt : i < l.length := by have := (List.getElem?_eq_some_iff.1 hk).1; omega
      have h5 : l[i]? = some l[i] := by simp [hlt]
      have := hhi i _ (Nat.le_refl _) h5
      have := okFrom_lt hs h1 h5 hk
      omega

set_option maxHeartbeats 1600000 in
theorem binarySearch {l : List Int} {v : Value} {w : World} (t : Int) (hl : Nts w v l) (hs : okFrom 0 l = true) (hlen : l.length ≤ 1000) :
    Calls Tryd.prog 70 #[v, .int .i64 t] w (RetIB (hasR l t) w) := by
  obtain ⟨a, cp, rfl, hlc, hcm, -⟩ := hl.form
  unfold maxLen at hcm
  have hL := Lib.hid hl
  have hS := Lib.hid hs
  clear hl hs
  go_enter Tryd.func70, Tryd.ntmps70
  go_wp2
  go_loop [7, 8] (fun iv jv => ∃ i j : Nat, i ≤ j ∧ j ≤ l.length ∧ iv = .int .i64 i ∧ jv = .int .i64 j ∧ Hid ((∀ k x, k < i → l[k]? = some x → x < t) ∧ (∀ k x, j ≤ k → l[k]? = some x → t ≤ x))) (fun iv jv => (intOf jv).toNat - (intOf iv).toNat)
  case atStart => exact ⟨0, l.length, Nat.zero_le _, Nat.le_refl _, rfl, rfl, ⟨fun k x h => by omega, fun k x h hx => by rw [List.getElem?_eq_none h] at hx; cases hx⟩⟩
  case round =>
    obtain ⟨i, j, hij, hj, rfl, rfl, hN⟩ := hrel
    by_cases hlt : i < j
    · obtain ⟨x, hx⟩ : ∃ x, l[(i + j) / 2]? = some x := ⟨l[(i + j) / 2]'(by omega), by simp⟩
      obtain ⟨b, off, rfl, hb, c0⟩ := hL.out.cell hx
      have hi0 : (0 : Int) ≤ ((i : Int) + (j : Int)) / 2 := by omega
      have hi1 : ((i : Int) + (j : Int)) / 2 < (l.length : Int) := by omega
      have hmid : Hid (i ≤ (i + j) / 2 ∧ (i + j) / 2 < j) := Hid.mk (by omega)
      by_cases hxt : x < t
      · have hq : Hid (decide (x < t) = true) := Hid.mk (decide_eq_true hxt)
        have hR : Hid ((∀ k y, k < (i + j) / 2 + 1 → l[k]? = some y → y < t) ∧ (∀ k y, j ≤ k → l[k]? = some y → t ≤ y)) := Hid.mk ⟨fun k y hk hy => by
          rcases Nat.lt_or_eq_of_le (Nat.lt_succ_iff.1 hk) with h1 | h1
          · have := okFrom_lt hS.out h1 hy hx; omega
          · subst h1; rw [hx] at hy; cases hy; exact hxt, hN.out.2⟩
        clear hx hxt
        go_wp2_with fail
        refine (cmp_Less _ _ _).mono ?_
        rintro e w' ⟨rfl, rfl⟩
        rw [hq.out]
        go_wp2
        go_round
        case rel => exact ⟨(i + j) / 2 + 1, j, by have := hmid.out; omega, hj, by congr 1, rfl, hR.out⟩
        case measure => have := hmid.out; simp [intOf]; omega
      · have hq : Hid (decide (x < t) = false) := Hid.mk (decide_eq_false hxt)
        have hR : Hid ((∀ k y, k < i → l[k]? = some y → y < t) ∧ (∀ k y, (i + j) / 2 ≤ k → l[k]? = some y → t ≤ y)) := Hid.mk ⟨hN.out.1, fun k y hk hy => by
          rcases Nat.lt_or_eq_of_le hk with h1 | h1
          · have := okFrom_lt hS.out h1 hx hy; omega
          · subst h1; rw [hx] at hy; cases hy; omega⟩
        clear hx hxt
        go_wp2_with fail
        refine (cmp_Less _ _ _).mono ?_
        rintro e w' ⟨rfl, rfl⟩
        rw [hq.out]
        go_wp2
        go_round
        case rel => exact ⟨i, (i + j) / 2, by have := hmid.out; omega, by have := hmid.out; omega, rfl, by congr 1, hR.out⟩
        case measure => have := hmid.out; simp [intOf]; omega
    · obtain rfl : i = j := by omega
      have hend := search_end hS.out hN.out.1 hN.out.2
      by_cases hil : i < l.length
      · obtain ⟨x, hx⟩ : ∃ x, l[i]? = some x := ⟨l[i], by simp [hil]⟩
        obtain ⟨b, off, rfl, hb, c0⟩ := hL.out.cell hx
        have hi0 : (0 : Int) ≤ (i : Int) := by omega
        have hi1 : (i : Int) < (l.length : Int) := by omega
        have hd : decide ((i : Int) < (l.length : Int)) = true := decide_eq_true (by omega)
        rw [hx] at hend
        have hend' : Hid (hasR l t = (x == t)) := Hid.mk (by rw [hasR, hend]; rfl)
        clear hx hend
        cases hxt : x == t
        · rw [hxt] at hend'
          go_wp2_with (go_at_call 79; refine (slices_isNaN _ _).mono ?_; rintro e w' ⟨rfl, rfl⟩)
          go_ret2
          exact ⟨_, by rw [hend'.out]; rfl, rfl⟩
        · rw [hxt] at hend'
          go_wp2_with (go_at_call 79; refine (slices_isNaN _ _).mono ?_; rintro e w' ⟨rfl, rfl⟩)
          go_ret2
          exact ⟨_, by rw [hend'.out]; rfl, rfl⟩
      · have hd : decide ((i : Int) < (l.length : Int)) = false := decide_eq_false (by omega)
        rw [List.getElem?_eq_none (by omega)] at hend
        have hend' : Hid (hasR l t = false) := Hid.mk (by rw [hasR, hend]; rfl)
        clear hend
        go_wp2
        go_ret2
        exact ⟨_, by rw [hend'.out]; rfl, rfl⟩



end Go.Proofs.YtkbocenpkdaogaaDoor

/- Contracts: the tests of items, IndexFunc and ContainsFunc over items, items.Check. -/
namespace Go.Proofs.YtkbocenpkdaogaaDoor
set_option maxRecDepth 100000
open Go.RowKit

set_option maxHeartbeats 400000 in
theorem items_in (n : Int) (w : World) : Calls Tryd.prog 73 #[.int .i64 n] w fun e w' => e = .returned (.bool (inB n)) ∧ w = w' := by
  by_cases h0 : 0 ≤ n <;> by_cases h1 : n ≤ 1000000
  all_goals
    go_enter Tryd.func73, Tryd.ntmps73
    go_wp2
    go_ret
    exact ⟨by simp [inB, *], rfl⟩

set_option maxHeartbeats 400000 in
theorem items_isItem (x : Item) (w : World) : Calls Tryd.prog 66 #[x.val] w fun e w' => e = .returned (.bool x.ok) ∧ Ext w w' := by
  obtain ⟨p, t, c⟩ := x
  have hE := (Ext.refl w).alloc (.cells #[.int .u8 p, .int .i64 t, .int .i64 c] 23)
  unfold Item.val
  cases ht : inB t <;> cases hc : inB c
  all_goals
    go_enter Tryd.func66, Tryd.ntmps66
    go_wp2_with (go_at_call 73; refine (items_in _ _).mono ?_; rintro e w' ⟨rfl, rfl⟩)
    all_goals
      go_ret
      exact ⟨by simp_all [Item.ok], hE⟩

def PredAt (g : Nat) (cap : Array Value) (W : World) (p : Item → Bool) : Prop :=
  ∀ (x : Item) (w : World), Ext W w → Calls Tryd.prog g (#[x.val] ++ cap) w fun e w' => e = .returned (.bool (p x)) ∧ Ext w w'

def idxOf : Option Nat → Int
  | none => -1
  | some i => i

theorem findIdx_hit {α : Type} {p : α → Bool} {l : List α} {k : Nat} {x : α} (h : (l.take k).any p = false) (hx : l[k]? = some x) (hp : p x = true) : l.findIdx? p = some k := by
  rw [List.findIdx?_eq_some_iff_getElem]
  obtain ⟨hk, rfl⟩ := List.getElem?_eq_some_iff.1 hx
  refine ⟨hk, hp, fun j hj => ?_⟩
  simp only [List.any_eq_false] at h
  have := h l[j] (by rw [List.mem_iff_getElem?]; exact ⟨j, by rw [List.getElem?_take, if_pos hj]; simp⟩)
  simpa using this

theorem findIdx_miss {α : Type} {p : α → Bool} {l : List α} (h : l.any p = false) : l.findIdx? p = none := by
  rw [List.findIdx?_eq_none_iff]
  simpa [List.any_eq_false] using h

theorem any_take_succ {α : Type} {p : α → Bool} {l : List α} {k : Nat} {x : α} (h : (l.take k).any p = false) (hx : l[k]? = some x) (hp : p x = false) : (l.take (k + 1)).any p = false := by
  rw [List.take_add_one, hx]
  simp [List.any_append, h, hp]

set_option maxHeartbeats 400000 in
theorem indexFunc_item {g : Nat} {cap : Array Value} {p : Item → Bool} {l : List Item} {v : Value} {w : World} (hg : ∀ args w, (callFunc g args).run Tryd.prog w = .ok (.enter g args) w)
    (hp : PredAt g cap w p) (hl : Its w v l) : Calls Tryd.prog 75 #[v, .func (.func g) #[] cap] w fun e w' => e = .returned (.int .i64 (idxOf (l.findIdx? p))) ∧ Ext w w' := by
  obtain ⟨a, cp, rfl, hlc, hcm, -⟩ := hl.form
  unfold maxLen at hcm
  go_enter Tryd.func75, Tryd.ntmps75
  go_wp2
  go_loopw [8] (fun i wr => ∃ k : Nat, k ≤ l.length ∧ i = .int .i64 k ∧ Ext w wr ∧ Hid ((l.take k).any p = false)) (fun i _ => l.length - (intOf i).toNat)
  case atStart => exact ⟨0, Nat.zero_le _, rfl, Ext.refl _, by simp [Hid]⟩
  case round =>
    obtain ⟨k, hk, rfl, hE, hN⟩ := hrel
    by_cases hlt : k < l.length
    · obtain ⟨x, hx⟩ : ∃ x, l[k]? = some x := ⟨l[k], by simp [hlt]⟩
      obtain ⟨b, off, rfl, hb, c0, c1, c2⟩ := (hl.ext hE).cell hx
      have hX := Lib.hid hx
      clear hx
      cases hpx : p x
      all_goals
        have hP := Lib.hid hpx
        clear hpx
        go_wp2_with fail
        refine (hp x wr hE).mono ?_
        rintro e w1 ⟨rfl, hE1⟩
        have hpx := hP.out
        go_wp2
      · go_roundw
        case rel => exact ⟨k + 1, by omega, by go_num, hE.trans hE1, any_take_succ hN.out hX.out hP.out⟩
        case measure => simp [intOf]; omega
      · go_ret
        exact ⟨by rw [findIdx_hit hN.out hX.out hP.out]; rfl, hE.trans hE1⟩
    · have hkl : k = l.length := by omega
      subst hkl
      go_wp2
      go_ret
      have hN' := hN.out
      rw [List.take_length] at hN'
      exact ⟨by rw [findIdx_miss hN']; rfl, hE⟩

end Go.Proofs.YtkbocenpkdaogaaDoor

/- Contracts: the reference of layer 28, and slices.Clone of items. -/
namespace Go.Proofs.YtkbocenpkdaogaaDoor
set_option maxRecDepth 100000
open Go.RowKit

/-! ### posts -/
/-- It hands back a new slice that reads as l. -/
def RetL (e : TypeId) (w : World) (l : List Item) (en : Ending) (w' : World) : Prop := ∃ v, en = .returned v ∧ Own w' w.heap.size e 3 v l.length (l.flatMap Item.row) ∧ Ext w w'
/-- .. and a number. -/
def RetLN (e : TypeId) (w : World) (l : List Item) (n : Int) (en : Ending) (w' : World) : Prop := ∃ v, en = .returned (.tuple #[v, .int .i64 n]) ∧ Own w' w.heap.size e 3 v l.length (l.flatMap Item.row) ∧ Ext w w'

theorem Item.infoE : ∃ i z, Tryd.prog.info? 23 = some i ∧ i.zero = some z ∧ i.size = 3 ∧ z.cells.size = 3 ∧ i.bytes = 24 := by
  have h : (Tryd.prog.info? 23).map (fun i => (i.zero.map (fun z => z.cells.size), i.size, i.bytes)) = some (some 3, 3, 24) := by kernel_rfl
  cases hi : Tryd.prog.info? 23 with
  | none => rw [hi] at h; simp at h
  | some i =>
    rw [hi] at h
    simp only [Option.map_some, Option.some.injEq, Prod.mk.injEq] at h
    obtain ⟨h1, h2, h3⟩ := h
    cases hz : i.zero with
    | none => rw [hz] at h1; simp at h1
    | some z =>
      rw [hz] at h1
      exact ⟨i, z, rfl, hz, h2, by simpa using h1, h3⟩



theorem all_take_succ {α : Type} {p : α → Bool} {l : List α} {k : Nat} {x : α} (h : (l.take k).all p = true) (hx : l[k]? = some x) (hp : p x = true) : (l.take (k + 1)).all p = true := by
  rw [List.take_add_one, hx]
  simp [List.all_append, h, hp]
theorem all_miss {α : Type} {p : α → Bool} {l : List α} {k : Nat} {x : α} (hx : l[k]? = some x) (hp : p x = false) : l.all p = false := by
  rw [List.all_eq_false]
  exact ⟨x, List.mem_of_getElem? hx, by simp [hp]⟩



end Go.Proofs.YtkbocenpkdaogaaDoor

/- Contracts: copies of stacks, equality of stacks, and what is above and below an index; the program's and the reference's. -/
namespace Go.Proofs.YtkbocenpkdaogaaDoor
set_option maxRecDepth 100000
open Go.RowKit

/-! ### Clone and Twin -/
/-- A new array of no element is owned. -/
theorem Own.made (w : World) (B : Nat) (e : TypeId) (k : Nat) (hB : B ≤ w.heap.size) : Own (w.alloc (.cells #[] e)) B e k (.slice (some ⟨w.heap.size, 0, none⟩) 0 0) 0 [] :=
  World.ownsRow_made w #[] 0 hB (Nat.zero_le _) (by simp)


set_option maxHeartbeats 400000 in
theorem clone_Stack {l : List Item} {v : Value} {w : World} (hl : Its w v l) (hs : l.length ≤ 1000000) : Calls Tryd.prog 52 #[v] w (RetL 23 w l) := by
  obtain ⟨i, z, hi, hz, hi3, hz3, hby⟩ := Item.infoE
  obtain ⟨a, cp, rfl, hlc, hcm, hn⟩ := hl.form
  cases a with
  | none =>
    have hcp := hn rfl
    subst hcp
    have hl0 : l.length = 0 := by omega
    have hl0' := List.eq_nil_of_length_eq_zero hl0
    subst hl0'
    have hnil : ∀ w, (binOp .eql 31 (.slice none 0 0) (.slice none 0 0)).run Tryd.prog w = .ok (.bool true) w := fun w => Lib.run_eql_slice_nil w 31 23 none 0 0 0 0 Tryd.underlying31
    go_enter Tryd.func52, Tryd.ntmps52
    go_wp2
    go_ret
    exact ⟨_, rfl, Own.nil _ _ _ _, Ext.refl _⟩
  | some ad =>
    have hE := (Ext.refl w).alloc (.cells #[] 23)
    have hl' := hl.ext hE
    have hO := Own.made w w.heap.size 23 3 (Nat.le_refl _)
    have hz := Lib.hid hz
    have hi3 := Lib.hid hi3
    have hz3 := Lib.hid hz3
    have hby := Lib.hid hby
    have hi := Lib.hid hi
    have hnil : ∀ w, (binOp .eql 31 (.slice (some ad) l.length cp) (.slice none 0 0)).run Tryd.prog w = .ok (.bool false) w := fun w => Lib.run_eql_slice_nil w 31 23 (some ad) l.length cp 0 0 Tryd.underlying31
    go_enter Tryd.func52, Tryd.ntmps52
    go_wp2_with (at_builtin; refine Hid.out ?_)
    refine Hid.mk ?_
    refine wpList_append_any rfl _ _ 31 31 rfl rfl rfl Tryd.underlying31 Tryd.underlying31 hi.out hz.out hi3.out hz3.out hO hl' (Item.one l) (by simp [maxLen]; omega) (by rw [hby.out]; omega) hE.size ?_
    intro v' w' hO' hK _ _
    go_wp2
    go_ret
    simp only [Nat.zero_add, List.nil_append] at hO'
    exact ⟨_, rfl, hO', (Below.trans (Below.alloc (Below.refl _ w) (Nat.le_refl _) _) hK.below : Below w.heap.size w w')⟩

set_option maxHeartbeats 400000 in
theorem clone_Items {l : List Item} {v : Value} {w : World} (hl : Its w v l) (hs : l.length ≤ 1000000) : Calls Tryd.prog 83 #[v] w (RetL 23 w l) := by
  obtain ⟨i, z, hi, hz, hi3, hz3, hby⟩ := Item.infoE
  obtain ⟨a, cp, rfl, hlc, hcm, hn⟩ := hl.form
  cases a with
  | none =>
    have hcp := hn rfl
    subst hcp
    have hl0 : l.length = 0 := by omega
    have hl0' := List.eq_nil_of_length_eq_zero hl0
    subst hl0'
    have hnil : ∀ w, (binOp .eql 30 (.slice none 0 0) (.slice none 0 0)).run Tryd.prog w = .ok (.bool true) w := fun w => Lib.run_eql_slice_nil w 30 23 none 0 0 0 0 Tryd.underlying30
    go_enter Tryd.func83, Tryd.ntmps83
    go_wp2
    go_ret
    exact ⟨_, rfl, Own.nil _ _ _ _, Ext.refl _⟩
  | some ad =>
    have hE := (Ext.refl w).alloc (.cells #[] 23)
    have hl' := hl.ext hE
    have hO := Own.made w w.heap.size 23 3 (Nat.le_refl _)
    have hz := Lib.hid hz
    have hi3 := Lib.hid hi3
    have hz3 := Lib.hid hz3
    have hby := Lib.hid hby
    have hi := Lib.hid hi
    have hnil : ∀ w, (binOp .eql 30 (.slice (some ad) l.length cp) (.slice none 0 0)).run Tryd.prog w = .ok (.bool false) w := fun w => Lib.run_eql_slice_nil w 30 23 (some ad) l.length cp 0 0 Tryd.underlying30
    go_enter Tryd.func83, Tryd.ntmps83
    go_wp2_with (at_builtin; refine Hid.out ?_)
    refine Hid.mk ?_
    refine wpList_append_any rfl _ _ 30 30 rfl rfl rfl Tryd.underlying30 Tryd.underlying30 hi.out hz.out hi3.out hz3.out hO hl' (Item.one l) (by simp [maxLen]; omega) (by rw [hby.out]; omega) hE.size ?_
    intro v' w' hO' hK _ _
    go_wp2
    go_ret
    simp only [Nat.zero_add, List.nil_append] at hO'
    exact ⟨_, rfl, hO', (Below.trans (Below.alloc (Below.refl _ w) (Nat.le_refl _) _) hK.below : Below w.heap.size w w')⟩

/-! ### Same -/
theorem run_neq_item (x y : Item) (w : World) : (binOp .neq 23 x.val y.val).run Tryd.prog w = .ok (.bool (decide (x ≠ y))) w := by
  obtain ⟨p, t, c⟩ := x
  obtain ⟨p', t', c'⟩ := y
  unfold Item.val
  go_simp
  by_cases h1 : p = p' <;> by_cases h2 : t = t' <;> by_cases h3 : c = c' <;> simp [h1, h2, h3]

theorem take_eq_succ {α : Type} {l m : List α} {k : Nat} {x : α} (h : l.take k = m.take k) (hx : l[k]? = some x) (hy : m[k]? = some x) : l.take (k + 1) = m.take (k + 1) := by
  rw [List.take_add_one, List.take_add_one, hx, hy, h]

set_option maxHeartbeats 400000 in
theorem ref28_Same {l m : List Item} {v u : Value} {w : World} (hl : Its w v l) (hm : Its w u m) : Calls Tryd.prog 12 #[v, u] w fun e w' => e = .returned (.bool (decide (l = m))) ∧ Ext w w' := by
  obtain ⟨a, cp, rfl, hlc, hcm, -⟩ := hl.form
  obtain ⟨a2, cp2, rfl, hlc2, hcm2, -⟩ := hm.form
  unfold maxLen at hcm hcm2
  by_cases hlen : l.length = m.length
  · have hH := Lib.hid hlen
    have hm2 := hm
    rw [← hlen] at hm2
    rw [← hlen]
    clear hlen
    go_enter Tryd.func12, Tryd.ntmps12
    go_wp2
    go_loopw [5] (fun i wr => ∃ k : Nat, k ≤ l.length ∧ i = .int .i64 k ∧ Ext w wr ∧ Hid (l.take k = m.take k)) (fun i _ => l.length - (intOf i).toNat)
    case atStart => exact ⟨0, Nat.zero_le _, rfl, Ext.refl _, by simp [Hid]⟩
    case round =>
      obtain ⟨k, hk, rfl, hE, hN⟩ := hrel
      by_cases hlt : k < l.length
      · obtain ⟨x, hx⟩ : ∃ x, l[k]? = some x := ⟨l[k], by simp [hlt]⟩
        obtain ⟨y, hy⟩ : ∃ y, m[k]? = some y := ⟨m[k]'(by have := hH.out; omega), by simp⟩
        obtain ⟨b, off, rfl, hb, c0, c1, c2⟩ := (hl.ext hE).cell hx
        obtain ⟨b', off', rfl, hb', d0, d1, d2⟩ := (hm2.ext hE).cell hy
        have hX := Lib.hid hx
        have hY := Lib.hid hy
        clear hx hy
        have hi0 : (0 : Int) ≤ (k : Int) := by omega
        have hi1 : (k : Int) < (l.length : Int) := by omega
        have hn := run_neq_item x y
        unfold Item.val at hn
        by_cases hxy : x = y
        · subst hxy
          simp only [ne_eq, not_true_eq_false, decide_false] at hn
          go_wp2
          go_quiet (fail)
          go_wp2
          go_roundw
          case rel => exact ⟨k + 1, by omega, by go_num, hE.drewN _, take_eq_succ hN.out hX.out hY.out⟩
          case measure => simp [intOf]; omega
        · have hD := Lib.hid hxy
          simp only [ne_eq, hxy, not_false_eq_true, decide_true] at hn
          clear hxy
          go_wp2
          go_quiet (fail)
          go_wp2
          go_ret
          refine ⟨?_, hE.drewN _⟩
          have hne : l ≠ m := by
            intro e
            subst e
            have h1 := hX.out
            rw [hY.out] at h1
            exact hD.out (Option.some.inj h1).symm
          simp [hne]
      · have hkl : k = l.length := by omega
        subst hkl
        go_wp2
        go_ret
        have h1 := hN.out
        rw [List.take_length, hH.out, List.take_length] at h1
        exact ⟨by simp [h1], hE⟩
  · have hb : ((l.length : Int) == (m.length : Int)) = false := by simp; omega
    have hb' : ((l.length : Int) != (m.length : Int)) = true := by simp; omega
    have hH := Lib.hid hlen
    clear hlen
    go_enter Tryd.func12, Tryd.ntmps12
    go_wp2
    go_ret
    have hne : l ≠ m := fun e => hH.out (by rw [e])
    exact ⟨by simp [hne], Ext.refl _⟩

theorem ref28_Same_yes {l : List Item} {v u : Value} {w : World} (hl : Its w v l) (hm : Its w u l) : Calls Tryd.prog 12 #[v, u] w fun e w' => e = .returned (.bool true) ∧ Ext w w' :=
  (ref28_Same hl hm).mono fun _ _ ⟨h1, h2⟩ => ⟨h1.trans (by simp), h2⟩

end Go.Proofs.YtkbocenpkdaogaaDoor

/- Contracts: items.Check, items.Base, and the reference's At, Find and Base. -/
namespace Go.Proofs.YtkbocenpkdaogaaDoor
set_option maxRecDepth 100000
open Go.RowKit

theorem callFunc_Check1 (args : Array Value) (w : World) : (callFunc 65 args).run Tryd.prog w = .ok (.enter 65 args) w := by kernel_rfl

set_option maxHeartbeats 400000 in
theorem items_Check1 (W : World) : PredAt 65 #[] W (fun x => !x.ok) := by
  intro x w _
  have hx := items_isItem x
  obtain ⟨p, t, c⟩ := x
  unfold Item.val at *
  have hE := (Ext.refl w).alloc (.cells #[.int .u8 p, .int .i64 t, .int .i64 c] 23)
  have hX := Lib.hid hx
  clear hx
  show Calls Tryd.prog 65 #[.agg #[.int .u8 p, .int .i64 t, .int .i64 c]] w _
  go_enter Tryd.func65, Tryd.ntmps65
  go_wp2_with (go_at_call 66; refine (hX.out _).mono ?_; rintro e w' ⟨rfl, hE'⟩)
  go_ret
  exact ⟨rfl, hE.trans hE'⟩

theorem idxOf_any {α : Type} (p : α → Bool) (l : List α) : decide (0 ≤ idxOf (l.findIdx? p)) = l.any p := by
  cases h : l.findIdx? p with
  | none =>
    have h' : l.any p = false := by rw [List.findIdx?_eq_none_iff] at h; simpa [List.any_eq_false] using h
    rw [h']; simp [idxOf]
  | some i =>
    have h' : l.any p = true := by
      rw [List.findIdx?_eq_some_iff_getElem] at h
      obtain ⟨hi, hp, _⟩ := h
      rw [List.any_eq_true]
      exact ⟨l[i], List.getElem_mem _, hp⟩
    rw [h']; simp [idxOf]

set_option maxHeartbeats 400000 in
theorem containsFunc_item {g : Nat} {cap : Array Value} {p : Item → Bool} {l : List Item} {v : Value} {w : World} (hg : ∀ args w, (callFunc g args).run Tryd.prog w = .ok (.enter g args) w)
    (hp : PredAt g cap w p) (hl : Its w v l) : Calls Tryd.prog 64 #[v, .func (.func g) #[] cap] w fun e w' => e = .returned (.bool (l.any p)) ∧ Ext w w' := by
  have hC := Lib.hid (indexFunc_item hg hp hl)
  have hA := Lib.hid (idxOf_any p l)
  clear hg
  obtain ⟨a, cp, rfl, -⟩ := hl.form
  go_enter Tryd.func64, Tryd.ntmps64
  go_wp2_with (go_at_call 75; refine hC.out.mono ?_; rintro e w' ⟨rfl, hE'⟩)
  go_ret
  exact ⟨by rw [← hA.out]; rfl, hE'⟩

theorem any_not_ok (l : List Item) : l.any (fun x => !x.ok) = !l.all Item.ok := by
  induction l with
  | nil => rfl
  | cons x l ih => rw [List.any_cons, List.all_cons, ih, Bool.not_and]

set_option maxHeartbeats 400000 in
theorem items_Check {l : List Item} {v : Value} {w : World} (hl : Its w v l) : Calls Tryd.prog 42 #[v] w fun e w' => e = .returned (.int .i64 (chk l)) ∧ Ext w w' := by
  have hC := Lib.hid (containsFunc_item callFunc_Check1 (items_Check1 w) hl)
  have hN := Lib.hid (any_not_ok l)
  obtain ⟨a, cp, rfl, hlc, hcm, -⟩ := hl.form
  by_cases h6 : l.length ≤ 600
  · have hd : decide ((600 : Int) < (l.length : Int)) = false := decide_eq_false (by omega)
    cases ha : l.all Item.ok
    all_goals
      have hv := Lib.hid ha
      go_enter Tryd.func42, Tryd.ntmps42
      go_wp2_with (go_at_call 64; refine hC.out.mono ?_; rintro e w' ⟨rfl, hE'⟩; rw [hN.out, hv.out])
      go_ret
      exact ⟨by simp [chk, okS, hv.out, h6], hE'⟩
  · have hd : decide ((600 : Int) < (l.length : Int)) = true := decide_eq_true (by omega)
    go_enter Tryd.func42, Tryd.ntmps42
    go_wp2
    go_ret
    exact ⟨by simp [chk, okS, h6], Ext.refl _⟩

end Go.Proofs.YtkbocenpkdaogaaDoor

/- Contracts: what is held; Enter, Leave and Held, the program's and the reference's. -/
namespace Go.Proofs.YtkbocenpkdaogaaDoor
set_option maxRecDepth 100000
open Go.RowKit

/-- A new list of numbers, and a number. -/
def RetNN (w : World) (l : List Int) (n : Int) (en : Ending) (w' : World) : Prop := ∃ v, en = .returned (.tuple #[v, .int .i64 n]) ∧ Nts w' v l ∧ Ext w w'
def RetNs (e : TypeId) (w : World) (l : List Int) (en : Ending) (w' : World) : Prop := ∃ v, en = .returned v ∧ Own w' w.heap.size e 1 v l.length (l.flatMap irow) ∧ Ext w w'

theorem Int.infoE : ∃ i z, Tryd.prog.info? 3 = some i ∧ i.zero = some z ∧ i.size = 1 ∧ z.cells.size = 1 ∧ i.bytes = 8 := by
  have h : (Tryd.prog.info? 3).map (fun i => (i.zero.map (fun z => z.cells.size), i.size, i.bytes)) = some (some 1, 1, 8) := by kernel_rfl
  cases hi : Tryd.prog.info? 3 with
  | none => rw [hi] at h; simp at h
  | some i =>
    rw [hi] at h
    simp only [Option.map_some, Option.some.injEq, Prod.mk.injEq] at h
    obtain ⟨h1, h2, h3⟩ := h
    cases hz : i.zero with
    | none => rw [hz] at h1; simp at h1
    | some z =>
      rw [hz] at h1
      exact ⟨i, z, rfl, hz, h2, by simpa using h1, h3⟩

set_option maxHeartbeats 400000 in
theorem clone_Ints {l : List Int} {v : Value} {w : World} (hl : Nts w v l) (hs : l.length ≤ 1000000) : Calls Tryd.prog 47 #[v] w (RetNs 3 w l) := by
  obtain ⟨i, z, hi, hz, hi3, hz3, hby⟩ := Int.infoE
  obtain ⟨a, cp, rfl, hlc, hcm, hn⟩ := hl.form
  cases a with
  | none =>
    have hcp := hn rfl
    subst hcp
    have hl0 := List.eq_nil_of_length_eq_zero (by omega : l.length = 0)
    subst hl0
    have hnil : ∀ w, (binOp .eql 37 (.slice none 0 0) (.slice none 0 0)).run Tryd.prog w = .ok (.bool true) w := fun w => Lib.run_eql_slice_nil w 37 3 none 0 0 0 0 Tryd.underlying37
    go_enter Tryd.func47, Tryd.ntmps47
    go_wp2
    go_ret
    exact ⟨_, rfl, Own.nil _ _ _ _, Ext.refl _⟩
  | some ad =>
    have hE := (Ext.refl w).alloc (.cells #[] 3)
    have hl' := hl.ext hE
    have hO := Own.made w w.heap.size 3 1 (Nat.le_refl _)
    have hz := Lib.hid hz
    have hi3 := Lib.hid hi3
    have hz3 := Lib.hid hz3
    have hby := Lib.hid hby
    have hi := Lib.hid hi
    have hnil : ∀ w, (binOp .eql 37 (.slice (some ad) l.length cp) (.slice none 0 0)).run Tryd.prog w = .ok (.bool false) w := fun w => Lib.run_eql_slice_nil w 37 3 (some ad) l.length cp 0 0 Tryd.underlying37
    go_enter Tryd.func47, Tryd.ntmps47
    go_wp2_with (at_builtin; refine Hid.out ?_)
    refine Hid.mk ?_
    refine wpList_append_any rfl _ _ 37 37 rfl rfl rfl Tryd.underlying37 Tryd.underlying37 hi.out hz.out hi3.out hz3.out hO hl' (Nts.one l) (by simp [maxLen]; omega) (by rw [hby.out]; omega) hE.size ?_
    intro v' w' hO' hK _ _
    go_wp2
    go_ret
    simp only [Nat.zero_add, List.nil_append] at hO'
    exact ⟨_, rfl, hO', (Below.trans (Below.alloc (Below.refl _ w) (Nat.le_refl _) _) hK.below : Below w.heap.size w w')⟩

theorem callFunc_first1 (args : Array Value) (w : World) : (callFunc 69 args).run Tryd.prog w = .ok (.enter 69 args) w := by kernel_rfl

set_option maxHeartbeats 400000 in
theorem guard_first1 {run : List Int} {v : Value} (B : Nat) (W : World) (hc : W.cell? ⟨B, 0, none⟩ = some v) (hl : Nts W v run) (hs : okFrom 0 run = true) (hlen : run.length ≤ 1000) : PredAt 69 #[.pointer (some ⟨B, 0, none⟩)] W (heldBy run) := by
  intro x w hW
  obtain ⟨p, t, c⟩ := x
  have hcw := hW.cell hc
  have hB := World.block_lt_of_cell? _ _ hcw
  have hE := (Ext.refl w).alloc (.cells #[.int .u8 p, .int .i64 t, .int .i64 c] 23)
  have hBS := Lib.hid (binarySearch c ((hl.ext hW).ext hE) hs hlen)
  obtain ⟨a, cp, rfl, -⟩ := hl.form
  clear hc hW hl hs
  show Calls Tryd.prog 69 #[.agg #[.int .u8 p, .int .i64 t, .int .i64 c], .pointer (some ⟨B, 0, none⟩)] w _
  go_enter Tryd.func69, Tryd.ntmps69
  go_wp2_with fail
  refine hBS.out.mono ?_
  rintro e w1 ⟨i, rfl, rfl⟩
  go_wp2
  go_ret
  exact ⟨rfl, hE⟩

set_option maxHeartbeats 400000 in
theorem indexFunc_items {g : Nat} {cap : Array Value} {p : Item → Bool} {l : List Item} {v : Value} {w : World} (hg : ∀ args w, (callFunc g args).run Tryd.prog w = .ok (.enter g args) w)
    (hp : PredAt g cap w p) (hl : Its w v l) : Calls Tryd.prog 68 #[v, .func (.func g) #[] cap] w fun e w' => e = .returned (.int .i64 (idxOf (l.findIdx? p))) ∧ Ext w w' := by
  obtain ⟨a, cp, rfl, hlc, hcm, -⟩ := hl.form
  unfold maxLen at hcm
  go_enter Tryd.func68, Tryd.ntmps68
  go_wp2
  go_loopw [8] (fun i wr => ∃ k : Nat, k ≤ l.length ∧ i = .int .i64 k ∧ Ext w wr ∧ Hid ((l.take k).any p = false)) (fun i _ => l.length - (intOf i).toNat)
  case atStart => exact ⟨0, Nat.zero_le _, rfl, Ext.refl _, by simp [Hid]⟩
  case round =>
    obtain ⟨k, hk, rfl, hE, hN⟩ := hrel
    by_cases hlt : k < l.length
    · obtain ⟨x, hx⟩ : ∃ x, l[k]? = some x := ⟨l[k], by simp [hlt]⟩
      obtain ⟨b, off, rfl, hb, c0, c1, c2⟩ := (hl.ext hE).cell hx
      have hX := Lib.hid hx
      clear hx
      cases hpx : p x
      all_goals
        have hP := Lib.hid hpx
        clear hpx
        go_wp2_with fail
        refine (hp x wr hE).mono ?_
        rintro e w1 ⟨rfl, hE1⟩
        have hpx := hP.out
        go_wp2
      · go_roundw
        case rel => exact ⟨k + 1, by omega, by go_num, hE.trans hE1, any_take_succ hN.out hX.out hP.out⟩
        case measure => simp [intOf]; omega
      · go_ret
        exact ⟨by rw [findIdx_hit hN.out hX.out hP.out]; rfl, hE.trans hE1⟩
    · have hkl : k = l.length := by omega
      subst hkl
      go_wp2
      go_ret
      have hN' := hN.out
      rw [List.take_length] at hN'
      exact ⟨by rw [findIdx_miss hN']; rfl, hE⟩

set_option maxHeartbeats 400000 in
theorem guard_first {l : List Item} {run : List Int} {v u : Value} {w : World} (hl : Its w v l) (hr : Nts w u run) (hok : okR run = true) :
    Calls Tryd.prog 48 #[v, u] w fun e w' => e = .returned (.int .i64 (idxOf (firstR l run))) ∧ Ext w w' := by
  have hE0 := (Ext.refl w).alloc (.cells #[u] 37)
  have hc : (w.alloc (.cells #[u] 37)).cell? ⟨w.heap.size, 0, none⟩ = some u := by simp
  have hI := Lib.hid (indexFunc_items callFunc_first1 (guard_first1 w.heap.size _ hc (hr.ext hE0) (okR_from hok) (by have := okR_len hok; omega)) (hl.ext hE0))
  have hmf : ∀ (fn : Fn) (first cap : Array Value) (w : World), (Instr.makeFunc fn first cap).run Tryd.prog w = .ok (.func fn first cap) w := fun _ _ _ _ => rfl
  obtain ⟨a, cp, rfl, -⟩ := hl.form
  obtain ⟨a2, cp2, rfl, -⟩ := hr.form
  clear hl hr hc
  go_enter Tryd.func48, Tryd.ntmps48
  go_wp2_with fail
  refine hI.out.mono ?_
  rintro e w1 ⟨rfl, hE1⟩
  go_wp2
  go_ret
  exact ⟨rfl, hE0.trans hE1⟩


theorem enterR_bad {l : List Int} {c : Int} (h : okR l = false) : enterR l c = ([], 8) := by simp [enterR, h]
theorem enterR_low {l : List Int} {c : Int} (h : okR l = true) (hc : c ≤ lastR l ∨ 1000000 < c) : enterR l c = ([], 2) := by simp [enterR, h, hc]
theorem enterR_full {l : List Int} {c : Int} (h : okR l = true) (hc : ¬ (c ≤ lastR l ∨ 1000000 < c)) (hf : l.length = 32) : enterR l c = ([], 18) := by simp [enterR, h, hc, hf]
theorem enterR_ok {l : List Int} {c : Int} (h : okR l = true) (hc : ¬ (c ≤ lastR l ∨ 1000000 < c)) (hf : ¬ l.length = 32) : enterR l c = (l ++ [c], 0) := by simp [enterR, h, hc, hf]
theorem leaveR_bad {l : List Int} (h : okR l = false) : leaveR l = ([], 8) := by simp [leaveR, h]
theorem leaveR_none {l : List Int} (h : okR l = true) (hz : l.length = 0) : leaveR l = ([], 6) := by simp [leaveR, h, hz]
theorem leaveR_ok {l : List Int} (h : okR l = true) (hz : ¬ l.length = 0) : leaveR l = (l.take (l.length - 1), 0) := by simp [leaveR, h]; intro e; exact absurd (by simp [e]) hz

theorem slice_upto_Ints (a : Option Addr) (n cap : Nat) (x : Int) (k : Nat) (hx : x = k) (hk : k ≤ cap) :
    ∀ w, (Instr.slice 37 (.slice a n cap) none (some (.int .i64 x)) none).run Tryd.prog w = .ok (.slice a k cap) w := by
  obtain ⟨i, z, hi, hz, hi3, hz3, hby⟩ := Int.infoE
  exact fun w => run_slice_upto Tryd.underlying37 hi a n cap x k hx hk w

set_option maxHeartbeats 800000 in
theorem guard_Leave {l : List Int} {v : Value} {w : World} (hl : Nts w v l) : Calls Tryd.prog 15 #[v] w (RetNN w (leaveR l).1 (leaveR l).2) := by
  have hL := Lib.hid hl
  obtain ⟨a, cp, rfl, hlc, hcm, -⟩ := hl.form
  unfold maxLen at hcm
  clear hl
  cases hok : okR l
  · have h8 := Lib.hid (runErr_bad hok)
    have hres := Lib.hid (leaveR_bad hok)
    clear hok
    go_enter Tryd.func15, Tryd.ntmps15
    go_wp2_with fail
    refine (guard_Check hL.out).mono ?_
    rintro e w1 ⟨rfl, rfl⟩
    rw [h8.out]
    go_wp2
    go_ret2
    rw [hres.out]
    exact ⟨_, rfl, Nts.nil _, Ext.refl _⟩
  · have h0 := Lib.hid (runErr_ok hok)
    have hlen := okR_len hok
    by_cases hz : l.length = 0
    · have hres := Lib.hid (leaveR_none hok hz)
      have hz' : ((l.length : Int) == 0) = true := beq_iff_eq.2 (by omega)
      clear hok hz
      go_enter Tryd.func15, Tryd.ntmps15
      go_wp2_with fail
      refine (guard_Check hL.out).mono ?_
      rintro e w1 ⟨rfl, rfl⟩
      rw [h0.out]
      go_wp2
      go_ret2
      rw [hres.out]
      exact ⟨_, rfl, Nts.nil _, Ext.refl _⟩
    · have hres := Lib.hid (leaveR_ok hok hz)
      have hz' : ((l.length : Int) == 0) = false := beq_eq_false_iff_ne.2 (by omega)
      have hcut := slice_upto_Ints a l.length cp ((l.length : Int) - 1) (l.length - 1) (by omega) (by omega)
      clear hok
      go_enter Tryd.func15, Tryd.ntmps15
      go_wp2_with fail
      refine (guard_Check hL.out).mono ?_
      rintro e w1 ⟨rfl, rfl⟩
      rw [h0.out]
      go_wp2_with fail
      refine (clone_Ints (hL.out.take (l.length - 1) (by omega)) (by rw [List.length_take]; omega)).mono ?_
      rintro e w1 ⟨v1, rfl, hO, hE⟩
      go_wp2
      go_ret2
      rw [hres.out]
      exact ⟨_, rfl, hO.sl, hE⟩

end Go.Proofs.YtkbocenpkdaogaaDoor

/- Contracts: Leave of the reference; Enter and Held, the program's and the reference's. -/
namespace Go.Proofs.YtkbocenpkdaogaaDoor
set_option maxRecDepth 100000
open Go.RowKit


/-- The last number of a list that is not empty. -/
theorem last_is {l : List Int} (h : l.length ≠ 0) : l[l.length - 1]? = some (lastR l) := by
  obtain ⟨x, hx⟩ : ∃ x, l[l.length - 1]? = some x := ⟨l[l.length - 1]'(by omega), by simp⟩
  rw [lastR_get hx]; exact hx
theorem last_low {l : List Int} (hok : okR l = true) : 0 ≤ lastR l ∧ (l.length ≠ 0 → 1 ≤ lastR l) := by
  by_cases h : l.length = 0
  · have : l = [] := List.eq_nil_of_length_eq_zero h
    subst this
    exact ⟨by simp [lastR], fun h' => absurd rfl h'⟩
  · have := okFrom_all (okR_from hok) _ (List.mem_of_getElem? (last_is h))
    omega

set_option maxHeartbeats 1600000 in
theorem guard_Enter {l : List Int} {v : Value} {w : World} (c : Int) (hl : Nts w v l) : Calls Tryd.prog 14 #[v, .int .i64 c] w (RetNN w (enterR l c).1 (enterR l c).2) := by
  have hL := Lib.hid hl
  obtain ⟨a, cp, rfl, hlc, hcm, -⟩ := hl.form
  unfold maxLen at hcm
  clear hl
  cases hok : okR l
  · have h8 := Lib.hid (runErr_bad hok)
    have hres := Lib.hid (enterR_bad (c := c) hok)
    clear hok
    go_enter Tryd.func14, Tryd.ntmps14
    go_wp2_with fail
    refine (guard_Check hL.out).mono ?_
    rintro e w1 ⟨rfl, rfl⟩
    rw [h8.out]
    go_wp2
    go_ret2
    rw [hres.out]
    exact ⟨_, rfl, Nts.nil _, Ext.refl _⟩
  · have h0 := Lib.hid (runErr_ok hok)
    have hlen := okR_len hok
    obtain ⟨last, hlast⟩ : ∃ n, lastR l = n := ⟨_, rfl⟩
    -- the last number, or 0
    have hcase : (decide (0 < l.length) = false ∧ last = 0) ∨ (decide (0 < l.length) = true ∧ ∃ b off, a = some ⟨b, off, none⟩ ∧ w.cell? ⟨b, off + (l.length - 1), none⟩ = some (.int .i64 last) ∧ (0 : Int) ≤ (l.length : Int) - 1 ∧ 1 ≤ (l.length : Int) ∧ 1 ≤ l.length) := by
      by_cases hz : l.length = 0
      · left
        have : l = [] := List.eq_nil_of_length_eq_zero hz
        subst this
        exact ⟨rfl, hlast.symm.trans rfl⟩
      · right
        obtain ⟨b, off, rfl, _, hc⟩ := hL.out.cell (last_is hz)
        rw [hlast] at hc
        exact ⟨decide_eq_true (by omega), b, off, rfl, hc, by omega, by omega, by omega⟩
    by_cases hc : c ≤ last ∨ 1000000 < c
    · have hres := Lib.hid (enterR_low hok (by rw [hlast]; exact hc))
      have hq : decide (c ≤ last) = true ∨ decide (c ≤ last) = false ∧ decide (1000000 < c) = true := by
        by_cases h : c ≤ last
        · exact .inl (decide_eq_true h)
        · exact .inr ⟨decide_eq_false h, decide_eq_true (by omega)⟩
      clear hok hc hlast
      rcases hcase with ⟨g1, rfl⟩ | ⟨g1, b, off, rfl, g2, g3, g4, g5⟩
      all_goals
        rcases hq with q1 | ⟨q1, q2⟩
        all_goals
          go_enter Tryd.func14, Tryd.ntmps14
          go_wp2_with fail
          refine (guard_Check hL.out).mono ?_
          rintro e w1 ⟨rfl, rfl⟩
          rw [h0.out]
          go_wp2
          go_ret2
          rw [hres.out]
          exact ⟨_, rfl, Nts.nil _, Ext.refl _⟩
    · have q1 : decide (c ≤ last) = false := decide_eq_false (by omega)
      have q2 : decide (1000000 < c) = false := decide_eq_false (by omega)
      by_cases hf : l.length = 32
      · have hres := Lib.hid (enterR_full hok (by rw [hlast]; exact hc) hf)
        have q3 : ((l.length : Int) == 32) = true := beq_iff_eq.2 (by omega)
        clear hok hc hlast hf
        rcases hcase with ⟨g1, rfl⟩ | ⟨g1, b, off, rfl, g2, g3, g4, g5⟩
        all_goals
          go_enter Tryd.func14, Tryd.ntmps14
          go_wp2_with fail
          refine (guard_Check hL.out).mono ?_
          rintro e w1 ⟨rfl, rfl⟩
          rw [h0.out]
          go_wp2
          go_ret2
          rw [hres.out]
          exact ⟨_, rfl, Nts.nil _, Ext.refl _⟩
      · have hres := Lib.hid (enterR_ok hok (by rw [hlast]; exact hc) hf)
        have q3 : ((l.length : Int) == 32) = false := beq_eq_false_iff_ne.2 (by omega)
        obtain ⟨i, z, hi, hz, hi3, hz3, hby⟩ := Int.infoE
        have hz := Lib.hid hz; have hi3 := Lib.hid hi3; have hz3 := Lib.hid hz3; have hby := Lib.hid hby; have hi := Lib.hid hi
        clear hok hc hlast hf
        rcases hcase with ⟨g1, rfl⟩ | ⟨g1, b, off, rfl, g2, g3, g4, g5⟩
        all_goals
          go_enter Tryd.func14, Tryd.ntmps14
          go_wp2_with fail
          refine (guard_Check hL.out).mono ?_
          rintro e w1 ⟨rfl, rfl⟩
          rw [h0.out]
          go_wp2_with fail
          refine (clone_Ints hL.out (by omega)).mono ?_
          rintro e w2 ⟨v2, rfl, hO, hE⟩
          have hE2 := (Ext.refl w2).alloc (.cells #[.int .i64 c] 3)
          have hx : Sl (w2.alloc (.cells #[.int .i64 c] 3)) 1 (.slice (some ⟨w2.heap.size, 0, none⟩) 1 1) 1 (irow c) := (Own.lit' (B := 0) (e := 3) (k := 1) w2 #[.int .i64 c] 1 (Nat.zero_le _) (by simp [maxLen]) rfl).sl
          have hO' := Lib.hid (hO.ext hE2)
          have hx' := Lib.hid hx
          have hEs := Lib.hid (hE.trans hE2).size
          clear hO hx
          go_wp2_with (at_builtin; refine Hid.out ?_)
          refine Hid.mk ?_
          refine wpList_append_any rfl _ _ 37 37 rfl rfl rfl Tryd.underlying37 Tryd.underlying37 hi.out hz.out hi3.out hz3.out hO'.out hx'.out (by simp [irow, Value.oneCell']) (by simp [maxLen]; omega) (by rw [hby.out]; omega) hEs.out ?_
          intro v' w' hO3 hK _ _
          go_wp2
          go_ret2
          rw [hres.out]
          refine ⟨_, rfl, ?_, Below.trans (hE.trans hE2) hK.below⟩
          have := hO3.sl
          unfold Nts
          rw [List.length_append, List.flatMap_append]
          exact this

end Go.Proofs.YtkbocenpkdaogaaDoor

/- Contracts: Enter of the reference; Held, the program's and the reference's. -/
namespace Go.Proofs.YtkbocenpkdaogaaDoor
set_option maxRecDepth 100000
open Go.RowKit


theorem heldR_bad {l : List Item} {run : List Int} (h : okR run = false) : heldR l run = (0, 8) := by simp [heldR, h]
theorem heldR_item {l : List Item} {run : List Int} (h : okR run = true) (hi : l.all Item.ok = false) : heldR l run = (0, 8) := by simp [heldR, h, hi]
theorem heldR_none {l : List Item} {run : List Int} (h : okR run = true) (hi : l.all Item.ok = true) (hf : firstR l run = none) : heldR l run = (0, 6) := by simp [heldR, h, hi, hf]
theorem heldR_some {l : List Item} {run : List Int} {i : Nat} (h : okR run = true) (hi : l.all Item.ok = true) (hf : firstR l run = some i) : heldR l run = ((i : Int), 0) := by simp [heldR, h, hi, hf]
theorem chk_one (x : Item) : chk [x] = if x.ok then 0 else 8 := by simp [chk, okS]

set_option maxHeartbeats 1600000 in
theorem guard_Held {l : List Item} {run : List Int} {v u : Value} {w : World} (hl : Its w v l) (hr : Nts w u run) :
    Calls Tryd.prog 16 #[v, u] w fun e w' => e = .returned (.tuple #[.int .i64 (heldR l run).1, .int .i64 (heldR l run).2]) ∧ Ext w w' := by
  have hL := Lib.hid hl
  have hR := Lib.hid hr
  obtain ⟨a, cp, rfl, hlc, hcm, -⟩ := hl.form
  obtain ⟨a2, cp2, rfl, -⟩ := hr.form
  unfold maxLen at hcm
  clear hl hr
  cases hok : okR run
  · have h8 := Lib.hid (runErr_bad hok)
    have hres := Lib.hid (heldR_bad (l := l) hok)
    clear hok
    go_enter Tryd.func16, Tryd.ntmps16
    go_wp2_with fail
    refine (guard_Check hR.out).mono ?_
    rintro e w1 ⟨rfl, rfl⟩
    rw [h8.out]
    go_wp2
    go_ret2
    exact ⟨by rw [hres.out]; rfl, Ext.refl _⟩
  · have h0 := Lib.hid (runErr_ok hok)
    have hok' := Lib.hid hok
    clear hok
    go_enter Tryd.func16, Tryd.ntmps16
    go_wp2_with fail
    refine (guard_Check hR.out).mono ?_
    rintro e w1 ⟨rfl, rfl⟩
    rw [h0.out]
    go_wp2
    go_loopw [18] (fun iv wr => ∃ k : Nat, k ≤ l.length ∧ iv = .int .i64 k ∧ Ext w wr ∧ Hid ((l.take k).all Item.ok = true)) (fun iv _ => l.length - (intOf iv).toNat)
    case atStart => exact ⟨0, Nat.zero_le _, rfl, Ext.refl _, by simp [Hid]⟩
    case round =>
      obtain ⟨k, hk, rfl, hE, hN⟩ := hrel
      by_cases hlt : k < l.length
      · obtain ⟨x, hx⟩ : ∃ x, l[k]? = some x := ⟨l[k], by simp [hlt]⟩
        obtain ⟨b, off, rfl, hb, c0, c1, c2⟩ := (hL.out.ext hE).cell hx
        have hX := Lib.hid hx
        clear hx
        have hE2 := ((Ext.refl wr).alloc (.cells #[.int .u8 x.p, .int .i64 x.t, .int .i64 x.c] 23)).alloc (.cells #[.int .u8 x.p, .int .i64 x.t, .int .i64 x.c] 23)
        have hs : Its ((wr.alloc (.cells #[.int .u8 x.p, .int .i64 x.t, .int .i64 x.c] 23)).alloc (.cells #[.int .u8 x.p, .int .i64 x.t, .int .i64 x.c] 23)) (.slice (some ⟨wr.heap.size + 1, 0, none⟩) 1 1) [x] := by
          have := (Own.lit' (B := 0) (e := 23) (k := 3) (wr.alloc (.cells #[.int .u8 x.p, .int .i64 x.t, .int .i64 x.c] 23)) #[.int .u8 x.p, .int .i64 x.t, .int .i64 x.c] 1 (Nat.zero_le _) (by simp [maxLen]) rfl).sl
          rw [World.size_alloc] at this
          exact this
        have hs' := Lib.hid hs
        have hE2' := Lib.hid hE2
        clear hs hE2
        cases hxo : x.ok
        · have h8 : Hid (chk [x] = 8) := Hid.mk (by rw [chk_one, hxo]; rfl)
          have hres := Lib.hid (heldR_item (l := l) hok'.out (all_miss hX.out hxo))
          clear hxo
          go_wp2_with fail
          refine (items_Check hs'.out).mono ?_
          rintro e w4 ⟨rfl, hE4⟩
          rw [h8.out]
          go_wp2
          go_ret2
          exact ⟨by rw [hres.out]; rfl, (hE.trans hE2'.out).trans hE4⟩
        · have h8 : Hid (chk [x] = 0) := Hid.mk (by rw [chk_one, hxo]; rfl)
          have hN2 := Lib.hid (all_take_succ hN.out hX.out hxo)
          clear hxo
          go_wp2_with fail
          refine (items_Check hs'.out).mono ?_
          rintro e w4 ⟨rfl, hE4⟩
          rw [h8.out]
          go_wp2
          go_roundw
          case rel => exact ⟨k + 1, by omega, by go_num, (hE.trans hE2'.out).trans hE4, hN2.out⟩
          case measure => simp [intOf]; omega
      · have hkl : k = l.length := by omega
        subst hkl
        have hN' := hN.out
        rw [List.take_length] at hN'
        cases hf : firstR l run with
        | none =>
          have hres := Lib.hid (heldR_none hok'.out hN' hf)
          have hf' := Lib.hid hf
          clear hN' hf
          go_wp2_with fail
          refine (guard_first (hL.out.ext hE) (hR.out.ext hE) hok'.out).mono ?_
          rintro e w4 ⟨rfl, hE4⟩
          rw [hf'.out, show idxOf none = -1 from rfl]
          go_wp2
          go_ret2
          exact ⟨by rw [hres.out]; rfl, hE.trans hE4⟩
        | some i =>
          have hres := Lib.hid (heldR_some hok'.out hN' hf)
          have hf' := Lib.hid hf
          have hi2 : decide ((i : Int) < 0) = false := decide_eq_false (by omega)
          clear hN' hf
          go_wp2_with fail
          refine (guard_first (hL.out.ext hE) (hR.out.ext hE) hok'.out).mono ?_
          rintro e w4 ⟨rfl, hE4⟩
          rw [hf'.out, show idxOf (some i) = (i : Int) from rfl]
          go_wp2
          go_ret2
          exact ⟨by rw [hres.out]; rfl, hE.trans hE4⟩


end Go.Proofs.YtkbocenpkdaogaaDoor

/- Contracts: Base, and the reference's At and Find. -/
namespace Go.Proofs.YtkbocenpkdaogaaDoor
set_option maxRecDepth 100000
open Go.RowKit

theorem Own.lit (w : World) {B : Nat} {e : TypeId} {k : Nat} (cs : Array Value) (n : Nat) (hB : B ≤ w.heap.size) (hm : n ≤ maxLen) (hs : cs.size = n * k) :
    Own (w.alloc (.cells cs e)) B e k (.slice (some ⟨w.heap.size, 0, none⟩) n n) n cs.toList := World.ownsRow_lit w cs n hB hm hs

/-- A literal slice of items reads as its items. -/
theorem Its.lit (w : World) (cs : Array Value) (l : List Item) (n b : Nat) (hb : w.heap.size = b) (hn : l.length = n) (hm : n ≤ maxLen) (hc : cs.toList = l.flatMap Item.row) : Its (w.alloc (.cells cs 23)) (.slice (some ⟨b, 0, none⟩) n n) l := by
  subst hn hb
  have hs : cs.size = l.length * 3 := by
    have := congrArg List.length hc
    rw [rows_len Item.row Item.row_len] at this
    simpa using this
  have := (Own.lit (B := 0) (e := 23) (k := 3) w cs l.length (Nat.zero_le _) hm hs).sl
  rw [hc] at this
  exact this

/-- What Base gives. -/
def baseOf (tag : Int) : List Item := if inB tag then [⟨1, tag, 0⟩] else []
def baseErr (tag : Int) : Int := if inB tag then 0 else 2


set_option maxHeartbeats 400000 in
theorem items_Base (tag : Int) (w : World) : Calls Tryd.prog 53 #[.int .i64 tag] w (RetLN 23 w (baseOf tag) (baseErr tag)) := by
  have hO := Own.lit (B := w.heap.size) (e := 23) (k := 3) w #[.int .u8 1, .int .i64 tag, .int .i64 0] 1 (Nat.le_refl _) (by simp [maxLen]) rfl
  cases ht : inB tag
  all_goals
    go_enter Tryd.func53, Tryd.ntmps53
    go_wp2_with (go_at_call 73; refine (items_in _ _).mono ?_; rintro e w' ⟨rfl, rfl⟩)
    go_ret2
  · unfold baseOf baseErr; rw [ht]
    exact ⟨_, rfl, Own.nil _ _ _ _, Ext.refl _⟩
  · unfold baseOf baseErr; rw [ht]
    exact ⟨_, rfl, hO, (Ext.refl _).alloc _⟩

theorem idx_step_yes {p : Nat → Bool} {k : Nat} (h : p k = true) : lastUpTo p (k + 1) = some k := by simp [lastUpTo, h]
theorem idx_step_no {p : Nat → Bool} {k : Nat} (h : p k = false) : lastUpTo p (k + 1) = lastUpTo p k := by simp [lastUpTo, h]


/-- What Find gives: an index, and an error. -/
def findIx (l : List Item) (tag : Int) (write : Bool) : Int := if okS l then ((findAt l tag write).getD 0 : Nat) else 0
def findErr (l : List Item) (tag : Int) (write : Bool) : Int := if okS l then (if (findAt l tag write).isSome then 0 else 6) else 8


end Go.Proofs.YtkbocenpkdaogaaDoor
