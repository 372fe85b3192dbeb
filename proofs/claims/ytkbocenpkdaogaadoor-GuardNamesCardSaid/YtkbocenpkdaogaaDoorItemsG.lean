/- Contracts: items.Find, which ranges over slices.Backward. -/
import Derived.RangeFuncNested
import Derived.RangeFuncBound
import Derived.RangeFuncCalls
import Derived.RangeFuncLeaves
import Derived.RangeFuncBox
import Derived.Shelf.Abstract
import Derived.Shelf.RegionOpen
import Derived.OwnWalkIn
import Derived.TacticsInMore
import Derived.LoopNIn
import Derived.LoopIn
import Derived.Laws.EntriesVeiled
import Derived.Test.YtkbocenpkdaogaaDoorItemsE
namespace Go.Proofs.YtkbocenpkdaogaaDoor
set_option maxRecDepth 100000
open Go.RowKit Go.Shelf

attribute [local go_sem] Oper.semAt_some

/-- What has come when k rounds are over. -/
def upto {α : Type} (f : Nat → α) (k : Nat) : List α := (List.range k).map f
theorem upto_succ {α : Type} (f : Nat → α) (k : Nat) : upto f (k + 1) = upto f k ++ [f k] := by simp [upto, List.range_succ]
theorem upto_length {α : Type} (f : Nat → α) (k : Nat) : (upto f k).length = k := by simp [upto]

/-- The index and the item that come in round j, from the top down. -/
def back (l : List Item) (j : Nat) : Nat × Item := (l.length - 1 - j, (l[l.length - 1 - j]?).getD ⟨0, 0, 0⟩)

theorem lastUpTo_none {p : Nat → Bool} {n : Nat} (h : ∀ j, j < n → p j = false) : lastUpTo p n = none := by
  induction n with
  | zero => rfl
  | succ n ih => rw [idx_step_no (h n (by omega))]; exact ih fun j hj => h j (by omega)
theorem lastUpTo_some {p : Nat → Bool} {n i : Nat} (hi : i < n) (hp : p i = true) (h : ∀ j, i < j → j < n → p j = false) : lastUpTo p n = some i := by
  induction n with
  | zero => omega
  | succ n ih =>
    by_cases e : i = n
    · subst e; exact idx_step_yes hp
    · rw [idx_step_no (h n (by omega) (by omega))]; exact ih (by omega) fun j h1 h2 => h j h1 (by omega)

theorem back_item (l : List Item) (j : Nat) (hj : j < l.length) : l[l.length - 1 - j]? = some (back l j).2 := by
  unfold back
  rw [List.getElem?_eq_getElem (by omega)]
  rfl
theorem find_none {l : List Item} {tag : Int} {write : Bool} (h : ∀ x ∈ upto (back l) l.length, grants tag write x.2 = false) : findAt l tag write = none := by
  refine lastUpTo_none fun j hj => ?_
  have hb := back_item l (l.length - 1 - j) (by omega)
  rw [show l.length - 1 - (l.length - 1 - j) = j by omega] at hb
  rw [hb]
  exact h _ (List.mem_map.2 ⟨l.length - 1 - j, List.mem_range.2 (by omega), rfl⟩)
theorem find_some {l : List Item} {tag : Int} {write : Bool} {k : Nat} (hk : k < l.length) (h : ∀ x ∈ upto (back l) k, grants tag write x.2 = false) (hx : grants tag write (back l k).2 = true) : findAt l tag write = some (l.length - 1 - k) := by
  refine lastUpTo_some (by omega) (by rw [back_item l k hk]; exact hx) fun j h1 h2 => ?_
  have hb := back_item l (l.length - 1 - j) (by omega)
  rw [show l.length - 1 - (l.length - 1 - j) = j by omega] at hb
  rw [hb]
  exact h _ (List.mem_map.2 ⟨l.length - 1 - j, List.mem_range.2 (by omega), rfl⟩)

theorem boxedExt {W W' : World} {B : Nat} {t : TypeId} {v : Value} (h : Boxed W B t v) (hE : Ext W W') : Boxed W' B t v := (hE.blk h.lt).trans h
theorem KeepsOthers.of_ext {W W' : World} (hE : Ext W W') : KeepsOthers W W' := ⟨hE.size, fun _ _ h _ => (hE.blk (Array.getElem?_eq_some_iff.1 h).1).trans h⟩

set_option maxHeartbeats 400000 in
theorem items_Find1 (x : Item) (tag : Int) (write : Bool) (b1 b2 : Nat) (w : World) (h1 : w.cell? ⟨b1, 0, none⟩ = some (.int .i64 tag)) (h2 : w.cell? ⟨b2, 0, none⟩ = some (.bool write)) :
    Calls Tryd.prog 71 #[x.val, .pointer (some ⟨b1, 0, none⟩), .pointer (some ⟨b2, 0, none⟩)] w fun e w' => e = .returned (.bool (grants tag write x)) ∧ Ext w w' := by
  obtain ⟨p, t, c⟩ := x
  have hE := (Ext.refl w).alloc (.cells #[.int .u8 p, .int .i64 t, .int .i64 c] 23)
  have g1 := hE.cell h1
  have g2 := hE.cell h2
  clear h1 h2
  unfold Item.val
  cases e1 : t == tag <;> cases write <;> cases e3 : p == 4
  all_goals
    go_enter Tryd.func71, Tryd.ntmps71
    go_wp2
    go_ret
    exact ⟨by unfold grants; rw [e1, e3]; rfl, hE⟩

set_option maxHeartbeats 1000000 in
theorem backward_in (F : Fence) (n : Nat) (h5 : F.fn 72) (hro : F.round = none) (a : Option Addr) (len cap : Nat) (w : World) :
    CallsIn F n Tryd.prog 72 #[.slice a len cap] w fun e w' => e = .returned (.func (.func 80) #[] #[.pointer (some ⟨w.heap.size, 0, none⟩)]) ∧ w' = w.alloc (.cells #[.slice a len cap] 31) := by
  refine callsIn_of_wp Tryd.func72 rfl h5 ?_ hro
  simp only [Tryd.ntmps72, List.size_toArray, List.length_cons, List.length_nil, Nat.reduceAdd, Nat.reduceSub, Array.replicate_succ, Array.replicate_zero, List.push_toArray, List.append_toArray, List.nil_append, List.cons_append]
  gi_wp2
  go_ret
  exact ⟨rfl, rfl⟩

set_option maxRecDepth 100000 in
set_option maxHeartbeats 2000000 in
theorem backward1_in (F : Fence) (n : Nat) (h7 : F.fn 80) (hro : F.round = none) (hn : 1 ≤ n) (lp Bs n₀ : Nat) (a : Option Addr) (cap : Nat) (l : List Item) (hm : l.length ≤ 1000000) (w0 : World) (hl : Its w0 (.slice a l.length cap) l) (hn₀ : w0.heap.size ≤ n₀) (J Jx : List (Nat × Item) → World → Prop)
    (hY : ∀ pre x W, J pre W → pre.length < l.length → YieldAt F (n - 1) Tryd.prog lp #[.int .i64 (x.1 : Int), .agg #[.int .u8 x.2.p, .int .i64 x.2.t, .int .i64 x.2.c]] W fun e W' =>
      (e = .returned (.bool true) ∧ J (pre ++ [x]) W' ∧ Below n₀ W W') ∨ (e = .returned (.bool false) ∧ Jx (pre ++ [x]) W'))
    (W : World) (hBs : W.cell? ⟨Bs, 0, none⟩ = some (.slice a l.length cap)) (hBn : Bs < n₀) (hW : Ext w0 W) (h0 : J [] W) :
    CallsIn F n Tryd.prog 80 #[.func (.yield lp) #[] #[], .pointer (some ⟨Bs, 0, none⟩)] W fun e W' => (∃ v, e = .returned v) ∧
      ((∃ ys, ys = upto (back l) l.length ∧ J ys W') ∨ (∃ pre, (∃ k, k ≤ l.length ∧ pre = upto (back l) k) ∧ Jx pre W')) := by
  refine callsIn_of_wp Tryd.func80 rfl h7 ?_ hro
  simp only [Tryd.ntmps80, List.size_toArray, List.length_cons, List.length_nil, Nat.reduceAdd, Nat.reduceSub, Array.replicate_succ, Array.replicate_zero, List.push_toArray, List.append_toArray, List.nil_append, List.cons_append]
  gi_wp2
  gi_loopw [3] (fun i wr => ∃ k : Nat, k ≤ l.length ∧ i = .int .i64 ((l.length : Int) - 1 - k) ∧ J (upto (back l) k) wr ∧ Below n₀ W wr)
    (fun i _ => ((intOf i) + 1).toNat)
  case atStart => exact ⟨0, Nat.zero_le _, by simp, h0, Below.refl _ _⟩
  case round =>
    obtain ⟨k, hk, rfl, hJs, hnx⟩ := hrel
    have hE : Ext w0 wr := Below.trans hW (Below.mono hnx hn₀)
    have hbs := (Below.cell hnx (p := ⟨Bs, 0, none⟩) hBn).trans hBs
    by_cases hlt : k < l.length
    · obtain ⟨j, hj⟩ : ∃ j : Nat, (l.length : Int) - 1 - k = j := ⟨l.length - 1 - k, by omega⟩
      have hjl : j < l.length := by omega
      obtain ⟨x, hx⟩ : ∃ x, l[j]? = some x := ⟨l[j], by simp [hjl]⟩
      have hb : back l k = (j, x) := by unfold back; rw [show l.length - 1 - k = j by omega, hx]; rfl
      obtain ⟨b, off, rfl, hbb, c0, c1, c2⟩ := (hl.ext hE).cell hx
      obtain ⟨fn, tmps, assign, body, hy, hR⟩ := hY _ (j, x) wr hJs (by rw [upto_length]; exact hlt)
      dsimp only at hy
      rw [hj]
      have hX := Lib.hid hx
      have hB := Lib.hid hb
      have hJ := Lib.hid hj
      clear hx hb hj
      gi_wp2
      refine hR.mono ?_
      rintro e W3 (⟨rfl, hJ3, hk3⟩ | ⟨rfl, hJx3⟩)
      · gi_wp2
        go_roundw
        case rel => exact ⟨k + 1, by omega, by have := hJ.out; first | (congr 1; done) | (congr 1; omega), by rw [upto_succ, hB.out]; exact hJ3, hnx.trans hk3⟩
        case measure => simp [intOf] <;> omega
      · gi_wp2
        refine bodyPost_ret (results_none rfl _ _ _) rfl ?_
        exact ⟨⟨_, rfl⟩, .inr ⟨_, ⟨k + 1, by omega, by rw [upto_succ, hB.out]⟩, hJx3⟩⟩
    · obtain rfl : k = l.length := by omega
      gi_wp2
      go_end0
      exact ⟨⟨_, rfl⟩, .inl ⟨_, rfl, hJs⟩⟩

theorem backward_stops (F : Fence) (n : Nat) (h7 : F.fn 80) (hro : F.round = none) (hn : 1 ≤ n) (Bs n₀ : Nat) (a : Option Addr) (cap : Nat) (l : List Item) (hm : l.length ≤ 1000000) (w0 w : World) (hl : Its w0 (.slice a l.length cap) l) (hw : Ext w0 w) (hn₀ : w0.heap.size ≤ n₀) (hBs : Bs < n₀) (hn1 : n₀ ≤ w.heap.size)
    (hc : w.cell? ⟨Bs, 0, none⟩ = some (.slice a l.length cap)) :
    SeqStopsK F n Tryd.prog 80 #[.pointer (some ⟨Bs, 0, none⟩)] (fun x : Nat × Item => #[Value.int .i64 (x.1 : Int), .agg #[.int .u8 x.2.p, .int .i64 x.2.t, .int .i64 x.2.c]]) (Below n₀) (fun ys => ys = upto (back l) l.length)
      (fun pre => ∃ k, k ≤ l.length ∧ pre = upto (back l) k) l.length w := fun lp J Jx W hW _ _ hY h0 =>
  backward1_in F n h7 hro hn lp Bs n₀ a cap l hm w0 hl hn₀ J Jx hY W ((Below.cell hW (p := ⟨Bs, 0, none⟩) (Nat.lt_of_lt_of_le hBs hn1)).trans hc) hBs (hw.trans hW) h0

set_option maxRecDepth 100000 in
set_option maxHeartbeats 2000000 in
theorem items_Find_in (l : List Item) (a : Option Addr) (cap : Nat) (tag : Int) (write : Bool) (w : World) (hl : Its w (.slice a l.length cap) l) (hk : okS l = true) :
    CallsIn Fence.wide 10 Tryd.prog 50 #[.slice a l.length cap, .int .i64 tag, .bool write] w fun e w' => e = .returned (.tuple #[.int .i64 (findIx l tag write), .int .i64 (findErr l tag write)]) ∧ Ext w w' := by
  have hE4 := ((((Ext.refl w).alloc (.cells #[.int .i64 tag] 3)).alloc (.cells #[.bool write] 4)).alloc (.cells #[.int .i64 0] 3)).alloc (.cells #[.int .i64 0] 25)
  have hC := Lib.hid (items_Check (hl.ext hE4))
  have h0 : Hid (chk l = 0) := Hid.mk (by simp [chk, hk])
  have hmf : ∀ (fn : Fn) (first cap : Array Value) (w : World), (Instr.makeFunc fn first cap).run Tryd.prog w = .ok (.func fn first cap) w := fun _ _ _ _ => rfl
  refine callsIn_of_wp_marks Tryd.func50 rfl trivial ?_ rfl
  simp only [Tryd.ntmps50, List.size_toArray, List.length_cons, List.length_nil, Nat.reduceAdd, Nat.reduceSub, Array.replicate_succ, Array.replicate_zero, List.push_toArray, List.append_toArray, List.nil_append, List.cons_append]
  gi_wp2_with (first | (refine ⟨trivial, ?_⟩; gi_at_call 42; refine (callsIn_wide.2 hC.out).mono ?_; rintro e w5 ⟨rfl, hE5⟩; rw [h0.out]) | (refine ⟨trivial, ?_⟩; gi_at_call 72; refine (backward_in Fence.wide _ trivial rfl _ _ _ _).mono ?_; rintro e w' ⟨rfl, rfl⟩))
  have bT := (((Boxed.new w 3 (.int .i64 tag)).alloc (.cells #[.bool write] 4)).alloc (.cells #[.int .i64 0] 3)).alloc (.cells #[.int .i64 0] 25)
  have bW := ((Boxed.new (w.alloc (.cells #[.int .i64 tag] 3)) 4 (.bool write)).alloc (.cells #[.int .i64 0] 3)).alloc (.cells #[.int .i64 0] 25)
  have bR := (Boxed.new ((w.alloc (.cells #[.int .i64 tag] 3)).alloc (.cells #[.bool write] 4)) 3 (.int .i64 0)).alloc (.cells #[.int .i64 0] 25)
  have bE := Boxed.new (((w.alloc (.cells #[.int .i64 tag] 3)).alloc (.cells #[.bool write] 4)).alloc (.cells #[.int .i64 0] 3)) 25 (.int .i64 0)
  simp only [World.size_alloc] at bW bR bE
  have hs5 : w.heap.size + 4 ≤ w5.heap.size := by have := hE5.size; simp at this; omega
  obtain ⟨fv, hfv⟩ : ∃ fv, Value.func (Fn.func 71) #[] #[Value.pointer (some ⟨w.heap.size, 0, none⟩), Value.pointer (some ⟨w.heap.size + 1, 0, none⟩)] = fv := ⟨_, rfl⟩
  have bF := (Boxed.new w5 92 fv).alloc (.cells #[.slice a l.length cap] 31)
  have bS := Boxed.new (w5.alloc (.cells #[fv] 92)) 31 (.slice a l.length cap)
  rw [World.size_alloc] at bS
  have hE7 := (hE5.alloc (.cells #[fv] 92)).alloc (.cells #[.slice a l.length cap] 31)
  have hE8 := hE4.trans hE7
  have hsz : ((w5.alloc (.cells #[fv] 92)).alloc (.cells #[.slice a l.length cap] 31)).heap.size = w5.heap.size + 2 := by simp
  have bT := boxedExt bT hE7; have bW := boxedExt bW hE7; have bR := boxedExt bR hE7; have bE := boxedExt bE hE7
  have hFv := Lib.hid hfv
  rw [hfv]
  clear hfv
  obtain ⟨W0, hW0⟩ : ∃ W0, (w5.alloc (.cells #[fv] 92)).alloc (.cells #[.slice a l.length cap] 31) = W0 := ⟨_, rfl⟩
  rw [hW0] at bT bW bR bE bF bS hE8 hsz ⊢
  clear hW0 hE7
  have hlen : l.length ≤ 600 := by simp [okS] at hk; omega
  refine wpIn_rangeFunc_ownH rfl (by omega) (gf := 80) (lb := #[.pointer (some ⟨w5.heap.size + 1, 0, none⟩)]) rfl trivial (enters_of Tryd.func80 (by kernel_rfl) rfl) (backward_stops Fence.wide _ trivial rfl (by omega) (w5.heap.size + 1) W0.heap.size a cap l (by omega) w W0 hl hE8 hE8.size (by omega) (Nat.le_refl _) bS.cell) belowK_t (belowK_b (by omega)) (Below.refl _ _) (fun _ => rfl) (fun pre W => (((Boxed W w.heap.size 3 (.int .i64 tag) ∧ Boxed W (w.heap.size + 1) 4 (.bool write)) ∧ (Boxed W (w.heap.size + 1 + 1) 3 (.int .i64 0) ∧ Boxed W (w.heap.size + 1 + 1 + 1) 25 (.int .i64 0))) ∧ Boxed W w5.heap.size 92 fv) ∧ ((∀ x ∈ pre, grants tag write x.2 = false) ∧ (W0.heap.size ≤ W.heap.size ∧ Below w.heap.size w W))) (fun c pre W => (c = .ret ∧ ∃ ini last, pre = ini ++ [last] ∧ (∀ x ∈ ini, grants tag write x.2 = false) ∧ grants tag write last.2 = true ∧ W.cell? ⟨w.heap.size + 1 + 1, 0, none⟩ = some (.int .i64 (last.1 : Int)) ∧ W.cell? ⟨w.heap.size + 1 + 1 + 1, 0, none⟩ = some (.int .i64 0)) ∧ Below w.heap.size w W) (OwnFrom.and (OwnFrom.and (OwnFrom.and (OwnFrom.and (Go.Own.from (boxed_own _ _ _) _) (Go.Own.from (boxed_own _ _ _) _)) (OwnFrom.and (Go.Own.from (boxed_own _ _ _) _) (Go.Own.from (boxed_own _ _ _) _))) (Go.Own.from (boxed_own _ _ _) _)) (OwnFrom.and (ownFrom_pure _ _) (OwnFrom.and (fun s A B row hs hg hr => Nat.le_trans hs hg.size) (ownFrom_below (Nat.le_refl _) hE8.size)))) (fun c => OwnFrom.and (Go.Own.from (fun s A B row hs hg hr => by obtain ⟨hc, ini, last, e1, e2, e3, e4, e5⟩ := hs; exact ⟨hc, ini, last, e1, e2, e3, cell_kept e4 hg hr, cell_kept e5 hg hr⟩) _) (ownFrom_below (Nat.le_refl _) hE8.size)) ⟨⟨⟨⟨bT, bW⟩, bR, bE⟩, bF⟩, (fun _ h => by cases h), Nat.le_refl _, hE8⟩ (fun x a' W => ∃ Bx, w5.heap.size < Bx ∧ (W.cell? ⟨Bx, 0, none⟩ = some (.int .u8 x.2.p) ∧ W.cell? ⟨Bx, 1, none⟩ = some (.int .i64 x.2.t) ∧ W.cell? ⟨Bx, 2, none⟩ = some (.int .i64 x.2.c)) ∧ a' = { tmps := #[.slice a l.length cap, .int .i64 tag, .bool write, undef, .pointer (some ⟨w.heap.size, 0, none⟩), .pointer (some ⟨w.heap.size + 1, 0, none⟩), .pointer (some ⟨w.heap.size + 1 + 1, 0, none⟩), .pointer (some ⟨w.heap.size + 1 + 1 + 1, 0, none⟩), .int .i64 0, .pointer (some ⟨w5.heap.size, 0, none⟩), .int .i64 (x.1 : Int), .pointer (some ⟨Bx, 0, none⟩), .slice a l.length cap, .int .i64 0, .int .i64 0, .bool false, undef, fv, .slice a l.length cap, .func (.func 80) #[] #[.pointer (some ⟨w5.heap.size + 1, 0, none⟩)], .int .i64 (x.1 : Int), .agg #[.int .u8 x.2.p, .int .i64 x.2.t, .int .i64 x.2.c], undef, undef, undef, undef], defers := [] }) (fun x a' _ X Y row hs hg hr => by obtain ⟨Bx, h1, ⟨h2, h3, h4⟩, h5⟩ := hs; exact ⟨Bx, h1, ⟨cell_kept h2 hg (fun r e => (hr r e).2), cell_kept h3 hg (fun r e => (hr r e).2), cell_kept h4 hg (fun r e => (hr r e).2)⟩, h5⟩) ?assign ?body ?done ?stop
  case assign =>
    rintro lp pre x W K ⟨⟨⟨⟨bT, bW⟩, bR, bE⟩, bF⟩, hN, hBW, hB⟩ hK
    have hN' := Lib.hid hN
    clear hN
    gi_wp2
    exact hK _ _ ((KeepsOthers.alloc _ _).from _) ((Below.refl _ W).alloc hBW _) ⟨⟨⟨⟨bT.alloc _, bW.alloc _⟩, bR.alloc _, bE.alloc _⟩, bF.alloc _⟩, hN'.out, by simp; omega, Below.alloc hB hB.size _⟩ ⟨W.heap.size, bF.lt, ⟨by simp, by simp, by simp⟩, rfl⟩
  case body =>
    rintro lp pre x a' W hl' _ ⟨⟨⟨⟨bT, bW⟩, bR, bE⟩, bF⟩, hN, hBW, hB⟩ ⟨Bx, hBx, ⟨x0, x1, x2⟩, rfl⟩ hlt
    have hN' := Lib.hid hN
    clear hN
    have cF := bF.cell
    rw [← hFv.out] at cF
    have hFind := Lib.hid (items_Find1 x.2 tag write w.heap.size (w.heap.size + 1) W bT.cell bW.cell)
    unfold Item.val at hFind
    cases hg : grants tag write x.2
    all_goals
      have hG := Lib.hid hg
      clear hg
      gi_wp2_with (refine ⟨trivial, ?_⟩; gi_at_call 71; refine (CallsIn.inRound lp (callsIn_wide.2 hFind.out)).mono ?_; rintro e W1 ⟨rfl, hE1⟩; rw [hG.out]; have bR1 := boxedExt bR hE1; have bE1 := boxedExt bE hE1; have cR := bR1.cell; have fR := bR1.frozen; have cE := bE1.cell; have fE := bE1.frozen)
    · exact ⟨(KeepsOthers.of_ext hE1).from _, Below.mono hE1 hBW, ⟨⟨⟨boxedExt bT hE1, boxedExt bW hE1⟩, bR1, bE1⟩, boxedExt bF hE1⟩, fun y hy => (List.mem_append.1 hy).elim (hN'.out y) (fun e => by simp at e; subst e; exact hG.out), Nat.le_trans hBW hE1.size, Ext.below hB hB.size hE1⟩
    · refine ⟨(((KeepsOthers.of_ext hE1).trans (KeepsOthers.setCell _ _ _)).trans (KeepsOthers.setCell _ _ _)).from _, ⟨rfl, pre, x, rfl, hN'.out, hG.out, ?_, ?_⟩, ?_⟩
      · exact ((bR1.set (.int .i64 (x.1 : Int))).other (B' := w.heap.size + 1 + 1 + 1) (by omega) (.int .i64 0)).cell
      · exact ((bE1.other (B' := w.heap.size + 1 + 1) (by omega) (.int .i64 (x.1 : Int))).set (.int .i64 0)).cell
      · exact Below.setCell (Below.setCell (Ext.below hB hB.size hE1) (by simp; omega) _) (by simp; omega) _
  case done =>
    rintro D ys W hD rfl ⟨⟨⟨⟨bT, bW⟩, bR, bE⟩, bF⟩, hN, hBW, hB⟩ hK
    have hF := Lib.hid (find_none hN)
    clear hN
    have cR := bR.cell; have fR := bR.frozen; have cE := bE.cell; have fE := bE.frozen
    gi_wp2
    have bR2 := (bR.set (.int .i64 0)).other (B' := w.heap.size + 1 + 1 + 1) (by omega) (.int .i64 6)
    have bE2 := (bE.other (B' := w.heap.size + 1 + 1) (by omega) (.int .i64 0)).set (.int .i64 6)
    have hB2 := Below.setCell (Below.setCell hB (p := ⟨w.heap.size + 1 + 1, 0, none⟩) (by simp; omega) (.int .i64 0)) (p := ⟨w.heap.size + 1 + 1 + 1, 0, none⟩) (by simp; omega) (.int .i64 6)
    have hK' := ((KeepsOthers.setCell W ⟨w.heap.size + 1 + 1, 0, none⟩ (.int .i64 0)).trans (KeepsOthers.setCell _ ⟨w.heap.size + 1 + 1 + 1, 0, none⟩ (.int .i64 6))).same D _ hK rfl
    refine ⟨by simp, .inl ⟨_, _, rfl, run_takeDeferred hK', ?_⟩⟩
    have hc5 := cell_kept bR2.cell (grownBy_putObj' _ D (.deferred none)) (fun r e => by cases e; exact ⟨_, hK', rfl⟩)
    have hc6 := cell_kept bE2.cell (grownBy_putObj' _ D (.deferred none)) (fun r e => by cases e; exact ⟨_, hK', rfl⟩)
    refine ⟨.tuple #[.int .i64 0, .int .i64 6], ?_, by simp [findIx, findErr, hk, hF.out], hB2.trans (belowK_b (w := w) (Nat.le_refl _) _ D _ _ (by have := hE8.size; omega) hK' rfl rfl)⟩
    simp [results, Tryd.f50, go_sem, hc5, hc6]
  case stop =>
    rintro D c pre W hD ⟨k, hk', rfl⟩ ⟨⟨rfl, ini, last, e1, e2, e3, c5, c6⟩, hB⟩ hK
    obtain ⟨k', rfl⟩ : ∃ k', k = k' + 1 := by
      cases k with
      | zero => simp [upto] at e1
      | succ k' => exact ⟨k', rfl⟩
    rw [upto_succ] at e1
    obtain ⟨rfl, e5⟩ := List.append_inj' e1 rfl
    obtain rfl : back l k' = last := by simpa using e5
    have hF := Lib.hid (find_some (by omega) e2 e3)
    clear e1 e2 e3 e5
    gi_wp2
    refine ⟨by simp, .inl ⟨_, _, rfl, run_takeDeferred hK, ?_⟩⟩
    have hc5 := cell_kept c5 (grownBy_putObj' _ D (.deferred none)) (fun r e => by cases e; exact ⟨_, hK, rfl⟩)
    have hc6 := cell_kept c6 (grownBy_putObj' _ D (.deferred none)) (fun r e => by cases e; exact ⟨_, hK, rfl⟩)
    refine ⟨.tuple #[.int .i64 ((l.length - 1 - k' : Nat) : Int), .int .i64 0], ?_, by simp [findIx, findErr, hk, hF.out], hB.trans (belowK_b (w := w) (Nat.le_refl _) _ D _ _ (by have := hE8.size; omega) hK rfl rfl)⟩
    simp [results, Tryd.f50, go_sem, hc5, hc6, back]

set_option maxHeartbeats 400000 in
theorem items_Find {l : List Item} {v : Value} {w : World} (tag : Int) (write : Bool) (hl : Its w v l) :
    Calls Tryd.prog 50 #[v, .int .i64 tag, .bool write] w fun e w' => e = .returned (.tuple #[.int .i64 (findIx l tag write), .int .i64 (findErr l tag write)]) ∧ Ext w w' := by
  obtain ⟨a, cp, rfl, -⟩ := hl.form
  by_cases hk : okS l = true
  · exact (callsIn_wide (n := 10)).1 (items_Find_in l a cp tag write w hl hk)
  · have hE4 := ((((Ext.refl w).alloc (.cells #[.int .i64 tag] 3)).alloc (.cells #[.bool write] 4)).alloc (.cells #[.int .i64 0] 3)).alloc (.cells #[.int .i64 0] 25)
    have hC := Lib.hid (items_Check (hl.ext hE4))
    have h8 : Hid (chk l = 8) := Hid.mk (by simp [chk, hk])
    have hF : Hid (findIx l tag write = 0 ∧ findErr l tag write = 8) := Hid.mk (by simp [findIx, findErr, hk])
    have bR := (Boxed.new ((w.alloc (.cells #[.int .i64 tag] 3)).alloc (.cells #[.bool write] 4)) 3 (.int .i64 0)).alloc (.cells #[.int .i64 0] 25)
    have bE := Boxed.new (((w.alloc (.cells #[.int .i64 tag] 3)).alloc (.cells #[.bool write] 4)).alloc (.cells #[.int .i64 0] 3)) 25 (.int .i64 0)
    simp only [World.size_alloc] at bR bE
    clear hk hl
    go_enter Tryd.func50, Tryd.ntmps50
    go_wp2_with (go_at_call 42; refine hC.out.mono ?_; rintro e w5 ⟨rfl, hE5⟩; rw [h8.out]; have bR1 := boxedExt bR hE5; have bE1 := boxedExt bE hE5; have cR := bR1.cell; have fR := bR1.frozen; have cE := bE1.cell; have fE := bE1.frozen)
    have bR2 := (bR1.set (.int .i64 0)).other (B' := w.heap.size + 1 + 1 + 1) (by omega) (.int .i64 8)
    have bE2 := (bE1.other (B' := w.heap.size + 1 + 1) (by omega) (.int .i64 0)).set (.int .i64 8)
    have hB2 := Below.setCell (Below.setCell (hE4.trans hE5) (p := ⟨w.heap.size + 1 + 1, 0, none⟩) (by simp; omega) (.int .i64 0)) (p := ⟨w.heap.size + 1 + 1 + 1, 0, none⟩) (by simp; omega) (.int .i64 8)
    refine bodyPost_ret (v := .tuple #[.int .i64 0, .int .i64 8]) (by simp [results, Tryd.f50, go_sem, bR2.cell, bE2.cell]) rfl ⟨by rw [hF.out.1, hF.out.2], hB2⟩

end Go.Proofs.YtkbocenpkdaogaaDoor
