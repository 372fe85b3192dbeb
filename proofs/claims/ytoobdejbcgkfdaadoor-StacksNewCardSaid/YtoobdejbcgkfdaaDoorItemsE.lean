/- Contracts: Base, and the reference's At and Find. -/
import Derived.Test.YtoobdejbcgkfdaaDoorItemsD
namespace Go.Proofs.YtoobdejbcgkfdaaDoor
set_option maxRecDepth 100000
open Go.RowKit

theorem Own.lit (w : World) {B : Nat} {e : TypeId} {k : Nat} (cs : Array Value) (n : Nat) (hB : B ≤ w.heap.size) (hm : n ≤ maxLen) (hs : cs.size = n * k) :
    Own (w.alloc (.cells cs e)) B e k (.slice (some ⟨w.heap.size, 0, none⟩) n n) n cs.toList := World.ownsRow_lit w cs n hB hm hs

/-- A literal slice of items reads as its items. -/
theorem Its.lit (w : World) (cs : Array Value) (l : List Item) (n b : Nat) (hb : w.heap.size = b) (hn : l.length = n) (hm : n ≤ maxLen) (hc : cs.toList = l.flatMap Item.row) : Its (w.alloc (.cells cs 23)) (.slice (some ⟨b, 0, none⟩) n n) l := by
  subst hn hb
  have hs : cs.size = l.length * 3 := by
    have := congrArg List.length hc
    rw [rows_len Item.row Item.row_len] at this
    simpa using this
  have := (Own.lit (B := 0) (e := 23) (k := 3) w cs l.length (Nat.zero_le _) hm hs).sl
  rw [hc] at this
  exact this

/-- What Base gives. -/
def baseOf (tag : Int) : List Item := if inB tag then [⟨1, tag, 0⟩] else []
def baseErr (tag : Int) : Int := if inB tag then 0 else 2


set_option maxHeartbeats 400000 in
theorem items_Base (tag : Int) (w : World) : Calls Tryd.prog 81 #[.int .i64 tag] w (RetLN 23 w (baseOf tag) (baseErr tag)) := by
  have hO := Own.lit (B := w.heap.size) (e := 23) (k := 3) w #[.int .u8 1, .int .i64 tag, .int .i64 0] 1 (Nat.le_refl _) (by simp [maxLen]) rfl
  cases ht : inB tag
  all_goals
    go_enter Tryd.func81, Tryd.ntmps81
    go_wp2_with (go_at_call 97; refine (items_in _ _).mono ?_; rintro e w' ⟨rfl, rfl⟩)
    go_ret2
  · unfold baseOf baseErr; rw [ht]
    exact ⟨_, rfl, Own.nil _ _ _ _, Ext.refl _⟩
  · unfold baseOf baseErr; rw [ht]
    exact ⟨_, rfl, hO, (Ext.refl _).alloc _⟩

theorem idx_step_yes {p : Nat → Bool} {k : Nat} (h : p k = true) : lastUpTo p (k + 1) = some k := by simp [lastUpTo, h]
theorem idx_step_no {p : Nat → Bool} {k : Nat} (h : p k = false) : lastUpTo p (k + 1) = lastUpTo p k := by simp [lastUpTo, h]

set_option maxHeartbeats 800000 in
theorem ref28_At {l : List Item} {v : Value} {w : World} (tag : Int) (write : Bool) (hl : Its w v l) :
    Calls Tryd.prog 43 #[v, .int .i64 tag, .bool write] w fun e w' => e = .returned (.int .i64 (idxOf (findAt l tag write))) ∧ w = w' := by
  obtain ⟨a, cp, rfl, hlc, hcm, -⟩ := hl.form
  unfold maxLen at hcm
  obtain ⟨p, hp⟩ : ∃ p : Nat → Bool, (fun i => (l[i]?).any (grants tag write)) = p := ⟨_, rfl⟩
  have hP := Lib.hid hp
  clear hp
  go_enter Tryd.func43, Tryd.ntmps43
  go_wp2
  go_loop [7, 8] (fun t i => ∃ k : Nat, k ≤ l.length ∧ i = .int .i64 k ∧ t = .int .i64 (idxOf (lastUpTo p k))) (fun _ i => l.length - (intOf i).toNat)
  case atStart => exact ⟨0, Nat.zero_le _, rfl, rfl⟩
  case round =>
    obtain ⟨k, hk, rfl, rfl⟩ := hrel
    by_cases hlt : k < l.length
    · obtain ⟨x, hx⟩ : ∃ x, l[k]? = some x := ⟨l[k], by simp [hlt]⟩
      obtain ⟨b, off, rfl, hb, c0, c1, c2⟩ := hl.cell hx
      have hpk : p k = grants tag write x := by rw [← hP.out]; simp [hx]
      have hX := Lib.hid hpk
      clear hpk hx
      cases e1 : x.t == tag <;> cases write <;> cases e3 : x.p == 4
      all_goals
        have e3' : (x.p != 4) = !(x.p == 4) := rfl
        rw [e3] at e3'
        have hg := hX.out
        unfold grants at hg
        rw [e1, e3] at hg
        have hG := Lib.hid hg
        clear hg
        go_wp2
        go_round
        case rel => exact ⟨k + 1, by omega, by go_num, by first | rw [idx_step_yes hG.out]; rfl | rw [idx_step_no hG.out]⟩
        case measure => simp [intOf]; omega
    · have hkl : k = l.length := by omega
      subst hkl
      go_wp2
      go_ret
      exact ⟨by rw [← hP.out]; rfl, rfl⟩

/-- What Find gives: an index, and an error. -/
def findIx (l : List Item) (tag : Int) (write : Bool) : Int := if okS l then ((findAt l tag write).getD 0 : Nat) else 0
def findErr (l : List Item) (tag : Int) (write : Bool) : Int := if okS l then (if (findAt l tag write).isSome then 0 else 6) else 8


end Go.Proofs.YtoobdejbcgkfdaaDoor
