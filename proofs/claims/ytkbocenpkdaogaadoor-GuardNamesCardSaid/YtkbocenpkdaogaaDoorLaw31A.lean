/- Contracts: the helpers of the statements of layer 31 that use layer 30. (printed by gen/law31b.py) -/
import Derived.Test.YtkbocenpkdaogaaDoorGrdG
namespace Go.Proofs.YtkbocenpkdaogaaDoor
set_option maxRecDepth 100000
open Go.RowKit

def ex31 : List Item := [⟨1, 1, 0⟩, ⟨1, 2, 5⟩]
theorem ex31_a : useR ex31 1 true [5] = ([], 2, 0) := by decide
theorem ex31_b : useR ex31 1 true [4] = ([⟨1, 1, 0⟩], 0, 0) := by decide
/-- A literal slice of numbers reads as its numbers. -/
theorem Nts.litl (w : World) (cs : Array Value) (l : List Int) (n b : Nat) (hb : w.heap.size = b) (hn : l.length = n) (hm : n ≤ maxLen) (hc : cs.toList = l.flatMap irow) : Nts (w.alloc (.cells cs 3)) (.slice (some ⟨b, 0, none⟩) n n) l := by
  subst hn hb
  have hs : cs.size = l.length * 1 := by
    have := congrArg List.length hc
    rw [rows_len irow irow_len] at this
    simpa using this
  have := (Own.lit (B := 0) (e := 3) (k := 1) w cs l.length (Nat.zero_le _) hm hs).sl
  rw [hc] at this
  exact this

set_option maxHeartbeats 400000 in
theorem law31_example (w : World) : Calls Tryd.prog 21 #[] w (RetL 23 w ex31) := by
  have hO := Own.lit (B := w.heap.size) (e := 23) (k := 3) w #[.int .u8 1, .int .i64 1, .int .i64 0, .int .u8 1, .int .i64 2, .int .i64 5] 2 (Nat.le_refl _) (by simp [maxLen]) rfl
  go_enter Tryd.func21, Tryd.ntmps21
  go_wp2
  go_ret
  exact ⟨_, rfl, hO, (Ext.refl _).alloc _⟩

set_option maxHeartbeats 1600000 in
set_option maxRecDepth 100000 in
theorem law31_aliveO (w : World) : Calls Tryd.prog 22 #[] w fun e w' => e = .returned (.bool true) ∧ Ext w w' := by
  go_enter Tryd.func22, Tryd.ntmps22
  go_wp2_with fail
  refine (law31_example _).mono ?_
  rintro e w1 ⟨vx, rfl, hvx, hE1⟩
  have hX : Its w1 vx ex31 := hvx.sl
  clear hvx
  obtain ⟨a1, c1, rfl, -⟩ := hX.form
  go_wp2_with fail
  have hx1 : Ext w1 (w1.alloc (.cells #[.int .i64 5] 3)) := (Ext.refl _).alloc _
  refine (guard_WriteO (run := [5]) 1 (hX.ext hx1) (Nts.litl _ _ _ _ _ rfl rfl (by simp [maxLen]) rfl)).mono ?_
  rintro e w2 ⟨va, rfl, hva, hE2⟩
  have hF2 := (hE1.trans hx1).trans hE2
  rw [ex31_a] at hva
  rw [ex31_a]
  obtain ⟨a2, c2, rfl, -⟩ := hva.its.form
  replace hva := hva.its; clear hva hX
  dsimp only [List.length_nil]
  go_wp2_with fail
  refine (law31_example _).mono ?_
  rintro e w3 ⟨vy, rfl, hvy, hE3⟩
  have hF3 := hF2.trans hE3
  have hY : Its w3 vy ex31 := hvy.sl
  clear hvy
  obtain ⟨a3, c3, rfl, -⟩ := hY.form
  go_wp2_with fail
  have hx3 : Ext w3 (w3.alloc (.cells #[.int .i64 4] 3)) := (Ext.refl _).alloc _
  refine (guard_WriteO (run := [4]) 1 (hY.ext hx3) (Nts.litl _ _ _ _ _ rfl rfl (by simp [maxLen]) rfl)).mono ?_
  rintro e w4 ⟨vb, rfl, hvb, hE4⟩
  have hF4 := (hF3.trans hx3).trans hE4
  rw [ex31_b] at hvb
  rw [ex31_b]
  replace hvb := hvb.its; obtain ⟨a4, c4, rfl, -⟩ := hvb.form
  clear hY
  dsimp only
  go_wp2_with fail
  refine (law31_example _).mono ?_
  rintro e w5 ⟨vz, rfl, hvz, hE5⟩
  have hF5 := hF4.trans hE5
  have hZ : Its w5 vz ex31 := hvz.sl
  clear hvz
  obtain ⟨a5, c5, rfl, hc5, -⟩ := hZ.form
  have hz1 := hZ.take 1 (by decide)
  have hc6 : 1 ≤ c5 := Nat.le_trans (by decide) hc5
  have hs1 := slice_upto_Stack a5 ex31 c5 1 1 rfl hc6
  go_wp2_with fail
  refine (ref28_Same_yes (hvb.ext hE5) hz1).mono ?_
  rintro e w6 ⟨rfl, hE6⟩
  go_wp2
  go_ret
  exact ⟨rfl, hF5.trans hE6⟩


/-- An access by its number: 0 reads, 5 writes, each other one retags with this kind, an item of the tag 9. -/
def doR (l : List Item) (what tag : Int) (run : List Int) : List Item × Int × Int := if what = 0 then useR l tag false run else if what = 5 then useR l tag true run else tagR l what tag ⟨0, 9, 0⟩ run


end Go.Proofs.YtkbocenpkdaogaaDoor
