/- Contracts: the helpers of the statements of layer 28. -/
import Derived.Test.YtcndhbkbbmgeeaaItemsG
import Derived.Test.YtcndhbkbbmgeeaaItemsF
import Derived.Test.YtcndhbkbbmgeeaaItemsP
namespace Go.Proofs.Ytcndhbkbbmgeeaa
set_option maxRecDepth 100000
open Go.RowKit

def findsB (l : List Item) (tag : Int) (write : Bool) (want : Int) : Bool :=
  if want < 0 then findErr l tag write == 6 && findIx l tag write == 0 else findErr l tag write == 0 && findIx l tag write == want

set_option maxHeartbeats 800000 in
theorem law28_finds {l : List Item} {v : Value} {w : World} (tag : Int) (write : Bool) (want : Int) (hl : Its w v l) :
    Calls Try.prog 17 #[v, .int .i64 tag, .bool write, .int .i64 want] w fun e w' => e = .returned (.bool (findsB l tag write want)) ∧ Ext w w' := by
  have hF := Lib.hid (items_Find tag write hl)
  obtain ⟨n, hn⟩ : ∃ n, findIx l tag write = n := ⟨_, rfl⟩
  obtain ⟨m, hm⟩ : ∃ m, findErr l tag write = m := ⟨_, rfl⟩
  have hN := Lib.hid hn; have hM := Lib.hid hm
  clear hn hm hl
  by_cases hw : want < 0
  · cases e1 : m == 6 <;> cases e2 : n == 0
    all_goals
      go_enter Try.func17, Try.ntmps17
      go_wp2_with fail
      refine hF.out.mono ?_
      rintro e w1 ⟨rfl, hE⟩
      rw [hN.out, hM.out]
      go_wp2
      go_ret
      exact ⟨by unfold findsB; rw [if_pos hw, hN.out, hM.out, e1, e2]; rfl, hE⟩
  · cases e1 : m == 0 <;> cases e2 : n == want
    all_goals
      go_enter Try.func17, Try.ntmps17
      go_wp2_with fail
      refine hF.out.mono ?_
      rintro e w1 ⟨rfl, hE⟩
      rw [hN.out, hM.out]
      go_wp2
      go_ret
      exact ⟨by unfold findsB; rw [if_neg (by omega), hN.out, hM.out, e1, e2]; rfl, hE⟩

def exam28 : List Item := [⟨1, 3, 0⟩, ⟨4, 3, 0⟩, ⟨3, 4, 0⟩]

set_option maxHeartbeats 400000 in
theorem law28_example (w : World) : Calls Try.prog 12 #[] w (RetL 25 w exam28) := by
  have hO := Own.lit (B := w.heap.size) (e := 25) (k := 3) w #[.int .u8 1, .int .i64 3, .int .i64 0, .int .u8 4, .int .i64 3, .int .i64 0, .int .u8 3, .int .i64 4, .int .i64 0] 3 (Nat.le_refl _) (by simp [maxLen]) rfl
  go_enter Try.func12, Try.ntmps12
  go_wp2
  go_ret
  exact ⟨_, rfl, hO, (Ext.refl _).alloc _⟩

set_option maxHeartbeats 800000 in
theorem law28_alive (w : World) : Calls Try.prog 14 #[] w fun e w' => e = .returned (.bool true) ∧ Ext w w' := by
  have h1 := Lib.hid (show findsB exam28 3 false 1 = true by decide)
  have h2 := Lib.hid (show findsB exam28 3 true 0 = true by decide)
  have h3 := Lib.hid (show findsB exam28 5 false (-1) = true by decide)
  have h4 := Lib.hid (show findsB exam28 4 true 2 = true by decide)
  have hF0 := Ext.refl w
  go_enter Try.func14, Try.ntmps14
  go_wp2_with fail
  refine (law28_example _).mono ?_
  rintro e w1 ⟨vx0, rfl, hvx0, hE1⟩
  have hF1 := hF0.trans hE1
  go_wp2_with fail
  refine (law28_finds 3 false 1 hvx0.sl).mono ?_
  rintro e w2 ⟨rfl, hE2⟩
  have hF2 := hF1.trans hE2
  rw [h1.out]
  go_wp2_with fail
  refine (law28_example _).mono ?_
  rintro e w3 ⟨vx1, rfl, hvx1, hE3⟩
  have hF3 := hF2.trans hE3
  go_wp2_with fail
  refine (law28_finds 3 true 0 hvx1.sl).mono ?_
  rintro e w4 ⟨rfl, hE4⟩
  have hF4 := hF3.trans hE4
  rw [h2.out]
  go_wp2_with fail
  refine (law28_example _).mono ?_
  rintro e w5 ⟨vx2, rfl, hvx2, hE5⟩
  have hF5 := hF4.trans hE5
  go_wp2_with fail
  refine (law28_finds 5 false (-1) hvx2.sl).mono ?_
  rintro e w6 ⟨rfl, hE6⟩
  have hF6 := hF5.trans hE6
  rw [h3.out]
  go_wp2_with fail
  refine (law28_example _).mono ?_
  rintro e w7 ⟨vx3, rfl, hvx3, hE7⟩
  have hF7 := hF6.trans hE7
  go_wp2_with fail
  refine (law28_finds 4 true 2 hvx3.sl).mono ?_
  rintro e w8 ⟨rfl, hE8⟩
  have hF8 := hF7.trans hE8
  rw [h4.out]
  go_wp2
  go_ret
  exact ⟨rfl, hF8⟩

end Go.Proofs.Ytcndhbkbbmgeeaa
