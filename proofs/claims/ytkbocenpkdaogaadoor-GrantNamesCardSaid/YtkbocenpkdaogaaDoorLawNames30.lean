/- The statement GrantNames: the call returns true. Condition: the laid permissions. (printed by gen/names30.py) -/
import Derived.Test.YtkbocenpkdaogaaDoorNamG
import Derived.Test.YtkbocenpkdaogaaDoorReadI
import Derived.Test.YtkbocenpkdaogaaDoorClose
import Derived.Test.YtkbocenpkdaogaaDoorDoor
import Derived.Deep.DeepCutAuto
namespace Go.Proofs.YtkbocenpkdaogaaDoor
set_option maxRecDepth 100000
open Go.ChangeShapes Go.WideShapes Go.ChangeAt Go.RowKit

set_option maxRecDepth 100000 in
set_option maxHeartbeats 25600000 in
theorem grantNames_walk {w : World} (hp : Perms w) : Calls Tryd.prog 3 #[] w fun e w' => e = .returned (.bool true) ∧ Ext w w' := by
  obtain ⟨F, G, hFF, fl, d1, d2, d3, gl⟩ := data30
  replace hFF := Lib.hid hFF; replace fl := Lib.hid fl; replace d1 := Lib.hid d1; replace d2 := Lib.hid d2; replace d3 := Lib.hid d3; replace gl := Lib.hid gl
  go_enter Tryd.func3, Tryd.ntmps3
  go_wp2
  have b1 := Box.new w 23 #[.int .u8 1, .int .i64 1, .int .i64 0]
  have hsz : Hid ((World.alloc w (.cells #[.int .u8 1, .int .i64 1, .int .i64 0] 23)).heap.size = w.heap.size + 1) := Hid.mk (by simp)
  have hx0 : Ext w (World.alloc w (.cells #[.int .u8 1, .int .i64 1, .int .i64 0] 23)) := (Ext.refl _).alloc _
  obtain ⟨w0b, hw0⟩ : ∃ x, World.alloc w (.cells #[.int .u8 1, .int .i64 1, .int .i64 0] 23) = x := ⟨_, rfl⟩
  rw [hw0] at hsz b1 hx0 ⊢
  clear hw0
  replace hp := hp.ext hx0
  have hF0 := Ext.trans (Ext.refl w) hx0
  have hszp := hsz
  have bP := Box.new w0b 5 #[.int .u8 0, .int .u8 4, .int .u8 1, .int .u8 2, .int .u8 3, .int .u8 0]
  have hsz : Hid ((World.alloc w0b (.cells #[.int .u8 0, .int .u8 4, .int .u8 1, .int .u8 2, .int .u8 3, .int .u8 0] 5)).heap.size = w0b.heap.size + 1) := Hid.mk (by simp)
  have hx1 : Ext w0b (World.alloc w0b (.cells #[.int .u8 0, .int .u8 4, .int .u8 1, .int .u8 2, .int .u8 3, .int .u8 0] 5)) := (Ext.refl _).alloc _
  obtain ⟨w1b, hw1⟩ : ∃ x, World.alloc w0b (.cells #[.int .u8 0, .int .u8 4, .int .u8 1, .int .u8 2, .int .u8 3, .int .u8 0] 5) = x := ⟨_, rfl⟩
  rw [hw1] at hsz bP hx1 ⊢
  clear hw1
  replace hp := hp.ext hx1
  replace b1 := b1.ext hx1
  have hF1 := Ext.trans (hF0) hx1
  rw [hszp.out] at bP hsz
  clear hszp
  go_loopw [3] (fun kv wr => ∃ q : Int, 0 ≤ q ∧ q ≤ 6 ∧ kv = .int .u8 q ∧ Ext w1b wr) (fun kv _ => 6 - (intOf kv).toNat)
  case atStart => exact ⟨0, by omega, by omega, rfl, Ext.refl _⟩
  case round =>
    obtain ⟨q, hq0, hq6, rfl, hX⟩ := hrel
    replace hp := hp.ext hX; replace b1 := b1.ext hX; replace bP := bP.ext hX
    by_cases hlt : q < 6
    · obtain rfl | rfl | rfl | rfl | rfl | rfl : q = 0 ∨ q = 1 ∨ q = 2 ∨ q = 3 ∨ q = 4 ∨ q = 5 := by omega
      · have hsz : Hid (0 = 0) := Hid.mk rfl
        have b1_0 : World.cell? wr ⟨w.heap.size, 0, none⟩ = some (.int .u8 1) := b1.cell 0
        have b1_1 : World.cell? wr ⟨w.heap.size, 1, none⟩ = some (.int .i64 1) := b1.cell 1
        have b1_2 : World.cell? wr ⟨w.heap.size, 2, none⟩ = some (.int .i64 0) := b1.cell 2
        have b1_l := b1.lt
        have bP_0 : World.cell? wr ⟨w.heap.size + 1, 0, none⟩ = some (.int .u8 0) := bP.cell 0
        have bP_1 : World.cell? wr ⟨w.heap.size + 1, 1, none⟩ = some (.int .u8 4) := bP.cell 1
        have bP_2 : World.cell? wr ⟨w.heap.size + 1, 2, none⟩ = some (.int .u8 1) := bP.cell 2
        have bP_3 : World.cell? wr ⟨w.heap.size + 1, 3, none⟩ = some (.int .u8 2) := bP.cell 3
        have bP_4 : World.cell? wr ⟨w.heap.size + 1, 4, none⟩ = some (.int .u8 3) := bP.cell 4
        have bP_5 : World.cell? wr ⟨w.heap.size + 1, 5, none⟩ = some (.int .u8 0) := bP.cell 5
        have bP_l := bP.lt
        go_wp2_with fail
        clear b1_0 b1_1 b1_2 b1_l
        clear bP_0 bP_1 bP_2 bP_3 bP_4 bP_5 bP_l
        refine (grant_Perm (k := 0) (hp.ext (by repeat (first | exact Ext.refl _ | apply Ext.alloc | apply Ext.drew))) (by unfold u8B; decide)).mono ?_
        rintro e w101 ⟨rfl, rfl⟩
        rw [show permR 0 = 0 from by decide, show kindErr 0 = 2 from by decide]
        have b1_0 : World.cell? wr ⟨w.heap.size, 0, none⟩ = some (.int .u8 1) := b1.cell 0
        have b1_1 : World.cell? wr ⟨w.heap.size, 1, none⟩ = some (.int .i64 1) := b1.cell 1
        have b1_2 : World.cell? wr ⟨w.heap.size, 2, none⟩ = some (.int .i64 0) := b1.cell 2
        have b1_l := b1.lt
        have bP_0 : World.cell? wr ⟨w.heap.size + 1, 0, none⟩ = some (.int .u8 0) := bP.cell 0
        have bP_1 : World.cell? wr ⟨w.heap.size + 1, 1, none⟩ = some (.int .u8 4) := bP.cell 1
        have bP_2 : World.cell? wr ⟨w.heap.size + 1, 2, none⟩ = some (.int .u8 1) := bP.cell 2
        have bP_3 : World.cell? wr ⟨w.heap.size + 1, 3, none⟩ = some (.int .u8 2) := bP.cell 3
        have bP_4 : World.cell? wr ⟨w.heap.size + 1, 4, none⟩ = some (.int .u8 3) := bP.cell 4
        have bP_5 : World.cell? wr ⟨w.heap.size + 1, 5, none⟩ = some (.int .u8 0) := bP.cell 5
        have bP_l := bP.lt
        go_wp2_with fail
        clear b1_0 b1_1 b1_2 b1_l
        clear bP_0 bP_1 bP_2 bP_3 bP_4 bP_5 bP_l
        refine (grant_Writes (k := 0) _ (by unfold u8B; decide)).mono ?_
        rintro e w101 ⟨rfl, hZ100⟩
        have hE100 : Ext wr w101 := Ext.trans (by repeat (first | exact Ext.refl _ | apply Ext.alloc | apply Ext.drew)) hZ100
        replace hp := hp.ext hE100
        replace b1 := b1.ext hE100
        replace bP := bP.ext hE100
        have hF100 := Ext.trans (hX) hE100
        rw [show writesOf 0 = false from by decide, show kindErr 0 = 2 from by decide]
        have b1_0 : World.cell? w101 ⟨w.heap.size, 0, none⟩ = some (.int .u8 1) := b1.cell 0
        have b1_1 : World.cell? w101 ⟨w.heap.size, 1, none⟩ = some (.int .i64 1) := b1.cell 1
        have b1_2 : World.cell? w101 ⟨w.heap.size, 2, none⟩ = some (.int .i64 0) := b1.cell 2
        have b1_l := b1.lt
        have bP_0 : World.cell? w101 ⟨w.heap.size + 1, 0, none⟩ = some (.int .u8 0) := bP.cell 0
        have bP_1 : World.cell? w101 ⟨w.heap.size + 1, 1, none⟩ = some (.int .u8 4) := bP.cell 1
        have bP_2 : World.cell? w101 ⟨w.heap.size + 1, 2, none⟩ = some (.int .u8 1) := bP.cell 2
        have bP_3 : World.cell? w101 ⟨w.heap.size + 1, 3, none⟩ = some (.int .u8 2) := bP.cell 3
        have bP_4 : World.cell? w101 ⟨w.heap.size + 1, 4, none⟩ = some (.int .u8 3) := bP.cell 4
        have bP_5 : World.cell? w101 ⟨w.heap.size + 1, 5, none⟩ = some (.int .u8 0) := bP.cell 5
        have bP_l := bP.lt
        go_wp2_with fail
        clear b1_0 b1_1 b1_2 b1_l
        clear bP_0 bP_1 bP_2 bP_3 bP_4 bP_5 bP_l
        refine (grant_RetagO (l := [⟨1, 1, 0⟩]) (k := 0) (hp.ext (by repeat (first | exact Ext.refl _ | apply Ext.alloc | apply Ext.drew))) (by unfold u8B; decide) 1 ⟨0, 7, 3⟩ (by repeat (first | exact Its.lit _ _ [⟨1, 1, 0⟩] _ _ (by first | (simp; done) | exact hsz.out | (have := hsz.out; simp; omega)) rfl (by simp [maxLen]) rfl | refine Its.ext ?_ (Ext.refl _).drew | refine Its.ext ?_ ((Ext.refl _).alloc _)))).mono ?_
        rintro e w102 ⟨v101, u101, rfl, ov101, ou101, -, hZ101⟩
        have hE101 : Ext w101 w102 := Ext.trans (by repeat (first | exact Ext.refl _ | apply Ext.alloc | apply Ext.drew)) hZ101
        replace hp := hp.ext hE101
        replace b1 := b1.ext hE101
        replace bP := bP.ext hE101
        have hF101 := Ext.trans (hF100) hE101
        rw [gn_0] at ov101 ou101 ⊢
        have hv101 : Its w102 v101 [] := Own.sl ov101
        obtain ⟨av101, cv101, rfl, -⟩ := hv101.form
        clear ov101 ou101
        dsimp only
        have b1_0 : World.cell? w102 ⟨w.heap.size, 0, none⟩ = some (.int .u8 1) := b1.cell 0
        have b1_1 : World.cell? w102 ⟨w.heap.size, 1, none⟩ = some (.int .i64 1) := b1.cell 1
        have b1_2 : World.cell? w102 ⟨w.heap.size, 2, none⟩ = some (.int .i64 0) := b1.cell 2
        have b1_l := b1.lt
        have bP_0 : World.cell? w102 ⟨w.heap.size + 1, 0, none⟩ = some (.int .u8 0) := bP.cell 0
        have bP_1 : World.cell? w102 ⟨w.heap.size + 1, 1, none⟩ = some (.int .u8 4) := bP.cell 1
        have bP_2 : World.cell? w102 ⟨w.heap.size + 1, 2, none⟩ = some (.int .u8 1) := bP.cell 2
        have bP_3 : World.cell? w102 ⟨w.heap.size + 1, 3, none⟩ = some (.int .u8 2) := bP.cell 3
        have bP_4 : World.cell? w102 ⟨w.heap.size + 1, 4, none⟩ = some (.int .u8 3) := bP.cell 4
        have bP_5 : World.cell? w102 ⟨w.heap.size + 1, 5, none⟩ = some (.int .u8 0) := bP.cell 5
        have bP_l := bP.lt
        go_wp2_with fail
        clear b1_0 b1_1 b1_2 b1_l
        clear bP_0 bP_1 bP_2 bP_3 bP_4 bP_5 bP_l
        refine (grant_Check (k := 0) _ (by unfold u8B; decide)).mono ?_
        rintro e w103 ⟨rfl, rfl⟩
        rw [show kindErr 0 = 2 from by decide]
        have b1_0 : World.cell? w102 ⟨w.heap.size, 0, none⟩ = some (.int .u8 1) := b1.cell 0
        have b1_1 : World.cell? w102 ⟨w.heap.size, 1, none⟩ = some (.int .i64 1) := b1.cell 1
        have b1_2 : World.cell? w102 ⟨w.heap.size, 2, none⟩ = some (.int .i64 0) := b1.cell 2
        have b1_l := b1.lt
        have bP_0 : World.cell? w102 ⟨w.heap.size + 1, 0, none⟩ = some (.int .u8 0) := bP.cell 0
        have bP_1 : World.cell? w102 ⟨w.heap.size + 1, 1, none⟩ = some (.int .u8 4) := bP.cell 1
        have bP_2 : World.cell? w102 ⟨w.heap.size + 1, 2, none⟩ = some (.int .u8 1) := bP.cell 2
        have bP_3 : World.cell? w102 ⟨w.heap.size + 1, 3, none⟩ = some (.int .u8 2) := bP.cell 3
        have bP_4 : World.cell? w102 ⟨w.heap.size + 1, 4, none⟩ = some (.int .u8 3) := bP.cell 4
        have bP_5 : World.cell? w102 ⟨w.heap.size + 1, 5, none⟩ = some (.int .u8 0) := bP.cell 5
        have bP_l := bP.lt
        go_wp2
        go_roundw
        case rel => exact ⟨1, by omega, by omega, rfl, hF101⟩
        case measure => simp [intOf]
      · have hsz : Hid (0 = 0) := Hid.mk rfl
        have b1_0 : World.cell? wr ⟨w.heap.size, 0, none⟩ = some (.int .u8 1) := b1.cell 0
        have b1_1 : World.cell? wr ⟨w.heap.size, 1, none⟩ = some (.int .i64 1) := b1.cell 1
        have b1_2 : World.cell? wr ⟨w.heap.size, 2, none⟩ = some (.int .i64 0) := b1.cell 2
        have b1_l := b1.lt
        have bP_0 : World.cell? wr ⟨w.heap.size + 1, 0, none⟩ = some (.int .u8 0) := bP.cell 0
        have bP_1 : World.cell? wr ⟨w.heap.size + 1, 1, none⟩ = some (.int .u8 4) := bP.cell 1
        have bP_2 : World.cell? wr ⟨w.heap.size + 1, 2, none⟩ = some (.int .u8 1) := bP.cell 2
        have bP_3 : World.cell? wr ⟨w.heap.size + 1, 3, none⟩ = some (.int .u8 2) := bP.cell 3
        have bP_4 : World.cell? wr ⟨w.heap.size + 1, 4, none⟩ = some (.int .u8 3) := bP.cell 4
        have bP_5 : World.cell? wr ⟨w.heap.size + 1, 5, none⟩ = some (.int .u8 0) := bP.cell 5
        have bP_l := bP.lt
        go_wp2_with fail
        clear b1_0 b1_1 b1_2 b1_l
        clear bP_0 bP_1 bP_2 bP_3 bP_4 bP_5 bP_l
        refine (grant_Perm (k := 1) (hp.ext (by repeat (first | exact Ext.refl _ | apply Ext.alloc | apply Ext.drew))) (by unfold u8B; decide)).mono ?_
        rintro e w151 ⟨rfl, rfl⟩
        rw [show permR 1 = 4 from by decide, show kindErr 1 = 0 from by decide]
        have b1_0 : World.cell? wr ⟨w.heap.size, 0, none⟩ = some (.int .u8 1) := b1.cell 0
        have b1_1 : World.cell? wr ⟨w.heap.size, 1, none⟩ = some (.int .i64 1) := b1.cell 1
        have b1_2 : World.cell? wr ⟨w.heap.size, 2, none⟩ = some (.int .i64 0) := b1.cell 2
        have b1_l := b1.lt
        have bP_0 : World.cell? wr ⟨w.heap.size + 1, 0, none⟩ = some (.int .u8 0) := bP.cell 0
        have bP_1 : World.cell? wr ⟨w.heap.size + 1, 1, none⟩ = some (.int .u8 4) := bP.cell 1
        have bP_2 : World.cell? wr ⟨w.heap.size + 1, 2, none⟩ = some (.int .u8 1) := bP.cell 2
        have bP_3 : World.cell? wr ⟨w.heap.size + 1, 3, none⟩ = some (.int .u8 2) := bP.cell 3
        have bP_4 : World.cell? wr ⟨w.heap.size + 1, 4, none⟩ = some (.int .u8 3) := bP.cell 4
        have bP_5 : World.cell? wr ⟨w.heap.size + 1, 5, none⟩ = some (.int .u8 0) := bP.cell 5
        have bP_l := bP.lt
        go_wp2_with fail
        clear b1_0 b1_1 b1_2 b1_l
        clear bP_0 bP_1 bP_2 bP_3 bP_4 bP_5 bP_l
        refine (grant_Writes (k := 1) _ (by unfold u8B; decide)).mono ?_
        rintro e w151 ⟨rfl, hZ150⟩
        have hE150 : Ext wr w151 := Ext.trans (by repeat (first | exact Ext.refl _ | apply Ext.alloc | apply Ext.drew)) hZ150
        replace hp := hp.ext hE150
        replace b1 := b1.ext hE150
        replace bP := bP.ext hE150
        have hF150 := Ext.trans (hX) hE150
        rw [show writesOf 1 = false from by decide, show kindErr 1 = 0 from by decide]
        have b1_0 : World.cell? w151 ⟨w.heap.size, 0, none⟩ = some (.int .u8 1) := b1.cell 0
        have b1_1 : World.cell? w151 ⟨w.heap.size, 1, none⟩ = some (.int .i64 1) := b1.cell 1
        have b1_2 : World.cell? w151 ⟨w.heap.size, 2, none⟩ = some (.int .i64 0) := b1.cell 2
        have b1_l := b1.lt
        have bP_0 : World.cell? w151 ⟨w.heap.size + 1, 0, none⟩ = some (.int .u8 0) := bP.cell 0
        have bP_1 : World.cell? w151 ⟨w.heap.size + 1, 1, none⟩ = some (.int .u8 4) := bP.cell 1
        have bP_2 : World.cell? w151 ⟨w.heap.size + 1, 2, none⟩ = some (.int .u8 1) := bP.cell 2
        have bP_3 : World.cell? w151 ⟨w.heap.size + 1, 3, none⟩ = some (.int .u8 2) := bP.cell 3
        have bP_4 : World.cell? w151 ⟨w.heap.size + 1, 4, none⟩ = some (.int .u8 3) := bP.cell 4
        have bP_5 : World.cell? w151 ⟨w.heap.size + 1, 5, none⟩ = some (.int .u8 0) := bP.cell 5
        have bP_l := bP.lt
        go_wp2_with fail
        clear b1_0 b1_1 b1_2 b1_l
        clear bP_0 bP_1 bP_2 bP_3 bP_4 bP_5 bP_l
        refine (grant_RetagO (l := [⟨1, 1, 0⟩]) (k := 1) (hp.ext (by repeat (first | exact Ext.refl _ | apply Ext.alloc | apply Ext.drew))) (by unfold u8B; decide) 1 ⟨0, 7, 3⟩ (by repeat (first | exact Its.lit _ _ [⟨1, 1, 0⟩] _ _ (by first | (simp; done) | exact hsz.out | (have := hsz.out; simp; omega)) rfl (by simp [maxLen]) rfl | refine Its.ext ?_ (Ext.refl _).drew | refine Its.ext ?_ ((Ext.refl _).alloc _)))).mono ?_
        rintro e w152 ⟨v151, u151, rfl, ov151, ou151, -, hZ151⟩
        have hE151 : Ext w151 w152 := Ext.trans (by repeat (first | exact Ext.refl _ | apply Ext.alloc | apply Ext.drew)) hZ151
        replace hp := hp.ext hE151
        replace b1 := b1.ext hE151
        replace bP := bP.ext hE151
        have hF151 := Ext.trans (hF150) hE151
        rw [gn_1] at ov151 ou151 ⊢
        have hv151 : Its w152 v151 [⟨1, 1, 0⟩, ⟨4, 7, 3⟩] := Own.sl ov151
        obtain ⟨av151, cv151, rfl, -⟩ := hv151.form
        clear ov151 ou151
        dsimp only
        have b1_0 : World.cell? w152 ⟨w.heap.size, 0, none⟩ = some (.int .u8 1) := b1.cell 0
        have b1_1 : World.cell? w152 ⟨w.heap.size, 1, none⟩ = some (.int .i64 1) := b1.cell 1
        have b1_2 : World.cell? w152 ⟨w.heap.size, 2, none⟩ = some (.int .i64 0) := b1.cell 2
        have b1_l := b1.lt
        have bP_0 : World.cell? w152 ⟨w.heap.size + 1, 0, none⟩ = some (.int .u8 0) := bP.cell 0
        have bP_1 : World.cell? w152 ⟨w.heap.size + 1, 1, none⟩ = some (.int .u8 4) := bP.cell 1
        have bP_2 : World.cell? w152 ⟨w.heap.size + 1, 2, none⟩ = some (.int .u8 1) := bP.cell 2
        have bP_3 : World.cell? w152 ⟨w.heap.size + 1, 3, none⟩ = some (.int .u8 2) := bP.cell 3
        have bP_4 : World.cell? w152 ⟨w.heap.size + 1, 4, none⟩ = some (.int .u8 3) := bP.cell 4
        have bP_5 : World.cell? w152 ⟨w.heap.size + 1, 5, none⟩ = some (.int .u8 0) := bP.cell 5
        have bP_l := bP.lt
        go_wp2_with fail
        clear b1_0 b1_1 b1_2 b1_l
        clear bP_0 bP_1 bP_2 bP_3 bP_4 bP_5 bP_l
        refine (grant_Check (k := 1) _ (by unfold u8B; decide)).mono ?_
        rintro e w153 ⟨rfl, rfl⟩
        rw [show kindErr 1 = 0 from by decide]
        have b1_0 : World.cell? w152 ⟨w.heap.size, 0, none⟩ = some (.int .u8 1) := b1.cell 0
        have b1_1 : World.cell? w152 ⟨w.heap.size, 1, none⟩ = some (.int .i64 1) := b1.cell 1
        have b1_2 : World.cell? w152 ⟨w.heap.size, 2, none⟩ = some (.int .i64 0) := b1.cell 2
        have b1_l := b1.lt
        have bP_0 : World.cell? w152 ⟨w.heap.size + 1, 0, none⟩ = some (.int .u8 0) := bP.cell 0
        have bP_1 : World.cell? w152 ⟨w.heap.size + 1, 1, none⟩ = some (.int .u8 4) := bP.cell 1
        have bP_2 : World.cell? w152 ⟨w.heap.size + 1, 2, none⟩ = some (.int .u8 1) := bP.cell 2
        have bP_3 : World.cell? w152 ⟨w.heap.size + 1, 3, none⟩ = some (.int .u8 2) := bP.cell 3
        have bP_4 : World.cell? w152 ⟨w.heap.size + 1, 4, none⟩ = some (.int .u8 3) := bP.cell 4
        have bP_5 : World.cell? w152 ⟨w.heap.size + 1, 5, none⟩ = some (.int .u8 0) := bP.cell 5
        have bP_l := bP.lt
        go_wp2_with fail
        clear b1_0 b1_1 b1_2 b1_l
        clear bP_0 bP_1 bP_2 bP_3 bP_4 bP_5 bP_l
        refine (ref28_Same_yes (l := [⟨1, 1, 0⟩, ⟨4, 7, 3⟩]) (hv151.ext (by repeat (first | exact Ext.refl _ | apply Ext.alloc | apply Ext.drew))) (by repeat (first | exact Its.lit _ _ [⟨1, 1, 0⟩, ⟨4, 7, 3⟩] _ _ (by first | (simp; done) | exact hsz.out | (have := hsz.out; simp; omega)) rfl (by simp [maxLen]) rfl | refine Its.ext ?_ (Ext.refl _).drew | refine Its.ext ?_ ((Ext.refl _).alloc _)))).mono ?_
        rintro e w153 ⟨rfl, hZ152⟩
        have hE152 : Ext w152 w153 := Ext.trans (by repeat (first | exact Ext.refl _ | apply Ext.alloc | apply Ext.drew)) hZ152
        replace hp := hp.ext hE152
        replace b1 := b1.ext hE152
        replace bP := bP.ext hE152
        replace hv151 := hv151.ext hE152
        have hF152 := Ext.trans (hF151) hE152
        have b1_0 : World.cell? w153 ⟨w.heap.size, 0, none⟩ = some (.int .u8 1) := b1.cell 0
        have b1_1 : World.cell? w153 ⟨w.heap.size, 1, none⟩ = some (.int .i64 1) := b1.cell 1
        have b1_2 : World.cell? w153 ⟨w.heap.size, 2, none⟩ = some (.int .i64 0) := b1.cell 2
        have b1_l := b1.lt
        have bP_0 : World.cell? w153 ⟨w.heap.size + 1, 0, none⟩ = some (.int .u8 0) := bP.cell 0
        have bP_1 : World.cell? w153 ⟨w.heap.size + 1, 1, none⟩ = some (.int .u8 4) := bP.cell 1
        have bP_2 : World.cell? w153 ⟨w.heap.size + 1, 2, none⟩ = some (.int .u8 1) := bP.cell 2
        have bP_3 : World.cell? w153 ⟨w.heap.size + 1, 3, none⟩ = some (.int .u8 2) := bP.cell 3
        have bP_4 : World.cell? w153 ⟨w.heap.size + 1, 4, none⟩ = some (.int .u8 3) := bP.cell 4
        have bP_5 : World.cell? w153 ⟨w.heap.size + 1, 5, none⟩ = some (.int .u8 0) := bP.cell 5
        have bP_l := bP.lt
        go_wp2
        go_roundw
        case rel => exact ⟨2, by omega, by omega, rfl, hF152⟩
        case measure => simp [intOf]
      · have hsz : Hid (0 = 0) := Hid.mk rfl
        have b1_0 : World.cell? wr ⟨w.heap.size, 0, none⟩ = some (.int .u8 1) := b1.cell 0
        have b1_1 : World.cell? wr ⟨w.heap.size, 1, none⟩ = some (.int .i64 1) := b1.cell 1
        have b1_2 : World.cell? wr ⟨w.heap.size, 2, none⟩ = some (.int .i64 0) := b1.cell 2
        have b1_l := b1.lt
        have bP_0 : World.cell? wr ⟨w.heap.size + 1, 0, none⟩ = some (.int .u8 0) := bP.cell 0
        have bP_1 : World.cell? wr ⟨w.heap.size + 1, 1, none⟩ = some (.int .u8 4) := bP.cell 1
        have bP_2 : World.cell? wr ⟨w.heap.size + 1, 2, none⟩ = some (.int .u8 1) := bP.cell 2
        have bP_3 : World.cell? wr ⟨w.heap.size + 1, 3, none⟩ = some (.int .u8 2) := bP.cell 3
        have bP_4 : World.cell? wr ⟨w.heap.size + 1, 4, none⟩ = some (.int .u8 3) := bP.cell 4
        have bP_5 : World.cell? wr ⟨w.heap.size + 1, 5, none⟩ = some (.int .u8 0) := bP.cell 5
        have bP_l := bP.lt
        go_wp2_with fail
        clear b1_0 b1_1 b1_2 b1_l
        clear bP_0 bP_1 bP_2 bP_3 bP_4 bP_5 bP_l
        refine (grant_Perm (k := 2) (hp.ext (by repeat (first | exact Ext.refl _ | apply Ext.alloc | apply Ext.drew))) (by unfold u8B; decide)).mono ?_
        rintro e w201 ⟨rfl, rfl⟩
        rw [show permR 2 = 1 from by decide, show kindErr 2 = 0 from by decide]
        have b1_0 : World.cell? wr ⟨w.heap.size, 0, none⟩ = some (.int .u8 1) := b1.cell 0
        have b1_1 : World.cell? wr ⟨w.heap.size, 1, none⟩ = some (.int .i64 1) := b1.cell 1
        have b1_2 : World.cell? wr ⟨w.heap.size, 2, none⟩ = some (.int .i64 0) := b1.cell 2
        have b1_l := b1.lt
        have bP_0 : World.cell? wr ⟨w.heap.size + 1, 0, none⟩ = some (.int .u8 0) := bP.cell 0
        have bP_1 : World.cell? wr ⟨w.heap.size + 1, 1, none⟩ = some (.int .u8 4) := bP.cell 1
        have bP_2 : World.cell? wr ⟨w.heap.size + 1, 2, none⟩ = some (.int .u8 1) := bP.cell 2
        have bP_3 : World.cell? wr ⟨w.heap.size + 1, 3, none⟩ = some (.int .u8 2) := bP.cell 3
        have bP_4 : World.cell? wr ⟨w.heap.size + 1, 4, none⟩ = some (.int .u8 3) := bP.cell 4
        have bP_5 : World.cell? wr ⟨w.heap.size + 1, 5, none⟩ = some (.int .u8 0) := bP.cell 5
        have bP_l := bP.lt
        go_wp2_with fail
        clear b1_0 b1_1 b1_2 b1_l
        clear bP_0 bP_1 bP_2 bP_3 bP_4 bP_5 bP_l
        refine (grant_Writes (k := 2) _ (by unfold u8B; decide)).mono ?_
        rintro e w201 ⟨rfl, hZ200⟩
        have hE200 : Ext wr w201 := Ext.trans (by repeat (first | exact Ext.refl _ | apply Ext.alloc | apply Ext.drew)) hZ200
        replace hp := hp.ext hE200
        replace b1 := b1.ext hE200
        replace bP := bP.ext hE200
        have hF200 := Ext.trans (hX) hE200
        rw [show writesOf 2 = true from by decide, show kindErr 2 = 0 from by decide]
        have b1_0 : World.cell? w201 ⟨w.heap.size, 0, none⟩ = some (.int .u8 1) := b1.cell 0
        have b1_1 : World.cell? w201 ⟨w.heap.size, 1, none⟩ = some (.int .i64 1) := b1.cell 1
        have b1_2 : World.cell? w201 ⟨w.heap.size, 2, none⟩ = some (.int .i64 0) := b1.cell 2
        have b1_l := b1.lt
        have bP_0 : World.cell? w201 ⟨w.heap.size + 1, 0, none⟩ = some (.int .u8 0) := bP.cell 0
        have bP_1 : World.cell? w201 ⟨w.heap.size + 1, 1, none⟩ = some (.int .u8 4) := bP.cell 1
        have bP_2 : World.cell? w201 ⟨w.heap.size + 1, 2, none⟩ = some (.int .u8 1) := bP.cell 2
        have bP_3 : World.cell? w201 ⟨w.heap.size + 1, 3, none⟩ = some (.int .u8 2) := bP.cell 3
        have bP_4 : World.cell? w201 ⟨w.heap.size + 1, 4, none⟩ = some (.int .u8 3) := bP.cell 4
        have bP_5 : World.cell? w201 ⟨w.heap.size + 1, 5, none⟩ = some (.int .u8 0) := bP.cell 5
        have bP_l := bP.lt
        go_wp2_with fail
        clear b1_0 b1_1 b1_2 b1_l
        clear bP_0 bP_1 bP_2 bP_3 bP_4 bP_5 bP_l
        refine (grant_RetagO (l := [⟨1, 1, 0⟩]) (k := 2) (hp.ext (by repeat (first | exact Ext.refl _ | apply Ext.alloc | apply Ext.drew))) (by unfold u8B; decide) 1 ⟨0, 7, 3⟩ (by repeat (first | exact Its.lit _ _ [⟨1, 1, 0⟩] _ _ (by first | (simp; done) | exact hsz.out | (have := hsz.out; simp; omega)) rfl (by simp [maxLen]) rfl | refine Its.ext ?_ (Ext.refl _).drew | refine Its.ext ?_ ((Ext.refl _).alloc _)))).mono ?_
        rintro e w202 ⟨v201, u201, rfl, ov201, ou201, -, hZ201⟩
        have hE201 : Ext w201 w202 := Ext.trans (by repeat (first | exact Ext.refl _ | apply Ext.alloc | apply Ext.drew)) hZ201
        replace hp := hp.ext hE201
        replace b1 := b1.ext hE201
        replace bP := bP.ext hE201
        have hF201 := Ext.trans (hF200) hE201
        rw [gn_2] at ov201 ou201 ⊢
        have hv201 : Its w202 v201 [⟨1, 1, 0⟩, ⟨1, 7, 3⟩] := Own.sl ov201
        obtain ⟨av201, cv201, rfl, -⟩ := hv201.form
        clear ov201 ou201
        dsimp only
        have b1_0 : World.cell? w202 ⟨w.heap.size, 0, none⟩ = some (.int .u8 1) := b1.cell 0
        have b1_1 : World.cell? w202 ⟨w.heap.size, 1, none⟩ = some (.int .i64 1) := b1.cell 1
        have b1_2 : World.cell? w202 ⟨w.heap.size, 2, none⟩ = some (.int .i64 0) := b1.cell 2
        have b1_l := b1.lt
        have bP_0 : World.cell? w202 ⟨w.heap.size + 1, 0, none⟩ = some (.int .u8 0) := bP.cell 0
        have bP_1 : World.cell? w202 ⟨w.heap.size + 1, 1, none⟩ = some (.int .u8 4) := bP.cell 1
        have bP_2 : World.cell? w202 ⟨w.heap.size + 1, 2, none⟩ = some (.int .u8 1) := bP.cell 2
        have bP_3 : World.cell? w202 ⟨w.heap.size + 1, 3, none⟩ = some (.int .u8 2) := bP.cell 3
        have bP_4 : World.cell? w202 ⟨w.heap.size + 1, 4, none⟩ = some (.int .u8 3) := bP.cell 4
        have bP_5 : World.cell? w202 ⟨w.heap.size + 1, 5, none⟩ = some (.int .u8 0) := bP.cell 5
        have bP_l := bP.lt
        go_wp2_with fail
        clear b1_0 b1_1 b1_2 b1_l
        clear bP_0 bP_1 bP_2 bP_3 bP_4 bP_5 bP_l
        refine (grant_Check (k := 2) _ (by unfold u8B; decide)).mono ?_
        rintro e w203 ⟨rfl, rfl⟩
        rw [show kindErr 2 = 0 from by decide]
        have b1_0 : World.cell? w202 ⟨w.heap.size, 0, none⟩ = some (.int .u8 1) := b1.cell 0
        have b1_1 : World.cell? w202 ⟨w.heap.size, 1, none⟩ = some (.int .i64 1) := b1.cell 1
        have b1_2 : World.cell? w202 ⟨w.heap.size, 2, none⟩ = some (.int .i64 0) := b1.cell 2
        have b1_l := b1.lt
        have bP_0 : World.cell? w202 ⟨w.heap.size + 1, 0, none⟩ = some (.int .u8 0) := bP.cell 0
        have bP_1 : World.cell? w202 ⟨w.heap.size + 1, 1, none⟩ = some (.int .u8 4) := bP.cell 1
        have bP_2 : World.cell? w202 ⟨w.heap.size + 1, 2, none⟩ = some (.int .u8 1) := bP.cell 2
        have bP_3 : World.cell? w202 ⟨w.heap.size + 1, 3, none⟩ = some (.int .u8 2) := bP.cell 3
        have bP_4 : World.cell? w202 ⟨w.heap.size + 1, 4, none⟩ = some (.int .u8 3) := bP.cell 4
        have bP_5 : World.cell? w202 ⟨w.heap.size + 1, 5, none⟩ = some (.int .u8 0) := bP.cell 5
        have bP_l := bP.lt
        go_wp2_with fail
        clear b1_0 b1_1 b1_2 b1_l
        clear bP_0 bP_1 bP_2 bP_3 bP_4 bP_5 bP_l
        refine (ref28_Same_yes (l := [⟨1, 1, 0⟩, ⟨1, 7, 3⟩]) (hv201.ext (by repeat (first | exact Ext.refl _ | apply Ext.alloc | apply Ext.drew))) (by repeat (first | exact Its.lit _ _ [⟨1, 1, 0⟩, ⟨1, 7, 3⟩] _ _ (by first | (simp; done) | exact hsz.out | (have := hsz.out; simp; omega)) rfl (by simp [maxLen]) rfl | refine Its.ext ?_ (Ext.refl _).drew | refine Its.ext ?_ ((Ext.refl _).alloc _)))).mono ?_
        rintro e w203 ⟨rfl, hZ202⟩
        have hE202 : Ext w202 w203 := Ext.trans (by repeat (first | exact Ext.refl _ | apply Ext.alloc | apply Ext.drew)) hZ202
        replace hp := hp.ext hE202
        replace b1 := b1.ext hE202
        replace bP := bP.ext hE202
        replace hv201 := hv201.ext hE202
        have hF202 := Ext.trans (hF201) hE202
        have b1_0 : World.cell? w203 ⟨w.heap.size, 0, none⟩ = some (.int .u8 1) := b1.cell 0
        have b1_1 : World.cell? w203 ⟨w.heap.size, 1, none⟩ = some (.int .i64 1) := b1.cell 1
        have b1_2 : World.cell? w203 ⟨w.heap.size, 2, none⟩ = some (.int .i64 0) := b1.cell 2
        have b1_l := b1.lt
        have bP_0 : World.cell? w203 ⟨w.heap.size + 1, 0, none⟩ = some (.int .u8 0) := bP.cell 0
        have bP_1 : World.cell? w203 ⟨w.heap.size + 1, 1, none⟩ = some (.int .u8 4) := bP.cell 1
        have bP_2 : World.cell? w203 ⟨w.heap.size + 1, 2, none⟩ = some (.int .u8 1) := bP.cell 2
        have bP_3 : World.cell? w203 ⟨w.heap.size + 1, 3, none⟩ = some (.int .u8 2) := bP.cell 3
        have bP_4 : World.cell? w203 ⟨w.heap.size + 1, 4, none⟩ = some (.int .u8 3) := bP.cell 4
        have bP_5 : World.cell? w203 ⟨w.heap.size + 1, 5, none⟩ = some (.int .u8 0) := bP.cell 5
        have bP_l := bP.lt
        go_wp2
        go_roundw
        case rel => exact ⟨3, by omega, by omega, rfl, hF202⟩
        case measure => simp [intOf]
      · have hsz : Hid (0 = 0) := Hid.mk rfl
        have b1_0 : World.cell? wr ⟨w.heap.size, 0, none⟩ = some (.int .u8 1) := b1.cell 0
        have b1_1 : World.cell? wr ⟨w.heap.size, 1, none⟩ = some (.int .i64 1) := b1.cell 1
        have b1_2 : World.cell? wr ⟨w.heap.size, 2, none⟩ = some (.int .i64 0) := b1.cell 2
        have b1_l := b1.lt
        have bP_0 : World.cell? wr ⟨w.heap.size + 1, 0, none⟩ = some (.int .u8 0) := bP.cell 0
        have bP_1 : World.cell? wr ⟨w.heap.size + 1, 1, none⟩ = some (.int .u8 4) := bP.cell 1
        have bP_2 : World.cell? wr ⟨w.heap.size + 1, 2, none⟩ = some (.int .u8 1) := bP.cell 2
        have bP_3 : World.cell? wr ⟨w.heap.size + 1, 3, none⟩ = some (.int .u8 2) := bP.cell 3
        have bP_4 : World.cell? wr ⟨w.heap.size + 1, 4, none⟩ = some (.int .u8 3) := bP.cell 4
        have bP_5 : World.cell? wr ⟨w.heap.size + 1, 5, none⟩ = some (.int .u8 0) := bP.cell 5
        have bP_l := bP.lt
        go_wp2_with fail
        clear b1_0 b1_1 b1_2 b1_l
        clear bP_0 bP_1 bP_2 bP_3 bP_4 bP_5 bP_l
        refine (grant_Perm (k := 3) (hp.ext (by repeat (first | exact Ext.refl _ | apply Ext.alloc | apply Ext.drew))) (by unfold u8B; decide)).mono ?_
        rintro e w251 ⟨rfl, rfl⟩
        rw [show permR 3 = 2 from by decide, show kindErr 3 = 0 from by decide]
        have b1_0 : World.cell? wr ⟨w.heap.size, 0, none⟩ = some (.int .u8 1) := b1.cell 0
        have b1_1 : World.cell? wr ⟨w.heap.size, 1, none⟩ = some (.int .i64 1) := b1.cell 1
        have b1_2 : World.cell? wr ⟨w.heap.size, 2, none⟩ = some (.int .i64 0) := b1.cell 2
        have b1_l := b1.lt
        have bP_0 : World.cell? wr ⟨w.heap.size + 1, 0, none⟩ = some (.int .u8 0) := bP.cell 0
        have bP_1 : World.cell? wr ⟨w.heap.size + 1, 1, none⟩ = some (.int .u8 4) := bP.cell 1
        have bP_2 : World.cell? wr ⟨w.heap.size + 1, 2, none⟩ = some (.int .u8 1) := bP.cell 2
        have bP_3 : World.cell? wr ⟨w.heap.size + 1, 3, none⟩ = some (.int .u8 2) := bP.cell 3
        have bP_4 : World.cell? wr ⟨w.heap.size + 1, 4, none⟩ = some (.int .u8 3) := bP.cell 4
        have bP_5 : World.cell? wr ⟨w.heap.size + 1, 5, none⟩ = some (.int .u8 0) := bP.cell 5
        have bP_l := bP.lt
        go_wp2_with fail
        clear b1_0 b1_1 b1_2 b1_l
        clear bP_0 bP_1 bP_2 bP_3 bP_4 bP_5 bP_l
        refine (grant_Writes (k := 3) _ (by unfold u8B; decide)).mono ?_
        rintro e w251 ⟨rfl, hZ250⟩
        have hE250 : Ext wr w251 := Ext.trans (by repeat (first | exact Ext.refl _ | apply Ext.alloc | apply Ext.drew)) hZ250
        replace hp := hp.ext hE250
        replace b1 := b1.ext hE250
        replace bP := bP.ext hE250
        have hF250 := Ext.trans (hX) hE250
        rw [show writesOf 3 = false from by decide, show kindErr 3 = 0 from by decide]
        have b1_0 : World.cell? w251 ⟨w.heap.size, 0, none⟩ = some (.int .u8 1) := b1.cell 0
        have b1_1 : World.cell? w251 ⟨w.heap.size, 1, none⟩ = some (.int .i64 1) := b1.cell 1
        have b1_2 : World.cell? w251 ⟨w.heap.size, 2, none⟩ = some (.int .i64 0) := b1.cell 2
        have b1_l := b1.lt
        have bP_0 : World.cell? w251 ⟨w.heap.size + 1, 0, none⟩ = some (.int .u8 0) := bP.cell 0
        have bP_1 : World.cell? w251 ⟨w.heap.size + 1, 1, none⟩ = some (.int .u8 4) := bP.cell 1
        have bP_2 : World.cell? w251 ⟨w.heap.size + 1, 2, none⟩ = some (.int .u8 1) := bP.cell 2
        have bP_3 : World.cell? w251 ⟨w.heap.size + 1, 3, none⟩ = some (.int .u8 2) := bP.cell 3
        have bP_4 : World.cell? w251 ⟨w.heap.size + 1, 4, none⟩ = some (.int .u8 3) := bP.cell 4
        have bP_5 : World.cell? w251 ⟨w.heap.size + 1, 5, none⟩ = some (.int .u8 0) := bP.cell 5
        have bP_l := bP.lt
        go_wp2_with fail
        clear b1_0 b1_1 b1_2 b1_l
        clear bP_0 bP_1 bP_2 bP_3 bP_4 bP_5 bP_l
        refine (grant_RetagO (l := [⟨1, 1, 0⟩]) (k := 3) (hp.ext (by repeat (first | exact Ext.refl _ | apply Ext.alloc | apply Ext.drew))) (by unfold u8B; decide) 1 ⟨0, 7, 3⟩ (by repeat (first | exact Its.lit _ _ [⟨1, 1, 0⟩] _ _ (by first | (simp; done) | exact hsz.out | (have := hsz.out; simp; omega)) rfl (by simp [maxLen]) rfl | refine Its.ext ?_ (Ext.refl _).drew | refine Its.ext ?_ ((Ext.refl _).alloc _)))).mono ?_
        rintro e w252 ⟨v251, u251, rfl, ov251, ou251, -, hZ251⟩
        have hE251 : Ext w251 w252 := Ext.trans (by repeat (first | exact Ext.refl _ | apply Ext.alloc | apply Ext.drew)) hZ251
        replace hp := hp.ext hE251
        replace b1 := b1.ext hE251
        replace bP := bP.ext hE251
        have hF251 := Ext.trans (hF250) hE251
        rw [gn_3] at ov251 ou251 ⊢
        have hv251 : Its w252 v251 [⟨1, 1, 0⟩, ⟨2, 7, 3⟩] := Own.sl ov251
        obtain ⟨av251, cv251, rfl, -⟩ := hv251.form
        clear ov251 ou251
        dsimp only
        have b1_0 : World.cell? w252 ⟨w.heap.size, 0, none⟩ = some (.int .u8 1) := b1.cell 0
        have b1_1 : World.cell? w252 ⟨w.heap.size, 1, none⟩ = some (.int .i64 1) := b1.cell 1
        have b1_2 : World.cell? w252 ⟨w.heap.size, 2, none⟩ = some (.int .i64 0) := b1.cell 2
        have b1_l := b1.lt
        have bP_0 : World.cell? w252 ⟨w.heap.size + 1, 0, none⟩ = some (.int .u8 0) := bP.cell 0
        have bP_1 : World.cell? w252 ⟨w.heap.size + 1, 1, none⟩ = some (.int .u8 4) := bP.cell 1
        have bP_2 : World.cell? w252 ⟨w.heap.size + 1, 2, none⟩ = some (.int .u8 1) := bP.cell 2
        have bP_3 : World.cell? w252 ⟨w.heap.size + 1, 3, none⟩ = some (.int .u8 2) := bP.cell 3
        have bP_4 : World.cell? w252 ⟨w.heap.size + 1, 4, none⟩ = some (.int .u8 3) := bP.cell 4
        have bP_5 : World.cell? w252 ⟨w.heap.size + 1, 5, none⟩ = some (.int .u8 0) := bP.cell 5
        have bP_l := bP.lt
        go_wp2_with fail
        clear b1_0 b1_1 b1_2 b1_l
        clear bP_0 bP_1 bP_2 bP_3 bP_4 bP_5 bP_l
        refine (grant_Check (k := 3) _ (by unfold u8B; decide)).mono ?_
        rintro e w253 ⟨rfl, rfl⟩
        rw [show kindErr 3 = 0 from by decide]
        have b1_0 : World.cell? w252 ⟨w.heap.size, 0, none⟩ = some (.int .u8 1) := b1.cell 0
        have b1_1 : World.cell? w252 ⟨w.heap.size, 1, none⟩ = some (.int .i64 1) := b1.cell 1
        have b1_2 : World.cell? w252 ⟨w.heap.size, 2, none⟩ = some (.int .i64 0) := b1.cell 2
        have b1_l := b1.lt
        have bP_0 : World.cell? w252 ⟨w.heap.size + 1, 0, none⟩ = some (.int .u8 0) := bP.cell 0
        have bP_1 : World.cell? w252 ⟨w.heap.size + 1, 1, none⟩ = some (.int .u8 4) := bP.cell 1
        have bP_2 : World.cell? w252 ⟨w.heap.size + 1, 2, none⟩ = some (.int .u8 1) := bP.cell 2
        have bP_3 : World.cell? w252 ⟨w.heap.size + 1, 3, none⟩ = some (.int .u8 2) := bP.cell 3
        have bP_4 : World.cell? w252 ⟨w.heap.size + 1, 4, none⟩ = some (.int .u8 3) := bP.cell 4
        have bP_5 : World.cell? w252 ⟨w.heap.size + 1, 5, none⟩ = some (.int .u8 0) := bP.cell 5
        have bP_l := bP.lt
        go_wp2_with fail
        clear b1_0 b1_1 b1_2 b1_l
        clear bP_0 bP_1 bP_2 bP_3 bP_4 bP_5 bP_l
        refine (ref28_Same_yes (l := [⟨1, 1, 0⟩, ⟨2, 7, 3⟩]) (hv251.ext (by repeat (first | exact Ext.refl _ | apply Ext.alloc | apply Ext.drew))) (by repeat (first | exact Its.lit _ _ [⟨1, 1, 0⟩, ⟨2, 7, 3⟩] _ _ (by first | (simp; done) | exact hsz.out | (have := hsz.out; simp; omega)) rfl (by simp [maxLen]) rfl | refine Its.ext ?_ (Ext.refl _).drew | refine Its.ext ?_ ((Ext.refl _).alloc _)))).mono ?_
        rintro e w253 ⟨rfl, hZ252⟩
        have hE252 : Ext w252 w253 := Ext.trans (by repeat (first | exact Ext.refl _ | apply Ext.alloc | apply Ext.drew)) hZ252
        replace hp := hp.ext hE252
        replace b1 := b1.ext hE252
        replace bP := bP.ext hE252
        replace hv251 := hv251.ext hE252
        have hF252 := Ext.trans (hF251) hE252
        have b1_0 : World.cell? w253 ⟨w.heap.size, 0, none⟩ = some (.int .u8 1) := b1.cell 0
        have b1_1 : World.cell? w253 ⟨w.heap.size, 1, none⟩ = some (.int .i64 1) := b1.cell 1
        have b1_2 : World.cell? w253 ⟨w.heap.size, 2, none⟩ = some (.int .i64 0) := b1.cell 2
        have b1_l := b1.lt
        have bP_0 : World.cell? w253 ⟨w.heap.size + 1, 0, none⟩ = some (.int .u8 0) := bP.cell 0
        have bP_1 : World.cell? w253 ⟨w.heap.size + 1, 1, none⟩ = some (.int .u8 4) := bP.cell 1
        have bP_2 : World.cell? w253 ⟨w.heap.size + 1, 2, none⟩ = some (.int .u8 1) := bP.cell 2
        have bP_3 : World.cell? w253 ⟨w.heap.size + 1, 3, none⟩ = some (.int .u8 2) := bP.cell 3
        have bP_4 : World.cell? w253 ⟨w.heap.size + 1, 4, none⟩ = some (.int .u8 3) := bP.cell 4
        have bP_5 : World.cell? w253 ⟨w.heap.size + 1, 5, none⟩ = some (.int .u8 0) := bP.cell 5
        have bP_l := bP.lt
        go_wp2
        go_roundw
        case rel => exact ⟨4, by omega, by omega, rfl, hF252⟩
        case measure => simp [intOf]
      · have hsz : Hid (0 = 0) := Hid.mk rfl
        have b1_0 : World.cell? wr ⟨w.heap.size, 0, none⟩ = some (.int .u8 1) := b1.cell 0
        have b1_1 : World.cell? wr ⟨w.heap.size, 1, none⟩ = some (.int .i64 1) := b1.cell 1
        have b1_2 : World.cell? wr ⟨w.heap.size, 2, none⟩ = some (.int .i64 0) := b1.cell 2
        have b1_l := b1.lt
        have bP_0 : World.cell? wr ⟨w.heap.size + 1, 0, none⟩ = some (.int .u8 0) := bP.cell 0
        have bP_1 : World.cell? wr ⟨w.heap.size + 1, 1, none⟩ = some (.int .u8 4) := bP.cell 1
        have bP_2 : World.cell? wr ⟨w.heap.size + 1, 2, none⟩ = some (.int .u8 1) := bP.cell 2
        have bP_3 : World.cell? wr ⟨w.heap.size + 1, 3, none⟩ = some (.int .u8 2) := bP.cell 3
        have bP_4 : World.cell? wr ⟨w.heap.size + 1, 4, none⟩ = some (.int .u8 3) := bP.cell 4
        have bP_5 : World.cell? wr ⟨w.heap.size + 1, 5, none⟩ = some (.int .u8 0) := bP.cell 5
        have bP_l := bP.lt
        go_wp2_with fail
        clear b1_0 b1_1 b1_2 b1_l
        clear bP_0 bP_1 bP_2 bP_3 bP_4 bP_5 bP_l
        refine (grant_Perm (k := 4) (hp.ext (by repeat (first | exact Ext.refl _ | apply Ext.alloc | apply Ext.drew))) (by unfold u8B; decide)).mono ?_
        rintro e w301 ⟨rfl, rfl⟩
        rw [show permR 4 = 3 from by decide, show kindErr 4 = 0 from by decide]
        have b1_0 : World.cell? wr ⟨w.heap.size, 0, none⟩ = some (.int .u8 1) := b1.cell 0
        have b1_1 : World.cell? wr ⟨w.heap.size, 1, none⟩ = some (.int .i64 1) := b1.cell 1
        have b1_2 : World.cell? wr ⟨w.heap.size, 2, none⟩ = some (.int .i64 0) := b1.cell 2
        have b1_l := b1.lt
        have bP_0 : World.cell? wr ⟨w.heap.size + 1, 0, none⟩ = some (.int .u8 0) := bP.cell 0
        have bP_1 : World.cell? wr ⟨w.heap.size + 1, 1, none⟩ = some (.int .u8 4) := bP.cell 1
        have bP_2 : World.cell? wr ⟨w.heap.size + 1, 2, none⟩ = some (.int .u8 1) := bP.cell 2
        have bP_3 : World.cell? wr ⟨w.heap.size + 1, 3, none⟩ = some (.int .u8 2) := bP.cell 3
        have bP_4 : World.cell? wr ⟨w.heap.size + 1, 4, none⟩ = some (.int .u8 3) := bP.cell 4
        have bP_5 : World.cell? wr ⟨w.heap.size + 1, 5, none⟩ = some (.int .u8 0) := bP.cell 5
        have bP_l := bP.lt
        go_wp2_with fail
        clear b1_0 b1_1 b1_2 b1_l
        clear bP_0 bP_1 bP_2 bP_3 bP_4 bP_5 bP_l
        refine (grant_Writes (k := 4) _ (by unfold u8B; decide)).mono ?_
        rintro e w301 ⟨rfl, hZ300⟩
        have hE300 : Ext wr w301 := Ext.trans (by repeat (first | exact Ext.refl _ | apply Ext.alloc | apply Ext.drew)) hZ300
        replace hp := hp.ext hE300
        replace b1 := b1.ext hE300
        replace bP := bP.ext hE300
        have hF300 := Ext.trans (hX) hE300
        rw [show writesOf 4 = true from by decide, show kindErr 4 = 0 from by decide]
        have b1_0 : World.cell? w301 ⟨w.heap.size, 0, none⟩ = some (.int .u8 1) := b1.cell 0
        have b1_1 : World.cell? w301 ⟨w.heap.size, 1, none⟩ = some (.int .i64 1) := b1.cell 1
        have b1_2 : World.cell? w301 ⟨w.heap.size, 2, none⟩ = some (.int .i64 0) := b1.cell 2
        have b1_l := b1.lt
        have bP_0 : World.cell? w301 ⟨w.heap.size + 1, 0, none⟩ = some (.int .u8 0) := bP.cell 0
        have bP_1 : World.cell? w301 ⟨w.heap.size + 1, 1, none⟩ = some (.int .u8 4) := bP.cell 1
        have bP_2 : World.cell? w301 ⟨w.heap.size + 1, 2, none⟩ = some (.int .u8 1) := bP.cell 2
        have bP_3 : World.cell? w301 ⟨w.heap.size + 1, 3, none⟩ = some (.int .u8 2) := bP.cell 3
        have bP_4 : World.cell? w301 ⟨w.heap.size + 1, 4, none⟩ = some (.int .u8 3) := bP.cell 4
        have bP_5 : World.cell? w301 ⟨w.heap.size + 1, 5, none⟩ = some (.int .u8 0) := bP.cell 5
        have bP_l := bP.lt
        go_wp2_with fail
        clear b1_0 b1_1 b1_2 b1_l
        clear bP_0 bP_1 bP_2 bP_3 bP_4 bP_5 bP_l
        refine (grant_RetagO (l := [⟨1, 1, 0⟩]) (k := 4) (hp.ext (by repeat (first | exact Ext.refl _ | apply Ext.alloc | apply Ext.drew))) (by unfold u8B; decide) 1 ⟨0, 7, 3⟩ (by repeat (first | exact Its.lit _ _ [⟨1, 1, 0⟩] _ _ (by first | (simp; done) | exact hsz.out | (have := hsz.out; simp; omega)) rfl (by simp [maxLen]) rfl | refine Its.ext ?_ (Ext.refl _).drew | refine Its.ext ?_ ((Ext.refl _).alloc _)))).mono ?_
        rintro e w302 ⟨v301, u301, rfl, ov301, ou301, -, hZ301⟩
        have hE301 : Ext w301 w302 := Ext.trans (by repeat (first | exact Ext.refl _ | apply Ext.alloc | apply Ext.drew)) hZ301
        replace hp := hp.ext hE301
        replace b1 := b1.ext hE301
        replace bP := bP.ext hE301
        have hF301 := Ext.trans (hF300) hE301
        rw [gn_4] at ov301 ou301 ⊢
        have hv301 : Its w302 v301 [⟨1, 1, 0⟩, ⟨3, 7, 3⟩] := Own.sl ov301
        obtain ⟨av301, cv301, rfl, -⟩ := hv301.form
        clear ov301 ou301
        dsimp only
        have b1_0 : World.cell? w302 ⟨w.heap.size, 0, none⟩ = some (.int .u8 1) := b1.cell 0
        have b1_1 : World.cell? w302 ⟨w.heap.size, 1, none⟩ = some (.int .i64 1) := b1.cell 1
        have b1_2 : World.cell? w302 ⟨w.heap.size, 2, none⟩ = some (.int .i64 0) := b1.cell 2
        have b1_l := b1.lt
        have bP_0 : World.cell? w302 ⟨w.heap.size + 1, 0, none⟩ = some (.int .u8 0) := bP.cell 0
        have bP_1 : World.cell? w302 ⟨w.heap.size + 1, 1, none⟩ = some (.int .u8 4) := bP.cell 1
        have bP_2 : World.cell? w302 ⟨w.heap.size + 1, 2, none⟩ = some (.int .u8 1) := bP.cell 2
        have bP_3 : World.cell? w302 ⟨w.heap.size + 1, 3, none⟩ = some (.int .u8 2) := bP.cell 3
        have bP_4 : World.cell? w302 ⟨w.heap.size + 1, 4, none⟩ = some (.int .u8 3) := bP.cell 4
        have bP_5 : World.cell? w302 ⟨w.heap.size + 1, 5, none⟩ = some (.int .u8 0) := bP.cell 5
        have bP_l := bP.lt
        go_wp2_with fail
        clear b1_0 b1_1 b1_2 b1_l
        clear bP_0 bP_1 bP_2 bP_3 bP_4 bP_5 bP_l
        refine (grant_Check (k := 4) _ (by unfold u8B; decide)).mono ?_
        rintro e w303 ⟨rfl, rfl⟩
        rw [show kindErr 4 = 0 from by decide]
        have b1_0 : World.cell? w302 ⟨w.heap.size, 0, none⟩ = some (.int .u8 1) := b1.cell 0
        have b1_1 : World.cell? w302 ⟨w.heap.size, 1, none⟩ = some (.int .i64 1) := b1.cell 1
        have b1_2 : World.cell? w302 ⟨w.heap.size, 2, none⟩ = some (.int .i64 0) := b1.cell 2
        have b1_l := b1.lt
        have bP_0 : World.cell? w302 ⟨w.heap.size + 1, 0, none⟩ = some (.int .u8 0) := bP.cell 0
        have bP_1 : World.cell? w302 ⟨w.heap.size + 1, 1, none⟩ = some (.int .u8 4) := bP.cell 1
        have bP_2 : World.cell? w302 ⟨w.heap.size + 1, 2, none⟩ = some (.int .u8 1) := bP.cell 2
        have bP_3 : World.cell? w302 ⟨w.heap.size + 1, 3, none⟩ = some (.int .u8 2) := bP.cell 3
        have bP_4 : World.cell? w302 ⟨w.heap.size + 1, 4, none⟩ = some (.int .u8 3) := bP.cell 4
        have bP_5 : World.cell? w302 ⟨w.heap.size + 1, 5, none⟩ = some (.int .u8 0) := bP.cell 5
        have bP_l := bP.lt
        go_wp2_with fail
        clear b1_0 b1_1 b1_2 b1_l
        clear bP_0 bP_1 bP_2 bP_3 bP_4 bP_5 bP_l
        refine (ref28_Same_yes (l := [⟨1, 1, 0⟩, ⟨3, 7, 3⟩]) (hv301.ext (by repeat (first | exact Ext.refl _ | apply Ext.alloc | apply Ext.drew))) (by repeat (first | exact Its.lit _ _ [⟨1, 1, 0⟩, ⟨3, 7, 3⟩] _ _ (by first | (simp; done) | exact hsz.out | (have := hsz.out; simp; omega)) rfl (by simp [maxLen]) rfl | refine Its.ext ?_ (Ext.refl _).drew | refine Its.ext ?_ ((Ext.refl _).alloc _)))).mono ?_
        rintro e w303 ⟨rfl, hZ302⟩
        have hE302 : Ext w302 w303 := Ext.trans (by repeat (first | exact Ext.refl _ | apply Ext.alloc | apply Ext.drew)) hZ302
        replace hp := hp.ext hE302
        replace b1 := b1.ext hE302
        replace bP := bP.ext hE302
        replace hv301 := hv301.ext hE302
        have hF302 := Ext.trans (hF301) hE302
        have b1_0 : World.cell? w303 ⟨w.heap.size, 0, none⟩ = some (.int .u8 1) := b1.cell 0
        have b1_1 : World.cell? w303 ⟨w.heap.size, 1, none⟩ = some (.int .i64 1) := b1.cell 1
        have b1_2 : World.cell? w303 ⟨w.heap.size, 2, none⟩ = some (.int .i64 0) := b1.cell 2
        have b1_l := b1.lt
        have bP_0 : World.cell? w303 ⟨w.heap.size + 1, 0, none⟩ = some (.int .u8 0) := bP.cell 0
        have bP_1 : World.cell? w303 ⟨w.heap.size + 1, 1, none⟩ = some (.int .u8 4) := bP.cell 1
        have bP_2 : World.cell? w303 ⟨w.heap.size + 1, 2, none⟩ = some (.int .u8 1) := bP.cell 2
        have bP_3 : World.cell? w303 ⟨w.heap.size + 1, 3, none⟩ = some (.int .u8 2) := bP.cell 3
        have bP_4 : World.cell? w303 ⟨w.heap.size + 1, 4, none⟩ = some (.int .u8 3) := bP.cell 4
        have bP_5 : World.cell? w303 ⟨w.heap.size + 1, 5, none⟩ = some (.int .u8 0) := bP.cell 5
        have bP_l := bP.lt
        go_wp2
        go_roundw
        case rel => exact ⟨5, by omega, by omega, rfl, hF302⟩
        case measure => simp [intOf]
      · have hsz : Hid (0 = 0) := Hid.mk rfl
        have b1_0 : World.cell? wr ⟨w.heap.size, 0, none⟩ = some (.int .u8 1) := b1.cell 0
        have b1_1 : World.cell? wr ⟨w.heap.size, 1, none⟩ = some (.int .i64 1) := b1.cell 1
        have b1_2 : World.cell? wr ⟨w.heap.size, 2, none⟩ = some (.int .i64 0) := b1.cell 2
        have b1_l := b1.lt
        have bP_0 : World.cell? wr ⟨w.heap.size + 1, 0, none⟩ = some (.int .u8 0) := bP.cell 0
        have bP_1 : World.cell? wr ⟨w.heap.size + 1, 1, none⟩ = some (.int .u8 4) := bP.cell 1
        have bP_2 : World.cell? wr ⟨w.heap.size + 1, 2, none⟩ = some (.int .u8 1) := bP.cell 2
        have bP_3 : World.cell? wr ⟨w.heap.size + 1, 3, none⟩ = some (.int .u8 2) := bP.cell 3
        have bP_4 : World.cell? wr ⟨w.heap.size + 1, 4, none⟩ = some (.int .u8 3) := bP.cell 4
        have bP_5 : World.cell? wr ⟨w.heap.size + 1, 5, none⟩ = some (.int .u8 0) := bP.cell 5
        have bP_l := bP.lt
        go_wp2_with fail
        clear b1_0 b1_1 b1_2 b1_l
        clear bP_0 bP_1 bP_2 bP_3 bP_4 bP_5 bP_l
        refine (grant_Perm (k := 5) (hp.ext (by repeat (first | exact Ext.refl _ | apply Ext.alloc | apply Ext.drew))) (by unfold u8B; decide)).mono ?_
        rintro e w351 ⟨rfl, rfl⟩
        rw [show permR 5 = 0 from by decide, show kindErr 5 = 2 from by decide]
        have b1_0 : World.cell? wr ⟨w.heap.size, 0, none⟩ = some (.int .u8 1) := b1.cell 0
        have b1_1 : World.cell? wr ⟨w.heap.size, 1, none⟩ = some (.int .i64 1) := b1.cell 1
        have b1_2 : World.cell? wr ⟨w.heap.size, 2, none⟩ = some (.int .i64 0) := b1.cell 2
        have b1_l := b1.lt
        have bP_0 : World.cell? wr ⟨w.heap.size + 1, 0, none⟩ = some (.int .u8 0) := bP.cell 0
        have bP_1 : World.cell? wr ⟨w.heap.size + 1, 1, none⟩ = some (.int .u8 4) := bP.cell 1
        have bP_2 : World.cell? wr ⟨w.heap.size + 1, 2, none⟩ = some (.int .u8 1) := bP.cell 2
        have bP_3 : World.cell? wr ⟨w.heap.size + 1, 3, none⟩ = some (.int .u8 2) := bP.cell 3
        have bP_4 : World.cell? wr ⟨w.heap.size + 1, 4, none⟩ = some (.int .u8 3) := bP.cell 4
        have bP_5 : World.cell? wr ⟨w.heap.size + 1, 5, none⟩ = some (.int .u8 0) := bP.cell 5
        have bP_l := bP.lt
        go_wp2_with fail
        clear b1_0 b1_1 b1_2 b1_l
        clear bP_0 bP_1 bP_2 bP_3 bP_4 bP_5 bP_l
        refine (grant_Writes (k := 5) _ (by unfold u8B; decide)).mono ?_
        rintro e w351 ⟨rfl, hZ350⟩
        have hE350 : Ext wr w351 := Ext.trans (by repeat (first | exact Ext.refl _ | apply Ext.alloc | apply Ext.drew)) hZ350
        replace hp := hp.ext hE350
        replace b1 := b1.ext hE350
        replace bP := bP.ext hE350
        have hF350 := Ext.trans (hX) hE350
        rw [show writesOf 5 = false from by decide, show kindErr 5 = 2 from by decide]
        have b1_0 : World.cell? w351 ⟨w.heap.size, 0, none⟩ = some (.int .u8 1) := b1.cell 0
        have b1_1 : World.cell? w351 ⟨w.heap.size, 1, none⟩ = some (.int .i64 1) := b1.cell 1
        have b1_2 : World.cell? w351 ⟨w.heap.size, 2, none⟩ = some (.int .i64 0) := b1.cell 2
        have b1_l := b1.lt
        have bP_0 : World.cell? w351 ⟨w.heap.size + 1, 0, none⟩ = some (.int .u8 0) := bP.cell 0
        have bP_1 : World.cell? w351 ⟨w.heap.size + 1, 1, none⟩ = some (.int .u8 4) := bP.cell 1
        have bP_2 : World.cell? w351 ⟨w.heap.size + 1, 2, none⟩ = some (.int .u8 1) := bP.cell 2
        have bP_3 : World.cell? w351 ⟨w.heap.size + 1, 3, none⟩ = some (.int .u8 2) := bP.cell 3
        have bP_4 : World.cell? w351 ⟨w.heap.size + 1, 4, none⟩ = some (.int .u8 3) := bP.cell 4
        have bP_5 : World.cell? w351 ⟨w.heap.size + 1, 5, none⟩ = some (.int .u8 0) := bP.cell 5
        have bP_l := bP.lt
        go_wp2_with fail
        clear b1_0 b1_1 b1_2 b1_l
        clear bP_0 bP_1 bP_2 bP_3 bP_4 bP_5 bP_l
        refine (grant_RetagO (l := [⟨1, 1, 0⟩]) (k := 5) (hp.ext (by repeat (first | exact Ext.refl _ | apply Ext.alloc | apply Ext.drew))) (by unfold u8B; decide) 1 ⟨0, 7, 3⟩ (by repeat (first | exact Its.lit _ _ [⟨1, 1, 0⟩] _ _ (by first | (simp; done) | exact hsz.out | (have := hsz.out; simp; omega)) rfl (by simp [maxLen]) rfl | refine Its.ext ?_ (Ext.refl _).drew | refine Its.ext ?_ ((Ext.refl _).alloc _)))).mono ?_
        rintro e w352 ⟨v351, u351, rfl, ov351, ou351, -, hZ351⟩
        have hE351 : Ext w351 w352 := Ext.trans (by repeat (first | exact Ext.refl _ | apply Ext.alloc | apply Ext.drew)) hZ351
        replace hp := hp.ext hE351
        replace b1 := b1.ext hE351
        replace bP := bP.ext hE351
        have hF351 := Ext.trans (hF350) hE351
        rw [gn_5] at ov351 ou351 ⊢
        have hv351 : Its w352 v351 [] := Own.sl ov351
        obtain ⟨av351, cv351, rfl, -⟩ := hv351.form
        clear ov351 ou351
        dsimp only
        have b1_0 : World.cell? w352 ⟨w.heap.size, 0, none⟩ = some (.int .u8 1) := b1.cell 0
        have b1_1 : World.cell? w352 ⟨w.heap.size, 1, none⟩ = some (.int .i64 1) := b1.cell 1
        have b1_2 : World.cell? w352 ⟨w.heap.size, 2, none⟩ = some (.int .i64 0) := b1.cell 2
        have b1_l := b1.lt
        have bP_0 : World.cell? w352 ⟨w.heap.size + 1, 0, none⟩ = some (.int .u8 0) := bP.cell 0
        have bP_1 : World.cell? w352 ⟨w.heap.size + 1, 1, none⟩ = some (.int .u8 4) := bP.cell 1
        have bP_2 : World.cell? w352 ⟨w.heap.size + 1, 2, none⟩ = some (.int .u8 1) := bP.cell 2
        have bP_3 : World.cell? w352 ⟨w.heap.size + 1, 3, none⟩ = some (.int .u8 2) := bP.cell 3
        have bP_4 : World.cell? w352 ⟨w.heap.size + 1, 4, none⟩ = some (.int .u8 3) := bP.cell 4
        have bP_5 : World.cell? w352 ⟨w.heap.size + 1, 5, none⟩ = some (.int .u8 0) := bP.cell 5
        have bP_l := bP.lt
        go_wp2_with fail
        clear b1_0 b1_1 b1_2 b1_l
        clear bP_0 bP_1 bP_2 bP_3 bP_4 bP_5 bP_l
        refine (grant_Check (k := 5) _ (by unfold u8B; decide)).mono ?_
        rintro e w353 ⟨rfl, rfl⟩
        rw [show kindErr 5 = 2 from by decide]
        have b1_0 : World.cell? w352 ⟨w.heap.size, 0, none⟩ = some (.int .u8 1) := b1.cell 0
        have b1_1 : World.cell? w352 ⟨w.heap.size, 1, none⟩ = some (.int .i64 1) := b1.cell 1
        have b1_2 : World.cell? w352 ⟨w.heap.size, 2, none⟩ = some (.int .i64 0) := b1.cell 2
        have b1_l := b1.lt
        have bP_0 : World.cell? w352 ⟨w.heap.size + 1, 0, none⟩ = some (.int .u8 0) := bP.cell 0
        have bP_1 : World.cell? w352 ⟨w.heap.size + 1, 1, none⟩ = some (.int .u8 4) := bP.cell 1
        have bP_2 : World.cell? w352 ⟨w.heap.size + 1, 2, none⟩ = some (.int .u8 1) := bP.cell 2
        have bP_3 : World.cell? w352 ⟨w.heap.size + 1, 3, none⟩ = some (.int .u8 2) := bP.cell 3
        have bP_4 : World.cell? w352 ⟨w.heap.size + 1, 4, none⟩ = some (.int .u8 3) := bP.cell 4
        have bP_5 : World.cell? w352 ⟨w.heap.size + 1, 5, none⟩ = some (.int .u8 0) := bP.cell 5
        have bP_l := bP.lt
        go_wp2
        go_roundw
        case rel => exact ⟨6, by omega, by omega, rfl, hF351⟩
        case measure => simp [intOf]
    · have hqe : q = 6 := by omega
      subst hqe
      clear bP
      have hF499 := Ext.trans (hF1) hX
      have b1_0 : World.cell? wr ⟨w.heap.size, 0, none⟩ = some (.int .u8 1) := b1.cell 0
      have b1_1 : World.cell? wr ⟨w.heap.size, 1, none⟩ = some (.int .i64 1) := b1.cell 1
      have b1_2 : World.cell? wr ⟨w.heap.size, 2, none⟩ = some (.int .i64 0) := b1.cell 2
      have b1_l := b1.lt
      go_upto_region 15 with fail
      clear b1_0 b1_1 b1_2 b1_l
      obtain ⟨wf, hwf⟩ : ∃ z, wr = z := ⟨_, rfl⟩
      rw [hwf] at hp b1 hF499 ⊢
      clear hwf
      obtain ⟨B, hB⟩ : ∃ n, Array.size (World.heap wf) = n := ⟨_, rfl⟩
      have hO : Own (World.alloc wf (.cells #[.int .u8 1, .int .i64 1, .int .i64 0] 23)) B 23 3 (.slice (some ⟨B, 0, none⟩) 1 1) 1 ((full30 0).flatMap Item.row) := by
        have h := Own.lit (B := B) (e := 23) (k := 3) wf #[.int .u8 1, .int .i64 1, .int .i64 0] 1 (by rw [hB]; exact Nat.le_refl _) (by simp [maxLen]) rfl
        rw [hB] at h
        exact h
      have hOE : Ext wf (World.alloc wf (.cells #[.int .u8 1, .int .i64 1, .int .i64 0] 23)) := (Ext.refl _).alloc _
      rw [hB]
      go_wp2
      obtain ⟨i3, z3, hi, hz, hi3, hz3, hby⟩ := Item.infoE
      have hi := Lib.hid hi; have hz := Lib.hid hz; have hi3 := Lib.hid hi3; have hz3 := Lib.hid hz3; have hby := Lib.hid hby
      have hBh := Lib.hid hB
      clear hB
      go_loopw [12, 13] (fun sv iv wr => ∃ j : Nat, j ≤ 599 ∧ iv = .int .i64 ((j : Int) + 1) ∧ (∃ a c, sv = .slice a (j + 1) c) ∧ Own wr B 23 3 sv (j + 1) ((full30 j).flatMap Item.row) ∧ Ext wf wr) (fun _ iv _ => 600 - (intOf iv).toNat)
      case atStart => exact ⟨0, by omega, rfl, ⟨_, _, rfl⟩, hO, hOE⟩
      case round =>
        obtain ⟨j, hj, rfl, ⟨a, c, rfl⟩, hW, hXi⟩ := hrel
        by_cases hj9 : j < 599
        · have hj9' : decide (((j : Int) + 1) < 600) = true := decide_eq_true (by omega)
          have hW := Lib.hid hW
          have hXi := Lib.hid hXi
          have hE : Hid (Ext wr (wr.alloc (.cells #[.int .u8 4, .int .i64 2, .int .i64 0] 23))) := Hid.mk ((Ext.refl wr).alloc _)
          have hx : Hid (Sl (wr.alloc (.cells #[.int .u8 4, .int .i64 2, .int .i64 0] 23)) 3 (.slice (some ⟨wr.heap.size, 0, none⟩) 1 1) 1 (Item.row ⟨4, 2, 0⟩)) := Hid.mk ((Own.lit (B := 0) (e := 23) (k := 3) wr #[.int .u8 4, .int .i64 2, .int .i64 0] 1 (Nat.zero_le _) (by simp [maxLen]) rfl).sl)
          have hsz2 : Hid (B ≤ (wr.alloc (.cells #[.int .u8 4, .int .i64 2, .int .i64 0] 23)).heap.size) := Hid.mk (by have h1 := hXi.out.size; rw [hBh.out] at h1; simp; omega)
          have hk6 : Hid (j + 1 + 1 ≤ 1000) := Hid.mk (by omega)
          go_wp2_with (at_builtin; refine Hid.out ?_)
          refine Hid.mk ?_
          refine wpList_append_any rfl _ _ 31 31 rfl rfl rfl Tryd.underlying31 Tryd.underlying31 hi.out hz.out hi3.out hz3.out (hW.out.ext hE.out) hx.out (by simp [Item.row, Value.oneCell']) (Nat.le_trans hk6.out (by simp [maxLen])) (by rw [hby.out]; exact Nat.le_trans (Nat.mul_le_mul_right 24 hk6.out) (by decide)) hsz2.out ?_
          intro v' w' hO' hK' _ _
          have hN : Hid (Own w' B 23 3 v' (j + 1 + 1) ((full30 (j + 1)).flatMap Item.row)) := Hid.mk (by rw [← full30_next, List.flatMap_append]; exact hO')
          obtain ⟨a', c', rfl, -⟩ := (Own.sl hO').slice_form
          have hXn : Hid (Ext wf w') := Hid.mk (Below.trans (hXi.out.trans hE.out) (Below.mono hK'.below (by rw [hBh.out]; exact Nat.le_refl _)))
          clear hO' hK'
          go_wp2
          go_roundw
          case rel => exact ⟨j + 1, by omega, by go_num, ⟨_, _, rfl⟩, hN.out, hXn.out⟩
          case measure => simp [intOf]; omega
        · have hje : j = 599 := by omega
          subst hje
          rw [hFF.out] at hW
          have hFu : Its wr (.slice a 600 c) F := by have h := hW.sl; unfold Its; rw [fl.out]; exact h
          clear hW hj hj9 hO hOE
          replace hp := hp.ext hXi
          have hF599 := Ext.trans hF499 hXi
          have hsz : Hid (0 = 0) := Hid.mk rfl
          go_wp2_with fail
          refine (grant_RetagO (l := [⟨0, 0, 0⟩]) (k := 9) (hp.ext (by repeat (first | exact Ext.refl _ | apply Ext.alloc | apply Ext.drew))) (by unfold u8B; decide) 1 ⟨1, 0, 0⟩ (by repeat (first | exact Its.lit _ _ [⟨0, 0, 0⟩] _ _ (by first | rfl | (simp; done)) rfl (by simp [maxLen]) rfl | refine Its.ext ?_ (Ext.refl _).drew | refine Its.ext ?_ ((Ext.refl _).alloc _)))).mono ?_
          rintro e w601 ⟨v600, u600, rfl, ov600, ou600, -, hZ600⟩
          have hE600 : Ext wr w601 := Ext.trans (by repeat (first | exact Ext.refl _ | apply Ext.alloc | apply Ext.drew)) hZ600
          replace hp := hp.ext hE600
          replace hFu := hFu.ext hE600
          have hF600 := Ext.trans (hF599) hE600
          rw [gn_a] at ov600 ou600 ⊢
          clear ov600 ou600
          dsimp only
          go_wp2_with fail
          refine (grant_RetagO (l := []) (k := 1) (hp.ext (by repeat (first | exact Ext.refl _ | apply Ext.alloc | apply Ext.drew))) (by unfold u8B; decide) 1 ⟨1, 0, 0⟩ (Its.nil _)).mono ?_
          rintro e w602 ⟨v601, u601, rfl, ov601, ou601, -, hZ601⟩
          have hE601 : Ext w601 w602 := Ext.trans (by repeat (first | exact Ext.refl _ | apply Ext.alloc | apply Ext.drew)) hZ601
          replace hp := hp.ext hE601
          replace hFu := hFu.ext hE601
          have hF601 := Ext.trans (hF600) hE601
          rw [gn_b] at ov601 ou601 ⊢
          clear ov601 ou601
          dsimp only
          go_wp2_with fail
          refine (grant_RetagO (l := []) (k := 1) (hp.ext (by repeat (first | exact Ext.refl _ | apply Ext.alloc | apply Ext.drew))) (by unfold u8B; decide) 1 ⟨0, -1, 0⟩ (Its.nil _)).mono ?_
          rintro e w603 ⟨v602, u602, rfl, ov602, ou602, -, hZ602⟩
          have hE602 : Ext w602 w603 := Ext.trans (by repeat (first | exact Ext.refl _ | apply Ext.alloc | apply Ext.drew)) hZ602
          replace hp := hp.ext hE602
          replace hFu := hFu.ext hE602
          have hF602 := Ext.trans (hF601) hE602
          rw [gn_c] at ov602 ou602 ⊢
          clear ov602 ou602
          dsimp only
          go_wp2_with fail
          refine (grant_RetagO (l := []) (k := 1) (hp.ext (by repeat (first | exact Ext.refl _ | apply Ext.alloc | apply Ext.drew))) (by unfold u8B; decide) 1 ⟨0, 0, 1000001⟩ (Its.nil _)).mono ?_
          rintro e w604 ⟨v603, u603, rfl, ov603, ou603, -, hZ603⟩
          have hE603 : Ext w603 w604 := Ext.trans (by repeat (first | exact Ext.refl _ | apply Ext.alloc | apply Ext.drew)) hZ603
          replace hp := hp.ext hE603
          replace hFu := hFu.ext hE603
          have hF603 := Ext.trans (hF602) hE603
          rw [gn_d] at ov603 ou603 ⊢
          clear ov603 ou603
          dsimp only
          go_wp2_with fail
          refine (grant_RetagO (l := []) (k := 1) (hp.ext (by repeat (first | exact Ext.refl _ | apply Ext.alloc | apply Ext.drew))) (by unfold u8B; decide) 1 ⟨0, 0, 0⟩ (Its.nil _)).mono ?_
          rintro e w605 ⟨v604, u604, rfl, ov604, ou604, -, hZ604⟩
          have hE604 : Ext w604 w605 := Ext.trans (by repeat (first | exact Ext.refl _ | apply Ext.alloc | apply Ext.drew)) hZ604
          replace hp := hp.ext hE604
          replace hFu := hFu.ext hE604
          have hF604 := Ext.trans (hF603) hE604
          rw [gn_e] at ov604 ou604 ⊢
          have hv604 : Its w605 v604 [] := Own.sl ov604
          obtain ⟨av604, cv604, rfl, -⟩ := hv604.form
          clear ov604 ou604
          dsimp only
          go_wp2_with fail
          refine (grant_RetagO (l := F) (k := 1) (hp.ext (by repeat (first | exact Ext.refl _ | apply Ext.alloc | apply Ext.drew))) (by unfold u8B; decide) 2 ⟨0, 3, 0⟩ (hFu.ext (by repeat (first | exact Ext.refl _ | apply Ext.alloc | apply Ext.drew)))).mono ?_
          rintro e w606 ⟨v605, u605, rfl, ov605, ou605, -, hZ605⟩
          have hE605 : Ext w605 w606 := Ext.trans (by repeat (first | exact Ext.refl _ | apply Ext.alloc | apply Ext.drew)) hZ605
          replace hp := hp.ext hE605
          replace hFu := hFu.ext hE605
          have hF605 := Ext.trans (hF604) hE605
          rw [d1.out] at ov605 ou605 ⊢
          clear ov605 ou605
          dsimp only
          go_wp2_with fail
          refine (grant_RetagO (l := F) (k := 1) (hp.ext (by repeat (first | exact Ext.refl _ | apply Ext.alloc | apply Ext.drew))) (by unfold u8B; decide) 3 ⟨0, 3, 0⟩ (hFu.ext (by repeat (first | exact Ext.refl _ | apply Ext.alloc | apply Ext.drew)))).mono ?_
          rintro e w607 ⟨v606, u606, rfl, ov606, ou606, -, hZ606⟩
          have hE606 : Ext w606 w607 := Ext.trans (by repeat (first | exact Ext.refl _ | apply Ext.alloc | apply Ext.drew)) hZ606
          replace hp := hp.ext hE606
          replace hFu := hFu.ext hE606
          have hF606 := Ext.trans (hF605) hE606
          rw [d2.out] at ov606 ou606 ⊢
          have hv606 : Its w607 v606 [] := Own.sl ov606
          obtain ⟨av606, cv606, rfl, -⟩ := hv606.form
          clear ov606 ou606
          dsimp only
          go_wp2_with fail
          refine (grant_RetagO (l := F) (k := 2) (hp.ext (by repeat (first | exact Ext.refl _ | apply Ext.alloc | apply Ext.drew))) (by unfold u8B; decide) 1 ⟨0, 1000000, 1000000⟩ (hFu.ext (by repeat (first | exact Ext.refl _ | apply Ext.alloc | apply Ext.drew)))).mono ?_
          rintro e w608 ⟨v607, u607, rfl, ov607, ou607, -, hZ607⟩
          have hE607 : Ext w607 w608 := Ext.trans (by repeat (first | exact Ext.refl _ | apply Ext.alloc | apply Ext.drew)) hZ607
          replace hp := hp.ext hE607
          replace hFu := hFu.ext hE607
          have hF607 := Ext.trans (hF606) hE607
          rw [d3.out] at ov607 ou607 ⊢
          have hv607 : Its w608 v607 [⟨1, 1, 0⟩, ⟨1, 1000000, 1000000⟩] := Own.sl ov607
          obtain ⟨av607, cv607, rfl, -⟩ := hv607.form
          have hu607 : Its w608 u607 G := Own.sl ou607
          obtain ⟨au607, cu607, rfl, -⟩ := hu607.form
          rw [gl.out]
          clear ov607 ou607
          dsimp only
          go_wp2_with fail
          refine (law30_alive (hp.ext (by repeat (first | exact Ext.refl _ | apply Ext.alloc | apply Ext.drew)))).mono ?_
          rintro e w609 ⟨rfl, hZ608⟩
          have hE608 : Ext w608 w609 := Ext.trans (by repeat (first | exact Ext.refl _ | apply Ext.alloc | apply Ext.drew)) hZ608
          replace hp := hp.ext hE608
          replace hFu := hFu.ext hE608
          have hF608 := Ext.trans (hF607) hE608
          go_wp2
          go_ret
          exact ⟨rfl, hF608⟩
set_option maxRecDepth 100000 in
theorem grantNames_contract (H : Type) (enc : TypeId × Value → H) (W : World) (base : Nat) (args : Array Value) (ds gs : List (DataW H)) (before : List MemPlace)
    (hval0 : ∀ (j : Nat) t v, Tryd.f3.params[j]? = some t → args[j]? = some v → Value.okWide Tryd.prog W .any base t v)
    (hW : DataW.Whole enc Tryd.prog Tryd.f3.params.toList Rows.grantNamesSpec.vars false W args.toList ds gs before) (hL : laidMetH Tryd.prog Rows.grantNamesRow.laid W) :
    Calls Tryd.prog 3 args W fun e W' => ∃ v, e = .returned v ∧ Rows.grantNamesSpec.post enc Tryd.prog Tryd.f3 false true false false W args v W' := by
  have hval : ∀ (j : Nat) t v, Tryd.f3.params[j]? = some t → args[j]? = some v → Value.okWide Tryd.prog W .any base t v := hval0
  have hW' := hW
  obtain ⟨p, q, hA0, hV, rfl, hfz, hnd⟩ := hW
  have hA : DataW.TrodAll enc Tryd.prog W 0 (fun _ => true) true Tryd.f3.params.toList args.toList ds p := hA0
  rw [Tryd.params3] at hA hval
  obtain ⟨hargs, rfl, rfl⟩ := trodAll_nil hA
  obtain rfl : args = #[] := by cases args; simp_all
  refine (grantNames_walk (perms_of_laid hL) ).mono fun e W' ⟨he, hb⟩ => ?_
  subst he
  exact ⟨_, rfl, post_law TrydlaidOut (tb := 4) rfl Tryd.underlying4 (by kernel_rfl) rfl (fun ds hd => match ds, hd with | [], _ => rfl) hW' hb⟩
theorem grantNames_met (os : Os) : laidMet Tryd.prog Rows.grantNamesRow.laid ((doorWorld os).forCall (fun _ _ => 0) ⟨#[], #[], []⟩).memory :=
  laidMet_of_run' 8 (by kernel_rfl) (by kernel_rfl)
theorem grantNames_reads (os : Os) {H : Type} (enc : TypeId × Value → H) : ∃ places, DataW.whole enc Tryd.prog ((doorWorld os).forCall (fun _ _ => 0) ⟨#[], #[], []⟩).memory Tryd.f3.params.toList Rows.grantNamesSpec.vars false (#[] : Array Value).toList 8 = some ([], [], places) :=
  ⟨[], by kernel_rfl⟩
set_option maxRecDepth 100000 in
theorem grantNames_lifted (os : Os) (started : os.Started) (H : Type) (enc : TypeId × Value → H) (F : Stop.Interp) :
    ReturnsInHanded {} Tryd.checked os 3 .any ((OpenSpec.ofChange Rows.grantNamesSpec).preRow enc Tryd.prog Tryd.f3 Rows.grantNamesRow.domain false Rows.grantNamesRow.laid) (((OpenSpec.ofChange Rows.grantNamesSpec).at F).post enc Tryd.prog Tryd.f3 false true false false) := by
  obtain ⟨places, hx⟩ := grantNames_reads os enc
  refine returnsInHanded_of_row (C := Tryd.checked) (s := OpenSpec.ofChange Rows.grantNamesSpec) Trydown started (by kernel_rfl) Tryd.func3
    (witness_row_at (enc := enc) (C := Tryd.checked) false (doorWorld os) #[] rfl (by kernel_rfl) (by kernel_rfl) (by kernel_rfl)
      (OpenSpec.preRow_of_cond 8 hx (by kernel_rfl) (fun k hk => by cases hk) (by kernel_rfl) (grantNames_met os))) ?_
  intro W base args ds gs before hval hW _ _ _ hL _ _
  exact grantNames_contract H enc W base args ds gs before hval hW hL
theorem grantNames_said : Rows.GrantNamesSaid :=
  OpenClaim.holds_of_cond 3 Tryd.f3 rfl rfl rfl rfl rfl rfl rfl ⟨rfl, rfl, rfl, rfl, rfl⟩ rfl rfl rfl rfl rfl (by kernel_rfl) Tryd.func3 (by kernel_rfl)
    (of_decide_eq_true (by kernel_rfl)) (by unfold Func.isWrapper; first | (rw [if_pos (by decide +kernel)]; kernel_rfl) | (rw [if_neg (by decide +kernel)]; exact ⟨rfl, rfl⟩))
    (fun os started H enc _ F => by rw [OpenClaim.pre_eq_preRow]; exact grantNames_lifted os started H enc F)
theorem grantNames_plain (f : FuncId) (fn : Func) (hf : Tryd.pinned.checked.prog.funcNamed "pawnshop/pawnshoplaw30.GrantNames" = some f) (hfn : Tryd.pinned.checked.prog.funcs[f]? = some fn) :
    false = Tryd.pinned.checked.prog.looks [] ∧ ∀ (j : Nat) t, fn.params[j]? = some t → Tryd.pinned.checked.prog.wantsStandIn t = false := by
  obtain rfl : f = 3 := Option.some.inj ((show Tryd.prog.funcNamed "pawnshop/pawnshoplaw30.GrantNames" = some 3 by kernel_rfl).symm.trans hf) |>.symm
  obtain rfl : fn = Tryd.f3 := (Option.some.inj (Tryd.func3.symm.trans hfn)).symm
  refine ⟨by kernel_rfl, fun j t ht => ?_⟩
  have hm : t ∈ Tryd.f3.params.toList := by simpa using Array.mem_of_getElem? ht
  have hall : (Tryd.f3.params.toList.all fun u => !Tryd.prog.wantsStandIn u) = true := by kernel_rfl
  exact (show Tryd.prog.wantsStandIn t = false by simpa using List.all_eq_true.1 hall t hm)
theorem grantNames_card : Rows.GrantNamesCardSaid :=
  Claim7.holds_tied_plain_at .later [] _ _ _ _ grantNames_said (fun _ h => by cases h) (by kernel_rfl) (fun _ h => by cases h) grantNames_row_tie rfl ⟨rfl, rfl⟩ (by kernel_rfl) rfl grantNames_plain (by kernel_rfl)

end Go.Proofs.YtkbocenpkdaogaaDoor
