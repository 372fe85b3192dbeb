/- The statement DeallocAccess: for all arguments the call returns true. Condition: the laid permissions. (printed by gen/dea34c.py) -/
import Derived.Test.YtjfkfibhgilolaaDoorQ09
import Derived.Test.YtjfkfibhgilolaaDoorQ08
import Derived.Deep.QuietTactic
namespace Go.Proofs.YtjfkfibhgilolaaDoor
set_option maxRecDepth 100000
open Go.ChangeShapes Go.WideShapes Go.ChangeAt Go.RowKit

set_option maxRecDepth 100000 in
set_option maxHeartbeats 25600000 in
theorem deallocAccess_walk {x : Stk} {run : List Int} {what : Int} {s v : Value} {w : World} (hp : Perms w) (hk : u8B what) (tag call : Int) (hl : Sts w s x.cells) (hr : Nts w v run) :
    Calls Tryd.prog 12 #[.agg #[.int .i64 x.num, s], .int .u8 what, .int .i64 tag, .int .i64 call, v] w fun e w' => e = .returned (.bool true) ∧ Ext w w' := by
  obtain ⟨num, l⟩ := x
  obtain ⟨q, cp, rfl, -⟩ := Sts.form hl
  obtain ⟨a2, cp2, rfl, -⟩ := hr.form
  have hF : Ext w (w.alloc (.cells #[.int .i64 num, .slice q l.length cp] 56)) := (Ext.refl w).alloc _
  have bM := Box.new w 56 #[.int .i64 num, .slice q l.length cp]
  have hL : Sts _ _ l := hl.ext hF
  have hR : Nts _ _ run := hr.ext hF
  have hP : Perms _ := hp.ext hF
  replace hk := Lib.hid hk
  clear hl hr hp
  dsimp only at *
  obtain ⟨⟨⟨yn, yl⟩, why, er⟩, hU⟩ : ∃ B, (if what = 0 then use33 ⟨num, l⟩ 0 (l.length : Nat) tag false run else if what = 5 then use33 ⟨num, l⟩ 0 (l.length : Nat) tag true run else tag33 ⟨num, l⟩ 0 (l.length : Nat) what tag ⟨0, 7, call⟩ run) = B := ⟨_, rfl⟩
  obtain ⟨w0, hw0⟩ : ∃ z, (w.alloc (.cells #[.int .i64 num, .slice q l.length cp] 56)) = z := ⟨_, rfl⟩
  rw [hw0] at hF bM hL hR hP
  cases hg0 : greatK l
  rotate_left
  · have hg := Lib.hid hg0
    clear hg0
    replace hU := Lib.hid hU
    go_enter Tryd.func12, Tryd.ntmps12
    go_wp2_with fail
    try clear hw0
    refine (law34_alive hP).mono ?_
    rintro e w1 ⟨rfl, hZ0⟩
    have hE0 : Ext w0 w1 := Ext.trans (by repeat (first | exact Ext.refl _ | apply Ext.alloc | apply Ext.drew)) hZ0
    replace bM := bM.ext hE0
    replace hL := hL.ext hE0
    replace hR := hR.ext hE0
    replace hP := hP.ext hE0
    have hF0 := Ext.trans (hF) hE0
    have bM_0 : World.cell? w1 ⟨w.heap.size, 0, none⟩ = some (.int .i64 num) := bM.cell 0
    have bM_1 : World.cell? w1 ⟨w.heap.size, 1, none⟩ = some (.slice q l.length cp) := bM.cell 1
    have bM_l := bM.lt
    go_wp2_with fail
    clear bM_0 bM_1 bM_l
    refine (ref33_Great hL).mono ?_
    rintro e w2 ⟨rfl, hZ1⟩
    have hE1 : Ext w1 w2 := Ext.trans (by repeat (first | exact Ext.refl _ | apply Ext.alloc | apply Ext.drew)) hZ1
    replace bM := bM.ext hE1
    replace hL := hL.ext hE1
    replace hR := hR.ext hE1
    replace hP := hP.ext hE1
    have hF1 := Ext.trans (hF0) hE1
    rw [hg.out]
    have bM_0 : World.cell? w2 ⟨w.heap.size, 0, none⟩ = some (.int .i64 num) := bM.cell 0
    have bM_1 : World.cell? w2 ⟨w.heap.size, 1, none⟩ = some (.slice q l.length cp) := bM.cell 1
    have bM_l := bM.lt
    go_wp2
    go_ret
    exact ⟨rfl, hF1⟩

  have hg := Lib.hid hg0
  clear hg0
  by_cases h5 : 50 < run.length
  · have t5 : decide (50 < run.length) = true := decide_eq_true h5
    have t5' : decide ((50 : Int) < (run.length : Int)) = true := decide_eq_true (by omega)
    replace hU := Lib.hid hU
    go_enter Tryd.func12, Tryd.ntmps12
    go_wp2_with fail
    try clear hw0
    refine (law34_alive hP).mono ?_
    rintro e w1 ⟨rfl, hZ0⟩
    have hE0 : Ext w0 w1 := Ext.trans (by repeat (first | exact Ext.refl _ | apply Ext.alloc | apply Ext.drew)) hZ0
    replace bM := bM.ext hE0
    replace hL := hL.ext hE0
    replace hR := hR.ext hE0
    replace hP := hP.ext hE0
    have hF0 := Ext.trans (hF) hE0
    have bM_0 : World.cell? w1 ⟨w.heap.size, 0, none⟩ = some (.int .i64 num) := bM.cell 0
    have bM_1 : World.cell? w1 ⟨w.heap.size, 1, none⟩ = some (.slice q l.length cp) := bM.cell 1
    have bM_l := bM.lt
    go_wp2_with fail
    clear bM_0 bM_1 bM_l
    refine (ref33_Great hL).mono ?_
    rintro e w2 ⟨rfl, hZ1⟩
    have hE1 : Ext w1 w2 := Ext.trans (by repeat (first | exact Ext.refl _ | apply Ext.alloc | apply Ext.drew)) hZ1
    replace bM := bM.ext hE1
    replace hL := hL.ext hE1
    replace hR := hR.ext hE1
    replace hP := hP.ext hE1
    have hF1 := Ext.trans (hF0) hE1
    rw [hg.out]
    have bM_0 : World.cell? w2 ⟨w.heap.size, 0, none⟩ = some (.int .i64 num) := bM.cell 0
    have bM_1 : World.cell? w2 ⟨w.heap.size, 1, none⟩ = some (.slice q l.length cp) := bM.cell 1
    have bM_l := bM.lt
    go_wp2
    go_ret
    exact ⟨rfl, hF1⟩

  have t5 : decide (50 < run.length) = false := decide_eq_false h5
  have t5' : decide ((50 : Int) < (run.length : Int)) = false := decide_eq_false (by omega)
  replace h5 := Lib.hid h5
  by_cases hk0 : stkErr ⟨num, l⟩ = 0
  rotate_left
  · obtain ⟨ck, hck⟩ : ∃ z, stkErr ⟨num, l⟩ = z := ⟨_, rfl⟩
    have c1 : (ck != 0) = true := by rw [← hck]; simp [hk0]
    replace hck := Lib.hid hck
    replace hU := Lib.hid hU
    clear hk0
    go_enter Tryd.func12, Tryd.ntmps12
    go_wp2_with fail
    try clear hw0
    refine (law34_alive hP).mono ?_
    rintro e w1 ⟨rfl, hZ0⟩
    have hE0 : Ext w0 w1 := Ext.trans (by repeat (first | exact Ext.refl _ | apply Ext.alloc | apply Ext.drew)) hZ0
    replace bM := bM.ext hE0
    replace hL := hL.ext hE0
    replace hR := hR.ext hE0
    replace hP := hP.ext hE0
    have hF0 := Ext.trans (hF) hE0
    have bM_0 : World.cell? w1 ⟨w.heap.size, 0, none⟩ = some (.int .i64 num) := bM.cell 0
    have bM_1 : World.cell? w1 ⟨w.heap.size, 1, none⟩ = some (.slice q l.length cp) := bM.cell 1
    have bM_l := bM.lt
    go_wp2_with fail
    clear bM_0 bM_1 bM_l
    refine (ref33_Great hL).mono ?_
    rintro e w2 ⟨rfl, hZ1⟩
    have hE1 : Ext w1 w2 := Ext.trans (by repeat (first | exact Ext.refl _ | apply Ext.alloc | apply Ext.drew)) hZ1
    replace bM := bM.ext hE1
    replace hL := hL.ext hE1
    replace hR := hR.ext hE1
    replace hP := hP.ext hE1
    have hF1 := Ext.trans (hF0) hE1
    rw [hg.out]
    have bM_0 : World.cell? w2 ⟨w.heap.size, 0, none⟩ = some (.int .i64 num) := bM.cell 0
    have bM_1 : World.cell? w2 ⟨w.heap.size, 1, none⟩ = some (.slice q l.length cp) := bM.cell 1
    have bM_l := bM.lt
    go_wp2_with fail
    clear bM_0 bM_1 bM_l
    refine (ref33_Check hL).mono ?_
    rintro e w3 ⟨rfl, hZ2⟩
    have hE2 : Ext w2 w3 := Ext.trans (by repeat (first | exact Ext.refl _ | apply Ext.alloc | apply Ext.drew)) hZ2
    replace bM := bM.ext hE2
    replace hL := hL.ext hE2
    replace hR := hR.ext hE2
    replace hP := hP.ext hE2
    have hF2 := Ext.trans (hF1) hE2
    rw [hck.out]
    have bM_0 : World.cell? w3 ⟨w.heap.size, 0, none⟩ = some (.int .i64 num) := bM.cell 0
    have bM_1 : World.cell? w3 ⟨w.heap.size, 1, none⟩ = some (.slice q l.length cp) := bM.cell 1
    have bM_l := bM.lt
    go_wp2
    go_ret
    exact ⟨rfl, hF2⟩

  have hck := Lib.hid hk0
  clear hk0
  have hlaw : Hid (er = 0 → why = 0 → protR ⟨num, l⟩ run = (keptL l run, 0) ∧ protR ⟨yn, yl⟩ run = (keptL yl run, 0) ∧ (∃ pos, EmbA (keptL l run) (keptL yl run) pos) ∧ (keptL yl run).length = (keptL l run).length + (if newP what ⟨0, 7, call⟩ run then l.length else 0) ∧ l.length ≤ 2 ∧ (keptL l run).length ≤ 1200) := Hid.mk (by
    rintro rfl rfl
    exact access_law hU)
  by_cases h0 : what = 0
  · subst h0
    rw [if_pos rfl] at hU
    replace hU := Lib.hid hU
    go_enter Tryd.func12, Tryd.ntmps12
    go_wp2_with fail
    try clear hw0
    refine (law34_alive hP).mono ?_
    rintro e w1 ⟨rfl, hZ0⟩
    have hE0 : Ext w0 w1 := Ext.trans (by repeat (first | exact Ext.refl _ | apply Ext.alloc | apply Ext.drew)) hZ0
    replace bM := bM.ext hE0
    replace hL := hL.ext hE0
    replace hR := hR.ext hE0
    replace hP := hP.ext hE0
    have hF0 := Ext.trans (hF) hE0
    have bM_0 : World.cell? w1 ⟨w.heap.size, 0, none⟩ = some (.int .i64 num) := bM.cell 0
    have bM_1 : World.cell? w1 ⟨w.heap.size, 1, none⟩ = some (.slice q l.length cp) := bM.cell 1
    have bM_l := bM.lt
    go_wp2_with fail
    clear bM_0 bM_1 bM_l
    refine (ref33_Great hL).mono ?_
    rintro e w2 ⟨rfl, hZ1⟩
    have hE1 : Ext w1 w2 := Ext.trans (by repeat (first | exact Ext.refl _ | apply Ext.alloc | apply Ext.drew)) hZ1
    replace bM := bM.ext hE1
    replace hL := hL.ext hE1
    replace hR := hR.ext hE1
    replace hP := hP.ext hE1
    have hF1 := Ext.trans (hF0) hE1
    rw [hg.out]
    have bM_0 : World.cell? w2 ⟨w.heap.size, 0, none⟩ = some (.int .i64 num) := bM.cell 0
    have bM_1 : World.cell? w2 ⟨w.heap.size, 1, none⟩ = some (.slice q l.length cp) := bM.cell 1
    have bM_l := bM.lt
    go_wp2_with fail
    clear bM_0 bM_1 bM_l
    refine (ref33_Check hL).mono ?_
    rintro e w3 ⟨rfl, hZ2⟩
    have hE2 : Ext w2 w3 := Ext.trans (by repeat (first | exact Ext.refl _ | apply Ext.alloc | apply Ext.drew)) hZ2
    replace bM := bM.ext hE2
    replace hL := hL.ext hE2
    replace hR := hR.ext hE2
    replace hP := hP.ext hE2
    have hF2 := Ext.trans (hF1) hE2
    rw [hck.out]
    have bM_0 : World.cell? w3 ⟨w.heap.size, 0, none⟩ = some (.int .i64 num) := bM.cell 0
    have bM_1 : World.cell? w3 ⟨w.heap.size, 1, none⟩ = some (.slice q l.length cp) := bM.cell 1
    have bM_l := bM.lt
    go_wp2_with fail
    clear bM_0 bM_1 bM_l
    have hB0 : Ext w3 (World.alloc w3 (.cells #[.int .i64 0, .slice none 0 0] 56)) := (Ext.refl _).alloc _
    have bY := Box.new w3 56 #[.int .i64 0, .slice none 0 0]
    refine (stacks_Read (a := 0) (n := (l.length : Int)) tag (hL.ext hB0) (hR.ext hB0)).mono ?_
    rintro e w20 ⟨v1, vs1, rfl, o1, hZ⟩
    rw [hU.out] at o1 ⊢
    dsimp only at o1 ⊢
    obtain ⟨a1, k1, rfl, -⟩ := o1.sts.form
    replace o1 := Lib.hid o1
    have c0 := (bY.ext hZ).cell 0
    have c1 := (bY.ext hZ).cell 1
    have f0 := (bY.ext hZ).frozen 0
    have f1 := (bY.ext hZ).frozen 1
    have hltB := (bY.ext hZ).lt
    have c0' : World.cell? w20 ⟨w3.heap.size, 0, none⟩ = some (.int .i64 0) := c0
    have c1' : World.cell? w20 ⟨w3.heap.size, 1, none⟩ = some (.slice none 0 0) := c1
    clear c0 c1
    by_cases hn : er = 0 ∧ why = 0
    rotate_left
    · have hc : (er != 0) = true ∨ ((er != 0) = false ∧ (why != 0) = true) := by simp; omega
      rcases hc with z1 | ⟨z1, z2⟩
      all_goals
        clear hn
        go_wp2
        go_ret
        exact ⟨rfl, hF2.trans (Ext.setCell (Ext.setCell (Ext.trans ((Ext.refl _).alloc _) hZ) (Nat.le_refl _) _) (Nat.le_refl _) _)⟩
    obtain ⟨rfl, rfl⟩ := hn
    obtain ⟨hPa, hPb, ⟨pos, hpos⟩, hlen, hl2, hAl⟩ := hlaw.out rfl rfl
    obtain ⟨A, hA⟩ : ∃ z, keptL l run = z := ⟨_, rfl⟩
    obtain ⟨B, hB⟩ : ∃ z, keptL yl run = z := ⟨_, rfl⟩
    rw [hA] at hPa hpos hlen hAl
    rw [hB] at hPb hpos hlen
    have hnp : newP 0 ⟨0, 7, call⟩ run = false := rfl
    rw [hnp] at hlen
    clear hnp hA hB
    rw [if_neg (by simp), Nat.add_zero] at hlen
    have tl : (B.length != A.length) = false := by rw [hlen]; simp
    have tl2 : ((B.length : Int) != (A.length : Int)) = false := by rw [hlen]; simp
    have hBl : B.length ≤ 1202 := by have h0 := hlen;  omega
    replace hlen := Lib.hid hlen
    replace hPa := Lib.hid hPa
    replace hPb := Lib.hid hPb
    replace hpos := Lib.hid hpos
    clear hlaw hl2
    have hSet := ((ExtBut.setCell w20 ⟨w3.heap.size, 0, none⟩ (.int .i64 yn)).mono (S' := fun b => b = w3.heap.size) (fun x _ h => h)).trans ((ExtBut.setCell _ ⟨w3.heap.size, 1, none⟩ (.slice a1 yl.length k1)).mono (S' := fun b => b = w3.heap.size) (fun x _ h => h))
    have hAs : Ext w3 ((World.setCell w20 ⟨w3.heap.size, 0, none⟩ (.int .i64 yn)).setCell ⟨w3.heap.size, 1, none⟩ (.slice a1 yl.length k1)) := Ext.setCell (Ext.setCell (Ext.trans ((Ext.refl _).alloc _) hZ) (Nat.le_refl _) _) (Nat.le_refl _) _
    have hy : Sts ((World.setCell w20 ⟨w3.heap.size, 0, none⟩ (.int .i64 yn)).setCell ⟨w3.heap.size, 1, none⟩ (.slice a1 yl.length k1)) (.slice a1 yl.length k1) yl := (OwnS.but o1.out hSet (fun b hb hS => by have h1 : b = w3.heap.size := hS; simp only [World.size_alloc] at hb; omega)).sts
    have bZ : Box ((World.setCell w20 ⟨w3.heap.size, 0, none⟩ (.int .i64 yn)).setCell ⟨w3.heap.size, 1, none⟩ (.slice a1 yl.length k1)) w3.heap.size 56 #[.int .i64 yn, .slice a1 yl.length k1] := Box.set (Box.set (bY.ext hZ) 0 (.int .i64 yn)) 1 (.slice a1 yl.length k1)
    have bM_0 : World.cell? ((World.setCell w20 ⟨w3.heap.size, 0, none⟩ (.int .i64 yn)).setCell ⟨w3.heap.size, 1, none⟩ (.slice a1 yl.length k1)) ⟨w.heap.size, 0, none⟩ = some (.int .i64 num) := (bM.ext hAs).cell 0
    have bM_1 : World.cell? ((World.setCell w20 ⟨w3.heap.size, 0, none⟩ (.int .i64 yn)).setCell ⟨w3.heap.size, 1, none⟩ (.slice a1 yl.length k1)) ⟨w.heap.size, 1, none⟩ = some (.slice q l.length cp) := (bM.ext hAs).cell 1
    have bZ_0 : World.cell? ((World.setCell w20 ⟨w3.heap.size, 0, none⟩ (.int .i64 yn)).setCell ⟨w3.heap.size, 1, none⟩ (.slice a1 yl.length k1)) ⟨w3.heap.size, 0, none⟩ = some (.int .i64 yn) := bZ.cell 0
    have bZ_1 : World.cell? ((World.setCell w20 ⟨w3.heap.size, 0, none⟩ (.int .i64 yn)).setCell ⟨w3.heap.size, 1, none⟩ (.slice a1 yl.length k1)) ⟨w3.heap.size, 1, none⟩ = some (.slice a1 yl.length k1) := bZ.cell 1
    go_wp2_with fail
    clear bM_0 bM_1 bZ_0 bZ_1 c0' c1' f0 f1 hltB o1 hSet
    obtain ⟨ws, hws⟩ : ∃ z, ((World.setCell w20 ⟨w3.heap.size, 0, none⟩ (.int .i64 yn)).setCell ⟨w3.heap.size, 1, none⟩ (.slice a1 yl.length k1)) = z := ⟨_, rfl⟩
    rw [hws] at hAs hy bZ ⊢
    clear hws bY hZ hB0
    replace bM := bM.ext hAs
    replace hL := hL.ext hAs
    replace hR := hR.ext hAs
    replace hP := hP.ext hAs
    have hF3 := Ext.trans (hF2) hAs
    refine (dealloc_Protects hL hR).mono ?_
    rintro e w5 ⟨vhia, rfl, ohia, hZ4⟩
    have hE4 : Ext ws w5 := Ext.trans (by repeat (first | exact Ext.refl _ | apply Ext.alloc | apply Ext.drew)) hZ4
    replace bM := bM.ext hE4
    replace hL := hL.ext hE4
    replace hR := hR.ext hE4
    replace hP := hP.ext hE4
    replace hy := hy.ext hE4
    replace bZ := bZ.ext hE4
    have hF4 := Ext.trans (hF3) hE4
    rw [hPa.out] at ohia ⊢
    have hia : Its _ _ A := (OwnI.its ohia)
    obtain ⟨ahia, chia, rfl, -⟩ := hia.form
    clear ohia
    dsimp only at hia ⊢
    have bM_0 : World.cell? w5 ⟨w.heap.size, 0, none⟩ = some (.int .i64 num) := bM.cell 0
    have bM_1 : World.cell? w5 ⟨w.heap.size, 1, none⟩ = some (.slice q l.length cp) := bM.cell 1
    have bM_l := bM.lt
    have bZ_0 : World.cell? w5 ⟨w3.heap.size, 0, none⟩ = some (.int .i64 yn) := bZ.cell 0
    have bZ_1 : World.cell? w5 ⟨w3.heap.size, 1, none⟩ = some (.slice a1 yl.length k1) := bZ.cell 1
    have bZ_l := bZ.lt
    go_wp2_with fail
    clear bM_0 bM_1 bM_l
    clear bZ_0 bZ_1 bZ_l
    refine (dealloc_Protects hy hR).mono ?_
    rintro e w6 ⟨vhib, rfl, ohib, hZ5⟩
    have hE5 : Ext w5 w6 := Ext.trans (by repeat (first | exact Ext.refl _ | apply Ext.alloc | apply Ext.drew)) hZ5
    replace bM := bM.ext hE5
    replace hL := hL.ext hE5
    replace hR := hR.ext hE5
    replace hP := hP.ext hE5
    replace hy := hy.ext hE5
    replace bZ := bZ.ext hE5
    replace hia := hia.ext hE5
    have hF5 := Ext.trans (hF4) hE5
    rw [hPb.out] at ohib ⊢
    have hib : Its _ _ B := (OwnI.its ohib)
    obtain ⟨ahib, chib, rfl, -⟩ := hib.form
    clear ohib
    dsimp only at hib ⊢
    go_wp2
    go_loopw [21, 22] (fun nv iv wr => ∃ j n : Nat, j ≤ A.length ∧ iv = .int .i64 j ∧ nv = .int .i64 n ∧ Hid (j < A.length → n ≤ pos j) ∧ Ext w6 wr) (fun _ iv _ => A.length - (intOf iv).toNat)
    case atStart => exact ⟨0, 0, Nat.zero_le _, rfl, rfl, Hid.mk (fun _ => Nat.zero_le _), Ext.refl _⟩
    case round =>
      obtain ⟨j, n, hj, rfl, rfl, hnp, hX⟩ := hrel
      by_cases hlt : j < A.length
      · obtain ⟨x, hx⟩ : ∃ x, A[j]? = some x := ⟨A[j], by simp [hlt]⟩
        obtain ⟨b0, o0, rfl, hb0, c0, c1, c2⟩ := (hia.ext hX).cell hx
        obtain ⟨hat, hup⟩ := hpos.out j x hx
        replace hat := Lib.hid hat
        replace hup := Lib.hid hup
        have hnp2 := Lib.hid (hnp.out hlt)
        have hXl := Lib.hid hx
        clear hx hnp
        have bX := Box.new wr 23 #[.int .u8 x.p, .int .i64 x.t, .int .i64 x.c]
        have hfr := bX.frozen 0
        go_wp2
        have hEs : Ext wr (wr.alloc (.cells #[.int .u8 1, .int .i64 x.t, .int .i64 x.c] 23)) := (Ext.refl wr).alloc _
        have bW := Box.new wr 23 #[.int .u8 1, .int .i64 x.t, .int .i64 x.c]
        obtain ⟨wv, hwv⟩ : ∃ z, wr.alloc (.cells #[.int .u8 1, .int .i64 x.t, .int .i64 x.c] 23) = z := ⟨_, rfl⟩
        rw [hwv] at hEs bW ⊢
        obtain ⟨bb, hbb⟩ : ∃ n, Array.size (World.heap wr) = n := ⟨_, rfl⟩
        rw [hbb] at bW ⊢
        clear hbb hwv bX hfr c0 c1 c2 hb0
        go_loopw [21] (fun nv wq => ∃ m : Nat, nv = .int .i64 m ∧ Hid (m ≤ pos j) ∧ Ext wv wq) (fun nv _ => B.length - (intOf nv).toNat)
        case atStart => exact ⟨n, rfl, hnp2, Ext.refl _⟩
        case round =>
          obtain ⟨m, rfl, hmp, hY⟩ := hrel
          have hmT : m < B.length := by
            obtain ⟨y', hy', -⟩ := hat.out
            exact Nat.lt_of_le_of_lt hmp.out (List.getElem?_eq_some_iff.1 hy').1
          obtain ⟨y, hy⟩ : ∃ y, B[m]? = some y := ⟨B[m], by simp [hmT]⟩
          have hXY := (hX.trans hEs).trans hY
          obtain ⟨b1, o1, rfl, hb1, d0, d1, d2⟩ := (hib.ext hXY).cell hy
          obtain ⟨b2, o2, hbe, hb2, c0, c1, c2⟩ := (hia.ext hXY).cell hXl.out
          cases hbe
          clear hb1 hb2
          have bZ := bW.ext hY
          have e0 : World.cell? wr ⟨bb, 0, none⟩ = some (.int .u8 1) := bZ.cell 0
          have e1 : World.cell? wr ⟨bb, 1, none⟩ = some (.int .i64 x.t) := bZ.cell 1
          have e2 : World.cell? wr ⟨bb, 2, none⟩ = some (.int .i64 x.c) := bZ.cell 2
          have hi0 : (0 : Int) ≤ (m : Int) := by omega
          have hi1 : (m : Int) < (B.length : Int) := by omega
          have hi2 : (0 : Int) ≤ (j : Int) := by omega
          have hi3 : (j : Int) < (A.length : Int) := by omega
          have hi4 : ((m : Int) == (B.length : Int)) = false := beq_eq_false_iff_ne.2 (by omega)
          have hmx : (m : Int) + 1 ≤ 9223372036854775807 := by omega
          have hmw : IntKind.i64.wrap ((m : Int) + 1) = (m : Int) + 1 := IntWalk.i64_in _ (by omega)
          have hnext : Hid (¬ Same1 x y → m + 1 ≤ pos j) := Hid.mk (fun hs => by
            rcases Nat.lt_or_ge m (pos j) with h | h
            · exact h
            · obtain ⟨y', hy', hs'⟩ := hat.out
              have : m = pos j := Nat.le_antisymm hmp.out h
              rw [← this, hy] at hy'
              cases hy'
              exact absurd hs' hs)
          have hne1 := run_neq_item y x
          have hne2 := run_neq_item y ⟨1, x.t, x.c⟩
          replace hy := Lib.hid hy
          by_cases h1 : y = x
          · subst h1
            simp only [ne_eq, not_true_eq_false, decide_false] at hne1
            unfold Item.val at hne1
            clear hne2 hnext
            go_wp2
            go_quiet (fail)
            go_wp2
            go_roundw
            case rel => exact ⟨j + 1, m + 1, by omega, by go_num, by go_num, Hid.mk (fun h => by have k1 := hmp.out; have k2 := hup.out h; omega), (by first | exact hXY.drewN _ | exact hXY)⟩
            case measure => simp [intOf]; omega
          · have n1 : decide (y ≠ x) = true := decide_eq_true h1
            simp only [n1] at hne1
            unfold Item.val at hne1
            by_cases h2 : x.p = 2
            · have z2 : (x.p != 2) = false := by simp [h2]
              have z2' := Lib.hid h2
              by_cases h3 : y = ⟨1, x.t, x.c⟩
              · simp only [h3, ne_eq, not_true_eq_false, decide_false] at hne2
                have hyv : Hid (y = ⟨1, x.t, x.c⟩) := Hid.mk h3
                have yp : y.p = 1 := by rw [h3]
                have yt : y.t = x.t := by rw [h3]
                have yc : y.c = x.c := by rw [h3]
                rw [yp] at d0 hne1; rw [yt] at d1 hne1; rw [yc] at d2 hne1
                unfold Item.val at hne2
                clear h1 h2 h3 n1 yp yt yc hnext
                go_wp2
                go_quiet (fail)
                go_wp2
                go_roundw
                case rel => exact ⟨j + 1, m + 1, by omega, by go_num, by go_num, Hid.mk (fun h => by have k1 := hmp.out; have k2 := hup.out h; omega), (by first | exact hXY.drewN _ | exact hXY)⟩
                case measure => simp [intOf]; omega
              · have n3 : decide (y ≠ ⟨1, x.t, x.c⟩) = true := decide_eq_true h3
                simp only [n3] at hne2
                unfold Item.val at hne2
                replace hnext := Lib.hid (hnext.out (fun hs => by rcases hs with hs | ⟨-, hs⟩; exact h1 hs; exact h3 hs))
                clear h1 h2 h3 n1 n3
                go_wp2
                go_quiet (fail)
                go_wp2
                go_roundw
                case rel => exact ⟨m + 1, by go_num, hnext, (by first | exact hY.drewN _ | exact hY)⟩
                case measure => simp [intOf]; omega
            · have z2 : (x.p != 2) = true := by simp [h2]
              replace hnext := Lib.hid (hnext.out (fun hs => by rcases hs with hs | ⟨hs, -⟩; exact h1 hs; exact h2 hs))
              clear h1 h2 n1 hne2
              go_wp2
              go_quiet (fail)
              go_wp2
              go_roundw
              case rel => exact ⟨m + 1, by go_num, hnext, (by first | exact hY.drewN _ | exact hY)⟩
              case measure => simp [intOf]; omega
      · have hje : j = A.length := by omega
        subst hje
        go_wp2
        go_ret
        exact ⟨rfl, hF5.trans hX⟩

  by_cases h5 : what = 5
  · subst h5
    rw [if_neg h0, if_pos rfl] at hU
    replace hU := Lib.hid hU
    clear h0
    go_enter Tryd.func12, Tryd.ntmps12
    go_wp2_with fail
    try clear hw0
    refine (law34_alive hP).mono ?_
    rintro e w1 ⟨rfl, hZ0⟩
    have hE0 : Ext w0 w1 := Ext.trans (by repeat (first | exact Ext.refl _ | apply Ext.alloc | apply Ext.drew)) hZ0
    replace bM := bM.ext hE0
    replace hL := hL.ext hE0
    replace hR := hR.ext hE0
    replace hP := hP.ext hE0
    have hF0 := Ext.trans (hF) hE0
    have bM_0 : World.cell? w1 ⟨w.heap.size, 0, none⟩ = some (.int .i64 num) := bM.cell 0
    have bM_1 : World.cell? w1 ⟨w.heap.size, 1, none⟩ = some (.slice q l.length cp) := bM.cell 1
    have bM_l := bM.lt
    go_wp2_with fail
    clear bM_0 bM_1 bM_l
    refine (ref33_Great hL).mono ?_
    rintro e w2 ⟨rfl, hZ1⟩
    have hE1 : Ext w1 w2 := Ext.trans (by repeat (first | exact Ext.refl _ | apply Ext.alloc | apply Ext.drew)) hZ1
    replace bM := bM.ext hE1
    replace hL := hL.ext hE1
    replace hR := hR.ext hE1
    replace hP := hP.ext hE1
    have hF1 := Ext.trans (hF0) hE1
    rw [hg.out]
    have bM_0 : World.cell? w2 ⟨w.heap.size, 0, none⟩ = some (.int .i64 num) := bM.cell 0
    have bM_1 : World.cell? w2 ⟨w.heap.size, 1, none⟩ = some (.slice q l.length cp) := bM.cell 1
    have bM_l := bM.lt
    go_wp2_with fail
    clear bM_0 bM_1 bM_l
    refine (ref33_Check hL).mono ?_
    rintro e w3 ⟨rfl, hZ2⟩
    have hE2 : Ext w2 w3 := Ext.trans (by repeat (first | exact Ext.refl _ | apply Ext.alloc | apply Ext.drew)) hZ2
    replace bM := bM.ext hE2
    replace hL := hL.ext hE2
    replace hR := hR.ext hE2
    replace hP := hP.ext hE2
    have hF2 := Ext.trans (hF1) hE2
    rw [hck.out]
    have bM_0 : World.cell? w3 ⟨w.heap.size, 0, none⟩ = some (.int .i64 num) := bM.cell 0
    have bM_1 : World.cell? w3 ⟨w.heap.size, 1, none⟩ = some (.slice q l.length cp) := bM.cell 1
    have bM_l := bM.lt
    go_wp2_with fail
    clear bM_0 bM_1 bM_l
    have hB0 : Ext w3 (World.alloc w3 (.cells #[.int .i64 0, .slice none 0 0] 56)) := (Ext.refl _).alloc _
    have bY := Box.new w3 56 #[.int .i64 0, .slice none 0 0]
    refine (stacks_Write (a := 0) (n := (l.length : Int)) tag (hL.ext hB0) (hR.ext hB0)).mono ?_
    rintro e w20 ⟨v1, vs1, rfl, o1, hZ⟩
    rw [hU.out] at o1 ⊢
    dsimp only at o1 ⊢
    obtain ⟨a1, k1, rfl, -⟩ := o1.sts.form
    replace o1 := Lib.hid o1
    have c0 := (bY.ext hZ).cell 0
    have c1 := (bY.ext hZ).cell 1
    have f0 := (bY.ext hZ).frozen 0
    have f1 := (bY.ext hZ).frozen 1
    have hltB := (bY.ext hZ).lt
    have c0' : World.cell? w20 ⟨w3.heap.size, 0, none⟩ = some (.int .i64 0) := c0
    have c1' : World.cell? w20 ⟨w3.heap.size, 1, none⟩ = some (.slice none 0 0) := c1
    clear c0 c1
    by_cases hn : er = 0 ∧ why = 0
    rotate_left
    · have hc : (er != 0) = true ∨ ((er != 0) = false ∧ (why != 0) = true) := by simp; omega
      rcases hc with z1 | ⟨z1, z2⟩
      all_goals
        clear hn
        go_wp2
        go_ret
        exact ⟨rfl, hF2.trans (Ext.setCell (Ext.setCell (Ext.trans ((Ext.refl _).alloc _) hZ) (Nat.le_refl _) _) (Nat.le_refl _) _)⟩
    obtain ⟨rfl, rfl⟩ := hn
    obtain ⟨hPa, hPb, ⟨pos, hpos⟩, hlen, hl2, hAl⟩ := hlaw.out rfl rfl
    obtain ⟨A, hA⟩ : ∃ z, keptL l run = z := ⟨_, rfl⟩
    obtain ⟨B, hB⟩ : ∃ z, keptL yl run = z := ⟨_, rfl⟩
    rw [hA] at hPa hpos hlen hAl
    rw [hB] at hPb hpos hlen
    have hnp : newP 5 ⟨0, 7, call⟩ run = false := rfl
    rw [hnp] at hlen
    clear hnp hA hB
    rw [if_neg (by simp), Nat.add_zero] at hlen
    have tl : (B.length != A.length) = false := by rw [hlen]; simp
    have tl2 : ((B.length : Int) != (A.length : Int)) = false := by rw [hlen]; simp
    have hBl : B.length ≤ 1202 := by have h0 := hlen;  omega
    replace hlen := Lib.hid hlen
    replace hPa := Lib.hid hPa
    replace hPb := Lib.hid hPb
    replace hpos := Lib.hid hpos
    clear hlaw hl2
    have hSet := ((ExtBut.setCell w20 ⟨w3.heap.size, 0, none⟩ (.int .i64 yn)).mono (S' := fun b => b = w3.heap.size) (fun x _ h => h)).trans ((ExtBut.setCell _ ⟨w3.heap.size, 1, none⟩ (.slice a1 yl.length k1)).mono (S' := fun b => b = w3.heap.size) (fun x _ h => h))
    have hAs : Ext w3 ((World.setCell w20 ⟨w3.heap.size, 0, none⟩ (.int .i64 yn)).setCell ⟨w3.heap.size, 1, none⟩ (.slice a1 yl.length k1)) := Ext.setCell (Ext.setCell (Ext.trans ((Ext.refl _).alloc _) hZ) (Nat.le_refl _) _) (Nat.le_refl _) _
    have hy : Sts ((World.setCell w20 ⟨w3.heap.size, 0, none⟩ (.int .i64 yn)).setCell ⟨w3.heap.size, 1, none⟩ (.slice a1 yl.length k1)) (.slice a1 yl.length k1) yl := (OwnS.but o1.out hSet (fun b hb hS => by have h1 : b = w3.heap.size := hS; simp only [World.size_alloc] at hb; omega)).sts
    have bZ : Box ((World.setCell w20 ⟨w3.heap.size, 0, none⟩ (.int .i64 yn)).setCell ⟨w3.heap.size, 1, none⟩ (.slice a1 yl.length k1)) w3.heap.size 56 #[.int .i64 yn, .slice a1 yl.length k1] := Box.set (Box.set (bY.ext hZ) 0 (.int .i64 yn)) 1 (.slice a1 yl.length k1)
    have bM_0 : World.cell? ((World.setCell w20 ⟨w3.heap.size, 0, none⟩ (.int .i64 yn)).setCell ⟨w3.heap.size, 1, none⟩ (.slice a1 yl.length k1)) ⟨w.heap.size, 0, none⟩ = some (.int .i64 num) := (bM.ext hAs).cell 0
    have bM_1 : World.cell? ((World.setCell w20 ⟨w3.heap.size, 0, none⟩ (.int .i64 yn)).setCell ⟨w3.heap.size, 1, none⟩ (.slice a1 yl.length k1)) ⟨w.heap.size, 1, none⟩ = some (.slice q l.length cp) := (bM.ext hAs).cell 1
    have bZ_0 : World.cell? ((World.setCell w20 ⟨w3.heap.size, 0, none⟩ (.int .i64 yn)).setCell ⟨w3.heap.size, 1, none⟩ (.slice a1 yl.length k1)) ⟨w3.heap.size, 0, none⟩ = some (.int .i64 yn) := bZ.cell 0
    have bZ_1 : World.cell? ((World.setCell w20 ⟨w3.heap.size, 0, none⟩ (.int .i64 yn)).setCell ⟨w3.heap.size, 1, none⟩ (.slice a1 yl.length k1)) ⟨w3.heap.size, 1, none⟩ = some (.slice a1 yl.length k1) := bZ.cell 1
    go_wp2_with fail
    clear bM_0 bM_1 bZ_0 bZ_1 c0' c1' f0 f1 hltB o1 hSet
    obtain ⟨ws, hws⟩ : ∃ z, ((World.setCell w20 ⟨w3.heap.size, 0, none⟩ (.int .i64 yn)).setCell ⟨w3.heap.size, 1, none⟩ (.slice a1 yl.length k1)) = z := ⟨_, rfl⟩
    rw [hws] at hAs hy bZ ⊢
    clear hws bY hZ hB0
    replace bM := bM.ext hAs
    replace hL := hL.ext hAs
    replace hR := hR.ext hAs
    replace hP := hP.ext hAs
    have hF3 := Ext.trans (hF2) hAs
    refine (dealloc_Protects hL hR).mono ?_
    rintro e w5 ⟨vhia, rfl, ohia, hZ4⟩
    have hE4 : Ext ws w5 := Ext.trans (by repeat (first | exact Ext.refl _ | apply Ext.alloc | apply Ext.drew)) hZ4
    replace bM := bM.ext hE4
    replace hL := hL.ext hE4
    replace hR := hR.ext hE4
    replace hP := hP.ext hE4
    replace hy := hy.ext hE4
    replace bZ := bZ.ext hE4
    have hF4 := Ext.trans (hF3) hE4
    rw [hPa.out] at ohia ⊢
    have hia : Its _ _ A := (OwnI.its ohia)
    obtain ⟨ahia, chia, rfl, -⟩ := hia.form
    clear ohia
    dsimp only at hia ⊢
    have bM_0 : World.cell? w5 ⟨w.heap.size, 0, none⟩ = some (.int .i64 num) := bM.cell 0
    have bM_1 : World.cell? w5 ⟨w.heap.size, 1, none⟩ = some (.slice q l.length cp) := bM.cell 1
    have bM_l := bM.lt
    have bZ_0 : World.cell? w5 ⟨w3.heap.size, 0, none⟩ = some (.int .i64 yn) := bZ.cell 0
    have bZ_1 : World.cell? w5 ⟨w3.heap.size, 1, none⟩ = some (.slice a1 yl.length k1) := bZ.cell 1
    have bZ_l := bZ.lt
    go_wp2_with fail
    clear bM_0 bM_1 bM_l
    clear bZ_0 bZ_1 bZ_l
    refine (dealloc_Protects hy hR).mono ?_
    rintro e w6 ⟨vhib, rfl, ohib, hZ5⟩
    have hE5 : Ext w5 w6 := Ext.trans (by repeat (first | exact Ext.refl _ | apply Ext.alloc | apply Ext.drew)) hZ5
    replace bM := bM.ext hE5
    replace hL := hL.ext hE5
    replace hR := hR.ext hE5
    replace hP := hP.ext hE5
    replace hy := hy.ext hE5
    replace bZ := bZ.ext hE5
    replace hia := hia.ext hE5
    have hF5 := Ext.trans (hF4) hE5
    rw [hPb.out] at ohib ⊢
    have hib : Its _ _ B := (OwnI.its ohib)
    obtain ⟨ahib, chib, rfl, -⟩ := hib.form
    clear ohib
    dsimp only at hib ⊢
    go_wp2
    go_loopw [21, 22] (fun nv iv wr => ∃ j n : Nat, j ≤ A.length ∧ iv = .int .i64 j ∧ nv = .int .i64 n ∧ Hid (j < A.length → n ≤ pos j) ∧ Ext w6 wr) (fun _ iv _ => A.length - (intOf iv).toNat)
    case atStart => exact ⟨0, 0, Nat.zero_le _, rfl, rfl, Hid.mk (fun _ => Nat.zero_le _), Ext.refl _⟩
    case round =>
      obtain ⟨j, n, hj, rfl, rfl, hnp, hX⟩ := hrel
      by_cases hlt : j < A.length
      · obtain ⟨x, hx⟩ : ∃ x, A[j]? = some x := ⟨A[j], by simp [hlt]⟩
        obtain ⟨b0, o0, rfl, hb0, c0, c1, c2⟩ := (hia.ext hX).cell hx
        obtain ⟨hat, hup⟩ := hpos.out j x hx
        replace hat := Lib.hid hat
        replace hup := Lib.hid hup
        have hnp2 := Lib.hid (hnp.out hlt)
        have hXl := Lib.hid hx
        clear hx hnp
        have bX := Box.new wr 23 #[.int .u8 x.p, .int .i64 x.t, .int .i64 x.c]
        have hfr := bX.frozen 0
        go_wp2
        have hEs : Ext wr (wr.alloc (.cells #[.int .u8 1, .int .i64 x.t, .int .i64 x.c] 23)) := (Ext.refl wr).alloc _
        have bW := Box.new wr 23 #[.int .u8 1, .int .i64 x.t, .int .i64 x.c]
        obtain ⟨wv, hwv⟩ : ∃ z, wr.alloc (.cells #[.int .u8 1, .int .i64 x.t, .int .i64 x.c] 23) = z := ⟨_, rfl⟩
        rw [hwv] at hEs bW ⊢
        obtain ⟨bb, hbb⟩ : ∃ n, Array.size (World.heap wr) = n := ⟨_, rfl⟩
        rw [hbb] at bW ⊢
        clear hbb hwv bX hfr c0 c1 c2 hb0
        go_loopw [21] (fun nv wq => ∃ m : Nat, nv = .int .i64 m ∧ Hid (m ≤ pos j) ∧ Ext wv wq) (fun nv _ => B.length - (intOf nv).toNat)
        case atStart => exact ⟨n, rfl, hnp2, Ext.refl _⟩
        case round =>
          obtain ⟨m, rfl, hmp, hY⟩ := hrel
          have hmT : m < B.length := by
            obtain ⟨y', hy', -⟩ := hat.out
            exact Nat.lt_of_le_of_lt hmp.out (List.getElem?_eq_some_iff.1 hy').1
          obtain ⟨y, hy⟩ : ∃ y, B[m]? = some y := ⟨B[m], by simp [hmT]⟩
          have hXY := (hX.trans hEs).trans hY
          obtain ⟨b1, o1, rfl, hb1, d0, d1, d2⟩ := (hib.ext hXY).cell hy
          obtain ⟨b2, o2, hbe, hb2, c0, c1, c2⟩ := (hia.ext hXY).cell hXl.out
          cases hbe
          clear hb1 hb2
          have bZ := bW.ext hY
          have e0 : World.cell? wr ⟨bb, 0, none⟩ = some (.int .u8 1) := bZ.cell 0
          have e1 : World.cell? wr ⟨bb, 1, none⟩ = some (.int .i64 x.t) := bZ.cell 1
          have e2 : World.cell? wr ⟨bb, 2, none⟩ = some (.int .i64 x.c) := bZ.cell 2
          have hi0 : (0 : Int) ≤ (m : Int) := by omega
          have hi1 : (m : Int) < (B.length : Int) := by omega
          have hi2 : (0 : Int) ≤ (j : Int) := by omega
          have hi3 : (j : Int) < (A.length : Int) := by omega
          have hi4 : ((m : Int) == (B.length : Int)) = false := beq_eq_false_iff_ne.2 (by omega)
          have hmx : (m : Int) + 1 ≤ 9223372036854775807 := by omega
          have hmw : IntKind.i64.wrap ((m : Int) + 1) = (m : Int) + 1 := IntWalk.i64_in _ (by omega)
          have hnext : Hid (¬ Same1 x y → m + 1 ≤ pos j) := Hid.mk (fun hs => by
            rcases Nat.lt_or_ge m (pos j) with h | h
            · exact h
            · obtain ⟨y', hy', hs'⟩ := hat.out
              have : m = pos j := Nat.le_antisymm hmp.out h
              rw [← this, hy] at hy'
              cases hy'
              exact absurd hs' hs)
          have hne1 := run_neq_item y x
          have hne2 := run_neq_item y ⟨1, x.t, x.c⟩
          replace hy := Lib.hid hy
          by_cases h1 : y = x
          · subst h1
            simp only [ne_eq, not_true_eq_false, decide_false] at hne1
            unfold Item.val at hne1
            clear hne2 hnext
            go_wp2
            go_quiet (fail)
            go_wp2
            go_roundw
            case rel => exact ⟨j + 1, m + 1, by omega, by go_num, by go_num, Hid.mk (fun h => by have k1 := hmp.out; have k2 := hup.out h; omega), (by first | exact hXY.drewN _ | exact hXY)⟩
            case measure => simp [intOf]; omega
          · have n1 : decide (y ≠ x) = true := decide_eq_true h1
            simp only [n1] at hne1
            unfold Item.val at hne1
            by_cases h2 : x.p = 2
            · have z2 : (x.p != 2) = false := by simp [h2]
              have z2' := Lib.hid h2
              by_cases h3 : y = ⟨1, x.t, x.c⟩
              · simp only [h3, ne_eq, not_true_eq_false, decide_false] at hne2
                have hyv : Hid (y = ⟨1, x.t, x.c⟩) := Hid.mk h3
                have yp : y.p = 1 := by rw [h3]
                have yt : y.t = x.t := by rw [h3]
                have yc : y.c = x.c := by rw [h3]
                rw [yp] at d0 hne1; rw [yt] at d1 hne1; rw [yc] at d2 hne1
                unfold Item.val at hne2
                clear h1 h2 h3 n1 yp yt yc hnext
                go_wp2
                go_quiet (fail)
                go_wp2
                go_roundw
                case rel => exact ⟨j + 1, m + 1, by omega, by go_num, by go_num, Hid.mk (fun h => by have k1 := hmp.out; have k2 := hup.out h; omega), (by first | exact hXY.drewN _ | exact hXY)⟩
                case measure => simp [intOf]; omega
              · have n3 : decide (y ≠ ⟨1, x.t, x.c⟩) = true := decide_eq_true h3
                simp only [n3] at hne2
                unfold Item.val at hne2
                replace hnext := Lib.hid (hnext.out (fun hs => by rcases hs with hs | ⟨-, hs⟩; exact h1 hs; exact h3 hs))
                clear h1 h2 h3 n1 n3
                go_wp2
                go_quiet (fail)
                go_wp2
                go_roundw
                case rel => exact ⟨m + 1, by go_num, hnext, (by first | exact hY.drewN _ | exact hY)⟩
                case measure => simp [intOf]; omega
            · have z2 : (x.p != 2) = true := by simp [h2]
              replace hnext := Lib.hid (hnext.out (fun hs => by rcases hs with hs | ⟨hs, -⟩; exact h1 hs; exact h2 hs))
              clear h1 h2 n1 hne2
              go_wp2
              go_quiet (fail)
              go_wp2
              go_roundw
              case rel => exact ⟨m + 1, by go_num, hnext, (by first | exact hY.drewN _ | exact hY)⟩
              case measure => simp [intOf]; omega
      · have hje : j = A.length := by omega
        subst hje
        go_wp2
        go_ret
        exact ⟨rfl, hF5.trans hX⟩

  rw [if_neg h0, if_neg h5] at hU
  have k0 : (what == 0) = false := by simp [h0]
  have k5 : (what == 5) = false := by simp [h5]
  have k0n : (what != 0) = true := by simp [h0]
  have k5n : (what != 5) = true := by simp [h5]
  replace hU := Lib.hid hU
  clear h0 h5
  cases hrun0 : hasR run call
  · have hrun := Lib.hid hrun0
    clear hrun0
    go_enter Tryd.func12, Tryd.ntmps12
    go_wp2_with fail
    try clear hw0
    refine (law34_alive hP).mono ?_
    rintro e w1 ⟨rfl, hZ0⟩
    have hE0 : Ext w0 w1 := Ext.trans (by repeat (first | exact Ext.refl _ | apply Ext.alloc | apply Ext.drew)) hZ0
    replace bM := bM.ext hE0
    replace hL := hL.ext hE0
    replace hR := hR.ext hE0
    replace hP := hP.ext hE0
    have hF0 := Ext.trans (hF) hE0
    have bM_0 : World.cell? w1 ⟨w.heap.size, 0, none⟩ = some (.int .i64 num) := bM.cell 0
    have bM_1 : World.cell? w1 ⟨w.heap.size, 1, none⟩ = some (.slice q l.length cp) := bM.cell 1
    have bM_l := bM.lt
    go_wp2_with fail
    clear bM_0 bM_1 bM_l
    refine (ref33_Great hL).mono ?_
    rintro e w2 ⟨rfl, hZ1⟩
    have hE1 : Ext w1 w2 := Ext.trans (by repeat (first | exact Ext.refl _ | apply Ext.alloc | apply Ext.drew)) hZ1
    replace bM := bM.ext hE1
    replace hL := hL.ext hE1
    replace hR := hR.ext hE1
    replace hP := hP.ext hE1
    have hF1 := Ext.trans (hF0) hE1
    rw [hg.out]
    have bM_0 : World.cell? w2 ⟨w.heap.size, 0, none⟩ = some (.int .i64 num) := bM.cell 0
    have bM_1 : World.cell? w2 ⟨w.heap.size, 1, none⟩ = some (.slice q l.length cp) := bM.cell 1
    have bM_l := bM.lt
    go_wp2_with fail
    clear bM_0 bM_1 bM_l
    refine (ref33_Check hL).mono ?_
    rintro e w3 ⟨rfl, hZ2⟩
    have hE2 : Ext w2 w3 := Ext.trans (by repeat (first | exact Ext.refl _ | apply Ext.alloc | apply Ext.drew)) hZ2
    replace bM := bM.ext hE2
    replace hL := hL.ext hE2
    replace hR := hR.ext hE2
    replace hP := hP.ext hE2
    have hF2 := Ext.trans (hF1) hE2
    rw [hck.out]
    have bM_0 : World.cell? w3 ⟨w.heap.size, 0, none⟩ = some (.int .i64 num) := bM.cell 0
    have bM_1 : World.cell? w3 ⟨w.heap.size, 1, none⟩ = some (.slice q l.length cp) := bM.cell 1
    have bM_l := bM.lt
    go_wp2_with fail
    clear bM_0 bM_1 bM_l
    have hB0 : Ext w3 (World.alloc w3 (.cells #[.int .i64 0, .slice none 0 0] 56)) := (Ext.refl _).alloc _
    have bY := Box.new w3 56 #[.int .i64 0, .slice none 0 0]
    refine (stacks_Retag (a := 0) (n := (l.length : Int)) (hP.ext hB0) hk.out tag ⟨0, 7, call⟩ (hL.ext hB0) (hR.ext hB0)).mono ?_
    rintro e w20 ⟨v1, vs1, rfl, o1, hZ⟩
    rw [hU.out] at o1 ⊢
    dsimp only at o1 ⊢
    obtain ⟨a1, k1, rfl, -⟩ := o1.sts.form
    replace o1 := Lib.hid o1
    have c0 := (bY.ext hZ).cell 0
    have c1 := (bY.ext hZ).cell 1
    have f0 := (bY.ext hZ).frozen 0
    have f1 := (bY.ext hZ).frozen 1
    have hltB := (bY.ext hZ).lt
    have c0' : World.cell? w20 ⟨w3.heap.size, 0, none⟩ = some (.int .i64 0) := c0
    have c1' : World.cell? w20 ⟨w3.heap.size, 1, none⟩ = some (.slice none 0 0) := c1
    clear c0 c1
    by_cases hn : er = 0 ∧ why = 0
    rotate_left
    · have hc : (er != 0) = true ∨ ((er != 0) = false ∧ (why != 0) = true) := by simp; omega
      rcases hc with z1 | ⟨z1, z2⟩
      all_goals
        clear hn
        go_wp2
        go_ret
        exact ⟨rfl, hF2.trans (Ext.setCell (Ext.setCell (Ext.trans ((Ext.refl _).alloc _) hZ) (Nat.le_refl _) _) (Nat.le_refl _) _)⟩
    obtain ⟨rfl, rfl⟩ := hn
    obtain ⟨hPa, hPb, ⟨pos, hpos⟩, hlen, hl2, hAl⟩ := hlaw.out rfl rfl
    obtain ⟨A, hA⟩ : ∃ z, keptL l run = z := ⟨_, rfl⟩
    obtain ⟨B, hB⟩ : ∃ z, keptL yl run = z := ⟨_, rfl⟩
    rw [hA] at hPa hpos hlen hAl
    rw [hB] at hPb hpos hlen
    have hnp : newP what ⟨0, 7, call⟩ run = false := by unfold newP; rw [k0n, k5n]; exact hrun.out
    rw [hnp] at hlen
    clear hnp hA hB
    rw [if_neg (by simp), Nat.add_zero] at hlen
    have tl : (B.length != A.length) = false := by rw [hlen]; simp
    have tl2 : ((B.length : Int) != (A.length : Int)) = false := by rw [hlen]; simp
    have hBl : B.length ≤ 1202 := by have h0 := hlen;  omega
    replace hlen := Lib.hid hlen
    replace hPa := Lib.hid hPa
    replace hPb := Lib.hid hPb
    replace hpos := Lib.hid hpos
    clear hlaw hl2
    have hSet := ((ExtBut.setCell w20 ⟨w3.heap.size, 0, none⟩ (.int .i64 yn)).mono (S' := fun b => b = w3.heap.size) (fun x _ h => h)).trans ((ExtBut.setCell _ ⟨w3.heap.size, 1, none⟩ (.slice a1 yl.length k1)).mono (S' := fun b => b = w3.heap.size) (fun x _ h => h))
    have hAs : Ext w3 ((World.setCell w20 ⟨w3.heap.size, 0, none⟩ (.int .i64 yn)).setCell ⟨w3.heap.size, 1, none⟩ (.slice a1 yl.length k1)) := Ext.setCell (Ext.setCell (Ext.trans ((Ext.refl _).alloc _) hZ) (Nat.le_refl _) _) (Nat.le_refl _) _
    have hy : Sts ((World.setCell w20 ⟨w3.heap.size, 0, none⟩ (.int .i64 yn)).setCell ⟨w3.heap.size, 1, none⟩ (.slice a1 yl.length k1)) (.slice a1 yl.length k1) yl := (OwnS.but o1.out hSet (fun b hb hS => by have h1 : b = w3.heap.size := hS; simp only [World.size_alloc] at hb; omega)).sts
    have bZ : Box ((World.setCell w20 ⟨w3.heap.size, 0, none⟩ (.int .i64 yn)).setCell ⟨w3.heap.size, 1, none⟩ (.slice a1 yl.length k1)) w3.heap.size 56 #[.int .i64 yn, .slice a1 yl.length k1] := Box.set (Box.set (bY.ext hZ) 0 (.int .i64 yn)) 1 (.slice a1 yl.length k1)
    have bM_0 : World.cell? ((World.setCell w20 ⟨w3.heap.size, 0, none⟩ (.int .i64 yn)).setCell ⟨w3.heap.size, 1, none⟩ (.slice a1 yl.length k1)) ⟨w.heap.size, 0, none⟩ = some (.int .i64 num) := (bM.ext hAs).cell 0
    have bM_1 : World.cell? ((World.setCell w20 ⟨w3.heap.size, 0, none⟩ (.int .i64 yn)).setCell ⟨w3.heap.size, 1, none⟩ (.slice a1 yl.length k1)) ⟨w.heap.size, 1, none⟩ = some (.slice q l.length cp) := (bM.ext hAs).cell 1
    have bZ_0 : World.cell? ((World.setCell w20 ⟨w3.heap.size, 0, none⟩ (.int .i64 yn)).setCell ⟨w3.heap.size, 1, none⟩ (.slice a1 yl.length k1)) ⟨w3.heap.size, 0, none⟩ = some (.int .i64 yn) := bZ.cell 0
    have bZ_1 : World.cell? ((World.setCell w20 ⟨w3.heap.size, 0, none⟩ (.int .i64 yn)).setCell ⟨w3.heap.size, 1, none⟩ (.slice a1 yl.length k1)) ⟨w3.heap.size, 1, none⟩ = some (.slice a1 yl.length k1) := bZ.cell 1
    go_wp2_with fail
    clear bM_0 bM_1 bZ_0 bZ_1 c0' c1' f0 f1 hltB o1 hSet
    obtain ⟨ws, hws⟩ : ∃ z, ((World.setCell w20 ⟨w3.heap.size, 0, none⟩ (.int .i64 yn)).setCell ⟨w3.heap.size, 1, none⟩ (.slice a1 yl.length k1)) = z := ⟨_, rfl⟩
    rw [hws] at hAs hy bZ ⊢
    clear hws bY hZ hB0
    replace bM := bM.ext hAs
    replace hL := hL.ext hAs
    replace hR := hR.ext hAs
    replace hP := hP.ext hAs
    have hF3 := Ext.trans (hF2) hAs
    refine (dealloc_Protects hL hR).mono ?_
    rintro e w5 ⟨vhia, rfl, ohia, hZ4⟩
    have hE4 : Ext ws w5 := Ext.trans (by repeat (first | exact Ext.refl _ | apply Ext.alloc | apply Ext.drew)) hZ4
    replace bM := bM.ext hE4
    replace hL := hL.ext hE4
    replace hR := hR.ext hE4
    replace hP := hP.ext hE4
    replace hy := hy.ext hE4
    replace bZ := bZ.ext hE4
    have hF4 := Ext.trans (hF3) hE4
    rw [hPa.out] at ohia ⊢
    have hia : Its _ _ A := (OwnI.its ohia)
    obtain ⟨ahia, chia, rfl, -⟩ := hia.form
    clear ohia
    dsimp only at hia ⊢
    have bM_0 : World.cell? w5 ⟨w.heap.size, 0, none⟩ = some (.int .i64 num) := bM.cell 0
    have bM_1 : World.cell? w5 ⟨w.heap.size, 1, none⟩ = some (.slice q l.length cp) := bM.cell 1
    have bM_l := bM.lt
    have bZ_0 : World.cell? w5 ⟨w3.heap.size, 0, none⟩ = some (.int .i64 yn) := bZ.cell 0
    have bZ_1 : World.cell? w5 ⟨w3.heap.size, 1, none⟩ = some (.slice a1 yl.length k1) := bZ.cell 1
    have bZ_l := bZ.lt
    go_wp2_with fail
    clear bM_0 bM_1 bM_l
    clear bZ_0 bZ_1 bZ_l
    refine (dealloc_Protects hy hR).mono ?_
    rintro e w6 ⟨vhib, rfl, ohib, hZ5⟩
    have hE5 : Ext w5 w6 := Ext.trans (by repeat (first | exact Ext.refl _ | apply Ext.alloc | apply Ext.drew)) hZ5
    replace bM := bM.ext hE5
    replace hL := hL.ext hE5
    replace hR := hR.ext hE5
    replace hP := hP.ext hE5
    replace hy := hy.ext hE5
    replace bZ := bZ.ext hE5
    replace hia := hia.ext hE5
    have hF5 := Ext.trans (hF4) hE5
    rw [hPb.out] at ohib ⊢
    have hib : Its _ _ B := (OwnI.its ohib)
    obtain ⟨ahib, chib, rfl, -⟩ := hib.form
    clear ohib
    dsimp only at hib ⊢
    have bM_0 : World.cell? w6 ⟨w.heap.size, 0, none⟩ = some (.int .i64 num) := bM.cell 0
    have bM_1 : World.cell? w6 ⟨w.heap.size, 1, none⟩ = some (.slice q l.length cp) := bM.cell 1
    have bM_l := bM.lt
    have bZ_0 : World.cell? w6 ⟨w3.heap.size, 0, none⟩ = some (.int .i64 yn) := bZ.cell 0
    have bZ_1 : World.cell? w6 ⟨w3.heap.size, 1, none⟩ = some (.slice a1 yl.length k1) := bZ.cell 1
    have bZ_l := bZ.lt
    go_wp2_with fail
    clear bM_0 bM_1 bM_l
    clear bZ_0 bZ_1 bZ_l
    refine (ref31_Runs call hR).mono ?_
    rintro e wz ⟨rfl, rfl⟩
    rw [hrun.out]
    go_wp2
    go_loopw [21, 22] (fun nv iv wr => ∃ j n : Nat, j ≤ A.length ∧ iv = .int .i64 j ∧ nv = .int .i64 n ∧ Hid (j < A.length → n ≤ pos j) ∧ Ext w6 wr) (fun _ iv _ => A.length - (intOf iv).toNat)
    case atStart => exact ⟨0, 0, Nat.zero_le _, rfl, rfl, Hid.mk (fun _ => Nat.zero_le _), Ext.refl _⟩
    case round =>
      obtain ⟨j, n, hj, rfl, rfl, hnp, hX⟩ := hrel
      by_cases hlt : j < A.length
      · obtain ⟨x, hx⟩ : ∃ x, A[j]? = some x := ⟨A[j], by simp [hlt]⟩
        obtain ⟨b0, o0, rfl, hb0, c0, c1, c2⟩ := (hia.ext hX).cell hx
        obtain ⟨hat, hup⟩ := hpos.out j x hx
        replace hat := Lib.hid hat
        replace hup := Lib.hid hup
        have hnp2 := Lib.hid (hnp.out hlt)
        have hXl := Lib.hid hx
        clear hx hnp
        have bX := Box.new wr 23 #[.int .u8 x.p, .int .i64 x.t, .int .i64 x.c]
        have hfr := bX.frozen 0
        go_wp2
        have hEs : Ext wr (wr.alloc (.cells #[.int .u8 1, .int .i64 x.t, .int .i64 x.c] 23)) := (Ext.refl wr).alloc _
        have bW := Box.new wr 23 #[.int .u8 1, .int .i64 x.t, .int .i64 x.c]
        obtain ⟨wv, hwv⟩ : ∃ z, wr.alloc (.cells #[.int .u8 1, .int .i64 x.t, .int .i64 x.c] 23) = z := ⟨_, rfl⟩
        rw [hwv] at hEs bW ⊢
        obtain ⟨bb, hbb⟩ : ∃ n, Array.size (World.heap wr) = n := ⟨_, rfl⟩
        rw [hbb] at bW ⊢
        clear hbb hwv bX hfr c0 c1 c2 hb0
        go_loopw [21] (fun nv wq => ∃ m : Nat, nv = .int .i64 m ∧ Hid (m ≤ pos j) ∧ Ext wv wq) (fun nv _ => B.length - (intOf nv).toNat)
        case atStart => exact ⟨n, rfl, hnp2, Ext.refl _⟩
        case round =>
          obtain ⟨m, rfl, hmp, hY⟩ := hrel
          have hmT : m < B.length := by
            obtain ⟨y', hy', -⟩ := hat.out
            exact Nat.lt_of_le_of_lt hmp.out (List.getElem?_eq_some_iff.1 hy').1
          obtain ⟨y, hy⟩ : ∃ y, B[m]? = some y := ⟨B[m], by simp [hmT]⟩
          have hXY := (hX.trans hEs).trans hY
          obtain ⟨b1, o1, rfl, hb1, d0, d1, d2⟩ := (hib.ext hXY).cell hy
          obtain ⟨b2, o2, hbe, hb2, c0, c1, c2⟩ := (hia.ext hXY).cell hXl.out
          cases hbe
          clear hb1 hb2
          have bZ := bW.ext hY
          have e0 : World.cell? wr ⟨bb, 0, none⟩ = some (.int .u8 1) := bZ.cell 0
          have e1 : World.cell? wr ⟨bb, 1, none⟩ = some (.int .i64 x.t) := bZ.cell 1
          have e2 : World.cell? wr ⟨bb, 2, none⟩ = some (.int .i64 x.c) := bZ.cell 2
          have hi0 : (0 : Int) ≤ (m : Int) := by omega
          have hi1 : (m : Int) < (B.length : Int) := by omega
          have hi2 : (0 : Int) ≤ (j : Int) := by omega
          have hi3 : (j : Int) < (A.length : Int) := by omega
          have hi4 : ((m : Int) == (B.length : Int)) = false := beq_eq_false_iff_ne.2 (by omega)
          have hmx : (m : Int) + 1 ≤ 9223372036854775807 := by omega
          have hmw : IntKind.i64.wrap ((m : Int) + 1) = (m : Int) + 1 := IntWalk.i64_in _ (by omega)
          have hnext : Hid (¬ Same1 x y → m + 1 ≤ pos j) := Hid.mk (fun hs => by
            rcases Nat.lt_or_ge m (pos j) with h | h
            · exact h
            · obtain ⟨y', hy', hs'⟩ := hat.out
              have : m = pos j := Nat.le_antisymm hmp.out h
              rw [← this, hy] at hy'
              cases hy'
              exact absurd hs' hs)
          have hne1 := run_neq_item y x
          have hne2 := run_neq_item y ⟨1, x.t, x.c⟩
          replace hy := Lib.hid hy
          by_cases h1 : y = x
          · subst h1
            simp only [ne_eq, not_true_eq_false, decide_false] at hne1
            unfold Item.val at hne1
            clear hne2 hnext
            go_wp2
            go_quiet (fail)
            go_wp2
            go_roundw
            case rel => exact ⟨j + 1, m + 1, by omega, by go_num, by go_num, Hid.mk (fun h => by have k1 := hmp.out; have k2 := hup.out h; omega), (by first | exact hXY.drewN _ | exact hXY)⟩
            case measure => simp [intOf]; omega
          · have n1 : decide (y ≠ x) = true := decide_eq_true h1
            simp only [n1] at hne1
            unfold Item.val at hne1
            by_cases h2 : x.p = 2
            · have z2 : (x.p != 2) = false := by simp [h2]
              have z2' := Lib.hid h2
              by_cases h3 : y = ⟨1, x.t, x.c⟩
              · simp only [h3, ne_eq, not_true_eq_false, decide_false] at hne2
                have hyv : Hid (y = ⟨1, x.t, x.c⟩) := Hid.mk h3
                have yp : y.p = 1 := by rw [h3]
                have yt : y.t = x.t := by rw [h3]
                have yc : y.c = x.c := by rw [h3]
                rw [yp] at d0 hne1; rw [yt] at d1 hne1; rw [yc] at d2 hne1
                unfold Item.val at hne2
                clear h1 h2 h3 n1 yp yt yc hnext
                go_wp2
                go_quiet (fail)
                go_wp2
                go_roundw
                case rel => exact ⟨j + 1, m + 1, by omega, by go_num, by go_num, Hid.mk (fun h => by have k1 := hmp.out; have k2 := hup.out h; omega), (by first | exact hXY.drewN _ | exact hXY)⟩
                case measure => simp [intOf]; omega
              · have n3 : decide (y ≠ ⟨1, x.t, x.c⟩) = true := decide_eq_true h3
                simp only [n3] at hne2
                unfold Item.val at hne2
                replace hnext := Lib.hid (hnext.out (fun hs => by rcases hs with hs | ⟨-, hs⟩; exact h1 hs; exact h3 hs))
                clear h1 h2 h3 n1 n3
                go_wp2
                go_quiet (fail)
                go_wp2
                go_roundw
                case rel => exact ⟨m + 1, by go_num, hnext, (by first | exact hY.drewN _ | exact hY)⟩
                case measure => simp [intOf]; omega
            · have z2 : (x.p != 2) = true := by simp [h2]
              replace hnext := Lib.hid (hnext.out (fun hs => by rcases hs with hs | ⟨hs, -⟩; exact h1 hs; exact h2 hs))
              clear h1 h2 n1 hne2
              go_wp2
              go_quiet (fail)
              go_wp2
              go_roundw
              case rel => exact ⟨m + 1, by go_num, hnext, (by first | exact hY.drewN _ | exact hY)⟩
              case measure => simp [intOf]; omega
      · have hje : j = A.length := by omega
        subst hje
        go_wp2
        go_ret
        exact ⟨rfl, hF5.trans hX⟩

  · have hrun := Lib.hid hrun0
    clear hrun0
    go_enter Tryd.func12, Tryd.ntmps12
    go_wp2_with fail
    try clear hw0
    refine (law34_alive hP).mono ?_
    rintro e w1 ⟨rfl, hZ0⟩
    have hE0 : Ext w0 w1 := Ext.trans (by repeat (first | exact Ext.refl _ | apply Ext.alloc | apply Ext.drew)) hZ0
    replace bM := bM.ext hE0
    replace hL := hL.ext hE0
    replace hR := hR.ext hE0
    replace hP := hP.ext hE0
    have hF0 := Ext.trans (hF) hE0
    have bM_0 : World.cell? w1 ⟨w.heap.size, 0, none⟩ = some (.int .i64 num) := bM.cell 0
    have bM_1 : World.cell? w1 ⟨w.heap.size, 1, none⟩ = some (.slice q l.length cp) := bM.cell 1
    have bM_l := bM.lt
    go_wp2_with fail
    clear bM_0 bM_1 bM_l
    refine (ref33_Great hL).mono ?_
    rintro e w2 ⟨rfl, hZ1⟩
    have hE1 : Ext w1 w2 := Ext.trans (by repeat (first | exact Ext.refl _ | apply Ext.alloc | apply Ext.drew)) hZ1
    replace bM := bM.ext hE1
    replace hL := hL.ext hE1
    replace hR := hR.ext hE1
    replace hP := hP.ext hE1
    have hF1 := Ext.trans (hF0) hE1
    rw [hg.out]
    have bM_0 : World.cell? w2 ⟨w.heap.size, 0, none⟩ = some (.int .i64 num) := bM.cell 0
    have bM_1 : World.cell? w2 ⟨w.heap.size, 1, none⟩ = some (.slice q l.length cp) := bM.cell 1
    have bM_l := bM.lt
    go_wp2_with fail
    clear bM_0 bM_1 bM_l
    refine (ref33_Check hL).mono ?_
    rintro e w3 ⟨rfl, hZ2⟩
    have hE2 : Ext w2 w3 := Ext.trans (by repeat (first | exact Ext.refl _ | apply Ext.alloc | apply Ext.drew)) hZ2
    replace bM := bM.ext hE2
    replace hL := hL.ext hE2
    replace hR := hR.ext hE2
    replace hP := hP.ext hE2
    have hF2 := Ext.trans (hF1) hE2
    rw [hck.out]
    have bM_0 : World.cell? w3 ⟨w.heap.size, 0, none⟩ = some (.int .i64 num) := bM.cell 0
    have bM_1 : World.cell? w3 ⟨w.heap.size, 1, none⟩ = some (.slice q l.length cp) := bM.cell 1
    have bM_l := bM.lt
    go_wp2_with fail
    clear bM_0 bM_1 bM_l
    have hB0 : Ext w3 (World.alloc w3 (.cells #[.int .i64 0, .slice none 0 0] 56)) := (Ext.refl _).alloc _
    have bY := Box.new w3 56 #[.int .i64 0, .slice none 0 0]
    refine (stacks_Retag (a := 0) (n := (l.length : Int)) (hP.ext hB0) hk.out tag ⟨0, 7, call⟩ (hL.ext hB0) (hR.ext hB0)).mono ?_
    rintro e w20 ⟨v1, vs1, rfl, o1, hZ⟩
    rw [hU.out] at o1 ⊢
    dsimp only at o1 ⊢
    obtain ⟨a1, k1, rfl, -⟩ := o1.sts.form
    replace o1 := Lib.hid o1
    have c0 := (bY.ext hZ).cell 0
    have c1 := (bY.ext hZ).cell 1
    have f0 := (bY.ext hZ).frozen 0
    have f1 := (bY.ext hZ).frozen 1
    have hltB := (bY.ext hZ).lt
    have c0' : World.cell? w20 ⟨w3.heap.size, 0, none⟩ = some (.int .i64 0) := c0
    have c1' : World.cell? w20 ⟨w3.heap.size, 1, none⟩ = some (.slice none 0 0) := c1
    clear c0 c1
    by_cases hn : er = 0 ∧ why = 0
    rotate_left
    · have hc : (er != 0) = true ∨ ((er != 0) = false ∧ (why != 0) = true) := by simp; omega
      rcases hc with z1 | ⟨z1, z2⟩
      all_goals
        clear hn
        go_wp2
        go_ret
        exact ⟨rfl, hF2.trans (Ext.setCell (Ext.setCell (Ext.trans ((Ext.refl _).alloc _) hZ) (Nat.le_refl _) _) (Nat.le_refl _) _)⟩
    obtain ⟨rfl, rfl⟩ := hn
    obtain ⟨hPa, hPb, ⟨pos, hpos⟩, hlen, hl2, hAl⟩ := hlaw.out rfl rfl
    obtain ⟨A, hA⟩ : ∃ z, keptL l run = z := ⟨_, rfl⟩
    obtain ⟨B, hB⟩ : ∃ z, keptL yl run = z := ⟨_, rfl⟩
    rw [hA] at hPa hpos hlen hAl
    rw [hB] at hPb hpos hlen
    have hnp : newP what ⟨0, 7, call⟩ run = true := by unfold newP; rw [k0n, k5n]; exact hrun.out
    rw [hnp] at hlen
    clear hnp hA hB
    rw [if_pos rfl] at hlen
    have tl : (B.length != A.length + l.length) = false := by rw [hlen]; simp
    have tl2 : ((B.length : Int) != (A.length : Int) + (l.length : Int)) = false := by rw [hlen]; simp
    have tl3 : IntKind.i64.wrap ((A.length : Int) + (l.length : Int)) = (A.length : Int) + (l.length : Int) := IntWalk.i64_in _ (by omega)
    have hBl : B.length ≤ 1202 := by have h0 := hlen;  omega
    replace hlen := Lib.hid hlen
    replace hPa := Lib.hid hPa
    replace hPb := Lib.hid hPb
    replace hpos := Lib.hid hpos
    clear hlaw hl2
    have hSet := ((ExtBut.setCell w20 ⟨w3.heap.size, 0, none⟩ (.int .i64 yn)).mono (S' := fun b => b = w3.heap.size) (fun x _ h => h)).trans ((ExtBut.setCell _ ⟨w3.heap.size, 1, none⟩ (.slice a1 yl.length k1)).mono (S' := fun b => b = w3.heap.size) (fun x _ h => h))
    have hAs : Ext w3 ((World.setCell w20 ⟨w3.heap.size, 0, none⟩ (.int .i64 yn)).setCell ⟨w3.heap.size, 1, none⟩ (.slice a1 yl.length k1)) := Ext.setCell (Ext.setCell (Ext.trans ((Ext.refl _).alloc _) hZ) (Nat.le_refl _) _) (Nat.le_refl _) _
    have hy : Sts ((World.setCell w20 ⟨w3.heap.size, 0, none⟩ (.int .i64 yn)).setCell ⟨w3.heap.size, 1, none⟩ (.slice a1 yl.length k1)) (.slice a1 yl.length k1) yl := (OwnS.but o1.out hSet (fun b hb hS => by have h1 : b = w3.heap.size := hS; simp only [World.size_alloc] at hb; omega)).sts
    have bZ : Box ((World.setCell w20 ⟨w3.heap.size, 0, none⟩ (.int .i64 yn)).setCell ⟨w3.heap.size, 1, none⟩ (.slice a1 yl.length k1)) w3.heap.size 56 #[.int .i64 yn, .slice a1 yl.length k1] := Box.set (Box.set (bY.ext hZ) 0 (.int .i64 yn)) 1 (.slice a1 yl.length k1)
    have bM_0 : World.cell? ((World.setCell w20 ⟨w3.heap.size, 0, none⟩ (.int .i64 yn)).setCell ⟨w3.heap.size, 1, none⟩ (.slice a1 yl.length k1)) ⟨w.heap.size, 0, none⟩ = some (.int .i64 num) := (bM.ext hAs).cell 0
    have bM_1 : World.cell? ((World.setCell w20 ⟨w3.heap.size, 0, none⟩ (.int .i64 yn)).setCell ⟨w3.heap.size, 1, none⟩ (.slice a1 yl.length k1)) ⟨w.heap.size, 1, none⟩ = some (.slice q l.length cp) := (bM.ext hAs).cell 1
    have bZ_0 : World.cell? ((World.setCell w20 ⟨w3.heap.size, 0, none⟩ (.int .i64 yn)).setCell ⟨w3.heap.size, 1, none⟩ (.slice a1 yl.length k1)) ⟨w3.heap.size, 0, none⟩ = some (.int .i64 yn) := bZ.cell 0
    have bZ_1 : World.cell? ((World.setCell w20 ⟨w3.heap.size, 0, none⟩ (.int .i64 yn)).setCell ⟨w3.heap.size, 1, none⟩ (.slice a1 yl.length k1)) ⟨w3.heap.size, 1, none⟩ = some (.slice a1 yl.length k1) := bZ.cell 1
    go_wp2_with fail
    clear bM_0 bM_1 bZ_0 bZ_1 c0' c1' f0 f1 hltB o1 hSet
    obtain ⟨ws, hws⟩ : ∃ z, ((World.setCell w20 ⟨w3.heap.size, 0, none⟩ (.int .i64 yn)).setCell ⟨w3.heap.size, 1, none⟩ (.slice a1 yl.length k1)) = z := ⟨_, rfl⟩
    rw [hws] at hAs hy bZ ⊢
    clear hws bY hZ hB0
    replace bM := bM.ext hAs
    replace hL := hL.ext hAs
    replace hR := hR.ext hAs
    replace hP := hP.ext hAs
    have hF3 := Ext.trans (hF2) hAs
    refine (dealloc_Protects hL hR).mono ?_
    rintro e w5 ⟨vhia, rfl, ohia, hZ4⟩
    have hE4 : Ext ws w5 := Ext.trans (by repeat (first | exact Ext.refl _ | apply Ext.alloc | apply Ext.drew)) hZ4
    replace bM := bM.ext hE4
    replace hL := hL.ext hE4
    replace hR := hR.ext hE4
    replace hP := hP.ext hE4
    replace hy := hy.ext hE4
    replace bZ := bZ.ext hE4
    have hF4 := Ext.trans (hF3) hE4
    rw [hPa.out] at ohia ⊢
    have hia : Its _ _ A := (OwnI.its ohia)
    obtain ⟨ahia, chia, rfl, -⟩ := hia.form
    clear ohia
    dsimp only at hia ⊢
    have bM_0 : World.cell? w5 ⟨w.heap.size, 0, none⟩ = some (.int .i64 num) := bM.cell 0
    have bM_1 : World.cell? w5 ⟨w.heap.size, 1, none⟩ = some (.slice q l.length cp) := bM.cell 1
    have bM_l := bM.lt
    have bZ_0 : World.cell? w5 ⟨w3.heap.size, 0, none⟩ = some (.int .i64 yn) := bZ.cell 0
    have bZ_1 : World.cell? w5 ⟨w3.heap.size, 1, none⟩ = some (.slice a1 yl.length k1) := bZ.cell 1
    have bZ_l := bZ.lt
    go_wp2_with fail
    clear bM_0 bM_1 bM_l
    clear bZ_0 bZ_1 bZ_l
    refine (dealloc_Protects hy hR).mono ?_
    rintro e w6 ⟨vhib, rfl, ohib, hZ5⟩
    have hE5 : Ext w5 w6 := Ext.trans (by repeat (first | exact Ext.refl _ | apply Ext.alloc | apply Ext.drew)) hZ5
    replace bM := bM.ext hE5
    replace hL := hL.ext hE5
    replace hR := hR.ext hE5
    replace hP := hP.ext hE5
    replace hy := hy.ext hE5
    replace bZ := bZ.ext hE5
    replace hia := hia.ext hE5
    have hF5 := Ext.trans (hF4) hE5
    rw [hPb.out] at ohib ⊢
    have hib : Its _ _ B := (OwnI.its ohib)
    obtain ⟨ahib, chib, rfl, -⟩ := hib.form
    clear ohib
    dsimp only at hib ⊢
    have bM_0 : World.cell? w6 ⟨w.heap.size, 0, none⟩ = some (.int .i64 num) := bM.cell 0
    have bM_1 : World.cell? w6 ⟨w.heap.size, 1, none⟩ = some (.slice q l.length cp) := bM.cell 1
    have bM_l := bM.lt
    have bZ_0 : World.cell? w6 ⟨w3.heap.size, 0, none⟩ = some (.int .i64 yn) := bZ.cell 0
    have bZ_1 : World.cell? w6 ⟨w3.heap.size, 1, none⟩ = some (.slice a1 yl.length k1) := bZ.cell 1
    have bZ_l := bZ.lt
    go_wp2_with fail
    clear bM_0 bM_1 bM_l
    clear bZ_0 bZ_1 bZ_l
    refine (ref31_Runs call hR).mono ?_
    rintro e wz ⟨rfl, rfl⟩
    rw [hrun.out]
    go_wp2
    go_loopw [21, 22] (fun nv iv wr => ∃ j n : Nat, j ≤ A.length ∧ iv = .int .i64 j ∧ nv = .int .i64 n ∧ Hid (j < A.length → n ≤ pos j) ∧ Ext w6 wr) (fun _ iv _ => A.length - (intOf iv).toNat)
    case atStart => exact ⟨0, 0, Nat.zero_le _, rfl, rfl, Hid.mk (fun _ => Nat.zero_le _), Ext.refl _⟩
    case round =>
      obtain ⟨j, n, hj, rfl, rfl, hnp, hX⟩ := hrel
      by_cases hlt : j < A.length
      · obtain ⟨x, hx⟩ : ∃ x, A[j]? = some x := ⟨A[j], by simp [hlt]⟩
        obtain ⟨b0, o0, rfl, hb0, c0, c1, c2⟩ := (hia.ext hX).cell hx
        obtain ⟨hat, hup⟩ := hpos.out j x hx
        replace hat := Lib.hid hat
        replace hup := Lib.hid hup
        have hnp2 := Lib.hid (hnp.out hlt)
        have hXl := Lib.hid hx
        clear hx hnp
        have bX := Box.new wr 23 #[.int .u8 x.p, .int .i64 x.t, .int .i64 x.c]
        have hfr := bX.frozen 0
        go_wp2
        have hEs : Ext wr (wr.alloc (.cells #[.int .u8 1, .int .i64 x.t, .int .i64 x.c] 23)) := (Ext.refl wr).alloc _
        have bW := Box.new wr 23 #[.int .u8 1, .int .i64 x.t, .int .i64 x.c]
        obtain ⟨wv, hwv⟩ : ∃ z, wr.alloc (.cells #[.int .u8 1, .int .i64 x.t, .int .i64 x.c] 23) = z := ⟨_, rfl⟩
        rw [hwv] at hEs bW ⊢
        obtain ⟨bb, hbb⟩ : ∃ n, Array.size (World.heap wr) = n := ⟨_, rfl⟩
        rw [hbb] at bW ⊢
        clear hbb hwv bX hfr c0 c1 c2 hb0
        go_loopw [21] (fun nv wq => ∃ m : Nat, nv = .int .i64 m ∧ Hid (m ≤ pos j) ∧ Ext wv wq) (fun nv _ => B.length - (intOf nv).toNat)
        case atStart => exact ⟨n, rfl, hnp2, Ext.refl _⟩
        case round =>
          obtain ⟨m, rfl, hmp, hY⟩ := hrel
          have hmT : m < B.length := by
            obtain ⟨y', hy', -⟩ := hat.out
            exact Nat.lt_of_le_of_lt hmp.out (List.getElem?_eq_some_iff.1 hy').1
          obtain ⟨y, hy⟩ : ∃ y, B[m]? = some y := ⟨B[m], by simp [hmT]⟩
          have hXY := (hX.trans hEs).trans hY
          obtain ⟨b1, o1, rfl, hb1, d0, d1, d2⟩ := (hib.ext hXY).cell hy
          obtain ⟨b2, o2, hbe, hb2, c0, c1, c2⟩ := (hia.ext hXY).cell hXl.out
          cases hbe
          clear hb1 hb2
          have bZ := bW.ext hY
          have e0 : World.cell? wr ⟨bb, 0, none⟩ = some (.int .u8 1) := bZ.cell 0
          have e1 : World.cell? wr ⟨bb, 1, none⟩ = some (.int .i64 x.t) := bZ.cell 1
          have e2 : World.cell? wr ⟨bb, 2, none⟩ = some (.int .i64 x.c) := bZ.cell 2
          have hi0 : (0 : Int) ≤ (m : Int) := by omega
          have hi1 : (m : Int) < (B.length : Int) := by omega
          have hi2 : (0 : Int) ≤ (j : Int) := by omega
          have hi3 : (j : Int) < (A.length : Int) := by omega
          have hi4 : ((m : Int) == (B.length : Int)) = false := beq_eq_false_iff_ne.2 (by omega)
          have hmx : (m : Int) + 1 ≤ 9223372036854775807 := by omega
          have hmw : IntKind.i64.wrap ((m : Int) + 1) = (m : Int) + 1 := IntWalk.i64_in _ (by omega)
          have hnext : Hid (¬ Same1 x y → m + 1 ≤ pos j) := Hid.mk (fun hs => by
            rcases Nat.lt_or_ge m (pos j) with h | h
            · exact h
            · obtain ⟨y', hy', hs'⟩ := hat.out
              have : m = pos j := Nat.le_antisymm hmp.out h
              rw [← this, hy] at hy'
              cases hy'
              exact absurd hs' hs)
          have hne1 := run_neq_item y x
          have hne2 := run_neq_item y ⟨1, x.t, x.c⟩
          replace hy := Lib.hid hy
          by_cases h1 : y = x
          · subst h1
            simp only [ne_eq, not_true_eq_false, decide_false] at hne1
            unfold Item.val at hne1
            clear hne2 hnext
            go_wp2
            go_quiet (fail)
            go_wp2
            go_roundw
            case rel => exact ⟨j + 1, m + 1, by omega, by go_num, by go_num, Hid.mk (fun h => by have k1 := hmp.out; have k2 := hup.out h; omega), (by first | exact hXY.drewN _ | exact hXY)⟩
            case measure => simp [intOf]; omega
          · have n1 : decide (y ≠ x) = true := decide_eq_true h1
            simp only [n1] at hne1
            unfold Item.val at hne1
            by_cases h2 : x.p = 2
            · have z2 : (x.p != 2) = false := by simp [h2]
              have z2' := Lib.hid h2
              by_cases h3 : y = ⟨1, x.t, x.c⟩
              · simp only [h3, ne_eq, not_true_eq_false, decide_false] at hne2
                have hyv : Hid (y = ⟨1, x.t, x.c⟩) := Hid.mk h3
                have yp : y.p = 1 := by rw [h3]
                have yt : y.t = x.t := by rw [h3]
                have yc : y.c = x.c := by rw [h3]
                rw [yp] at d0 hne1; rw [yt] at d1 hne1; rw [yc] at d2 hne1
                unfold Item.val at hne2
                clear h1 h2 h3 n1 yp yt yc hnext
                go_wp2
                go_quiet (fail)
                go_wp2
                go_roundw
                case rel => exact ⟨j + 1, m + 1, by omega, by go_num, by go_num, Hid.mk (fun h => by have k1 := hmp.out; have k2 := hup.out h; omega), (by first | exact hXY.drewN _ | exact hXY)⟩
                case measure => simp [intOf]; omega
              · have n3 : decide (y ≠ ⟨1, x.t, x.c⟩) = true := decide_eq_true h3
                simp only [n3] at hne2
                unfold Item.val at hne2
                replace hnext := Lib.hid (hnext.out (fun hs => by rcases hs with hs | ⟨-, hs⟩; exact h1 hs; exact h3 hs))
                clear h1 h2 h3 n1 n3
                go_wp2
                go_quiet (fail)
                go_wp2
                go_roundw
                case rel => exact ⟨m + 1, by go_num, hnext, (by first | exact hY.drewN _ | exact hY)⟩
                case measure => simp [intOf]; omega
            · have z2 : (x.p != 2) = true := by simp [h2]
              replace hnext := Lib.hid (hnext.out (fun hs => by rcases hs with hs | ⟨hs, -⟩; exact h1 hs; exact h2 hs))
              clear h1 h2 n1 hne2
              go_wp2
              go_quiet (fail)
              go_wp2
              go_roundw
              case rel => exact ⟨m + 1, by go_num, hnext, (by first | exact hY.drewN _ | exact hY)⟩
              case measure => simp [intOf]; omega
      · have hje : j = A.length := by omega
        subst hje
        go_wp2
        go_ret
        exact ⟨rfl, hF5.trans hX⟩


set_option maxRecDepth 100000 in
theorem deallocAccess_contract (H : Type) (enc : TypeId × Value → H) (W : World) (base : Nat) (args : Array Value) (ds gs : List (DataW H)) (before : List MemPlace)
    (hval0 : ∀ (j : Nat) t v, Tryd.f12.params[j]? = some t → args[j]? = some v → Value.okWide Tryd.prog W .any base t v)
    (hW : DataW.Whole enc Tryd.prog Tryd.f12.params.toList Rows.deallocAccessSpec.vars false W args.toList ds gs before) (hL : laidMetH Tryd.prog Rows.deallocAccessRow.laid W) :
    Calls Tryd.prog 12 args W fun e W' => ∃ v, e = .returned v ∧ Rows.deallocAccessSpec.post enc Tryd.prog Tryd.f12 false true false false W args v W' := by
  have hval : ∀ (j : Nat) t v, Tryd.f12.params[j]? = some t → args[j]? = some v → Value.okWide Tryd.prog W .any base t v := hval0
  have hW' := hW
  obtain ⟨p, q, hA0, hV, rfl, hfz, hnd⟩ := hW
  have hA : DataW.TrodAll enc Tryd.prog W 0 (fun _ => true) true Tryd.f12.params.toList args.toList ds p := hA0
  rw [Tryd.params12] at hA hval
  obtain ⟨v0, vs0, d0, ds0, p0, q0, hargs, rfl, rfl, h0, r0⟩ := trodAll_cons hA
  obtain ⟨v1, vs1, d1, ds1, p1, q1, rfl, rfl, rfl, h1, r1⟩ := trodAll_cons r0
  obtain ⟨v2, vs2, d2, ds2, p2, q2, rfl, rfl, rfl, h2, r2⟩ := trodAll_cons r1
  obtain ⟨v3, vs3, d3, ds3, p3, q3, rfl, rfl, rfl, h3, r3⟩ := trodAll_cons r2
  obtain ⟨v4, vs4, d4, ds4, p4, q4, rfl, rfl, rfl, h4, r4⟩ := trodAll_cons r3
  obtain ⟨rfl, rfl, rfl⟩ := trodAll_nil r4
  obtain rfl : args = #[v0, v1, v2, v3, v4] := by cases args; simp_all
  obtain ⟨x0, u0, rfl, k0, wf0⟩ := open_stacks (hval 0 56 v0 rfl rfl) h0
  obtain ⟨x1, rfl, rfl, rfl, wf1⟩ := open_int Tryd.underlying5 (hval 1 5 v1 rfl rfl) h1
  obtain ⟨x2, rfl, rfl, rfl, wf2⟩ := open_int Tryd.underlying3 (hval 2 3 v2 rfl rfl) h2
  obtain ⟨x3, rfl, rfl, rfl, wf3⟩ := open_int Tryd.underlying3 (hval 3 3 v3 rfl rfl) h3
  obtain ⟨x4, k4, wf4⟩ := open_ints' Tryd.underlying37 (hval 4 37 v4 rfl rfl) h4
  refine (deallocAccess_walk (perms_of_laid hL) (u8B_of wf1) x2 x3 k0 k4).mono fun e W' ⟨he, hb⟩ => ?_
  subst he
  exact ⟨_, rfl, post_law TrydlaidOut (tb := 4) rfl Tryd.underlying4 (by kernel_rfl) rfl (fun ds hd => match ds, hd with | [a0, a1, a2, a3, a4], _ => rfl) hW' hb⟩
theorem deallocAccess_met (os : Os) : laidMet Tryd.prog Rows.deallocAccessRow.laid ((doorWorld os).forCall (fun _ _ => 0) ⟨#[], #[.agg #[.int .i64 0, .slice none 0 0], .int .u8 0, .int .i64 0, .int .i64 0, .slice none 0 0], []⟩).memory :=
  laidMet_of_run' 8 (by kernel_rfl) (by kernel_rfl)
theorem deallocAccess_reads (os : Os) {H : Type} (enc : TypeId × Value → H) : ∃ places, DataW.whole enc Tryd.prog ((doorWorld os).forCall (fun _ _ => 0) ⟨#[], #[.agg #[.int .i64 0, .slice none 0 0], .int .u8 0, .int .i64 0, .int .i64 0, .slice none 0 0], []⟩).memory Tryd.f12.params.toList Rows.deallocAccessSpec.vars false (#[.agg #[.int .i64 0, .slice none 0 0], .int .u8 0, .int .i64 0, .int .i64 0, .slice none 0 0] : Array Value).toList 8 = some ([.agg [.lit (.int .i64 0), .nil], .lit (.int .u8 0), .lit (.int .i64 0), .lit (.int .i64 0), .nil], [], places) :=
  ⟨[], by kernel_rfl⟩
set_option maxRecDepth 100000 in
theorem deallocAccess_lifted (os : Os) (started : os.Started) (H : Type) (enc : TypeId × Value → H) (F : Stop.Interp) :
    ReturnsInHanded {} Tryd.checked os 12 .any ((OpenSpec.ofChange Rows.deallocAccessSpec).preRow enc Tryd.prog Tryd.f12 Rows.deallocAccessRow.domain false Rows.deallocAccessRow.laid) (((OpenSpec.ofChange Rows.deallocAccessSpec).at F).post enc Tryd.prog Tryd.f12 false true false false) := by
  obtain ⟨places, hx⟩ := deallocAccess_reads os enc
  refine returnsInHanded_of_row (C := Tryd.checked) (s := OpenSpec.ofChange Rows.deallocAccessSpec) Trydown started (by kernel_rfl) Tryd.func12
    (witness_row_at (enc := enc) (C := Tryd.checked) false (doorWorld os) #[.agg #[.int .i64 0, .slice none 0 0], .int .u8 0, .int .i64 0, .int .i64 0, .slice none 0 0] rfl (by kernel_rfl) (by kernel_rfl) (by kernel_rfl)
      (OpenSpec.preRow_of_cond 8 hx (by kernel_rfl) (fun k hk => by cases hk) (by kernel_rfl) (deallocAccess_met os))) ?_
  intro W base args ds gs before hval hW _ _ _ hL _ _
  exact deallocAccess_contract H enc W base args ds gs before hval hW hL
theorem deallocAccess_said : Rows.DeallocAccessSaid :=
  OpenClaim.holds_of_cond 12 Tryd.f12 rfl rfl rfl rfl rfl rfl rfl ⟨rfl, rfl, rfl, rfl, rfl⟩ rfl rfl rfl rfl rfl (by kernel_rfl) Tryd.func12 (by kernel_rfl)
    (of_decide_eq_true (by kernel_rfl)) (by unfold Func.isWrapper; first | (rw [if_pos (by decide +kernel)]; kernel_rfl) | (rw [if_neg (by decide +kernel)]; exact ⟨rfl, rfl⟩))
    (fun os started H enc _ F => by rw [OpenClaim.pre_eq_preRow]; exact deallocAccess_lifted os started H enc F)
theorem deallocAccess_plain (f : FuncId) (fn : Func) (hf : Tryd.pinned.checked.prog.funcNamed "pawnshop/pawnshoplaw34.DeallocAccess" = some f) (hfn : Tryd.pinned.checked.prog.funcs[f]? = some fn) :
    false = Tryd.pinned.checked.prog.looks [] ∧ ∀ (j : Nat) t, fn.params[j]? = some t → Tryd.pinned.checked.prog.wantsStandIn t = false := by
  obtain rfl : f = 12 := Option.some.inj ((show Tryd.prog.funcNamed "pawnshop/pawnshoplaw34.DeallocAccess" = some 12 by kernel_rfl).symm.trans hf) |>.symm
  obtain rfl : fn = Tryd.f12 := (Option.some.inj (Tryd.func12.symm.trans hfn)).symm
  refine ⟨by kernel_rfl, fun j t ht => ?_⟩
  have hm : t ∈ Tryd.f12.params.toList := by simpa using Array.mem_of_getElem? ht
  have hall : (Tryd.f12.params.toList.all fun u => !Tryd.prog.wantsStandIn u) = true := by kernel_rfl
  exact (show Tryd.prog.wantsStandIn t = false by simpa using List.all_eq_true.1 hall t hm)
theorem deallocAccess_card : Rows.DeallocAccessCardSaid :=
  Claim7.holds_tied_plain_at .later [] _ _ _ _ deallocAccess_said (fun _ h => by cases h) (by kernel_rfl) (fun _ h => by cases h) deallocAccess_row_tie rfl ⟨rfl, rfl⟩ (by kernel_rfl) rfl deallocAccess_plain (by kernel_rfl)

end Go.Proofs.YtjfkfibhgilolaaDoor
