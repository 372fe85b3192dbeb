/- The statement CellsLoads: for every memory, pointer and number the call returns true. No condition. -/
import Derived.Test.YtkiadhkkpmcmiaaCelX4
import Derived.Test.YtkiadhkkpmcmiaaReadM
import Derived.Test.YtkiadhkkpmcmiaaClose
namespace Go.Proofs.Ytkiadhkkpmcmiaa
set_option maxRecDepth 100000
open Go.ChangeShapes Go.WideShapes Go.ChangeAt Go.RowKit

set_option maxRecDepth 100000 in
set_option maxHeartbeats 6400000 in
theorem cellsLoads_walk {m : Mem} {s : Value} {w : World} (p : Ptr) (n : Int) (hl : Als w s m.al) (hn : i64B m.next) :
    Calls Try.prog 5 #[.agg #[s, .int .i64 m.next], p.val, .int .i64 n] w fun e w' => e = .returned (.bool true) ∧ Ext w w' := by
  obtain ⟨pa, po, pt⟩ := p
  have hF := ((Ext.refl w).alloc (.cells #[s, .int .i64 m.next] 41)).alloc (.cells #[.int .i64 pa, .int .i64 po, .int .i64 pt] 43)
  have hL := hl.ext hF
  obtain ⟨a, cp, rfl, -⟩ := hl.form
  have bM := (Box.new w 41 #[.slice a m.al.length cp, .int .i64 m.next]).ext ((Ext.refl _).alloc (.cells #[.int .i64 pa, .int .i64 po, .int .i64 pt] 43))
  have bP := Box.new (w.alloc (.cells #[.slice a m.al.length cp, .int .i64 m.next] 41)) 43 #[.int .i64 pa, .int .i64 po, .int .i64 pt]
  rw [World.size_alloc] at bP
  clear hl
  unfold Ptr.val
  cases hg : greatM m.al
  · have hg' := Lib.hid hg
    clear hg
    obtain ⟨⟨ck, cn, ca, cb, ct⟩, why1, err1, h1⟩ : ∃ c why err, load1R m ⟨pa, po, pt⟩ = (c, why, err) := ⟨_, _, _, rfl⟩
    obtain ⟨L, why2, err2, h2⟩ : ∃ L why err, loadR m ⟨pa, po, pt⟩ n = (L, why, err) := ⟨_, _, _, rfl⟩
    have h1 := Lib.hid h1; have h2 := Lib.hid h2
    go_enter Try.func5, Try.ntmps5
    have bM_0 : World.cell? (World.alloc (World.alloc w (.cells #[.slice a m.al.length cp, .int .i64 m.next] 41)) (.cells #[.int .i64 pa, .int .i64 po, .int .i64 pt] 43)) ⟨w.heap.size, 0, none⟩ = some (.slice a m.al.length cp) := bM.cell 0
    have bM_1 : World.cell? (World.alloc (World.alloc w (.cells #[.slice a m.al.length cp, .int .i64 m.next] 41)) (.cells #[.int .i64 pa, .int .i64 po, .int .i64 pt] 43)) ⟨w.heap.size, 1, none⟩ = some (.int .i64 m.next) := bM.cell 1
    have bM_l := bM.lt
    have bP_0 : World.cell? (World.alloc (World.alloc w (.cells #[.slice a m.al.length cp, .int .i64 m.next] 41)) (.cells #[.int .i64 pa, .int .i64 po, .int .i64 pt] 43)) ⟨w.heap.size + 1, 0, none⟩ = some (.int .i64 pa) := bP.cell 0
    have bP_1 : World.cell? (World.alloc (World.alloc w (.cells #[.slice a m.al.length cp, .int .i64 m.next] 41)) (.cells #[.int .i64 pa, .int .i64 po, .int .i64 pt] 43)) ⟨w.heap.size + 1, 1, none⟩ = some (.int .i64 po) := bP.cell 1
    have bP_2 : World.cell? (World.alloc (World.alloc w (.cells #[.slice a m.al.length cp, .int .i64 m.next] 41)) (.cells #[.int .i64 pa, .int .i64 po, .int .i64 pt] 43)) ⟨w.heap.size + 1, 2, none⟩ = some (.int .i64 pt) := bP.cell 2
    have bP_l := bP.lt
    go_wp2_with fail
    clear bM_0 bM_1 bM_l
    clear bP_0 bP_1 bP_2 bP_l
    refine (ref26_Great hL).mono ?_
    rintro e w1 ⟨rfl, hE0⟩
    replace bM := bM.ext hE0
    replace bP := bP.ext hE0
    replace hL := hL.ext hE0
    have hF0 := Ext.trans (hF) hE0
    rw [hg'.out]
    have bM_0 : World.cell? w1 ⟨w.heap.size, 0, none⟩ = some (.slice a m.al.length cp) := bM.cell 0
    have bM_1 : World.cell? w1 ⟨w.heap.size, 1, none⟩ = some (.int .i64 m.next) := bM.cell 1
    have bM_l := bM.lt
    have bP_0 : World.cell? w1 ⟨w.heap.size + 1, 0, none⟩ = some (.int .i64 pa) := bP.cell 0
    have bP_1 : World.cell? w1 ⟨w.heap.size + 1, 1, none⟩ = some (.int .i64 po) := bP.cell 1
    have bP_2 : World.cell? w1 ⟨w.heap.size + 1, 2, none⟩ = some (.int .i64 pt) := bP.cell 2
    have bP_l := bP.lt
    go_wp2_with fail
    clear bM_0 bM_1 bM_l
    clear bP_0 bP_1 bP_2 bP_l
    refine (cells_Load ⟨pa, po, pt⟩ hL hn).mono ?_
    rintro e w2 ⟨rfl, hE1⟩
    replace bM := bM.ext hE1
    replace bP := bP.ext hE1
    replace hL := hL.ext hE1
    have hF1 := Ext.trans (hF0) hE1
    rw [h1.out]
    dsimp only [Cell.val]
    have bM_0 : World.cell? w2 ⟨w.heap.size, 0, none⟩ = some (.slice a m.al.length cp) := bM.cell 0
    have bM_1 : World.cell? w2 ⟨w.heap.size, 1, none⟩ = some (.int .i64 m.next) := bM.cell 1
    have bM_l := bM.lt
    have bP_0 : World.cell? w2 ⟨w.heap.size + 1, 0, none⟩ = some (.int .i64 pa) := bP.cell 0
    have bP_1 : World.cell? w2 ⟨w.heap.size + 1, 1, none⟩ = some (.int .i64 po) := bP.cell 1
    have bP_2 : World.cell? w2 ⟨w.heap.size + 1, 2, none⟩ = some (.int .i64 pt) := bP.cell 2
    have bP_l := bP.lt
    go_wp2_with fail
    clear bM_0 bM_1 bM_l
    clear bP_0 bP_1 bP_2 bP_l
    have bA := Box.new w2 50 #[.int .u8 ck, .int .i64 cn, .int .i64 ca, .int .i64 cb, .int .i64 ct]
    have hx2 : Ext w2 (World.alloc w2 (.cells #[.int .u8 ck, .int .i64 cn, .int .i64 ca, .int .i64 cb, .int .i64 ct] 50)) := (Ext.refl _).alloc _
    obtain ⟨w2b, hw2⟩ : ∃ x, World.alloc w2 (.cells #[.int .u8 ck, .int .i64 cn, .int .i64 ca, .int .i64 cb, .int .i64 ct] 50) = x := ⟨_, rfl⟩
    rw [hw2] at bA hx2 ⊢
    clear hw2
    replace bM := bM.ext hx2
    replace bP := bP.ext hx2
    replace hL := hL.ext hx2
    have hF2 := Ext.trans (hF1) hx2
    refine (ref27_Load ⟨pa, po, pt⟩ hL hn).mono ?_
    rintro e w4 ⟨rfl, hE3⟩
    replace bM := bM.ext hE3
    replace bP := bP.ext hE3
    replace hL := hL.ext hE3
    replace bA := bA.ext hE3
    have hF3 := Ext.trans (hF2) hE3
    rw [h1.out]
    dsimp only [Cell.val]
    have bM_0 : World.cell? w4 ⟨w.heap.size, 0, none⟩ = some (.slice a m.al.length cp) := bM.cell 0
    have bM_1 : World.cell? w4 ⟨w.heap.size, 1, none⟩ = some (.int .i64 m.next) := bM.cell 1
    have bM_l := bM.lt
    have bP_0 : World.cell? w4 ⟨w.heap.size + 1, 0, none⟩ = some (.int .i64 pa) := bP.cell 0
    have bP_1 : World.cell? w4 ⟨w.heap.size + 1, 1, none⟩ = some (.int .i64 po) := bP.cell 1
    have bP_2 : World.cell? w4 ⟨w.heap.size + 1, 2, none⟩ = some (.int .i64 pt) := bP.cell 2
    have bP_l := bP.lt
    have bA_0 : World.cell? w4 ⟨w2.heap.size, 0, none⟩ = some (.int .u8 ck) := bA.cell 0
    have bA_1 : World.cell? w4 ⟨w2.heap.size, 1, none⟩ = some (.int .i64 cn) := bA.cell 1
    have bA_2 : World.cell? w4 ⟨w2.heap.size, 2, none⟩ = some (.int .i64 ca) := bA.cell 2
    have bA_3 : World.cell? w4 ⟨w2.heap.size, 3, none⟩ = some (.int .i64 cb) := bA.cell 3
    have bA_4 : World.cell? w4 ⟨w2.heap.size, 4, none⟩ = some (.int .i64 ct) := bA.cell 4
    have bA_l := bA.lt
    go_wp2_with fail
    clear bM_0 bM_1 bM_l
    clear bP_0 bP_1 bP_2 bP_l
    clear bA_0 bA_1 bA_2 bA_3 bA_4 bA_l
    have bB := Box.new w4 50 #[.int .u8 ck, .int .i64 cn, .int .i64 ca, .int .i64 cb, .int .i64 ct]
    have hx4 : Ext w4 (World.alloc w4 (.cells #[.int .u8 ck, .int .i64 cn, .int .i64 ca, .int .i64 cb, .int .i64 ct] 50)) := (Ext.refl _).alloc _
    obtain ⟨w4b, hw4⟩ : ∃ x, World.alloc w4 (.cells #[.int .u8 ck, .int .i64 cn, .int .i64 ca, .int .i64 cb, .int .i64 ct] 50) = x := ⟨_, rfl⟩
    rw [hw4] at bB hx4 ⊢
    clear hw4
    replace bM := bM.ext hx4
    replace bP := bP.ext hx4
    replace hL := hL.ext hx4
    replace bA := bA.ext hx4
    have hF4 := Ext.trans (hF3) hx4
    refine (cells_LoadAll ⟨pa, po, pt⟩ n hL hn).mono ?_
    rintro e w6 ⟨vx, rfl, ox, hE5⟩
    replace bM := bM.ext hE5
    replace bP := bP.ext hE5
    replace hL := hL.ext hE5
    replace bA := bA.ext hE5
    replace bB := bB.ext hE5
    have hF5 := Ext.trans (hF4) hE5
    rw [h2.out] at ox
    rw [h2.out]
    have hx : Cls w6 vx L := ox.sl
    clear ox
    obtain ⟨sx, cx, rfl, -⟩ := hx.form
    dsimp only
    have bM_0 : World.cell? w6 ⟨w.heap.size, 0, none⟩ = some (.slice a m.al.length cp) := bM.cell 0
    have bM_1 : World.cell? w6 ⟨w.heap.size, 1, none⟩ = some (.int .i64 m.next) := bM.cell 1
    have bM_l := bM.lt
    have bP_0 : World.cell? w6 ⟨w.heap.size + 1, 0, none⟩ = some (.int .i64 pa) := bP.cell 0
    have bP_1 : World.cell? w6 ⟨w.heap.size + 1, 1, none⟩ = some (.int .i64 po) := bP.cell 1
    have bP_2 : World.cell? w6 ⟨w.heap.size + 1, 2, none⟩ = some (.int .i64 pt) := bP.cell 2
    have bP_l := bP.lt
    have bA_0 : World.cell? w6 ⟨w2.heap.size, 0, none⟩ = some (.int .u8 ck) := bA.cell 0
    have bA_1 : World.cell? w6 ⟨w2.heap.size, 1, none⟩ = some (.int .i64 cn) := bA.cell 1
    have bA_2 : World.cell? w6 ⟨w2.heap.size, 2, none⟩ = some (.int .i64 ca) := bA.cell 2
    have bA_3 : World.cell? w6 ⟨w2.heap.size, 3, none⟩ = some (.int .i64 cb) := bA.cell 3
    have bA_4 : World.cell? w6 ⟨w2.heap.size, 4, none⟩ = some (.int .i64 ct) := bA.cell 4
    have bA_l := bA.lt
    have bB_0 : World.cell? w6 ⟨w4.heap.size, 0, none⟩ = some (.int .u8 ck) := bB.cell 0
    have bB_1 : World.cell? w6 ⟨w4.heap.size, 1, none⟩ = some (.int .i64 cn) := bB.cell 1
    have bB_2 : World.cell? w6 ⟨w4.heap.size, 2, none⟩ = some (.int .i64 ca) := bB.cell 2
    have bB_3 : World.cell? w6 ⟨w4.heap.size, 3, none⟩ = some (.int .i64 cb) := bB.cell 3
    have bB_4 : World.cell? w6 ⟨w4.heap.size, 4, none⟩ = some (.int .i64 ct) := bB.cell 4
    have bB_l := bB.lt
    go_wp2_with fail
    clear bM_0 bM_1 bM_l
    clear bP_0 bP_1 bP_2 bP_l
    clear bA_0 bA_1 bA_2 bA_3 bA_4 bA_l
    clear bB_0 bB_1 bB_2 bB_3 bB_4 bB_l
    refine (ref27_LoadAll ⟨pa, po, pt⟩ n hL hn).mono ?_
    rintro e w7 ⟨vy, rfl, oy, hE6⟩
    replace bM := bM.ext hE6
    replace bP := bP.ext hE6
    replace hL := hL.ext hE6
    replace bA := bA.ext hE6
    replace bB := bB.ext hE6
    replace hx := hx.ext hE6
    have hF6 := Ext.trans (hF5) hE6
    rw [h2.out] at oy
    rw [h2.out]
    have hy : Cls w7 vy L := oy.sl
    clear oy
    obtain ⟨sy, cy, rfl, -⟩ := hy.form
    dsimp only
    have bM_0 : World.cell? w7 ⟨w.heap.size, 0, none⟩ = some (.slice a m.al.length cp) := bM.cell 0
    have bM_1 : World.cell? w7 ⟨w.heap.size, 1, none⟩ = some (.int .i64 m.next) := bM.cell 1
    have bM_l := bM.lt
    have bP_0 : World.cell? w7 ⟨w.heap.size + 1, 0, none⟩ = some (.int .i64 pa) := bP.cell 0
    have bP_1 : World.cell? w7 ⟨w.heap.size + 1, 1, none⟩ = some (.int .i64 po) := bP.cell 1
    have bP_2 : World.cell? w7 ⟨w.heap.size + 1, 2, none⟩ = some (.int .i64 pt) := bP.cell 2
    have bP_l := bP.lt
    have bA_0 : World.cell? w7 ⟨w2.heap.size, 0, none⟩ = some (.int .u8 ck) := bA.cell 0
    have bA_1 : World.cell? w7 ⟨w2.heap.size, 1, none⟩ = some (.int .i64 cn) := bA.cell 1
    have bA_2 : World.cell? w7 ⟨w2.heap.size, 2, none⟩ = some (.int .i64 ca) := bA.cell 2
    have bA_3 : World.cell? w7 ⟨w2.heap.size, 3, none⟩ = some (.int .i64 cb) := bA.cell 3
    have bA_4 : World.cell? w7 ⟨w2.heap.size, 4, none⟩ = some (.int .i64 ct) := bA.cell 4
    have bA_l := bA.lt
    have bB_0 : World.cell? w7 ⟨w4.heap.size, 0, none⟩ = some (.int .u8 ck) := bB.cell 0
    have bB_1 : World.cell? w7 ⟨w4.heap.size, 1, none⟩ = some (.int .i64 cn) := bB.cell 1
    have bB_2 : World.cell? w7 ⟨w4.heap.size, 2, none⟩ = some (.int .i64 ca) := bB.cell 2
    have bB_3 : World.cell? w7 ⟨w4.heap.size, 3, none⟩ = some (.int .i64 cb) := bB.cell 3
    have bB_4 : World.cell? w7 ⟨w4.heap.size, 4, none⟩ = some (.int .i64 ct) := bB.cell 4
    have bB_l := bB.lt
    go_wp2_with fail
    clear bM_0 bM_1 bM_l
    clear bP_0 bP_1 bP_2 bP_l
    clear bA_0 bA_1 bA_2 bA_3 bA_4 bA_l
    clear bB_0 bB_1 bB_2 bB_3 bB_4 bB_l
    refine (ref27_SameCells_yes hx hy).mono ?_
    rintro e w8 ⟨rfl, hE7⟩
    replace bM := bM.ext hE7
    replace bP := bP.ext hE7
    replace hL := hL.ext hE7
    replace bA := bA.ext hE7
    replace bB := bB.ext hE7
    replace hx := hx.ext hE7
    replace hy := hy.ext hE7
    have hF7 := Ext.trans (hF6) hE7
    go_wp2
    go_ret
    exact ⟨rfl, hF7⟩
  · have hg' := Lib.hid hg
    clear hg
    go_enter Try.func5, Try.ntmps5
    have bM_0 : World.cell? (World.alloc (World.alloc w (.cells #[.slice a m.al.length cp, .int .i64 m.next] 41)) (.cells #[.int .i64 pa, .int .i64 po, .int .i64 pt] 43)) ⟨w.heap.size, 0, none⟩ = some (.slice a m.al.length cp) := bM.cell 0
    have bM_1 : World.cell? (World.alloc (World.alloc w (.cells #[.slice a m.al.length cp, .int .i64 m.next] 41)) (.cells #[.int .i64 pa, .int .i64 po, .int .i64 pt] 43)) ⟨w.heap.size, 1, none⟩ = some (.int .i64 m.next) := bM.cell 1
    have bM_l := bM.lt
    have bP_0 : World.cell? (World.alloc (World.alloc w (.cells #[.slice a m.al.length cp, .int .i64 m.next] 41)) (.cells #[.int .i64 pa, .int .i64 po, .int .i64 pt] 43)) ⟨w.heap.size + 1, 0, none⟩ = some (.int .i64 pa) := bP.cell 0
    have bP_1 : World.cell? (World.alloc (World.alloc w (.cells #[.slice a m.al.length cp, .int .i64 m.next] 41)) (.cells #[.int .i64 pa, .int .i64 po, .int .i64 pt] 43)) ⟨w.heap.size + 1, 1, none⟩ = some (.int .i64 po) := bP.cell 1
    have bP_2 : World.cell? (World.alloc (World.alloc w (.cells #[.slice a m.al.length cp, .int .i64 m.next] 41)) (.cells #[.int .i64 pa, .int .i64 po, .int .i64 pt] 43)) ⟨w.heap.size + 1, 2, none⟩ = some (.int .i64 pt) := bP.cell 2
    have bP_l := bP.lt
    go_wp2_with fail
    clear bM_0 bM_1 bM_l
    clear bP_0 bP_1 bP_2 bP_l
    refine (ref26_Great hL).mono ?_
    rintro e w1 ⟨rfl, hE0⟩
    replace bM := bM.ext hE0
    replace bP := bP.ext hE0
    replace hL := hL.ext hE0
    have hF0 := Ext.trans (hF) hE0
    rw [hg'.out]
    go_wp2
    go_ret
    exact ⟨rfl, hF0⟩

set_option maxRecDepth 100000 in
theorem cellsLoads_lifted (os : Os) (started : os.Started) (H : Type) (enc : TypeId × Value → H) :
    ReturnsInHanded {} Try.checked os 5 .any (Rows.cellsLoadsSpec.pre6 enc Try.prog Try.f5 Rows.cellsLoadsRow.domain false) (Rows.cellsLoadsSpec.post enc Try.prog Try.f5 false true false false) := by
  refine returnsInHanded_of_change (C := Try.checked) Tryown started (by kernel_rfl) Try.func5
    (ChangeSpec.witness6 (enc := enc) (C := Try.checked) false ⟨#[], #[.agg #[.slice none 0 0, .int .i64 0], .agg #[.int .i64 0, .int .i64 0, .int .i64 0], .int .i64 0], []⟩ 8 (by kernel_rfl) (by kernel_rfl) (by kernel_rfl) (by kernel_rfl)) ?_
  intro W base args ds gs before hval0 hW _ _
  have hval : ∀ (j : Nat) t v, Try.f5.params[j]? = some t → args[j]? = some v → Value.okWide Try.prog W .any base t v := hval0
  have hW' := hW
  obtain ⟨p, q, hA0, hV, rfl, hfz, hnd⟩ := hW
  have hA : DataW.TrodAll enc Try.prog W 0 (fun _ => true) true Try.f5.params.toList args.toList ds p := hA0
  rw [Try.params5] at hA hval
  obtain ⟨v0, vs0, d0, ds0, p0, q0, hargs, rfl, rfl, h0, r0⟩ := trodAll_cons hA
  obtain ⟨v1, vs1, d1, ds1, p1, q1, rfl, rfl, rfl, h1, r1⟩ := trodAll_cons r0
  obtain ⟨v2, vs2, d2, ds2, p2, q2, rfl, rfl, rfl, h2, r2⟩ := trodAll_cons r1
  obtain ⟨rfl, rfl, rfl⟩ := trodAll_nil r2
  obtain rfl : args = #[v0, v1, v2] := by cases args; simp_all
  obtain ⟨x0, u0, rfl, k0, wf0⟩ := open_mem (hval 0 41 v0 rfl rfl) h0
  obtain ⟨x1, rfl, wf1⟩ := open_ptrv (hval 1 43 v1 rfl rfl) h1
  obtain ⟨x2, rfl, rfl, rfl, wf2⟩ := open_int Try.underlying3 (hval 2 3 v2 rfl rfl) h2
  refine (cellsLoads_walk x1 x2 k0 wf0.1).mono fun e W' ⟨he, hb⟩ => ?_
  subst he
  exact ⟨_, rfl, post_law TrylaidOut (tb := 4) rfl Try.underlying4 (by kernel_rfl) rfl (fun ds hd => match ds, hd with | [a0, a1, a2], _ => rfl) hW' hb⟩

theorem cellsLoads_holds : Rows.CellsLoadsSaid :=
  OpenClaim.holds_of_wide 5 Try.f5 rfl rfl rfl rfl rfl rfl rfl ⟨rfl, rfl, rfl, rfl, rfl⟩ rfl rfl rfl rfl rfl (by kernel_rfl) Try.func5 (by kernel_rfl)
    (of_decide_eq_true (by kernel_rfl)) (by unfold Func.isWrapper; first | (rw [if_pos (by decide +kernel)]; kernel_rfl) | (rw [if_neg (by decide +kernel)]; exact ⟨rfl, rfl⟩))
    (fun os started H enc _ => cellsLoads_lifted os started H enc)

end Go.Proofs.Ytkiadhkkpmcmiaa
