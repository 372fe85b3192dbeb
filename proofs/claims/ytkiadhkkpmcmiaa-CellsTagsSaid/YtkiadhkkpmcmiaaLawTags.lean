/- The statement CellsTags: for every memory, pointer, tag and cell the call returns true. No condition. -/
import Derived.Test.YtkiadhkkpmcmiaaCelX9
import Derived.Test.YtkiadhkkpmcmiaaReadM
import Derived.Test.YtkiadhkkpmcmiaaClose
namespace Go.Proofs.Ytkiadhkkpmcmiaa
set_option maxRecDepth 100000
open Go.ChangeShapes Go.WideShapes Go.ChangeAt Go.RowKit
set_option linter.unusedVariables false

theorem load1R_tag (m : Mem) (a o t u : Int) : load1R m ⟨a, o, t⟩ = load1R m ⟨a, o, u⟩ := rfl
theorem storeR_tag (m : Mem) (a o t u : Int) (l : List Cell) : storeR m ⟨a, o, t⟩ l = storeR m ⟨a, o, u⟩ l := rfl

set_option maxHeartbeats 6400000 in
theorem cellsTags_walk {m : Mem} {s : Value} {w : World} (p : Ptr) (tag : Int) (c : Cell) (hl : Als w s m.al) (hn : i64B m.next) :
    Calls Try.prog 10 #[.agg #[s, .int .i64 m.next], p.val, .int .i64 tag, c.val] w fun e w' => e = .returned (.bool true) ∧ Ext w w' := by
  obtain ⟨pa, po, pt⟩ := p
  obtain ⟨ck, cn, ca, cb, ct⟩ := c
  obtain ⟨a, cp, rfl, -⟩ := hl.form
  have hF := (((Ext.refl w).alloc (.cells #[.slice a m.al.length cp, .int .i64 m.next] 41)).alloc (.cells #[.int .i64 pa, .int .i64 po, .int .i64 pt] 43)).alloc (.cells #[.int .u8 ck, .int .i64 cn, .int .i64 ca, .int .i64 cb, .int .i64 ct] 50)
  have hL := hl.ext hF
  have bM := ((Box.new w 41 #[.slice a m.al.length cp, .int .i64 m.next]).ext ((Ext.refl _).alloc (.cells #[.int .i64 pa, .int .i64 po, .int .i64 pt] 43))).ext ((Ext.refl _).alloc (.cells #[.int .u8 ck, .int .i64 cn, .int .i64 ca, .int .i64 cb, .int .i64 ct] 50))
  have bP := (Box.new (w.alloc (.cells #[.slice a m.al.length cp, .int .i64 m.next] 41)) 43 #[.int .i64 pa, .int .i64 po, .int .i64 pt]).ext ((Ext.refl _).alloc (.cells #[.int .u8 ck, .int .i64 cn, .int .i64 ca, .int .i64 cb, .int .i64 ct] 50))
  have bC := Box.new ((w.alloc (.cells #[.slice a m.al.length cp, .int .i64 m.next] 41)).alloc (.cells #[.int .i64 pa, .int .i64 po, .int .i64 pt] 43)) 50 #[.int .u8 ck, .int .i64 cn, .int .i64 ca, .int .i64 cb, .int .i64 ct]
  rw [World.size_alloc] at bP bC
  rw [World.size_alloc] at bC
  clear hl
  unfold Ptr.val Cell.val
  obtain ⟨⟨dk, dn, da, db, dt⟩, why1, err1, h1⟩ : ∃ c why err, load1R m ⟨pa, po, pt⟩ = (c, why, err) := ⟨_, _, _, rfl⟩
  have h1' := Lib.hid ((load1R_tag m pa po tag pt).trans h1)
  have h1 := Lib.hid h1
  obtain ⟨M2, y2, e2, h2⟩ : ∃ M why err, storeR m ⟨pa, po, pt⟩ [⟨ck, cn, ca, cb, ct⟩] = (M, why, err) := ⟨_, _, _, rfl⟩
  have h2' := Lib.hid ((storeR_tag m pa po tag pt _).trans h2)
  have h2 := Lib.hid h2
  cases hg : greatM m.al
  · have hg' := Lib.hid hg
    clear hg
    go_enter Try.func10, Try.ntmps10
    have bM_0 : World.cell? (World.alloc (World.alloc (World.alloc w (.cells #[.slice a m.al.length cp, .int .i64 m.next] 41)) (.cells #[.int .i64 pa, .int .i64 po, .int .i64 pt] 43)) (.cells #[.int .u8 ck, .int .i64 cn, .int .i64 ca, .int .i64 cb, .int .i64 ct] 50)) ⟨w.heap.size, 0, none⟩ = some (.slice a m.al.length cp) := bM.cell 0
    have bM_1 : World.cell? (World.alloc (World.alloc (World.alloc w (.cells #[.slice a m.al.length cp, .int .i64 m.next] 41)) (.cells #[.int .i64 pa, .int .i64 po, .int .i64 pt] 43)) (.cells #[.int .u8 ck, .int .i64 cn, .int .i64 ca, .int .i64 cb, .int .i64 ct] 50)) ⟨w.heap.size, 1, none⟩ = some (.int .i64 m.next) := bM.cell 1
    have bM_l := bM.lt
    have bP_0 : World.cell? (World.alloc (World.alloc (World.alloc w (.cells #[.slice a m.al.length cp, .int .i64 m.next] 41)) (.cells #[.int .i64 pa, .int .i64 po, .int .i64 pt] 43)) (.cells #[.int .u8 ck, .int .i64 cn, .int .i64 ca, .int .i64 cb, .int .i64 ct] 50)) ⟨w.heap.size + 1, 0, none⟩ = some (.int .i64 pa) := bP.cell 0
    have bP_1 : World.cell? (World.alloc (World.alloc (World.alloc w (.cells #[.slice a m.al.length cp, .int .i64 m.next] 41)) (.cells #[.int .i64 pa, .int .i64 po, .int .i64 pt] 43)) (.cells #[.int .u8 ck, .int .i64 cn, .int .i64 ca, .int .i64 cb, .int .i64 ct] 50)) ⟨w.heap.size + 1, 1, none⟩ = some (.int .i64 po) := bP.cell 1
    have bP_2 : World.cell? (World.alloc (World.alloc (World.alloc w (.cells #[.slice a m.al.length cp, .int .i64 m.next] 41)) (.cells #[.int .i64 pa, .int .i64 po, .int .i64 pt] 43)) (.cells #[.int .u8 ck, .int .i64 cn, .int .i64 ca, .int .i64 cb, .int .i64 ct] 50)) ⟨w.heap.size + 1, 2, none⟩ = some (.int .i64 pt) := bP.cell 2
    have bP_l := bP.lt
    have bC_0 : World.cell? (World.alloc (World.alloc (World.alloc w (.cells #[.slice a m.al.length cp, .int .i64 m.next] 41)) (.cells #[.int .i64 pa, .int .i64 po, .int .i64 pt] 43)) (.cells #[.int .u8 ck, .int .i64 cn, .int .i64 ca, .int .i64 cb, .int .i64 ct] 50)) ⟨w.heap.size + 1 + 1, 0, none⟩ = some (.int .u8 ck) := bC.cell 0
    have bC_1 : World.cell? (World.alloc (World.alloc (World.alloc w (.cells #[.slice a m.al.length cp, .int .i64 m.next] 41)) (.cells #[.int .i64 pa, .int .i64 po, .int .i64 pt] 43)) (.cells #[.int .u8 ck, .int .i64 cn, .int .i64 ca, .int .i64 cb, .int .i64 ct] 50)) ⟨w.heap.size + 1 + 1, 1, none⟩ = some (.int .i64 cn) := bC.cell 1
    have bC_2 : World.cell? (World.alloc (World.alloc (World.alloc w (.cells #[.slice a m.al.length cp, .int .i64 m.next] 41)) (.cells #[.int .i64 pa, .int .i64 po, .int .i64 pt] 43)) (.cells #[.int .u8 ck, .int .i64 cn, .int .i64 ca, .int .i64 cb, .int .i64 ct] 50)) ⟨w.heap.size + 1 + 1, 2, none⟩ = some (.int .i64 ca) := bC.cell 2
    have bC_3 : World.cell? (World.alloc (World.alloc (World.alloc w (.cells #[.slice a m.al.length cp, .int .i64 m.next] 41)) (.cells #[.int .i64 pa, .int .i64 po, .int .i64 pt] 43)) (.cells #[.int .u8 ck, .int .i64 cn, .int .i64 ca, .int .i64 cb, .int .i64 ct] 50)) ⟨w.heap.size + 1 + 1, 3, none⟩ = some (.int .i64 cb) := bC.cell 3
    have bC_4 : World.cell? (World.alloc (World.alloc (World.alloc w (.cells #[.slice a m.al.length cp, .int .i64 m.next] 41)) (.cells #[.int .i64 pa, .int .i64 po, .int .i64 pt] 43)) (.cells #[.int .u8 ck, .int .i64 cn, .int .i64 ca, .int .i64 cb, .int .i64 ct] 50)) ⟨w.heap.size + 1 + 1, 4, none⟩ = some (.int .i64 ct) := bC.cell 4
    have bC_l := bC.lt
    go_wp2_with fail
    clear bM_0 bM_1 bM_l
    clear bP_0 bP_1 bP_2 bP_l
    clear bC_0 bC_1 bC_2 bC_3 bC_4 bC_l
    refine (law27_alive _).mono ?_
    rintro e w1 ⟨rfl, hE0⟩
    replace bM := bM.ext hE0
    replace bP := bP.ext hE0
    replace bC := bC.ext hE0
    replace hL := hL.ext hE0
    have hF0 := Ext.trans (hF) hE0
    have bM_0 : World.cell? w1 ⟨w.heap.size, 0, none⟩ = some (.slice a m.al.length cp) := bM.cell 0
    have bM_1 : World.cell? w1 ⟨w.heap.size, 1, none⟩ = some (.int .i64 m.next) := bM.cell 1
    have bM_l := bM.lt
    have bP_0 : World.cell? w1 ⟨w.heap.size + 1, 0, none⟩ = some (.int .i64 pa) := bP.cell 0
    have bP_1 : World.cell? w1 ⟨w.heap.size + 1, 1, none⟩ = some (.int .i64 po) := bP.cell 1
    have bP_2 : World.cell? w1 ⟨w.heap.size + 1, 2, none⟩ = some (.int .i64 pt) := bP.cell 2
    have bP_l := bP.lt
    have bC_0 : World.cell? w1 ⟨w.heap.size + 1 + 1, 0, none⟩ = some (.int .u8 ck) := bC.cell 0
    have bC_1 : World.cell? w1 ⟨w.heap.size + 1 + 1, 1, none⟩ = some (.int .i64 cn) := bC.cell 1
    have bC_2 : World.cell? w1 ⟨w.heap.size + 1 + 1, 2, none⟩ = some (.int .i64 ca) := bC.cell 2
    have bC_3 : World.cell? w1 ⟨w.heap.size + 1 + 1, 3, none⟩ = some (.int .i64 cb) := bC.cell 3
    have bC_4 : World.cell? w1 ⟨w.heap.size + 1 + 1, 4, none⟩ = some (.int .i64 ct) := bC.cell 4
    have bC_l := bC.lt
    go_wp2_with fail
    clear bM_0 bM_1 bM_l
    clear bP_0 bP_1 bP_2 bP_l
    clear bC_0 bC_1 bC_2 bC_3 bC_4 bC_l
    refine (ref26_Great hL).mono ?_
    rintro e w2 ⟨rfl, hE1⟩
    replace bM := bM.ext hE1
    replace bP := bP.ext hE1
    replace bC := bC.ext hE1
    replace hL := hL.ext hE1
    have hF1 := Ext.trans (hF0) hE1
    rw [hg'.out]
    have bM_0 : World.cell? w2 ⟨w.heap.size, 0, none⟩ = some (.slice a m.al.length cp) := bM.cell 0
    have bM_1 : World.cell? w2 ⟨w.heap.size, 1, none⟩ = some (.int .i64 m.next) := bM.cell 1
    have bM_l := bM.lt
    have bP_0 : World.cell? w2 ⟨w.heap.size + 1, 0, none⟩ = some (.int .i64 pa) := bP.cell 0
    have bP_1 : World.cell? w2 ⟨w.heap.size + 1, 1, none⟩ = some (.int .i64 po) := bP.cell 1
    have bP_2 : World.cell? w2 ⟨w.heap.size + 1, 2, none⟩ = some (.int .i64 pt) := bP.cell 2
    have bP_l := bP.lt
    have bC_0 : World.cell? w2 ⟨w.heap.size + 1 + 1, 0, none⟩ = some (.int .u8 ck) := bC.cell 0
    have bC_1 : World.cell? w2 ⟨w.heap.size + 1 + 1, 1, none⟩ = some (.int .i64 cn) := bC.cell 1
    have bC_2 : World.cell? w2 ⟨w.heap.size + 1 + 1, 2, none⟩ = some (.int .i64 ca) := bC.cell 2
    have bC_3 : World.cell? w2 ⟨w.heap.size + 1 + 1, 3, none⟩ = some (.int .i64 cb) := bC.cell 3
    have bC_4 : World.cell? w2 ⟨w.heap.size + 1 + 1, 4, none⟩ = some (.int .i64 ct) := bC.cell 4
    have bC_l := bC.lt
    go_wp2_with fail
    clear bM_0 bM_1 bM_l
    clear bP_0 bP_1 bP_2 bP_l
    clear bC_0 bC_1 bC_2 bC_3 bC_4 bC_l
    have bQ := Box.new w2 43 #[.int .i64 pa, .int .i64 po, .int .i64 tag]
    have hx2 : Ext w2 (World.alloc w2 (.cells #[.int .i64 pa, .int .i64 po, .int .i64 tag] 43)) := (Ext.refl _).alloc _
    obtain ⟨w2b, hw2⟩ : ∃ x, World.alloc w2 (.cells #[.int .i64 pa, .int .i64 po, .int .i64 tag] 43) = x := ⟨_, rfl⟩
    rw [hw2] at bQ hx2 ⊢
    clear hw2
    replace bM := bM.ext hx2
    replace bP := bP.ext hx2
    replace bC := bC.ext hx2
    replace hL := hL.ext hx2
    have hF2 := Ext.trans (hF1) hx2
    refine (cells_Load ⟨pa, po, pt⟩ hL hn).mono ?_
    rintro e w4 ⟨rfl, hE3⟩
    replace bM := bM.ext hE3
    replace bP := bP.ext hE3
    replace bC := bC.ext hE3
    replace hL := hL.ext hE3
    replace bQ := bQ.ext hE3
    have hF3 := Ext.trans (hF2) hE3
    rw [h1.out]
    dsimp only [Cell.val]
    have bM_0 : World.cell? w4 ⟨w.heap.size, 0, none⟩ = some (.slice a m.al.length cp) := bM.cell 0
    have bM_1 : World.cell? w4 ⟨w.heap.size, 1, none⟩ = some (.int .i64 m.next) := bM.cell 1
    have bM_l := bM.lt
    have bP_0 : World.cell? w4 ⟨w.heap.size + 1, 0, none⟩ = some (.int .i64 pa) := bP.cell 0
    have bP_1 : World.cell? w4 ⟨w.heap.size + 1, 1, none⟩ = some (.int .i64 po) := bP.cell 1
    have bP_2 : World.cell? w4 ⟨w.heap.size + 1, 2, none⟩ = some (.int .i64 pt) := bP.cell 2
    have bP_l := bP.lt
    have bC_0 : World.cell? w4 ⟨w.heap.size + 1 + 1, 0, none⟩ = some (.int .u8 ck) := bC.cell 0
    have bC_1 : World.cell? w4 ⟨w.heap.size + 1 + 1, 1, none⟩ = some (.int .i64 cn) := bC.cell 1
    have bC_2 : World.cell? w4 ⟨w.heap.size + 1 + 1, 2, none⟩ = some (.int .i64 ca) := bC.cell 2
    have bC_3 : World.cell? w4 ⟨w.heap.size + 1 + 1, 3, none⟩ = some (.int .i64 cb) := bC.cell 3
    have bC_4 : World.cell? w4 ⟨w.heap.size + 1 + 1, 4, none⟩ = some (.int .i64 ct) := bC.cell 4
    have bC_l := bC.lt
    have bQ_0 : World.cell? w4 ⟨w2.heap.size, 0, none⟩ = some (.int .i64 pa) := bQ.cell 0
    have bQ_1 : World.cell? w4 ⟨w2.heap.size, 1, none⟩ = some (.int .i64 po) := bQ.cell 1
    have bQ_2 : World.cell? w4 ⟨w2.heap.size, 2, none⟩ = some (.int .i64 tag) := bQ.cell 2
    have bQ_l := bQ.lt
    go_wp2_with fail
    clear bM_0 bM_1 bM_l
    clear bP_0 bP_1 bP_2 bP_l
    clear bC_0 bC_1 bC_2 bC_3 bC_4 bC_l
    clear bQ_0 bQ_1 bQ_2 bQ_l
    have bA := Box.new w4 50 #[.int .u8 dk, .int .i64 dn, .int .i64 da, .int .i64 db, .int .i64 dt]
    have hx4 : Ext w4 (World.alloc w4 (.cells #[.int .u8 dk, .int .i64 dn, .int .i64 da, .int .i64 db, .int .i64 dt] 50)) := (Ext.refl _).alloc _
    obtain ⟨w4b, hw4⟩ : ∃ x, World.alloc w4 (.cells #[.int .u8 dk, .int .i64 dn, .int .i64 da, .int .i64 db, .int .i64 dt] 50) = x := ⟨_, rfl⟩
    rw [hw4] at bA hx4 ⊢
    clear hw4
    replace bM := bM.ext hx4
    replace bP := bP.ext hx4
    replace bC := bC.ext hx4
    replace hL := hL.ext hx4
    replace bQ := bQ.ext hx4
    have hF4 := Ext.trans (hF3) hx4
    refine (cells_Load ⟨pa, po, tag⟩ hL hn).mono ?_
    rintro e w6 ⟨rfl, hE5⟩
    replace bM := bM.ext hE5
    replace bP := bP.ext hE5
    replace bC := bC.ext hE5
    replace hL := hL.ext hE5
    replace bQ := bQ.ext hE5
    replace bA := bA.ext hE5
    have hF5 := Ext.trans (hF4) hE5
    rw [h1'.out]
    dsimp only [Cell.val]
    have bM_0 : World.cell? w6 ⟨w.heap.size, 0, none⟩ = some (.slice a m.al.length cp) := bM.cell 0
    have bM_1 : World.cell? w6 ⟨w.heap.size, 1, none⟩ = some (.int .i64 m.next) := bM.cell 1
    have bM_l := bM.lt
    have bP_0 : World.cell? w6 ⟨w.heap.size + 1, 0, none⟩ = some (.int .i64 pa) := bP.cell 0
    have bP_1 : World.cell? w6 ⟨w.heap.size + 1, 1, none⟩ = some (.int .i64 po) := bP.cell 1
    have bP_2 : World.cell? w6 ⟨w.heap.size + 1, 2, none⟩ = some (.int .i64 pt) := bP.cell 2
    have bP_l := bP.lt
    have bC_0 : World.cell? w6 ⟨w.heap.size + 1 + 1, 0, none⟩ = some (.int .u8 ck) := bC.cell 0
    have bC_1 : World.cell? w6 ⟨w.heap.size + 1 + 1, 1, none⟩ = some (.int .i64 cn) := bC.cell 1
    have bC_2 : World.cell? w6 ⟨w.heap.size + 1 + 1, 2, none⟩ = some (.int .i64 ca) := bC.cell 2
    have bC_3 : World.cell? w6 ⟨w.heap.size + 1 + 1, 3, none⟩ = some (.int .i64 cb) := bC.cell 3
    have bC_4 : World.cell? w6 ⟨w.heap.size + 1 + 1, 4, none⟩ = some (.int .i64 ct) := bC.cell 4
    have bC_l := bC.lt
    have bQ_0 : World.cell? w6 ⟨w2.heap.size, 0, none⟩ = some (.int .i64 pa) := bQ.cell 0
    have bQ_1 : World.cell? w6 ⟨w2.heap.size, 1, none⟩ = some (.int .i64 po) := bQ.cell 1
    have bQ_2 : World.cell? w6 ⟨w2.heap.size, 2, none⟩ = some (.int .i64 tag) := bQ.cell 2
    have bQ_l := bQ.lt
    have bA_0 : World.cell? w6 ⟨w4.heap.size, 0, none⟩ = some (.int .u8 dk) := bA.cell 0
    have bA_1 : World.cell? w6 ⟨w4.heap.size, 1, none⟩ = some (.int .i64 dn) := bA.cell 1
    have bA_2 : World.cell? w6 ⟨w4.heap.size, 2, none⟩ = some (.int .i64 da) := bA.cell 2
    have bA_3 : World.cell? w6 ⟨w4.heap.size, 3, none⟩ = some (.int .i64 db) := bA.cell 3
    have bA_4 : World.cell? w6 ⟨w4.heap.size, 4, none⟩ = some (.int .i64 dt) := bA.cell 4
    have bA_l := bA.lt
    go_wp2_with fail
    clear bM_0 bM_1 bM_l
    clear bP_0 bP_1 bP_2 bP_l
    clear bC_0 bC_1 bC_2 bC_3 bC_4 bC_l
    clear bQ_0 bQ_1 bQ_2 bQ_l
    clear bA_0 bA_1 bA_2 bA_3 bA_4 bA_l
    have bB := Box.new w6 50 #[.int .u8 dk, .int .i64 dn, .int .i64 da, .int .i64 db, .int .i64 dt]
    have hx6 : Ext w6 (World.alloc w6 (.cells #[.int .u8 dk, .int .i64 dn, .int .i64 da, .int .i64 db, .int .i64 dt] 50)) := (Ext.refl _).alloc _
    obtain ⟨w6b, hw6⟩ : ∃ x, World.alloc w6 (.cells #[.int .u8 dk, .int .i64 dn, .int .i64 da, .int .i64 db, .int .i64 dt] 50) = x := ⟨_, rfl⟩
    rw [hw6] at bB hx6 ⊢
    clear hw6
    replace bM := bM.ext hx6
    replace bP := bP.ext hx6
    replace bC := bC.ext hx6
    replace hL := hL.ext hx6
    replace bQ := bQ.ext hx6
    replace bA := bA.ext hx6
    have hF6 := Ext.trans (hF5) hx6
    refine (cells_Store (m := m) ⟨pa, po, pt⟩ ⟨ck, cn, ca, cb, ct⟩ hL hn).mono ?_
    rintro e w8 ⟨vx, rfl, fx, hE7⟩
    replace bM := bM.ext hE7
    replace bP := bP.ext hE7
    replace bC := bC.ext hE7
    replace hL := hL.ext hE7
    replace bQ := bQ.ext hE7
    replace bA := bA.ext hE7
    replace bB := bB.ext hE7
    have hF7 := Ext.trans (hF6) hE7
    rw [h2.out] at fx
    rw [h2.out]
    obtain ⟨vx', rfl, hx⟩ := FrM.read fx
    obtain ⟨sx, cx, rfl, -⟩ := hx.form
    clear fx
    dsimp only
    have bM_0 : World.cell? w8 ⟨w.heap.size, 0, none⟩ = some (.slice a m.al.length cp) := bM.cell 0
    have bM_1 : World.cell? w8 ⟨w.heap.size, 1, none⟩ = some (.int .i64 m.next) := bM.cell 1
    have bM_l := bM.lt
    have bP_0 : World.cell? w8 ⟨w.heap.size + 1, 0, none⟩ = some (.int .i64 pa) := bP.cell 0
    have bP_1 : World.cell? w8 ⟨w.heap.size + 1, 1, none⟩ = some (.int .i64 po) := bP.cell 1
    have bP_2 : World.cell? w8 ⟨w.heap.size + 1, 2, none⟩ = some (.int .i64 pt) := bP.cell 2
    have bP_l := bP.lt
    have bC_0 : World.cell? w8 ⟨w.heap.size + 1 + 1, 0, none⟩ = some (.int .u8 ck) := bC.cell 0
    have bC_1 : World.cell? w8 ⟨w.heap.size + 1 + 1, 1, none⟩ = some (.int .i64 cn) := bC.cell 1
    have bC_2 : World.cell? w8 ⟨w.heap.size + 1 + 1, 2, none⟩ = some (.int .i64 ca) := bC.cell 2
    have bC_3 : World.cell? w8 ⟨w.heap.size + 1 + 1, 3, none⟩ = some (.int .i64 cb) := bC.cell 3
    have bC_4 : World.cell? w8 ⟨w.heap.size + 1 + 1, 4, none⟩ = some (.int .i64 ct) := bC.cell 4
    have bC_l := bC.lt
    have bQ_0 : World.cell? w8 ⟨w2.heap.size, 0, none⟩ = some (.int .i64 pa) := bQ.cell 0
    have bQ_1 : World.cell? w8 ⟨w2.heap.size, 1, none⟩ = some (.int .i64 po) := bQ.cell 1
    have bQ_2 : World.cell? w8 ⟨w2.heap.size, 2, none⟩ = some (.int .i64 tag) := bQ.cell 2
    have bQ_l := bQ.lt
    have bA_0 : World.cell? w8 ⟨w4.heap.size, 0, none⟩ = some (.int .u8 dk) := bA.cell 0
    have bA_1 : World.cell? w8 ⟨w4.heap.size, 1, none⟩ = some (.int .i64 dn) := bA.cell 1
    have bA_2 : World.cell? w8 ⟨w4.heap.size, 2, none⟩ = some (.int .i64 da) := bA.cell 2
    have bA_3 : World.cell? w8 ⟨w4.heap.size, 3, none⟩ = some (.int .i64 db) := bA.cell 3
    have bA_4 : World.cell? w8 ⟨w4.heap.size, 4, none⟩ = some (.int .i64 dt) := bA.cell 4
    have bA_l := bA.lt
    have bB_0 : World.cell? w8 ⟨w6.heap.size, 0, none⟩ = some (.int .u8 dk) := bB.cell 0
    have bB_1 : World.cell? w8 ⟨w6.heap.size, 1, none⟩ = some (.int .i64 dn) := bB.cell 1
    have bB_2 : World.cell? w8 ⟨w6.heap.size, 2, none⟩ = some (.int .i64 da) := bB.cell 2
    have bB_3 : World.cell? w8 ⟨w6.heap.size, 3, none⟩ = some (.int .i64 db) := bB.cell 3
    have bB_4 : World.cell? w8 ⟨w6.heap.size, 4, none⟩ = some (.int .i64 dt) := bB.cell 4
    have bB_l := bB.lt
    go_wp2_with fail
    clear bM_0 bM_1 bM_l
    clear bP_0 bP_1 bP_2 bP_l
    clear bC_0 bC_1 bC_2 bC_3 bC_4 bC_l
    clear bQ_0 bQ_1 bQ_2 bQ_l
    clear bA_0 bA_1 bA_2 bA_3 bA_4 bA_l
    clear bB_0 bB_1 bB_2 bB_3 bB_4 bB_l
    have box := Box.new w8 41 #[.slice sx M2.al.length cx, .int .i64 M2.next]
    have hx8 : Ext w8 (World.alloc w8 (.cells #[.slice sx M2.al.length cx, .int .i64 M2.next] 41)) := (Ext.refl _).alloc _
    obtain ⟨w8b, hw8⟩ : ∃ x, World.alloc w8 (.cells #[.slice sx M2.al.length cx, .int .i64 M2.next] 41) = x := ⟨_, rfl⟩
    rw [hw8] at box hx8 ⊢
    clear hw8
    replace bM := bM.ext hx8
    replace bP := bP.ext hx8
    replace bC := bC.ext hx8
    replace hL := hL.ext hx8
    replace bQ := bQ.ext hx8
    replace bA := bA.ext hx8
    replace bB := bB.ext hx8
    replace hx := hx.ext hx8
    have hF8 := Ext.trans (hF7) hx8
    refine (cells_Store (m := m) ⟨pa, po, tag⟩ ⟨ck, cn, ca, cb, ct⟩ hL hn).mono ?_
    rintro e w10 ⟨vy, rfl, fy, hE9⟩
    replace bM := bM.ext hE9
    replace bP := bP.ext hE9
    replace bC := bC.ext hE9
    replace hL := hL.ext hE9
    replace bQ := bQ.ext hE9
    replace bA := bA.ext hE9
    replace bB := bB.ext hE9
    replace hx := hx.ext hE9
    replace box := box.ext hE9
    have hF9 := Ext.trans (hF8) hE9
    rw [h2'.out] at fy
    rw [h2'.out]
    obtain ⟨vy', rfl, hy⟩ := FrM.read fy
    obtain ⟨sy, cy, rfl, -⟩ := hy.form
    clear fy
    dsimp only
    have bM_0 : World.cell? w10 ⟨w.heap.size, 0, none⟩ = some (.slice a m.al.length cp) := bM.cell 0
    have bM_1 : World.cell? w10 ⟨w.heap.size, 1, none⟩ = some (.int .i64 m.next) := bM.cell 1
    have bM_l := bM.lt
    have bP_0 : World.cell? w10 ⟨w.heap.size + 1, 0, none⟩ = some (.int .i64 pa) := bP.cell 0
    have bP_1 : World.cell? w10 ⟨w.heap.size + 1, 1, none⟩ = some (.int .i64 po) := bP.cell 1
    have bP_2 : World.cell? w10 ⟨w.heap.size + 1, 2, none⟩ = some (.int .i64 pt) := bP.cell 2
    have bP_l := bP.lt
    have bC_0 : World.cell? w10 ⟨w.heap.size + 1 + 1, 0, none⟩ = some (.int .u8 ck) := bC.cell 0
    have bC_1 : World.cell? w10 ⟨w.heap.size + 1 + 1, 1, none⟩ = some (.int .i64 cn) := bC.cell 1
    have bC_2 : World.cell? w10 ⟨w.heap.size + 1 + 1, 2, none⟩ = some (.int .i64 ca) := bC.cell 2
    have bC_3 : World.cell? w10 ⟨w.heap.size + 1 + 1, 3, none⟩ = some (.int .i64 cb) := bC.cell 3
    have bC_4 : World.cell? w10 ⟨w.heap.size + 1 + 1, 4, none⟩ = some (.int .i64 ct) := bC.cell 4
    have bC_l := bC.lt
    have bQ_0 : World.cell? w10 ⟨w2.heap.size, 0, none⟩ = some (.int .i64 pa) := bQ.cell 0
    have bQ_1 : World.cell? w10 ⟨w2.heap.size, 1, none⟩ = some (.int .i64 po) := bQ.cell 1
    have bQ_2 : World.cell? w10 ⟨w2.heap.size, 2, none⟩ = some (.int .i64 tag) := bQ.cell 2
    have bQ_l := bQ.lt
    have bA_0 : World.cell? w10 ⟨w4.heap.size, 0, none⟩ = some (.int .u8 dk) := bA.cell 0
    have bA_1 : World.cell? w10 ⟨w4.heap.size, 1, none⟩ = some (.int .i64 dn) := bA.cell 1
    have bA_2 : World.cell? w10 ⟨w4.heap.size, 2, none⟩ = some (.int .i64 da) := bA.cell 2
    have bA_3 : World.cell? w10 ⟨w4.heap.size, 3, none⟩ = some (.int .i64 db) := bA.cell 3
    have bA_4 : World.cell? w10 ⟨w4.heap.size, 4, none⟩ = some (.int .i64 dt) := bA.cell 4
    have bA_l := bA.lt
    have bB_0 : World.cell? w10 ⟨w6.heap.size, 0, none⟩ = some (.int .u8 dk) := bB.cell 0
    have bB_1 : World.cell? w10 ⟨w6.heap.size, 1, none⟩ = some (.int .i64 dn) := bB.cell 1
    have bB_2 : World.cell? w10 ⟨w6.heap.size, 2, none⟩ = some (.int .i64 da) := bB.cell 2
    have bB_3 : World.cell? w10 ⟨w6.heap.size, 3, none⟩ = some (.int .i64 db) := bB.cell 3
    have bB_4 : World.cell? w10 ⟨w6.heap.size, 4, none⟩ = some (.int .i64 dt) := bB.cell 4
    have bB_l := bB.lt
    have box_0 : World.cell? w10 ⟨w8.heap.size, 0, none⟩ = some (.slice sx M2.al.length cx) := box.cell 0
    have box_1 : World.cell? w10 ⟨w8.heap.size, 1, none⟩ = some (.int .i64 M2.next) := box.cell 1
    have box_l := box.lt
    go_wp2_with fail
    clear bM_0 bM_1 bM_l
    clear bP_0 bP_1 bP_2 bP_l
    clear bC_0 bC_1 bC_2 bC_3 bC_4 bC_l
    clear bQ_0 bQ_1 bQ_2 bQ_l
    clear bA_0 bA_1 bA_2 bA_3 bA_4 bA_l
    clear bB_0 bB_1 bB_2 bB_3 bB_4 bB_l
    clear box_0 box_1 box_l
    have boy := Box.new w10 41 #[.slice sy M2.al.length cy, .int .i64 M2.next]
    have hx10 : Ext w10 (World.alloc w10 (.cells #[.slice sy M2.al.length cy, .int .i64 M2.next] 41)) := (Ext.refl _).alloc _
    obtain ⟨w10b, hw10⟩ : ∃ x, World.alloc w10 (.cells #[.slice sy M2.al.length cy, .int .i64 M2.next] 41) = x := ⟨_, rfl⟩
    rw [hw10] at boy hx10 ⊢
    clear hw10
    replace bM := bM.ext hx10
    replace bP := bP.ext hx10
    replace bC := bC.ext hx10
    replace hL := hL.ext hx10
    replace bQ := bQ.ext hx10
    replace bA := bA.ext hx10
    replace bB := bB.ext hx10
    replace hx := hx.ext hx10
    replace box := box.ext hx10
    replace hy := hy.ext hx10
    have hF10 := Ext.trans (hF9) hx10
    refine (ref26_Same hx hy).mono ?_
    rintro e w12 ⟨rfl, hE11⟩
    replace bM := bM.ext hE11
    replace bP := bP.ext hE11
    replace bC := bC.ext hE11
    replace hL := hL.ext hE11
    replace bQ := bQ.ext hE11
    replace bA := bA.ext hE11
    replace bB := bB.ext hE11
    replace hx := hx.ext hE11
    replace box := box.ext hE11
    replace hy := hy.ext hE11
    replace boy := boy.ext hE11
    have hF11 := Ext.trans (hF10) hE11
    go_wp2
    go_ret
    exact ⟨rfl, hF11⟩
  · have hg' := Lib.hid hg
    clear hg
    go_enter Try.func10, Try.ntmps10
    have bM_0 : World.cell? (World.alloc (World.alloc (World.alloc w (.cells #[.slice a m.al.length cp, .int .i64 m.next] 41)) (.cells #[.int .i64 pa, .int .i64 po, .int .i64 pt] 43)) (.cells #[.int .u8 ck, .int .i64 cn, .int .i64 ca, .int .i64 cb, .int .i64 ct] 50)) ⟨w.heap.size, 0, none⟩ = some (.slice a m.al.length cp) := bM.cell 0
    have bM_1 : World.cell? (World.alloc (World.alloc (World.alloc w (.cells #[.slice a m.al.length cp, .int .i64 m.next] 41)) (.cells #[.int .i64 pa, .int .i64 po, .int .i64 pt] 43)) (.cells #[.int .u8 ck, .int .i64 cn, .int .i64 ca, .int .i64 cb, .int .i64 ct] 50)) ⟨w.heap.size, 1, none⟩ = some (.int .i64 m.next) := bM.cell 1
    have bM_l := bM.lt
    have bP_0 : World.cell? (World.alloc (World.alloc (World.alloc w (.cells #[.slice a m.al.length cp, .int .i64 m.next] 41)) (.cells #[.int .i64 pa, .int .i64 po, .int .i64 pt] 43)) (.cells #[.int .u8 ck, .int .i64 cn, .int .i64 ca, .int .i64 cb, .int .i64 ct] 50)) ⟨w.heap.size + 1, 0, none⟩ = some (.int .i64 pa) := bP.cell 0
    have bP_1 : World.cell? (World.alloc (World.alloc (World.alloc w (.cells #[.slice a m.al.length cp, .int .i64 m.next] 41)) (.cells #[.int .i64 pa, .int .i64 po, .int .i64 pt] 43)) (.cells #[.int .u8 ck, .int .i64 cn, .int .i64 ca, .int .i64 cb, .int .i64 ct] 50)) ⟨w.heap.size + 1, 1, none⟩ = some (.int .i64 po) := bP.cell 1
    have bP_2 : World.cell? (World.alloc (World.alloc (World.alloc w (.cells #[.slice a m.al.length cp, .int .i64 m.next] 41)) (.cells #[.int .i64 pa, .int .i64 po, .int .i64 pt] 43)) (.cells #[.int .u8 ck, .int .i64 cn, .int .i64 ca, .int .i64 cb, .int .i64 ct] 50)) ⟨w.heap.size + 1, 2, none⟩ = some (.int .i64 pt) := bP.cell 2
    have bP_l := bP.lt
    have bC_0 : World.cell? (World.alloc (World.alloc (World.alloc w (.cells #[.slice a m.al.length cp, .int .i64 m.next] 41)) (.cells #[.int .i64 pa, .int .i64 po, .int .i64 pt] 43)) (.cells #[.int .u8 ck, .int .i64 cn, .int .i64 ca, .int .i64 cb, .int .i64 ct] 50)) ⟨w.heap.size + 1 + 1, 0, none⟩ = some (.int .u8 ck) := bC.cell 0
    have bC_1 : World.cell? (World.alloc (World.alloc (World.alloc w (.cells #[.slice a m.al.length cp, .int .i64 m.next] 41)) (.cells #[.int .i64 pa, .int .i64 po, .int .i64 pt] 43)) (.cells #[.int .u8 ck, .int .i64 cn, .int .i64 ca, .int .i64 cb, .int .i64 ct] 50)) ⟨w.heap.size + 1 + 1, 1, none⟩ = some (.int .i64 cn) := bC.cell 1
    have bC_2 : World.cell? (World.alloc (World.alloc (World.alloc w (.cells #[.slice a m.al.length cp, .int .i64 m.next] 41)) (.cells #[.int .i64 pa, .int .i64 po, .int .i64 pt] 43)) (.cells #[.int .u8 ck, .int .i64 cn, .int .i64 ca, .int .i64 cb, .int .i64 ct] 50)) ⟨w.heap.size + 1 + 1, 2, none⟩ = some (.int .i64 ca) := bC.cell 2
    have bC_3 : World.cell? (World.alloc (World.alloc (World.alloc w (.cells #[.slice a m.al.length cp, .int .i64 m.next] 41)) (.cells #[.int .i64 pa, .int .i64 po, .int .i64 pt] 43)) (.cells #[.int .u8 ck, .int .i64 cn, .int .i64 ca, .int .i64 cb, .int .i64 ct] 50)) ⟨w.heap.size + 1 + 1, 3, none⟩ = some (.int .i64 cb) := bC.cell 3
    have bC_4 : World.cell? (World.alloc (World.alloc (World.alloc w (.cells #[.slice a m.al.length cp, .int .i64 m.next] 41)) (.cells #[.int .i64 pa, .int .i64 po, .int .i64 pt] 43)) (.cells #[.int .u8 ck, .int .i64 cn, .int .i64 ca, .int .i64 cb, .int .i64 ct] 50)) ⟨w.heap.size + 1 + 1, 4, none⟩ = some (.int .i64 ct) := bC.cell 4
    have bC_l := bC.lt
    go_wp2_with fail
    clear bM_0 bM_1 bM_l
    clear bP_0 bP_1 bP_2 bP_l
    clear bC_0 bC_1 bC_2 bC_3 bC_4 bC_l
    refine (law27_alive _).mono ?_
    rintro e w1 ⟨rfl, hE0⟩
    replace bM := bM.ext hE0
    replace bP := bP.ext hE0
    replace bC := bC.ext hE0
    replace hL := hL.ext hE0
    have hF0 := Ext.trans (hF) hE0
    have bM_0 : World.cell? w1 ⟨w.heap.size, 0, none⟩ = some (.slice a m.al.length cp) := bM.cell 0
    have bM_1 : World.cell? w1 ⟨w.heap.size, 1, none⟩ = some (.int .i64 m.next) := bM.cell 1
    have bM_l := bM.lt
    have bP_0 : World.cell? w1 ⟨w.heap.size + 1, 0, none⟩ = some (.int .i64 pa) := bP.cell 0
    have bP_1 : World.cell? w1 ⟨w.heap.size + 1, 1, none⟩ = some (.int .i64 po) := bP.cell 1
    have bP_2 : World.cell? w1 ⟨w.heap.size + 1, 2, none⟩ = some (.int .i64 pt) := bP.cell 2
    have bP_l := bP.lt
    have bC_0 : World.cell? w1 ⟨w.heap.size + 1 + 1, 0, none⟩ = some (.int .u8 ck) := bC.cell 0
    have bC_1 : World.cell? w1 ⟨w.heap.size + 1 + 1, 1, none⟩ = some (.int .i64 cn) := bC.cell 1
    have bC_2 : World.cell? w1 ⟨w.heap.size + 1 + 1, 2, none⟩ = some (.int .i64 ca) := bC.cell 2
    have bC_3 : World.cell? w1 ⟨w.heap.size + 1 + 1, 3, none⟩ = some (.int .i64 cb) := bC.cell 3
    have bC_4 : World.cell? w1 ⟨w.heap.size + 1 + 1, 4, none⟩ = some (.int .i64 ct) := bC.cell 4
    have bC_l := bC.lt
    go_wp2_with fail
    clear bM_0 bM_1 bM_l
    clear bP_0 bP_1 bP_2 bP_l
    clear bC_0 bC_1 bC_2 bC_3 bC_4 bC_l
    refine (ref26_Great hL).mono ?_
    rintro e w2 ⟨rfl, hE1⟩
    replace bM := bM.ext hE1
    replace bP := bP.ext hE1
    replace bC := bC.ext hE1
    replace hL := hL.ext hE1
    have hF1 := Ext.trans (hF0) hE1
    rw [hg'.out]
    go_wp2
    go_ret
    exact ⟨rfl, hF1⟩

set_option maxRecDepth 100000 in
theorem cellsTags_lifted (os : Os) (started : os.Started) (H : Type) (enc : TypeId × Value → H) :
    ReturnsInHanded {} Try.checked os 10 .any (Rows.cellsTagsSpec.pre6 enc Try.prog Try.f10 Rows.cellsTagsRow.domain false) (Rows.cellsTagsSpec.post enc Try.prog Try.f10 false true false false) := by
  refine returnsInHanded_of_change (C := Try.checked) Tryown started (by kernel_rfl) Try.func10
    (ChangeSpec.witness6 (enc := enc) (C := Try.checked) false ⟨#[], #[.agg #[.slice none 0 0, .int .i64 0], .agg #[.int .i64 0, .int .i64 0, .int .i64 0], .int .i64 0, .agg #[.int .u8 0, .int .i64 0, .int .i64 0, .int .i64 0, .int .i64 0]], []⟩ 8 (by kernel_rfl) (by kernel_rfl) (by kernel_rfl) (by kernel_rfl)) ?_
  intro W base args ds gs before hval0 hW _ _
  have hval : ∀ (j : Nat) t v, Try.f10.params[j]? = some t → args[j]? = some v → Value.okWide Try.prog W .any base t v := hval0
  have hW' := hW
  obtain ⟨p, q, hA0, hV, rfl, hfz, hnd⟩ := hW
  have hA : DataW.TrodAll enc Try.prog W 0 (fun _ => true) true Try.f10.params.toList args.toList ds p := hA0
  rw [Try.params10] at hA hval
  obtain ⟨v0, vs0, d0, ds0, p0, q0, hargs, rfl, rfl, h0, r0⟩ := trodAll_cons hA
  obtain ⟨v1, vs1, d1, ds1, p1, q1, rfl, rfl, rfl, h1, r1⟩ := trodAll_cons r0
  obtain ⟨v2, vs2, d2, ds2, p2, q2, rfl, rfl, rfl, h2, r2⟩ := trodAll_cons r1
  obtain ⟨v3, vs3, d3, ds3, p3, q3, rfl, rfl, rfl, h3, r3⟩ := trodAll_cons r2
  obtain ⟨rfl, rfl, rfl⟩ := trodAll_nil r3
  obtain rfl : args = #[v0, v1, v2, v3] := by cases args; simp_all
  obtain ⟨x0, u0, rfl, k0, wf0⟩ := open_mem (hval 0 41 v0 rfl rfl) h0
  obtain ⟨x1, rfl, wf1⟩ := open_ptrv (hval 1 43 v1 rfl rfl) h1
  obtain ⟨x2, rfl, rfl, rfl, wf2⟩ := open_int Try.underlying3 (hval 2 3 v2 rfl rfl) h2
  obtain ⟨x3, rfl, wf3⟩ := open_cellv (hval 3 50 v3 rfl rfl) h3
  refine (cellsTags_walk x1 x2 x3 k0 wf0.1).mono fun e W' ⟨he, hb⟩ => ?_
  subst he
  exact ⟨_, rfl, post_law TrylaidOut (tb := 4) rfl Try.underlying4 (by kernel_rfl) rfl (fun ds hd => match ds, hd with | [a0, a1, a2, a3], _ => rfl) hW' hb⟩

theorem cellsTags_holds : Rows.CellsTagsSaid :=
  OpenClaim.holds_of_wide 10 Try.f10 rfl rfl rfl rfl rfl rfl rfl ⟨rfl, rfl, rfl, rfl, rfl⟩ rfl rfl rfl rfl rfl (by kernel_rfl) Try.func10 (by kernel_rfl)
    (of_decide_eq_true (by kernel_rfl)) (by unfold Func.isWrapper; first | (rw [if_pos (by decide +kernel)]; kernel_rfl) | (rw [if_neg (by decide +kernel)]; exact ⟨rfl, rfl⟩))
    (fun os started H enc _ => cellsTags_lifted os started H enc)

end Go.Proofs.Ytkiadhkkpmcmiaa
