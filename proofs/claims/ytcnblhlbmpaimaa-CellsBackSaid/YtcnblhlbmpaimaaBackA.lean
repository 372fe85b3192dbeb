/- A part of the proof of CellsBack: the first cell has no value. (printed by gen/back27.py) -/
import Derived.Test.YtcnblhlbmpaimaaCelX9
import Derived.Test.YtcnblhlbmpaimaaCelB
import Derived.Test.YtcnblhlbmpaimaaReadM
import Derived.Test.YtcnblhlbmpaimaaClose
import Derived.Deep.DeepCutAuto
import Derived.Deep.QuietTactic
import Derived.BigQuiet
namespace Go.Proofs.Ytcnblhlbmpaimaa
set_option maxRecDepth 100000
open Go.ChangeShapes Go.WideShapes Go.ChangeAt Go.RowKit
set_option linter.unusedVariables false

set_option maxRecDepth 100000 in
set_option maxHeartbeats 12800000 in
theorem cellsBack_A {m : Mem} {s : Value} {w : World} (p : Ptr) (c d : Cell) (hl : Als w s m.al) (hn : i64B m.next) (hsel : greatM m.al = false ∧ (storeR m p [c]).2.2 = 0 ∧ (storeR m p [c]).2.1 = 0) (hck : c.k = 0) :
    Calls Try.prog 7 #[.agg #[s, .int .i64 m.next], p.val, c.val, d.val] w fun e w' => e = .returned (.bool true) ∧ Ext w w' := by
  obtain ⟨pa, po, pt⟩ := p
  obtain ⟨ck, cn, ca, cb, ct⟩ := c
  obtain ⟨dk, dn, da, db, dt⟩ := d
  obtain ⟨a, cp, rfl, hac, hcm, -⟩ := hl.form
  unfold maxLen at hcm
  have hF := ((((Ext.refl w).alloc (.cells #[.slice a m.al.length cp, .int .i64 m.next] 52)).alloc (.cells #[.int .i64 pa, .int .i64 po, .int .i64 pt] 46)).alloc (.cells #[.int .u8 ck, .int .i64 cn, .int .i64 ca, .int .i64 cb, .int .i64 ct] 48)).alloc (.cells #[.int .u8 dk, .int .i64 dn, .int .i64 da, .int .i64 db, .int .i64 dt] 48)
  have hL := hl.ext hF
  have bM := (((Box.new w 52 #[.slice a m.al.length cp, .int .i64 m.next]).ext ((Ext.refl _).alloc (.cells #[.int .i64 pa, .int .i64 po, .int .i64 pt] 46))).ext ((Ext.refl _).alloc (.cells #[.int .u8 ck, .int .i64 cn, .int .i64 ca, .int .i64 cb, .int .i64 ct] 48))).ext ((Ext.refl _).alloc (.cells #[.int .u8 dk, .int .i64 dn, .int .i64 da, .int .i64 db, .int .i64 dt] 48))
  have bP := ((Box.new (World.alloc w (.cells #[.slice a m.al.length cp, .int .i64 m.next] 52)) 46 #[.int .i64 pa, .int .i64 po, .int .i64 pt]).ext ((Ext.refl _).alloc (.cells #[.int .u8 ck, .int .i64 cn, .int .i64 ca, .int .i64 cb, .int .i64 ct] 48))).ext ((Ext.refl _).alloc (.cells #[.int .u8 dk, .int .i64 dn, .int .i64 da, .int .i64 db, .int .i64 dt] 48))
  have bC := (Box.new (World.alloc (World.alloc w (.cells #[.slice a m.al.length cp, .int .i64 m.next] 52)) (.cells #[.int .i64 pa, .int .i64 po, .int .i64 pt] 46)) 48 #[.int .u8 ck, .int .i64 cn, .int .i64 ca, .int .i64 cb, .int .i64 ct]).ext ((Ext.refl _).alloc (.cells #[.int .u8 dk, .int .i64 dn, .int .i64 da, .int .i64 db, .int .i64 dt] 48))
  have bD := Box.new (World.alloc (World.alloc (World.alloc w (.cells #[.slice a m.al.length cp, .int .i64 m.next] 52)) (.cells #[.int .i64 pa, .int .i64 po, .int .i64 pt] 46)) (.cells #[.int .u8 ck, .int .i64 cn, .int .i64 ca, .int .i64 cb, .int .i64 ct] 48)) 48 #[.int .u8 dk, .int .i64 dn, .int .i64 da, .int .i64 db, .int .i64 dt]
  rw [World.size_alloc] at bP bC bD
  rw [World.size_alloc] at bC bD
  rw [World.size_alloc] at bD
  clear hl
  unfold Ptr.val Cell.val
  obtain ⟨A, y1, e1, h1⟩ : ∃ c why err, storeR m ⟨pa, po, pt⟩ [⟨ck, cn, ca, cb, ct⟩] = (c, why, err) := ⟨_, _, _, rfl⟩
  obtain ⟨B, y2, e2, h2⟩ : ∃ c why err, storeR A ⟨pa, po, pt⟩ [⟨dk, dn, da, db, dt⟩] = (c, why, err) := ⟨_, _, _, rfl⟩
  obtain ⟨⟨fk, fn, fa, fb, ft⟩, y3, e3, h3⟩ : ∃ c why err, load1R A ⟨pa, po, pt⟩ = (c, why, err) := ⟨_, _, _, rfl⟩
  obtain ⟨hg, s1, s2⟩ := hsel
  rw [h1] at s1 s2
  dsimp only at s1 s2 hck
  subst s1 s2
  have hg' := Lib.hid hg
  clear hg
  replace hck := Lib.hid hck
  have hag := Lib.hid (back_again h1 h2)
  have hld := Lib.hid (back_load h1 h3)
  have hbl := Lib.hid (back_law h1)
  have hce := Lib.hid (back_cells h1)
  have hnA : i64B A.next := by rw [(back_law h1).2.1]; exact hn
  replace h1 := Lib.hid h1
  replace h2 := Lib.hid h2
  replace h3 := Lib.hid h3
  go_enter Try.func7, Try.ntmps7
  have bM_0 : World.cell? (World.alloc (World.alloc (World.alloc (World.alloc w (.cells #[.slice a m.al.length cp, .int .i64 m.next] 52)) (.cells #[.int .i64 pa, .int .i64 po, .int .i64 pt] 46)) (.cells #[.int .u8 ck, .int .i64 cn, .int .i64 ca, .int .i64 cb, .int .i64 ct] 48)) (.cells #[.int .u8 dk, .int .i64 dn, .int .i64 da, .int .i64 db, .int .i64 dt] 48)) ⟨w.heap.size, 0, none⟩ = some (.slice a m.al.length cp) := bM.cell 0
  have bM_1 : World.cell? (World.alloc (World.alloc (World.alloc (World.alloc w (.cells #[.slice a m.al.length cp, .int .i64 m.next] 52)) (.cells #[.int .i64 pa, .int .i64 po, .int .i64 pt] 46)) (.cells #[.int .u8 ck, .int .i64 cn, .int .i64 ca, .int .i64 cb, .int .i64 ct] 48)) (.cells #[.int .u8 dk, .int .i64 dn, .int .i64 da, .int .i64 db, .int .i64 dt] 48)) ⟨w.heap.size, 1, none⟩ = some (.int .i64 m.next) := bM.cell 1
  have bM_l := bM.lt
  have bP_0 : World.cell? (World.alloc (World.alloc (World.alloc (World.alloc w (.cells #[.slice a m.al.length cp, .int .i64 m.next] 52)) (.cells #[.int .i64 pa, .int .i64 po, .int .i64 pt] 46)) (.cells #[.int .u8 ck, .int .i64 cn, .int .i64 ca, .int .i64 cb, .int .i64 ct] 48)) (.cells #[.int .u8 dk, .int .i64 dn, .int .i64 da, .int .i64 db, .int .i64 dt] 48)) ⟨w.heap.size + 1, 0, none⟩ = some (.int .i64 pa) := bP.cell 0
  have bP_1 : World.cell? (World.alloc (World.alloc (World.alloc (World.alloc w (.cells #[.slice a m.al.length cp, .int .i64 m.next] 52)) (.cells #[.int .i64 pa, .int .i64 po, .int .i64 pt] 46)) (.cells #[.int .u8 ck, .int .i64 cn, .int .i64 ca, .int .i64 cb, .int .i64 ct] 48)) (.cells #[.int .u8 dk, .int .i64 dn, .int .i64 da, .int .i64 db, .int .i64 dt] 48)) ⟨w.heap.size + 1, 1, none⟩ = some (.int .i64 po) := bP.cell 1
  have bP_2 : World.cell? (World.alloc (World.alloc (World.alloc (World.alloc w (.cells #[.slice a m.al.length cp, .int .i64 m.next] 52)) (.cells #[.int .i64 pa, .int .i64 po, .int .i64 pt] 46)) (.cells #[.int .u8 ck, .int .i64 cn, .int .i64 ca, .int .i64 cb, .int .i64 ct] 48)) (.cells #[.int .u8 dk, .int .i64 dn, .int .i64 da, .int .i64 db, .int .i64 dt] 48)) ⟨w.heap.size + 1, 2, none⟩ = some (.int .i64 pt) := bP.cell 2
  have bP_l := bP.lt
  have bC_0 : World.cell? (World.alloc (World.alloc (World.alloc (World.alloc w (.cells #[.slice a m.al.length cp, .int .i64 m.next] 52)) (.cells #[.int .i64 pa, .int .i64 po, .int .i64 pt] 46)) (.cells #[.int .u8 ck, .int .i64 cn, .int .i64 ca, .int .i64 cb, .int .i64 ct] 48)) (.cells #[.int .u8 dk, .int .i64 dn, .int .i64 da, .int .i64 db, .int .i64 dt] 48)) ⟨w.heap.size + 1 + 1, 0, none⟩ = some (.int .u8 ck) := bC.cell 0
  have bC_1 : World.cell? (World.alloc (World.alloc (World.alloc (World.alloc w (.cells #[.slice a m.al.length cp, .int .i64 m.next] 52)) (.cells #[.int .i64 pa, .int .i64 po, .int .i64 pt] 46)) (.cells #[.int .u8 ck, .int .i64 cn, .int .i64 ca, .int .i64 cb, .int .i64 ct] 48)) (.cells #[.int .u8 dk, .int .i64 dn, .int .i64 da, .int .i64 db, .int .i64 dt] 48)) ⟨w.heap.size + 1 + 1, 1, none⟩ = some (.int .i64 cn) := bC.cell 1
  have bC_2 : World.cell? (World.alloc (World.alloc (World.alloc (World.alloc w (.cells #[.slice a m.al.length cp, .int .i64 m.next] 52)) (.cells #[.int .i64 pa, .int .i64 po, .int .i64 pt] 46)) (.cells #[.int .u8 ck, .int .i64 cn, .int .i64 ca, .int .i64 cb, .int .i64 ct] 48)) (.cells #[.int .u8 dk, .int .i64 dn, .int .i64 da, .int .i64 db, .int .i64 dt] 48)) ⟨w.heap.size + 1 + 1, 2, none⟩ = some (.int .i64 ca) := bC.cell 2
  have bC_3 : World.cell? (World.alloc (World.alloc (World.alloc (World.alloc w (.cells #[.slice a m.al.length cp, .int .i64 m.next] 52)) (.cells #[.int .i64 pa, .int .i64 po, .int .i64 pt] 46)) (.cells #[.int .u8 ck, .int .i64 cn, .int .i64 ca, .int .i64 cb, .int .i64 ct] 48)) (.cells #[.int .u8 dk, .int .i64 dn, .int .i64 da, .int .i64 db, .int .i64 dt] 48)) ⟨w.heap.size + 1 + 1, 3, none⟩ = some (.int .i64 cb) := bC.cell 3
  have bC_4 : World.cell? (World.alloc (World.alloc (World.alloc (World.alloc w (.cells #[.slice a m.al.length cp, .int .i64 m.next] 52)) (.cells #[.int .i64 pa, .int .i64 po, .int .i64 pt] 46)) (.cells #[.int .u8 ck, .int .i64 cn, .int .i64 ca, .int .i64 cb, .int .i64 ct] 48)) (.cells #[.int .u8 dk, .int .i64 dn, .int .i64 da, .int .i64 db, .int .i64 dt] 48)) ⟨w.heap.size + 1 + 1, 4, none⟩ = some (.int .i64 ct) := bC.cell 4
  have bC_l := bC.lt
  have bD_0 : World.cell? (World.alloc (World.alloc (World.alloc (World.alloc w (.cells #[.slice a m.al.length cp, .int .i64 m.next] 52)) (.cells #[.int .i64 pa, .int .i64 po, .int .i64 pt] 46)) (.cells #[.int .u8 ck, .int .i64 cn, .int .i64 ca, .int .i64 cb, .int .i64 ct] 48)) (.cells #[.int .u8 dk, .int .i64 dn, .int .i64 da, .int .i64 db, .int .i64 dt] 48)) ⟨w.heap.size + 1 + 1 + 1, 0, none⟩ = some (.int .u8 dk) := bD.cell 0
  have bD_1 : World.cell? (World.alloc (World.alloc (World.alloc (World.alloc w (.cells #[.slice a m.al.length cp, .int .i64 m.next] 52)) (.cells #[.int .i64 pa, .int .i64 po, .int .i64 pt] 46)) (.cells #[.int .u8 ck, .int .i64 cn, .int .i64 ca, .int .i64 cb, .int .i64 ct] 48)) (.cells #[.int .u8 dk, .int .i64 dn, .int .i64 da, .int .i64 db, .int .i64 dt] 48)) ⟨w.heap.size + 1 + 1 + 1, 1, none⟩ = some (.int .i64 dn) := bD.cell 1
  have bD_2 : World.cell? (World.alloc (World.alloc (World.alloc (World.alloc w (.cells #[.slice a m.al.length cp, .int .i64 m.next] 52)) (.cells #[.int .i64 pa, .int .i64 po, .int .i64 pt] 46)) (.cells #[.int .u8 ck, .int .i64 cn, .int .i64 ca, .int .i64 cb, .int .i64 ct] 48)) (.cells #[.int .u8 dk, .int .i64 dn, .int .i64 da, .int .i64 db, .int .i64 dt] 48)) ⟨w.heap.size + 1 + 1 + 1, 2, none⟩ = some (.int .i64 da) := bD.cell 2
  have bD_3 : World.cell? (World.alloc (World.alloc (World.alloc (World.alloc w (.cells #[.slice a m.al.length cp, .int .i64 m.next] 52)) (.cells #[.int .i64 pa, .int .i64 po, .int .i64 pt] 46)) (.cells #[.int .u8 ck, .int .i64 cn, .int .i64 ca, .int .i64 cb, .int .i64 ct] 48)) (.cells #[.int .u8 dk, .int .i64 dn, .int .i64 da, .int .i64 db, .int .i64 dt] 48)) ⟨w.heap.size + 1 + 1 + 1, 3, none⟩ = some (.int .i64 db) := bD.cell 3
  have bD_4 : World.cell? (World.alloc (World.alloc (World.alloc (World.alloc w (.cells #[.slice a m.al.length cp, .int .i64 m.next] 52)) (.cells #[.int .i64 pa, .int .i64 po, .int .i64 pt] 46)) (.cells #[.int .u8 ck, .int .i64 cn, .int .i64 ca, .int .i64 cb, .int .i64 ct] 48)) (.cells #[.int .u8 dk, .int .i64 dn, .int .i64 da, .int .i64 db, .int .i64 dt] 48)) ⟨w.heap.size + 1 + 1 + 1, 4, none⟩ = some (.int .i64 dt) := bD.cell 4
  have bD_l := bD.lt
  go_wp2_with fail
  clear bM_0 bM_1 bM_l
  clear bP_0 bP_1 bP_2 bP_l
  clear bC_0 bC_1 bC_2 bC_3 bC_4 bC_l
  clear bD_0 bD_1 bD_2 bD_3 bD_4 bD_l
  refine (law27_alive _).mono ?_
  rintro e w1 ⟨rfl, hE0⟩
  replace bM := bM.ext hE0
  replace bP := bP.ext hE0
  replace bC := bC.ext hE0
  replace bD := bD.ext hE0
  replace hL := hL.ext hE0
  have hF0 := Ext.trans (hF) hE0
  have bM_0 : World.cell? w1 ⟨w.heap.size, 0, none⟩ = some (.slice a m.al.length cp) := bM.cell 0
  have bM_1 : World.cell? w1 ⟨w.heap.size, 1, none⟩ = some (.int .i64 m.next) := bM.cell 1
  have bM_l := bM.lt
  have bP_0 : World.cell? w1 ⟨w.heap.size + 1, 0, none⟩ = some (.int .i64 pa) := bP.cell 0
  have bP_1 : World.cell? w1 ⟨w.heap.size + 1, 1, none⟩ = some (.int .i64 po) := bP.cell 1
  have bP_2 : World.cell? w1 ⟨w.heap.size + 1, 2, none⟩ = some (.int .i64 pt) := bP.cell 2
  have bP_l := bP.lt
  have bC_0 : World.cell? w1 ⟨w.heap.size + 1 + 1, 0, none⟩ = some (.int .u8 ck) := bC.cell 0
  have bC_1 : World.cell? w1 ⟨w.heap.size + 1 + 1, 1, none⟩ = some (.int .i64 cn) := bC.cell 1
  have bC_2 : World.cell? w1 ⟨w.heap.size + 1 + 1, 2, none⟩ = some (.int .i64 ca) := bC.cell 2
  have bC_3 : World.cell? w1 ⟨w.heap.size + 1 + 1, 3, none⟩ = some (.int .i64 cb) := bC.cell 3
  have bC_4 : World.cell? w1 ⟨w.heap.size + 1 + 1, 4, none⟩ = some (.int .i64 ct) := bC.cell 4
  have bC_l := bC.lt
  have bD_0 : World.cell? w1 ⟨w.heap.size + 1 + 1 + 1, 0, none⟩ = some (.int .u8 dk) := bD.cell 0
  have bD_1 : World.cell? w1 ⟨w.heap.size + 1 + 1 + 1, 1, none⟩ = some (.int .i64 dn) := bD.cell 1
  have bD_2 : World.cell? w1 ⟨w.heap.size + 1 + 1 + 1, 2, none⟩ = some (.int .i64 da) := bD.cell 2
  have bD_3 : World.cell? w1 ⟨w.heap.size + 1 + 1 + 1, 3, none⟩ = some (.int .i64 db) := bD.cell 3
  have bD_4 : World.cell? w1 ⟨w.heap.size + 1 + 1 + 1, 4, none⟩ = some (.int .i64 dt) := bD.cell 4
  have bD_l := bD.lt
  go_wp2_with fail
  clear bM_0 bM_1 bM_l
  clear bP_0 bP_1 bP_2 bP_l
  clear bC_0 bC_1 bC_2 bC_3 bC_4 bC_l
  clear bD_0 bD_1 bD_2 bD_3 bD_4 bD_l
  refine (ref26_Great hL).mono ?_
  rintro e w2 ⟨rfl, hE1⟩
  replace bM := bM.ext hE1
  replace bP := bP.ext hE1
  replace bC := bC.ext hE1
  replace bD := bD.ext hE1
  replace hL := hL.ext hE1
  have hF1 := Ext.trans (hF0) hE1
  rw [hg'.out]
  have bM_0 : World.cell? w2 ⟨w.heap.size, 0, none⟩ = some (.slice a m.al.length cp) := bM.cell 0
  have bM_1 : World.cell? w2 ⟨w.heap.size, 1, none⟩ = some (.int .i64 m.next) := bM.cell 1
  have bM_l := bM.lt
  have bP_0 : World.cell? w2 ⟨w.heap.size + 1, 0, none⟩ = some (.int .i64 pa) := bP.cell 0
  have bP_1 : World.cell? w2 ⟨w.heap.size + 1, 1, none⟩ = some (.int .i64 po) := bP.cell 1
  have bP_2 : World.cell? w2 ⟨w.heap.size + 1, 2, none⟩ = some (.int .i64 pt) := bP.cell 2
  have bP_l := bP.lt
  have bC_0 : World.cell? w2 ⟨w.heap.size + 1 + 1, 0, none⟩ = some (.int .u8 ck) := bC.cell 0
  have bC_1 : World.cell? w2 ⟨w.heap.size + 1 + 1, 1, none⟩ = some (.int .i64 cn) := bC.cell 1
  have bC_2 : World.cell? w2 ⟨w.heap.size + 1 + 1, 2, none⟩ = some (.int .i64 ca) := bC.cell 2
  have bC_3 : World.cell? w2 ⟨w.heap.size + 1 + 1, 3, none⟩ = some (.int .i64 cb) := bC.cell 3
  have bC_4 : World.cell? w2 ⟨w.heap.size + 1 + 1, 4, none⟩ = some (.int .i64 ct) := bC.cell 4
  have bC_l := bC.lt
  have bD_0 : World.cell? w2 ⟨w.heap.size + 1 + 1 + 1, 0, none⟩ = some (.int .u8 dk) := bD.cell 0
  have bD_1 : World.cell? w2 ⟨w.heap.size + 1 + 1 + 1, 1, none⟩ = some (.int .i64 dn) := bD.cell 1
  have bD_2 : World.cell? w2 ⟨w.heap.size + 1 + 1 + 1, 2, none⟩ = some (.int .i64 da) := bD.cell 2
  have bD_3 : World.cell? w2 ⟨w.heap.size + 1 + 1 + 1, 3, none⟩ = some (.int .i64 db) := bD.cell 3
  have bD_4 : World.cell? w2 ⟨w.heap.size + 1 + 1 + 1, 4, none⟩ = some (.int .i64 dt) := bD.cell 4
  have bD_l := bD.lt
  go_wp2_with fail
  clear bM_0 bM_1 bM_l
  clear bP_0 bP_1 bP_2 bP_l
  clear bC_0 bC_1 bC_2 bC_3 bC_4 bC_l
  clear bD_0 bD_1 bD_2 bD_3 bD_4 bD_l
  refine (cells_Store (m := m) ⟨pa, po, pt⟩ ⟨ck, cn, ca, cb, ct⟩ hL hn).mono ?_
  rintro e w3 ⟨vx, rfl, fx, hE2⟩
  replace bM := bM.ext hE2
  replace bP := bP.ext hE2
  replace bC := bC.ext hE2
  replace bD := bD.ext hE2
  replace hL := hL.ext hE2
  have hF2 := Ext.trans (hF1) hE2
  rw [h1.out] at fx
  rw [h1.out]
  obtain ⟨vx', rfl, hx⟩ := FrM.read fx
  obtain ⟨sx, cx, rfl, -⟩ := hx.form
  clear fx
  dsimp only
  have bM_0 : World.cell? w3 ⟨w.heap.size, 0, none⟩ = some (.slice a m.al.length cp) := bM.cell 0
  have bM_1 : World.cell? w3 ⟨w.heap.size, 1, none⟩ = some (.int .i64 m.next) := bM.cell 1
  have bM_l := bM.lt
  have bP_0 : World.cell? w3 ⟨w.heap.size + 1, 0, none⟩ = some (.int .i64 pa) := bP.cell 0
  have bP_1 : World.cell? w3 ⟨w.heap.size + 1, 1, none⟩ = some (.int .i64 po) := bP.cell 1
  have bP_2 : World.cell? w3 ⟨w.heap.size + 1, 2, none⟩ = some (.int .i64 pt) := bP.cell 2
  have bP_l := bP.lt
  have bC_0 : World.cell? w3 ⟨w.heap.size + 1 + 1, 0, none⟩ = some (.int .u8 ck) := bC.cell 0
  have bC_1 : World.cell? w3 ⟨w.heap.size + 1 + 1, 1, none⟩ = some (.int .i64 cn) := bC.cell 1
  have bC_2 : World.cell? w3 ⟨w.heap.size + 1 + 1, 2, none⟩ = some (.int .i64 ca) := bC.cell 2
  have bC_3 : World.cell? w3 ⟨w.heap.size + 1 + 1, 3, none⟩ = some (.int .i64 cb) := bC.cell 3
  have bC_4 : World.cell? w3 ⟨w.heap.size + 1 + 1, 4, none⟩ = some (.int .i64 ct) := bC.cell 4
  have bC_l := bC.lt
  have bD_0 : World.cell? w3 ⟨w.heap.size + 1 + 1 + 1, 0, none⟩ = some (.int .u8 dk) := bD.cell 0
  have bD_1 : World.cell? w3 ⟨w.heap.size + 1 + 1 + 1, 1, none⟩ = some (.int .i64 dn) := bD.cell 1
  have bD_2 : World.cell? w3 ⟨w.heap.size + 1 + 1 + 1, 2, none⟩ = some (.int .i64 da) := bD.cell 2
  have bD_3 : World.cell? w3 ⟨w.heap.size + 1 + 1 + 1, 3, none⟩ = some (.int .i64 db) := bD.cell 3
  have bD_4 : World.cell? w3 ⟨w.heap.size + 1 + 1 + 1, 4, none⟩ = some (.int .i64 dt) := bD.cell 4
  have bD_l := bD.lt
  go_wp2_with fail
  clear bM_0 bM_1 bM_l
  clear bP_0 bP_1 bP_2 bP_l
  clear bC_0 bC_1 bC_2 bC_3 bC_4 bC_l
  clear bD_0 bD_1 bD_2 bD_3 bD_4 bD_l
  have box := Box.new w3 52 #[.slice sx A.al.length cx, .int .i64 A.next]
  have hx3 : Ext w3 (World.alloc w3 (.cells #[.slice sx A.al.length cx, .int .i64 A.next] 52)) := (Ext.refl _).alloc _
  obtain ⟨w3b, hw3⟩ : ∃ x, World.alloc w3 (.cells #[.slice sx A.al.length cx, .int .i64 A.next] 52) = x := ⟨_, rfl⟩
  rw [hw3] at box hx3 ⊢
  clear hw3
  replace bM := bM.ext hx3
  replace bP := bP.ext hx3
  replace bC := bC.ext hx3
  replace bD := bD.ext hx3
  replace hL := hL.ext hx3
  replace hx := hx.ext hx3
  have hF3 := Ext.trans (hF2) hx3
  refine (cells_Store (m := A) ⟨pa, po, pt⟩ ⟨dk, dn, da, db, dt⟩ hx hnA).mono ?_
  rintro e w5 ⟨vy, rfl, fy, hE4⟩
  replace bM := bM.ext hE4
  replace bP := bP.ext hE4
  replace bC := bC.ext hE4
  replace bD := bD.ext hE4
  replace hL := hL.ext hE4
  replace hx := hx.ext hE4
  replace box := box.ext hE4
  have hF4 := Ext.trans (hF3) hE4
  rw [h2.out] at fy
  rw [h2.out]
  obtain ⟨vy', rfl, hy⟩ := FrM.read fy
  obtain ⟨sy, cy, rfl, -⟩ := hy.form
  clear fy
  dsimp only
  have bM_0 : World.cell? w5 ⟨w.heap.size, 0, none⟩ = some (.slice a m.al.length cp) := bM.cell 0
  have bM_1 : World.cell? w5 ⟨w.heap.size, 1, none⟩ = some (.int .i64 m.next) := bM.cell 1
  have bM_l := bM.lt
  have bP_0 : World.cell? w5 ⟨w.heap.size + 1, 0, none⟩ = some (.int .i64 pa) := bP.cell 0
  have bP_1 : World.cell? w5 ⟨w.heap.size + 1, 1, none⟩ = some (.int .i64 po) := bP.cell 1
  have bP_2 : World.cell? w5 ⟨w.heap.size + 1, 2, none⟩ = some (.int .i64 pt) := bP.cell 2
  have bP_l := bP.lt
  have bC_0 : World.cell? w5 ⟨w.heap.size + 1 + 1, 0, none⟩ = some (.int .u8 ck) := bC.cell 0
  have bC_1 : World.cell? w5 ⟨w.heap.size + 1 + 1, 1, none⟩ = some (.int .i64 cn) := bC.cell 1
  have bC_2 : World.cell? w5 ⟨w.heap.size + 1 + 1, 2, none⟩ = some (.int .i64 ca) := bC.cell 2
  have bC_3 : World.cell? w5 ⟨w.heap.size + 1 + 1, 3, none⟩ = some (.int .i64 cb) := bC.cell 3
  have bC_4 : World.cell? w5 ⟨w.heap.size + 1 + 1, 4, none⟩ = some (.int .i64 ct) := bC.cell 4
  have bC_l := bC.lt
  have bD_0 : World.cell? w5 ⟨w.heap.size + 1 + 1 + 1, 0, none⟩ = some (.int .u8 dk) := bD.cell 0
  have bD_1 : World.cell? w5 ⟨w.heap.size + 1 + 1 + 1, 1, none⟩ = some (.int .i64 dn) := bD.cell 1
  have bD_2 : World.cell? w5 ⟨w.heap.size + 1 + 1 + 1, 2, none⟩ = some (.int .i64 da) := bD.cell 2
  have bD_3 : World.cell? w5 ⟨w.heap.size + 1 + 1 + 1, 3, none⟩ = some (.int .i64 db) := bD.cell 3
  have bD_4 : World.cell? w5 ⟨w.heap.size + 1 + 1 + 1, 4, none⟩ = some (.int .i64 dt) := bD.cell 4
  have bD_l := bD.lt
  have box_0 : World.cell? w5 ⟨w3.heap.size, 0, none⟩ = some (.slice sx A.al.length cx) := box.cell 0
  have box_1 : World.cell? w5 ⟨w3.heap.size, 1, none⟩ = some (.int .i64 A.next) := box.cell 1
  have box_l := box.lt
  go_upto_region 8 with fail
  clear bM_0 bM_1 bM_l
  clear bP_0 bP_1 bP_2 bP_l
  clear bC_0 bC_1 bC_2 bC_3 bC_4 bC_l
  clear bD_0 bD_1 bD_2 bD_3 bD_4 bD_l
  clear box_0 box_1 box_l
  have boy := Box.new w5 52 #[.slice sy B.al.length cy, .int .i64 B.next]
  have hx5 : Ext w5 (World.alloc w5 (.cells #[.slice sy B.al.length cy, .int .i64 B.next] 52)) := (Ext.refl _).alloc _
  obtain ⟨w5b, hw5⟩ : ∃ x, World.alloc w5 (.cells #[.slice sy B.al.length cy, .int .i64 B.next] 52) = x := ⟨_, rfl⟩
  rw [hw5] at boy hx5 ⊢
  clear hw5
  replace bM := bM.ext hx5
  replace bP := bP.ext hx5
  replace bC := bC.ext hx5
  replace bD := bD.ext hx5
  replace hL := hL.ext hx5
  replace hx := hx.ext hx5
  replace box := box.ext hx5
  replace hy := hy.ext hx5
  have hF5 := Ext.trans (hF4) hx5
  go_cut [75] from 70 to 74 (fun s75 wx => wx = w5b ∧ Hid ((e2 ≠ 0 ∧ s75 = .bool false) ∨ (e2 = 0 ∧ y2 = 0 ∧ storeR m ⟨pa, po, pt⟩ [⟨dk, dn, da, db, dt⟩] = (B, 0, 0) ∧ s75 = .bool true)))
  case first =>
    rcases hag.out with u1 | ⟨rfl, rfl, u1⟩
    · have z0 : (e2 == 0) = false := by simp [u1]
      go_wp2_with fail
      go_meet
      exact ⟨(by first | trivial | rfl), Hid.mk (.inl ⟨u1, (by first | trivial | rfl)⟩)⟩
    · have u1 := Lib.hid u1
      go_wp2_with fail
      go_meet
      exact ⟨(by first | trivial | rfl), Hid.mk (.inr ⟨(by first | trivial | rfl), (by first | trivial | rfl), u1.out, (by first | trivial | rfl)⟩)⟩
  case rest =>
    obtain ⟨hwx, hs75⟩ := hcut
    subst wc
    go_upto_if 75 with fail
    go_cut [] from 75 to 95 (fun wx => Ext w5b wx)
    case first =>
      rcases hs75.out with ⟨u1, rfl⟩ | ⟨rfl, rfl, u1, rfl⟩
      · go_wp2_with fail
        go_meet
        exact Ext.refl _
      · replace u1 := Lib.hid u1
        have bM_0 : World.cell? w5b ⟨w.heap.size, 0, none⟩ = some (.slice a m.al.length cp) := bM.cell 0
        have bM_1 : World.cell? w5b ⟨w.heap.size, 1, none⟩ = some (.int .i64 m.next) := bM.cell 1
        have bM_l := bM.lt
        have bP_0 : World.cell? w5b ⟨w.heap.size + 1, 0, none⟩ = some (.int .i64 pa) := bP.cell 0
        have bP_1 : World.cell? w5b ⟨w.heap.size + 1, 1, none⟩ = some (.int .i64 po) := bP.cell 1
        have bP_2 : World.cell? w5b ⟨w.heap.size + 1, 2, none⟩ = some (.int .i64 pt) := bP.cell 2
        have bP_l := bP.lt
        have bC_0 : World.cell? w5b ⟨w.heap.size + 1 + 1, 0, none⟩ = some (.int .u8 ck) := bC.cell 0
        have bC_1 : World.cell? w5b ⟨w.heap.size + 1 + 1, 1, none⟩ = some (.int .i64 cn) := bC.cell 1
        have bC_2 : World.cell? w5b ⟨w.heap.size + 1 + 1, 2, none⟩ = some (.int .i64 ca) := bC.cell 2
        have bC_3 : World.cell? w5b ⟨w.heap.size + 1 + 1, 3, none⟩ = some (.int .i64 cb) := bC.cell 3
        have bC_4 : World.cell? w5b ⟨w.heap.size + 1 + 1, 4, none⟩ = some (.int .i64 ct) := bC.cell 4
        have bC_l := bC.lt
        have bD_0 : World.cell? w5b ⟨w.heap.size + 1 + 1 + 1, 0, none⟩ = some (.int .u8 dk) := bD.cell 0
        have bD_1 : World.cell? w5b ⟨w.heap.size + 1 + 1 + 1, 1, none⟩ = some (.int .i64 dn) := bD.cell 1
        have bD_2 : World.cell? w5b ⟨w.heap.size + 1 + 1 + 1, 2, none⟩ = some (.int .i64 da) := bD.cell 2
        have bD_3 : World.cell? w5b ⟨w.heap.size + 1 + 1 + 1, 3, none⟩ = some (.int .i64 db) := bD.cell 3
        have bD_4 : World.cell? w5b ⟨w.heap.size + 1 + 1 + 1, 4, none⟩ = some (.int .i64 dt) := bD.cell 4
        have bD_l := bD.lt
        have box_0 : World.cell? w5b ⟨w3.heap.size, 0, none⟩ = some (.slice sx A.al.length cx) := box.cell 0
        have box_1 : World.cell? w5b ⟨w3.heap.size, 1, none⟩ = some (.int .i64 A.next) := box.cell 1
        have box_l := box.lt
        have boy_0 : World.cell? w5b ⟨w5.heap.size, 0, none⟩ = some (.slice sy B.al.length cy) := boy.cell 0
        have boy_1 : World.cell? w5b ⟨w5.heap.size, 1, none⟩ = some (.int .i64 B.next) := boy.cell 1
        have boy_l := boy.lt
        go_wp2_with fail
        clear bM_0 bM_1 bM_l
        clear bP_0 bP_1 bP_2 bP_l
        clear bC_0 bC_1 bC_2 bC_3 bC_4 bC_l
        clear bD_0 bD_1 bD_2 bD_3 bD_4 bD_l
        clear box_0 box_1 box_l
        clear boy_0 boy_1 boy_l
        refine (cells_Store (m := m) ⟨pa, po, pt⟩ ⟨dk, dn, da, db, dt⟩ hL hn).mono ?_
        rintro e w57 ⟨vz, rfl, fz, hE56⟩
        replace bM := bM.ext hE56
        replace bP := bP.ext hE56
        replace bC := bC.ext hE56
        replace bD := bD.ext hE56
        replace hL := hL.ext hE56
        replace hx := hx.ext hE56
        replace box := box.ext hE56
        replace hy := hy.ext hE56
        replace boy := boy.ext hE56
        have hF56 := Ext.trans (Ext.refl _) hE56
        rw [u1.out] at fz
        rw [u1.out]
        obtain ⟨vz', rfl, hz⟩ := FrM.read fz
        obtain ⟨sz, cz, rfl, -⟩ := hz.form
        clear fz
        dsimp only
        have bM_0 : World.cell? w57 ⟨w.heap.size, 0, none⟩ = some (.slice a m.al.length cp) := bM.cell 0
        have bM_1 : World.cell? w57 ⟨w.heap.size, 1, none⟩ = some (.int .i64 m.next) := bM.cell 1
        have bM_l := bM.lt
        have bP_0 : World.cell? w57 ⟨w.heap.size + 1, 0, none⟩ = some (.int .i64 pa) := bP.cell 0
        have bP_1 : World.cell? w57 ⟨w.heap.size + 1, 1, none⟩ = some (.int .i64 po) := bP.cell 1
        have bP_2 : World.cell? w57 ⟨w.heap.size + 1, 2, none⟩ = some (.int .i64 pt) := bP.cell 2
        have bP_l := bP.lt
        have bC_0 : World.cell? w57 ⟨w.heap.size + 1 + 1, 0, none⟩ = some (.int .u8 ck) := bC.cell 0
        have bC_1 : World.cell? w57 ⟨w.heap.size + 1 + 1, 1, none⟩ = some (.int .i64 cn) := bC.cell 1
        have bC_2 : World.cell? w57 ⟨w.heap.size + 1 + 1, 2, none⟩ = some (.int .i64 ca) := bC.cell 2
        have bC_3 : World.cell? w57 ⟨w.heap.size + 1 + 1, 3, none⟩ = some (.int .i64 cb) := bC.cell 3
        have bC_4 : World.cell? w57 ⟨w.heap.size + 1 + 1, 4, none⟩ = some (.int .i64 ct) := bC.cell 4
        have bC_l := bC.lt
        have bD_0 : World.cell? w57 ⟨w.heap.size + 1 + 1 + 1, 0, none⟩ = some (.int .u8 dk) := bD.cell 0
        have bD_1 : World.cell? w57 ⟨w.heap.size + 1 + 1 + 1, 1, none⟩ = some (.int .i64 dn) := bD.cell 1
        have bD_2 : World.cell? w57 ⟨w.heap.size + 1 + 1 + 1, 2, none⟩ = some (.int .i64 da) := bD.cell 2
        have bD_3 : World.cell? w57 ⟨w.heap.size + 1 + 1 + 1, 3, none⟩ = some (.int .i64 db) := bD.cell 3
        have bD_4 : World.cell? w57 ⟨w.heap.size + 1 + 1 + 1, 4, none⟩ = some (.int .i64 dt) := bD.cell 4
        have bD_l := bD.lt
        have box_0 : World.cell? w57 ⟨w3.heap.size, 0, none⟩ = some (.slice sx A.al.length cx) := box.cell 0
        have box_1 : World.cell? w57 ⟨w3.heap.size, 1, none⟩ = some (.int .i64 A.next) := box.cell 1
        have box_l := box.lt
        have boy_0 : World.cell? w57 ⟨w5.heap.size, 0, none⟩ = some (.slice sy B.al.length cy) := boy.cell 0
        have boy_1 : World.cell? w57 ⟨w5.heap.size, 1, none⟩ = some (.int .i64 B.next) := boy.cell 1
        have boy_l := boy.lt
        go_wp2_with fail
        clear bM_0 bM_1 bM_l
        clear bP_0 bP_1 bP_2 bP_l
        clear bC_0 bC_1 bC_2 bC_3 bC_4 bC_l
        clear bD_0 bD_1 bD_2 bD_3 bD_4 bD_l
        clear box_0 box_1 box_l
        clear boy_0 boy_1 boy_l
        have boz := Box.new w57 52 #[.slice sz B.al.length cz, .int .i64 B.next]
        have hx57 : Ext w57 (World.alloc w57 (.cells #[.slice sz B.al.length cz, .int .i64 B.next] 52)) := (Ext.refl _).alloc _
        obtain ⟨w57b, hw57⟩ : ∃ x, World.alloc w57 (.cells #[.slice sz B.al.length cz, .int .i64 B.next] 52) = x := ⟨_, rfl⟩
        rw [hw57] at boz hx57 ⊢
        clear hw57
        replace bM := bM.ext hx57
        replace bP := bP.ext hx57
        replace bC := bC.ext hx57
        replace bD := bD.ext hx57
        replace hL := hL.ext hx57
        replace hx := hx.ext hx57
        replace box := box.ext hx57
        replace hy := hy.ext hx57
        replace boy := boy.ext hx57
        replace hz := hz.ext hx57
        have hF57 := Ext.trans (hF56) hx57
        refine (ref26_Same hz hy).mono ?_
        rintro e w59 ⟨rfl, hE58⟩
        replace bM := bM.ext hE58
        replace bP := bP.ext hE58
        replace bC := bC.ext hE58
        replace bD := bD.ext hE58
        replace hL := hL.ext hE58
        replace hx := hx.ext hE58
        replace box := box.ext hE58
        replace hy := hy.ext hE58
        replace boy := boy.ext hE58
        replace hz := hz.ext hE58
        replace boz := boz.ext hE58
        have hF58 := Ext.trans (hF57) hE58
        go_wp2_with fail
        go_meet
        exact hF58
    case rest =>
      replace bM := bM.ext hcut
      replace bP := bP.ext hcut
      replace bC := bC.ext hcut
      replace bD := bD.ext hcut
      replace hL := hL.ext hcut
      replace hx := hx.ext hcut
      replace box := box.ext hcut
      replace hy := hy.ext hcut
      replace boy := boy.ext hcut
      have hF6 := Ext.trans (hF5) hcut
      have bM_0 : World.cell? wc ⟨w.heap.size, 0, none⟩ = some (.slice a m.al.length cp) := bM.cell 0
      have bM_1 : World.cell? wc ⟨w.heap.size, 1, none⟩ = some (.int .i64 m.next) := bM.cell 1
      have bM_l := bM.lt
      have bP_0 : World.cell? wc ⟨w.heap.size + 1, 0, none⟩ = some (.int .i64 pa) := bP.cell 0
      have bP_1 : World.cell? wc ⟨w.heap.size + 1, 1, none⟩ = some (.int .i64 po) := bP.cell 1
      have bP_2 : World.cell? wc ⟨w.heap.size + 1, 2, none⟩ = some (.int .i64 pt) := bP.cell 2
      have bP_l := bP.lt
      have bC_0 : World.cell? wc ⟨w.heap.size + 1 + 1, 0, none⟩ = some (.int .u8 ck) := bC.cell 0
      have bC_1 : World.cell? wc ⟨w.heap.size + 1 + 1, 1, none⟩ = some (.int .i64 cn) := bC.cell 1
      have bC_2 : World.cell? wc ⟨w.heap.size + 1 + 1, 2, none⟩ = some (.int .i64 ca) := bC.cell 2
      have bC_3 : World.cell? wc ⟨w.heap.size + 1 + 1, 3, none⟩ = some (.int .i64 cb) := bC.cell 3
      have bC_4 : World.cell? wc ⟨w.heap.size + 1 + 1, 4, none⟩ = some (.int .i64 ct) := bC.cell 4
      have bC_l := bC.lt
      have bD_0 : World.cell? wc ⟨w.heap.size + 1 + 1 + 1, 0, none⟩ = some (.int .u8 dk) := bD.cell 0
      have bD_1 : World.cell? wc ⟨w.heap.size + 1 + 1 + 1, 1, none⟩ = some (.int .i64 dn) := bD.cell 1
      have bD_2 : World.cell? wc ⟨w.heap.size + 1 + 1 + 1, 2, none⟩ = some (.int .i64 da) := bD.cell 2
      have bD_3 : World.cell? wc ⟨w.heap.size + 1 + 1 + 1, 3, none⟩ = some (.int .i64 db) := bD.cell 3
      have bD_4 : World.cell? wc ⟨w.heap.size + 1 + 1 + 1, 4, none⟩ = some (.int .i64 dt) := bD.cell 4
      have bD_l := bD.lt
      have box_0 : World.cell? wc ⟨w3.heap.size, 0, none⟩ = some (.slice sx A.al.length cx) := box.cell 0
      have box_1 : World.cell? wc ⟨w3.heap.size, 1, none⟩ = some (.int .i64 A.next) := box.cell 1
      have box_l := box.lt
      have boy_0 : World.cell? wc ⟨w5.heap.size, 0, none⟩ = some (.slice sy B.al.length cy) := boy.cell 0
      have boy_1 : World.cell? wc ⟨w5.heap.size, 1, none⟩ = some (.int .i64 B.next) := boy.cell 1
      have boy_l := boy.lt
      go_wp2_with fail
      clear bM_0 bM_1 bM_l
      clear bP_0 bP_1 bP_2 bP_l
      clear bC_0 bC_1 bC_2 bC_3 bC_4 bC_l
      clear bD_0 bD_1 bD_2 bD_3 bD_4 bD_l
      clear box_0 box_1 box_l
      clear boy_0 boy_1 boy_l
      refine (cells_Load (m := A) ⟨pa, po, pt⟩ hx hnA).mono ?_
      rintro e w8 ⟨rfl, hE7⟩
      replace bM := bM.ext hE7
      replace bP := bP.ext hE7
      replace bC := bC.ext hE7
      replace bD := bD.ext hE7
      replace hL := hL.ext hE7
      replace hx := hx.ext hE7
      replace box := box.ext hE7
      replace hy := hy.ext hE7
      replace boy := boy.ext hE7
      have hF7 := Ext.trans (hF6) hE7
      rw [h3.out]
      dsimp only [Cell.val]
      obtain ⟨rfl, hld2⟩ := hld.out
      have hmem : memErr A.al A.next = 0 := by have h0 := hbl.out.1; unfold Mem.ok at h0; unfold memErr; rw [if_pos h0]
      have n1 : (A.next != m.next) = false := by rw [hbl.out.2.1]; simp
      have n2 : (A.al.length != m.al.length) = false := by rw [hce.out.1]; simp
      have n3 : ((A.al.length : Int) != (m.al.length : Int)) = false := by rw [hce.out.1]; simp
      replace hmem := Lib.hid hmem
      have hcl := Lib.hid hce.out.2
      have hlen := Lib.hid hce.out.1
      clear hbl hce hag hld hs75
      rcases hld2 with ⟨k0, rfl⟩ | ⟨k0, rfl, hfc⟩
      ·
        have z0 : (ck == 0) = true := by simp [k0]
        replace k0 := Lib.hid k0
        have bM_0 : World.cell? w8 ⟨w.heap.size, 0, none⟩ = some (.slice a m.al.length cp) := bM.cell 0
        have bM_1 : World.cell? w8 ⟨w.heap.size, 1, none⟩ = some (.int .i64 m.next) := bM.cell 1
        have bM_l := bM.lt
        have bP_0 : World.cell? w8 ⟨w.heap.size + 1, 0, none⟩ = some (.int .i64 pa) := bP.cell 0
        have bP_1 : World.cell? w8 ⟨w.heap.size + 1, 1, none⟩ = some (.int .i64 po) := bP.cell 1
        have bP_2 : World.cell? w8 ⟨w.heap.size + 1, 2, none⟩ = some (.int .i64 pt) := bP.cell 2
        have bP_l := bP.lt
        have bC_0 : World.cell? w8 ⟨w.heap.size + 1 + 1, 0, none⟩ = some (.int .u8 ck) := bC.cell 0
        have bC_1 : World.cell? w8 ⟨w.heap.size + 1 + 1, 1, none⟩ = some (.int .i64 cn) := bC.cell 1
        have bC_2 : World.cell? w8 ⟨w.heap.size + 1 + 1, 2, none⟩ = some (.int .i64 ca) := bC.cell 2
        have bC_3 : World.cell? w8 ⟨w.heap.size + 1 + 1, 3, none⟩ = some (.int .i64 cb) := bC.cell 3
        have bC_4 : World.cell? w8 ⟨w.heap.size + 1 + 1, 4, none⟩ = some (.int .i64 ct) := bC.cell 4
        have bC_l := bC.lt
        have bD_0 : World.cell? w8 ⟨w.heap.size + 1 + 1 + 1, 0, none⟩ = some (.int .u8 dk) := bD.cell 0
        have bD_1 : World.cell? w8 ⟨w.heap.size + 1 + 1 + 1, 1, none⟩ = some (.int .i64 dn) := bD.cell 1
        have bD_2 : World.cell? w8 ⟨w.heap.size + 1 + 1 + 1, 2, none⟩ = some (.int .i64 da) := bD.cell 2
        have bD_3 : World.cell? w8 ⟨w.heap.size + 1 + 1 + 1, 3, none⟩ = some (.int .i64 db) := bD.cell 3
        have bD_4 : World.cell? w8 ⟨w.heap.size + 1 + 1 + 1, 4, none⟩ = some (.int .i64 dt) := bD.cell 4
        have bD_l := bD.lt
        have box_0 : World.cell? w8 ⟨w3.heap.size, 0, none⟩ = some (.slice sx A.al.length cx) := box.cell 0
        have box_1 : World.cell? w8 ⟨w3.heap.size, 1, none⟩ = some (.int .i64 A.next) := box.cell 1
        have box_l := box.lt
        have boy_0 : World.cell? w8 ⟨w5.heap.size, 0, none⟩ = some (.slice sy B.al.length cy) := boy.cell 0
        have boy_1 : World.cell? w8 ⟨w5.heap.size, 1, none⟩ = some (.int .i64 B.next) := boy.cell 1
        have boy_l := boy.lt
        go_wp2_with fail
        clear bM_0 bM_1 bM_l
        clear bP_0 bP_1 bP_2 bP_l
        clear bC_0 bC_1 bC_2 bC_3 bC_4 bC_l
        clear bD_0 bD_1 bD_2 bD_3 bD_4 bD_l
        clear box_0 box_1 box_l
        clear boy_0 boy_1 boy_l
        have bX := Box.new w8 48 #[.int .u8 fk, .int .i64 fn, .int .i64 fa, .int .i64 fb, .int .i64 ft]
        have hx58 : Ext w8 (World.alloc w8 (.cells #[.int .u8 fk, .int .i64 fn, .int .i64 fa, .int .i64 fb, .int .i64 ft] 48)) := (Ext.refl _).alloc _
        obtain ⟨w58b, hw58⟩ : ∃ x, World.alloc w8 (.cells #[.int .u8 fk, .int .i64 fn, .int .i64 fa, .int .i64 fb, .int .i64 ft] 48) = x := ⟨_, rfl⟩
        rw [hw58] at bX hx58 ⊢
        clear hw58
        replace bM := bM.ext hx58
        replace bP := bP.ext hx58
        replace bC := bC.ext hx58
        replace bD := bD.ext hx58
        replace hL := hL.ext hx58
        replace hx := hx.ext hx58
        replace box := box.ext hx58
        replace hy := hy.ext hx58
        replace boy := boy.ext hx58
        have hF58 := Ext.trans (hF7) hx58
        refine (ref26_Check hx hnA).mono ?_
        rintro e w60 ⟨rfl, hE59⟩
        replace bM := bM.ext hE59
        replace bP := bP.ext hE59
        replace bC := bC.ext hE59
        replace bD := bD.ext hE59
        replace hL := hL.ext hE59
        replace hx := hx.ext hE59
        replace box := box.ext hE59
        replace hy := hy.ext hE59
        replace boy := boy.ext hE59
        replace bX := bX.ext hE59
        have hF59 := Ext.trans (hF58) hE59
        rw [hmem.out]
        try clear hn0
        have bM_0 : World.cell? w60 ⟨w.heap.size, 0, none⟩ = some (.slice a m.al.length cp) := bM.cell 0
        have bM_1 : World.cell? w60 ⟨w.heap.size, 1, none⟩ = some (.int .i64 m.next) := bM.cell 1
        have bM_l := bM.lt
        have bP_0 : World.cell? w60 ⟨w.heap.size + 1, 0, none⟩ = some (.int .i64 pa) := bP.cell 0
        have bP_1 : World.cell? w60 ⟨w.heap.size + 1, 1, none⟩ = some (.int .i64 po) := bP.cell 1
        have bP_2 : World.cell? w60 ⟨w.heap.size + 1, 2, none⟩ = some (.int .i64 pt) := bP.cell 2
        have bP_l := bP.lt
        have bC_0 : World.cell? w60 ⟨w.heap.size + 1 + 1, 0, none⟩ = some (.int .u8 ck) := bC.cell 0
        have bC_1 : World.cell? w60 ⟨w.heap.size + 1 + 1, 1, none⟩ = some (.int .i64 cn) := bC.cell 1
        have bC_2 : World.cell? w60 ⟨w.heap.size + 1 + 1, 2, none⟩ = some (.int .i64 ca) := bC.cell 2
        have bC_3 : World.cell? w60 ⟨w.heap.size + 1 + 1, 3, none⟩ = some (.int .i64 cb) := bC.cell 3
        have bC_4 : World.cell? w60 ⟨w.heap.size + 1 + 1, 4, none⟩ = some (.int .i64 ct) := bC.cell 4
        have bC_l := bC.lt
        have bD_0 : World.cell? w60 ⟨w.heap.size + 1 + 1 + 1, 0, none⟩ = some (.int .u8 dk) := bD.cell 0
        have bD_1 : World.cell? w60 ⟨w.heap.size + 1 + 1 + 1, 1, none⟩ = some (.int .i64 dn) := bD.cell 1
        have bD_2 : World.cell? w60 ⟨w.heap.size + 1 + 1 + 1, 2, none⟩ = some (.int .i64 da) := bD.cell 2
        have bD_3 : World.cell? w60 ⟨w.heap.size + 1 + 1 + 1, 3, none⟩ = some (.int .i64 db) := bD.cell 3
        have bD_4 : World.cell? w60 ⟨w.heap.size + 1 + 1 + 1, 4, none⟩ = some (.int .i64 dt) := bD.cell 4
        have bD_l := bD.lt
        have box_0 : World.cell? w60 ⟨w3.heap.size, 0, none⟩ = some (.slice sx A.al.length cx) := box.cell 0
        have box_1 : World.cell? w60 ⟨w3.heap.size, 1, none⟩ = some (.int .i64 A.next) := box.cell 1
        have box_l := box.lt
        have boy_0 : World.cell? w60 ⟨w5.heap.size, 0, none⟩ = some (.slice sy B.al.length cy) := boy.cell 0
        have boy_1 : World.cell? w60 ⟨w5.heap.size, 1, none⟩ = some (.int .i64 B.next) := boy.cell 1
        have boy_l := boy.lt
        have bX_0 : World.cell? w60 ⟨w8.heap.size, 0, none⟩ = some (.int .u8 fk) := bX.cell 0
        have bX_1 : World.cell? w60 ⟨w8.heap.size, 1, none⟩ = some (.int .i64 fn) := bX.cell 1
        have bX_2 : World.cell? w60 ⟨w8.heap.size, 2, none⟩ = some (.int .i64 fa) := bX.cell 2
        have bX_3 : World.cell? w60 ⟨w8.heap.size, 3, none⟩ = some (.int .i64 fb) := bX.cell 3
        have bX_4 : World.cell? w60 ⟨w8.heap.size, 4, none⟩ = some (.int .i64 ft) := bX.cell 4
        have bX_l := bX.lt
        go_wp2
        clear bM_0 bM_1 bM_l
        clear bP_0 bP_1 bP_2 bP_l
        clear bC_0 bC_1 bC_2 bC_3 bC_4 bC_l
        clear bD_0 bD_1 bD_2 bD_3 bD_4 bD_l
        clear box_0 box_1 box_l
        clear boy_0 boy_1 boy_l
        clear bX_0 bX_1 bX_2 bX_3 bX_4 bX_l
        go_loopw [23] (fun iv wr => ∃ i : Nat, i ≤ m.al.length ∧ iv = .int .i64 i ∧ Ext w60 wr) (fun iv _ => m.al.length - (intOf iv).toNat)
        case atStart => exact ⟨0, Nat.zero_le _, rfl, Ext.refl _⟩
        case round =>
          obtain ⟨i, hi, rfl, hQ⟩ := hrel
          have bM_0 : World.cell? wr ⟨w.heap.size, 0, none⟩ = some (.slice a m.al.length cp) := (bM.ext hQ).cell 0
          have bM_1 : World.cell? wr ⟨w.heap.size, 1, none⟩ = some (.int .i64 m.next) := (bM.ext hQ).cell 1
          have bP_0 : World.cell? wr ⟨w.heap.size + 1, 0, none⟩ = some (.int .i64 pa) := (bP.ext hQ).cell 0
          have bP_1 : World.cell? wr ⟨w.heap.size + 1, 1, none⟩ = some (.int .i64 po) := (bP.ext hQ).cell 1
          have bP_2 : World.cell? wr ⟨w.heap.size + 1, 2, none⟩ = some (.int .i64 pt) := (bP.ext hQ).cell 2
          have bC_0 : World.cell? wr ⟨w.heap.size + 1 + 1, 0, none⟩ = some (.int .u8 ck) := (bC.ext hQ).cell 0
          have bC_1 : World.cell? wr ⟨w.heap.size + 1 + 1, 1, none⟩ = some (.int .i64 cn) := (bC.ext hQ).cell 1
          have bC_2 : World.cell? wr ⟨w.heap.size + 1 + 1, 2, none⟩ = some (.int .i64 ca) := (bC.ext hQ).cell 2
          have bC_3 : World.cell? wr ⟨w.heap.size + 1 + 1, 3, none⟩ = some (.int .i64 cb) := (bC.ext hQ).cell 3
          have bC_4 : World.cell? wr ⟨w.heap.size + 1 + 1, 4, none⟩ = some (.int .i64 ct) := (bC.ext hQ).cell 4
          have box_0 : World.cell? wr ⟨w3.heap.size, 0, none⟩ = some (.slice sx A.al.length cx) := (box.ext hQ).cell 0
          have box_1 : World.cell? wr ⟨w3.heap.size, 1, none⟩ = some (.int .i64 A.next) := (box.ext hQ).cell 1
          by_cases hlt : i < m.al.length
          · have hlt' : decide (i < m.al.length) = true := decide_eq_true hlt
            obtain ⟨x, hxi⟩ : ∃ x, m.al[i]? = some x := ⟨m.al[i], by simp [hlt]⟩
            obtain ⟨y, hyi, y1, y2, y3, hyc⟩ := hcl.out i x hxi
            obtain ⟨xb, xo, xs, rfl, xlt, xn, xl, xc, hxs⟩ := (hL.ext hQ).cell hxi
            obtain ⟨yb, yo, ys, rfl, ylt, yn, yl, yc, hys⟩ := (hx.ext hQ).cell hyi
            obtain ⟨xa, xk, rfl, -⟩ := hxs.form
            obtain ⟨ya, yk, rfl, -⟩ := hys.form
            rw [y1] at yn
            rw [y2] at yl
            have q0 : (x.num != x.num) = false := by simp
            have q1 : (x.live != x.live) = false := by simp
            have q2 : (y.cells.length != x.cells.length) = false := by simp [y3]
            have q3 : ((y.cells.length : Int) != (x.cells.length : Int)) = false := by simp [y3]
            have hyl : i < A.al.length := (List.getElem?_eq_some_iff.1 hyi).1
            have hi0 : (0 : Int) ≤ (i : Int) := by omega
            have hi1 : (i : Int) < (m.al.length : Int) := by omega
            have hi2 : (i : Int) < (A.al.length : Int) := by omega
            replace hlt := Lib.hid hlt
            replace y3 := Lib.hid y3
            replace hyc := Lib.hid hyc
            have hXi := Lib.hid hxi
            have hYi := Lib.hid hyi
            clear hxi hyi y1 y2 hxs hys xlt ylt
            go_wp2
            go_quiet (fail)
            go_wp2
            clear bM_0 bM_1 bP_0 bP_1 bP_2 bC_0 bC_1 bC_2 bC_3 bC_4 box_0 box_1 xn xl xc yn yl yc
            have hQd := Ext.drewN hQ
            go_loopw [24] (fun kv wq => ∃ k : Nat, k ≤ x.cells.length ∧ kv = .int .i64 k ∧ Ext w60 wq) (fun kv _ => x.cells.length - (intOf kv).toNat)
            case atStart => exact ⟨0, Nat.zero_le _, rfl, (by first | exact hQd _ | exact hQ)⟩
            case round =>
              obtain ⟨k, hk, rfl, hY⟩ := hrel
              have bM_0 : World.cell? wr ⟨w.heap.size, 0, none⟩ = some (.slice (some ⟨xb, xo, none⟩) m.al.length cp) := (bM.ext hY).cell 0
              have bM_1 : World.cell? wr ⟨w.heap.size, 1, none⟩ = some (.int .i64 m.next) := (bM.ext hY).cell 1
              have bP_0 : World.cell? wr ⟨w.heap.size + 1, 0, none⟩ = some (.int .i64 pa) := (bP.ext hY).cell 0
              have bP_1 : World.cell? wr ⟨w.heap.size + 1, 1, none⟩ = some (.int .i64 po) := (bP.ext hY).cell 1
              have bP_2 : World.cell? wr ⟨w.heap.size + 1, 2, none⟩ = some (.int .i64 pt) := (bP.ext hY).cell 2
              have bC_0 : World.cell? wr ⟨w.heap.size + 1 + 1, 0, none⟩ = some (.int .u8 ck) := (bC.ext hY).cell 0
              have bC_1 : World.cell? wr ⟨w.heap.size + 1 + 1, 1, none⟩ = some (.int .i64 cn) := (bC.ext hY).cell 1
              have bC_2 : World.cell? wr ⟨w.heap.size + 1 + 1, 2, none⟩ = some (.int .i64 ca) := (bC.ext hY).cell 2
              have bC_3 : World.cell? wr ⟨w.heap.size + 1 + 1, 3, none⟩ = some (.int .i64 cb) := (bC.ext hY).cell 3
              have bC_4 : World.cell? wr ⟨w.heap.size + 1 + 1, 4, none⟩ = some (.int .i64 ct) := (bC.ext hY).cell 4
              have box_0 : World.cell? wr ⟨w3.heap.size, 0, none⟩ = some (.slice (some ⟨yb, yo, none⟩) A.al.length cx) := (box.ext hY).cell 0
              have box_1 : World.cell? wr ⟨w3.heap.size, 1, none⟩ = some (.int .i64 A.next) := (box.ext hY).cell 1
              obtain ⟨xb2, xo2, xs2, e1, xlt, xn, xl, xc, hxs⟩ := (hL.ext hY).cell hXi.out
              cases e1
              obtain ⟨yb2, yo2, ys2, e2, ylt, yn, yl, yc, hys⟩ := (hx.ext hY).cell hYi.out
              cases e2
              obtain ⟨xa, xk, rfl, hxk, hxm, -⟩ := hxs.form
              unfold maxLen at hxm
              obtain ⟨ya, yk, rfl, -⟩ := hys.form
              by_cases hkt : k < x.cells.length
              · have hkt' : decide (k < x.cells.length) = true := decide_eq_true hkt
                obtain ⟨e, hek⟩ : ∃ e, x.cells[k]? = some e := ⟨x.cells[k], by simp [hkt]⟩
                have hyk := hyc.out k e hek
                have hyl2 : k < y.cells.length := (List.getElem?_eq_some_iff.1 hyk).1
                obtain ⟨cb1, co1, rfl, clt1, u0, u1, u2, u3, u4⟩ := hxs.cell hek
                obtain ⟨cb2, co2, rfl, clt2, v0, v1, v2, v3, v4⟩ := hys.cell hyk
                have hk0 : (0 : Int) ≤ (k : Int) := by omega
                have hk1 : (k : Int) < (x.cells.length : Int) := by omega
                have hk2 : (k : Int) < (y.cells.length : Int) := by omega
                clear clt1 clt2 hxs hys xlt ylt hek hyk
                have hcase : (((x.num == pa) = true ∧ ((k : Int) == po) = true) ∧ (if x.num = pa ∧ (k : Int) = po then (⟨ck, cn, ca, cb, ct⟩ : Cell) else e) = ⟨ck, cn, ca, cb, ct⟩) ∨ (((x.num == pa) = false ∨ ((x.num == pa) = true ∧ ((k : Int) == po) = false)) ∧ (if x.num = pa ∧ (k : Int) = po then (⟨ck, cn, ca, cb, ct⟩ : Cell) else e) = e) := by
                  by_cases h1 : x.num = pa
                  · by_cases h2 : (k : Int) = po
                    · exact .inl ⟨⟨by simp [h1], by simp [h2]⟩, if_pos ⟨h1, h2⟩⟩
                    · exact .inr ⟨.inr ⟨by simp [h1], by simp [h2]⟩, if_neg (fun h => h2 h.2)⟩
                  · exact .inr ⟨.inl (by simp [h1]), if_neg (fun h => h1 h.1)⟩
                obtain ⟨gv, hgv⟩ : ∃ z, (if x.num = pa ∧ (k : Int) = po then (⟨ck, cn, ca, cb, ct⟩ : Cell) else e) = z := ⟨_, rfl⟩
                rw [hgv] at v0 v1 v2 v3 v4 hcase
                clear hgv
                rcases hcase with ⟨⟨w1, w2⟩, rfl⟩ | ⟨w1, rfl⟩
                · have hne := run_neq_cells ⟨ck, cn, ca, cb, ct⟩ ⟨ck, cn, ca, cb, ct⟩
                  simp only [ne_eq, not_true_eq_false, decide_false] at hne
                  unfold Cell.val at hne
                  dsimp only at v0 v1 v2 v3 v4
                  go_wp2
                  go_quiet (fail)
                  go_wp2
                  go_quiet (fail)
                  go_wp2
                  go_roundw
                  case rel => exact ⟨k + 1, by omega, by go_num, (by first | exact (hY.drewN _).drewN _ | exact hY.drewN _ | exact hY)⟩
                  case measure => simp [intOf]; omega
                · have hne := run_neq_cells gv gv
                  simp only [ne_eq, not_true_eq_false, decide_false] at hne
                  unfold Cell.val at hne
                  rcases w1 with w1 | ⟨w1, w2⟩
                  all_goals
                    go_wp2
                    go_quiet (fail)
                    go_wp2
                    go_quiet (fail)
                    go_wp2
                    go_roundw
                    case rel => exact ⟨k + 1, by omega, by go_num, (by first | exact (hY.drewN _).drewN _ | exact hY.drewN _ | exact hY)⟩
                    case measure => simp [intOf]; omega
              · have hke : k = x.cells.length := by omega
                subst hke
                go_wp2
                go_roundw
                case rel => exact ⟨i + 1, (by have := hlt.out; omega), by go_num, hY⟩
                case measure => have := hlt.out; simp [intOf]; omega
          · have hie : i = m.al.length := by omega
            subst hie
            go_wp2
            go_ret
            exact ⟨rfl, hF59.trans hQ⟩
      · exact absurd hck.out k0

end Go.Proofs.Ytcnblhlbmpaimaa
