/- The statement CellsBack: for every memory, pointer and two cells the call returns true. No condition. -/
import Derived.Test.YtcnblhlbmpaimaaCelX9
import Derived.Test.YtcnblhlbmpaimaaBackA
import Derived.Test.YtcnblhlbmpaimaaBackB
import Derived.Test.YtcnblhlbmpaimaaCelB
import Derived.Test.YtcnblhlbmpaimaaReadM
import Derived.Test.YtcnblhlbmpaimaaClose
import Derived.Deep.DeepCutAuto
import Derived.Deep.QuietTactic
import Derived.BigQuiet
namespace Go.Proofs.Ytcnblhlbmpaimaa
set_option maxRecDepth 100000
open Go.ChangeShapes Go.WideShapes Go.ChangeAt Go.RowKit
set_option linter.unusedVariables false

theorem same_zero27 {X : Mem} {v : Value} {w : World} (h : X = Mem.zero) (hX : Als w v X.al) : Calls Try.prog 43 #[.agg #[v, .int .i64 X.next], .agg #[.slice none 0 0, .int .i64 0]] w fun e w' => e = .returned (.bool true) ∧ Ext w w' := by
  subst h
  exact ref26_Same (l := []) (next := 0) hX (Als.nil _)

set_option maxRecDepth 100000 in
set_option maxHeartbeats 12800000 in
theorem cellsBack_walk {m : Mem} {s : Value} {w : World} (p : Ptr) (c d : Cell) (hl : Als w s m.al) (hn : i64B m.next) :
    Calls Try.prog 7 #[.agg #[s, .int .i64 m.next], p.val, c.val, d.val] w fun e w' => e = .returned (.bool true) ∧ Ext w w' := by
  by_cases hsel : greatM m.al = false ∧ (storeR m p [c]).2.2 = 0 ∧ (storeR m p [c]).2.1 = 0
  · by_cases hck : c.k = 0
    · exact cellsBack_A p c d hl hn hsel hck
    · exact cellsBack_B p c d hl hn hsel hck
  replace hsel := Lib.hid hsel
  obtain ⟨pa, po, pt⟩ := p
  obtain ⟨ck, cn, ca, cb, ct⟩ := c
  obtain ⟨dk, dn, da, db, dt⟩ := d
  obtain ⟨a, cp, rfl, hac, hcm, -⟩ := hl.form
  unfold maxLen at hcm
  have hF := ((((Ext.refl w).alloc (.cells #[.slice a m.al.length cp, .int .i64 m.next] 52)).alloc (.cells #[.int .i64 pa, .int .i64 po, .int .i64 pt] 46)).alloc (.cells #[.int .u8 ck, .int .i64 cn, .int .i64 ca, .int .i64 cb, .int .i64 ct] 48)).alloc (.cells #[.int .u8 dk, .int .i64 dn, .int .i64 da, .int .i64 db, .int .i64 dt] 48)
  have hL := hl.ext hF
  have bM := (((Box.new w 52 #[.slice a m.al.length cp, .int .i64 m.next]).ext ((Ext.refl _).alloc (.cells #[.int .i64 pa, .int .i64 po, .int .i64 pt] 46))).ext ((Ext.refl _).alloc (.cells #[.int .u8 ck, .int .i64 cn, .int .i64 ca, .int .i64 cb, .int .i64 ct] 48))).ext ((Ext.refl _).alloc (.cells #[.int .u8 dk, .int .i64 dn, .int .i64 da, .int .i64 db, .int .i64 dt] 48))
  have bP := ((Box.new (World.alloc w (.cells #[.slice a m.al.length cp, .int .i64 m.next] 52)) 46 #[.int .i64 pa, .int .i64 po, .int .i64 pt]).ext ((Ext.refl _).alloc (.cells #[.int .u8 ck, .int .i64 cn, .int .i64 ca, .int .i64 cb, .int .i64 ct] 48))).ext ((Ext.refl _).alloc (.cells #[.int .u8 dk, .int .i64 dn, .int .i64 da, .int .i64 db, .int .i64 dt] 48))
  have bC := (Box.new (World.alloc (World.alloc w (.cells #[.slice a m.al.length cp, .int .i64 m.next] 52)) (.cells #[.int .i64 pa, .int .i64 po, .int .i64 pt] 46)) 48 #[.int .u8 ck, .int .i64 cn, .int .i64 ca, .int .i64 cb, .int .i64 ct]).ext ((Ext.refl _).alloc (.cells #[.int .u8 dk, .int .i64 dn, .int .i64 da, .int .i64 db, .int .i64 dt] 48))
  have bD := Box.new (World.alloc (World.alloc (World.alloc w (.cells #[.slice a m.al.length cp, .int .i64 m.next] 52)) (.cells #[.int .i64 pa, .int .i64 po, .int .i64 pt] 46)) (.cells #[.int .u8 ck, .int .i64 cn, .int .i64 ca, .int .i64 cb, .int .i64 ct] 48)) 48 #[.int .u8 dk, .int .i64 dn, .int .i64 da, .int .i64 db, .int .i64 dt]
  rw [World.size_alloc] at bP bC bD
  rw [World.size_alloc] at bC bD
  rw [World.size_alloc] at bD
  clear hl
  unfold Ptr.val Cell.val
  obtain ⟨A, y1, e1, h1⟩ : ∃ c why err, storeR m ⟨pa, po, pt⟩ [⟨ck, cn, ca, cb, ct⟩] = (c, why, err) := ⟨_, _, _, rfl⟩
  obtain ⟨B, y2, e2, h2⟩ : ∃ c why err, storeR A ⟨pa, po, pt⟩ [⟨dk, dn, da, db, dt⟩] = (c, why, err) := ⟨_, _, _, rfl⟩
  obtain ⟨⟨fk, fn, fa, fb, ft⟩, y3, e3, h3⟩ : ∃ c why err, load1R A ⟨pa, po, pt⟩ = (c, why, err) := ⟨_, _, _, rfl⟩
  cases hg : greatM m.al
  · have hg' := Lib.hid hg
    clear hg
    have hcase : (e1 ≠ 0 ∧ A = Mem.zero) ∨ (e1 = 0 ∧ y1 = 3 ∧ A = Mem.zero) ∨ (e1 = 0 ∧ y1 = 0) := by
      rcases storeR_cases m ⟨pa, po, pt⟩ [⟨ck, cn, ca, cb, ct⟩] with ⟨e, h, he⟩ | ⟨h, -⟩ | ⟨j, x, -, -, -, -, h⟩
      · rw [h1] at h
        simp only [Prod.mk.injEq] at h
        exact .inl ⟨by rw [h.2.2]; exact he, h.1⟩
      · rw [h1] at h
        simp only [Prod.mk.injEq] at h
        exact .inr (.inl ⟨h.2.2, h.2.1, h.1⟩)
      · rw [h1] at h
        simp only [Prod.mk.injEq] at h
        exact .inr (.inr ⟨h.2.2, h.2.1⟩)
    rcases hcase with ⟨u1, u2⟩ | ⟨rfl, rfl, u2⟩ | ⟨rfl, rfl⟩
    · replace h1 := Lib.hid h1
      replace u2 := Lib.hid u2
      have z0 : (e1 == 0) = false := by simp [u1]
      clear h2 h3
      go_enter Try.func7, Try.ntmps7
      have bM_0 : World.cell? (World.alloc (World.alloc (World.alloc (World.alloc w (.cells #[.slice a m.al.length cp, .int .i64 m.next] 52)) (.cells #[.int .i64 pa, .int .i64 po, .int .i64 pt] 46)) (.cells #[.int .u8 ck, .int .i64 cn, .int .i64 ca, .int .i64 cb, .int .i64 ct] 48)) (.cells #[.int .u8 dk, .int .i64 dn, .int .i64 da, .int .i64 db, .int .i64 dt] 48)) ⟨w.heap.size, 0, none⟩ = some (.slice a m.al.length cp) := bM.cell 0
      have bM_1 : World.cell? (World.alloc (World.alloc (World.alloc (World.alloc w (.cells #[.slice a m.al.length cp, .int .i64 m.next] 52)) (.cells #[.int .i64 pa, .int .i64 po, .int .i64 pt] 46)) (.cells #[.int .u8 ck, .int .i64 cn, .int .i64 ca, .int .i64 cb, .int .i64 ct] 48)) (.cells #[.int .u8 dk, .int .i64 dn, .int .i64 da, .int .i64 db, .int .i64 dt] 48)) ⟨w.heap.size, 1, none⟩ = some (.int .i64 m.next) := bM.cell 1
      have bM_l := bM.lt
      have bP_0 : World.cell? (World.alloc (World.alloc (World.alloc (World.alloc w (.cells #[.slice a m.al.length cp, .int .i64 m.next] 52)) (.cells #[.int .i64 pa, .int .i64 po, .int .i64 pt] 46)) (.cells #[.int .u8 ck, .int .i64 cn, .int .i64 ca, .int .i64 cb, .int .i64 ct] 48)) (.cells #[.int .u8 dk, .int .i64 dn, .int .i64 da, .int .i64 db, .int .i64 dt] 48)) ⟨w.heap.size + 1, 0, none⟩ = some (.int .i64 pa) := bP.cell 0
      have bP_1 : World.cell? (World.alloc (World.alloc (World.alloc (World.alloc w (.cells #[.slice a m.al.length cp, .int .i64 m.next] 52)) (.cells #[.int .i64 pa, .int .i64 po, .int .i64 pt] 46)) (.cells #[.int .u8 ck, .int .i64 cn, .int .i64 ca, .int .i64 cb, .int .i64 ct] 48)) (.cells #[.int .u8 dk, .int .i64 dn, .int .i64 da, .int .i64 db, .int .i64 dt] 48)) ⟨w.heap.size + 1, 1, none⟩ = some (.int .i64 po) := bP.cell 1
      have bP_2 : World.cell? (World.alloc (World.alloc (World.alloc (World.alloc w (.cells #[.slice a m.al.length cp, .int .i64 m.next] 52)) (.cells #[.int .i64 pa, .int .i64 po, .int .i64 pt] 46)) (.cells #[.int .u8 ck, .int .i64 cn, .int .i64 ca, .int .i64 cb, .int .i64 ct] 48)) (.cells #[.int .u8 dk, .int .i64 dn, .int .i64 da, .int .i64 db, .int .i64 dt] 48)) ⟨w.heap.size + 1, 2, none⟩ = some (.int .i64 pt) := bP.cell 2
      have bP_l := bP.lt
      have bC_0 : World.cell? (World.alloc (World.alloc (World.alloc (World.alloc w (.cells #[.slice a m.al.length cp, .int .i64 m.next] 52)) (.cells #[.int .i64 pa, .int .i64 po, .int .i64 pt] 46)) (.cells #[.int .u8 ck, .int .i64 cn, .int .i64 ca, .int .i64 cb, .int .i64 ct] 48)) (.cells #[.int .u8 dk, .int .i64 dn, .int .i64 da, .int .i64 db, .int .i64 dt] 48)) ⟨w.heap.size + 1 + 1, 0, none⟩ = some (.int .u8 ck) := bC.cell 0
      have bC_1 : World.cell? (World.alloc (World.alloc (World.alloc (World.alloc w (.cells #[.slice a m.al.length cp, .int .i64 m.next] 52)) (.cells #[.int .i64 pa, .int .i64 po, .int .i64 pt] 46)) (.cells #[.int .u8 ck, .int .i64 cn, .int .i64 ca, .int .i64 cb, .int .i64 ct] 48)) (.cells #[.int .u8 dk, .int .i64 dn, .int .i64 da, .int .i64 db, .int .i64 dt] 48)) ⟨w.heap.size + 1 + 1, 1, none⟩ = some (.int .i64 cn) := bC.cell 1
      have bC_2 : World.cell? (World.alloc (World.alloc (World.alloc (World.alloc w (.cells #[.slice a m.al.length cp, .int .i64 m.next] 52)) (.cells #[.int .i64 pa, .int .i64 po, .int .i64 pt] 46)) (.cells #[.int .u8 ck, .int .i64 cn, .int .i64 ca, .int .i64 cb, .int .i64 ct] 48)) (.cells #[.int .u8 dk, .int .i64 dn, .int .i64 da, .int .i64 db, .int .i64 dt] 48)) ⟨w.heap.size + 1 + 1, 2, none⟩ = some (.int .i64 ca) := bC.cell 2
      have bC_3 : World.cell? (World.alloc (World.alloc (World.alloc (World.alloc w (.cells #[.slice a m.al.length cp, .int .i64 m.next] 52)) (.cells #[.int .i64 pa, .int .i64 po, .int .i64 pt] 46)) (.cells #[.int .u8 ck, .int .i64 cn, .int .i64 ca, .int .i64 cb, .int .i64 ct] 48)) (.cells #[.int .u8 dk, .int .i64 dn, .int .i64 da, .int .i64 db, .int .i64 dt] 48)) ⟨w.heap.size + 1 + 1, 3, none⟩ = some (.int .i64 cb) := bC.cell 3
      have bC_4 : World.cell? (World.alloc (World.alloc (World.alloc (World.alloc w (.cells #[.slice a m.al.length cp, .int .i64 m.next] 52)) (.cells #[.int .i64 pa, .int .i64 po, .int .i64 pt] 46)) (.cells #[.int .u8 ck, .int .i64 cn, .int .i64 ca, .int .i64 cb, .int .i64 ct] 48)) (.cells #[.int .u8 dk, .int .i64 dn, .int .i64 da, .int .i64 db, .int .i64 dt] 48)) ⟨w.heap.size + 1 + 1, 4, none⟩ = some (.int .i64 ct) := bC.cell 4
      have bC_l := bC.lt
      have bD_0 : World.cell? (World.alloc (World.alloc (World.alloc (World.alloc w (.cells #[.slice a m.al.length cp, .int .i64 m.next] 52)) (.cells #[.int .i64 pa, .int .i64 po, .int .i64 pt] 46)) (.cells #[.int .u8 ck, .int .i64 cn, .int .i64 ca, .int .i64 cb, .int .i64 ct] 48)) (.cells #[.int .u8 dk, .int .i64 dn, .int .i64 da, .int .i64 db, .int .i64 dt] 48)) ⟨w.heap.size + 1 + 1 + 1, 0, none⟩ = some (.int .u8 dk) := bD.cell 0
      have bD_1 : World.cell? (World.alloc (World.alloc (World.alloc (World.alloc w (.cells #[.slice a m.al.length cp, .int .i64 m.next] 52)) (.cells #[.int .i64 pa, .int .i64 po, .int .i64 pt] 46)) (.cells #[.int .u8 ck, .int .i64 cn, .int .i64 ca, .int .i64 cb, .int .i64 ct] 48)) (.cells #[.int .u8 dk, .int .i64 dn, .int .i64 da, .int .i64 db, .int .i64 dt] 48)) ⟨w.heap.size + 1 + 1 + 1, 1, none⟩ = some (.int .i64 dn) := bD.cell 1
      have bD_2 : World.cell? (World.alloc (World.alloc (World.alloc (World.alloc w (.cells #[.slice a m.al.length cp, .int .i64 m.next] 52)) (.cells #[.int .i64 pa, .int .i64 po, .int .i64 pt] 46)) (.cells #[.int .u8 ck, .int .i64 cn, .int .i64 ca, .int .i64 cb, .int .i64 ct] 48)) (.cells #[.int .u8 dk, .int .i64 dn, .int .i64 da, .int .i64 db, .int .i64 dt] 48)) ⟨w.heap.size + 1 + 1 + 1, 2, none⟩ = some (.int .i64 da) := bD.cell 2
      have bD_3 : World.cell? (World.alloc (World.alloc (World.alloc (World.alloc w (.cells #[.slice a m.al.length cp, .int .i64 m.next] 52)) (.cells #[.int .i64 pa, .int .i64 po, .int .i64 pt] 46)) (.cells #[.int .u8 ck, .int .i64 cn, .int .i64 ca, .int .i64 cb, .int .i64 ct] 48)) (.cells #[.int .u8 dk, .int .i64 dn, .int .i64 da, .int .i64 db, .int .i64 dt] 48)) ⟨w.heap.size + 1 + 1 + 1, 3, none⟩ = some (.int .i64 db) := bD.cell 3
      have bD_4 : World.cell? (World.alloc (World.alloc (World.alloc (World.alloc w (.cells #[.slice a m.al.length cp, .int .i64 m.next] 52)) (.cells #[.int .i64 pa, .int .i64 po, .int .i64 pt] 46)) (.cells #[.int .u8 ck, .int .i64 cn, .int .i64 ca, .int .i64 cb, .int .i64 ct] 48)) (.cells #[.int .u8 dk, .int .i64 dn, .int .i64 da, .int .i64 db, .int .i64 dt] 48)) ⟨w.heap.size + 1 + 1 + 1, 4, none⟩ = some (.int .i64 dt) := bD.cell 4
      have bD_l := bD.lt
      go_wp2_with fail
      clear bM_0 bM_1 bM_l
      clear bP_0 bP_1 bP_2 bP_l
      clear bC_0 bC_1 bC_2 bC_3 bC_4 bC_l
      clear bD_0 bD_1 bD_2 bD_3 bD_4 bD_l
      refine (law27_alive _).mono ?_
      rintro e w1 ⟨rfl, hE0⟩
      replace bM := bM.ext hE0
      replace bP := bP.ext hE0
      replace bC := bC.ext hE0
      replace bD := bD.ext hE0
      replace hL := hL.ext hE0
      have hF0 := Ext.trans (hF) hE0
      have bM_0 : World.cell? w1 ⟨w.heap.size, 0, none⟩ = some (.slice a m.al.length cp) := bM.cell 0
      have bM_1 : World.cell? w1 ⟨w.heap.size, 1, none⟩ = some (.int .i64 m.next) := bM.cell 1
      have bM_l := bM.lt
      have bP_0 : World.cell? w1 ⟨w.heap.size + 1, 0, none⟩ = some (.int .i64 pa) := bP.cell 0
      have bP_1 : World.cell? w1 ⟨w.heap.size + 1, 1, none⟩ = some (.int .i64 po) := bP.cell 1
      have bP_2 : World.cell? w1 ⟨w.heap.size + 1, 2, none⟩ = some (.int .i64 pt) := bP.cell 2
      have bP_l := bP.lt
      have bC_0 : World.cell? w1 ⟨w.heap.size + 1 + 1, 0, none⟩ = some (.int .u8 ck) := bC.cell 0
      have bC_1 : World.cell? w1 ⟨w.heap.size + 1 + 1, 1, none⟩ = some (.int .i64 cn) := bC.cell 1
      have bC_2 : World.cell? w1 ⟨w.heap.size + 1 + 1, 2, none⟩ = some (.int .i64 ca) := bC.cell 2
      have bC_3 : World.cell? w1 ⟨w.heap.size + 1 + 1, 3, none⟩ = some (.int .i64 cb) := bC.cell 3
      have bC_4 : World.cell? w1 ⟨w.heap.size + 1 + 1, 4, none⟩ = some (.int .i64 ct) := bC.cell 4
      have bC_l := bC.lt
      have bD_0 : World.cell? w1 ⟨w.heap.size + 1 + 1 + 1, 0, none⟩ = some (.int .u8 dk) := bD.cell 0
      have bD_1 : World.cell? w1 ⟨w.heap.size + 1 + 1 + 1, 1, none⟩ = some (.int .i64 dn) := bD.cell 1
      have bD_2 : World.cell? w1 ⟨w.heap.size + 1 + 1 + 1, 2, none⟩ = some (.int .i64 da) := bD.cell 2
      have bD_3 : World.cell? w1 ⟨w.heap.size + 1 + 1 + 1, 3, none⟩ = some (.int .i64 db) := bD.cell 3
      have bD_4 : World.cell? w1 ⟨w.heap.size + 1 + 1 + 1, 4, none⟩ = some (.int .i64 dt) := bD.cell 4
      have bD_l := bD.lt
      go_wp2_with fail
      clear bM_0 bM_1 bM_l
      clear bP_0 bP_1 bP_2 bP_l
      clear bC_0 bC_1 bC_2 bC_3 bC_4 bC_l
      clear bD_0 bD_1 bD_2 bD_3 bD_4 bD_l
      refine (ref26_Great hL).mono ?_
      rintro e w2 ⟨rfl, hE1⟩
      replace bM := bM.ext hE1
      replace bP := bP.ext hE1
      replace bC := bC.ext hE1
      replace bD := bD.ext hE1
      replace hL := hL.ext hE1
      have hF1 := Ext.trans (hF0) hE1
      rw [hg'.out]
      have bM_0 : World.cell? w2 ⟨w.heap.size, 0, none⟩ = some (.slice a m.al.length cp) := bM.cell 0
      have bM_1 : World.cell? w2 ⟨w.heap.size, 1, none⟩ = some (.int .i64 m.next) := bM.cell 1
      have bM_l := bM.lt
      have bP_0 : World.cell? w2 ⟨w.heap.size + 1, 0, none⟩ = some (.int .i64 pa) := bP.cell 0
      have bP_1 : World.cell? w2 ⟨w.heap.size + 1, 1, none⟩ = some (.int .i64 po) := bP.cell 1
      have bP_2 : World.cell? w2 ⟨w.heap.size + 1, 2, none⟩ = some (.int .i64 pt) := bP.cell 2
      have bP_l := bP.lt
      have bC_0 : World.cell? w2 ⟨w.heap.size + 1 + 1, 0, none⟩ = some (.int .u8 ck) := bC.cell 0
      have bC_1 : World.cell? w2 ⟨w.heap.size + 1 + 1, 1, none⟩ = some (.int .i64 cn) := bC.cell 1
      have bC_2 : World.cell? w2 ⟨w.heap.size + 1 + 1, 2, none⟩ = some (.int .i64 ca) := bC.cell 2
      have bC_3 : World.cell? w2 ⟨w.heap.size + 1 + 1, 3, none⟩ = some (.int .i64 cb) := bC.cell 3
      have bC_4 : World.cell? w2 ⟨w.heap.size + 1 + 1, 4, none⟩ = some (.int .i64 ct) := bC.cell 4
      have bC_l := bC.lt
      have bD_0 : World.cell? w2 ⟨w.heap.size + 1 + 1 + 1, 0, none⟩ = some (.int .u8 dk) := bD.cell 0
      have bD_1 : World.cell? w2 ⟨w.heap.size + 1 + 1 + 1, 1, none⟩ = some (.int .i64 dn) := bD.cell 1
      have bD_2 : World.cell? w2 ⟨w.heap.size + 1 + 1 + 1, 2, none⟩ = some (.int .i64 da) := bD.cell 2
      have bD_3 : World.cell? w2 ⟨w.heap.size + 1 + 1 + 1, 3, none⟩ = some (.int .i64 db) := bD.cell 3
      have bD_4 : World.cell? w2 ⟨w.heap.size + 1 + 1 + 1, 4, none⟩ = some (.int .i64 dt) := bD.cell 4
      have bD_l := bD.lt
      go_wp2_with fail
      clear bM_0 bM_1 bM_l
      clear bP_0 bP_1 bP_2 bP_l
      clear bC_0 bC_1 bC_2 bC_3 bC_4 bC_l
      clear bD_0 bD_1 bD_2 bD_3 bD_4 bD_l
      refine (cells_Store (m := m) ⟨pa, po, pt⟩ ⟨ck, cn, ca, cb, ct⟩ hL hn).mono ?_
      rintro e w3 ⟨vx, rfl, fx, hE2⟩
      replace bM := bM.ext hE2
      replace bP := bP.ext hE2
      replace bC := bC.ext hE2
      replace bD := bD.ext hE2
      replace hL := hL.ext hE2
      have hF2 := Ext.trans (hF1) hE2
      rw [h1.out] at fx
      rw [h1.out]
      obtain ⟨vx', rfl, hx⟩ := FrM.read fx
      obtain ⟨sx, cx, rfl, -⟩ := hx.form
      clear fx
      dsimp only
      have bM_0 : World.cell? w3 ⟨w.heap.size, 0, none⟩ = some (.slice a m.al.length cp) := bM.cell 0
      have bM_1 : World.cell? w3 ⟨w.heap.size, 1, none⟩ = some (.int .i64 m.next) := bM.cell 1
      have bM_l := bM.lt
      have bP_0 : World.cell? w3 ⟨w.heap.size + 1, 0, none⟩ = some (.int .i64 pa) := bP.cell 0
      have bP_1 : World.cell? w3 ⟨w.heap.size + 1, 1, none⟩ = some (.int .i64 po) := bP.cell 1
      have bP_2 : World.cell? w3 ⟨w.heap.size + 1, 2, none⟩ = some (.int .i64 pt) := bP.cell 2
      have bP_l := bP.lt
      have bC_0 : World.cell? w3 ⟨w.heap.size + 1 + 1, 0, none⟩ = some (.int .u8 ck) := bC.cell 0
      have bC_1 : World.cell? w3 ⟨w.heap.size + 1 + 1, 1, none⟩ = some (.int .i64 cn) := bC.cell 1
      have bC_2 : World.cell? w3 ⟨w.heap.size + 1 + 1, 2, none⟩ = some (.int .i64 ca) := bC.cell 2
      have bC_3 : World.cell? w3 ⟨w.heap.size + 1 + 1, 3, none⟩ = some (.int .i64 cb) := bC.cell 3
      have bC_4 : World.cell? w3 ⟨w.heap.size + 1 + 1, 4, none⟩ = some (.int .i64 ct) := bC.cell 4
      have bC_l := bC.lt
      have bD_0 : World.cell? w3 ⟨w.heap.size + 1 + 1 + 1, 0, none⟩ = some (.int .u8 dk) := bD.cell 0
      have bD_1 : World.cell? w3 ⟨w.heap.size + 1 + 1 + 1, 1, none⟩ = some (.int .i64 dn) := bD.cell 1
      have bD_2 : World.cell? w3 ⟨w.heap.size + 1 + 1 + 1, 2, none⟩ = some (.int .i64 da) := bD.cell 2
      have bD_3 : World.cell? w3 ⟨w.heap.size + 1 + 1 + 1, 3, none⟩ = some (.int .i64 db) := bD.cell 3
      have bD_4 : World.cell? w3 ⟨w.heap.size + 1 + 1 + 1, 4, none⟩ = some (.int .i64 dt) := bD.cell 4
      have bD_l := bD.lt
      go_wp2_with fail
      clear bM_0 bM_1 bM_l
      clear bP_0 bP_1 bP_2 bP_l
      clear bC_0 bC_1 bC_2 bC_3 bC_4 bC_l
      clear bD_0 bD_1 bD_2 bD_3 bD_4 bD_l
      have box := Box.new w3 52 #[.slice sx A.al.length cx, .int .i64 A.next]
      have hx3 : Ext w3 (World.alloc w3 (.cells #[.slice sx A.al.length cx, .int .i64 A.next] 52)) := (Ext.refl _).alloc _
      obtain ⟨w3b, hw3⟩ : ∃ x, World.alloc w3 (.cells #[.slice sx A.al.length cx, .int .i64 A.next] 52) = x := ⟨_, rfl⟩
      rw [hw3] at box hx3 ⊢
      clear hw3
      replace bM := bM.ext hx3
      replace bP := bP.ext hx3
      replace bC := bC.ext hx3
      replace bD := bD.ext hx3
      replace hL := hL.ext hx3
      replace hx := hx.ext hx3
      have hF3 := Ext.trans (hF2) hx3
      refine (same_zero27 u2.out hx).mono ?_
      rintro e w5 ⟨rfl, hE4⟩
      replace bM := bM.ext hE4
      replace bP := bP.ext hE4
      replace bC := bC.ext hE4
      replace bD := bD.ext hE4
      replace hL := hL.ext hE4
      replace hx := hx.ext hE4
      replace box := box.ext hE4
      have hF4 := Ext.trans (hF3) hE4
      go_wp2
      go_ret
      exact ⟨rfl, hF4⟩
    · replace h1 := Lib.hid h1
      replace u2 := Lib.hid u2
      clear h2 h3
      go_enter Try.func7, Try.ntmps7
      have bM_0 : World.cell? (World.alloc (World.alloc (World.alloc (World.alloc w (.cells #[.slice a m.al.length cp, .int .i64 m.next] 52)) (.cells #[.int .i64 pa, .int .i64 po, .int .i64 pt] 46)) (.cells #[.int .u8 ck, .int .i64 cn, .int .i64 ca, .int .i64 cb, .int .i64 ct] 48)) (.cells #[.int .u8 dk, .int .i64 dn, .int .i64 da, .int .i64 db, .int .i64 dt] 48)) ⟨w.heap.size, 0, none⟩ = some (.slice a m.al.length cp) := bM.cell 0
      have bM_1 : World.cell? (World.alloc (World.alloc (World.alloc (World.alloc w (.cells #[.slice a m.al.length cp, .int .i64 m.next] 52)) (.cells #[.int .i64 pa, .int .i64 po, .int .i64 pt] 46)) (.cells #[.int .u8 ck, .int .i64 cn, .int .i64 ca, .int .i64 cb, .int .i64 ct] 48)) (.cells #[.int .u8 dk, .int .i64 dn, .int .i64 da, .int .i64 db, .int .i64 dt] 48)) ⟨w.heap.size, 1, none⟩ = some (.int .i64 m.next) := bM.cell 1
      have bM_l := bM.lt
      have bP_0 : World.cell? (World.alloc (World.alloc (World.alloc (World.alloc w (.cells #[.slice a m.al.length cp, .int .i64 m.next] 52)) (.cells #[.int .i64 pa, .int .i64 po, .int .i64 pt] 46)) (.cells #[.int .u8 ck, .int .i64 cn, .int .i64 ca, .int .i64 cb, .int .i64 ct] 48)) (.cells #[.int .u8 dk, .int .i64 dn, .int .i64 da, .int .i64 db, .int .i64 dt] 48)) ⟨w.heap.size + 1, 0, none⟩ = some (.int .i64 pa) := bP.cell 0
      have bP_1 : World.cell? (World.alloc (World.alloc (World.alloc (World.alloc w (.cells #[.slice a m.al.length cp, .int .i64 m.next] 52)) (.cells #[.int .i64 pa, .int .i64 po, .int .i64 pt] 46)) (.cells #[.int .u8 ck, .int .i64 cn, .int .i64 ca, .int .i64 cb, .int .i64 ct] 48)) (.cells #[.int .u8 dk, .int .i64 dn, .int .i64 da, .int .i64 db, .int .i64 dt] 48)) ⟨w.heap.size + 1, 1, none⟩ = some (.int .i64 po) := bP.cell 1
      have bP_2 : World.cell? (World.alloc (World.alloc (World.alloc (World.alloc w (.cells #[.slice a m.al.length cp, .int .i64 m.next] 52)) (.cells #[.int .i64 pa, .int .i64 po, .int .i64 pt] 46)) (.cells #[.int .u8 ck, .int .i64 cn, .int .i64 ca, .int .i64 cb, .int .i64 ct] 48)) (.cells #[.int .u8 dk, .int .i64 dn, .int .i64 da, .int .i64 db, .int .i64 dt] 48)) ⟨w.heap.size + 1, 2, none⟩ = some (.int .i64 pt) := bP.cell 2
      have bP_l := bP.lt
      have bC_0 : World.cell? (World.alloc (World.alloc (World.alloc (World.alloc w (.cells #[.slice a m.al.length cp, .int .i64 m.next] 52)) (.cells #[.int .i64 pa, .int .i64 po, .int .i64 pt] 46)) (.cells #[.int .u8 ck, .int .i64 cn, .int .i64 ca, .int .i64 cb, .int .i64 ct] 48)) (.cells #[.int .u8 dk, .int .i64 dn, .int .i64 da, .int .i64 db, .int .i64 dt] 48)) ⟨w.heap.size + 1 + 1, 0, none⟩ = some (.int .u8 ck) := bC.cell 0
      have bC_1 : World.cell? (World.alloc (World.alloc (World.alloc (World.alloc w (.cells #[.slice a m.al.length cp, .int .i64 m.next] 52)) (.cells #[.int .i64 pa, .int .i64 po, .int .i64 pt] 46)) (.cells #[.int .u8 ck, .int .i64 cn, .int .i64 ca, .int .i64 cb, .int .i64 ct] 48)) (.cells #[.int .u8 dk, .int .i64 dn, .int .i64 da, .int .i64 db, .int .i64 dt] 48)) ⟨w.heap.size + 1 + 1, 1, none⟩ = some (.int .i64 cn) := bC.cell 1
      have bC_2 : World.cell? (World.alloc (World.alloc (World.alloc (World.alloc w (.cells #[.slice a m.al.length cp, .int .i64 m.next] 52)) (.cells #[.int .i64 pa, .int .i64 po, .int .i64 pt] 46)) (.cells #[.int .u8 ck, .int .i64 cn, .int .i64 ca, .int .i64 cb, .int .i64 ct] 48)) (.cells #[.int .u8 dk, .int .i64 dn, .int .i64 da, .int .i64 db, .int .i64 dt] 48)) ⟨w.heap.size + 1 + 1, 2, none⟩ = some (.int .i64 ca) := bC.cell 2
      have bC_3 : World.cell? (World.alloc (World.alloc (World.alloc (World.alloc w (.cells #[.slice a m.al.length cp, .int .i64 m.next] 52)) (.cells #[.int .i64 pa, .int .i64 po, .int .i64 pt] 46)) (.cells #[.int .u8 ck, .int .i64 cn, .int .i64 ca, .int .i64 cb, .int .i64 ct] 48)) (.cells #[.int .u8 dk, .int .i64 dn, .int .i64 da, .int .i64 db, .int .i64 dt] 48)) ⟨w.heap.size + 1 + 1, 3, none⟩ = some (.int .i64 cb) := bC.cell 3
      have bC_4 : World.cell? (World.alloc (World.alloc (World.alloc (World.alloc w (.cells #[.slice a m.al.length cp, .int .i64 m.next] 52)) (.cells #[.int .i64 pa, .int .i64 po, .int .i64 pt] 46)) (.cells #[.int .u8 ck, .int .i64 cn, .int .i64 ca, .int .i64 cb, .int .i64 ct] 48)) (.cells #[.int .u8 dk, .int .i64 dn, .int .i64 da, .int .i64 db, .int .i64 dt] 48)) ⟨w.heap.size + 1 + 1, 4, none⟩ = some (.int .i64 ct) := bC.cell 4
      have bC_l := bC.lt
      have bD_0 : World.cell? (World.alloc (World.alloc (World.alloc (World.alloc w (.cells #[.slice a m.al.length cp, .int .i64 m.next] 52)) (.cells #[.int .i64 pa, .int .i64 po, .int .i64 pt] 46)) (.cells #[.int .u8 ck, .int .i64 cn, .int .i64 ca, .int .i64 cb, .int .i64 ct] 48)) (.cells #[.int .u8 dk, .int .i64 dn, .int .i64 da, .int .i64 db, .int .i64 dt] 48)) ⟨w.heap.size + 1 + 1 + 1, 0, none⟩ = some (.int .u8 dk) := bD.cell 0
      have bD_1 : World.cell? (World.alloc (World.alloc (World.alloc (World.alloc w (.cells #[.slice a m.al.length cp, .int .i64 m.next] 52)) (.cells #[.int .i64 pa, .int .i64 po, .int .i64 pt] 46)) (.cells #[.int .u8 ck, .int .i64 cn, .int .i64 ca, .int .i64 cb, .int .i64 ct] 48)) (.cells #[.int .u8 dk, .int .i64 dn, .int .i64 da, .int .i64 db, .int .i64 dt] 48)) ⟨w.heap.size + 1 + 1 + 1, 1, none⟩ = some (.int .i64 dn) := bD.cell 1
      have bD_2 : World.cell? (World.alloc (World.alloc (World.alloc (World.alloc w (.cells #[.slice a m.al.length cp, .int .i64 m.next] 52)) (.cells #[.int .i64 pa, .int .i64 po, .int .i64 pt] 46)) (.cells #[.int .u8 ck, .int .i64 cn, .int .i64 ca, .int .i64 cb, .int .i64 ct] 48)) (.cells #[.int .u8 dk, .int .i64 dn, .int .i64 da, .int .i64 db, .int .i64 dt] 48)) ⟨w.heap.size + 1 + 1 + 1, 2, none⟩ = some (.int .i64 da) := bD.cell 2
      have bD_3 : World.cell? (World.alloc (World.alloc (World.alloc (World.alloc w (.cells #[.slice a m.al.length cp, .int .i64 m.next] 52)) (.cells #[.int .i64 pa, .int .i64 po, .int .i64 pt] 46)) (.cells #[.int .u8 ck, .int .i64 cn, .int .i64 ca, .int .i64 cb, .int .i64 ct] 48)) (.cells #[.int .u8 dk, .int .i64 dn, .int .i64 da, .int .i64 db, .int .i64 dt] 48)) ⟨w.heap.size + 1 + 1 + 1, 3, none⟩ = some (.int .i64 db) := bD.cell 3
      have bD_4 : World.cell? (World.alloc (World.alloc (World.alloc (World.alloc w (.cells #[.slice a m.al.length cp, .int .i64 m.next] 52)) (.cells #[.int .i64 pa, .int .i64 po, .int .i64 pt] 46)) (.cells #[.int .u8 ck, .int .i64 cn, .int .i64 ca, .int .i64 cb, .int .i64 ct] 48)) (.cells #[.int .u8 dk, .int .i64 dn, .int .i64 da, .int .i64 db, .int .i64 dt] 48)) ⟨w.heap.size + 1 + 1 + 1, 4, none⟩ = some (.int .i64 dt) := bD.cell 4
      have bD_l := bD.lt
      go_wp2_with fail
      clear bM_0 bM_1 bM_l
      clear bP_0 bP_1 bP_2 bP_l
      clear bC_0 bC_1 bC_2 bC_3 bC_4 bC_l
      clear bD_0 bD_1 bD_2 bD_3 bD_4 bD_l
      refine (law27_alive _).mono ?_
      rintro e w1 ⟨rfl, hE0⟩
      replace bM := bM.ext hE0
      replace bP := bP.ext hE0
      replace bC := bC.ext hE0
      replace bD := bD.ext hE0
      replace hL := hL.ext hE0
      have hF0 := Ext.trans (hF) hE0
      have bM_0 : World.cell? w1 ⟨w.heap.size, 0, none⟩ = some (.slice a m.al.length cp) := bM.cell 0
      have bM_1 : World.cell? w1 ⟨w.heap.size, 1, none⟩ = some (.int .i64 m.next) := bM.cell 1
      have bM_l := bM.lt
      have bP_0 : World.cell? w1 ⟨w.heap.size + 1, 0, none⟩ = some (.int .i64 pa) := bP.cell 0
      have bP_1 : World.cell? w1 ⟨w.heap.size + 1, 1, none⟩ = some (.int .i64 po) := bP.cell 1
      have bP_2 : World.cell? w1 ⟨w.heap.size + 1, 2, none⟩ = some (.int .i64 pt) := bP.cell 2
      have bP_l := bP.lt
      have bC_0 : World.cell? w1 ⟨w.heap.size + 1 + 1, 0, none⟩ = some (.int .u8 ck) := bC.cell 0
      have bC_1 : World.cell? w1 ⟨w.heap.size + 1 + 1, 1, none⟩ = some (.int .i64 cn) := bC.cell 1
      have bC_2 : World.cell? w1 ⟨w.heap.size + 1 + 1, 2, none⟩ = some (.int .i64 ca) := bC.cell 2
      have bC_3 : World.cell? w1 ⟨w.heap.size + 1 + 1, 3, none⟩ = some (.int .i64 cb) := bC.cell 3
      have bC_4 : World.cell? w1 ⟨w.heap.size + 1 + 1, 4, none⟩ = some (.int .i64 ct) := bC.cell 4
      have bC_l := bC.lt
      have bD_0 : World.cell? w1 ⟨w.heap.size + 1 + 1 + 1, 0, none⟩ = some (.int .u8 dk) := bD.cell 0
      have bD_1 : World.cell? w1 ⟨w.heap.size + 1 + 1 + 1, 1, none⟩ = some (.int .i64 dn) := bD.cell 1
      have bD_2 : World.cell? w1 ⟨w.heap.size + 1 + 1 + 1, 2, none⟩ = some (.int .i64 da) := bD.cell 2
      have bD_3 : World.cell? w1 ⟨w.heap.size + 1 + 1 + 1, 3, none⟩ = some (.int .i64 db) := bD.cell 3
      have bD_4 : World.cell? w1 ⟨w.heap.size + 1 + 1 + 1, 4, none⟩ = some (.int .i64 dt) := bD.cell 4
      have bD_l := bD.lt
      go_wp2_with fail
      clear bM_0 bM_1 bM_l
      clear bP_0 bP_1 bP_2 bP_l
      clear bC_0 bC_1 bC_2 bC_3 bC_4 bC_l
      clear bD_0 bD_1 bD_2 bD_3 bD_4 bD_l
      refine (ref26_Great hL).mono ?_
      rintro e w2 ⟨rfl, hE1⟩
      replace bM := bM.ext hE1
      replace bP := bP.ext hE1
      replace bC := bC.ext hE1
      replace bD := bD.ext hE1
      replace hL := hL.ext hE1
      have hF1 := Ext.trans (hF0) hE1
      rw [hg'.out]
      have bM_0 : World.cell? w2 ⟨w.heap.size, 0, none⟩ = some (.slice a m.al.length cp) := bM.cell 0
      have bM_1 : World.cell? w2 ⟨w.heap.size, 1, none⟩ = some (.int .i64 m.next) := bM.cell 1
      have bM_l := bM.lt
      have bP_0 : World.cell? w2 ⟨w.heap.size + 1, 0, none⟩ = some (.int .i64 pa) := bP.cell 0
      have bP_1 : World.cell? w2 ⟨w.heap.size + 1, 1, none⟩ = some (.int .i64 po) := bP.cell 1
      have bP_2 : World.cell? w2 ⟨w.heap.size + 1, 2, none⟩ = some (.int .i64 pt) := bP.cell 2
      have bP_l := bP.lt
      have bC_0 : World.cell? w2 ⟨w.heap.size + 1 + 1, 0, none⟩ = some (.int .u8 ck) := bC.cell 0
      have bC_1 : World.cell? w2 ⟨w.heap.size + 1 + 1, 1, none⟩ = some (.int .i64 cn) := bC.cell 1
      have bC_2 : World.cell? w2 ⟨w.heap.size + 1 + 1, 2, none⟩ = some (.int .i64 ca) := bC.cell 2
      have bC_3 : World.cell? w2 ⟨w.heap.size + 1 + 1, 3, none⟩ = some (.int .i64 cb) := bC.cell 3
      have bC_4 : World.cell? w2 ⟨w.heap.size + 1 + 1, 4, none⟩ = some (.int .i64 ct) := bC.cell 4
      have bC_l := bC.lt
      have bD_0 : World.cell? w2 ⟨w.heap.size + 1 + 1 + 1, 0, none⟩ = some (.int .u8 dk) := bD.cell 0
      have bD_1 : World.cell? w2 ⟨w.heap.size + 1 + 1 + 1, 1, none⟩ = some (.int .i64 dn) := bD.cell 1
      have bD_2 : World.cell? w2 ⟨w.heap.size + 1 + 1 + 1, 2, none⟩ = some (.int .i64 da) := bD.cell 2
      have bD_3 : World.cell? w2 ⟨w.heap.size + 1 + 1 + 1, 3, none⟩ = some (.int .i64 db) := bD.cell 3
      have bD_4 : World.cell? w2 ⟨w.heap.size + 1 + 1 + 1, 4, none⟩ = some (.int .i64 dt) := bD.cell 4
      have bD_l := bD.lt
      go_wp2_with fail
      clear bM_0 bM_1 bM_l
      clear bP_0 bP_1 bP_2 bP_l
      clear bC_0 bC_1 bC_2 bC_3 bC_4 bC_l
      clear bD_0 bD_1 bD_2 bD_3 bD_4 bD_l
      refine (cells_Store (m := m) ⟨pa, po, pt⟩ ⟨ck, cn, ca, cb, ct⟩ hL hn).mono ?_
      rintro e w3 ⟨vx, rfl, fx, hE2⟩
      replace bM := bM.ext hE2
      replace bP := bP.ext hE2
      replace bC := bC.ext hE2
      replace bD := bD.ext hE2
      replace hL := hL.ext hE2
      have hF2 := Ext.trans (hF1) hE2
      rw [h1.out] at fx
      rw [h1.out]
      obtain ⟨vx', rfl, hx⟩ := FrM.read fx
      obtain ⟨sx, cx, rfl, -⟩ := hx.form
      clear fx
      dsimp only
      have bM_0 : World.cell? w3 ⟨w.heap.size, 0, none⟩ = some (.slice a m.al.length cp) := bM.cell 0
      have bM_1 : World.cell? w3 ⟨w.heap.size, 1, none⟩ = some (.int .i64 m.next) := bM.cell 1
      have bM_l := bM.lt
      have bP_0 : World.cell? w3 ⟨w.heap.size + 1, 0, none⟩ = some (.int .i64 pa) := bP.cell 0
      have bP_1 : World.cell? w3 ⟨w.heap.size + 1, 1, none⟩ = some (.int .i64 po) := bP.cell 1
      have bP_2 : World.cell? w3 ⟨w.heap.size + 1, 2, none⟩ = some (.int .i64 pt) := bP.cell 2
      have bP_l := bP.lt
      have bC_0 : World.cell? w3 ⟨w.heap.size + 1 + 1, 0, none⟩ = some (.int .u8 ck) := bC.cell 0
      have bC_1 : World.cell? w3 ⟨w.heap.size + 1 + 1, 1, none⟩ = some (.int .i64 cn) := bC.cell 1
      have bC_2 : World.cell? w3 ⟨w.heap.size + 1 + 1, 2, none⟩ = some (.int .i64 ca) := bC.cell 2
      have bC_3 : World.cell? w3 ⟨w.heap.size + 1 + 1, 3, none⟩ = some (.int .i64 cb) := bC.cell 3
      have bC_4 : World.cell? w3 ⟨w.heap.size + 1 + 1, 4, none⟩ = some (.int .i64 ct) := bC.cell 4
      have bC_l := bC.lt
      have bD_0 : World.cell? w3 ⟨w.heap.size + 1 + 1 + 1, 0, none⟩ = some (.int .u8 dk) := bD.cell 0
      have bD_1 : World.cell? w3 ⟨w.heap.size + 1 + 1 + 1, 1, none⟩ = some (.int .i64 dn) := bD.cell 1
      have bD_2 : World.cell? w3 ⟨w.heap.size + 1 + 1 + 1, 2, none⟩ = some (.int .i64 da) := bD.cell 2
      have bD_3 : World.cell? w3 ⟨w.heap.size + 1 + 1 + 1, 3, none⟩ = some (.int .i64 db) := bD.cell 3
      have bD_4 : World.cell? w3 ⟨w.heap.size + 1 + 1 + 1, 4, none⟩ = some (.int .i64 dt) := bD.cell 4
      have bD_l := bD.lt
      go_wp2_with fail
      clear bM_0 bM_1 bM_l
      clear bP_0 bP_1 bP_2 bP_l
      clear bC_0 bC_1 bC_2 bC_3 bC_4 bC_l
      clear bD_0 bD_1 bD_2 bD_3 bD_4 bD_l
      have box := Box.new w3 52 #[.slice sx A.al.length cx, .int .i64 A.next]
      have hx3 : Ext w3 (World.alloc w3 (.cells #[.slice sx A.al.length cx, .int .i64 A.next] 52)) := (Ext.refl _).alloc _
      obtain ⟨w3b, hw3⟩ : ∃ x, World.alloc w3 (.cells #[.slice sx A.al.length cx, .int .i64 A.next] 52) = x := ⟨_, rfl⟩
      rw [hw3] at box hx3 ⊢
      clear hw3
      replace bM := bM.ext hx3
      replace bP := bP.ext hx3
      replace bC := bC.ext hx3
      replace bD := bD.ext hx3
      replace hL := hL.ext hx3
      replace hx := hx.ext hx3
      have hF3 := Ext.trans (hF2) hx3
      refine (same_zero27 u2.out hx).mono ?_
      rintro e w5 ⟨rfl, hE4⟩
      replace bM := bM.ext hE4
      replace bP := bP.ext hE4
      replace bC := bC.ext hE4
      replace bD := bD.ext hE4
      replace hL := hL.ext hE4
      replace hx := hx.ext hE4
      replace box := box.ext hE4
      have hF4 := Ext.trans (hF3) hE4
      go_wp2
      go_ret
      exact ⟨rfl, hF4⟩
    · exact absurd ⟨hg'.out, by rw [h1], by rw [h1]⟩ hsel.out
  · have hg' := Lib.hid hg
    clear hg h1 h2 h3
    go_enter Try.func7, Try.ntmps7
    have bM_0 : World.cell? (World.alloc (World.alloc (World.alloc (World.alloc w (.cells #[.slice a m.al.length cp, .int .i64 m.next] 52)) (.cells #[.int .i64 pa, .int .i64 po, .int .i64 pt] 46)) (.cells #[.int .u8 ck, .int .i64 cn, .int .i64 ca, .int .i64 cb, .int .i64 ct] 48)) (.cells #[.int .u8 dk, .int .i64 dn, .int .i64 da, .int .i64 db, .int .i64 dt] 48)) ⟨w.heap.size, 0, none⟩ = some (.slice a m.al.length cp) := bM.cell 0
    have bM_1 : World.cell? (World.alloc (World.alloc (World.alloc (World.alloc w (.cells #[.slice a m.al.length cp, .int .i64 m.next] 52)) (.cells #[.int .i64 pa, .int .i64 po, .int .i64 pt] 46)) (.cells #[.int .u8 ck, .int .i64 cn, .int .i64 ca, .int .i64 cb, .int .i64 ct] 48)) (.cells #[.int .u8 dk, .int .i64 dn, .int .i64 da, .int .i64 db, .int .i64 dt] 48)) ⟨w.heap.size, 1, none⟩ = some (.int .i64 m.next) := bM.cell 1
    have bM_l := bM.lt
    have bP_0 : World.cell? (World.alloc (World.alloc (World.alloc (World.alloc w (.cells #[.slice a m.al.length cp, .int .i64 m.next] 52)) (.cells #[.int .i64 pa, .int .i64 po, .int .i64 pt] 46)) (.cells #[.int .u8 ck, .int .i64 cn, .int .i64 ca, .int .i64 cb, .int .i64 ct] 48)) (.cells #[.int .u8 dk, .int .i64 dn, .int .i64 da, .int .i64 db, .int .i64 dt] 48)) ⟨w.heap.size + 1, 0, none⟩ = some (.int .i64 pa) := bP.cell 0
    have bP_1 : World.cell? (World.alloc (World.alloc (World.alloc (World.alloc w (.cells #[.slice a m.al.length cp, .int .i64 m.next] 52)) (.cells #[.int .i64 pa, .int .i64 po, .int .i64 pt] 46)) (.cells #[.int .u8 ck, .int .i64 cn, .int .i64 ca, .int .i64 cb, .int .i64 ct] 48)) (.cells #[.int .u8 dk, .int .i64 dn, .int .i64 da, .int .i64 db, .int .i64 dt] 48)) ⟨w.heap.size + 1, 1, none⟩ = some (.int .i64 po) := bP.cell 1
    have bP_2 : World.cell? (World.alloc (World.alloc (World.alloc (World.alloc w (.cells #[.slice a m.al.length cp, .int .i64 m.next] 52)) (.cells #[.int .i64 pa, .int .i64 po, .int .i64 pt] 46)) (.cells #[.int .u8 ck, .int .i64 cn, .int .i64 ca, .int .i64 cb, .int .i64 ct] 48)) (.cells #[.int .u8 dk, .int .i64 dn, .int .i64 da, .int .i64 db, .int .i64 dt] 48)) ⟨w.heap.size + 1, 2, none⟩ = some (.int .i64 pt) := bP.cell 2
    have bP_l := bP.lt
    have bC_0 : World.cell? (World.alloc (World.alloc (World.alloc (World.alloc w (.cells #[.slice a m.al.length cp, .int .i64 m.next] 52)) (.cells #[.int .i64 pa, .int .i64 po, .int .i64 pt] 46)) (.cells #[.int .u8 ck, .int .i64 cn, .int .i64 ca, .int .i64 cb, .int .i64 ct] 48)) (.cells #[.int .u8 dk, .int .i64 dn, .int .i64 da, .int .i64 db, .int .i64 dt] 48)) ⟨w.heap.size + 1 + 1, 0, none⟩ = some (.int .u8 ck) := bC.cell 0
    have bC_1 : World.cell? (World.alloc (World.alloc (World.alloc (World.alloc w (.cells #[.slice a m.al.length cp, .int .i64 m.next] 52)) (.cells #[.int .i64 pa, .int .i64 po, .int .i64 pt] 46)) (.cells #[.int .u8 ck, .int .i64 cn, .int .i64 ca, .int .i64 cb, .int .i64 ct] 48)) (.cells #[.int .u8 dk, .int .i64 dn, .int .i64 da, .int .i64 db, .int .i64 dt] 48)) ⟨w.heap.size + 1 + 1, 1, none⟩ = some (.int .i64 cn) := bC.cell 1
    have bC_2 : World.cell? (World.alloc (World.alloc (World.alloc (World.alloc w (.cells #[.slice a m.al.length cp, .int .i64 m.next] 52)) (.cells #[.int .i64 pa, .int .i64 po, .int .i64 pt] 46)) (.cells #[.int .u8 ck, .int .i64 cn, .int .i64 ca, .int .i64 cb, .int .i64 ct] 48)) (.cells #[.int .u8 dk, .int .i64 dn, .int .i64 da, .int .i64 db, .int .i64 dt] 48)) ⟨w.heap.size + 1 + 1, 2, none⟩ = some (.int .i64 ca) := bC.cell 2
    have bC_3 : World.cell? (World.alloc (World.alloc (World.alloc (World.alloc w (.cells #[.slice a m.al.length cp, .int .i64 m.next] 52)) (.cells #[.int .i64 pa, .int .i64 po, .int .i64 pt] 46)) (.cells #[.int .u8 ck, .int .i64 cn, .int .i64 ca, .int .i64 cb, .int .i64 ct] 48)) (.cells #[.int .u8 dk, .int .i64 dn, .int .i64 da, .int .i64 db, .int .i64 dt] 48)) ⟨w.heap.size + 1 + 1, 3, none⟩ = some (.int .i64 cb) := bC.cell 3
    have bC_4 : World.cell? (World.alloc (World.alloc (World.alloc (World.alloc w (.cells #[.slice a m.al.length cp, .int .i64 m.next] 52)) (.cells #[.int .i64 pa, .int .i64 po, .int .i64 pt] 46)) (.cells #[.int .u8 ck, .int .i64 cn, .int .i64 ca, .int .i64 cb, .int .i64 ct] 48)) (.cells #[.int .u8 dk, .int .i64 dn, .int .i64 da, .int .i64 db, .int .i64 dt] 48)) ⟨w.heap.size + 1 + 1, 4, none⟩ = some (.int .i64 ct) := bC.cell 4
    have bC_l := bC.lt
    have bD_0 : World.cell? (World.alloc (World.alloc (World.alloc (World.alloc w (.cells #[.slice a m.al.length cp, .int .i64 m.next] 52)) (.cells #[.int .i64 pa, .int .i64 po, .int .i64 pt] 46)) (.cells #[.int .u8 ck, .int .i64 cn, .int .i64 ca, .int .i64 cb, .int .i64 ct] 48)) (.cells #[.int .u8 dk, .int .i64 dn, .int .i64 da, .int .i64 db, .int .i64 dt] 48)) ⟨w.heap.size + 1 + 1 + 1, 0, none⟩ = some (.int .u8 dk) := bD.cell 0
    have bD_1 : World.cell? (World.alloc (World.alloc (World.alloc (World.alloc w (.cells #[.slice a m.al.length cp, .int .i64 m.next] 52)) (.cells #[.int .i64 pa, .int .i64 po, .int .i64 pt] 46)) (.cells #[.int .u8 ck, .int .i64 cn, .int .i64 ca, .int .i64 cb, .int .i64 ct] 48)) (.cells #[.int .u8 dk, .int .i64 dn, .int .i64 da, .int .i64 db, .int .i64 dt] 48)) ⟨w.heap.size + 1 + 1 + 1, 1, none⟩ = some (.int .i64 dn) := bD.cell 1
    have bD_2 : World.cell? (World.alloc (World.alloc (World.alloc (World.alloc w (.cells #[.slice a m.al.length cp, .int .i64 m.next] 52)) (.cells #[.int .i64 pa, .int .i64 po, .int .i64 pt] 46)) (.cells #[.int .u8 ck, .int .i64 cn, .int .i64 ca, .int .i64 cb, .int .i64 ct] 48)) (.cells #[.int .u8 dk, .int .i64 dn, .int .i64 da, .int .i64 db, .int .i64 dt] 48)) ⟨w.heap.size + 1 + 1 + 1, 2, none⟩ = some (.int .i64 da) := bD.cell 2
    have bD_3 : World.cell? (World.alloc (World.alloc (World.alloc (World.alloc w (.cells #[.slice a m.al.length cp, .int .i64 m.next] 52)) (.cells #[.int .i64 pa, .int .i64 po, .int .i64 pt] 46)) (.cells #[.int .u8 ck, .int .i64 cn, .int .i64 ca, .int .i64 cb, .int .i64 ct] 48)) (.cells #[.int .u8 dk, .int .i64 dn, .int .i64 da, .int .i64 db, .int .i64 dt] 48)) ⟨w.heap.size + 1 + 1 + 1, 3, none⟩ = some (.int .i64 db) := bD.cell 3
    have bD_4 : World.cell? (World.alloc (World.alloc (World.alloc (World.alloc w (.cells #[.slice a m.al.length cp, .int .i64 m.next] 52)) (.cells #[.int .i64 pa, .int .i64 po, .int .i64 pt] 46)) (.cells #[.int .u8 ck, .int .i64 cn, .int .i64 ca, .int .i64 cb, .int .i64 ct] 48)) (.cells #[.int .u8 dk, .int .i64 dn, .int .i64 da, .int .i64 db, .int .i64 dt] 48)) ⟨w.heap.size + 1 + 1 + 1, 4, none⟩ = some (.int .i64 dt) := bD.cell 4
    have bD_l := bD.lt
    go_wp2_with fail
    clear bM_0 bM_1 bM_l
    clear bP_0 bP_1 bP_2 bP_l
    clear bC_0 bC_1 bC_2 bC_3 bC_4 bC_l
    clear bD_0 bD_1 bD_2 bD_3 bD_4 bD_l
    refine (law27_alive _).mono ?_
    rintro e w1 ⟨rfl, hE0⟩
    replace bM := bM.ext hE0
    replace bP := bP.ext hE0
    replace bC := bC.ext hE0
    replace bD := bD.ext hE0
    replace hL := hL.ext hE0
    have hF0 := Ext.trans (hF) hE0
    have bM_0 : World.cell? w1 ⟨w.heap.size, 0, none⟩ = some (.slice a m.al.length cp) := bM.cell 0
    have bM_1 : World.cell? w1 ⟨w.heap.size, 1, none⟩ = some (.int .i64 m.next) := bM.cell 1
    have bM_l := bM.lt
    have bP_0 : World.cell? w1 ⟨w.heap.size + 1, 0, none⟩ = some (.int .i64 pa) := bP.cell 0
    have bP_1 : World.cell? w1 ⟨w.heap.size + 1, 1, none⟩ = some (.int .i64 po) := bP.cell 1
    have bP_2 : World.cell? w1 ⟨w.heap.size + 1, 2, none⟩ = some (.int .i64 pt) := bP.cell 2
    have bP_l := bP.lt
    have bC_0 : World.cell? w1 ⟨w.heap.size + 1 + 1, 0, none⟩ = some (.int .u8 ck) := bC.cell 0
    have bC_1 : World.cell? w1 ⟨w.heap.size + 1 + 1, 1, none⟩ = some (.int .i64 cn) := bC.cell 1
    have bC_2 : World.cell? w1 ⟨w.heap.size + 1 + 1, 2, none⟩ = some (.int .i64 ca) := bC.cell 2
    have bC_3 : World.cell? w1 ⟨w.heap.size + 1 + 1, 3, none⟩ = some (.int .i64 cb) := bC.cell 3
    have bC_4 : World.cell? w1 ⟨w.heap.size + 1 + 1, 4, none⟩ = some (.int .i64 ct) := bC.cell 4
    have bC_l := bC.lt
    have bD_0 : World.cell? w1 ⟨w.heap.size + 1 + 1 + 1, 0, none⟩ = some (.int .u8 dk) := bD.cell 0
    have bD_1 : World.cell? w1 ⟨w.heap.size + 1 + 1 + 1, 1, none⟩ = some (.int .i64 dn) := bD.cell 1
    have bD_2 : World.cell? w1 ⟨w.heap.size + 1 + 1 + 1, 2, none⟩ = some (.int .i64 da) := bD.cell 2
    have bD_3 : World.cell? w1 ⟨w.heap.size + 1 + 1 + 1, 3, none⟩ = some (.int .i64 db) := bD.cell 3
    have bD_4 : World.cell? w1 ⟨w.heap.size + 1 + 1 + 1, 4, none⟩ = some (.int .i64 dt) := bD.cell 4
    have bD_l := bD.lt
    go_wp2_with fail
    clear bM_0 bM_1 bM_l
    clear bP_0 bP_1 bP_2 bP_l
    clear bC_0 bC_1 bC_2 bC_3 bC_4 bC_l
    clear bD_0 bD_1 bD_2 bD_3 bD_4 bD_l
    refine (ref26_Great hL).mono ?_
    rintro e w2 ⟨rfl, hE1⟩
    replace bM := bM.ext hE1
    replace bP := bP.ext hE1
    replace bC := bC.ext hE1
    replace bD := bD.ext hE1
    replace hL := hL.ext hE1
    have hF1 := Ext.trans (hF0) hE1
    rw [hg'.out]
    have bM_0 : World.cell? w2 ⟨w.heap.size, 0, none⟩ = some (.slice a m.al.length cp) := bM.cell 0
    have bM_1 : World.cell? w2 ⟨w.heap.size, 1, none⟩ = some (.int .i64 m.next) := bM.cell 1
    have bM_l := bM.lt
    have bP_0 : World.cell? w2 ⟨w.heap.size + 1, 0, none⟩ = some (.int .i64 pa) := bP.cell 0
    have bP_1 : World.cell? w2 ⟨w.heap.size + 1, 1, none⟩ = some (.int .i64 po) := bP.cell 1
    have bP_2 : World.cell? w2 ⟨w.heap.size + 1, 2, none⟩ = some (.int .i64 pt) := bP.cell 2
    have bP_l := bP.lt
    have bC_0 : World.cell? w2 ⟨w.heap.size + 1 + 1, 0, none⟩ = some (.int .u8 ck) := bC.cell 0
    have bC_1 : World.cell? w2 ⟨w.heap.size + 1 + 1, 1, none⟩ = some (.int .i64 cn) := bC.cell 1
    have bC_2 : World.cell? w2 ⟨w.heap.size + 1 + 1, 2, none⟩ = some (.int .i64 ca) := bC.cell 2
    have bC_3 : World.cell? w2 ⟨w.heap.size + 1 + 1, 3, none⟩ = some (.int .i64 cb) := bC.cell 3
    have bC_4 : World.cell? w2 ⟨w.heap.size + 1 + 1, 4, none⟩ = some (.int .i64 ct) := bC.cell 4
    have bC_l := bC.lt
    have bD_0 : World.cell? w2 ⟨w.heap.size + 1 + 1 + 1, 0, none⟩ = some (.int .u8 dk) := bD.cell 0
    have bD_1 : World.cell? w2 ⟨w.heap.size + 1 + 1 + 1, 1, none⟩ = some (.int .i64 dn) := bD.cell 1
    have bD_2 : World.cell? w2 ⟨w.heap.size + 1 + 1 + 1, 2, none⟩ = some (.int .i64 da) := bD.cell 2
    have bD_3 : World.cell? w2 ⟨w.heap.size + 1 + 1 + 1, 3, none⟩ = some (.int .i64 db) := bD.cell 3
    have bD_4 : World.cell? w2 ⟨w.heap.size + 1 + 1 + 1, 4, none⟩ = some (.int .i64 dt) := bD.cell 4
    have bD_l := bD.lt
    go_wp2
    go_ret
    exact ⟨rfl, hF1⟩

set_option maxRecDepth 100000 in
theorem cellsBack_lifted (os : Os) (started : os.Started) (H : Type) (enc : TypeId × Value → H) :
    ReturnsInHanded {} Try.checked os 7 .any (Rows.cellsBackSpec.pre6 enc Try.prog Try.f7 Rows.cellsBackRow.domain false) (Rows.cellsBackSpec.post enc Try.prog Try.f7 false true false false) := by
  refine returnsInHanded_of_change (C := Try.checked) Tryown started (by kernel_rfl) Try.func7
    (ChangeSpec.witness6 (enc := enc) (C := Try.checked) false ⟨#[], #[.agg #[.slice none 0 0, .int .i64 0], .agg #[.int .i64 0, .int .i64 0, .int .i64 0], .agg #[.int .u8 0, .int .i64 0, .int .i64 0, .int .i64 0, .int .i64 0], .agg #[.int .u8 0, .int .i64 0, .int .i64 0, .int .i64 0, .int .i64 0]], []⟩ 8 (by kernel_rfl) (by kernel_rfl) (by kernel_rfl) (by kernel_rfl)) ?_
  intro W base args ds gs before hval0 hW _ _
  have hval : ∀ (j : Nat) t v, Try.f7.params[j]? = some t → args[j]? = some v → Value.okWide Try.prog W .any base t v := hval0
  have hW' := hW
  obtain ⟨p, q, hA0, hV, rfl, hfz, hnd⟩ := hW
  have hA : DataW.TrodAll enc Try.prog W 0 (fun _ => true) true Try.f7.params.toList args.toList ds p := hA0
  rw [Try.params7] at hA hval
  obtain ⟨v0, vs0, d0, ds0, p0, q0, hargs, rfl, rfl, h0, r0⟩ := trodAll_cons hA
  obtain ⟨v1, vs1, d1, ds1, p1, q1, rfl, rfl, rfl, h1, r1⟩ := trodAll_cons r0
  obtain ⟨v2, vs2, d2, ds2, p2, q2, rfl, rfl, rfl, h2, r2⟩ := trodAll_cons r1
  obtain ⟨v3, vs3, d3, ds3, p3, q3, rfl, rfl, rfl, h3, r3⟩ := trodAll_cons r2
  obtain ⟨rfl, rfl, rfl⟩ := trodAll_nil r3
  obtain rfl : args = #[v0, v1, v2, v3] := by cases args; simp_all
  obtain ⟨x0, u0, rfl, k0, wf0⟩ := open_mem (hval 0 52 v0 rfl rfl) h0
  obtain ⟨x1, rfl, wf1⟩ := open_ptrv (hval 1 46 v1 rfl rfl) h1
  obtain ⟨x2, rfl, wf2⟩ := open_cellv (hval 2 48 v2 rfl rfl) h2
  obtain ⟨x3, rfl, wf3⟩ := open_cellv (hval 3 48 v3 rfl rfl) h3
  refine (cellsBack_walk x1 x2 x3 k0 wf0.1).mono fun e W' ⟨he, hb⟩ => ?_
  subst he
  exact ⟨_, rfl, post_law TrylaidOut (tb := 4) rfl Try.underlying4 (by kernel_rfl) rfl (fun ds hd => match ds, hd with | [a0, a1, a2, a3], _ => rfl) hW' hb⟩

theorem cellsBack_holds : Rows.CellsBackSaid :=
  OpenClaim.holds_of_wide 7 Try.f7 rfl rfl rfl rfl rfl rfl rfl ⟨rfl, rfl, rfl, rfl, rfl⟩ rfl rfl rfl rfl rfl (by kernel_rfl) Try.func7 (by kernel_rfl)
    (of_decide_eq_true (by kernel_rfl)) (by unfold Func.isWrapper; first | (rw [if_pos (by decide +kernel)]; kernel_rfl) | (rw [if_neg (by decide +kernel)]; exact ⟨rfl, rfl⟩))
    (fun os started H enc _ => cellsBack_lifted os started H enc)

end Go.Proofs.Ytcnblhlbmpaimaa
