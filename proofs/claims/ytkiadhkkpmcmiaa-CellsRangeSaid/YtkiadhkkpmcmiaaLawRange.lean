/- The statement CellsRange: for every memory, pointer and two cells the call returns true. No condition. -/
import Derived.Test.YtkiadhkkpmcmiaaCelX9
import Derived.Test.YtkiadhkkpmcmiaaCelR
import Derived.Test.YtkiadhkkpmcmiaaReadM
import Derived.Test.YtkiadhkkpmcmiaaClose
import Derived.Deep.DeepCutAuto
namespace Go.Proofs.Ytkiadhkkpmcmiaa
set_option maxRecDepth 100000
open Go.ChangeShapes Go.WideShapes Go.ChangeAt Go.RowKit
set_option linter.unusedVariables false

theorem ref26_Same_zero {X : Mem} {v : Value} {w : World} (h : X = Mem.zero) (hX : Als w v X.al) : Calls Try.prog 26 #[.agg #[v, .int .i64 X.next], .agg #[.slice none 0 0, .int .i64 0]] w fun e w' => e = .returned (.bool true) ∧ Ext w w' := by
  subst h
  exact ref26_Same (l := []) (next := 0) hX (Als.nil _)

set_option maxHeartbeats 12800000 in
theorem cellsRange_walk {m : Mem} {s : Value} {w : World} (p : Ptr) (c d : Cell) (hl : Als w s m.al) (hn : i64B m.next) :
    Calls Try.prog 11 #[.agg #[s, .int .i64 m.next], p.val, c.val, d.val] w fun e w' => e = .returned (.bool true) ∧ Ext w w' := by
  obtain ⟨pa, po, pt⟩ := p
  obtain ⟨ck, cn, ca, cb, ct⟩ := c
  obtain ⟨dk, dn, da, db, dt⟩ := d
  obtain ⟨a, cp, rfl, -⟩ := hl.form
  have hF := ((((Ext.refl w).alloc (.cells #[.slice a m.al.length cp, .int .i64 m.next] 41)).alloc (.cells #[.int .i64 pa, .int .i64 po, .int .i64 pt] 43)).alloc (.cells #[.int .u8 ck, .int .i64 cn, .int .i64 ca, .int .i64 cb, .int .i64 ct] 50)).alloc (.cells #[.int .u8 dk, .int .i64 dn, .int .i64 da, .int .i64 db, .int .i64 dt] 50)
  have hL := hl.ext hF
  have bM := (((Box.new w 41 #[.slice a m.al.length cp, .int .i64 m.next]).ext ((Ext.refl _).alloc (.cells #[.int .i64 pa, .int .i64 po, .int .i64 pt] 43))).ext ((Ext.refl _).alloc (.cells #[.int .u8 ck, .int .i64 cn, .int .i64 ca, .int .i64 cb, .int .i64 ct] 50))).ext ((Ext.refl _).alloc (.cells #[.int .u8 dk, .int .i64 dn, .int .i64 da, .int .i64 db, .int .i64 dt] 50))
  have bP := ((Box.new (World.alloc w (.cells #[.slice a m.al.length cp, .int .i64 m.next] 41)) 43 #[.int .i64 pa, .int .i64 po, .int .i64 pt]).ext ((Ext.refl _).alloc (.cells #[.int .u8 ck, .int .i64 cn, .int .i64 ca, .int .i64 cb, .int .i64 ct] 50))).ext ((Ext.refl _).alloc (.cells #[.int .u8 dk, .int .i64 dn, .int .i64 da, .int .i64 db, .int .i64 dt] 50))
  have bC := (Box.new (World.alloc (World.alloc w (.cells #[.slice a m.al.length cp, .int .i64 m.next] 41)) (.cells #[.int .i64 pa, .int .i64 po, .int .i64 pt] 43)) 50 #[.int .u8 ck, .int .i64 cn, .int .i64 ca, .int .i64 cb, .int .i64 ct]).ext ((Ext.refl _).alloc (.cells #[.int .u8 dk, .int .i64 dn, .int .i64 da, .int .i64 db, .int .i64 dt] 50))
  have bD := Box.new (World.alloc (World.alloc (World.alloc w (.cells #[.slice a m.al.length cp, .int .i64 m.next] 41)) (.cells #[.int .i64 pa, .int .i64 po, .int .i64 pt] 43)) (.cells #[.int .u8 ck, .int .i64 cn, .int .i64 ca, .int .i64 cb, .int .i64 ct] 50)) 50 #[.int .u8 dk, .int .i64 dn, .int .i64 da, .int .i64 db, .int .i64 dt]
  rw [World.size_alloc] at bP bC bD
  rw [World.size_alloc] at bC bD
  rw [World.size_alloc] at bD
  clear hl
  unfold Ptr.val Cell.val
  obtain ⟨L, why0, err0, h0⟩ : ∃ c why err, loadR m ⟨pa, po, pt⟩ 2 = (c, why, err) := ⟨_, _, _, rfl⟩
  obtain ⟨⟨fk, fn, fa, fb, ft⟩, y1, e1, h1⟩ : ∃ c why err, load1R m ⟨pa, po, pt⟩ = (c, why, err) := ⟨_, _, _, rfl⟩
  obtain ⟨⟨gk, gn, ga, gb, gt⟩, y2, e2, h2⟩ : ∃ c why err, load1R m ⟨pa, po + 1, pt⟩ = (c, why, err) := ⟨_, _, _, rfl⟩
  obtain ⟨X, i0, k0, h3⟩ : ∃ c why err, storeR m ⟨pa, po, pt⟩ [⟨ck, cn, ca, cb, ct⟩, ⟨dk, dn, da, db, dt⟩] = (c, why, err) := ⟨_, _, _, rfl⟩
  obtain ⟨Y, j0, l0, h4⟩ : ∃ c why err, storeR m ⟨pa, po, pt⟩ [⟨ck, cn, ca, cb, ct⟩] = (c, why, err) := ⟨_, _, _, rfl⟩
  cases hg : greatM m.al
  · have hg' := Lib.hid hg
    clear hg
    by_cases hp0 : po < 0
    · have q1 : decide (po < 0) = true := decide_eq_true hp0
      clear h0 h1 h2 h3 h4
      go_enter Try.func11, Try.ntmps11
      have bM_0 : World.cell? (World.alloc (World.alloc (World.alloc (World.alloc w (.cells #[.slice a m.al.length cp, .int .i64 m.next] 41)) (.cells #[.int .i64 pa, .int .i64 po, .int .i64 pt] 43)) (.cells #[.int .u8 ck, .int .i64 cn, .int .i64 ca, .int .i64 cb, .int .i64 ct] 50)) (.cells #[.int .u8 dk, .int .i64 dn, .int .i64 da, .int .i64 db, .int .i64 dt] 50)) ⟨w.heap.size, 0, none⟩ = some (.slice a m.al.length cp) := bM.cell 0
      have bM_1 : World.cell? (World.alloc (World.alloc (World.alloc (World.alloc w (.cells #[.slice a m.al.length cp, .int .i64 m.next] 41)) (.cells #[.int .i64 pa, .int .i64 po, .int .i64 pt] 43)) (.cells #[.int .u8 ck, .int .i64 cn, .int .i64 ca, .int .i64 cb, .int .i64 ct] 50)) (.cells #[.int .u8 dk, .int .i64 dn, .int .i64 da, .int .i64 db, .int .i64 dt] 50)) ⟨w.heap.size, 1, none⟩ = some (.int .i64 m.next) := bM.cell 1
      have bM_l := bM.lt
      have bP_0 : World.cell? (World.alloc (World.alloc (World.alloc (World.alloc w (.cells #[.slice a m.al.length cp, .int .i64 m.next] 41)) (.cells #[.int .i64 pa, .int .i64 po, .int .i64 pt] 43)) (.cells #[.int .u8 ck, .int .i64 cn, .int .i64 ca, .int .i64 cb, .int .i64 ct] 50)) (.cells #[.int .u8 dk, .int .i64 dn, .int .i64 da, .int .i64 db, .int .i64 dt] 50)) ⟨w.heap.size + 1, 0, none⟩ = some (.int .i64 pa) := bP.cell 0
      have bP_1 : World.cell? (World.alloc (World.alloc (World.alloc (World.alloc w (.cells #[.slice a m.al.length cp, .int .i64 m.next] 41)) (.cells #[.int .i64 pa, .int .i64 po, .int .i64 pt] 43)) (.cells #[.int .u8 ck, .int .i64 cn, .int .i64 ca, .int .i64 cb, .int .i64 ct] 50)) (.cells #[.int .u8 dk, .int .i64 dn, .int .i64 da, .int .i64 db, .int .i64 dt] 50)) ⟨w.heap.size + 1, 1, none⟩ = some (.int .i64 po) := bP.cell 1
      have bP_2 : World.cell? (World.alloc (World.alloc (World.alloc (World.alloc w (.cells #[.slice a m.al.length cp, .int .i64 m.next] 41)) (.cells #[.int .i64 pa, .int .i64 po, .int .i64 pt] 43)) (.cells #[.int .u8 ck, .int .i64 cn, .int .i64 ca, .int .i64 cb, .int .i64 ct] 50)) (.cells #[.int .u8 dk, .int .i64 dn, .int .i64 da, .int .i64 db, .int .i64 dt] 50)) ⟨w.heap.size + 1, 2, none⟩ = some (.int .i64 pt) := bP.cell 2
      have bP_l := bP.lt
      have bC_0 : World.cell? (World.alloc (World.alloc (World.alloc (World.alloc w (.cells #[.slice a m.al.length cp, .int .i64 m.next] 41)) (.cells #[.int .i64 pa, .int .i64 po, .int .i64 pt] 43)) (.cells #[.int .u8 ck, .int .i64 cn, .int .i64 ca, .int .i64 cb, .int .i64 ct] 50)) (.cells #[.int .u8 dk, .int .i64 dn, .int .i64 da, .int .i64 db, .int .i64 dt] 50)) ⟨w.heap.size + 1 + 1, 0, none⟩ = some (.int .u8 ck) := bC.cell 0
      have bC_1 : World.cell? (World.alloc (World.alloc (World.alloc (World.alloc w (.cells #[.slice a m.al.length cp, .int .i64 m.next] 41)) (.cells #[.int .i64 pa, .int .i64 po, .int .i64 pt] 43)) (.cells #[.int .u8 ck, .int .i64 cn, .int .i64 ca, .int .i64 cb, .int .i64 ct] 50)) (.cells #[.int .u8 dk, .int .i64 dn, .int .i64 da, .int .i64 db, .int .i64 dt] 50)) ⟨w.heap.size + 1 + 1, 1, none⟩ = some (.int .i64 cn) := bC.cell 1
      have bC_2 : World.cell? (World.alloc (World.alloc (World.alloc (World.alloc w (.cells #[.slice a m.al.length cp, .int .i64 m.next] 41)) (.cells #[.int .i64 pa, .int .i64 po, .int .i64 pt] 43)) (.cells #[.int .u8 ck, .int .i64 cn, .int .i64 ca, .int .i64 cb, .int .i64 ct] 50)) (.cells #[.int .u8 dk, .int .i64 dn, .int .i64 da, .int .i64 db, .int .i64 dt] 50)) ⟨w.heap.size + 1 + 1, 2, none⟩ = some (.int .i64 ca) := bC.cell 2
      have bC_3 : World.cell? (World.alloc (World.alloc (World.alloc (World.alloc w (.cells #[.slice a m.al.length cp, .int .i64 m.next] 41)) (.cells #[.int .i64 pa, .int .i64 po, .int .i64 pt] 43)) (.cells #[.int .u8 ck, .int .i64 cn, .int .i64 ca, .int .i64 cb, .int .i64 ct] 50)) (.cells #[.int .u8 dk, .int .i64 dn, .int .i64 da, .int .i64 db, .int .i64 dt] 50)) ⟨w.heap.size + 1 + 1, 3, none⟩ = some (.int .i64 cb) := bC.cell 3
      have bC_4 : World.cell? (World.alloc (World.alloc (World.alloc (World.alloc w (.cells #[.slice a m.al.length cp, .int .i64 m.next] 41)) (.cells #[.int .i64 pa, .int .i64 po, .int .i64 pt] 43)) (.cells #[.int .u8 ck, .int .i64 cn, .int .i64 ca, .int .i64 cb, .int .i64 ct] 50)) (.cells #[.int .u8 dk, .int .i64 dn, .int .i64 da, .int .i64 db, .int .i64 dt] 50)) ⟨w.heap.size + 1 + 1, 4, none⟩ = some (.int .i64 ct) := bC.cell 4
      have bC_l := bC.lt
      have bD_0 : World.cell? (World.alloc (World.alloc (World.alloc (World.alloc w (.cells #[.slice a m.al.length cp, .int .i64 m.next] 41)) (.cells #[.int .i64 pa, .int .i64 po, .int .i64 pt] 43)) (.cells #[.int .u8 ck, .int .i64 cn, .int .i64 ca, .int .i64 cb, .int .i64 ct] 50)) (.cells #[.int .u8 dk, .int .i64 dn, .int .i64 da, .int .i64 db, .int .i64 dt] 50)) ⟨w.heap.size + 1 + 1 + 1, 0, none⟩ = some (.int .u8 dk) := bD.cell 0
      have bD_1 : World.cell? (World.alloc (World.alloc (World.alloc (World.alloc w (.cells #[.slice a m.al.length cp, .int .i64 m.next] 41)) (.cells #[.int .i64 pa, .int .i64 po, .int .i64 pt] 43)) (.cells #[.int .u8 ck, .int .i64 cn, .int .i64 ca, .int .i64 cb, .int .i64 ct] 50)) (.cells #[.int .u8 dk, .int .i64 dn, .int .i64 da, .int .i64 db, .int .i64 dt] 50)) ⟨w.heap.size + 1 + 1 + 1, 1, none⟩ = some (.int .i64 dn) := bD.cell 1
      have bD_2 : World.cell? (World.alloc (World.alloc (World.alloc (World.alloc w (.cells #[.slice a m.al.length cp, .int .i64 m.next] 41)) (.cells #[.int .i64 pa, .int .i64 po, .int .i64 pt] 43)) (.cells #[.int .u8 ck, .int .i64 cn, .int .i64 ca, .int .i64 cb, .int .i64 ct] 50)) (.cells #[.int .u8 dk, .int .i64 dn, .int .i64 da, .int .i64 db, .int .i64 dt] 50)) ⟨w.heap.size + 1 + 1 + 1, 2, none⟩ = some (.int .i64 da) := bD.cell 2
      have bD_3 : World.cell? (World.alloc (World.alloc (World.alloc (World.alloc w (.cells #[.slice a m.al.length cp, .int .i64 m.next] 41)) (.cells #[.int .i64 pa, .int .i64 po, .int .i64 pt] 43)) (.cells #[.int .u8 ck, .int .i64 cn, .int .i64 ca, .int .i64 cb, .int .i64 ct] 50)) (.cells #[.int .u8 dk, .int .i64 dn, .int .i64 da, .int .i64 db, .int .i64 dt] 50)) ⟨w.heap.size + 1 + 1 + 1, 3, none⟩ = some (.int .i64 db) := bD.cell 3
      have bD_4 : World.cell? (World.alloc (World.alloc (World.alloc (World.alloc w (.cells #[.slice a m.al.length cp, .int .i64 m.next] 41)) (.cells #[.int .i64 pa, .int .i64 po, .int .i64 pt] 43)) (.cells #[.int .u8 ck, .int .i64 cn, .int .i64 ca, .int .i64 cb, .int .i64 ct] 50)) (.cells #[.int .u8 dk, .int .i64 dn, .int .i64 da, .int .i64 db, .int .i64 dt] 50)) ⟨w.heap.size + 1 + 1 + 1, 4, none⟩ = some (.int .i64 dt) := bD.cell 4
      have bD_l := bD.lt
      go_wp2_with fail
      clear bM_0 bM_1 bM_l
      clear bP_0 bP_1 bP_2 bP_l
      clear bC_0 bC_1 bC_2 bC_3 bC_4 bC_l
      clear bD_0 bD_1 bD_2 bD_3 bD_4 bD_l
      refine (law27_alive _).mono ?_
      rintro e w1 ⟨rfl, hE0⟩
      replace bM := bM.ext hE0
      replace bP := bP.ext hE0
      replace bC := bC.ext hE0
      replace bD := bD.ext hE0
      replace hL := hL.ext hE0
      have hF0 := Ext.trans (hF) hE0
      have bM_0 : World.cell? w1 ⟨w.heap.size, 0, none⟩ = some (.slice a m.al.length cp) := bM.cell 0
      have bM_1 : World.cell? w1 ⟨w.heap.size, 1, none⟩ = some (.int .i64 m.next) := bM.cell 1
      have bM_l := bM.lt
      have bP_0 : World.cell? w1 ⟨w.heap.size + 1, 0, none⟩ = some (.int .i64 pa) := bP.cell 0
      have bP_1 : World.cell? w1 ⟨w.heap.size + 1, 1, none⟩ = some (.int .i64 po) := bP.cell 1
      have bP_2 : World.cell? w1 ⟨w.heap.size + 1, 2, none⟩ = some (.int .i64 pt) := bP.cell 2
      have bP_l := bP.lt
      have bC_0 : World.cell? w1 ⟨w.heap.size + 1 + 1, 0, none⟩ = some (.int .u8 ck) := bC.cell 0
      have bC_1 : World.cell? w1 ⟨w.heap.size + 1 + 1, 1, none⟩ = some (.int .i64 cn) := bC.cell 1
      have bC_2 : World.cell? w1 ⟨w.heap.size + 1 + 1, 2, none⟩ = some (.int .i64 ca) := bC.cell 2
      have bC_3 : World.cell? w1 ⟨w.heap.size + 1 + 1, 3, none⟩ = some (.int .i64 cb) := bC.cell 3
      have bC_4 : World.cell? w1 ⟨w.heap.size + 1 + 1, 4, none⟩ = some (.int .i64 ct) := bC.cell 4
      have bC_l := bC.lt
      have bD_0 : World.cell? w1 ⟨w.heap.size + 1 + 1 + 1, 0, none⟩ = some (.int .u8 dk) := bD.cell 0
      have bD_1 : World.cell? w1 ⟨w.heap.size + 1 + 1 + 1, 1, none⟩ = some (.int .i64 dn) := bD.cell 1
      have bD_2 : World.cell? w1 ⟨w.heap.size + 1 + 1 + 1, 2, none⟩ = some (.int .i64 da) := bD.cell 2
      have bD_3 : World.cell? w1 ⟨w.heap.size + 1 + 1 + 1, 3, none⟩ = some (.int .i64 db) := bD.cell 3
      have bD_4 : World.cell? w1 ⟨w.heap.size + 1 + 1 + 1, 4, none⟩ = some (.int .i64 dt) := bD.cell 4
      have bD_l := bD.lt
      go_wp2_with fail
      clear bM_0 bM_1 bM_l
      clear bP_0 bP_1 bP_2 bP_l
      clear bC_0 bC_1 bC_2 bC_3 bC_4 bC_l
      clear bD_0 bD_1 bD_2 bD_3 bD_4 bD_l
      refine (ref26_Great hL).mono ?_
      rintro e w2 ⟨rfl, hE1⟩
      replace bM := bM.ext hE1
      replace bP := bP.ext hE1
      replace bC := bC.ext hE1
      replace bD := bD.ext hE1
      replace hL := hL.ext hE1
      have hF1 := Ext.trans (hF0) hE1
      rw [hg'.out]
      have bM_0 : World.cell? w2 ⟨w.heap.size, 0, none⟩ = some (.slice a m.al.length cp) := bM.cell 0
      have bM_1 : World.cell? w2 ⟨w.heap.size, 1, none⟩ = some (.int .i64 m.next) := bM.cell 1
      have bM_l := bM.lt
      have bP_0 : World.cell? w2 ⟨w.heap.size + 1, 0, none⟩ = some (.int .i64 pa) := bP.cell 0
      have bP_1 : World.cell? w2 ⟨w.heap.size + 1, 1, none⟩ = some (.int .i64 po) := bP.cell 1
      have bP_2 : World.cell? w2 ⟨w.heap.size + 1, 2, none⟩ = some (.int .i64 pt) := bP.cell 2
      have bP_l := bP.lt
      have bC_0 : World.cell? w2 ⟨w.heap.size + 1 + 1, 0, none⟩ = some (.int .u8 ck) := bC.cell 0
      have bC_1 : World.cell? w2 ⟨w.heap.size + 1 + 1, 1, none⟩ = some (.int .i64 cn) := bC.cell 1
      have bC_2 : World.cell? w2 ⟨w.heap.size + 1 + 1, 2, none⟩ = some (.int .i64 ca) := bC.cell 2
      have bC_3 : World.cell? w2 ⟨w.heap.size + 1 + 1, 3, none⟩ = some (.int .i64 cb) := bC.cell 3
      have bC_4 : World.cell? w2 ⟨w.heap.size + 1 + 1, 4, none⟩ = some (.int .i64 ct) := bC.cell 4
      have bC_l := bC.lt
      have bD_0 : World.cell? w2 ⟨w.heap.size + 1 + 1 + 1, 0, none⟩ = some (.int .u8 dk) := bD.cell 0
      have bD_1 : World.cell? w2 ⟨w.heap.size + 1 + 1 + 1, 1, none⟩ = some (.int .i64 dn) := bD.cell 1
      have bD_2 : World.cell? w2 ⟨w.heap.size + 1 + 1 + 1, 2, none⟩ = some (.int .i64 da) := bD.cell 2
      have bD_3 : World.cell? w2 ⟨w.heap.size + 1 + 1 + 1, 3, none⟩ = some (.int .i64 db) := bD.cell 3
      have bD_4 : World.cell? w2 ⟨w.heap.size + 1 + 1 + 1, 4, none⟩ = some (.int .i64 dt) := bD.cell 4
      have bD_l := bD.lt
      go_wp2
      go_ret
      exact ⟨rfl, hF1⟩
    · by_cases hp5 : 5 < po
      · have q1 : decide (po < 0) = false := decide_eq_false hp0
        have q2 : decide (5 < po) = true := decide_eq_true hp5
        clear h0 h1 h2 h3 h4
        go_enter Try.func11, Try.ntmps11
        have bM_0 : World.cell? (World.alloc (World.alloc (World.alloc (World.alloc w (.cells #[.slice a m.al.length cp, .int .i64 m.next] 41)) (.cells #[.int .i64 pa, .int .i64 po, .int .i64 pt] 43)) (.cells #[.int .u8 ck, .int .i64 cn, .int .i64 ca, .int .i64 cb, .int .i64 ct] 50)) (.cells #[.int .u8 dk, .int .i64 dn, .int .i64 da, .int .i64 db, .int .i64 dt] 50)) ⟨w.heap.size, 0, none⟩ = some (.slice a m.al.length cp) := bM.cell 0
        have bM_1 : World.cell? (World.alloc (World.alloc (World.alloc (World.alloc w (.cells #[.slice a m.al.length cp, .int .i64 m.next] 41)) (.cells #[.int .i64 pa, .int .i64 po, .int .i64 pt] 43)) (.cells #[.int .u8 ck, .int .i64 cn, .int .i64 ca, .int .i64 cb, .int .i64 ct] 50)) (.cells #[.int .u8 dk, .int .i64 dn, .int .i64 da, .int .i64 db, .int .i64 dt] 50)) ⟨w.heap.size, 1, none⟩ = some (.int .i64 m.next) := bM.cell 1
        have bM_l := bM.lt
        have bP_0 : World.cell? (World.alloc (World.alloc (World.alloc (World.alloc w (.cells #[.slice a m.al.length cp, .int .i64 m.next] 41)) (.cells #[.int .i64 pa, .int .i64 po, .int .i64 pt] 43)) (.cells #[.int .u8 ck, .int .i64 cn, .int .i64 ca, .int .i64 cb, .int .i64 ct] 50)) (.cells #[.int .u8 dk, .int .i64 dn, .int .i64 da, .int .i64 db, .int .i64 dt] 50)) ⟨w.heap.size + 1, 0, none⟩ = some (.int .i64 pa) := bP.cell 0
        have bP_1 : World.cell? (World.alloc (World.alloc (World.alloc (World.alloc w (.cells #[.slice a m.al.length cp, .int .i64 m.next] 41)) (.cells #[.int .i64 pa, .int .i64 po, .int .i64 pt] 43)) (.cells #[.int .u8 ck, .int .i64 cn, .int .i64 ca, .int .i64 cb, .int .i64 ct] 50)) (.cells #[.int .u8 dk, .int .i64 dn, .int .i64 da, .int .i64 db, .int .i64 dt] 50)) ⟨w.heap.size + 1, 1, none⟩ = some (.int .i64 po) := bP.cell 1
        have bP_2 : World.cell? (World.alloc (World.alloc (World.alloc (World.alloc w (.cells #[.slice a m.al.length cp, .int .i64 m.next] 41)) (.cells #[.int .i64 pa, .int .i64 po, .int .i64 pt] 43)) (.cells #[.int .u8 ck, .int .i64 cn, .int .i64 ca, .int .i64 cb, .int .i64 ct] 50)) (.cells #[.int .u8 dk, .int .i64 dn, .int .i64 da, .int .i64 db, .int .i64 dt] 50)) ⟨w.heap.size + 1, 2, none⟩ = some (.int .i64 pt) := bP.cell 2
        have bP_l := bP.lt
        have bC_0 : World.cell? (World.alloc (World.alloc (World.alloc (World.alloc w (.cells #[.slice a m.al.length cp, .int .i64 m.next] 41)) (.cells #[.int .i64 pa, .int .i64 po, .int .i64 pt] 43)) (.cells #[.int .u8 ck, .int .i64 cn, .int .i64 ca, .int .i64 cb, .int .i64 ct] 50)) (.cells #[.int .u8 dk, .int .i64 dn, .int .i64 da, .int .i64 db, .int .i64 dt] 50)) ⟨w.heap.size + 1 + 1, 0, none⟩ = some (.int .u8 ck) := bC.cell 0
        have bC_1 : World.cell? (World.alloc (World.alloc (World.alloc (World.alloc w (.cells #[.slice a m.al.length cp, .int .i64 m.next] 41)) (.cells #[.int .i64 pa, .int .i64 po, .int .i64 pt] 43)) (.cells #[.int .u8 ck, .int .i64 cn, .int .i64 ca, .int .i64 cb, .int .i64 ct] 50)) (.cells #[.int .u8 dk, .int .i64 dn, .int .i64 da, .int .i64 db, .int .i64 dt] 50)) ⟨w.heap.size + 1 + 1, 1, none⟩ = some (.int .i64 cn) := bC.cell 1
        have bC_2 : World.cell? (World.alloc (World.alloc (World.alloc (World.alloc w (.cells #[.slice a m.al.length cp, .int .i64 m.next] 41)) (.cells #[.int .i64 pa, .int .i64 po, .int .i64 pt] 43)) (.cells #[.int .u8 ck, .int .i64 cn, .int .i64 ca, .int .i64 cb, .int .i64 ct] 50)) (.cells #[.int .u8 dk, .int .i64 dn, .int .i64 da, .int .i64 db, .int .i64 dt] 50)) ⟨w.heap.size + 1 + 1, 2, none⟩ = some (.int .i64 ca) := bC.cell 2
        have bC_3 : World.cell? (World.alloc (World.alloc (World.alloc (World.alloc w (.cells #[.slice a m.al.length cp, .int .i64 m.next] 41)) (.cells #[.int .i64 pa, .int .i64 po, .int .i64 pt] 43)) (.cells #[.int .u8 ck, .int .i64 cn, .int .i64 ca, .int .i64 cb, .int .i64 ct] 50)) (.cells #[.int .u8 dk, .int .i64 dn, .int .i64 da, .int .i64 db, .int .i64 dt] 50)) ⟨w.heap.size + 1 + 1, 3, none⟩ = some (.int .i64 cb) := bC.cell 3
        have bC_4 : World.cell? (World.alloc (World.alloc (World.alloc (World.alloc w (.cells #[.slice a m.al.length cp, .int .i64 m.next] 41)) (.cells #[.int .i64 pa, .int .i64 po, .int .i64 pt] 43)) (.cells #[.int .u8 ck, .int .i64 cn, .int .i64 ca, .int .i64 cb, .int .i64 ct] 50)) (.cells #[.int .u8 dk, .int .i64 dn, .int .i64 da, .int .i64 db, .int .i64 dt] 50)) ⟨w.heap.size + 1 + 1, 4, none⟩ = some (.int .i64 ct) := bC.cell 4
        have bC_l := bC.lt
        have bD_0 : World.cell? (World.alloc (World.alloc (World.alloc (World.alloc w (.cells #[.slice a m.al.length cp, .int .i64 m.next] 41)) (.cells #[.int .i64 pa, .int .i64 po, .int .i64 pt] 43)) (.cells #[.int .u8 ck, .int .i64 cn, .int .i64 ca, .int .i64 cb, .int .i64 ct] 50)) (.cells #[.int .u8 dk, .int .i64 dn, .int .i64 da, .int .i64 db, .int .i64 dt] 50)) ⟨w.heap.size + 1 + 1 + 1, 0, none⟩ = some (.int .u8 dk) := bD.cell 0
        have bD_1 : World.cell? (World.alloc (World.alloc (World.alloc (World.alloc w (.cells #[.slice a m.al.length cp, .int .i64 m.next] 41)) (.cells #[.int .i64 pa, .int .i64 po, .int .i64 pt] 43)) (.cells #[.int .u8 ck, .int .i64 cn, .int .i64 ca, .int .i64 cb, .int .i64 ct] 50)) (.cells #[.int .u8 dk, .int .i64 dn, .int .i64 da, .int .i64 db, .int .i64 dt] 50)) ⟨w.heap.size + 1 + 1 + 1, 1, none⟩ = some (.int .i64 dn) := bD.cell 1
        have bD_2 : World.cell? (World.alloc (World.alloc (World.alloc (World.alloc w (.cells #[.slice a m.al.length cp, .int .i64 m.next] 41)) (.cells #[.int .i64 pa, .int .i64 po, .int .i64 pt] 43)) (.cells #[.int .u8 ck, .int .i64 cn, .int .i64 ca, .int .i64 cb, .int .i64 ct] 50)) (.cells #[.int .u8 dk, .int .i64 dn, .int .i64 da, .int .i64 db, .int .i64 dt] 50)) ⟨w.heap.size + 1 + 1 + 1, 2, none⟩ = some (.int .i64 da) := bD.cell 2
        have bD_3 : World.cell? (World.alloc (World.alloc (World.alloc (World.alloc w (.cells #[.slice a m.al.length cp, .int .i64 m.next] 41)) (.cells #[.int .i64 pa, .int .i64 po, .int .i64 pt] 43)) (.cells #[.int .u8 ck, .int .i64 cn, .int .i64 ca, .int .i64 cb, .int .i64 ct] 50)) (.cells #[.int .u8 dk, .int .i64 dn, .int .i64 da, .int .i64 db, .int .i64 dt] 50)) ⟨w.heap.size + 1 + 1 + 1, 3, none⟩ = some (.int .i64 db) := bD.cell 3
        have bD_4 : World.cell? (World.alloc (World.alloc (World.alloc (World.alloc w (.cells #[.slice a m.al.length cp, .int .i64 m.next] 41)) (.cells #[.int .i64 pa, .int .i64 po, .int .i64 pt] 43)) (.cells #[.int .u8 ck, .int .i64 cn, .int .i64 ca, .int .i64 cb, .int .i64 ct] 50)) (.cells #[.int .u8 dk, .int .i64 dn, .int .i64 da, .int .i64 db, .int .i64 dt] 50)) ⟨w.heap.size + 1 + 1 + 1, 4, none⟩ = some (.int .i64 dt) := bD.cell 4
        have bD_l := bD.lt
        go_wp2_with fail
        clear bM_0 bM_1 bM_l
        clear bP_0 bP_1 bP_2 bP_l
        clear bC_0 bC_1 bC_2 bC_3 bC_4 bC_l
        clear bD_0 bD_1 bD_2 bD_3 bD_4 bD_l
        refine (law27_alive _).mono ?_
        rintro e w1 ⟨rfl, hE0⟩
        replace bM := bM.ext hE0
        replace bP := bP.ext hE0
        replace bC := bC.ext hE0
        replace bD := bD.ext hE0
        replace hL := hL.ext hE0
        have hF0 := Ext.trans (hF) hE0
        have bM_0 : World.cell? w1 ⟨w.heap.size, 0, none⟩ = some (.slice a m.al.length cp) := bM.cell 0
        have bM_1 : World.cell? w1 ⟨w.heap.size, 1, none⟩ = some (.int .i64 m.next) := bM.cell 1
        have bM_l := bM.lt
        have bP_0 : World.cell? w1 ⟨w.heap.size + 1, 0, none⟩ = some (.int .i64 pa) := bP.cell 0
        have bP_1 : World.cell? w1 ⟨w.heap.size + 1, 1, none⟩ = some (.int .i64 po) := bP.cell 1
        have bP_2 : World.cell? w1 ⟨w.heap.size + 1, 2, none⟩ = some (.int .i64 pt) := bP.cell 2
        have bP_l := bP.lt
        have bC_0 : World.cell? w1 ⟨w.heap.size + 1 + 1, 0, none⟩ = some (.int .u8 ck) := bC.cell 0
        have bC_1 : World.cell? w1 ⟨w.heap.size + 1 + 1, 1, none⟩ = some (.int .i64 cn) := bC.cell 1
        have bC_2 : World.cell? w1 ⟨w.heap.size + 1 + 1, 2, none⟩ = some (.int .i64 ca) := bC.cell 2
        have bC_3 : World.cell? w1 ⟨w.heap.size + 1 + 1, 3, none⟩ = some (.int .i64 cb) := bC.cell 3
        have bC_4 : World.cell? w1 ⟨w.heap.size + 1 + 1, 4, none⟩ = some (.int .i64 ct) := bC.cell 4
        have bC_l := bC.lt
        have bD_0 : World.cell? w1 ⟨w.heap.size + 1 + 1 + 1, 0, none⟩ = some (.int .u8 dk) := bD.cell 0
        have bD_1 : World.cell? w1 ⟨w.heap.size + 1 + 1 + 1, 1, none⟩ = some (.int .i64 dn) := bD.cell 1
        have bD_2 : World.cell? w1 ⟨w.heap.size + 1 + 1 + 1, 2, none⟩ = some (.int .i64 da) := bD.cell 2
        have bD_3 : World.cell? w1 ⟨w.heap.size + 1 + 1 + 1, 3, none⟩ = some (.int .i64 db) := bD.cell 3
        have bD_4 : World.cell? w1 ⟨w.heap.size + 1 + 1 + 1, 4, none⟩ = some (.int .i64 dt) := bD.cell 4
        have bD_l := bD.lt
        go_wp2_with fail
        clear bM_0 bM_1 bM_l
        clear bP_0 bP_1 bP_2 bP_l
        clear bC_0 bC_1 bC_2 bC_3 bC_4 bC_l
        clear bD_0 bD_1 bD_2 bD_3 bD_4 bD_l
        refine (ref26_Great hL).mono ?_
        rintro e w2 ⟨rfl, hE1⟩
        replace bM := bM.ext hE1
        replace bP := bP.ext hE1
        replace bC := bC.ext hE1
        replace bD := bD.ext hE1
        replace hL := hL.ext hE1
        have hF1 := Ext.trans (hF0) hE1
        rw [hg'.out]
        have bM_0 : World.cell? w2 ⟨w.heap.size, 0, none⟩ = some (.slice a m.al.length cp) := bM.cell 0
        have bM_1 : World.cell? w2 ⟨w.heap.size, 1, none⟩ = some (.int .i64 m.next) := bM.cell 1
        have bM_l := bM.lt
        have bP_0 : World.cell? w2 ⟨w.heap.size + 1, 0, none⟩ = some (.int .i64 pa) := bP.cell 0
        have bP_1 : World.cell? w2 ⟨w.heap.size + 1, 1, none⟩ = some (.int .i64 po) := bP.cell 1
        have bP_2 : World.cell? w2 ⟨w.heap.size + 1, 2, none⟩ = some (.int .i64 pt) := bP.cell 2
        have bP_l := bP.lt
        have bC_0 : World.cell? w2 ⟨w.heap.size + 1 + 1, 0, none⟩ = some (.int .u8 ck) := bC.cell 0
        have bC_1 : World.cell? w2 ⟨w.heap.size + 1 + 1, 1, none⟩ = some (.int .i64 cn) := bC.cell 1
        have bC_2 : World.cell? w2 ⟨w.heap.size + 1 + 1, 2, none⟩ = some (.int .i64 ca) := bC.cell 2
        have bC_3 : World.cell? w2 ⟨w.heap.size + 1 + 1, 3, none⟩ = some (.int .i64 cb) := bC.cell 3
        have bC_4 : World.cell? w2 ⟨w.heap.size + 1 + 1, 4, none⟩ = some (.int .i64 ct) := bC.cell 4
        have bC_l := bC.lt
        have bD_0 : World.cell? w2 ⟨w.heap.size + 1 + 1 + 1, 0, none⟩ = some (.int .u8 dk) := bD.cell 0
        have bD_1 : World.cell? w2 ⟨w.heap.size + 1 + 1 + 1, 1, none⟩ = some (.int .i64 dn) := bD.cell 1
        have bD_2 : World.cell? w2 ⟨w.heap.size + 1 + 1 + 1, 2, none⟩ = some (.int .i64 da) := bD.cell 2
        have bD_3 : World.cell? w2 ⟨w.heap.size + 1 + 1 + 1, 3, none⟩ = some (.int .i64 db) := bD.cell 3
        have bD_4 : World.cell? w2 ⟨w.heap.size + 1 + 1 + 1, 4, none⟩ = some (.int .i64 dt) := bD.cell 4
        have bD_l := bD.lt
        go_wp2
        go_ret
        exact ⟨rfl, hF1⟩
      · have q1 : decide (po < 0) = false := decide_eq_false hp0
        have q2 : decide (5 < po) = false := decide_eq_false hp5
        have q3 : IntKind.wrap .i64 (po + 1) = po + 1 := IntWalk.i64_in _ (by omega)
        have hlaw1 := Lib.hid (range_law (by omega) h0 h1 h2)
        have hlaw2 := Lib.hid (stores_law h3)
        have h0 := Lib.hid h0
        have h1 := Lib.hid h1
        have h2 := Lib.hid h2
        have h3 := Lib.hid h3
        have h4 := Lib.hid h4
        go_enter Try.func11, Try.ntmps11
        have bM_0 : World.cell? (World.alloc (World.alloc (World.alloc (World.alloc w (.cells #[.slice a m.al.length cp, .int .i64 m.next] 41)) (.cells #[.int .i64 pa, .int .i64 po, .int .i64 pt] 43)) (.cells #[.int .u8 ck, .int .i64 cn, .int .i64 ca, .int .i64 cb, .int .i64 ct] 50)) (.cells #[.int .u8 dk, .int .i64 dn, .int .i64 da, .int .i64 db, .int .i64 dt] 50)) ⟨w.heap.size, 0, none⟩ = some (.slice a m.al.length cp) := bM.cell 0
        have bM_1 : World.cell? (World.alloc (World.alloc (World.alloc (World.alloc w (.cells #[.slice a m.al.length cp, .int .i64 m.next] 41)) (.cells #[.int .i64 pa, .int .i64 po, .int .i64 pt] 43)) (.cells #[.int .u8 ck, .int .i64 cn, .int .i64 ca, .int .i64 cb, .int .i64 ct] 50)) (.cells #[.int .u8 dk, .int .i64 dn, .int .i64 da, .int .i64 db, .int .i64 dt] 50)) ⟨w.heap.size, 1, none⟩ = some (.int .i64 m.next) := bM.cell 1
        have bM_l := bM.lt
        have bP_0 : World.cell? (World.alloc (World.alloc (World.alloc (World.alloc w (.cells #[.slice a m.al.length cp, .int .i64 m.next] 41)) (.cells #[.int .i64 pa, .int .i64 po, .int .i64 pt] 43)) (.cells #[.int .u8 ck, .int .i64 cn, .int .i64 ca, .int .i64 cb, .int .i64 ct] 50)) (.cells #[.int .u8 dk, .int .i64 dn, .int .i64 da, .int .i64 db, .int .i64 dt] 50)) ⟨w.heap.size + 1, 0, none⟩ = some (.int .i64 pa) := bP.cell 0
        have bP_1 : World.cell? (World.alloc (World.alloc (World.alloc (World.alloc w (.cells #[.slice a m.al.length cp, .int .i64 m.next] 41)) (.cells #[.int .i64 pa, .int .i64 po, .int .i64 pt] 43)) (.cells #[.int .u8 ck, .int .i64 cn, .int .i64 ca, .int .i64 cb, .int .i64 ct] 50)) (.cells #[.int .u8 dk, .int .i64 dn, .int .i64 da, .int .i64 db, .int .i64 dt] 50)) ⟨w.heap.size + 1, 1, none⟩ = some (.int .i64 po) := bP.cell 1
        have bP_2 : World.cell? (World.alloc (World.alloc (World.alloc (World.alloc w (.cells #[.slice a m.al.length cp, .int .i64 m.next] 41)) (.cells #[.int .i64 pa, .int .i64 po, .int .i64 pt] 43)) (.cells #[.int .u8 ck, .int .i64 cn, .int .i64 ca, .int .i64 cb, .int .i64 ct] 50)) (.cells #[.int .u8 dk, .int .i64 dn, .int .i64 da, .int .i64 db, .int .i64 dt] 50)) ⟨w.heap.size + 1, 2, none⟩ = some (.int .i64 pt) := bP.cell 2
        have bP_l := bP.lt
        have bC_0 : World.cell? (World.alloc (World.alloc (World.alloc (World.alloc w (.cells #[.slice a m.al.length cp, .int .i64 m.next] 41)) (.cells #[.int .i64 pa, .int .i64 po, .int .i64 pt] 43)) (.cells #[.int .u8 ck, .int .i64 cn, .int .i64 ca, .int .i64 cb, .int .i64 ct] 50)) (.cells #[.int .u8 dk, .int .i64 dn, .int .i64 da, .int .i64 db, .int .i64 dt] 50)) ⟨w.heap.size + 1 + 1, 0, none⟩ = some (.int .u8 ck) := bC.cell 0
        have bC_1 : World.cell? (World.alloc (World.alloc (World.alloc (World.alloc w (.cells #[.slice a m.al.length cp, .int .i64 m.next] 41)) (.cells #[.int .i64 pa, .int .i64 po, .int .i64 pt] 43)) (.cells #[.int .u8 ck, .int .i64 cn, .int .i64 ca, .int .i64 cb, .int .i64 ct] 50)) (.cells #[.int .u8 dk, .int .i64 dn, .int .i64 da, .int .i64 db, .int .i64 dt] 50)) ⟨w.heap.size + 1 + 1, 1, none⟩ = some (.int .i64 cn) := bC.cell 1
        have bC_2 : World.cell? (World.alloc (World.alloc (World.alloc (World.alloc w (.cells #[.slice a m.al.length cp, .int .i64 m.next] 41)) (.cells #[.int .i64 pa, .int .i64 po, .int .i64 pt] 43)) (.cells #[.int .u8 ck, .int .i64 cn, .int .i64 ca, .int .i64 cb, .int .i64 ct] 50)) (.cells #[.int .u8 dk, .int .i64 dn, .int .i64 da, .int .i64 db, .int .i64 dt] 50)) ⟨w.heap.size + 1 + 1, 2, none⟩ = some (.int .i64 ca) := bC.cell 2
        have bC_3 : World.cell? (World.alloc (World.alloc (World.alloc (World.alloc w (.cells #[.slice a m.al.length cp, .int .i64 m.next] 41)) (.cells #[.int .i64 pa, .int .i64 po, .int .i64 pt] 43)) (.cells #[.int .u8 ck, .int .i64 cn, .int .i64 ca, .int .i64 cb, .int .i64 ct] 50)) (.cells #[.int .u8 dk, .int .i64 dn, .int .i64 da, .int .i64 db, .int .i64 dt] 50)) ⟨w.heap.size + 1 + 1, 3, none⟩ = some (.int .i64 cb) := bC.cell 3
        have bC_4 : World.cell? (World.alloc (World.alloc (World.alloc (World.alloc w (.cells #[.slice a m.al.length cp, .int .i64 m.next] 41)) (.cells #[.int .i64 pa, .int .i64 po, .int .i64 pt] 43)) (.cells #[.int .u8 ck, .int .i64 cn, .int .i64 ca, .int .i64 cb, .int .i64 ct] 50)) (.cells #[.int .u8 dk, .int .i64 dn, .int .i64 da, .int .i64 db, .int .i64 dt] 50)) ⟨w.heap.size + 1 + 1, 4, none⟩ = some (.int .i64 ct) := bC.cell 4
        have bC_l := bC.lt
        have bD_0 : World.cell? (World.alloc (World.alloc (World.alloc (World.alloc w (.cells #[.slice a m.al.length cp, .int .i64 m.next] 41)) (.cells #[.int .i64 pa, .int .i64 po, .int .i64 pt] 43)) (.cells #[.int .u8 ck, .int .i64 cn, .int .i64 ca, .int .i64 cb, .int .i64 ct] 50)) (.cells #[.int .u8 dk, .int .i64 dn, .int .i64 da, .int .i64 db, .int .i64 dt] 50)) ⟨w.heap.size + 1 + 1 + 1, 0, none⟩ = some (.int .u8 dk) := bD.cell 0
        have bD_1 : World.cell? (World.alloc (World.alloc (World.alloc (World.alloc w (.cells #[.slice a m.al.length cp, .int .i64 m.next] 41)) (.cells #[.int .i64 pa, .int .i64 po, .int .i64 pt] 43)) (.cells #[.int .u8 ck, .int .i64 cn, .int .i64 ca, .int .i64 cb, .int .i64 ct] 50)) (.cells #[.int .u8 dk, .int .i64 dn, .int .i64 da, .int .i64 db, .int .i64 dt] 50)) ⟨w.heap.size + 1 + 1 + 1, 1, none⟩ = some (.int .i64 dn) := bD.cell 1
        have bD_2 : World.cell? (World.alloc (World.alloc (World.alloc (World.alloc w (.cells #[.slice a m.al.length cp, .int .i64 m.next] 41)) (.cells #[.int .i64 pa, .int .i64 po, .int .i64 pt] 43)) (.cells #[.int .u8 ck, .int .i64 cn, .int .i64 ca, .int .i64 cb, .int .i64 ct] 50)) (.cells #[.int .u8 dk, .int .i64 dn, .int .i64 da, .int .i64 db, .int .i64 dt] 50)) ⟨w.heap.size + 1 + 1 + 1, 2, none⟩ = some (.int .i64 da) := bD.cell 2
        have bD_3 : World.cell? (World.alloc (World.alloc (World.alloc (World.alloc w (.cells #[.slice a m.al.length cp, .int .i64 m.next] 41)) (.cells #[.int .i64 pa, .int .i64 po, .int .i64 pt] 43)) (.cells #[.int .u8 ck, .int .i64 cn, .int .i64 ca, .int .i64 cb, .int .i64 ct] 50)) (.cells #[.int .u8 dk, .int .i64 dn, .int .i64 da, .int .i64 db, .int .i64 dt] 50)) ⟨w.heap.size + 1 + 1 + 1, 3, none⟩ = some (.int .i64 db) := bD.cell 3
        have bD_4 : World.cell? (World.alloc (World.alloc (World.alloc (World.alloc w (.cells #[.slice a m.al.length cp, .int .i64 m.next] 41)) (.cells #[.int .i64 pa, .int .i64 po, .int .i64 pt] 43)) (.cells #[.int .u8 ck, .int .i64 cn, .int .i64 ca, .int .i64 cb, .int .i64 ct] 50)) (.cells #[.int .u8 dk, .int .i64 dn, .int .i64 da, .int .i64 db, .int .i64 dt] 50)) ⟨w.heap.size + 1 + 1 + 1, 4, none⟩ = some (.int .i64 dt) := bD.cell 4
        have bD_l := bD.lt
        go_wp2_with fail
        clear bM_0 bM_1 bM_l
        clear bP_0 bP_1 bP_2 bP_l
        clear bC_0 bC_1 bC_2 bC_3 bC_4 bC_l
        clear bD_0 bD_1 bD_2 bD_3 bD_4 bD_l
        refine (law27_alive _).mono ?_
        rintro e w1 ⟨rfl, hE0⟩
        replace bM := bM.ext hE0
        replace bP := bP.ext hE0
        replace bC := bC.ext hE0
        replace bD := bD.ext hE0
        replace hL := hL.ext hE0
        have hF0 := Ext.trans (hF) hE0
        have bM_0 : World.cell? w1 ⟨w.heap.size, 0, none⟩ = some (.slice a m.al.length cp) := bM.cell 0
        have bM_1 : World.cell? w1 ⟨w.heap.size, 1, none⟩ = some (.int .i64 m.next) := bM.cell 1
        have bM_l := bM.lt
        have bP_0 : World.cell? w1 ⟨w.heap.size + 1, 0, none⟩ = some (.int .i64 pa) := bP.cell 0
        have bP_1 : World.cell? w1 ⟨w.heap.size + 1, 1, none⟩ = some (.int .i64 po) := bP.cell 1
        have bP_2 : World.cell? w1 ⟨w.heap.size + 1, 2, none⟩ = some (.int .i64 pt) := bP.cell 2
        have bP_l := bP.lt
        have bC_0 : World.cell? w1 ⟨w.heap.size + 1 + 1, 0, none⟩ = some (.int .u8 ck) := bC.cell 0
        have bC_1 : World.cell? w1 ⟨w.heap.size + 1 + 1, 1, none⟩ = some (.int .i64 cn) := bC.cell 1
        have bC_2 : World.cell? w1 ⟨w.heap.size + 1 + 1, 2, none⟩ = some (.int .i64 ca) := bC.cell 2
        have bC_3 : World.cell? w1 ⟨w.heap.size + 1 + 1, 3, none⟩ = some (.int .i64 cb) := bC.cell 3
        have bC_4 : World.cell? w1 ⟨w.heap.size + 1 + 1, 4, none⟩ = some (.int .i64 ct) := bC.cell 4
        have bC_l := bC.lt
        have bD_0 : World.cell? w1 ⟨w.heap.size + 1 + 1 + 1, 0, none⟩ = some (.int .u8 dk) := bD.cell 0
        have bD_1 : World.cell? w1 ⟨w.heap.size + 1 + 1 + 1, 1, none⟩ = some (.int .i64 dn) := bD.cell 1
        have bD_2 : World.cell? w1 ⟨w.heap.size + 1 + 1 + 1, 2, none⟩ = some (.int .i64 da) := bD.cell 2
        have bD_3 : World.cell? w1 ⟨w.heap.size + 1 + 1 + 1, 3, none⟩ = some (.int .i64 db) := bD.cell 3
        have bD_4 : World.cell? w1 ⟨w.heap.size + 1 + 1 + 1, 4, none⟩ = some (.int .i64 dt) := bD.cell 4
        have bD_l := bD.lt
        go_wp2_with fail
        clear bM_0 bM_1 bM_l
        clear bP_0 bP_1 bP_2 bP_l
        clear bC_0 bC_1 bC_2 bC_3 bC_4 bC_l
        clear bD_0 bD_1 bD_2 bD_3 bD_4 bD_l
        refine (ref26_Great hL).mono ?_
        rintro e w2 ⟨rfl, hE1⟩
        replace bM := bM.ext hE1
        replace bP := bP.ext hE1
        replace bC := bC.ext hE1
        replace bD := bD.ext hE1
        replace hL := hL.ext hE1
        have hF1 := Ext.trans (hF0) hE1
        rw [hg'.out]
        have bM_0 : World.cell? w2 ⟨w.heap.size, 0, none⟩ = some (.slice a m.al.length cp) := bM.cell 0
        have bM_1 : World.cell? w2 ⟨w.heap.size, 1, none⟩ = some (.int .i64 m.next) := bM.cell 1
        have bM_l := bM.lt
        have bP_0 : World.cell? w2 ⟨w.heap.size + 1, 0, none⟩ = some (.int .i64 pa) := bP.cell 0
        have bP_1 : World.cell? w2 ⟨w.heap.size + 1, 1, none⟩ = some (.int .i64 po) := bP.cell 1
        have bP_2 : World.cell? w2 ⟨w.heap.size + 1, 2, none⟩ = some (.int .i64 pt) := bP.cell 2
        have bP_l := bP.lt
        have bC_0 : World.cell? w2 ⟨w.heap.size + 1 + 1, 0, none⟩ = some (.int .u8 ck) := bC.cell 0
        have bC_1 : World.cell? w2 ⟨w.heap.size + 1 + 1, 1, none⟩ = some (.int .i64 cn) := bC.cell 1
        have bC_2 : World.cell? w2 ⟨w.heap.size + 1 + 1, 2, none⟩ = some (.int .i64 ca) := bC.cell 2
        have bC_3 : World.cell? w2 ⟨w.heap.size + 1 + 1, 3, none⟩ = some (.int .i64 cb) := bC.cell 3
        have bC_4 : World.cell? w2 ⟨w.heap.size + 1 + 1, 4, none⟩ = some (.int .i64 ct) := bC.cell 4
        have bC_l := bC.lt
        have bD_0 : World.cell? w2 ⟨w.heap.size + 1 + 1 + 1, 0, none⟩ = some (.int .u8 dk) := bD.cell 0
        have bD_1 : World.cell? w2 ⟨w.heap.size + 1 + 1 + 1, 1, none⟩ = some (.int .i64 dn) := bD.cell 1
        have bD_2 : World.cell? w2 ⟨w.heap.size + 1 + 1 + 1, 2, none⟩ = some (.int .i64 da) := bD.cell 2
        have bD_3 : World.cell? w2 ⟨w.heap.size + 1 + 1 + 1, 3, none⟩ = some (.int .i64 db) := bD.cell 3
        have bD_4 : World.cell? w2 ⟨w.heap.size + 1 + 1 + 1, 4, none⟩ = some (.int .i64 dt) := bD.cell 4
        have bD_l := bD.lt
        go_wp2_with fail
        clear bM_0 bM_1 bM_l
        clear bP_0 bP_1 bP_2 bP_l
        clear bC_0 bC_1 bC_2 bC_3 bC_4 bC_l
        clear bD_0 bD_1 bD_2 bD_3 bD_4 bD_l
        have bQ := Box.new w2 43 #[.int .i64 pa, .int .i64 (po + 1), .int .i64 pt]
        have hx2 : Ext w2 (World.alloc w2 (.cells #[.int .i64 pa, .int .i64 (po + 1), .int .i64 pt] 43)) := (Ext.refl _).alloc _
        obtain ⟨w2b, hw2⟩ : ∃ x, World.alloc w2 (.cells #[.int .i64 pa, .int .i64 (po + 1), .int .i64 pt] 43) = x := ⟨_, rfl⟩
        rw [hw2] at bQ hx2 ⊢
        clear hw2
        replace bM := bM.ext hx2
        replace bP := bP.ext hx2
        replace bC := bC.ext hx2
        replace bD := bD.ext hx2
        replace hL := hL.ext hx2
        have hF2 := Ext.trans (hF1) hx2
        refine (cells_LoadAll ⟨pa, po, pt⟩ 2 hL hn).mono ?_
        rintro e w4 ⟨vx, rfl, ox, hE3⟩
        replace bM := bM.ext hE3
        replace bP := bP.ext hE3
        replace bC := bC.ext hE3
        replace bD := bD.ext hE3
        replace hL := hL.ext hE3
        replace bQ := bQ.ext hE3
        have hF3 := Ext.trans (hF2) hE3
        rw [h0.out] at ox
        rw [h0.out]
        have hx : Cls w4 vx L := ox.sl
        clear ox
        obtain ⟨sx, cx, rfl, -⟩ := hx.form
        dsimp only
        have bM_0 : World.cell? w4 ⟨w.heap.size, 0, none⟩ = some (.slice a m.al.length cp) := bM.cell 0
        have bM_1 : World.cell? w4 ⟨w.heap.size, 1, none⟩ = some (.int .i64 m.next) := bM.cell 1
        have bM_l := bM.lt
        have bP_0 : World.cell? w4 ⟨w.heap.size + 1, 0, none⟩ = some (.int .i64 pa) := bP.cell 0
        have bP_1 : World.cell? w4 ⟨w.heap.size + 1, 1, none⟩ = some (.int .i64 po) := bP.cell 1
        have bP_2 : World.cell? w4 ⟨w.heap.size + 1, 2, none⟩ = some (.int .i64 pt) := bP.cell 2
        have bP_l := bP.lt
        have bC_0 : World.cell? w4 ⟨w.heap.size + 1 + 1, 0, none⟩ = some (.int .u8 ck) := bC.cell 0
        have bC_1 : World.cell? w4 ⟨w.heap.size + 1 + 1, 1, none⟩ = some (.int .i64 cn) := bC.cell 1
        have bC_2 : World.cell? w4 ⟨w.heap.size + 1 + 1, 2, none⟩ = some (.int .i64 ca) := bC.cell 2
        have bC_3 : World.cell? w4 ⟨w.heap.size + 1 + 1, 3, none⟩ = some (.int .i64 cb) := bC.cell 3
        have bC_4 : World.cell? w4 ⟨w.heap.size + 1 + 1, 4, none⟩ = some (.int .i64 ct) := bC.cell 4
        have bC_l := bC.lt
        have bD_0 : World.cell? w4 ⟨w.heap.size + 1 + 1 + 1, 0, none⟩ = some (.int .u8 dk) := bD.cell 0
        have bD_1 : World.cell? w4 ⟨w.heap.size + 1 + 1 + 1, 1, none⟩ = some (.int .i64 dn) := bD.cell 1
        have bD_2 : World.cell? w4 ⟨w.heap.size + 1 + 1 + 1, 2, none⟩ = some (.int .i64 da) := bD.cell 2
        have bD_3 : World.cell? w4 ⟨w.heap.size + 1 + 1 + 1, 3, none⟩ = some (.int .i64 db) := bD.cell 3
        have bD_4 : World.cell? w4 ⟨w.heap.size + 1 + 1 + 1, 4, none⟩ = some (.int .i64 dt) := bD.cell 4
        have bD_l := bD.lt
        have bQ_0 : World.cell? w4 ⟨w2.heap.size, 0, none⟩ = some (.int .i64 pa) := bQ.cell 0
        have bQ_1 : World.cell? w4 ⟨w2.heap.size, 1, none⟩ = some (.int .i64 (po + 1)) := bQ.cell 1
        have bQ_2 : World.cell? w4 ⟨w2.heap.size, 2, none⟩ = some (.int .i64 pt) := bQ.cell 2
        have bQ_l := bQ.lt
        go_wp2_with fail
        clear bM_0 bM_1 bM_l
        clear bP_0 bP_1 bP_2 bP_l
        clear bC_0 bC_1 bC_2 bC_3 bC_4 bC_l
        clear bD_0 bD_1 bD_2 bD_3 bD_4 bD_l
        clear bQ_0 bQ_1 bQ_2 bQ_l
        refine (cells_Load ⟨pa, po, pt⟩ hL hn).mono ?_
        rintro e w5 ⟨rfl, hE4⟩
        replace bM := bM.ext hE4
        replace bP := bP.ext hE4
        replace bC := bC.ext hE4
        replace bD := bD.ext hE4
        replace hL := hL.ext hE4
        replace bQ := bQ.ext hE4
        replace hx := hx.ext hE4
        have hF4 := Ext.trans (hF3) hE4
        rw [h1.out]
        dsimp only [Cell.val]
        have bM_0 : World.cell? w5 ⟨w.heap.size, 0, none⟩ = some (.slice a m.al.length cp) := bM.cell 0
        have bM_1 : World.cell? w5 ⟨w.heap.size, 1, none⟩ = some (.int .i64 m.next) := bM.cell 1
        have bM_l := bM.lt
        have bP_0 : World.cell? w5 ⟨w.heap.size + 1, 0, none⟩ = some (.int .i64 pa) := bP.cell 0
        have bP_1 : World.cell? w5 ⟨w.heap.size + 1, 1, none⟩ = some (.int .i64 po) := bP.cell 1
        have bP_2 : World.cell? w5 ⟨w.heap.size + 1, 2, none⟩ = some (.int .i64 pt) := bP.cell 2
        have bP_l := bP.lt
        have bC_0 : World.cell? w5 ⟨w.heap.size + 1 + 1, 0, none⟩ = some (.int .u8 ck) := bC.cell 0
        have bC_1 : World.cell? w5 ⟨w.heap.size + 1 + 1, 1, none⟩ = some (.int .i64 cn) := bC.cell 1
        have bC_2 : World.cell? w5 ⟨w.heap.size + 1 + 1, 2, none⟩ = some (.int .i64 ca) := bC.cell 2
        have bC_3 : World.cell? w5 ⟨w.heap.size + 1 + 1, 3, none⟩ = some (.int .i64 cb) := bC.cell 3
        have bC_4 : World.cell? w5 ⟨w.heap.size + 1 + 1, 4, none⟩ = some (.int .i64 ct) := bC.cell 4
        have bC_l := bC.lt
        have bD_0 : World.cell? w5 ⟨w.heap.size + 1 + 1 + 1, 0, none⟩ = some (.int .u8 dk) := bD.cell 0
        have bD_1 : World.cell? w5 ⟨w.heap.size + 1 + 1 + 1, 1, none⟩ = some (.int .i64 dn) := bD.cell 1
        have bD_2 : World.cell? w5 ⟨w.heap.size + 1 + 1 + 1, 2, none⟩ = some (.int .i64 da) := bD.cell 2
        have bD_3 : World.cell? w5 ⟨w.heap.size + 1 + 1 + 1, 3, none⟩ = some (.int .i64 db) := bD.cell 3
        have bD_4 : World.cell? w5 ⟨w.heap.size + 1 + 1 + 1, 4, none⟩ = some (.int .i64 dt) := bD.cell 4
        have bD_l := bD.lt
        have bQ_0 : World.cell? w5 ⟨w2.heap.size, 0, none⟩ = some (.int .i64 pa) := bQ.cell 0
        have bQ_1 : World.cell? w5 ⟨w2.heap.size, 1, none⟩ = some (.int .i64 (po + 1)) := bQ.cell 1
        have bQ_2 : World.cell? w5 ⟨w2.heap.size, 2, none⟩ = some (.int .i64 pt) := bQ.cell 2
        have bQ_l := bQ.lt
        go_wp2_with fail
        clear bM_0 bM_1 bM_l
        clear bP_0 bP_1 bP_2 bP_l
        clear bC_0 bC_1 bC_2 bC_3 bC_4 bC_l
        clear bD_0 bD_1 bD_2 bD_3 bD_4 bD_l
        clear bQ_0 bQ_1 bQ_2 bQ_l
        have bA := Box.new w5 50 #[.int .u8 fk, .int .i64 fn, .int .i64 fa, .int .i64 fb, .int .i64 ft]
        have hx5 : Ext w5 (World.alloc w5 (.cells #[.int .u8 fk, .int .i64 fn, .int .i64 fa, .int .i64 fb, .int .i64 ft] 50)) := (Ext.refl _).alloc _
        obtain ⟨w5b, hw5⟩ : ∃ x, World.alloc w5 (.cells #[.int .u8 fk, .int .i64 fn, .int .i64 fa, .int .i64 fb, .int .i64 ft] 50) = x := ⟨_, rfl⟩
        rw [hw5] at bA hx5 ⊢
        clear hw5
        replace bM := bM.ext hx5
        replace bP := bP.ext hx5
        replace bC := bC.ext hx5
        replace bD := bD.ext hx5
        replace hL := hL.ext hx5
        replace bQ := bQ.ext hx5
        replace hx := hx.ext hx5
        have hF5 := Ext.trans (hF4) hx5
        refine (cells_Load ⟨pa, po + 1, pt⟩ hL hn).mono ?_
        rintro e w7 ⟨rfl, hE6⟩
        replace bM := bM.ext hE6
        replace bP := bP.ext hE6
        replace bC := bC.ext hE6
        replace bD := bD.ext hE6
        replace hL := hL.ext hE6
        replace bQ := bQ.ext hE6
        replace hx := hx.ext hE6
        replace bA := bA.ext hE6
        have hF6 := Ext.trans (hF5) hE6
        rw [h2.out]
        dsimp only [Cell.val]
        have bM_0 : World.cell? w7 ⟨w.heap.size, 0, none⟩ = some (.slice a m.al.length cp) := bM.cell 0
        have bM_1 : World.cell? w7 ⟨w.heap.size, 1, none⟩ = some (.int .i64 m.next) := bM.cell 1
        have bM_l := bM.lt
        have bP_0 : World.cell? w7 ⟨w.heap.size + 1, 0, none⟩ = some (.int .i64 pa) := bP.cell 0
        have bP_1 : World.cell? w7 ⟨w.heap.size + 1, 1, none⟩ = some (.int .i64 po) := bP.cell 1
        have bP_2 : World.cell? w7 ⟨w.heap.size + 1, 2, none⟩ = some (.int .i64 pt) := bP.cell 2
        have bP_l := bP.lt
        have bC_0 : World.cell? w7 ⟨w.heap.size + 1 + 1, 0, none⟩ = some (.int .u8 ck) := bC.cell 0
        have bC_1 : World.cell? w7 ⟨w.heap.size + 1 + 1, 1, none⟩ = some (.int .i64 cn) := bC.cell 1
        have bC_2 : World.cell? w7 ⟨w.heap.size + 1 + 1, 2, none⟩ = some (.int .i64 ca) := bC.cell 2
        have bC_3 : World.cell? w7 ⟨w.heap.size + 1 + 1, 3, none⟩ = some (.int .i64 cb) := bC.cell 3
        have bC_4 : World.cell? w7 ⟨w.heap.size + 1 + 1, 4, none⟩ = some (.int .i64 ct) := bC.cell 4
        have bC_l := bC.lt
        have bD_0 : World.cell? w7 ⟨w.heap.size + 1 + 1 + 1, 0, none⟩ = some (.int .u8 dk) := bD.cell 0
        have bD_1 : World.cell? w7 ⟨w.heap.size + 1 + 1 + 1, 1, none⟩ = some (.int .i64 dn) := bD.cell 1
        have bD_2 : World.cell? w7 ⟨w.heap.size + 1 + 1 + 1, 2, none⟩ = some (.int .i64 da) := bD.cell 2
        have bD_3 : World.cell? w7 ⟨w.heap.size + 1 + 1 + 1, 3, none⟩ = some (.int .i64 db) := bD.cell 3
        have bD_4 : World.cell? w7 ⟨w.heap.size + 1 + 1 + 1, 4, none⟩ = some (.int .i64 dt) := bD.cell 4
        have bD_l := bD.lt
        have bQ_0 : World.cell? w7 ⟨w2.heap.size, 0, none⟩ = some (.int .i64 pa) := bQ.cell 0
        have bQ_1 : World.cell? w7 ⟨w2.heap.size, 1, none⟩ = some (.int .i64 (po + 1)) := bQ.cell 1
        have bQ_2 : World.cell? w7 ⟨w2.heap.size, 2, none⟩ = some (.int .i64 pt) := bQ.cell 2
        have bQ_l := bQ.lt
        have bA_0 : World.cell? w7 ⟨w5.heap.size, 0, none⟩ = some (.int .u8 fk) := bA.cell 0
        have bA_1 : World.cell? w7 ⟨w5.heap.size, 1, none⟩ = some (.int .i64 fn) := bA.cell 1
        have bA_2 : World.cell? w7 ⟨w5.heap.size, 2, none⟩ = some (.int .i64 fa) := bA.cell 2
        have bA_3 : World.cell? w7 ⟨w5.heap.size, 3, none⟩ = some (.int .i64 fb) := bA.cell 3
        have bA_4 : World.cell? w7 ⟨w5.heap.size, 4, none⟩ = some (.int .i64 ft) := bA.cell 4
        have bA_l := bA.lt
        go_upto_if 75 with fail
        clear bM_0 bM_1 bM_l
        clear bP_0 bP_1 bP_2 bP_l
        clear bC_0 bC_1 bC_2 bC_3 bC_4 bC_l
        clear bD_0 bD_1 bD_2 bD_3 bD_4 bD_l
        clear bQ_0 bQ_1 bQ_2 bQ_l
        clear bA_0 bA_1 bA_2 bA_3 bA_4 bA_l
        have bB := Box.new w7 50 #[.int .u8 gk, .int .i64 gn, .int .i64 ga, .int .i64 gb, .int .i64 gt]
        have hx7 : Ext w7 (World.alloc w7 (.cells #[.int .u8 gk, .int .i64 gn, .int .i64 ga, .int .i64 gb, .int .i64 gt] 50)) := (Ext.refl _).alloc _
        obtain ⟨w7b, hw7⟩ : ∃ x, World.alloc w7 (.cells #[.int .u8 gk, .int .i64 gn, .int .i64 ga, .int .i64 gb, .int .i64 gt] 50) = x := ⟨_, rfl⟩
        rw [hw7] at bB hx7 ⊢
        clear hw7
        replace bM := bM.ext hx7
        replace bP := bP.ext hx7
        replace bC := bC.ext hx7
        replace bD := bD.ext hx7
        replace hL := hL.ext hx7
        replace bQ := bQ.ext hx7
        replace hx := hx.ext hx7
        replace bA := bA.ext hx7
        have hF7 := Ext.trans (hF6) hx7
        go_cut [20] from 74 to 115 (fun s20 wx => Ext w7b wx)
        case first =>
          rcases hlaw1.out with ⟨u1, u2⟩ | ⟨u1, rfl, u2⟩ | ⟨rfl, rfl, rfl, ⟨rfl, rfl, rfl, rfl⟩ | ⟨rfl, u1, rfl, rfl⟩ | ⟨u1, rfl, rfl⟩⟩
          · have z0 : (err0 == 0) = false := by simp [u1]
            have z1 : (e1 == 0) = false := by simp [u2]
            have bM_0 : World.cell? w7b ⟨w.heap.size, 0, none⟩ = some (.slice a m.al.length cp) := bM.cell 0
            have bM_1 : World.cell? w7b ⟨w.heap.size, 1, none⟩ = some (.int .i64 m.next) := bM.cell 1
            have bM_l := bM.lt
            have bP_0 : World.cell? w7b ⟨w.heap.size + 1, 0, none⟩ = some (.int .i64 pa) := bP.cell 0
            have bP_1 : World.cell? w7b ⟨w.heap.size + 1, 1, none⟩ = some (.int .i64 po) := bP.cell 1
            have bP_2 : World.cell? w7b ⟨w.heap.size + 1, 2, none⟩ = some (.int .i64 pt) := bP.cell 2
            have bP_l := bP.lt
            have bC_0 : World.cell? w7b ⟨w.heap.size + 1 + 1, 0, none⟩ = some (.int .u8 ck) := bC.cell 0
            have bC_1 : World.cell? w7b ⟨w.heap.size + 1 + 1, 1, none⟩ = some (.int .i64 cn) := bC.cell 1
            have bC_2 : World.cell? w7b ⟨w.heap.size + 1 + 1, 2, none⟩ = some (.int .i64 ca) := bC.cell 2
            have bC_3 : World.cell? w7b ⟨w.heap.size + 1 + 1, 3, none⟩ = some (.int .i64 cb) := bC.cell 3
            have bC_4 : World.cell? w7b ⟨w.heap.size + 1 + 1, 4, none⟩ = some (.int .i64 ct) := bC.cell 4
            have bC_l := bC.lt
            have bD_0 : World.cell? w7b ⟨w.heap.size + 1 + 1 + 1, 0, none⟩ = some (.int .u8 dk) := bD.cell 0
            have bD_1 : World.cell? w7b ⟨w.heap.size + 1 + 1 + 1, 1, none⟩ = some (.int .i64 dn) := bD.cell 1
            have bD_2 : World.cell? w7b ⟨w.heap.size + 1 + 1 + 1, 2, none⟩ = some (.int .i64 da) := bD.cell 2
            have bD_3 : World.cell? w7b ⟨w.heap.size + 1 + 1 + 1, 3, none⟩ = some (.int .i64 db) := bD.cell 3
            have bD_4 : World.cell? w7b ⟨w.heap.size + 1 + 1 + 1, 4, none⟩ = some (.int .i64 dt) := bD.cell 4
            have bD_l := bD.lt
            have bQ_0 : World.cell? w7b ⟨w2.heap.size, 0, none⟩ = some (.int .i64 pa) := bQ.cell 0
            have bQ_1 : World.cell? w7b ⟨w2.heap.size, 1, none⟩ = some (.int .i64 (po + 1)) := bQ.cell 1
            have bQ_2 : World.cell? w7b ⟨w2.heap.size, 2, none⟩ = some (.int .i64 pt) := bQ.cell 2
            have bQ_l := bQ.lt
            have bA_0 : World.cell? w7b ⟨w5.heap.size, 0, none⟩ = some (.int .u8 fk) := bA.cell 0
            have bA_1 : World.cell? w7b ⟨w5.heap.size, 1, none⟩ = some (.int .i64 fn) := bA.cell 1
            have bA_2 : World.cell? w7b ⟨w5.heap.size, 2, none⟩ = some (.int .i64 fa) := bA.cell 2
            have bA_3 : World.cell? w7b ⟨w5.heap.size, 3, none⟩ = some (.int .i64 fb) := bA.cell 3
            have bA_4 : World.cell? w7b ⟨w5.heap.size, 4, none⟩ = some (.int .i64 ft) := bA.cell 4
            have bA_l := bA.lt
            have bB_0 : World.cell? w7b ⟨w7.heap.size, 0, none⟩ = some (.int .u8 gk) := bB.cell 0
            have bB_1 : World.cell? w7b ⟨w7.heap.size, 1, none⟩ = some (.int .i64 gn) := bB.cell 1
            have bB_2 : World.cell? w7b ⟨w7.heap.size, 2, none⟩ = some (.int .i64 ga) := bB.cell 2
            have bB_3 : World.cell? w7b ⟨w7.heap.size, 3, none⟩ = some (.int .i64 gb) := bB.cell 3
            have bB_4 : World.cell? w7b ⟨w7.heap.size, 4, none⟩ = some (.int .i64 gt) := bB.cell 4
            have bB_l := bB.lt
            go_wp2_with fail
            go_meet
            exact Ext.refl _
          · have z0 : (err0 == 0) = false := by simp [u1]
            have z1 : (e2 == 0) = false := by simp [u2]
            have bM_0 : World.cell? w7b ⟨w.heap.size, 0, none⟩ = some (.slice a m.al.length cp) := bM.cell 0
            have bM_1 : World.cell? w7b ⟨w.heap.size, 1, none⟩ = some (.int .i64 m.next) := bM.cell 1
            have bM_l := bM.lt
            have bP_0 : World.cell? w7b ⟨w.heap.size + 1, 0, none⟩ = some (.int .i64 pa) := bP.cell 0
            have bP_1 : World.cell? w7b ⟨w.heap.size + 1, 1, none⟩ = some (.int .i64 po) := bP.cell 1
            have bP_2 : World.cell? w7b ⟨w.heap.size + 1, 2, none⟩ = some (.int .i64 pt) := bP.cell 2
            have bP_l := bP.lt
            have bC_0 : World.cell? w7b ⟨w.heap.size + 1 + 1, 0, none⟩ = some (.int .u8 ck) := bC.cell 0
            have bC_1 : World.cell? w7b ⟨w.heap.size + 1 + 1, 1, none⟩ = some (.int .i64 cn) := bC.cell 1
            have bC_2 : World.cell? w7b ⟨w.heap.size + 1 + 1, 2, none⟩ = some (.int .i64 ca) := bC.cell 2
            have bC_3 : World.cell? w7b ⟨w.heap.size + 1 + 1, 3, none⟩ = some (.int .i64 cb) := bC.cell 3
            have bC_4 : World.cell? w7b ⟨w.heap.size + 1 + 1, 4, none⟩ = some (.int .i64 ct) := bC.cell 4
            have bC_l := bC.lt
            have bD_0 : World.cell? w7b ⟨w.heap.size + 1 + 1 + 1, 0, none⟩ = some (.int .u8 dk) := bD.cell 0
            have bD_1 : World.cell? w7b ⟨w.heap.size + 1 + 1 + 1, 1, none⟩ = some (.int .i64 dn) := bD.cell 1
            have bD_2 : World.cell? w7b ⟨w.heap.size + 1 + 1 + 1, 2, none⟩ = some (.int .i64 da) := bD.cell 2
            have bD_3 : World.cell? w7b ⟨w.heap.size + 1 + 1 + 1, 3, none⟩ = some (.int .i64 db) := bD.cell 3
            have bD_4 : World.cell? w7b ⟨w.heap.size + 1 + 1 + 1, 4, none⟩ = some (.int .i64 dt) := bD.cell 4
            have bD_l := bD.lt
            have bQ_0 : World.cell? w7b ⟨w2.heap.size, 0, none⟩ = some (.int .i64 pa) := bQ.cell 0
            have bQ_1 : World.cell? w7b ⟨w2.heap.size, 1, none⟩ = some (.int .i64 (po + 1)) := bQ.cell 1
            have bQ_2 : World.cell? w7b ⟨w2.heap.size, 2, none⟩ = some (.int .i64 pt) := bQ.cell 2
            have bQ_l := bQ.lt
            have bA_0 : World.cell? w7b ⟨w5.heap.size, 0, none⟩ = some (.int .u8 fk) := bA.cell 0
            have bA_1 : World.cell? w7b ⟨w5.heap.size, 1, none⟩ = some (.int .i64 fn) := bA.cell 1
            have bA_2 : World.cell? w7b ⟨w5.heap.size, 2, none⟩ = some (.int .i64 fa) := bA.cell 2
            have bA_3 : World.cell? w7b ⟨w5.heap.size, 3, none⟩ = some (.int .i64 fb) := bA.cell 3
            have bA_4 : World.cell? w7b ⟨w5.heap.size, 4, none⟩ = some (.int .i64 ft) := bA.cell 4
            have bA_l := bA.lt
            have bB_0 : World.cell? w7b ⟨w7.heap.size, 0, none⟩ = some (.int .u8 gk) := bB.cell 0
            have bB_1 : World.cell? w7b ⟨w7.heap.size, 1, none⟩ = some (.int .i64 gn) := bB.cell 1
            have bB_2 : World.cell? w7b ⟨w7.heap.size, 2, none⟩ = some (.int .i64 ga) := bB.cell 2
            have bB_3 : World.cell? w7b ⟨w7.heap.size, 3, none⟩ = some (.int .i64 gb) := bB.cell 3
            have bB_4 : World.cell? w7b ⟨w7.heap.size, 4, none⟩ = some (.int .i64 gt) := bB.cell 4
            have bB_l := bB.lt
            go_wp2_with fail
            go_meet
            exact Ext.refl _
          · skip
            have bM_0 : World.cell? w7b ⟨w.heap.size, 0, none⟩ = some (.slice a m.al.length cp) := bM.cell 0
            have bM_1 : World.cell? w7b ⟨w.heap.size, 1, none⟩ = some (.int .i64 m.next) := bM.cell 1
            have bM_l := bM.lt
            have bP_0 : World.cell? w7b ⟨w.heap.size + 1, 0, none⟩ = some (.int .i64 pa) := bP.cell 0
            have bP_1 : World.cell? w7b ⟨w.heap.size + 1, 1, none⟩ = some (.int .i64 po) := bP.cell 1
            have bP_2 : World.cell? w7b ⟨w.heap.size + 1, 2, none⟩ = some (.int .i64 pt) := bP.cell 2
            have bP_l := bP.lt
            have bC_0 : World.cell? w7b ⟨w.heap.size + 1 + 1, 0, none⟩ = some (.int .u8 ck) := bC.cell 0
            have bC_1 : World.cell? w7b ⟨w.heap.size + 1 + 1, 1, none⟩ = some (.int .i64 cn) := bC.cell 1
            have bC_2 : World.cell? w7b ⟨w.heap.size + 1 + 1, 2, none⟩ = some (.int .i64 ca) := bC.cell 2
            have bC_3 : World.cell? w7b ⟨w.heap.size + 1 + 1, 3, none⟩ = some (.int .i64 cb) := bC.cell 3
            have bC_4 : World.cell? w7b ⟨w.heap.size + 1 + 1, 4, none⟩ = some (.int .i64 ct) := bC.cell 4
            have bC_l := bC.lt
            have bD_0 : World.cell? w7b ⟨w.heap.size + 1 + 1 + 1, 0, none⟩ = some (.int .u8 dk) := bD.cell 0
            have bD_1 : World.cell? w7b ⟨w.heap.size + 1 + 1 + 1, 1, none⟩ = some (.int .i64 dn) := bD.cell 1
            have bD_2 : World.cell? w7b ⟨w.heap.size + 1 + 1 + 1, 2, none⟩ = some (.int .i64 da) := bD.cell 2
            have bD_3 : World.cell? w7b ⟨w.heap.size + 1 + 1 + 1, 3, none⟩ = some (.int .i64 db) := bD.cell 3
            have bD_4 : World.cell? w7b ⟨w.heap.size + 1 + 1 + 1, 4, none⟩ = some (.int .i64 dt) := bD.cell 4
            have bD_l := bD.lt
            have bQ_0 : World.cell? w7b ⟨w2.heap.size, 0, none⟩ = some (.int .i64 pa) := bQ.cell 0
            have bQ_1 : World.cell? w7b ⟨w2.heap.size, 1, none⟩ = some (.int .i64 (po + 1)) := bQ.cell 1
            have bQ_2 : World.cell? w7b ⟨w2.heap.size, 2, none⟩ = some (.int .i64 pt) := bQ.cell 2
            have bQ_l := bQ.lt
            have bA_0 : World.cell? w7b ⟨w5.heap.size, 0, none⟩ = some (.int .u8 fk) := bA.cell 0
            have bA_1 : World.cell? w7b ⟨w5.heap.size, 1, none⟩ = some (.int .i64 fn) := bA.cell 1
            have bA_2 : World.cell? w7b ⟨w5.heap.size, 2, none⟩ = some (.int .i64 fa) := bA.cell 2
            have bA_3 : World.cell? w7b ⟨w5.heap.size, 3, none⟩ = some (.int .i64 fb) := bA.cell 3
            have bA_4 : World.cell? w7b ⟨w5.heap.size, 4, none⟩ = some (.int .i64 ft) := bA.cell 4
            have bA_l := bA.lt
            have bB_0 : World.cell? w7b ⟨w7.heap.size, 0, none⟩ = some (.int .u8 gk) := bB.cell 0
            have bB_1 : World.cell? w7b ⟨w7.heap.size, 1, none⟩ = some (.int .i64 gn) := bB.cell 1
            have bB_2 : World.cell? w7b ⟨w7.heap.size, 2, none⟩ = some (.int .i64 ga) := bB.cell 2
            have bB_3 : World.cell? w7b ⟨w7.heap.size, 3, none⟩ = some (.int .i64 gb) := bB.cell 3
            have bB_4 : World.cell? w7b ⟨w7.heap.size, 4, none⟩ = some (.int .i64 gt) := bB.cell 4
            have bB_l := bB.lt
            go_wp2_with fail
            have bT := Box.new w7b 50 #[.int .u8 fk, .int .i64 fn, .int .i64 fa, .int .i64 fb, .int .i64 ft, .int .u8 gk, .int .i64 gn, .int .i64 ga, .int .i64 gb, .int .i64 gt]
            have hT := Cls.of_box (c := ⟨fk, fn, fa, fb, ft⟩) (d := ⟨gk, gn, ga, gb, gt⟩) bT
            have eT : Ext w7b _ := (Ext.refl w7b).alloc (.cells #[.int .u8 fk, .int .i64 fn, .int .i64 fa, .int .i64 fb, .int .i64 ft, .int .u8 gk, .int .i64 gn, .int .i64 ga, .int .i64 gb, .int .i64 gt] 50)
            refine (ref27_SameCells_yes (hx.ext eT) hT).mono ?_
            rintro e w50 ⟨rfl, eE⟩
            go_wp2_with fail
            go_meet
            exact eT.trans eE
          · have z0 : (why0 == 0) = false := by simp [u1]
            have bM_0 : World.cell? w7b ⟨w.heap.size, 0, none⟩ = some (.slice a m.al.length cp) := bM.cell 0
            have bM_1 : World.cell? w7b ⟨w.heap.size, 1, none⟩ = some (.int .i64 m.next) := bM.cell 1
            have bM_l := bM.lt
            have bP_0 : World.cell? w7b ⟨w.heap.size + 1, 0, none⟩ = some (.int .i64 pa) := bP.cell 0
            have bP_1 : World.cell? w7b ⟨w.heap.size + 1, 1, none⟩ = some (.int .i64 po) := bP.cell 1
            have bP_2 : World.cell? w7b ⟨w.heap.size + 1, 2, none⟩ = some (.int .i64 pt) := bP.cell 2
            have bP_l := bP.lt
            have bC_0 : World.cell? w7b ⟨w.heap.size + 1 + 1, 0, none⟩ = some (.int .u8 ck) := bC.cell 0
            have bC_1 : World.cell? w7b ⟨w.heap.size + 1 + 1, 1, none⟩ = some (.int .i64 cn) := bC.cell 1
            have bC_2 : World.cell? w7b ⟨w.heap.size + 1 + 1, 2, none⟩ = some (.int .i64 ca) := bC.cell 2
            have bC_3 : World.cell? w7b ⟨w.heap.size + 1 + 1, 3, none⟩ = some (.int .i64 cb) := bC.cell 3
            have bC_4 : World.cell? w7b ⟨w.heap.size + 1 + 1, 4, none⟩ = some (.int .i64 ct) := bC.cell 4
            have bC_l := bC.lt
            have bD_0 : World.cell? w7b ⟨w.heap.size + 1 + 1 + 1, 0, none⟩ = some (.int .u8 dk) := bD.cell 0
            have bD_1 : World.cell? w7b ⟨w.heap.size + 1 + 1 + 1, 1, none⟩ = some (.int .i64 dn) := bD.cell 1
            have bD_2 : World.cell? w7b ⟨w.heap.size + 1 + 1 + 1, 2, none⟩ = some (.int .i64 da) := bD.cell 2
            have bD_3 : World.cell? w7b ⟨w.heap.size + 1 + 1 + 1, 3, none⟩ = some (.int .i64 db) := bD.cell 3
            have bD_4 : World.cell? w7b ⟨w.heap.size + 1 + 1 + 1, 4, none⟩ = some (.int .i64 dt) := bD.cell 4
            have bD_l := bD.lt
            have bQ_0 : World.cell? w7b ⟨w2.heap.size, 0, none⟩ = some (.int .i64 pa) := bQ.cell 0
            have bQ_1 : World.cell? w7b ⟨w2.heap.size, 1, none⟩ = some (.int .i64 (po + 1)) := bQ.cell 1
            have bQ_2 : World.cell? w7b ⟨w2.heap.size, 2, none⟩ = some (.int .i64 pt) := bQ.cell 2
            have bQ_l := bQ.lt
            have bA_0 : World.cell? w7b ⟨w5.heap.size, 0, none⟩ = some (.int .u8 fk) := bA.cell 0
            have bA_1 : World.cell? w7b ⟨w5.heap.size, 1, none⟩ = some (.int .i64 fn) := bA.cell 1
            have bA_2 : World.cell? w7b ⟨w5.heap.size, 2, none⟩ = some (.int .i64 fa) := bA.cell 2
            have bA_3 : World.cell? w7b ⟨w5.heap.size, 3, none⟩ = some (.int .i64 fb) := bA.cell 3
            have bA_4 : World.cell? w7b ⟨w5.heap.size, 4, none⟩ = some (.int .i64 ft) := bA.cell 4
            have bA_l := bA.lt
            have bB_0 : World.cell? w7b ⟨w7.heap.size, 0, none⟩ = some (.int .u8 gk) := bB.cell 0
            have bB_1 : World.cell? w7b ⟨w7.heap.size, 1, none⟩ = some (.int .i64 gn) := bB.cell 1
            have bB_2 : World.cell? w7b ⟨w7.heap.size, 2, none⟩ = some (.int .i64 ga) := bB.cell 2
            have bB_3 : World.cell? w7b ⟨w7.heap.size, 3, none⟩ = some (.int .i64 gb) := bB.cell 3
            have bB_4 : World.cell? w7b ⟨w7.heap.size, 4, none⟩ = some (.int .i64 gt) := bB.cell 4
            have bB_l := bB.lt
            go_wp2_with fail
            go_meet
            exact Ext.refl _
          · have z0 : (why0 == 0) = false := by simp [u1]
            have bM_0 : World.cell? w7b ⟨w.heap.size, 0, none⟩ = some (.slice a m.al.length cp) := bM.cell 0
            have bM_1 : World.cell? w7b ⟨w.heap.size, 1, none⟩ = some (.int .i64 m.next) := bM.cell 1
            have bM_l := bM.lt
            have bP_0 : World.cell? w7b ⟨w.heap.size + 1, 0, none⟩ = some (.int .i64 pa) := bP.cell 0
            have bP_1 : World.cell? w7b ⟨w.heap.size + 1, 1, none⟩ = some (.int .i64 po) := bP.cell 1
            have bP_2 : World.cell? w7b ⟨w.heap.size + 1, 2, none⟩ = some (.int .i64 pt) := bP.cell 2
            have bP_l := bP.lt
            have bC_0 : World.cell? w7b ⟨w.heap.size + 1 + 1, 0, none⟩ = some (.int .u8 ck) := bC.cell 0
            have bC_1 : World.cell? w7b ⟨w.heap.size + 1 + 1, 1, none⟩ = some (.int .i64 cn) := bC.cell 1
            have bC_2 : World.cell? w7b ⟨w.heap.size + 1 + 1, 2, none⟩ = some (.int .i64 ca) := bC.cell 2
            have bC_3 : World.cell? w7b ⟨w.heap.size + 1 + 1, 3, none⟩ = some (.int .i64 cb) := bC.cell 3
            have bC_4 : World.cell? w7b ⟨w.heap.size + 1 + 1, 4, none⟩ = some (.int .i64 ct) := bC.cell 4
            have bC_l := bC.lt
            have bD_0 : World.cell? w7b ⟨w.heap.size + 1 + 1 + 1, 0, none⟩ = some (.int .u8 dk) := bD.cell 0
            have bD_1 : World.cell? w7b ⟨w.heap.size + 1 + 1 + 1, 1, none⟩ = some (.int .i64 dn) := bD.cell 1
            have bD_2 : World.cell? w7b ⟨w.heap.size + 1 + 1 + 1, 2, none⟩ = some (.int .i64 da) := bD.cell 2
            have bD_3 : World.cell? w7b ⟨w.heap.size + 1 + 1 + 1, 3, none⟩ = some (.int .i64 db) := bD.cell 3
            have bD_4 : World.cell? w7b ⟨w.heap.size + 1 + 1 + 1, 4, none⟩ = some (.int .i64 dt) := bD.cell 4
            have bD_l := bD.lt
            have bQ_0 : World.cell? w7b ⟨w2.heap.size, 0, none⟩ = some (.int .i64 pa) := bQ.cell 0
            have bQ_1 : World.cell? w7b ⟨w2.heap.size, 1, none⟩ = some (.int .i64 (po + 1)) := bQ.cell 1
            have bQ_2 : World.cell? w7b ⟨w2.heap.size, 2, none⟩ = some (.int .i64 pt) := bQ.cell 2
            have bQ_l := bQ.lt
            have bA_0 : World.cell? w7b ⟨w5.heap.size, 0, none⟩ = some (.int .u8 fk) := bA.cell 0
            have bA_1 : World.cell? w7b ⟨w5.heap.size, 1, none⟩ = some (.int .i64 fn) := bA.cell 1
            have bA_2 : World.cell? w7b ⟨w5.heap.size, 2, none⟩ = some (.int .i64 fa) := bA.cell 2
            have bA_3 : World.cell? w7b ⟨w5.heap.size, 3, none⟩ = some (.int .i64 fb) := bA.cell 3
            have bA_4 : World.cell? w7b ⟨w5.heap.size, 4, none⟩ = some (.int .i64 ft) := bA.cell 4
            have bA_l := bA.lt
            have bB_0 : World.cell? w7b ⟨w7.heap.size, 0, none⟩ = some (.int .u8 gk) := bB.cell 0
            have bB_1 : World.cell? w7b ⟨w7.heap.size, 1, none⟩ = some (.int .i64 gn) := bB.cell 1
            have bB_2 : World.cell? w7b ⟨w7.heap.size, 2, none⟩ = some (.int .i64 ga) := bB.cell 2
            have bB_3 : World.cell? w7b ⟨w7.heap.size, 3, none⟩ = some (.int .i64 gb) := bB.cell 3
            have bB_4 : World.cell? w7b ⟨w7.heap.size, 4, none⟩ = some (.int .i64 gt) := bB.cell 4
            have bB_l := bB.lt
            go_wp2_with fail
            go_meet
            exact Ext.refl _
        case rest =>
          replace bM := bM.ext hcut
          replace bP := bP.ext hcut
          replace bC := bC.ext hcut
          replace bD := bD.ext hcut
          replace hL := hL.ext hcut
          replace bQ := bQ.ext hcut
          replace hx := hx.ext hcut
          replace bA := bA.ext hcut
          replace bB := bB.ext hcut
          have hF8 := Ext.trans (hF7) hcut
          have bM_0 : World.cell? wc ⟨w.heap.size, 0, none⟩ = some (.slice a m.al.length cp) := bM.cell 0
          have bM_1 : World.cell? wc ⟨w.heap.size, 1, none⟩ = some (.int .i64 m.next) := bM.cell 1
          have bM_l := bM.lt
          have bP_0 : World.cell? wc ⟨w.heap.size + 1, 0, none⟩ = some (.int .i64 pa) := bP.cell 0
          have bP_1 : World.cell? wc ⟨w.heap.size + 1, 1, none⟩ = some (.int .i64 po) := bP.cell 1
          have bP_2 : World.cell? wc ⟨w.heap.size + 1, 2, none⟩ = some (.int .i64 pt) := bP.cell 2
          have bP_l := bP.lt
          have bC_0 : World.cell? wc ⟨w.heap.size + 1 + 1, 0, none⟩ = some (.int .u8 ck) := bC.cell 0
          have bC_1 : World.cell? wc ⟨w.heap.size + 1 + 1, 1, none⟩ = some (.int .i64 cn) := bC.cell 1
          have bC_2 : World.cell? wc ⟨w.heap.size + 1 + 1, 2, none⟩ = some (.int .i64 ca) := bC.cell 2
          have bC_3 : World.cell? wc ⟨w.heap.size + 1 + 1, 3, none⟩ = some (.int .i64 cb) := bC.cell 3
          have bC_4 : World.cell? wc ⟨w.heap.size + 1 + 1, 4, none⟩ = some (.int .i64 ct) := bC.cell 4
          have bC_l := bC.lt
          have bD_0 : World.cell? wc ⟨w.heap.size + 1 + 1 + 1, 0, none⟩ = some (.int .u8 dk) := bD.cell 0
          have bD_1 : World.cell? wc ⟨w.heap.size + 1 + 1 + 1, 1, none⟩ = some (.int .i64 dn) := bD.cell 1
          have bD_2 : World.cell? wc ⟨w.heap.size + 1 + 1 + 1, 2, none⟩ = some (.int .i64 da) := bD.cell 2
          have bD_3 : World.cell? wc ⟨w.heap.size + 1 + 1 + 1, 3, none⟩ = some (.int .i64 db) := bD.cell 3
          have bD_4 : World.cell? wc ⟨w.heap.size + 1 + 1 + 1, 4, none⟩ = some (.int .i64 dt) := bD.cell 4
          have bD_l := bD.lt
          have bQ_0 : World.cell? wc ⟨w2.heap.size, 0, none⟩ = some (.int .i64 pa) := bQ.cell 0
          have bQ_1 : World.cell? wc ⟨w2.heap.size, 1, none⟩ = some (.int .i64 (po + 1)) := bQ.cell 1
          have bQ_2 : World.cell? wc ⟨w2.heap.size, 2, none⟩ = some (.int .i64 pt) := bQ.cell 2
          have bQ_l := bQ.lt
          have bA_0 : World.cell? wc ⟨w5.heap.size, 0, none⟩ = some (.int .u8 fk) := bA.cell 0
          have bA_1 : World.cell? wc ⟨w5.heap.size, 1, none⟩ = some (.int .i64 fn) := bA.cell 1
          have bA_2 : World.cell? wc ⟨w5.heap.size, 2, none⟩ = some (.int .i64 fa) := bA.cell 2
          have bA_3 : World.cell? wc ⟨w5.heap.size, 3, none⟩ = some (.int .i64 fb) := bA.cell 3
          have bA_4 : World.cell? wc ⟨w5.heap.size, 4, none⟩ = some (.int .i64 ft) := bA.cell 4
          have bA_l := bA.lt
          have bB_0 : World.cell? wc ⟨w7.heap.size, 0, none⟩ = some (.int .u8 gk) := bB.cell 0
          have bB_1 : World.cell? wc ⟨w7.heap.size, 1, none⟩ = some (.int .i64 gn) := bB.cell 1
          have bB_2 : World.cell? wc ⟨w7.heap.size, 2, none⟩ = some (.int .i64 ga) := bB.cell 2
          have bB_3 : World.cell? wc ⟨w7.heap.size, 3, none⟩ = some (.int .i64 gb) := bB.cell 3
          have bB_4 : World.cell? wc ⟨w7.heap.size, 4, none⟩ = some (.int .i64 gt) := bB.cell 4
          have bB_l := bB.lt
          go_wp2_with fail
          clear bM_0 bM_1 bM_l
          clear bP_0 bP_1 bP_2 bP_l
          clear bC_0 bC_1 bC_2 bC_3 bC_4 bC_l
          clear bD_0 bD_1 bD_2 bD_3 bD_4 bD_l
          clear bQ_0 bQ_1 bQ_2 bQ_l
          clear bA_0 bA_1 bA_2 bA_3 bA_4 bA_l
          clear bB_0 bB_1 bB_2 bB_3 bB_4 bB_l
          have bT := Box.new wc 50 #[.int .u8 ck, .int .i64 cn, .int .i64 ca, .int .i64 cb, .int .i64 ct, .int .u8 dk, .int .i64 dn, .int .i64 da, .int .i64 db, .int .i64 dt]
          have hx9 : Ext wc (World.alloc wc (.cells #[.int .u8 ck, .int .i64 cn, .int .i64 ca, .int .i64 cb, .int .i64 ct, .int .u8 dk, .int .i64 dn, .int .i64 da, .int .i64 db, .int .i64 dt] 50)) := (Ext.refl _).alloc _
          obtain ⟨w9b, hw9⟩ : ∃ x, World.alloc wc (.cells #[.int .u8 ck, .int .i64 cn, .int .i64 ca, .int .i64 cb, .int .i64 ct, .int .u8 dk, .int .i64 dn, .int .i64 da, .int .i64 db, .int .i64 dt] 50) = x := ⟨_, rfl⟩
          rw [hw9] at bT hx9 ⊢
          clear hw9
          replace bM := bM.ext hx9
          replace bP := bP.ext hx9
          replace bC := bC.ext hx9
          replace bD := bD.ext hx9
          replace hL := hL.ext hx9
          replace bQ := bQ.ext hx9
          replace hx := hx.ext hx9
          replace bA := bA.ext hx9
          replace bB := bB.ext hx9
          have hF9 := Ext.trans (hF8) hx9
          refine (cells_StoreAll (m := m) (l := [⟨ck, cn, ca, cb, ct⟩, ⟨dk, dn, da, db, dt⟩]) ⟨pa, po, pt⟩ hL hn (Cls.of_box (c := ⟨ck, cn, ca, cb, ct⟩) (d := ⟨dk, dn, da, db, dt⟩) bT)).mono ?_
          rintro e w11 ⟨vX, rfl, fX, hE10⟩
          replace bM := bM.ext hE10
          replace bP := bP.ext hE10
          replace bC := bC.ext hE10
          replace bD := bD.ext hE10
          replace hL := hL.ext hE10
          replace bQ := bQ.ext hE10
          replace hx := hx.ext hE10
          replace bA := bA.ext hE10
          replace bB := bB.ext hE10
          replace bT := bT.ext hE10
          have hF10 := Ext.trans (hF9) hE10
          rw [h3.out] at fX
          rw [h3.out]
          obtain ⟨vX', rfl, hX⟩ := FrM.read fX
          obtain ⟨sX, cX, rfl, -⟩ := hX.form
          clear fX
          dsimp only
          have bM_0 : World.cell? w11 ⟨w.heap.size, 0, none⟩ = some (.slice a m.al.length cp) := bM.cell 0
          have bM_1 : World.cell? w11 ⟨w.heap.size, 1, none⟩ = some (.int .i64 m.next) := bM.cell 1
          have bM_l := bM.lt
          have bP_0 : World.cell? w11 ⟨w.heap.size + 1, 0, none⟩ = some (.int .i64 pa) := bP.cell 0
          have bP_1 : World.cell? w11 ⟨w.heap.size + 1, 1, none⟩ = some (.int .i64 po) := bP.cell 1
          have bP_2 : World.cell? w11 ⟨w.heap.size + 1, 2, none⟩ = some (.int .i64 pt) := bP.cell 2
          have bP_l := bP.lt
          have bC_0 : World.cell? w11 ⟨w.heap.size + 1 + 1, 0, none⟩ = some (.int .u8 ck) := bC.cell 0
          have bC_1 : World.cell? w11 ⟨w.heap.size + 1 + 1, 1, none⟩ = some (.int .i64 cn) := bC.cell 1
          have bC_2 : World.cell? w11 ⟨w.heap.size + 1 + 1, 2, none⟩ = some (.int .i64 ca) := bC.cell 2
          have bC_3 : World.cell? w11 ⟨w.heap.size + 1 + 1, 3, none⟩ = some (.int .i64 cb) := bC.cell 3
          have bC_4 : World.cell? w11 ⟨w.heap.size + 1 + 1, 4, none⟩ = some (.int .i64 ct) := bC.cell 4
          have bC_l := bC.lt
          have bD_0 : World.cell? w11 ⟨w.heap.size + 1 + 1 + 1, 0, none⟩ = some (.int .u8 dk) := bD.cell 0
          have bD_1 : World.cell? w11 ⟨w.heap.size + 1 + 1 + 1, 1, none⟩ = some (.int .i64 dn) := bD.cell 1
          have bD_2 : World.cell? w11 ⟨w.heap.size + 1 + 1 + 1, 2, none⟩ = some (.int .i64 da) := bD.cell 2
          have bD_3 : World.cell? w11 ⟨w.heap.size + 1 + 1 + 1, 3, none⟩ = some (.int .i64 db) := bD.cell 3
          have bD_4 : World.cell? w11 ⟨w.heap.size + 1 + 1 + 1, 4, none⟩ = some (.int .i64 dt) := bD.cell 4
          have bD_l := bD.lt
          have bQ_0 : World.cell? w11 ⟨w2.heap.size, 0, none⟩ = some (.int .i64 pa) := bQ.cell 0
          have bQ_1 : World.cell? w11 ⟨w2.heap.size, 1, none⟩ = some (.int .i64 (po + 1)) := bQ.cell 1
          have bQ_2 : World.cell? w11 ⟨w2.heap.size, 2, none⟩ = some (.int .i64 pt) := bQ.cell 2
          have bQ_l := bQ.lt
          have bA_0 : World.cell? w11 ⟨w5.heap.size, 0, none⟩ = some (.int .u8 fk) := bA.cell 0
          have bA_1 : World.cell? w11 ⟨w5.heap.size, 1, none⟩ = some (.int .i64 fn) := bA.cell 1
          have bA_2 : World.cell? w11 ⟨w5.heap.size, 2, none⟩ = some (.int .i64 fa) := bA.cell 2
          have bA_3 : World.cell? w11 ⟨w5.heap.size, 3, none⟩ = some (.int .i64 fb) := bA.cell 3
          have bA_4 : World.cell? w11 ⟨w5.heap.size, 4, none⟩ = some (.int .i64 ft) := bA.cell 4
          have bA_l := bA.lt
          have bB_0 : World.cell? w11 ⟨w7.heap.size, 0, none⟩ = some (.int .u8 gk) := bB.cell 0
          have bB_1 : World.cell? w11 ⟨w7.heap.size, 1, none⟩ = some (.int .i64 gn) := bB.cell 1
          have bB_2 : World.cell? w11 ⟨w7.heap.size, 2, none⟩ = some (.int .i64 ga) := bB.cell 2
          have bB_3 : World.cell? w11 ⟨w7.heap.size, 3, none⟩ = some (.int .i64 gb) := bB.cell 3
          have bB_4 : World.cell? w11 ⟨w7.heap.size, 4, none⟩ = some (.int .i64 gt) := bB.cell 4
          have bB_l := bB.lt
          have bT_0 : World.cell? w11 ⟨wc.heap.size, 0, none⟩ = some (.int .u8 ck) := bT.cell 0
          have bT_1 : World.cell? w11 ⟨wc.heap.size, 1, none⟩ = some (.int .i64 cn) := bT.cell 1
          have bT_2 : World.cell? w11 ⟨wc.heap.size, 2, none⟩ = some (.int .i64 ca) := bT.cell 2
          have bT_3 : World.cell? w11 ⟨wc.heap.size, 3, none⟩ = some (.int .i64 cb) := bT.cell 3
          have bT_4 : World.cell? w11 ⟨wc.heap.size, 4, none⟩ = some (.int .i64 ct) := bT.cell 4
          have bT_5 : World.cell? w11 ⟨wc.heap.size, 5, none⟩ = some (.int .u8 dk) := bT.cell 5
          have bT_6 : World.cell? w11 ⟨wc.heap.size, 6, none⟩ = some (.int .i64 dn) := bT.cell 6
          have bT_7 : World.cell? w11 ⟨wc.heap.size, 7, none⟩ = some (.int .i64 da) := bT.cell 7
          have bT_8 : World.cell? w11 ⟨wc.heap.size, 8, none⟩ = some (.int .i64 db) := bT.cell 8
          have bT_9 : World.cell? w11 ⟨wc.heap.size, 9, none⟩ = some (.int .i64 dt) := bT.cell 9
          have bT_l := bT.lt
          go_wp2_with fail
          clear bM_0 bM_1 bM_l
          clear bP_0 bP_1 bP_2 bP_l
          clear bC_0 bC_1 bC_2 bC_3 bC_4 bC_l
          clear bD_0 bD_1 bD_2 bD_3 bD_4 bD_l
          clear bQ_0 bQ_1 bQ_2 bQ_l
          clear bA_0 bA_1 bA_2 bA_3 bA_4 bA_l
          clear bB_0 bB_1 bB_2 bB_3 bB_4 bB_l
          clear bT_0 bT_1 bT_2 bT_3 bT_4 bT_5 bT_6 bT_7 bT_8 bT_9 bT_l
          have boX := Box.new w11 41 #[.slice sX X.al.length cX, .int .i64 X.next]
          have hx11 : Ext w11 (World.alloc w11 (.cells #[.slice sX X.al.length cX, .int .i64 X.next] 41)) := (Ext.refl _).alloc _
          obtain ⟨w11b, hw11⟩ : ∃ x, World.alloc w11 (.cells #[.slice sX X.al.length cX, .int .i64 X.next] 41) = x := ⟨_, rfl⟩
          rw [hw11] at boX hx11 ⊢
          clear hw11
          replace bM := bM.ext hx11
          replace bP := bP.ext hx11
          replace bC := bC.ext hx11
          replace bD := bD.ext hx11
          replace hL := hL.ext hx11
          replace bQ := bQ.ext hx11
          replace hx := hx.ext hx11
          replace bA := bA.ext hx11
          replace bB := bB.ext hx11
          replace bT := bT.ext hx11
          replace hX := hX.ext hx11
          have hF11 := Ext.trans (hF10) hx11
          refine (cells_Store (m := m) ⟨pa, po, pt⟩ ⟨ck, cn, ca, cb, ct⟩ hL hn).mono ?_
          rintro e w13 ⟨vY, rfl, fY, hE12⟩
          replace bM := bM.ext hE12
          replace bP := bP.ext hE12
          replace bC := bC.ext hE12
          replace bD := bD.ext hE12
          replace hL := hL.ext hE12
          replace bQ := bQ.ext hE12
          replace hx := hx.ext hE12
          replace bA := bA.ext hE12
          replace bB := bB.ext hE12
          replace bT := bT.ext hE12
          replace hX := hX.ext hE12
          replace boX := boX.ext hE12
          have hF12 := Ext.trans (hF11) hE12
          rw [h4.out] at fY
          rw [h4.out]
          obtain ⟨vY', rfl, hY⟩ := FrM.read fY
          obtain ⟨sY, cY, rfl, -⟩ := hY.form
          clear fY
          dsimp only
          rcases hlaw2.out with ⟨u1, u2⟩ | ⟨rfl, rfl, u2⟩ | ⟨rfl, rfl, Y', u1, u2, u3⟩
          · have z0 : (k0 == 0) = false := by simp [u1]
            replace u2 := Lib.hid u2
            have bM_0 : World.cell? w13 ⟨w.heap.size, 0, none⟩ = some (.slice a m.al.length cp) := bM.cell 0
            have bM_1 : World.cell? w13 ⟨w.heap.size, 1, none⟩ = some (.int .i64 m.next) := bM.cell 1
            have bM_l := bM.lt
            have bP_0 : World.cell? w13 ⟨w.heap.size + 1, 0, none⟩ = some (.int .i64 pa) := bP.cell 0
            have bP_1 : World.cell? w13 ⟨w.heap.size + 1, 1, none⟩ = some (.int .i64 po) := bP.cell 1
            have bP_2 : World.cell? w13 ⟨w.heap.size + 1, 2, none⟩ = some (.int .i64 pt) := bP.cell 2
            have bP_l := bP.lt
            have bC_0 : World.cell? w13 ⟨w.heap.size + 1 + 1, 0, none⟩ = some (.int .u8 ck) := bC.cell 0
            have bC_1 : World.cell? w13 ⟨w.heap.size + 1 + 1, 1, none⟩ = some (.int .i64 cn) := bC.cell 1
            have bC_2 : World.cell? w13 ⟨w.heap.size + 1 + 1, 2, none⟩ = some (.int .i64 ca) := bC.cell 2
            have bC_3 : World.cell? w13 ⟨w.heap.size + 1 + 1, 3, none⟩ = some (.int .i64 cb) := bC.cell 3
            have bC_4 : World.cell? w13 ⟨w.heap.size + 1 + 1, 4, none⟩ = some (.int .i64 ct) := bC.cell 4
            have bC_l := bC.lt
            have bD_0 : World.cell? w13 ⟨w.heap.size + 1 + 1 + 1, 0, none⟩ = some (.int .u8 dk) := bD.cell 0
            have bD_1 : World.cell? w13 ⟨w.heap.size + 1 + 1 + 1, 1, none⟩ = some (.int .i64 dn) := bD.cell 1
            have bD_2 : World.cell? w13 ⟨w.heap.size + 1 + 1 + 1, 2, none⟩ = some (.int .i64 da) := bD.cell 2
            have bD_3 : World.cell? w13 ⟨w.heap.size + 1 + 1 + 1, 3, none⟩ = some (.int .i64 db) := bD.cell 3
            have bD_4 : World.cell? w13 ⟨w.heap.size + 1 + 1 + 1, 4, none⟩ = some (.int .i64 dt) := bD.cell 4
            have bD_l := bD.lt
            have bQ_0 : World.cell? w13 ⟨w2.heap.size, 0, none⟩ = some (.int .i64 pa) := bQ.cell 0
            have bQ_1 : World.cell? w13 ⟨w2.heap.size, 1, none⟩ = some (.int .i64 (po + 1)) := bQ.cell 1
            have bQ_2 : World.cell? w13 ⟨w2.heap.size, 2, none⟩ = some (.int .i64 pt) := bQ.cell 2
            have bQ_l := bQ.lt
            have bA_0 : World.cell? w13 ⟨w5.heap.size, 0, none⟩ = some (.int .u8 fk) := bA.cell 0
            have bA_1 : World.cell? w13 ⟨w5.heap.size, 1, none⟩ = some (.int .i64 fn) := bA.cell 1
            have bA_2 : World.cell? w13 ⟨w5.heap.size, 2, none⟩ = some (.int .i64 fa) := bA.cell 2
            have bA_3 : World.cell? w13 ⟨w5.heap.size, 3, none⟩ = some (.int .i64 fb) := bA.cell 3
            have bA_4 : World.cell? w13 ⟨w5.heap.size, 4, none⟩ = some (.int .i64 ft) := bA.cell 4
            have bA_l := bA.lt
            have bB_0 : World.cell? w13 ⟨w7.heap.size, 0, none⟩ = some (.int .u8 gk) := bB.cell 0
            have bB_1 : World.cell? w13 ⟨w7.heap.size, 1, none⟩ = some (.int .i64 gn) := bB.cell 1
            have bB_2 : World.cell? w13 ⟨w7.heap.size, 2, none⟩ = some (.int .i64 ga) := bB.cell 2
            have bB_3 : World.cell? w13 ⟨w7.heap.size, 3, none⟩ = some (.int .i64 gb) := bB.cell 3
            have bB_4 : World.cell? w13 ⟨w7.heap.size, 4, none⟩ = some (.int .i64 gt) := bB.cell 4
            have bB_l := bB.lt
            have bT_0 : World.cell? w13 ⟨wc.heap.size, 0, none⟩ = some (.int .u8 ck) := bT.cell 0
            have bT_1 : World.cell? w13 ⟨wc.heap.size, 1, none⟩ = some (.int .i64 cn) := bT.cell 1
            have bT_2 : World.cell? w13 ⟨wc.heap.size, 2, none⟩ = some (.int .i64 ca) := bT.cell 2
            have bT_3 : World.cell? w13 ⟨wc.heap.size, 3, none⟩ = some (.int .i64 cb) := bT.cell 3
            have bT_4 : World.cell? w13 ⟨wc.heap.size, 4, none⟩ = some (.int .i64 ct) := bT.cell 4
            have bT_5 : World.cell? w13 ⟨wc.heap.size, 5, none⟩ = some (.int .u8 dk) := bT.cell 5
            have bT_6 : World.cell? w13 ⟨wc.heap.size, 6, none⟩ = some (.int .i64 dn) := bT.cell 6
            have bT_7 : World.cell? w13 ⟨wc.heap.size, 7, none⟩ = some (.int .i64 da) := bT.cell 7
            have bT_8 : World.cell? w13 ⟨wc.heap.size, 8, none⟩ = some (.int .i64 db) := bT.cell 8
            have bT_9 : World.cell? w13 ⟨wc.heap.size, 9, none⟩ = some (.int .i64 dt) := bT.cell 9
            have bT_l := bT.lt
            have boX_0 : World.cell? w13 ⟨w11.heap.size, 0, none⟩ = some (.slice sX X.al.length cX) := boX.cell 0
            have boX_1 : World.cell? w13 ⟨w11.heap.size, 1, none⟩ = some (.int .i64 X.next) := boX.cell 1
            have boX_l := boX.lt
            go_wp2_with fail
            clear bM_0 bM_1 bM_l
            clear bP_0 bP_1 bP_2 bP_l
            clear bC_0 bC_1 bC_2 bC_3 bC_4 bC_l
            clear bD_0 bD_1 bD_2 bD_3 bD_4 bD_l
            clear bQ_0 bQ_1 bQ_2 bQ_l
            clear bA_0 bA_1 bA_2 bA_3 bA_4 bA_l
            clear bB_0 bB_1 bB_2 bB_3 bB_4 bB_l
            clear bT_0 bT_1 bT_2 bT_3 bT_4 bT_5 bT_6 bT_7 bT_8 bT_9 bT_l
            clear boX_0 boX_1 boX_l
            have boY := Box.new w13 41 #[.slice sY Y.al.length cY, .int .i64 Y.next]
            have hx63 : Ext w13 (World.alloc w13 (.cells #[.slice sY Y.al.length cY, .int .i64 Y.next] 41)) := (Ext.refl _).alloc _
            obtain ⟨w63b, hw63⟩ : ∃ x, World.alloc w13 (.cells #[.slice sY Y.al.length cY, .int .i64 Y.next] 41) = x := ⟨_, rfl⟩
            rw [hw63] at boY hx63 ⊢
            clear hw63
            replace bM := bM.ext hx63
            replace bP := bP.ext hx63
            replace bC := bC.ext hx63
            replace bD := bD.ext hx63
            replace hL := hL.ext hx63
            replace bQ := bQ.ext hx63
            replace hx := hx.ext hx63
            replace bA := bA.ext hx63
            replace bB := bB.ext hx63
            replace bT := bT.ext hx63
            replace hX := hX.ext hx63
            replace boX := boX.ext hx63
            replace hY := hY.ext hx63
            have hF63 := Ext.trans (hF12) hx63
            refine (ref26_Same_zero u2.out hX).mono ?_
            rintro e w65 ⟨rfl, hE64⟩
            replace bM := bM.ext hE64
            replace bP := bP.ext hE64
            replace bC := bC.ext hE64
            replace bD := bD.ext hE64
            replace hL := hL.ext hE64
            replace bQ := bQ.ext hE64
            replace hx := hx.ext hE64
            replace bA := bA.ext hE64
            replace bB := bB.ext hE64
            replace bT := bT.ext hE64
            replace hX := hX.ext hE64
            replace boX := boX.ext hE64
            replace hY := hY.ext hE64
            replace boY := boY.ext hE64
            have hF64 := Ext.trans (hF63) hE64
            go_wp2
            go_ret
            exact ⟨rfl, hF64⟩
          · skip
            replace u2 := Lib.hid u2
            have bM_0 : World.cell? w13 ⟨w.heap.size, 0, none⟩ = some (.slice a m.al.length cp) := bM.cell 0
            have bM_1 : World.cell? w13 ⟨w.heap.size, 1, none⟩ = some (.int .i64 m.next) := bM.cell 1
            have bM_l := bM.lt
            have bP_0 : World.cell? w13 ⟨w.heap.size + 1, 0, none⟩ = some (.int .i64 pa) := bP.cell 0
            have bP_1 : World.cell? w13 ⟨w.heap.size + 1, 1, none⟩ = some (.int .i64 po) := bP.cell 1
            have bP_2 : World.cell? w13 ⟨w.heap.size + 1, 2, none⟩ = some (.int .i64 pt) := bP.cell 2
            have bP_l := bP.lt
            have bC_0 : World.cell? w13 ⟨w.heap.size + 1 + 1, 0, none⟩ = some (.int .u8 ck) := bC.cell 0
            have bC_1 : World.cell? w13 ⟨w.heap.size + 1 + 1, 1, none⟩ = some (.int .i64 cn) := bC.cell 1
            have bC_2 : World.cell? w13 ⟨w.heap.size + 1 + 1, 2, none⟩ = some (.int .i64 ca) := bC.cell 2
            have bC_3 : World.cell? w13 ⟨w.heap.size + 1 + 1, 3, none⟩ = some (.int .i64 cb) := bC.cell 3
            have bC_4 : World.cell? w13 ⟨w.heap.size + 1 + 1, 4, none⟩ = some (.int .i64 ct) := bC.cell 4
            have bC_l := bC.lt
            have bD_0 : World.cell? w13 ⟨w.heap.size + 1 + 1 + 1, 0, none⟩ = some (.int .u8 dk) := bD.cell 0
            have bD_1 : World.cell? w13 ⟨w.heap.size + 1 + 1 + 1, 1, none⟩ = some (.int .i64 dn) := bD.cell 1
            have bD_2 : World.cell? w13 ⟨w.heap.size + 1 + 1 + 1, 2, none⟩ = some (.int .i64 da) := bD.cell 2
            have bD_3 : World.cell? w13 ⟨w.heap.size + 1 + 1 + 1, 3, none⟩ = some (.int .i64 db) := bD.cell 3
            have bD_4 : World.cell? w13 ⟨w.heap.size + 1 + 1 + 1, 4, none⟩ = some (.int .i64 dt) := bD.cell 4
            have bD_l := bD.lt
            have bQ_0 : World.cell? w13 ⟨w2.heap.size, 0, none⟩ = some (.int .i64 pa) := bQ.cell 0
            have bQ_1 : World.cell? w13 ⟨w2.heap.size, 1, none⟩ = some (.int .i64 (po + 1)) := bQ.cell 1
            have bQ_2 : World.cell? w13 ⟨w2.heap.size, 2, none⟩ = some (.int .i64 pt) := bQ.cell 2
            have bQ_l := bQ.lt
            have bA_0 : World.cell? w13 ⟨w5.heap.size, 0, none⟩ = some (.int .u8 fk) := bA.cell 0
            have bA_1 : World.cell? w13 ⟨w5.heap.size, 1, none⟩ = some (.int .i64 fn) := bA.cell 1
            have bA_2 : World.cell? w13 ⟨w5.heap.size, 2, none⟩ = some (.int .i64 fa) := bA.cell 2
            have bA_3 : World.cell? w13 ⟨w5.heap.size, 3, none⟩ = some (.int .i64 fb) := bA.cell 3
            have bA_4 : World.cell? w13 ⟨w5.heap.size, 4, none⟩ = some (.int .i64 ft) := bA.cell 4
            have bA_l := bA.lt
            have bB_0 : World.cell? w13 ⟨w7.heap.size, 0, none⟩ = some (.int .u8 gk) := bB.cell 0
            have bB_1 : World.cell? w13 ⟨w7.heap.size, 1, none⟩ = some (.int .i64 gn) := bB.cell 1
            have bB_2 : World.cell? w13 ⟨w7.heap.size, 2, none⟩ = some (.int .i64 ga) := bB.cell 2
            have bB_3 : World.cell? w13 ⟨w7.heap.size, 3, none⟩ = some (.int .i64 gb) := bB.cell 3
            have bB_4 : World.cell? w13 ⟨w7.heap.size, 4, none⟩ = some (.int .i64 gt) := bB.cell 4
            have bB_l := bB.lt
            have bT_0 : World.cell? w13 ⟨wc.heap.size, 0, none⟩ = some (.int .u8 ck) := bT.cell 0
            have bT_1 : World.cell? w13 ⟨wc.heap.size, 1, none⟩ = some (.int .i64 cn) := bT.cell 1
            have bT_2 : World.cell? w13 ⟨wc.heap.size, 2, none⟩ = some (.int .i64 ca) := bT.cell 2
            have bT_3 : World.cell? w13 ⟨wc.heap.size, 3, none⟩ = some (.int .i64 cb) := bT.cell 3
            have bT_4 : World.cell? w13 ⟨wc.heap.size, 4, none⟩ = some (.int .i64 ct) := bT.cell 4
            have bT_5 : World.cell? w13 ⟨wc.heap.size, 5, none⟩ = some (.int .u8 dk) := bT.cell 5
            have bT_6 : World.cell? w13 ⟨wc.heap.size, 6, none⟩ = some (.int .i64 dn) := bT.cell 6
            have bT_7 : World.cell? w13 ⟨wc.heap.size, 7, none⟩ = some (.int .i64 da) := bT.cell 7
            have bT_8 : World.cell? w13 ⟨wc.heap.size, 8, none⟩ = some (.int .i64 db) := bT.cell 8
            have bT_9 : World.cell? w13 ⟨wc.heap.size, 9, none⟩ = some (.int .i64 dt) := bT.cell 9
            have bT_l := bT.lt
            have boX_0 : World.cell? w13 ⟨w11.heap.size, 0, none⟩ = some (.slice sX X.al.length cX) := boX.cell 0
            have boX_1 : World.cell? w13 ⟨w11.heap.size, 1, none⟩ = some (.int .i64 X.next) := boX.cell 1
            have boX_l := boX.lt
            go_wp2_with fail
            clear bM_0 bM_1 bM_l
            clear bP_0 bP_1 bP_2 bP_l
            clear bC_0 bC_1 bC_2 bC_3 bC_4 bC_l
            clear bD_0 bD_1 bD_2 bD_3 bD_4 bD_l
            clear bQ_0 bQ_1 bQ_2 bQ_l
            clear bA_0 bA_1 bA_2 bA_3 bA_4 bA_l
            clear bB_0 bB_1 bB_2 bB_3 bB_4 bB_l
            clear bT_0 bT_1 bT_2 bT_3 bT_4 bT_5 bT_6 bT_7 bT_8 bT_9 bT_l
            clear boX_0 boX_1 boX_l
            have boY := Box.new w13 41 #[.slice sY Y.al.length cY, .int .i64 Y.next]
            have hx63 : Ext w13 (World.alloc w13 (.cells #[.slice sY Y.al.length cY, .int .i64 Y.next] 41)) := (Ext.refl _).alloc _
            obtain ⟨w63b, hw63⟩ : ∃ x, World.alloc w13 (.cells #[.slice sY Y.al.length cY, .int .i64 Y.next] 41) = x := ⟨_, rfl⟩
            rw [hw63] at boY hx63 ⊢
            clear hw63
            replace bM := bM.ext hx63
            replace bP := bP.ext hx63
            replace bC := bC.ext hx63
            replace bD := bD.ext hx63
            replace hL := hL.ext hx63
            replace bQ := bQ.ext hx63
            replace hx := hx.ext hx63
            replace bA := bA.ext hx63
            replace bB := bB.ext hx63
            replace bT := bT.ext hx63
            replace hX := hX.ext hx63
            replace boX := boX.ext hx63
            replace hY := hY.ext hx63
            have hF63 := Ext.trans (hF12) hx63
            refine (ref26_Same_zero u2.out hX).mono ?_
            rintro e w65 ⟨rfl, hE64⟩
            replace bM := bM.ext hE64
            replace bP := bP.ext hE64
            replace bC := bC.ext hE64
            replace bD := bD.ext hE64
            replace hL := hL.ext hE64
            replace bQ := bQ.ext hE64
            replace hx := hx.ext hE64
            replace bA := bA.ext hE64
            replace bB := bB.ext hE64
            replace bT := bT.ext hE64
            replace hX := hX.ext hE64
            replace boX := boX.ext hE64
            replace hY := hY.ext hE64
            replace boY := boY.ext hE64
            have hF64 := Ext.trans (hF63) hE64
            go_wp2
            go_ret
            exact ⟨rfl, hF64⟩
          · skip
            rw [h4.out] at u1
            simp only [Prod.mk.injEq] at u1
            obtain ⟨rfl, rfl, rfl⟩ := u1
            have hn2 : i64B Y.next := by rw [u2]; exact hn
            replace u3 := Lib.hid u3
            replace u2 := Lib.hid u2
            have bM_0 : World.cell? w13 ⟨w.heap.size, 0, none⟩ = some (.slice a m.al.length cp) := bM.cell 0
            have bM_1 : World.cell? w13 ⟨w.heap.size, 1, none⟩ = some (.int .i64 m.next) := bM.cell 1
            have bM_l := bM.lt
            have bP_0 : World.cell? w13 ⟨w.heap.size + 1, 0, none⟩ = some (.int .i64 pa) := bP.cell 0
            have bP_1 : World.cell? w13 ⟨w.heap.size + 1, 1, none⟩ = some (.int .i64 po) := bP.cell 1
            have bP_2 : World.cell? w13 ⟨w.heap.size + 1, 2, none⟩ = some (.int .i64 pt) := bP.cell 2
            have bP_l := bP.lt
            have bC_0 : World.cell? w13 ⟨w.heap.size + 1 + 1, 0, none⟩ = some (.int .u8 ck) := bC.cell 0
            have bC_1 : World.cell? w13 ⟨w.heap.size + 1 + 1, 1, none⟩ = some (.int .i64 cn) := bC.cell 1
            have bC_2 : World.cell? w13 ⟨w.heap.size + 1 + 1, 2, none⟩ = some (.int .i64 ca) := bC.cell 2
            have bC_3 : World.cell? w13 ⟨w.heap.size + 1 + 1, 3, none⟩ = some (.int .i64 cb) := bC.cell 3
            have bC_4 : World.cell? w13 ⟨w.heap.size + 1 + 1, 4, none⟩ = some (.int .i64 ct) := bC.cell 4
            have bC_l := bC.lt
            have bD_0 : World.cell? w13 ⟨w.heap.size + 1 + 1 + 1, 0, none⟩ = some (.int .u8 dk) := bD.cell 0
            have bD_1 : World.cell? w13 ⟨w.heap.size + 1 + 1 + 1, 1, none⟩ = some (.int .i64 dn) := bD.cell 1
            have bD_2 : World.cell? w13 ⟨w.heap.size + 1 + 1 + 1, 2, none⟩ = some (.int .i64 da) := bD.cell 2
            have bD_3 : World.cell? w13 ⟨w.heap.size + 1 + 1 + 1, 3, none⟩ = some (.int .i64 db) := bD.cell 3
            have bD_4 : World.cell? w13 ⟨w.heap.size + 1 + 1 + 1, 4, none⟩ = some (.int .i64 dt) := bD.cell 4
            have bD_l := bD.lt
            have bQ_0 : World.cell? w13 ⟨w2.heap.size, 0, none⟩ = some (.int .i64 pa) := bQ.cell 0
            have bQ_1 : World.cell? w13 ⟨w2.heap.size, 1, none⟩ = some (.int .i64 (po + 1)) := bQ.cell 1
            have bQ_2 : World.cell? w13 ⟨w2.heap.size, 2, none⟩ = some (.int .i64 pt) := bQ.cell 2
            have bQ_l := bQ.lt
            have bA_0 : World.cell? w13 ⟨w5.heap.size, 0, none⟩ = some (.int .u8 fk) := bA.cell 0
            have bA_1 : World.cell? w13 ⟨w5.heap.size, 1, none⟩ = some (.int .i64 fn) := bA.cell 1
            have bA_2 : World.cell? w13 ⟨w5.heap.size, 2, none⟩ = some (.int .i64 fa) := bA.cell 2
            have bA_3 : World.cell? w13 ⟨w5.heap.size, 3, none⟩ = some (.int .i64 fb) := bA.cell 3
            have bA_4 : World.cell? w13 ⟨w5.heap.size, 4, none⟩ = some (.int .i64 ft) := bA.cell 4
            have bA_l := bA.lt
            have bB_0 : World.cell? w13 ⟨w7.heap.size, 0, none⟩ = some (.int .u8 gk) := bB.cell 0
            have bB_1 : World.cell? w13 ⟨w7.heap.size, 1, none⟩ = some (.int .i64 gn) := bB.cell 1
            have bB_2 : World.cell? w13 ⟨w7.heap.size, 2, none⟩ = some (.int .i64 ga) := bB.cell 2
            have bB_3 : World.cell? w13 ⟨w7.heap.size, 3, none⟩ = some (.int .i64 gb) := bB.cell 3
            have bB_4 : World.cell? w13 ⟨w7.heap.size, 4, none⟩ = some (.int .i64 gt) := bB.cell 4
            have bB_l := bB.lt
            have bT_0 : World.cell? w13 ⟨wc.heap.size, 0, none⟩ = some (.int .u8 ck) := bT.cell 0
            have bT_1 : World.cell? w13 ⟨wc.heap.size, 1, none⟩ = some (.int .i64 cn) := bT.cell 1
            have bT_2 : World.cell? w13 ⟨wc.heap.size, 2, none⟩ = some (.int .i64 ca) := bT.cell 2
            have bT_3 : World.cell? w13 ⟨wc.heap.size, 3, none⟩ = some (.int .i64 cb) := bT.cell 3
            have bT_4 : World.cell? w13 ⟨wc.heap.size, 4, none⟩ = some (.int .i64 ct) := bT.cell 4
            have bT_5 : World.cell? w13 ⟨wc.heap.size, 5, none⟩ = some (.int .u8 dk) := bT.cell 5
            have bT_6 : World.cell? w13 ⟨wc.heap.size, 6, none⟩ = some (.int .i64 dn) := bT.cell 6
            have bT_7 : World.cell? w13 ⟨wc.heap.size, 7, none⟩ = some (.int .i64 da) := bT.cell 7
            have bT_8 : World.cell? w13 ⟨wc.heap.size, 8, none⟩ = some (.int .i64 db) := bT.cell 8
            have bT_9 : World.cell? w13 ⟨wc.heap.size, 9, none⟩ = some (.int .i64 dt) := bT.cell 9
            have bT_l := bT.lt
            have boX_0 : World.cell? w13 ⟨w11.heap.size, 0, none⟩ = some (.slice sX X.al.length cX) := boX.cell 0
            have boX_1 : World.cell? w13 ⟨w11.heap.size, 1, none⟩ = some (.int .i64 X.next) := boX.cell 1
            have boX_l := boX.lt
            go_wp2_with fail
            clear bM_0 bM_1 bM_l
            clear bP_0 bP_1 bP_2 bP_l
            clear bC_0 bC_1 bC_2 bC_3 bC_4 bC_l
            clear bD_0 bD_1 bD_2 bD_3 bD_4 bD_l
            clear bQ_0 bQ_1 bQ_2 bQ_l
            clear bA_0 bA_1 bA_2 bA_3 bA_4 bA_l
            clear bB_0 bB_1 bB_2 bB_3 bB_4 bB_l
            clear bT_0 bT_1 bT_2 bT_3 bT_4 bT_5 bT_6 bT_7 bT_8 bT_9 bT_l
            clear boX_0 boX_1 boX_l
            have boY := Box.new w13 41 #[.slice sY Y.al.length cY, .int .i64 Y.next]
            have hx63 : Ext w13 (World.alloc w13 (.cells #[.slice sY Y.al.length cY, .int .i64 Y.next] 41)) := (Ext.refl _).alloc _
            obtain ⟨w63b, hw63⟩ : ∃ x, World.alloc w13 (.cells #[.slice sY Y.al.length cY, .int .i64 Y.next] 41) = x := ⟨_, rfl⟩
            rw [hw63] at boY hx63 ⊢
            clear hw63
            replace bM := bM.ext hx63
            replace bP := bP.ext hx63
            replace bC := bC.ext hx63
            replace bD := bD.ext hx63
            replace hL := hL.ext hx63
            replace bQ := bQ.ext hx63
            replace hx := hx.ext hx63
            replace bA := bA.ext hx63
            replace bB := bB.ext hx63
            replace bT := bT.ext hx63
            replace hX := hX.ext hx63
            replace boX := boX.ext hx63
            replace hY := hY.ext hx63
            have hF63 := Ext.trans (hF12) hx63
            refine (cells_Store (m := Y) ⟨pa, po + 1, pt⟩ ⟨dk, dn, da, db, dt⟩ hY hn2).mono ?_
            rintro e w65 ⟨vZ, rfl, fZ, hE64⟩
            replace bM := bM.ext hE64
            replace bP := bP.ext hE64
            replace bC := bC.ext hE64
            replace bD := bD.ext hE64
            replace hL := hL.ext hE64
            replace bQ := bQ.ext hE64
            replace hx := hx.ext hE64
            replace bA := bA.ext hE64
            replace bB := bB.ext hE64
            replace bT := bT.ext hE64
            replace hX := hX.ext hE64
            replace boX := boX.ext hE64
            replace hY := hY.ext hE64
            replace boY := boY.ext hE64
            have hF64 := Ext.trans (hF63) hE64
            rw [u3.out] at fZ
            rw [u3.out]
            obtain ⟨vZ', rfl, hZ⟩ := FrM.read fZ
            obtain ⟨sZ, cZ, rfl, -⟩ := hZ.form
            clear fZ
            dsimp only
            have bM_0 : World.cell? w65 ⟨w.heap.size, 0, none⟩ = some (.slice a m.al.length cp) := bM.cell 0
            have bM_1 : World.cell? w65 ⟨w.heap.size, 1, none⟩ = some (.int .i64 m.next) := bM.cell 1
            have bM_l := bM.lt
            have bP_0 : World.cell? w65 ⟨w.heap.size + 1, 0, none⟩ = some (.int .i64 pa) := bP.cell 0
            have bP_1 : World.cell? w65 ⟨w.heap.size + 1, 1, none⟩ = some (.int .i64 po) := bP.cell 1
            have bP_2 : World.cell? w65 ⟨w.heap.size + 1, 2, none⟩ = some (.int .i64 pt) := bP.cell 2
            have bP_l := bP.lt
            have bC_0 : World.cell? w65 ⟨w.heap.size + 1 + 1, 0, none⟩ = some (.int .u8 ck) := bC.cell 0
            have bC_1 : World.cell? w65 ⟨w.heap.size + 1 + 1, 1, none⟩ = some (.int .i64 cn) := bC.cell 1
            have bC_2 : World.cell? w65 ⟨w.heap.size + 1 + 1, 2, none⟩ = some (.int .i64 ca) := bC.cell 2
            have bC_3 : World.cell? w65 ⟨w.heap.size + 1 + 1, 3, none⟩ = some (.int .i64 cb) := bC.cell 3
            have bC_4 : World.cell? w65 ⟨w.heap.size + 1 + 1, 4, none⟩ = some (.int .i64 ct) := bC.cell 4
            have bC_l := bC.lt
            have bD_0 : World.cell? w65 ⟨w.heap.size + 1 + 1 + 1, 0, none⟩ = some (.int .u8 dk) := bD.cell 0
            have bD_1 : World.cell? w65 ⟨w.heap.size + 1 + 1 + 1, 1, none⟩ = some (.int .i64 dn) := bD.cell 1
            have bD_2 : World.cell? w65 ⟨w.heap.size + 1 + 1 + 1, 2, none⟩ = some (.int .i64 da) := bD.cell 2
            have bD_3 : World.cell? w65 ⟨w.heap.size + 1 + 1 + 1, 3, none⟩ = some (.int .i64 db) := bD.cell 3
            have bD_4 : World.cell? w65 ⟨w.heap.size + 1 + 1 + 1, 4, none⟩ = some (.int .i64 dt) := bD.cell 4
            have bD_l := bD.lt
            have bQ_0 : World.cell? w65 ⟨w2.heap.size, 0, none⟩ = some (.int .i64 pa) := bQ.cell 0
            have bQ_1 : World.cell? w65 ⟨w2.heap.size, 1, none⟩ = some (.int .i64 (po + 1)) := bQ.cell 1
            have bQ_2 : World.cell? w65 ⟨w2.heap.size, 2, none⟩ = some (.int .i64 pt) := bQ.cell 2
            have bQ_l := bQ.lt
            have bA_0 : World.cell? w65 ⟨w5.heap.size, 0, none⟩ = some (.int .u8 fk) := bA.cell 0
            have bA_1 : World.cell? w65 ⟨w5.heap.size, 1, none⟩ = some (.int .i64 fn) := bA.cell 1
            have bA_2 : World.cell? w65 ⟨w5.heap.size, 2, none⟩ = some (.int .i64 fa) := bA.cell 2
            have bA_3 : World.cell? w65 ⟨w5.heap.size, 3, none⟩ = some (.int .i64 fb) := bA.cell 3
            have bA_4 : World.cell? w65 ⟨w5.heap.size, 4, none⟩ = some (.int .i64 ft) := bA.cell 4
            have bA_l := bA.lt
            have bB_0 : World.cell? w65 ⟨w7.heap.size, 0, none⟩ = some (.int .u8 gk) := bB.cell 0
            have bB_1 : World.cell? w65 ⟨w7.heap.size, 1, none⟩ = some (.int .i64 gn) := bB.cell 1
            have bB_2 : World.cell? w65 ⟨w7.heap.size, 2, none⟩ = some (.int .i64 ga) := bB.cell 2
            have bB_3 : World.cell? w65 ⟨w7.heap.size, 3, none⟩ = some (.int .i64 gb) := bB.cell 3
            have bB_4 : World.cell? w65 ⟨w7.heap.size, 4, none⟩ = some (.int .i64 gt) := bB.cell 4
            have bB_l := bB.lt
            have bT_0 : World.cell? w65 ⟨wc.heap.size, 0, none⟩ = some (.int .u8 ck) := bT.cell 0
            have bT_1 : World.cell? w65 ⟨wc.heap.size, 1, none⟩ = some (.int .i64 cn) := bT.cell 1
            have bT_2 : World.cell? w65 ⟨wc.heap.size, 2, none⟩ = some (.int .i64 ca) := bT.cell 2
            have bT_3 : World.cell? w65 ⟨wc.heap.size, 3, none⟩ = some (.int .i64 cb) := bT.cell 3
            have bT_4 : World.cell? w65 ⟨wc.heap.size, 4, none⟩ = some (.int .i64 ct) := bT.cell 4
            have bT_5 : World.cell? w65 ⟨wc.heap.size, 5, none⟩ = some (.int .u8 dk) := bT.cell 5
            have bT_6 : World.cell? w65 ⟨wc.heap.size, 6, none⟩ = some (.int .i64 dn) := bT.cell 6
            have bT_7 : World.cell? w65 ⟨wc.heap.size, 7, none⟩ = some (.int .i64 da) := bT.cell 7
            have bT_8 : World.cell? w65 ⟨wc.heap.size, 8, none⟩ = some (.int .i64 db) := bT.cell 8
            have bT_9 : World.cell? w65 ⟨wc.heap.size, 9, none⟩ = some (.int .i64 dt) := bT.cell 9
            have bT_l := bT.lt
            have boX_0 : World.cell? w65 ⟨w11.heap.size, 0, none⟩ = some (.slice sX X.al.length cX) := boX.cell 0
            have boX_1 : World.cell? w65 ⟨w11.heap.size, 1, none⟩ = some (.int .i64 X.next) := boX.cell 1
            have boX_l := boX.lt
            have boY_0 : World.cell? w65 ⟨w13.heap.size, 0, none⟩ = some (.slice sY Y.al.length cY) := boY.cell 0
            have boY_1 : World.cell? w65 ⟨w13.heap.size, 1, none⟩ = some (.int .i64 Y.next) := boY.cell 1
            have boY_l := boY.lt
            go_wp2_with fail
            clear bM_0 bM_1 bM_l
            clear bP_0 bP_1 bP_2 bP_l
            clear bC_0 bC_1 bC_2 bC_3 bC_4 bC_l
            clear bD_0 bD_1 bD_2 bD_3 bD_4 bD_l
            clear bQ_0 bQ_1 bQ_2 bQ_l
            clear bA_0 bA_1 bA_2 bA_3 bA_4 bA_l
            clear bB_0 bB_1 bB_2 bB_3 bB_4 bB_l
            clear bT_0 bT_1 bT_2 bT_3 bT_4 bT_5 bT_6 bT_7 bT_8 bT_9 bT_l
            clear boX_0 boX_1 boX_l
            clear boY_0 boY_1 boY_l
            have boZ := Box.new w65 41 #[.slice sZ X.al.length cZ, .int .i64 X.next]
            have hx65 : Ext w65 (World.alloc w65 (.cells #[.slice sZ X.al.length cZ, .int .i64 X.next] 41)) := (Ext.refl _).alloc _
            obtain ⟨w65b, hw65⟩ : ∃ x, World.alloc w65 (.cells #[.slice sZ X.al.length cZ, .int .i64 X.next] 41) = x := ⟨_, rfl⟩
            rw [hw65] at boZ hx65 ⊢
            clear hw65
            replace bM := bM.ext hx65
            replace bP := bP.ext hx65
            replace bC := bC.ext hx65
            replace bD := bD.ext hx65
            replace hL := hL.ext hx65
            replace bQ := bQ.ext hx65
            replace hx := hx.ext hx65
            replace bA := bA.ext hx65
            replace bB := bB.ext hx65
            replace bT := bT.ext hx65
            replace hX := hX.ext hx65
            replace boX := boX.ext hx65
            replace hY := hY.ext hx65
            replace boY := boY.ext hx65
            replace hZ := hZ.ext hx65
            have hF65 := Ext.trans (hF64) hx65
            refine (ref26_Same hX hZ).mono ?_
            rintro e w67 ⟨rfl, hE66⟩
            replace bM := bM.ext hE66
            replace bP := bP.ext hE66
            replace bC := bC.ext hE66
            replace bD := bD.ext hE66
            replace hL := hL.ext hE66
            replace bQ := bQ.ext hE66
            replace hx := hx.ext hE66
            replace bA := bA.ext hE66
            replace bB := bB.ext hE66
            replace bT := bT.ext hE66
            replace hX := hX.ext hE66
            replace boX := boX.ext hE66
            replace hY := hY.ext hE66
            replace boY := boY.ext hE66
            replace hZ := hZ.ext hE66
            replace boZ := boZ.ext hE66
            have hF66 := Ext.trans (hF65) hE66
            go_wp2
            go_ret
            exact ⟨rfl, hF66⟩
  · have hg' := Lib.hid hg
    clear hg h0 h1 h2 h3 h4
    go_enter Try.func11, Try.ntmps11
    have bM_0 : World.cell? (World.alloc (World.alloc (World.alloc (World.alloc w (.cells #[.slice a m.al.length cp, .int .i64 m.next] 41)) (.cells #[.int .i64 pa, .int .i64 po, .int .i64 pt] 43)) (.cells #[.int .u8 ck, .int .i64 cn, .int .i64 ca, .int .i64 cb, .int .i64 ct] 50)) (.cells #[.int .u8 dk, .int .i64 dn, .int .i64 da, .int .i64 db, .int .i64 dt] 50)) ⟨w.heap.size, 0, none⟩ = some (.slice a m.al.length cp) := bM.cell 0
    have bM_1 : World.cell? (World.alloc (World.alloc (World.alloc (World.alloc w (.cells #[.slice a m.al.length cp, .int .i64 m.next] 41)) (.cells #[.int .i64 pa, .int .i64 po, .int .i64 pt] 43)) (.cells #[.int .u8 ck, .int .i64 cn, .int .i64 ca, .int .i64 cb, .int .i64 ct] 50)) (.cells #[.int .u8 dk, .int .i64 dn, .int .i64 da, .int .i64 db, .int .i64 dt] 50)) ⟨w.heap.size, 1, none⟩ = some (.int .i64 m.next) := bM.cell 1
    have bM_l := bM.lt
    have bP_0 : World.cell? (World.alloc (World.alloc (World.alloc (World.alloc w (.cells #[.slice a m.al.length cp, .int .i64 m.next] 41)) (.cells #[.int .i64 pa, .int .i64 po, .int .i64 pt] 43)) (.cells #[.int .u8 ck, .int .i64 cn, .int .i64 ca, .int .i64 cb, .int .i64 ct] 50)) (.cells #[.int .u8 dk, .int .i64 dn, .int .i64 da, .int .i64 db, .int .i64 dt] 50)) ⟨w.heap.size + 1, 0, none⟩ = some (.int .i64 pa) := bP.cell 0
    have bP_1 : World.cell? (World.alloc (World.alloc (World.alloc (World.alloc w (.cells #[.slice a m.al.length cp, .int .i64 m.next] 41)) (.cells #[.int .i64 pa, .int .i64 po, .int .i64 pt] 43)) (.cells #[.int .u8 ck, .int .i64 cn, .int .i64 ca, .int .i64 cb, .int .i64 ct] 50)) (.cells #[.int .u8 dk, .int .i64 dn, .int .i64 da, .int .i64 db, .int .i64 dt] 50)) ⟨w.heap.size + 1, 1, none⟩ = some (.int .i64 po) := bP.cell 1
    have bP_2 : World.cell? (World.alloc (World.alloc (World.alloc (World.alloc w (.cells #[.slice a m.al.length cp, .int .i64 m.next] 41)) (.cells #[.int .i64 pa, .int .i64 po, .int .i64 pt] 43)) (.cells #[.int .u8 ck, .int .i64 cn, .int .i64 ca, .int .i64 cb, .int .i64 ct] 50)) (.cells #[.int .u8 dk, .int .i64 dn, .int .i64 da, .int .i64 db, .int .i64 dt] 50)) ⟨w.heap.size + 1, 2, none⟩ = some (.int .i64 pt) := bP.cell 2
    have bP_l := bP.lt
    have bC_0 : World.cell? (World.alloc (World.alloc (World.alloc (World.alloc w (.cells #[.slice a m.al.length cp, .int .i64 m.next] 41)) (.cells #[.int .i64 pa, .int .i64 po, .int .i64 pt] 43)) (.cells #[.int .u8 ck, .int .i64 cn, .int .i64 ca, .int .i64 cb, .int .i64 ct] 50)) (.cells #[.int .u8 dk, .int .i64 dn, .int .i64 da, .int .i64 db, .int .i64 dt] 50)) ⟨w.heap.size + 1 + 1, 0, none⟩ = some (.int .u8 ck) := bC.cell 0
    have bC_1 : World.cell? (World.alloc (World.alloc (World.alloc (World.alloc w (.cells #[.slice a m.al.length cp, .int .i64 m.next] 41)) (.cells #[.int .i64 pa, .int .i64 po, .int .i64 pt] 43)) (.cells #[.int .u8 ck, .int .i64 cn, .int .i64 ca, .int .i64 cb, .int .i64 ct] 50)) (.cells #[.int .u8 dk, .int .i64 dn, .int .i64 da, .int .i64 db, .int .i64 dt] 50)) ⟨w.heap.size + 1 + 1, 1, none⟩ = some (.int .i64 cn) := bC.cell 1
    have bC_2 : World.cell? (World.alloc (World.alloc (World.alloc (World.alloc w (.cells #[.slice a m.al.length cp, .int .i64 m.next] 41)) (.cells #[.int .i64 pa, .int .i64 po, .int .i64 pt] 43)) (.cells #[.int .u8 ck, .int .i64 cn, .int .i64 ca, .int .i64 cb, .int .i64 ct] 50)) (.cells #[.int .u8 dk, .int .i64 dn, .int .i64 da, .int .i64 db, .int .i64 dt] 50)) ⟨w.heap.size + 1 + 1, 2, none⟩ = some (.int .i64 ca) := bC.cell 2
    have bC_3 : World.cell? (World.alloc (World.alloc (World.alloc (World.alloc w (.cells #[.slice a m.al.length cp, .int .i64 m.next] 41)) (.cells #[.int .i64 pa, .int .i64 po, .int .i64 pt] 43)) (.cells #[.int .u8 ck, .int .i64 cn, .int .i64 ca, .int .i64 cb, .int .i64 ct] 50)) (.cells #[.int .u8 dk, .int .i64 dn, .int .i64 da, .int .i64 db, .int .i64 dt] 50)) ⟨w.heap.size + 1 + 1, 3, none⟩ = some (.int .i64 cb) := bC.cell 3
    have bC_4 : World.cell? (World.alloc (World.alloc (World.alloc (World.alloc w (.cells #[.slice a m.al.length cp, .int .i64 m.next] 41)) (.cells #[.int .i64 pa, .int .i64 po, .int .i64 pt] 43)) (.cells #[.int .u8 ck, .int .i64 cn, .int .i64 ca, .int .i64 cb, .int .i64 ct] 50)) (.cells #[.int .u8 dk, .int .i64 dn, .int .i64 da, .int .i64 db, .int .i64 dt] 50)) ⟨w.heap.size + 1 + 1, 4, none⟩ = some (.int .i64 ct) := bC.cell 4
    have bC_l := bC.lt
    have bD_0 : World.cell? (World.alloc (World.alloc (World.alloc (World.alloc w (.cells #[.slice a m.al.length cp, .int .i64 m.next] 41)) (.cells #[.int .i64 pa, .int .i64 po, .int .i64 pt] 43)) (.cells #[.int .u8 ck, .int .i64 cn, .int .i64 ca, .int .i64 cb, .int .i64 ct] 50)) (.cells #[.int .u8 dk, .int .i64 dn, .int .i64 da, .int .i64 db, .int .i64 dt] 50)) ⟨w.heap.size + 1 + 1 + 1, 0, none⟩ = some (.int .u8 dk) := bD.cell 0
    have bD_1 : World.cell? (World.alloc (World.alloc (World.alloc (World.alloc w (.cells #[.slice a m.al.length cp, .int .i64 m.next] 41)) (.cells #[.int .i64 pa, .int .i64 po, .int .i64 pt] 43)) (.cells #[.int .u8 ck, .int .i64 cn, .int .i64 ca, .int .i64 cb, .int .i64 ct] 50)) (.cells #[.int .u8 dk, .int .i64 dn, .int .i64 da, .int .i64 db, .int .i64 dt] 50)) ⟨w.heap.size + 1 + 1 + 1, 1, none⟩ = some (.int .i64 dn) := bD.cell 1
    have bD_2 : World.cell? (World.alloc (World.alloc (World.alloc (World.alloc w (.cells #[.slice a m.al.length cp, .int .i64 m.next] 41)) (.cells #[.int .i64 pa, .int .i64 po, .int .i64 pt] 43)) (.cells #[.int .u8 ck, .int .i64 cn, .int .i64 ca, .int .i64 cb, .int .i64 ct] 50)) (.cells #[.int .u8 dk, .int .i64 dn, .int .i64 da, .int .i64 db, .int .i64 dt] 50)) ⟨w.heap.size + 1 + 1 + 1, 2, none⟩ = some (.int .i64 da) := bD.cell 2
    have bD_3 : World.cell? (World.alloc (World.alloc (World.alloc (World.alloc w (.cells #[.slice a m.al.length cp, .int .i64 m.next] 41)) (.cells #[.int .i64 pa, .int .i64 po, .int .i64 pt] 43)) (.cells #[.int .u8 ck, .int .i64 cn, .int .i64 ca, .int .i64 cb, .int .i64 ct] 50)) (.cells #[.int .u8 dk, .int .i64 dn, .int .i64 da, .int .i64 db, .int .i64 dt] 50)) ⟨w.heap.size + 1 + 1 + 1, 3, none⟩ = some (.int .i64 db) := bD.cell 3
    have bD_4 : World.cell? (World.alloc (World.alloc (World.alloc (World.alloc w (.cells #[.slice a m.al.length cp, .int .i64 m.next] 41)) (.cells #[.int .i64 pa, .int .i64 po, .int .i64 pt] 43)) (.cells #[.int .u8 ck, .int .i64 cn, .int .i64 ca, .int .i64 cb, .int .i64 ct] 50)) (.cells #[.int .u8 dk, .int .i64 dn, .int .i64 da, .int .i64 db, .int .i64 dt] 50)) ⟨w.heap.size + 1 + 1 + 1, 4, none⟩ = some (.int .i64 dt) := bD.cell 4
    have bD_l := bD.lt
    go_wp2_with fail
    clear bM_0 bM_1 bM_l
    clear bP_0 bP_1 bP_2 bP_l
    clear bC_0 bC_1 bC_2 bC_3 bC_4 bC_l
    clear bD_0 bD_1 bD_2 bD_3 bD_4 bD_l
    refine (law27_alive _).mono ?_
    rintro e w1 ⟨rfl, hE0⟩
    replace bM := bM.ext hE0
    replace bP := bP.ext hE0
    replace bC := bC.ext hE0
    replace bD := bD.ext hE0
    replace hL := hL.ext hE0
    have hF0 := Ext.trans (hF) hE0
    have bM_0 : World.cell? w1 ⟨w.heap.size, 0, none⟩ = some (.slice a m.al.length cp) := bM.cell 0
    have bM_1 : World.cell? w1 ⟨w.heap.size, 1, none⟩ = some (.int .i64 m.next) := bM.cell 1
    have bM_l := bM.lt
    have bP_0 : World.cell? w1 ⟨w.heap.size + 1, 0, none⟩ = some (.int .i64 pa) := bP.cell 0
    have bP_1 : World.cell? w1 ⟨w.heap.size + 1, 1, none⟩ = some (.int .i64 po) := bP.cell 1
    have bP_2 : World.cell? w1 ⟨w.heap.size + 1, 2, none⟩ = some (.int .i64 pt) := bP.cell 2
    have bP_l := bP.lt
    have bC_0 : World.cell? w1 ⟨w.heap.size + 1 + 1, 0, none⟩ = some (.int .u8 ck) := bC.cell 0
    have bC_1 : World.cell? w1 ⟨w.heap.size + 1 + 1, 1, none⟩ = some (.int .i64 cn) := bC.cell 1
    have bC_2 : World.cell? w1 ⟨w.heap.size + 1 + 1, 2, none⟩ = some (.int .i64 ca) := bC.cell 2
    have bC_3 : World.cell? w1 ⟨w.heap.size + 1 + 1, 3, none⟩ = some (.int .i64 cb) := bC.cell 3
    have bC_4 : World.cell? w1 ⟨w.heap.size + 1 + 1, 4, none⟩ = some (.int .i64 ct) := bC.cell 4
    have bC_l := bC.lt
    have bD_0 : World.cell? w1 ⟨w.heap.size + 1 + 1 + 1, 0, none⟩ = some (.int .u8 dk) := bD.cell 0
    have bD_1 : World.cell? w1 ⟨w.heap.size + 1 + 1 + 1, 1, none⟩ = some (.int .i64 dn) := bD.cell 1
    have bD_2 : World.cell? w1 ⟨w.heap.size + 1 + 1 + 1, 2, none⟩ = some (.int .i64 da) := bD.cell 2
    have bD_3 : World.cell? w1 ⟨w.heap.size + 1 + 1 + 1, 3, none⟩ = some (.int .i64 db) := bD.cell 3
    have bD_4 : World.cell? w1 ⟨w.heap.size + 1 + 1 + 1, 4, none⟩ = some (.int .i64 dt) := bD.cell 4
    have bD_l := bD.lt
    go_wp2_with fail
    clear bM_0 bM_1 bM_l
    clear bP_0 bP_1 bP_2 bP_l
    clear bC_0 bC_1 bC_2 bC_3 bC_4 bC_l
    clear bD_0 bD_1 bD_2 bD_3 bD_4 bD_l
    refine (ref26_Great hL).mono ?_
    rintro e w2 ⟨rfl, hE1⟩
    replace bM := bM.ext hE1
    replace bP := bP.ext hE1
    replace bC := bC.ext hE1
    replace bD := bD.ext hE1
    replace hL := hL.ext hE1
    have hF1 := Ext.trans (hF0) hE1
    rw [hg'.out]
    have bM_0 : World.cell? w2 ⟨w.heap.size, 0, none⟩ = some (.slice a m.al.length cp) := bM.cell 0
    have bM_1 : World.cell? w2 ⟨w.heap.size, 1, none⟩ = some (.int .i64 m.next) := bM.cell 1
    have bM_l := bM.lt
    have bP_0 : World.cell? w2 ⟨w.heap.size + 1, 0, none⟩ = some (.int .i64 pa) := bP.cell 0
    have bP_1 : World.cell? w2 ⟨w.heap.size + 1, 1, none⟩ = some (.int .i64 po) := bP.cell 1
    have bP_2 : World.cell? w2 ⟨w.heap.size + 1, 2, none⟩ = some (.int .i64 pt) := bP.cell 2
    have bP_l := bP.lt
    have bC_0 : World.cell? w2 ⟨w.heap.size + 1 + 1, 0, none⟩ = some (.int .u8 ck) := bC.cell 0
    have bC_1 : World.cell? w2 ⟨w.heap.size + 1 + 1, 1, none⟩ = some (.int .i64 cn) := bC.cell 1
    have bC_2 : World.cell? w2 ⟨w.heap.size + 1 + 1, 2, none⟩ = some (.int .i64 ca) := bC.cell 2
    have bC_3 : World.cell? w2 ⟨w.heap.size + 1 + 1, 3, none⟩ = some (.int .i64 cb) := bC.cell 3
    have bC_4 : World.cell? w2 ⟨w.heap.size + 1 + 1, 4, none⟩ = some (.int .i64 ct) := bC.cell 4
    have bC_l := bC.lt
    have bD_0 : World.cell? w2 ⟨w.heap.size + 1 + 1 + 1, 0, none⟩ = some (.int .u8 dk) := bD.cell 0
    have bD_1 : World.cell? w2 ⟨w.heap.size + 1 + 1 + 1, 1, none⟩ = some (.int .i64 dn) := bD.cell 1
    have bD_2 : World.cell? w2 ⟨w.heap.size + 1 + 1 + 1, 2, none⟩ = some (.int .i64 da) := bD.cell 2
    have bD_3 : World.cell? w2 ⟨w.heap.size + 1 + 1 + 1, 3, none⟩ = some (.int .i64 db) := bD.cell 3
    have bD_4 : World.cell? w2 ⟨w.heap.size + 1 + 1 + 1, 4, none⟩ = some (.int .i64 dt) := bD.cell 4
    have bD_l := bD.lt
    go_wp2
    go_ret
    exact ⟨rfl, hF1⟩

set_option maxRecDepth 100000 in
theorem cellsRange_lifted (os : Os) (started : os.Started) (H : Type) (enc : TypeId × Value → H) :
    ReturnsInHanded {} Try.checked os 11 .any (Rows.cellsRangeSpec.pre6 enc Try.prog Try.f11 Rows.cellsRangeRow.domain false) (Rows.cellsRangeSpec.post enc Try.prog Try.f11 false true false false) := by
  refine returnsInHanded_of_change (C := Try.checked) Tryown started (by kernel_rfl) Try.func11
    (ChangeSpec.witness6 (enc := enc) (C := Try.checked) false ⟨#[], #[.agg #[.slice none 0 0, .int .i64 0], .agg #[.int .i64 0, .int .i64 0, .int .i64 0], .agg #[.int .u8 0, .int .i64 0, .int .i64 0, .int .i64 0, .int .i64 0], .agg #[.int .u8 0, .int .i64 0, .int .i64 0, .int .i64 0, .int .i64 0]], []⟩ 8 (by kernel_rfl) (by kernel_rfl) (by kernel_rfl) (by kernel_rfl)) ?_
  intro W base args ds gs before hval0 hW _ _
  have hval : ∀ (j : Nat) t v, Try.f11.params[j]? = some t → args[j]? = some v → Value.okWide Try.prog W .any base t v := hval0
  have hW' := hW
  obtain ⟨p, q, hA0, hV, rfl, hfz, hnd⟩ := hW
  have hA : DataW.TrodAll enc Try.prog W 0 (fun _ => true) true Try.f11.params.toList args.toList ds p := hA0
  rw [Try.params11] at hA hval
  obtain ⟨v0, vs0, d0, ds0, p0, q0, hargs, rfl, rfl, h0, r0⟩ := trodAll_cons hA
  obtain ⟨v1, vs1, d1, ds1, p1, q1, rfl, rfl, rfl, h1, r1⟩ := trodAll_cons r0
  obtain ⟨v2, vs2, d2, ds2, p2, q2, rfl, rfl, rfl, h2, r2⟩ := trodAll_cons r1
  obtain ⟨v3, vs3, d3, ds3, p3, q3, rfl, rfl, rfl, h3, r3⟩ := trodAll_cons r2
  obtain ⟨rfl, rfl, rfl⟩ := trodAll_nil r3
  obtain rfl : args = #[v0, v1, v2, v3] := by cases args; simp_all
  obtain ⟨x0, u0, rfl, k0, wf0⟩ := open_mem (hval 0 41 v0 rfl rfl) h0
  obtain ⟨x1, rfl, wf1⟩ := open_ptrv (hval 1 43 v1 rfl rfl) h1
  obtain ⟨x2, rfl, wf2⟩ := open_cellv (hval 2 50 v2 rfl rfl) h2
  obtain ⟨x3, rfl, wf3⟩ := open_cellv (hval 3 50 v3 rfl rfl) h3
  refine (cellsRange_walk x1 x2 x3 k0 wf0.1).mono fun e W' ⟨he, hb⟩ => ?_
  subst he
  exact ⟨_, rfl, post_law TrylaidOut (tb := 4) rfl Try.underlying4 (by kernel_rfl) rfl (fun ds hd => match ds, hd with | [a0, a1, a2, a3], _ => rfl) hW' hb⟩

theorem cellsRange_holds : Rows.CellsRangeSaid :=
  OpenClaim.holds_of_wide 11 Try.f11 rfl rfl rfl rfl rfl rfl rfl ⟨rfl, rfl, rfl, rfl, rfl⟩ rfl rfl rfl rfl rfl (by kernel_rfl) Try.func11 (by kernel_rfl)
    (of_decide_eq_true (by kernel_rfl)) (by unfold Func.isWrapper; first | (rw [if_pos (by decide +kernel)]; kernel_rfl) | (rw [if_neg (by decide +kernel)]; exact ⟨rfl, rfl⟩))
    (fun os started H enc _ => cellsRange_lifted os started H enc)

end Go.Proofs.Ytkiadhkkpmcmiaa
