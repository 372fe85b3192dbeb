/- The statement CellsStores: for every memory, pointer and list of cells the call returns true. No condition. -/
import Derived.Test.YtkiadhkkpmcmiaaCelX7
import Derived.Deep.RegionHeld3
import Derived.Deep.DeepMust
import Derived.Test.YtkiadhkkpmcmiaaReadM
import Derived.Test.YtkiadhkkpmcmiaaClose
namespace Go.Proofs.Ytkiadhkkpmcmiaa
set_option maxRecDepth 100000
open Go.ChangeShapes Go.WideShapes Go.ChangeAt Go.RowKit

set_option linter.unusedVariables false
theorem Lib.merge {T G : Prop} (main : (True → T) → G) (rest : T) : G := main fun _ => rest

theorem small_of_great27 {l : List Alloc} (h : greatM l = false) : small l := by
  rw [greatM_eq, Bool.or_eq_false_iff] at h
  obtain ⟨h1, h2⟩ := h
  have h3 : l.length ≤ 410 := by simpa using h2
  rw [List.take_of_length_le (by omega)] at h1
  refine ⟨by omega, fun a ha => ?_⟩
  have := List.any_eq_false.1 h1 a ha
  simp [wide] at this
  omega

set_option maxHeartbeats 6400000 in
theorem cellsStores_walk {m : Mem} {l : List Cell} {s u : Value} {w : World} (p : Ptr) (hl : Als w s m.al) (hn : i64B m.next) (hc : Cls w u l) :
    Calls Try.prog 4 #[.agg #[s, .int .i64 m.next], p.val, u] w fun e w' => e = .returned (.bool true) ∧ Ext w w' := by
  obtain ⟨pa, po, pt⟩ := p
  have hF := ((Ext.refl w).alloc (.cells #[s, .int .i64 m.next] 41)).alloc (.cells #[.int .i64 pa, .int .i64 po, .int .i64 pt] 43)
  have hL := hl.ext hF
  obtain ⟨a, cp, rfl, -⟩ := hl.form
  have bM := (Box.new w 41 #[.slice a m.al.length cp, .int .i64 m.next]).ext ((Ext.refl _).alloc (.cells #[.int .i64 pa, .int .i64 po, .int .i64 pt] 43))
  have bP := Box.new (w.alloc (.cells #[.slice a m.al.length cp, .int .i64 m.next] 41)) 43 #[.int .i64 pa, .int .i64 po, .int .i64 pt]
  rw [World.size_alloc] at bP
  clear hl
  have hU := hc.ext hF
  unfold Ptr.val
  cases hg : greatM m.al
  · have hsm := Lib.hid (small_of_great27 hg)
    have hg' := Lib.hid hg
    clear hg
    by_cases h10 : 10 < l.length
    · have q1 : decide ((10 : Int) < (l.length : Int)) = true := decide_eq_true (by omega)
      obtain ⟨ua, uc, rfl, -⟩ := hc.form
      go_enter Try.func4, Try.ntmps4
      have bM_0 : World.cell? (World.alloc (World.alloc w (.cells #[.slice a m.al.length cp, .int .i64 m.next] 41)) (.cells #[.int .i64 pa, .int .i64 po, .int .i64 pt] 43)) ⟨w.heap.size, 0, none⟩ = some (.slice a m.al.length cp) := bM.cell 0
      have bM_1 : World.cell? (World.alloc (World.alloc w (.cells #[.slice a m.al.length cp, .int .i64 m.next] 41)) (.cells #[.int .i64 pa, .int .i64 po, .int .i64 pt] 43)) ⟨w.heap.size, 1, none⟩ = some (.int .i64 m.next) := bM.cell 1
      have bM_l := bM.lt
      have bP_0 : World.cell? (World.alloc (World.alloc w (.cells #[.slice a m.al.length cp, .int .i64 m.next] 41)) (.cells #[.int .i64 pa, .int .i64 po, .int .i64 pt] 43)) ⟨w.heap.size + 1, 0, none⟩ = some (.int .i64 pa) := bP.cell 0
      have bP_1 : World.cell? (World.alloc (World.alloc w (.cells #[.slice a m.al.length cp, .int .i64 m.next] 41)) (.cells #[.int .i64 pa, .int .i64 po, .int .i64 pt] 43)) ⟨w.heap.size + 1, 1, none⟩ = some (.int .i64 po) := bP.cell 1
      have bP_2 : World.cell? (World.alloc (World.alloc w (.cells #[.slice a m.al.length cp, .int .i64 m.next] 41)) (.cells #[.int .i64 pa, .int .i64 po, .int .i64 pt] 43)) ⟨w.heap.size + 1, 2, none⟩ = some (.int .i64 pt) := bP.cell 2
      have bP_l := bP.lt
      go_wp2_with fail
      clear bM_0 bM_1 bM_l
      clear bP_0 bP_1 bP_2 bP_l
      refine (ref26_Great hL).mono ?_
      rintro e w1 ⟨rfl, hE0⟩
      replace bM := bM.ext hE0
      replace bP := bP.ext hE0
      replace hL := hL.ext hE0
      replace hU := hU.ext hE0
      have hF0 := Ext.trans (hF) hE0
      rw [hg'.out]
      go_wp2
      go_ret
      exact ⟨rfl, hF0⟩
    · have q1 : decide ((10 : Int) < (l.length : Int)) = false := decide_eq_false (by omega)
      obtain ⟨M2, y2, e2, h2⟩ : ∃ M why err, storeR m ⟨pa, po, pt⟩ l = (M, why, err) := ⟨_, _, _, rfl⟩
      have h2 := Lib.hid h2
      by_cases h0 : l.length = 0
      · have q2 : decide (0 < l.length) = false := decide_eq_false (by omega)
        obtain ⟨ua, uc, rfl, -⟩ := hc.form
        clear h0 h10
        go_enter Try.func4, Try.ntmps4
        have bM_0 : World.cell? (World.alloc (World.alloc w (.cells #[.slice a m.al.length cp, .int .i64 m.next] 41)) (.cells #[.int .i64 pa, .int .i64 po, .int .i64 pt] 43)) ⟨w.heap.size, 0, none⟩ = some (.slice a m.al.length cp) := bM.cell 0
        have bM_1 : World.cell? (World.alloc (World.alloc w (.cells #[.slice a m.al.length cp, .int .i64 m.next] 41)) (.cells #[.int .i64 pa, .int .i64 po, .int .i64 pt] 43)) ⟨w.heap.size, 1, none⟩ = some (.int .i64 m.next) := bM.cell 1
        have bM_l := bM.lt
        have bP_0 : World.cell? (World.alloc (World.alloc w (.cells #[.slice a m.al.length cp, .int .i64 m.next] 41)) (.cells #[.int .i64 pa, .int .i64 po, .int .i64 pt] 43)) ⟨w.heap.size + 1, 0, none⟩ = some (.int .i64 pa) := bP.cell 0
        have bP_1 : World.cell? (World.alloc (World.alloc w (.cells #[.slice a m.al.length cp, .int .i64 m.next] 41)) (.cells #[.int .i64 pa, .int .i64 po, .int .i64 pt] 43)) ⟨w.heap.size + 1, 1, none⟩ = some (.int .i64 po) := bP.cell 1
        have bP_2 : World.cell? (World.alloc (World.alloc w (.cells #[.slice a m.al.length cp, .int .i64 m.next] 41)) (.cells #[.int .i64 pa, .int .i64 po, .int .i64 pt] 43)) ⟨w.heap.size + 1, 2, none⟩ = some (.int .i64 pt) := bP.cell 2
        have bP_l := bP.lt
        go_wp2_with fail
        clear bM_0 bM_1 bM_l
        clear bP_0 bP_1 bP_2 bP_l
        refine (ref26_Great hL).mono ?_
        rintro e w1 ⟨rfl, hE0⟩
        replace bM := bM.ext hE0
        replace bP := bP.ext hE0
        replace hL := hL.ext hE0
        replace hU := hU.ext hE0
        have hF0 := Ext.trans (hF) hE0
        rw [hg'.out]
        have bM_0 : World.cell? w1 ⟨w.heap.size, 0, none⟩ = some (.slice a m.al.length cp) := bM.cell 0
        have bM_1 : World.cell? w1 ⟨w.heap.size, 1, none⟩ = some (.int .i64 m.next) := bM.cell 1
        have bM_l := bM.lt
        have bP_0 : World.cell? w1 ⟨w.heap.size + 1, 0, none⟩ = some (.int .i64 pa) := bP.cell 0
        have bP_1 : World.cell? w1 ⟨w.heap.size + 1, 1, none⟩ = some (.int .i64 po) := bP.cell 1
        have bP_2 : World.cell? w1 ⟨w.heap.size + 1, 2, none⟩ = some (.int .i64 pt) := bP.cell 2
        have bP_l := bP.lt
        go_wp2_with fail
        clear bM_0 bM_1 bM_l
        clear bP_0 bP_1 bP_2 bP_l
        refine (ref26_Twin hL hsm.out).mono ?_
        rintro e w2 ⟨vh, vsh, rfl, hOM, hE1⟩
        replace bM := bM.ext hE1
        replace bP := bP.ext hE1
        replace hL := hL.ext hE1
        replace hU := hU.ext hE1
        have hF1 := Ext.trans (hF0) hE1
        have hH := hOM.read
        clear hOM
        obtain ⟨sh, ch, rfl, -⟩ := hH.form
        have bM_0 : World.cell? w2 ⟨w.heap.size, 0, none⟩ = some (.slice a m.al.length cp) := bM.cell 0
        have bM_1 : World.cell? w2 ⟨w.heap.size, 1, none⟩ = some (.int .i64 m.next) := bM.cell 1
        have bM_l := bM.lt
        have bP_0 : World.cell? w2 ⟨w.heap.size + 1, 0, none⟩ = some (.int .i64 pa) := bP.cell 0
        have bP_1 : World.cell? w2 ⟨w.heap.size + 1, 1, none⟩ = some (.int .i64 po) := bP.cell 1
        have bP_2 : World.cell? w2 ⟨w.heap.size + 1, 2, none⟩ = some (.int .i64 pt) := bP.cell 2
        have bP_l := bP.lt
        go_wp2_with fail
        clear bM_0 bM_1 bM_l
        clear bP_0 bP_1 bP_2 bP_l
        have bH := Box.new w2 41 #[.slice sh m.al.length ch, .int .i64 m.next]
        have hx2 : Ext w2 (World.alloc w2 (.cells #[.slice sh m.al.length ch, .int .i64 m.next] 41)) := (Ext.refl _).alloc _
        obtain ⟨w2b, hw2⟩ : ∃ x, World.alloc w2 (.cells #[.slice sh m.al.length ch, .int .i64 m.next] 41) = x := ⟨_, rfl⟩
        rw [hw2] at bH hx2 ⊢
        clear hw2
        replace bM := bM.ext hx2
        replace bP := bP.ext hx2
        replace hL := hL.ext hx2
        replace hU := hU.ext hx2
        replace hH := hH.ext hx2
        have hF2 := Ext.trans (hF1) hx2
        refine (cells_StoreAll (m := m) ⟨pa, po, pt⟩ hL hn hU).mono ?_
        rintro e w4 ⟨vx, rfl, fx, hE3⟩
        replace bM := bM.ext hE3
        replace bP := bP.ext hE3
        replace hL := hL.ext hE3
        replace hU := hU.ext hE3
        replace hH := hH.ext hE3
        replace bH := bH.ext hE3
        have hF3 := Ext.trans (hF2) hE3
        rw [h2.out] at fx
        rw [h2.out]
        obtain ⟨vx', rfl, hx⟩ := FrM.read fx
        obtain ⟨sx, cx, rfl, -⟩ := hx.form
        clear fx
        dsimp only
        have bM_0 : World.cell? w4 ⟨w.heap.size, 0, none⟩ = some (.slice a m.al.length cp) := bM.cell 0
        have bM_1 : World.cell? w4 ⟨w.heap.size, 1, none⟩ = some (.int .i64 m.next) := bM.cell 1
        have bM_l := bM.lt
        have bP_0 : World.cell? w4 ⟨w.heap.size + 1, 0, none⟩ = some (.int .i64 pa) := bP.cell 0
        have bP_1 : World.cell? w4 ⟨w.heap.size + 1, 1, none⟩ = some (.int .i64 po) := bP.cell 1
        have bP_2 : World.cell? w4 ⟨w.heap.size + 1, 2, none⟩ = some (.int .i64 pt) := bP.cell 2
        have bP_l := bP.lt
        have bH_0 : World.cell? w4 ⟨w2.heap.size, 0, none⟩ = some (.slice sh m.al.length ch) := bH.cell 0
        have bH_1 : World.cell? w4 ⟨w2.heap.size, 1, none⟩ = some (.int .i64 m.next) := bH.cell 1
        have bH_l := bH.lt
        go_wp2_with fail
        clear bM_0 bM_1 bM_l
        clear bP_0 bP_1 bP_2 bP_l
        clear bH_0 bH_1 bH_l
        have box := Box.new w4 41 #[.slice sx M2.al.length cx, .int .i64 M2.next]
        have hx4 : Ext w4 (World.alloc w4 (.cells #[.slice sx M2.al.length cx, .int .i64 M2.next] 41)) := (Ext.refl _).alloc _
        obtain ⟨w4b, hw4⟩ : ∃ x, World.alloc w4 (.cells #[.slice sx M2.al.length cx, .int .i64 M2.next] 41) = x := ⟨_, rfl⟩
        rw [hw4] at box hx4 ⊢
        clear hw4
        replace bM := bM.ext hx4
        replace bP := bP.ext hx4
        replace hL := hL.ext hx4
        replace hU := hU.ext hx4
        replace hH := hH.ext hx4
        replace bH := bH.ext hx4
        replace hx := hx.ext hx4
        have hF4 := Ext.trans (hF3) hx4
        refine (ref27_StoreAll (m := m) ⟨pa, po, pt⟩ hH hn hU).mono ?_
        rintro e w6 ⟨vy, rfl, fy, hE5⟩
        replace bM := bM.ext hE5
        replace bP := bP.ext hE5
        replace hL := hL.ext hE5
        replace hU := hU.ext hE5
        replace hH := hH.ext hE5
        replace bH := bH.ext hE5
        replace hx := hx.ext hE5
        replace box := box.ext hE5
        have hF5 := Ext.trans (hF4) hE5
        rw [h2.out] at fy
        rw [h2.out]
        obtain ⟨vy', rfl, hy⟩ := FrM.read fy
        obtain ⟨sy, cy, rfl, -⟩ := hy.form
        clear fy
        dsimp only
        have bM_0 : World.cell? w6 ⟨w.heap.size, 0, none⟩ = some (.slice a m.al.length cp) := bM.cell 0
        have bM_1 : World.cell? w6 ⟨w.heap.size, 1, none⟩ = some (.int .i64 m.next) := bM.cell 1
        have bM_l := bM.lt
        have bP_0 : World.cell? w6 ⟨w.heap.size + 1, 0, none⟩ = some (.int .i64 pa) := bP.cell 0
        have bP_1 : World.cell? w6 ⟨w.heap.size + 1, 1, none⟩ = some (.int .i64 po) := bP.cell 1
        have bP_2 : World.cell? w6 ⟨w.heap.size + 1, 2, none⟩ = some (.int .i64 pt) := bP.cell 2
        have bP_l := bP.lt
        have bH_0 : World.cell? w6 ⟨w2.heap.size, 0, none⟩ = some (.slice sh m.al.length ch) := bH.cell 0
        have bH_1 : World.cell? w6 ⟨w2.heap.size, 1, none⟩ = some (.int .i64 m.next) := bH.cell 1
        have bH_l := bH.lt
        have box_0 : World.cell? w6 ⟨w4.heap.size, 0, none⟩ = some (.slice sx M2.al.length cx) := box.cell 0
        have box_1 : World.cell? w6 ⟨w4.heap.size, 1, none⟩ = some (.int .i64 M2.next) := box.cell 1
        have box_l := box.lt
        go_wp2_with fail
        clear bM_0 bM_1 bM_l
        clear bP_0 bP_1 bP_2 bP_l
        clear bH_0 bH_1 bH_l
        clear box_0 box_1 box_l
        have boy := Box.new w6 41 #[.slice sy M2.al.length cy, .int .i64 M2.next]
        have hx6 : Ext w6 (World.alloc w6 (.cells #[.slice sy M2.al.length cy, .int .i64 M2.next] 41)) := (Ext.refl _).alloc _
        obtain ⟨w6b, hw6⟩ : ∃ x, World.alloc w6 (.cells #[.slice sy M2.al.length cy, .int .i64 M2.next] 41) = x := ⟨_, rfl⟩
        rw [hw6] at boy hx6 ⊢
        clear hw6
        replace bM := bM.ext hx6
        replace bP := bP.ext hx6
        replace hL := hL.ext hx6
        replace hU := hU.ext hx6
        replace hH := hH.ext hx6
        replace bH := bH.ext hx6
        replace hx := hx.ext hx6
        replace box := box.ext hx6
        replace hy := hy.ext hx6
        have hF6 := Ext.trans (hF5) hx6
        refine (ref26_Same hx hy).mono ?_
        rintro e w8 ⟨rfl, hE7⟩
        replace bM := bM.ext hE7
        replace bP := bP.ext hE7
        replace hL := hL.ext hE7
        replace hU := hU.ext hE7
        replace hH := hH.ext hE7
        replace bH := bH.ext hE7
        replace hx := hx.ext hE7
        replace box := box.ext hE7
        replace hy := hy.ext hE7
        replace boy := boy.ext hE7
        have hF7 := Ext.trans (hF6) hE7
        have bM_0 : World.cell? w8 ⟨w.heap.size, 0, none⟩ = some (.slice a m.al.length cp) := bM.cell 0
        have bM_1 : World.cell? w8 ⟨w.heap.size, 1, none⟩ = some (.int .i64 m.next) := bM.cell 1
        have bM_l := bM.lt
        have bP_0 : World.cell? w8 ⟨w.heap.size + 1, 0, none⟩ = some (.int .i64 pa) := bP.cell 0
        have bP_1 : World.cell? w8 ⟨w.heap.size + 1, 1, none⟩ = some (.int .i64 po) := bP.cell 1
        have bP_2 : World.cell? w8 ⟨w.heap.size + 1, 2, none⟩ = some (.int .i64 pt) := bP.cell 2
        have bP_l := bP.lt
        have bH_0 : World.cell? w8 ⟨w2.heap.size, 0, none⟩ = some (.slice sh m.al.length ch) := bH.cell 0
        have bH_1 : World.cell? w8 ⟨w2.heap.size, 1, none⟩ = some (.int .i64 m.next) := bH.cell 1
        have bH_l := bH.lt
        have box_0 : World.cell? w8 ⟨w4.heap.size, 0, none⟩ = some (.slice sx M2.al.length cx) := box.cell 0
        have box_1 : World.cell? w8 ⟨w4.heap.size, 1, none⟩ = some (.int .i64 M2.next) := box.cell 1
        have box_l := box.lt
        have boy_0 : World.cell? w8 ⟨w6.heap.size, 0, none⟩ = some (.slice sy M2.al.length cy) := boy.cell 0
        have boy_1 : World.cell? w8 ⟨w6.heap.size, 1, none⟩ = some (.int .i64 M2.next) := boy.cell 1
        have boy_l := boy.lt
        go_wp2_with fail
        clear bM_0 bM_1 bM_l
        clear bP_0 bP_1 bP_2 bP_l
        clear bH_0 bH_1 bH_l
        clear box_0 box_1 box_l
        clear boy_0 boy_1 boy_l
        refine (ref26_Same hL hH).mono ?_
        rintro e w9 ⟨rfl, hE8⟩
        replace bM := bM.ext hE8
        replace bP := bP.ext hE8
        replace hL := hL.ext hE8
        replace hU := hU.ext hE8
        replace hH := hH.ext hE8
        replace bH := bH.ext hE8
        replace hx := hx.ext hE8
        replace box := box.ext hE8
        replace hy := hy.ext hE8
        replace boy := boy.ext hE8
        have hF8 := Ext.trans (hF7) hE8
        go_wp2
        go_ret
        exact ⟨rfl, hF8⟩
      · have q2 : decide (0 < l.length) = true := decide_eq_true (by omega)
        have q3 : (0 : Int) < (l.length : Int) := by omega
        have q4 : 0 < l.length := by omega
        obtain ⟨c, hx⟩ : ∃ c, l[0]? = some c := ⟨l[0]'(by omega), List.getElem?_eq_getElem _⟩
        obtain ⟨ua, uc, rfl, -⟩ := hc.form
        obtain ⟨lb, lo, rfl, lhb, k0, k1, k2, k3, k4⟩ := hU.cell hx
        simp only [Nat.zero_mul, Nat.add_zero] at k0 k1 k2 k3 k4
        obtain ⟨ck, cn, ca, cb, ct⟩ := c
        obtain ⟨M1, y1, e1, h1⟩ : ∃ M why err, storeR m ⟨pa, po, pt⟩ [⟨ck, cn, ca, cb, ct⟩] = (M, why, err) := ⟨_, _, _, rfl⟩
        have h1 := Lib.hid h1
        clear h0 h10 hx
        go_enter Try.func4, Try.ntmps4
        have bM_0 : World.cell? (World.alloc (World.alloc w (.cells #[.slice a m.al.length cp, .int .i64 m.next] 41)) (.cells #[.int .i64 pa, .int .i64 po, .int .i64 pt] 43)) ⟨w.heap.size, 0, none⟩ = some (.slice a m.al.length cp) := bM.cell 0
        have bM_1 : World.cell? (World.alloc (World.alloc w (.cells #[.slice a m.al.length cp, .int .i64 m.next] 41)) (.cells #[.int .i64 pa, .int .i64 po, .int .i64 pt] 43)) ⟨w.heap.size, 1, none⟩ = some (.int .i64 m.next) := bM.cell 1
        have bM_l := bM.lt
        have bP_0 : World.cell? (World.alloc (World.alloc w (.cells #[.slice a m.al.length cp, .int .i64 m.next] 41)) (.cells #[.int .i64 pa, .int .i64 po, .int .i64 pt] 43)) ⟨w.heap.size + 1, 0, none⟩ = some (.int .i64 pa) := bP.cell 0
        have bP_1 : World.cell? (World.alloc (World.alloc w (.cells #[.slice a m.al.length cp, .int .i64 m.next] 41)) (.cells #[.int .i64 pa, .int .i64 po, .int .i64 pt] 43)) ⟨w.heap.size + 1, 1, none⟩ = some (.int .i64 po) := bP.cell 1
        have bP_2 : World.cell? (World.alloc (World.alloc w (.cells #[.slice a m.al.length cp, .int .i64 m.next] 41)) (.cells #[.int .i64 pa, .int .i64 po, .int .i64 pt] 43)) ⟨w.heap.size + 1, 2, none⟩ = some (.int .i64 pt) := bP.cell 2
        have bP_l := bP.lt
        go_wp2_with fail
        clear bM_0 bM_1 bM_l
        clear bP_0 bP_1 bP_2 bP_l
        refine (ref26_Great hL).mono ?_
        rintro e w1 ⟨rfl, hE0⟩
        replace bM := bM.ext hE0
        replace bP := bP.ext hE0
        replace hL := hL.ext hE0
        replace hU := hU.ext hE0
        replace k0 := Ext.cell hE0 k0
        replace k1 := Ext.cell hE0 k1
        replace k2 := Ext.cell hE0 k2
        replace k3 := Ext.cell hE0 k3
        replace k4 := Ext.cell hE0 k4
        have hF0 := Ext.trans (hF) hE0
        rw [hg'.out]
        have bM_0 : World.cell? w1 ⟨w.heap.size, 0, none⟩ = some (.slice a m.al.length cp) := bM.cell 0
        have bM_1 : World.cell? w1 ⟨w.heap.size, 1, none⟩ = some (.int .i64 m.next) := bM.cell 1
        have bM_l := bM.lt
        have bP_0 : World.cell? w1 ⟨w.heap.size + 1, 0, none⟩ = some (.int .i64 pa) := bP.cell 0
        have bP_1 : World.cell? w1 ⟨w.heap.size + 1, 1, none⟩ = some (.int .i64 po) := bP.cell 1
        have bP_2 : World.cell? w1 ⟨w.heap.size + 1, 2, none⟩ = some (.int .i64 pt) := bP.cell 2
        have bP_l := bP.lt
        go_wp2_with fail
        clear bM_0 bM_1 bM_l
        clear bP_0 bP_1 bP_2 bP_l
        refine (ref26_Twin hL hsm.out).mono ?_
        rintro e w2 ⟨vh, vsh, rfl, hOM, hE1⟩
        replace bM := bM.ext hE1
        replace bP := bP.ext hE1
        replace hL := hL.ext hE1
        replace hU := hU.ext hE1
        replace k0 := Ext.cell hE1 k0
        replace k1 := Ext.cell hE1 k1
        replace k2 := Ext.cell hE1 k2
        replace k3 := Ext.cell hE1 k3
        replace k4 := Ext.cell hE1 k4
        have hF1 := Ext.trans (hF0) hE1
        have hH := hOM.read
        clear hOM
        obtain ⟨sh, ch, rfl, -⟩ := hH.form
        have bM_0 : World.cell? w2 ⟨w.heap.size, 0, none⟩ = some (.slice a m.al.length cp) := bM.cell 0
        have bM_1 : World.cell? w2 ⟨w.heap.size, 1, none⟩ = some (.int .i64 m.next) := bM.cell 1
        have bM_l := bM.lt
        have bP_0 : World.cell? w2 ⟨w.heap.size + 1, 0, none⟩ = some (.int .i64 pa) := bP.cell 0
        have bP_1 : World.cell? w2 ⟨w.heap.size + 1, 1, none⟩ = some (.int .i64 po) := bP.cell 1
        have bP_2 : World.cell? w2 ⟨w.heap.size + 1, 2, none⟩ = some (.int .i64 pt) := bP.cell 2
        have bP_l := bP.lt
        go_wp2
        clear bM_0 bM_1 bM_l
        clear bP_0 bP_1 bP_2 bP_l
        have bH := Box.new w2 41 #[.slice sh m.al.length ch, .int .i64 m.next]
        have hx2 : Ext w2 (World.alloc w2 (.cells #[.slice sh m.al.length ch, .int .i64 m.next] 41)) := (Ext.refl _).alloc _
        obtain ⟨w2b, hw2⟩ : ∃ x, World.alloc w2 (.cells #[.slice sh m.al.length ch, .int .i64 m.next] 41) = x := ⟨_, rfl⟩
        rw [hw2] at bH hx2 ⊢
        clear hw2
        replace bM := bM.ext hx2
        replace bP := bP.ext hx2
        replace hL := hL.ext hx2
        replace hU := hU.ext hx2
        replace hH := hH.ext hx2
        replace k0 := Ext.cell hx2 k0
        replace k1 := Ext.cell hx2 k1
        replace k2 := Ext.cell hx2 k2
        replace k3 := Ext.cell hx2 k3
        replace k4 := Ext.cell hx2 k4
        have hF2 := Ext.trans (hF1) hx2
        have bM_0 : World.cell? w2b ⟨w.heap.size, 0, none⟩ = some (.slice a m.al.length cp) := bM.cell 0
        have bM_1 : World.cell? w2b ⟨w.heap.size, 1, none⟩ = some (.int .i64 m.next) := bM.cell 1
        have bM_l := bM.lt
        have bP_0 : World.cell? w2b ⟨w.heap.size + 1, 0, none⟩ = some (.int .i64 pa) := bP.cell 0
        have bP_1 : World.cell? w2b ⟨w.heap.size + 1, 1, none⟩ = some (.int .i64 po) := bP.cell 1
        have bP_2 : World.cell? w2b ⟨w.heap.size + 1, 2, none⟩ = some (.int .i64 pt) := bP.cell 2
        have bP_l := bP.lt
        have bH_0 : World.cell? w2b ⟨w2.heap.size, 0, none⟩ = some (.slice sh m.al.length ch) := bH.cell 0
        have bH_1 : World.cell? w2b ⟨w2.heap.size, 1, none⟩ = some (.int .i64 m.next) := bH.cell 1
        have bH_l := bH.lt
        apply Lib.merge
        · intro hMg
          have hSk : ∀ w' w'' : World, (w'.cell? ⟨w.heap.size, 0, none⟩ = some (.slice a m.al.length cp) ∧ w'.cell? ⟨w.heap.size, 1, none⟩ = some (.int .i64 m.next) ∧ w'.cell? ⟨w.heap.size + 1, 0, none⟩ = some (.int .i64 pa) ∧ w'.cell? ⟨w.heap.size + 1, 1, none⟩ = some (.int .i64 po) ∧ w'.cell? ⟨w.heap.size + 1, 2, none⟩ = some (.int .i64 pt) ∧ w'.cell? ⟨lb, lo, none⟩ = some (.int .u8 ck) ∧ w'.cell? ⟨lb, lo + 1, none⟩ = some (.int .i64 cn) ∧ w'.cell? ⟨lb, lo + 2, none⟩ = some (.int .i64 ca) ∧ w'.cell? ⟨lb, lo + 3, none⟩ = some (.int .i64 cb) ∧ w'.cell? ⟨lb, lo + 4, none⟩ = some (.int .i64 ct) ∧ Ext w2b w') → Ext w' w'' → (w''.cell? ⟨w.heap.size, 0, none⟩ = some (.slice a m.al.length cp) ∧ w''.cell? ⟨w.heap.size, 1, none⟩ = some (.int .i64 m.next) ∧ w''.cell? ⟨w.heap.size + 1, 0, none⟩ = some (.int .i64 pa) ∧ w''.cell? ⟨w.heap.size + 1, 1, none⟩ = some (.int .i64 po) ∧ w''.cell? ⟨w.heap.size + 1, 2, none⟩ = some (.int .i64 pt) ∧ w''.cell? ⟨lb, lo, none⟩ = some (.int .u8 ck) ∧ w''.cell? ⟨lb, lo + 1, none⟩ = some (.int .i64 cn) ∧ w''.cell? ⟨lb, lo + 2, none⟩ = some (.int .i64 ca) ∧ w''.cell? ⟨lb, lo + 3, none⟩ = some (.int .i64 cb) ∧ w''.cell? ⟨lb, lo + 4, none⟩ = some (.int .i64 ct) ∧ Ext w2b w'') := by
            rintro w' w'' ⟨k0, k1, k2, k3, k4, k5, k6, k7, k8, k9, kE⟩ h
            exact ⟨h.cell k0, h.cell k1, h.cell k2, h.cell k3, h.cell k4, h.cell k5, h.cell k6, h.cell k7, h.cell k8, h.cell k9, Ext.trans kE h⟩
          go_region_held3 (fun w' => (w'.cell? ⟨w.heap.size, 0, none⟩ = some (.slice a m.al.length cp) ∧ w'.cell? ⟨w.heap.size, 1, none⟩ = some (.int .i64 m.next) ∧ w'.cell? ⟨w.heap.size + 1, 0, none⟩ = some (.int .i64 pa) ∧ w'.cell? ⟨w.heap.size + 1, 1, none⟩ = some (.int .i64 po) ∧ w'.cell? ⟨w.heap.size + 1, 2, none⟩ = some (.int .i64 pt) ∧ w'.cell? ⟨lb, lo, none⟩ = some (.int .u8 ck) ∧ w'.cell? ⟨lb, lo + 1, none⟩ = some (.int .i64 cn) ∧ w'.cell? ⟨lb, lo + 2, none⟩ = some (.int .i64 ca) ∧ w'.cell? ⟨lb, lo + 3, none⟩ = some (.int .i64 cb) ∧ w'.cell? ⟨lb, lo + 4, none⟩ = some (.int .i64 ct) ∧ Ext w2b w')) (first | assumption | exact ⟨Ext.cell (Ext.alloc hB2 _) bM_0, Ext.cell (Ext.alloc hB2 _) bM_1, Ext.cell (Ext.alloc hB2 _) bP_0, Ext.cell (Ext.alloc hB2 _) bP_1, Ext.cell (Ext.alloc hB2 _) bP_2, Ext.cell (Ext.alloc hB2 _) k0, Ext.cell (Ext.alloc hB2 _) k1, Ext.cell (Ext.alloc hB2 _) k2, Ext.cell (Ext.alloc hB2 _) k3, Ext.cell (Ext.alloc hB2 _) k4, (Ext.alloc hB2 _)⟩ | exact ⟨Ext.cell (Ext.drew (Ext.alloc hB2 _)) bM_0, Ext.cell (Ext.drew (Ext.alloc hB2 _)) bM_1, Ext.cell (Ext.drew (Ext.alloc hB2 _)) bP_0, Ext.cell (Ext.drew (Ext.alloc hB2 _)) bP_1, Ext.cell (Ext.drew (Ext.alloc hB2 _)) bP_2, Ext.cell (Ext.drew (Ext.alloc hB2 _)) k0, Ext.cell (Ext.drew (Ext.alloc hB2 _)) k1, Ext.cell (Ext.drew (Ext.alloc hB2 _)) k2, Ext.cell (Ext.drew (Ext.alloc hB2 _)) k3, Ext.cell (Ext.drew (Ext.alloc hB2 _)) k4, (Ext.drew (Ext.alloc hB2 _))⟩ | exact ⟨Ext.cell (Ext.setCell (Ext.setCell hB2 (Nat.le_refl _) _) (Nat.le_refl _) _) bM_0, Ext.cell (Ext.setCell (Ext.setCell hB2 (Nat.le_refl _) _) (Nat.le_refl _) _) bM_1, Ext.cell (Ext.setCell (Ext.setCell hB2 (Nat.le_refl _) _) (Nat.le_refl _) _) bP_0, Ext.cell (Ext.setCell (Ext.setCell hB2 (Nat.le_refl _) _) (Nat.le_refl _) _) bP_1, Ext.cell (Ext.setCell (Ext.setCell hB2 (Nat.le_refl _) _) (Nat.le_refl _) _) bP_2, Ext.cell (Ext.setCell (Ext.setCell hB2 (Nat.le_refl _) _) (Nat.le_refl _) _) k0, Ext.cell (Ext.setCell (Ext.setCell hB2 (Nat.le_refl _) _) (Nat.le_refl _) _) k1, Ext.cell (Ext.setCell (Ext.setCell hB2 (Nat.le_refl _) _) (Nat.le_refl _) _) k2, Ext.cell (Ext.setCell (Ext.setCell hB2 (Nat.le_refl _) _) (Nat.le_refl _) _) k3, Ext.cell (Ext.setCell (Ext.setCell hB2 (Nat.le_refl _) _) (Nat.le_refl _) _) k4, (Ext.setCell (Ext.setCell hB2 (Nat.le_refl _) _) (Nat.le_refl _) _)⟩ | exact ⟨Ext.cell (Ext.drew (Ext.setCell (Ext.setCell hB2 (Nat.le_refl _) _) (Nat.le_refl _) _)) bM_0, Ext.cell (Ext.drew (Ext.setCell (Ext.setCell hB2 (Nat.le_refl _) _) (Nat.le_refl _) _)) bM_1, Ext.cell (Ext.drew (Ext.setCell (Ext.setCell hB2 (Nat.le_refl _) _) (Nat.le_refl _) _)) bP_0, Ext.cell (Ext.drew (Ext.setCell (Ext.setCell hB2 (Nat.le_refl _) _) (Nat.le_refl _) _)) bP_1, Ext.cell (Ext.drew (Ext.setCell (Ext.setCell hB2 (Nat.le_refl _) _) (Nat.le_refl _) _)) bP_2, Ext.cell (Ext.drew (Ext.setCell (Ext.setCell hB2 (Nat.le_refl _) _) (Nat.le_refl _) _)) k0, Ext.cell (Ext.drew (Ext.setCell (Ext.setCell hB2 (Nat.le_refl _) _) (Nat.le_refl _) _)) k1, Ext.cell (Ext.drew (Ext.setCell (Ext.setCell hB2 (Nat.le_refl _) _) (Nat.le_refl _) _)) k2, Ext.cell (Ext.drew (Ext.setCell (Ext.setCell hB2 (Nat.le_refl _) _) (Nat.le_refl _) _)) k3, Ext.cell (Ext.drew (Ext.setCell (Ext.setCell hB2 (Nat.le_refl _) _) (Nat.le_refl _) _)) k4, (Ext.drew (Ext.setCell (Ext.setCell hB2 (Nat.le_refl _) _) (Nat.le_refl _) _))⟩ | exact ⟨bM_0, bM_1, bP_0, bP_1, bP_2, k0, k1, k2, k3, k4, (Ext.refl _).drew⟩ | (refine hSk _ _ (by assumption) ?_; first | assumption | exact (Ext.refl _).alloc _ | exact ((Ext.refl _).alloc _).drew)) (first | (go_at_call 24; refine (cells_Store (m := m) ⟨pa, po, pt⟩ ⟨ck, cn, ca, cb, ct⟩ (hL.ext ?_) hn).mono ?_; (exact And.right (And.right (And.right (And.right (And.right (And.right (And.right (And.right (And.right (And.right (by assumption))))))))))); rintro e wd2 ⟨vd, rfl, fd, hD2⟩; (have hB2 : Ext w2b wd2 := (by refine Ext.trans ?_ hD2; exact And.right (And.right (And.right (And.right (And.right (And.right (And.right (And.right (And.right (And.right (by assumption)))))))))))); rw [h1.out] at fd; rw [h1.out]; obtain ⟨vd', rfl, hd0⟩ := FrM.read fd; obtain ⟨sd, cd, rfl, -⟩ := hd0.form; dsimp only; (first | (have hz2 : Box wd2 w2b.heap.size 41 #[.slice none 0 0, .int .i64 0] := box_of_alloc_drew hD2; have zc2_0 : World.cell? wd2 ⟨w2b.heap.size, 0, none⟩ = some (.slice none 0 0) := Box.cell hz2 0; have zc2_1 : World.cell? wd2 ⟨w2b.heap.size, 1, none⟩ = some (.int .i64 0) := Box.cell hz2 1; have zf2_0 := Box.frozen hz2 0; have zf2_1 := Box.frozen hz2 1) | skip)))
          all_goals
            skip
            first
              | (have bod := Box.new wd2 41 #[.slice sd M1.al.length cd, .int .i64 M1.next]; have hBN2 := Ext.alloc hB2 (.cells #[.slice sd M1.al.length cd, .int .i64 M1.next] 41); have hdr := FrM.read (FrM.ext fd ((Ext.refl wd2).alloc (.cells #[.slice sd M1.al.length cd, .int .i64 M1.next] 41))); obtain ⟨wq2, hw2⟩ : ∃ x, World.alloc wd2 (.cells #[.slice sd M1.al.length cd, .int .i64 M1.next] 41) = x := ⟨_, rfl⟩; rw [hw2] at bod hBN2 hdr ⊢; clear hw2; obtain ⟨bb2, hw2⟩ : ∃ x, Array.size (World.heap wd2) = x := ⟨_, rfl⟩; rw [hw2] at bod ⊢; clear hw2)
              | (have bod : Box (World.setCell (World.setCell wd2 ⟨w2b.heap.size, 0, none⟩ (.slice sd M1.al.length cd)) ⟨w2b.heap.size, 1, none⟩ (.int .i64 M1.next)) w2b.heap.size 41 #[.slice sd M1.al.length cd, .int .i64 M1.next] := Box.set (Box.set (hz2) 0 (.slice sd M1.al.length cd)) 1 (.int .i64 M1.next); have hBN2 : Ext w2b (World.setCell (World.setCell wd2 ⟨w2b.heap.size, 0, none⟩ (.slice sd M1.al.length cd)) ⟨w2b.heap.size, 1, none⟩ (.int .i64 M1.next)) := (Ext.setCell (Ext.setCell hB2 (Nat.le_refl _) _) (Nat.le_refl _) _); have hdr := FrM.read (FrM.but (FrM.but fd (ExtBut.setCell _ ⟨w2b.heap.size, 0, none⟩ (.slice sd M1.al.length cd)) (fun b h => by have h' : b = w2b.heap.size := h; simp; omega)) (ExtBut.setCell _ ⟨w2b.heap.size, 1, none⟩ (.int .i64 M1.next)) (fun b h => by have h' : b = w2b.heap.size := h; simp; omega)); clear hz2 zc2_0 zf2_0 zc2_1 zf2_1; obtain ⟨wq2, hw2⟩ : ∃ x, (World.setCell (World.setCell wd2 ⟨w2b.heap.size, 0, none⟩ (.slice sd M1.al.length cd)) ⟨w2b.heap.size, 1, none⟩ (.int .i64 M1.next)) = x := ⟨_, rfl⟩; rw [hw2] at bod hBN2 hdr ⊢; clear hw2; obtain ⟨bb2, hw2⟩ : ∃ x, Array.size (World.heap w2b) = x := ⟨_, rfl⟩; rw [hw2] at bod ⊢; clear hw2)
            try clear fd hd0
            try (rename World.cell? _ _ = some _ ∧ _ => hS; clear hS)
            try (rename World.cell? _ _ = some _ ∧ _ => hS; clear hS)
            revert bod
            revert hdr
            revert hBN2
            revert bb2
            revert wq2
            revert cd
            revert sd
            exact hMg trivial
        intro sd cd wq2 bb2 hBN2 hdr bod
        clear bM_0 bM_1 bM_l
        clear bP_0 bP_1 bP_2 bP_l
        clear bH_0 bH_1 bH_l
        replace bM := bM.ext hBN2
        replace bP := bP.ext hBN2
        replace hL := hL.ext hBN2
        replace hU := hU.ext hBN2
        replace hH := hH.ext hBN2
        replace bH := bH.ext hBN2
        replace k0 := Ext.cell hBN2 k0
        replace k1 := Ext.cell hBN2 k1
        replace k2 := Ext.cell hBN2 k2
        replace k3 := Ext.cell hBN2 k3
        replace k4 := Ext.cell hBN2 k4
        have hF3 := Ext.trans (hF2) hBN2
        obtain ⟨zd, hzd, hd⟩ := hdr; simp only [Value.agg.injEq, Array.mk.injEq, List.cons.injEq, and_true] at hzd; subst hzd
        have bM_0 : World.cell? wq2 ⟨w.heap.size, 0, none⟩ = some (.slice a m.al.length cp) := bM.cell 0
        have bM_1 : World.cell? wq2 ⟨w.heap.size, 1, none⟩ = some (.int .i64 m.next) := bM.cell 1
        have bM_l := bM.lt
        have bP_0 : World.cell? wq2 ⟨w.heap.size + 1, 0, none⟩ = some (.int .i64 pa) := bP.cell 0
        have bP_1 : World.cell? wq2 ⟨w.heap.size + 1, 1, none⟩ = some (.int .i64 po) := bP.cell 1
        have bP_2 : World.cell? wq2 ⟨w.heap.size + 1, 2, none⟩ = some (.int .i64 pt) := bP.cell 2
        have bP_l := bP.lt
        have bH_0 : World.cell? wq2 ⟨w2.heap.size, 0, none⟩ = some (.slice sh m.al.length ch) := bH.cell 0
        have bH_1 : World.cell? wq2 ⟨w2.heap.size, 1, none⟩ = some (.int .i64 m.next) := bH.cell 1
        have bH_l := bH.lt
        have bod_0 : World.cell? wq2 ⟨bb2, 0, none⟩ = some (.slice sd M1.al.length cd) := bod.cell 0
        have bod_1 : World.cell? wq2 ⟨bb2, 1, none⟩ = some (.int .i64 M1.next) := bod.cell 1
        have bod_l := bod.lt
        go_wp2
        clear bM_0 bM_1 bM_l
        clear bP_0 bP_1 bP_2 bP_l
        clear bH_0 bH_1 bH_l
        clear bod_0 bod_1 bod_l
        have bM_0 : World.cell? wq2 ⟨w.heap.size, 0, none⟩ = some (.slice a m.al.length cp) := bM.cell 0
        have bM_1 : World.cell? wq2 ⟨w.heap.size, 1, none⟩ = some (.int .i64 m.next) := bM.cell 1
        have bM_l := bM.lt
        have bP_0 : World.cell? wq2 ⟨w.heap.size + 1, 0, none⟩ = some (.int .i64 pa) := bP.cell 0
        have bP_1 : World.cell? wq2 ⟨w.heap.size + 1, 1, none⟩ = some (.int .i64 po) := bP.cell 1
        have bP_2 : World.cell? wq2 ⟨w.heap.size + 1, 2, none⟩ = some (.int .i64 pt) := bP.cell 2
        have bP_l := bP.lt
        have bH_0 : World.cell? wq2 ⟨w2.heap.size, 0, none⟩ = some (.slice sh m.al.length ch) := bH.cell 0
        have bH_1 : World.cell? wq2 ⟨w2.heap.size, 1, none⟩ = some (.int .i64 m.next) := bH.cell 1
        have bH_l := bH.lt
        have bod_0 : World.cell? wq2 ⟨bb2, 0, none⟩ = some (.slice sd M1.al.length cd) := bod.cell 0
        have bod_1 : World.cell? wq2 ⟨bb2, 1, none⟩ = some (.int .i64 M1.next) := bod.cell 1
        have bod_l := bod.lt
        apply Lib.merge
        · intro hMg
          have hSk : ∀ w' w'' : World, (w'.cell? ⟨w.heap.size + 1, 0, none⟩ = some (.int .i64 pa) ∧ w'.cell? ⟨w.heap.size + 1, 1, none⟩ = some (.int .i64 po) ∧ w'.cell? ⟨w.heap.size + 1, 2, none⟩ = some (.int .i64 pt) ∧ w'.cell? ⟨w2.heap.size, 0, none⟩ = some (.slice sh m.al.length ch) ∧ w'.cell? ⟨w2.heap.size, 1, none⟩ = some (.int .i64 m.next) ∧ w'.cell? ⟨lb, lo, none⟩ = some (.int .u8 ck) ∧ w'.cell? ⟨lb, lo + 1, none⟩ = some (.int .i64 cn) ∧ w'.cell? ⟨lb, lo + 2, none⟩ = some (.int .i64 ca) ∧ w'.cell? ⟨lb, lo + 3, none⟩ = some (.int .i64 cb) ∧ w'.cell? ⟨lb, lo + 4, none⟩ = some (.int .i64 ct) ∧ Ext wq2 w') → Ext w' w'' → (w''.cell? ⟨w.heap.size + 1, 0, none⟩ = some (.int .i64 pa) ∧ w''.cell? ⟨w.heap.size + 1, 1, none⟩ = some (.int .i64 po) ∧ w''.cell? ⟨w.heap.size + 1, 2, none⟩ = some (.int .i64 pt) ∧ w''.cell? ⟨w2.heap.size, 0, none⟩ = some (.slice sh m.al.length ch) ∧ w''.cell? ⟨w2.heap.size, 1, none⟩ = some (.int .i64 m.next) ∧ w''.cell? ⟨lb, lo, none⟩ = some (.int .u8 ck) ∧ w''.cell? ⟨lb, lo + 1, none⟩ = some (.int .i64 cn) ∧ w''.cell? ⟨lb, lo + 2, none⟩ = some (.int .i64 ca) ∧ w''.cell? ⟨lb, lo + 3, none⟩ = some (.int .i64 cb) ∧ w''.cell? ⟨lb, lo + 4, none⟩ = some (.int .i64 ct) ∧ Ext wq2 w'') := by
            rintro w' w'' ⟨k0, k1, k2, k3, k4, k5, k6, k7, k8, k9, kE⟩ h
            exact ⟨h.cell k0, h.cell k1, h.cell k2, h.cell k3, h.cell k4, h.cell k5, h.cell k6, h.cell k7, h.cell k8, h.cell k9, Ext.trans kE h⟩
          go_region_held3 (fun w' => (w'.cell? ⟨w.heap.size + 1, 0, none⟩ = some (.int .i64 pa) ∧ w'.cell? ⟨w.heap.size + 1, 1, none⟩ = some (.int .i64 po) ∧ w'.cell? ⟨w.heap.size + 1, 2, none⟩ = some (.int .i64 pt) ∧ w'.cell? ⟨w2.heap.size, 0, none⟩ = some (.slice sh m.al.length ch) ∧ w'.cell? ⟨w2.heap.size, 1, none⟩ = some (.int .i64 m.next) ∧ w'.cell? ⟨lb, lo, none⟩ = some (.int .u8 ck) ∧ w'.cell? ⟨lb, lo + 1, none⟩ = some (.int .i64 cn) ∧ w'.cell? ⟨lb, lo + 2, none⟩ = some (.int .i64 ca) ∧ w'.cell? ⟨lb, lo + 3, none⟩ = some (.int .i64 cb) ∧ w'.cell? ⟨lb, lo + 4, none⟩ = some (.int .i64 ct) ∧ Ext wq2 w')) (first | assumption | exact ⟨Ext.cell (Ext.alloc hB4 _) bP_0, Ext.cell (Ext.alloc hB4 _) bP_1, Ext.cell (Ext.alloc hB4 _) bP_2, Ext.cell (Ext.alloc hB4 _) bH_0, Ext.cell (Ext.alloc hB4 _) bH_1, Ext.cell (Ext.alloc hB4 _) k0, Ext.cell (Ext.alloc hB4 _) k1, Ext.cell (Ext.alloc hB4 _) k2, Ext.cell (Ext.alloc hB4 _) k3, Ext.cell (Ext.alloc hB4 _) k4, (Ext.alloc hB4 _)⟩ | exact ⟨Ext.cell (Ext.drew (Ext.alloc hB4 _)) bP_0, Ext.cell (Ext.drew (Ext.alloc hB4 _)) bP_1, Ext.cell (Ext.drew (Ext.alloc hB4 _)) bP_2, Ext.cell (Ext.drew (Ext.alloc hB4 _)) bH_0, Ext.cell (Ext.drew (Ext.alloc hB4 _)) bH_1, Ext.cell (Ext.drew (Ext.alloc hB4 _)) k0, Ext.cell (Ext.drew (Ext.alloc hB4 _)) k1, Ext.cell (Ext.drew (Ext.alloc hB4 _)) k2, Ext.cell (Ext.drew (Ext.alloc hB4 _)) k3, Ext.cell (Ext.drew (Ext.alloc hB4 _)) k4, (Ext.drew (Ext.alloc hB4 _))⟩ | exact ⟨Ext.cell (Ext.setCell (Ext.setCell hB4 (Nat.le_refl _) _) (Nat.le_refl _) _) bP_0, Ext.cell (Ext.setCell (Ext.setCell hB4 (Nat.le_refl _) _) (Nat.le_refl _) _) bP_1, Ext.cell (Ext.setCell (Ext.setCell hB4 (Nat.le_refl _) _) (Nat.le_refl _) _) bP_2, Ext.cell (Ext.setCell (Ext.setCell hB4 (Nat.le_refl _) _) (Nat.le_refl _) _) bH_0, Ext.cell (Ext.setCell (Ext.setCell hB4 (Nat.le_refl _) _) (Nat.le_refl _) _) bH_1, Ext.cell (Ext.setCell (Ext.setCell hB4 (Nat.le_refl _) _) (Nat.le_refl _) _) k0, Ext.cell (Ext.setCell (Ext.setCell hB4 (Nat.le_refl _) _) (Nat.le_refl _) _) k1, Ext.cell (Ext.setCell (Ext.setCell hB4 (Nat.le_refl _) _) (Nat.le_refl _) _) k2, Ext.cell (Ext.setCell (Ext.setCell hB4 (Nat.le_refl _) _) (Nat.le_refl _) _) k3, Ext.cell (Ext.setCell (Ext.setCell hB4 (Nat.le_refl _) _) (Nat.le_refl _) _) k4, (Ext.setCell (Ext.setCell hB4 (Nat.le_refl _) _) (Nat.le_refl _) _)⟩ | exact ⟨Ext.cell (Ext.drew (Ext.setCell (Ext.setCell hB4 (Nat.le_refl _) _) (Nat.le_refl _) _)) bP_0, Ext.cell (Ext.drew (Ext.setCell (Ext.setCell hB4 (Nat.le_refl _) _) (Nat.le_refl _) _)) bP_1, Ext.cell (Ext.drew (Ext.setCell (Ext.setCell hB4 (Nat.le_refl _) _) (Nat.le_refl _) _)) bP_2, Ext.cell (Ext.drew (Ext.setCell (Ext.setCell hB4 (Nat.le_refl _) _) (Nat.le_refl _) _)) bH_0, Ext.cell (Ext.drew (Ext.setCell (Ext.setCell hB4 (Nat.le_refl _) _) (Nat.le_refl _) _)) bH_1, Ext.cell (Ext.drew (Ext.setCell (Ext.setCell hB4 (Nat.le_refl _) _) (Nat.le_refl _) _)) k0, Ext.cell (Ext.drew (Ext.setCell (Ext.setCell hB4 (Nat.le_refl _) _) (Nat.le_refl _) _)) k1, Ext.cell (Ext.drew (Ext.setCell (Ext.setCell hB4 (Nat.le_refl _) _) (Nat.le_refl _) _)) k2, Ext.cell (Ext.drew (Ext.setCell (Ext.setCell hB4 (Nat.le_refl _) _) (Nat.le_refl _) _)) k3, Ext.cell (Ext.drew (Ext.setCell (Ext.setCell hB4 (Nat.le_refl _) _) (Nat.le_refl _) _)) k4, (Ext.drew (Ext.setCell (Ext.setCell hB4 (Nat.le_refl _) _) (Nat.le_refl _) _))⟩ | exact ⟨bP_0, bP_1, bP_2, bH_0, bH_1, k0, k1, k2, k3, k4, (Ext.refl _).drew⟩ | (refine hSk _ _ (by assumption) ?_; first | assumption | exact (Ext.refl _).alloc _ | exact ((Ext.refl _).alloc _).drew)) (first | (go_at_call 25; refine (ref27_Store (m := m) ⟨pa, po, pt⟩ ⟨ck, cn, ca, cb, ct⟩ (hH.ext ?_) hn).mono ?_; (exact And.right (And.right (And.right (And.right (And.right (And.right (And.right (And.right (And.right (And.right (by assumption))))))))))); rintro e wd4 ⟨vr, rfl, fr, hD4⟩; (have hB4 : Ext wq2 wd4 := (by refine Ext.trans ?_ hD4; exact And.right (And.right (And.right (And.right (And.right (And.right (And.right (And.right (And.right (And.right (by assumption)))))))))))); rw [h1.out] at fr; rw [h1.out]; obtain ⟨vr', rfl, hr0⟩ := FrM.read fr; obtain ⟨sr, cr, rfl, -⟩ := hr0.form; dsimp only; (first | (have hz4 : Box wd4 wq2.heap.size 41 #[.slice none 0 0, .int .i64 0] := box_of_alloc_drew hD4; have zc4_0 : World.cell? wd4 ⟨wq2.heap.size, 0, none⟩ = some (.slice none 0 0) := Box.cell hz4 0; have zc4_1 : World.cell? wd4 ⟨wq2.heap.size, 1, none⟩ = some (.int .i64 0) := Box.cell hz4 1; have zf4_0 := Box.frozen hz4 0; have zf4_1 := Box.frozen hz4 1) | skip)))
          all_goals
            skip
            first
              | (have bor := Box.new wd4 41 #[.slice sr M1.al.length cr, .int .i64 M1.next]; have hBN4 := Ext.alloc hB4 (.cells #[.slice sr M1.al.length cr, .int .i64 M1.next] 41); have hrr := FrM.read (FrM.ext fr ((Ext.refl wd4).alloc (.cells #[.slice sr M1.al.length cr, .int .i64 M1.next] 41))); obtain ⟨wq4, hw4⟩ : ∃ x, World.alloc wd4 (.cells #[.slice sr M1.al.length cr, .int .i64 M1.next] 41) = x := ⟨_, rfl⟩; rw [hw4] at bor hBN4 hrr ⊢; clear hw4; obtain ⟨bb4, hw4⟩ : ∃ x, Array.size (World.heap wd4) = x := ⟨_, rfl⟩; rw [hw4] at bor ⊢; clear hw4)
              | (have bor : Box (World.setCell (World.setCell wd4 ⟨wq2.heap.size, 0, none⟩ (.slice sr M1.al.length cr)) ⟨wq2.heap.size, 1, none⟩ (.int .i64 M1.next)) wq2.heap.size 41 #[.slice sr M1.al.length cr, .int .i64 M1.next] := Box.set (Box.set (hz4) 0 (.slice sr M1.al.length cr)) 1 (.int .i64 M1.next); have hBN4 : Ext wq2 (World.setCell (World.setCell wd4 ⟨wq2.heap.size, 0, none⟩ (.slice sr M1.al.length cr)) ⟨wq2.heap.size, 1, none⟩ (.int .i64 M1.next)) := (Ext.setCell (Ext.setCell hB4 (Nat.le_refl _) _) (Nat.le_refl _) _); have hrr := FrM.read (FrM.but (FrM.but fr (ExtBut.setCell _ ⟨wq2.heap.size, 0, none⟩ (.slice sr M1.al.length cr)) (fun b h => by have h' : b = wq2.heap.size := h; simp; omega)) (ExtBut.setCell _ ⟨wq2.heap.size, 1, none⟩ (.int .i64 M1.next)) (fun b h => by have h' : b = wq2.heap.size := h; simp; omega)); clear hz4 zc4_0 zf4_0 zc4_1 zf4_1; obtain ⟨wq4, hw4⟩ : ∃ x, (World.setCell (World.setCell wd4 ⟨wq2.heap.size, 0, none⟩ (.slice sr M1.al.length cr)) ⟨wq2.heap.size, 1, none⟩ (.int .i64 M1.next)) = x := ⟨_, rfl⟩; rw [hw4] at bor hBN4 hrr ⊢; clear hw4; obtain ⟨bb4, hw4⟩ : ∃ x, Array.size (World.heap wq2) = x := ⟨_, rfl⟩; rw [hw4] at bor ⊢; clear hw4)
            try clear fr hr0
            try (rename World.cell? _ _ = some _ ∧ _ => hS; clear hS)
            try (rename World.cell? _ _ = some _ ∧ _ => hS; clear hS)
            revert bor
            revert hrr
            revert hBN4
            revert bb4
            revert wq4
            revert cr
            revert sr
            exact hMg trivial
        intro sr cr wq4 bb4 hBN4 hrr bor
        clear bM_0 bM_1 bM_l
        clear bP_0 bP_1 bP_2 bP_l
        clear bH_0 bH_1 bH_l
        clear bod_0 bod_1 bod_l
        replace bM := bM.ext hBN4
        replace bP := bP.ext hBN4
        replace hL := hL.ext hBN4
        replace hU := hU.ext hBN4
        replace hH := hH.ext hBN4
        replace bH := bH.ext hBN4
        replace bod := bod.ext hBN4
        replace hd := hd.ext hBN4
        replace k0 := Ext.cell hBN4 k0
        replace k1 := Ext.cell hBN4 k1
        replace k2 := Ext.cell hBN4 k2
        replace k3 := Ext.cell hBN4 k3
        replace k4 := Ext.cell hBN4 k4
        have hF4 := Ext.trans (hF3) hBN4
        obtain ⟨zr, hzr, hr⟩ := hrr; simp only [Value.agg.injEq, Array.mk.injEq, List.cons.injEq, and_true] at hzr; subst hzr
        have bM_0 : World.cell? wq4 ⟨w.heap.size, 0, none⟩ = some (.slice a m.al.length cp) := bM.cell 0
        have bM_1 : World.cell? wq4 ⟨w.heap.size, 1, none⟩ = some (.int .i64 m.next) := bM.cell 1
        have bM_l := bM.lt
        have bP_0 : World.cell? wq4 ⟨w.heap.size + 1, 0, none⟩ = some (.int .i64 pa) := bP.cell 0
        have bP_1 : World.cell? wq4 ⟨w.heap.size + 1, 1, none⟩ = some (.int .i64 po) := bP.cell 1
        have bP_2 : World.cell? wq4 ⟨w.heap.size + 1, 2, none⟩ = some (.int .i64 pt) := bP.cell 2
        have bP_l := bP.lt
        have bH_0 : World.cell? wq4 ⟨w2.heap.size, 0, none⟩ = some (.slice sh m.al.length ch) := bH.cell 0
        have bH_1 : World.cell? wq4 ⟨w2.heap.size, 1, none⟩ = some (.int .i64 m.next) := bH.cell 1
        have bH_l := bH.lt
        have bod_0 : World.cell? wq4 ⟨bb2, 0, none⟩ = some (.slice sd M1.al.length cd) := bod.cell 0
        have bod_1 : World.cell? wq4 ⟨bb2, 1, none⟩ = some (.int .i64 M1.next) := bod.cell 1
        have bod_l := bod.lt
        have bor_0 : World.cell? wq4 ⟨bb4, 0, none⟩ = some (.slice sr M1.al.length cr) := bor.cell 0
        have bor_1 : World.cell? wq4 ⟨bb4, 1, none⟩ = some (.int .i64 M1.next) := bor.cell 1
        have bor_l := bor.lt
        go_wp2_with fail
        clear bM_0 bM_1 bM_l
        clear bP_0 bP_1 bP_2 bP_l
        clear bH_0 bH_1 bH_l
        clear bod_0 bod_1 bod_l
        clear bor_0 bor_1 bor_l
        refine (ref26_Same hd hr).mono ?_
        rintro e w6 ⟨rfl, hE5⟩
        replace bM := bM.ext hE5
        replace bP := bP.ext hE5
        replace hL := hL.ext hE5
        replace hU := hU.ext hE5
        replace hH := hH.ext hE5
        replace bH := bH.ext hE5
        replace bod := bod.ext hE5
        replace hd := hd.ext hE5
        replace bor := bor.ext hE5
        replace hr := hr.ext hE5
        replace k0 := Ext.cell hE5 k0
        replace k1 := Ext.cell hE5 k1
        replace k2 := Ext.cell hE5 k2
        replace k3 := Ext.cell hE5 k3
        replace k4 := Ext.cell hE5 k4
        have hF5 := Ext.trans (hF4) hE5
        have bM_0 : World.cell? w6 ⟨w.heap.size, 0, none⟩ = some (.slice a m.al.length cp) := bM.cell 0
        have bM_1 : World.cell? w6 ⟨w.heap.size, 1, none⟩ = some (.int .i64 m.next) := bM.cell 1
        have bM_l := bM.lt
        have bP_0 : World.cell? w6 ⟨w.heap.size + 1, 0, none⟩ = some (.int .i64 pa) := bP.cell 0
        have bP_1 : World.cell? w6 ⟨w.heap.size + 1, 1, none⟩ = some (.int .i64 po) := bP.cell 1
        have bP_2 : World.cell? w6 ⟨w.heap.size + 1, 2, none⟩ = some (.int .i64 pt) := bP.cell 2
        have bP_l := bP.lt
        have bH_0 : World.cell? w6 ⟨w2.heap.size, 0, none⟩ = some (.slice sh m.al.length ch) := bH.cell 0
        have bH_1 : World.cell? w6 ⟨w2.heap.size, 1, none⟩ = some (.int .i64 m.next) := bH.cell 1
        have bH_l := bH.lt
        have bod_0 : World.cell? w6 ⟨bb2, 0, none⟩ = some (.slice sd M1.al.length cd) := bod.cell 0
        have bod_1 : World.cell? w6 ⟨bb2, 1, none⟩ = some (.int .i64 M1.next) := bod.cell 1
        have bod_l := bod.lt
        have bor_0 : World.cell? w6 ⟨bb4, 0, none⟩ = some (.slice sr M1.al.length cr) := bor.cell 0
        have bor_1 : World.cell? w6 ⟨bb4, 1, none⟩ = some (.int .i64 M1.next) := bor.cell 1
        have bor_l := bor.lt
        go_wp2_with fail
        clear bM_0 bM_1 bM_l
        clear bP_0 bP_1 bP_2 bP_l
        clear bH_0 bH_1 bH_l
        clear bod_0 bod_1 bod_l
        clear bor_0 bor_1 bor_l
        refine (cells_StoreAll (m := m) ⟨pa, po, pt⟩ hL hn hU).mono ?_
        rintro e w7 ⟨vx, rfl, fx, hE6⟩
        replace bM := bM.ext hE6
        replace bP := bP.ext hE6
        replace hL := hL.ext hE6
        replace hU := hU.ext hE6
        replace hH := hH.ext hE6
        replace bH := bH.ext hE6
        replace bod := bod.ext hE6
        replace hd := hd.ext hE6
        replace bor := bor.ext hE6
        replace hr := hr.ext hE6
        replace k0 := Ext.cell hE6 k0
        replace k1 := Ext.cell hE6 k1
        replace k2 := Ext.cell hE6 k2
        replace k3 := Ext.cell hE6 k3
        replace k4 := Ext.cell hE6 k4
        have hF6 := Ext.trans (hF5) hE6
        rw [h2.out] at fx
        rw [h2.out]
        obtain ⟨vx', rfl, hx⟩ := FrM.read fx
        obtain ⟨sx, cx, rfl, -⟩ := hx.form
        clear fx
        dsimp only
        have bM_0 : World.cell? w7 ⟨w.heap.size, 0, none⟩ = some (.slice a m.al.length cp) := bM.cell 0
        have bM_1 : World.cell? w7 ⟨w.heap.size, 1, none⟩ = some (.int .i64 m.next) := bM.cell 1
        have bM_l := bM.lt
        have bP_0 : World.cell? w7 ⟨w.heap.size + 1, 0, none⟩ = some (.int .i64 pa) := bP.cell 0
        have bP_1 : World.cell? w7 ⟨w.heap.size + 1, 1, none⟩ = some (.int .i64 po) := bP.cell 1
        have bP_2 : World.cell? w7 ⟨w.heap.size + 1, 2, none⟩ = some (.int .i64 pt) := bP.cell 2
        have bP_l := bP.lt
        have bH_0 : World.cell? w7 ⟨w2.heap.size, 0, none⟩ = some (.slice sh m.al.length ch) := bH.cell 0
        have bH_1 : World.cell? w7 ⟨w2.heap.size, 1, none⟩ = some (.int .i64 m.next) := bH.cell 1
        have bH_l := bH.lt
        have bod_0 : World.cell? w7 ⟨bb2, 0, none⟩ = some (.slice sd M1.al.length cd) := bod.cell 0
        have bod_1 : World.cell? w7 ⟨bb2, 1, none⟩ = some (.int .i64 M1.next) := bod.cell 1
        have bod_l := bod.lt
        have bor_0 : World.cell? w7 ⟨bb4, 0, none⟩ = some (.slice sr M1.al.length cr) := bor.cell 0
        have bor_1 : World.cell? w7 ⟨bb4, 1, none⟩ = some (.int .i64 M1.next) := bor.cell 1
        have bor_l := bor.lt
        go_wp2_with fail
        clear bM_0 bM_1 bM_l
        clear bP_0 bP_1 bP_2 bP_l
        clear bH_0 bH_1 bH_l
        clear bod_0 bod_1 bod_l
        clear bor_0 bor_1 bor_l
        have box := Box.new w7 41 #[.slice sx M2.al.length cx, .int .i64 M2.next]
        have hx7 : Ext w7 (World.alloc w7 (.cells #[.slice sx M2.al.length cx, .int .i64 M2.next] 41)) := (Ext.refl _).alloc _
        obtain ⟨w7b, hw7⟩ : ∃ x, World.alloc w7 (.cells #[.slice sx M2.al.length cx, .int .i64 M2.next] 41) = x := ⟨_, rfl⟩
        rw [hw7] at box hx7 ⊢
        clear hw7
        replace bM := bM.ext hx7
        replace bP := bP.ext hx7
        replace hL := hL.ext hx7
        replace hU := hU.ext hx7
        replace hH := hH.ext hx7
        replace bH := bH.ext hx7
        replace bod := bod.ext hx7
        replace hd := hd.ext hx7
        replace bor := bor.ext hx7
        replace hr := hr.ext hx7
        replace hx := hx.ext hx7
        replace k0 := Ext.cell hx7 k0
        replace k1 := Ext.cell hx7 k1
        replace k2 := Ext.cell hx7 k2
        replace k3 := Ext.cell hx7 k3
        replace k4 := Ext.cell hx7 k4
        have hF7 := Ext.trans (hF6) hx7
        refine (ref27_StoreAll (m := m) ⟨pa, po, pt⟩ hH hn hU).mono ?_
        rintro e w9 ⟨vy, rfl, fy, hE8⟩
        replace bM := bM.ext hE8
        replace bP := bP.ext hE8
        replace hL := hL.ext hE8
        replace hU := hU.ext hE8
        replace hH := hH.ext hE8
        replace bH := bH.ext hE8
        replace bod := bod.ext hE8
        replace hd := hd.ext hE8
        replace bor := bor.ext hE8
        replace hr := hr.ext hE8
        replace hx := hx.ext hE8
        replace box := box.ext hE8
        replace k0 := Ext.cell hE8 k0
        replace k1 := Ext.cell hE8 k1
        replace k2 := Ext.cell hE8 k2
        replace k3 := Ext.cell hE8 k3
        replace k4 := Ext.cell hE8 k4
        have hF8 := Ext.trans (hF7) hE8
        rw [h2.out] at fy
        rw [h2.out]
        obtain ⟨vy', rfl, hy⟩ := FrM.read fy
        obtain ⟨sy, cy, rfl, -⟩ := hy.form
        clear fy
        dsimp only
        have bM_0 : World.cell? w9 ⟨w.heap.size, 0, none⟩ = some (.slice a m.al.length cp) := bM.cell 0
        have bM_1 : World.cell? w9 ⟨w.heap.size, 1, none⟩ = some (.int .i64 m.next) := bM.cell 1
        have bM_l := bM.lt
        have bP_0 : World.cell? w9 ⟨w.heap.size + 1, 0, none⟩ = some (.int .i64 pa) := bP.cell 0
        have bP_1 : World.cell? w9 ⟨w.heap.size + 1, 1, none⟩ = some (.int .i64 po) := bP.cell 1
        have bP_2 : World.cell? w9 ⟨w.heap.size + 1, 2, none⟩ = some (.int .i64 pt) := bP.cell 2
        have bP_l := bP.lt
        have bH_0 : World.cell? w9 ⟨w2.heap.size, 0, none⟩ = some (.slice sh m.al.length ch) := bH.cell 0
        have bH_1 : World.cell? w9 ⟨w2.heap.size, 1, none⟩ = some (.int .i64 m.next) := bH.cell 1
        have bH_l := bH.lt
        have bod_0 : World.cell? w9 ⟨bb2, 0, none⟩ = some (.slice sd M1.al.length cd) := bod.cell 0
        have bod_1 : World.cell? w9 ⟨bb2, 1, none⟩ = some (.int .i64 M1.next) := bod.cell 1
        have bod_l := bod.lt
        have bor_0 : World.cell? w9 ⟨bb4, 0, none⟩ = some (.slice sr M1.al.length cr) := bor.cell 0
        have bor_1 : World.cell? w9 ⟨bb4, 1, none⟩ = some (.int .i64 M1.next) := bor.cell 1
        have bor_l := bor.lt
        have box_0 : World.cell? w9 ⟨w7.heap.size, 0, none⟩ = some (.slice sx M2.al.length cx) := box.cell 0
        have box_1 : World.cell? w9 ⟨w7.heap.size, 1, none⟩ = some (.int .i64 M2.next) := box.cell 1
        have box_l := box.lt
        go_wp2_with fail
        clear bM_0 bM_1 bM_l
        clear bP_0 bP_1 bP_2 bP_l
        clear bH_0 bH_1 bH_l
        clear bod_0 bod_1 bod_l
        clear bor_0 bor_1 bor_l
        clear box_0 box_1 box_l
        have boy := Box.new w9 41 #[.slice sy M2.al.length cy, .int .i64 M2.next]
        have hx9 : Ext w9 (World.alloc w9 (.cells #[.slice sy M2.al.length cy, .int .i64 M2.next] 41)) := (Ext.refl _).alloc _
        obtain ⟨w9b, hw9⟩ : ∃ x, World.alloc w9 (.cells #[.slice sy M2.al.length cy, .int .i64 M2.next] 41) = x := ⟨_, rfl⟩
        rw [hw9] at boy hx9 ⊢
        clear hw9
        replace bM := bM.ext hx9
        replace bP := bP.ext hx9
        replace hL := hL.ext hx9
        replace hU := hU.ext hx9
        replace hH := hH.ext hx9
        replace bH := bH.ext hx9
        replace bod := bod.ext hx9
        replace hd := hd.ext hx9
        replace bor := bor.ext hx9
        replace hr := hr.ext hx9
        replace hx := hx.ext hx9
        replace box := box.ext hx9
        replace hy := hy.ext hx9
        replace k0 := Ext.cell hx9 k0
        replace k1 := Ext.cell hx9 k1
        replace k2 := Ext.cell hx9 k2
        replace k3 := Ext.cell hx9 k3
        replace k4 := Ext.cell hx9 k4
        have hF9 := Ext.trans (hF8) hx9
        refine (ref26_Same hx hy).mono ?_
        rintro e w11 ⟨rfl, hE10⟩
        replace bM := bM.ext hE10
        replace bP := bP.ext hE10
        replace hL := hL.ext hE10
        replace hU := hU.ext hE10
        replace hH := hH.ext hE10
        replace bH := bH.ext hE10
        replace bod := bod.ext hE10
        replace hd := hd.ext hE10
        replace bor := bor.ext hE10
        replace hr := hr.ext hE10
        replace hx := hx.ext hE10
        replace box := box.ext hE10
        replace hy := hy.ext hE10
        replace boy := boy.ext hE10
        replace k0 := Ext.cell hE10 k0
        replace k1 := Ext.cell hE10 k1
        replace k2 := Ext.cell hE10 k2
        replace k3 := Ext.cell hE10 k3
        replace k4 := Ext.cell hE10 k4
        have hF10 := Ext.trans (hF9) hE10
        have bM_0 : World.cell? w11 ⟨w.heap.size, 0, none⟩ = some (.slice a m.al.length cp) := bM.cell 0
        have bM_1 : World.cell? w11 ⟨w.heap.size, 1, none⟩ = some (.int .i64 m.next) := bM.cell 1
        have bM_l := bM.lt
        have bP_0 : World.cell? w11 ⟨w.heap.size + 1, 0, none⟩ = some (.int .i64 pa) := bP.cell 0
        have bP_1 : World.cell? w11 ⟨w.heap.size + 1, 1, none⟩ = some (.int .i64 po) := bP.cell 1
        have bP_2 : World.cell? w11 ⟨w.heap.size + 1, 2, none⟩ = some (.int .i64 pt) := bP.cell 2
        have bP_l := bP.lt
        have bH_0 : World.cell? w11 ⟨w2.heap.size, 0, none⟩ = some (.slice sh m.al.length ch) := bH.cell 0
        have bH_1 : World.cell? w11 ⟨w2.heap.size, 1, none⟩ = some (.int .i64 m.next) := bH.cell 1
        have bH_l := bH.lt
        have bod_0 : World.cell? w11 ⟨bb2, 0, none⟩ = some (.slice sd M1.al.length cd) := bod.cell 0
        have bod_1 : World.cell? w11 ⟨bb2, 1, none⟩ = some (.int .i64 M1.next) := bod.cell 1
        have bod_l := bod.lt
        have bor_0 : World.cell? w11 ⟨bb4, 0, none⟩ = some (.slice sr M1.al.length cr) := bor.cell 0
        have bor_1 : World.cell? w11 ⟨bb4, 1, none⟩ = some (.int .i64 M1.next) := bor.cell 1
        have bor_l := bor.lt
        have box_0 : World.cell? w11 ⟨w7.heap.size, 0, none⟩ = some (.slice sx M2.al.length cx) := box.cell 0
        have box_1 : World.cell? w11 ⟨w7.heap.size, 1, none⟩ = some (.int .i64 M2.next) := box.cell 1
        have box_l := box.lt
        have boy_0 : World.cell? w11 ⟨w9.heap.size, 0, none⟩ = some (.slice sy M2.al.length cy) := boy.cell 0
        have boy_1 : World.cell? w11 ⟨w9.heap.size, 1, none⟩ = some (.int .i64 M2.next) := boy.cell 1
        have boy_l := boy.lt
        go_wp2_with fail
        clear bM_0 bM_1 bM_l
        clear bP_0 bP_1 bP_2 bP_l
        clear bH_0 bH_1 bH_l
        clear bod_0 bod_1 bod_l
        clear bor_0 bor_1 bor_l
        clear box_0 box_1 box_l
        clear boy_0 boy_1 boy_l
        refine (ref26_Same hL hH).mono ?_
        rintro e w12 ⟨rfl, hE11⟩
        replace bM := bM.ext hE11
        replace bP := bP.ext hE11
        replace hL := hL.ext hE11
        replace hU := hU.ext hE11
        replace hH := hH.ext hE11
        replace bH := bH.ext hE11
        replace bod := bod.ext hE11
        replace hd := hd.ext hE11
        replace bor := bor.ext hE11
        replace hr := hr.ext hE11
        replace hx := hx.ext hE11
        replace box := box.ext hE11
        replace hy := hy.ext hE11
        replace boy := boy.ext hE11
        replace k0 := Ext.cell hE11 k0
        replace k1 := Ext.cell hE11 k1
        replace k2 := Ext.cell hE11 k2
        replace k3 := Ext.cell hE11 k3
        replace k4 := Ext.cell hE11 k4
        have hF11 := Ext.trans (hF10) hE11
        go_wp2
        go_ret
        exact ⟨rfl, hF11⟩
  · have hg' := Lib.hid hg
    clear hg
    obtain ⟨ua, uc, rfl, -⟩ := hc.form
    go_enter Try.func4, Try.ntmps4
    have bM_0 : World.cell? (World.alloc (World.alloc w (.cells #[.slice a m.al.length cp, .int .i64 m.next] 41)) (.cells #[.int .i64 pa, .int .i64 po, .int .i64 pt] 43)) ⟨w.heap.size, 0, none⟩ = some (.slice a m.al.length cp) := bM.cell 0
    have bM_1 : World.cell? (World.alloc (World.alloc w (.cells #[.slice a m.al.length cp, .int .i64 m.next] 41)) (.cells #[.int .i64 pa, .int .i64 po, .int .i64 pt] 43)) ⟨w.heap.size, 1, none⟩ = some (.int .i64 m.next) := bM.cell 1
    have bM_l := bM.lt
    have bP_0 : World.cell? (World.alloc (World.alloc w (.cells #[.slice a m.al.length cp, .int .i64 m.next] 41)) (.cells #[.int .i64 pa, .int .i64 po, .int .i64 pt] 43)) ⟨w.heap.size + 1, 0, none⟩ = some (.int .i64 pa) := bP.cell 0
    have bP_1 : World.cell? (World.alloc (World.alloc w (.cells #[.slice a m.al.length cp, .int .i64 m.next] 41)) (.cells #[.int .i64 pa, .int .i64 po, .int .i64 pt] 43)) ⟨w.heap.size + 1, 1, none⟩ = some (.int .i64 po) := bP.cell 1
    have bP_2 : World.cell? (World.alloc (World.alloc w (.cells #[.slice a m.al.length cp, .int .i64 m.next] 41)) (.cells #[.int .i64 pa, .int .i64 po, .int .i64 pt] 43)) ⟨w.heap.size + 1, 2, none⟩ = some (.int .i64 pt) := bP.cell 2
    have bP_l := bP.lt
    go_wp2_with fail
    clear bM_0 bM_1 bM_l
    clear bP_0 bP_1 bP_2 bP_l
    refine (ref26_Great hL).mono ?_
    rintro e w1 ⟨rfl, hE0⟩
    replace bM := bM.ext hE0
    replace bP := bP.ext hE0
    replace hL := hL.ext hE0
    replace hU := hU.ext hE0
    have hF0 := Ext.trans (hF) hE0
    rw [hg'.out]
    go_wp2
    go_ret
    exact ⟨rfl, hF0⟩

set_option maxRecDepth 100000 in
theorem cellsStores_lifted (os : Os) (started : os.Started) (H : Type) (enc : TypeId × Value → H) :
    ReturnsInHanded {} Try.checked os 4 .any (Rows.cellsStoresSpec.pre6 enc Try.prog Try.f4 Rows.cellsStoresRow.domain false) (Rows.cellsStoresSpec.post enc Try.prog Try.f4 false true false false) := by
  refine returnsInHanded_of_change (C := Try.checked) Tryown started (by kernel_rfl) Try.func4
    (ChangeSpec.witness6 (enc := enc) (C := Try.checked) false ⟨#[], #[.agg #[.slice none 0 0, .int .i64 0], .agg #[.int .i64 0, .int .i64 0, .int .i64 0], .slice none 0 0], []⟩ 8 (by kernel_rfl) (by kernel_rfl) (by kernel_rfl) (by kernel_rfl)) ?_
  intro W base args ds gs before hval0 hW _ _
  have hval : ∀ (j : Nat) t v, Try.f4.params[j]? = some t → args[j]? = some v → Value.okWide Try.prog W .any base t v := hval0
  have hW' := hW
  obtain ⟨p, q, hA0, hV, rfl, hfz, hnd⟩ := hW
  have hA : DataW.TrodAll enc Try.prog W 0 (fun _ => true) true Try.f4.params.toList args.toList ds p := hA0
  rw [Try.params4] at hA hval
  obtain ⟨v0, vs0, d0, ds0, p0, q0, hargs, rfl, rfl, h0, r0⟩ := trodAll_cons hA
  obtain ⟨v1, vs1, d1, ds1, p1, q1, rfl, rfl, rfl, h1, r1⟩ := trodAll_cons r0
  obtain ⟨v2, vs2, d2, ds2, p2, q2, rfl, rfl, rfl, h2, r2⟩ := trodAll_cons r1
  obtain ⟨rfl, rfl, rfl⟩ := trodAll_nil r2
  obtain rfl : args = #[v0, v1, v2] := by cases args; simp_all
  obtain ⟨x0, u0, rfl, k0, wf0⟩ := open_mem (hval 0 41 v0 rfl rfl) h0
  obtain ⟨x1, rfl, wf1⟩ := open_ptrv (hval 1 43 v1 rfl rfl) h1
  obtain ⟨x2, k2, wf2⟩ := open_cells Try.underlying44 (hval 2 44 v2 rfl rfl) h2
  refine (cellsStores_walk x1 k0 wf0.1 k2).mono fun e W' ⟨he, hb⟩ => ?_
  subst he
  exact ⟨_, rfl, post_law TrylaidOut (tb := 4) rfl Try.underlying4 (by kernel_rfl) rfl (fun ds hd => match ds, hd with | [a0, a1, a2], _ => rfl) hW' hb⟩

theorem cellsStores_holds : Rows.CellsStoresSaid :=
  OpenClaim.holds_of_wide 4 Try.f4 rfl rfl rfl rfl rfl rfl rfl ⟨rfl, rfl, rfl, rfl, rfl⟩ rfl rfl rfl rfl rfl (by kernel_rfl) Try.func4 (by kernel_rfl)
    (of_decide_eq_true (by kernel_rfl)) (by unfold Func.isWrapper; first | (rw [if_pos (by decide +kernel)]; kernel_rfl) | (rw [if_neg (by decide +kernel)]; exact ⟨rfl, rfl⟩))
    (fun os started H enc _ => cellsStores_lifted os started H enc)

end Go.Proofs.Ytkiadhkkpmcmiaa
