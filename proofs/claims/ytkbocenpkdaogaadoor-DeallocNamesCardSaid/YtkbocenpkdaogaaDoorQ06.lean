/- Several texts in one: StkI, Read, CellA, CellB, ReadM. -/
import Derived.Test.YtkbocenpkdaogaaDoorQ05
import Derived.Test.YtkbocenpkdaogaaDoorRows
import Derived.Test.YtkbocenpkdaogaaDoorQ01
import Derived.ProofKit
import Derived.Deep.Slices
/- Contracts: Read, Write, Retag of layer 33, the program's and the reference's. (printed by gen/acts33.py) -/
namespace Go.Proofs.YtkbocenpkdaogaaDoor
set_option maxRecDepth 100000
open Go.RowKit

theorem okK_small33 {x : Stk} (h : okK x = true) : x.cells.length ≤ 2 ∧ ∀ s ∈ x.cells, s.length ≤ 600 := by
  unfold okK at h
  simp only [Bool.and_eq_true, decide_eq_true_eq] at h
  refine ⟨h.1.2, fun s hs => ?_⟩
  have := List.all_eq_true.1 h.2 s hs
  unfold okS at this
  simp only [Bool.and_eq_true, decide_eq_true_eq] at this
  exact this.1
def use33 (x : Stk) (a n tag : Int) (b : Bool) (run : List Int) : Stk × Int × Int := if ask33 x a n run = 0 then eachR (fun l => useR l tag b run) x a.toNat n.toNat else (Stk.zero, 0, ask33 x a n run)
def tag33 (x : Stk) (a n k old : Int) (it : Item) (run : List Int) : Stk × Int × Int := if ask33 x a n run = 0 then (if kindOk k then eachR (fun l => tagR l k old it run) x a.toNat n.toNat else (Stk.zero, 0, 2)) else (Stk.zero, 0, ask33 x a n run)
theorem use33_bad {x : Stk} {a n tag : Int} {b : Bool} {run : List Int} {e : Int} (h : ask33 x a n run = e) (he : e ≠ 0) : use33 x a n tag b run = (Stk.zero, 0, e) := by rw [use33, h, if_neg he]
theorem use33_ok {x : Stk} {a n : Nat} {tag : Int} {b : Bool} {run : List Int} (h : ask33 x a n run = 0) : use33 x a n tag b run = eachR (fun l => useR l tag b run) x a n := by rw [use33, if_pos h, Int.toNat_natCast, Int.toNat_natCast]
theorem tag33_bad {x : Stk} {a n k old : Int} {it : Item} {run : List Int} {e : Int} (h : ask33 x a n run = e) (he : e ≠ 0) : tag33 x a n k old it run = (Stk.zero, 0, e) := by rw [tag33, h, if_neg he]
theorem tag33_arg {x : Stk} {a n k old : Int} {it : Item} {run : List Int} (h : ask33 x a n run = 0) (hk : kindOk k = false) : tag33 x a n k old it run = (Stk.zero, 0, 2) := by rw [tag33, if_pos h, if_neg (by simp [hk])]
theorem tag33_ok {x : Stk} {a n : Nat} {k old : Int} {it : Item} {run : List Int} (h : ask33 x a n run = 0) (hk : kindOk k = true) : tag33 x a n k old it run = eachR (fun l => tagR l k old it run) x a n := by rw [tag33, if_pos h, if_pos hk, Int.toNat_natCast, Int.toNat_natCast]
theorem oneR_fun0 (tag : Int) (it : Item) (run : List Int) : oneR 0 tag it run = fun l => useR l tag false run := rfl
theorem oneR_fun9 (tag : Int) (it : Item) (run : List Int) : oneR 9 tag it run = fun l => useR l tag true run := rfl
theorem oneR_funK {k : Int} (tag : Int) (it : Item) (run : List Int) (hk : kindOk k = true) : oneR k tag it run = fun l => tagR l k tag it run := by
  funext l
  rcases kind_yes hk with rfl | rfl | rfl | rfl <;> rfl

theorem callFunc_read33 (args : Array Value) (w : World) : (callFunc 56 args).run Tryd.prog w = .ok (.enter 56 args) w := by kernel_rfl
set_option maxHeartbeats 400000 in
theorem stacks_read1 {run : List Int} {r : Value} (tag : Int) (B1 B2 : Nat) (W : World) (h1 : W.cell? ⟨B1, 0, none⟩ = some (.int .i64 tag)) (h2 : W.cell? ⟨B2, 0, none⟩ = some r) (hr : Nts W r run) : PredU 56 #[.pointer (some ⟨B1, 0, none⟩), .pointer (some ⟨B2, 0, none⟩)] W (fun l => useR l tag false run) := by
  intro x s w hW hl
  have d1 := hW.cell h1
  have d2 := hW.cell h2
  have hF := Lib.hid (guard_ReadO tag hl (hr.ext hW))
  obtain ⟨a, cp, rfl, -⟩ := hl.form
  obtain ⟨a2, cp2, rfl, -⟩ := hr.form
  clear h1 h2 hW hl hr
  show Calls Tryd.prog 56 #[.slice a x.length cp, .pointer (some ⟨B1, 0, none⟩), .pointer (some ⟨B2, 0, none⟩)] w _
  go_enter Tryd.func56, Tryd.ntmps56
  go_wp2_with fail
  refine hF.out.mono ?_
  rintro e w1 ⟨v2, rfl, hv2, hE2⟩
  obtain ⟨b3, d3, rfl, -⟩ := hv2.its.form
  go_wp2
  refine bodyPost_ret (results_tmp3 rfl _ _ _) rfl ?_
  exact ⟨_, rfl, hv2, hE2⟩

theorem callFunc_write33 (args : Array Value) (w : World) : (callFunc 57 args).run Tryd.prog w = .ok (.enter 57 args) w := by kernel_rfl
set_option maxHeartbeats 400000 in
theorem stacks_write1 {run : List Int} {r : Value} (tag : Int) (B1 B2 : Nat) (W : World) (h1 : W.cell? ⟨B1, 0, none⟩ = some (.int .i64 tag)) (h2 : W.cell? ⟨B2, 0, none⟩ = some r) (hr : Nts W r run) : PredU 57 #[.pointer (some ⟨B1, 0, none⟩), .pointer (some ⟨B2, 0, none⟩)] W (fun l => useR l tag true run) := by
  intro x s w hW hl
  have d1 := hW.cell h1
  have d2 := hW.cell h2
  have hF := Lib.hid (guard_WriteO tag hl (hr.ext hW))
  obtain ⟨a, cp, rfl, -⟩ := hl.form
  obtain ⟨a2, cp2, rfl, -⟩ := hr.form
  clear h1 h2 hW hl hr
  show Calls Tryd.prog 57 #[.slice a x.length cp, .pointer (some ⟨B1, 0, none⟩), .pointer (some ⟨B2, 0, none⟩)] w _
  go_enter Tryd.func57, Tryd.ntmps57
  go_wp2_with fail
  refine hF.out.mono ?_
  rintro e w1 ⟨v2, rfl, hv2, hE2⟩
  obtain ⟨b3, d3, rfl, -⟩ := hv2.its.form
  go_wp2
  refine bodyPost_ret (results_tmp3 rfl _ _ _) rfl ?_
  exact ⟨_, rfl, hv2, hE2⟩

theorem callFunc_retag33 (args : Array Value) (w : World) : (callFunc 58 args).run Tryd.prog w = .ok (.enter 58 args) w := by kernel_rfl
set_option maxHeartbeats 400000 in
theorem stacks_retag1 {run : List Int} {r : Value} {k : Int} (hk : u8B k) (old p t c : Int) (B0 B1 B2 B3 : Nat) (W : World) (hp : Perms W) (h0 : W.cell? ⟨B0, 0, none⟩ = some (.int .u8 k)) (h1 : W.cell? ⟨B1, 0, none⟩ = some (.int .i64 old)) (i0 : W.cell? ⟨B2, 0, none⟩ = some (.int .u8 p)) (i1 : W.cell? ⟨B2, 1, none⟩ = some (.int .i64 t)) (i2 : W.cell? ⟨B2, 2, none⟩ = some (.int .i64 c)) (h2 : W.cell? ⟨B3, 0, none⟩ = some r) (hr : Nts W r run) : PredU 58 #[.pointer (some ⟨B0, 0, none⟩), .pointer (some ⟨B1, 0, none⟩), .pointer (some ⟨B2, 0, none⟩), .pointer (some ⟨B3, 0, none⟩)] W (fun l => tagR l k old ⟨p, t, c⟩ run) := by
  intro x s w hW hl
  have d0 := hW.cell h0
  have d1 := hW.cell h1
  have d2 := hW.cell h2
  have e0 := hW.cell i0
  have e1 := hW.cell i1
  have e2 := hW.cell i2
  have hF := Lib.hid (guard_RetagO (hp.ext hW) hk old ⟨p, t, c⟩ hl (hr.ext hW))
  obtain ⟨a, cp, rfl, -⟩ := hl.form
  obtain ⟨a2, cp2, rfl, -⟩ := hr.form
  clear h0 h1 h2 i0 i1 i2 hW hl hr hp hk
  show Calls Tryd.prog 58 #[.slice a x.length cp, .pointer (some ⟨B0, 0, none⟩), .pointer (some ⟨B1, 0, none⟩), .pointer (some ⟨B2, 0, none⟩), .pointer (some ⟨B3, 0, none⟩)] w _
  unfold Item.val at hF
  go_enter Tryd.func58, Tryd.ntmps58
  go_wp2_with fail
  refine hF.out.mono ?_
  rintro e w1 ⟨v2, rfl, hv2, hE2⟩
  obtain ⟨b3, d3, rfl, -⟩ := hv2.its.form
  go_wp2
  refine bodyPost_ret (results_tmp3 rfl _ _ _) rfl ?_
  exact ⟨_, rfl, hv2, hE2⟩

set_option maxHeartbeats 3200000 in
theorem stacks_Read {l : List (List Item)} {num a n : Int} {run : List Int} {s v : Value} {w : World} (tag : Int) (hl : Sts w s l) (hr : Nts w v run) :
    Calls Tryd.prog 31 #[.agg #[.int .i64 num, s], .int .i64 a, .int .i64 n, .int .i64 tag, v] w (RetKW w (use33 ⟨num, l⟩ a n tag false run).1 (use33 ⟨num, l⟩ a n tag false run).2.1 (use33 ⟨num, l⟩ a n tag false run).2.2) := by
  obtain ⟨q, cp, rfl, -⟩ := hl.form
  obtain ⟨a2, cp2, rfl, -⟩ := hr.form
  have hE0 : Ext w (World.alloc (World.alloc (World.alloc (World.alloc w (.cells #[.int .i64 num, .slice q l.length cp] 56)) (.cells #[.int .i64 tag] 3)) (.cells #[.slice a2 run.length cp2] 37)) (.cells #[.int .i64 0, .slice none 0 0] 56)) := ((((Ext.refl w).alloc (.cells #[.int .i64 num, .slice q l.length cp] 56)).alloc (.cells #[.int .i64 tag] 3)).alloc (.cells #[.slice a2 run.length cp2] 37)).alloc (.cells #[.int .i64 0, .slice none 0 0] 56)
  have bX0 := (((Box.new w 56 #[.int .i64 num, .slice q l.length cp]).ext ((Ext.refl _).alloc (.cells #[.int .i64 tag] 3))).ext ((Ext.refl _).alloc (.cells #[.slice a2 run.length cp2] 37))).ext ((Ext.refl _).alloc (.cells #[.int .i64 0, .slice none 0 0] 56))
  have bX1 := ((Box.new (World.alloc w (.cells #[.int .i64 num, .slice q l.length cp] 56)) 3 #[.int .i64 tag]).ext ((Ext.refl _).alloc (.cells #[.slice a2 run.length cp2] 37))).ext ((Ext.refl _).alloc (.cells #[.int .i64 0, .slice none 0 0] 56))
  have bX2 := (Box.new (World.alloc (World.alloc w (.cells #[.int .i64 num, .slice q l.length cp] 56)) (.cells #[.int .i64 tag] 3)) 37 #[.slice a2 run.length cp2]).ext ((Ext.refl _).alloc (.cells #[.int .i64 0, .slice none 0 0] 56))
  have bX3 := Box.new (World.alloc (World.alloc (World.alloc w (.cells #[.int .i64 num, .slice q l.length cp] 56)) (.cells #[.int .i64 tag] 3)) (.cells #[.slice a2 run.length cp2] 37)) 56 #[.int .i64 0, .slice none 0 0]
  simp only [World.size_alloc] at bX0 bX1 bX2 bX3
  have hL := Lib.hid (hl.ext hE0)
  have hV := Lib.hid (hr.ext hE0)
  have hmf : ∀ (fn : Fn) (first cap : Array Value) (w : World), (Instr.makeFunc fn first cap).run Tryd.prog w = .ok (.func fn first cap) w := fun _ _ _ _ => rfl
  clear hl hr
  obtain ⟨w1, hw1⟩ : ∃ z, (World.alloc (World.alloc (World.alloc (World.alloc w (.cells #[.int .i64 num, .slice q l.length cp] 56)) (.cells #[.int .i64 tag] 3)) (.cells #[.slice a2 run.length cp2] 37)) (.cells #[.int .i64 0, .slice none 0 0] 56)) = z := ⟨_, rfl⟩
  rw [hw1] at hE0 hL hV bX0 bX1 bX2 bX3
  rcases ask33_cases ⟨num, l⟩ a n run with h8 | h6 | ⟨h0, hok, hkk, hin⟩
  · have hres := Lib.hid (use33_bad (tag := tag) (b := false) h8 (by decide))
    replace h8 := Lib.hid h8
    go_enter Tryd.func31, Tryd.ntmps31
    have c0_0 : World.cell? w1 ⟨w.heap.size, 0, none⟩ = some (.int .i64 num) := bX0.cell 0
    have c0_1 : World.cell? w1 ⟨w.heap.size, 1, none⟩ = some (.slice q l.length cp) := bX0.cell 1
    have c1_0 : World.cell? w1 ⟨w.heap.size + 1, 0, none⟩ = some (.int .i64 tag) := bX1.cell 0
    have c2_0 : World.cell? w1 ⟨w.heap.size + 1 + 1, 0, none⟩ = some (.slice a2 run.length cp2) := bX2.cell 0
    have c3_0 : World.cell? w1 ⟨w.heap.size + 1 + 1 + 1, 0, none⟩ = some (.int .i64 0) := bX3.cell 0
    have c3_1 : World.cell? w1 ⟨w.heap.size + 1 + 1 + 1, 1, none⟩ = some (.slice none 0 0) := bX3.cell 1
    go_wp2_with fail
    clear c0_0 c0_1 c1_0 c2_0 c3_0 c3_1
    clear hw1
    refine (stacks_asked hL.out hV.out).mono ?_
    rintro e w2 ⟨rfl, hE2⟩
    rw [h8.out]
    have c0_0 : World.cell? w2 ⟨w.heap.size, 0, none⟩ = some (.int .i64 num) := (bX0.ext hE2).cell 0
    have c0_1 : World.cell? w2 ⟨w.heap.size, 1, none⟩ = some (.slice q l.length cp) := (bX0.ext hE2).cell 1
    have c1_0 : World.cell? w2 ⟨w.heap.size + 1, 0, none⟩ = some (.int .i64 tag) := (bX1.ext hE2).cell 0
    have c2_0 : World.cell? w2 ⟨w.heap.size + 1 + 1, 0, none⟩ = some (.slice a2 run.length cp2) := (bX2.ext hE2).cell 0
    have c3_0 : World.cell? w2 ⟨w.heap.size + 1 + 1 + 1, 0, none⟩ = some (.int .i64 0) := (bX3.ext hE2).cell 0
    have c3_1 : World.cell? w2 ⟨w.heap.size + 1 + 1 + 1, 1, none⟩ = some (.slice none 0 0) := (bX3.ext hE2).cell 1
    have f0 := (bX3.ext hE2).frozen 0
    have f1 := (bX3.ext hE2).frozen 1
    go_wp2
    rw [hres.out]
    refine bodyPost_ret (v := .tuple #[.agg #[.int .i64 0, .slice none 0 0], .int .u8 0, .int .i64 8]) (by simp [results, Tryd.f31, go_sem, c3_0, c3_1]) rfl ⟨_, [], rfl, OwnS.nil _ _, ?_⟩
    have hFF := hE0.trans hE2
    first | exact hFF | exact (hFF.setCell (by simp <;> omega) _).setCell (by simp <;> omega) _
  · have hres := Lib.hid (use33_bad (tag := tag) (b := false) h6 (by decide))
    replace h6 := Lib.hid h6
    go_enter Tryd.func31, Tryd.ntmps31
    have c0_0 : World.cell? w1 ⟨w.heap.size, 0, none⟩ = some (.int .i64 num) := bX0.cell 0
    have c0_1 : World.cell? w1 ⟨w.heap.size, 1, none⟩ = some (.slice q l.length cp) := bX0.cell 1
    have c1_0 : World.cell? w1 ⟨w.heap.size + 1, 0, none⟩ = some (.int .i64 tag) := bX1.cell 0
    have c2_0 : World.cell? w1 ⟨w.heap.size + 1 + 1, 0, none⟩ = some (.slice a2 run.length cp2) := bX2.cell 0
    have c3_0 : World.cell? w1 ⟨w.heap.size + 1 + 1 + 1, 0, none⟩ = some (.int .i64 0) := bX3.cell 0
    have c3_1 : World.cell? w1 ⟨w.heap.size + 1 + 1 + 1, 1, none⟩ = some (.slice none 0 0) := bX3.cell 1
    go_wp2_with fail
    clear c0_0 c0_1 c1_0 c2_0 c3_0 c3_1
    clear hw1
    refine (stacks_asked hL.out hV.out).mono ?_
    rintro e w2 ⟨rfl, hE2⟩
    rw [h6.out]
    have c0_0 : World.cell? w2 ⟨w.heap.size, 0, none⟩ = some (.int .i64 num) := (bX0.ext hE2).cell 0
    have c0_1 : World.cell? w2 ⟨w.heap.size, 1, none⟩ = some (.slice q l.length cp) := (bX0.ext hE2).cell 1
    have c1_0 : World.cell? w2 ⟨w.heap.size + 1, 0, none⟩ = some (.int .i64 tag) := (bX1.ext hE2).cell 0
    have c2_0 : World.cell? w2 ⟨w.heap.size + 1 + 1, 0, none⟩ = some (.slice a2 run.length cp2) := (bX2.ext hE2).cell 0
    have c3_0 : World.cell? w2 ⟨w.heap.size + 1 + 1 + 1, 0, none⟩ = some (.int .i64 0) := (bX3.ext hE2).cell 0
    have c3_1 : World.cell? w2 ⟨w.heap.size + 1 + 1 + 1, 1, none⟩ = some (.slice none 0 0) := (bX3.ext hE2).cell 1
    have f0 := (bX3.ext hE2).frozen 0
    have f1 := (bX3.ext hE2).frozen 1
    go_wp2
    rw [hres.out]
    refine bodyPost_ret (v := .tuple #[.agg #[.int .i64 0, .slice none 0 0], .int .u8 0, .int .i64 6]) (by simp [results, Tryd.f31, go_sem, c3_0, c3_1]) rfl ⟨_, [], rfl, OwnS.nil _ _, ?_⟩
    have hFF := hE0.trans hE2
    first | exact hFF | exact (hFF.setCell (by simp <;> omega) _).setCell (by simp <;> omega) _
  have hin2 := hin
  unfold inR33 at hin2
  dsimp only at hin2
  obtain ⟨fa, rfl⟩ : ∃ m : Nat, a = m := ⟨a.toNat, by omega⟩
  obtain ⟨fn, rfl⟩ : ∃ m : Nat, n = m := ⟨n.toNat, by omega⟩
  have hin3 : fa < l.length ∧ 1 ≤ fn ∧ fn ≤ l.length - fa := by omega
  have hsm : Hid (l.length ≤ 2 ∧ ∀ s ∈ l, s.length ≤ 600) := Hid.mk (okK_small33 hkk)
  replace hin3 := Lib.hid hin3
  clear hin hin2 hok hkk
  have hres := Lib.hid (use33_ok (tag := tag) (b := false) h0)
  replace h0 := Lib.hid h0
  obtain ⟨⟨⟨yn, yl⟩, u, e3⟩, hy⟩ : ∃ z, eachR (fun l => useR l tag false run) ⟨num, l⟩ fa fn = z := ⟨_, rfl⟩
  replace hy := Lib.hid hy
  go_enter Tryd.func31, Tryd.ntmps31
  have c0_0 : World.cell? w1 ⟨w.heap.size, 0, none⟩ = some (.int .i64 num) := bX0.cell 0
  have c0_1 : World.cell? w1 ⟨w.heap.size, 1, none⟩ = some (.slice q l.length cp) := bX0.cell 1
  have c1_0 : World.cell? w1 ⟨w.heap.size + 1, 0, none⟩ = some (.int .i64 tag) := bX1.cell 0
  have c2_0 : World.cell? w1 ⟨w.heap.size + 1 + 1, 0, none⟩ = some (.slice a2 run.length cp2) := bX2.cell 0
  have c3_0 : World.cell? w1 ⟨w.heap.size + 1 + 1 + 1, 0, none⟩ = some (.int .i64 0) := bX3.cell 0
  have c3_1 : World.cell? w1 ⟨w.heap.size + 1 + 1 + 1, 1, none⟩ = some (.slice none 0 0) := bX3.cell 1
  go_wp2_with fail
  clear c0_0 c0_1 c1_0 c2_0 c3_0 c3_1
  clear hw1
  refine (stacks_asked hL.out hV.out).mono ?_
  rintro e w2 ⟨rfl, hE2⟩
  rw [h0.out]
  have c0_0 : World.cell? w2 ⟨w.heap.size, 0, none⟩ = some (.int .i64 num) := (bX0.ext hE2).cell 0
  have c0_1 : World.cell? w2 ⟨w.heap.size, 1, none⟩ = some (.slice q l.length cp) := (bX0.ext hE2).cell 1
  have c1_0 : World.cell? w2 ⟨w.heap.size + 1, 0, none⟩ = some (.int .i64 tag) := (bX1.ext hE2).cell 0
  have c2_0 : World.cell? w2 ⟨w.heap.size + 1 + 1, 0, none⟩ = some (.slice a2 run.length cp2) := (bX2.ext hE2).cell 0
  have c3_0 : World.cell? w2 ⟨w.heap.size + 1 + 1 + 1, 0, none⟩ = some (.int .i64 0) := (bX3.ext hE2).cell 0
  have c3_1 : World.cell? w2 ⟨w.heap.size + 1 + 1 + 1, 1, none⟩ = some (.slice none 0 0) := (bX3.ext hE2).cell 1
  have f0 := (bX3.ext hE2).frozen 0
  have f1 := (bX3.ext hE2).frozen 1
  go_wp2_with fail
  refine (stacks_each callFunc_read33 (stacks_read1 tag (w.heap.size + 1) (w.heap.size + 1 + 1) _ c1_0 c2_0 (hV.out.ext hE2)) hsm.out hin3.out (hL.out.ext hE2)).mono ?_
  rintro e w4 ⟨v4, vs4, rfl, h4, hE4⟩
  rw [hy.out] at h4 ⊢
  dsimp only at h4 ⊢
  clear c0_0 c0_1 c1_0 c2_0 c3_0 c3_1 f0 f1
  obtain ⟨a4, k4, rfl, -⟩ := h4.sts.form
  replace h4 := Lib.hid h4
  have c0 : World.cell? w4 ⟨w.heap.size + 1 + 1 + 1, 0, none⟩ = some (.int .i64 0) := ((bX3.ext hE2).ext hE4).cell 0
  have c1 : World.cell? w4 ⟨w.heap.size + 1 + 1 + 1, 1, none⟩ = some (.slice none 0 0) := ((bX3.ext hE2).ext hE4).cell 1
  have f0 := ((bX3.ext hE2).ext hE4).frozen 0
  have f1 := ((bX3.ext hE2).ext hE4).frozen 1
  have hlt := bX3.lt
  have hsz2 := hE2.size
  go_wp2
  rw [hres.out, hy.out]
  have hY := ((ExtBut.setCell w4 ⟨w.heap.size + 1 + 1 + 1, 0, none⟩ (.int .i64 yn)).mono (S' := fun b => b = w.heap.size + 1 + 1 + 1) (fun x _ h => h)).trans ((ExtBut.setCell _ ⟨w.heap.size + 1 + 1 + 1, 1, none⟩ (.slice a4 yl.length k4)).mono (S' := fun b => b = w.heap.size + 1 + 1 + 1) (fun x _ h => h))
  refine bodyPost_ret (v := .tuple #[.agg #[.int .i64 yn, .slice a4 yl.length k4], .int .u8 u, .int .i64 e3]) (by simp [results, Tryd.f31, go_sem, c0, c1]) rfl ⟨_, vs4, rfl, OwnS.mono (B := w2.heap.size) (B' := w.heap.size) (OwnS.but h4.out hY (fun g e h => by omega)) (by omega), ExtBut.ext ((hE0.trans hE2).trans hE4) hY (fun x h => by omega)⟩


set_option maxHeartbeats 3200000 in
theorem stacks_Write {l : List (List Item)} {num a n : Int} {run : List Int} {s v : Value} {w : World} (tag : Int) (hl : Sts w s l) (hr : Nts w v run) :
    Calls Tryd.prog 32 #[.agg #[.int .i64 num, s], .int .i64 a, .int .i64 n, .int .i64 tag, v] w (RetKW w (use33 ⟨num, l⟩ a n tag true run).1 (use33 ⟨num, l⟩ a n tag true run).2.1 (use33 ⟨num, l⟩ a n tag true run).2.2) := by
  obtain ⟨q, cp, rfl, -⟩ := hl.form
  obtain ⟨a2, cp2, rfl, -⟩ := hr.form
  have hE0 : Ext w (World.alloc (World.alloc (World.alloc (World.alloc w (.cells #[.int .i64 num, .slice q l.length cp] 56)) (.cells #[.int .i64 tag] 3)) (.cells #[.slice a2 run.length cp2] 37)) (.cells #[.int .i64 0, .slice none 0 0] 56)) := ((((Ext.refl w).alloc (.cells #[.int .i64 num, .slice q l.length cp] 56)).alloc (.cells #[.int .i64 tag] 3)).alloc (.cells #[.slice a2 run.length cp2] 37)).alloc (.cells #[.int .i64 0, .slice none 0 0] 56)
  have bX0 := (((Box.new w 56 #[.int .i64 num, .slice q l.length cp]).ext ((Ext.refl _).alloc (.cells #[.int .i64 tag] 3))).ext ((Ext.refl _).alloc (.cells #[.slice a2 run.length cp2] 37))).ext ((Ext.refl _).alloc (.cells #[.int .i64 0, .slice none 0 0] 56))
  have bX1 := ((Box.new (World.alloc w (.cells #[.int .i64 num, .slice q l.length cp] 56)) 3 #[.int .i64 tag]).ext ((Ext.refl _).alloc (.cells #[.slice a2 run.length cp2] 37))).ext ((Ext.refl _).alloc (.cells #[.int .i64 0, .slice none 0 0] 56))
  have bX2 := (Box.new (World.alloc (World.alloc w (.cells #[.int .i64 num, .slice q l.length cp] 56)) (.cells #[.int .i64 tag] 3)) 37 #[.slice a2 run.length cp2]).ext ((Ext.refl _).alloc (.cells #[.int .i64 0, .slice none 0 0] 56))
  have bX3 := Box.new (World.alloc (World.alloc (World.alloc w (.cells #[.int .i64 num, .slice q l.length cp] 56)) (.cells #[.int .i64 tag] 3)) (.cells #[.slice a2 run.length cp2] 37)) 56 #[.int .i64 0, .slice none 0 0]
  simp only [World.size_alloc] at bX0 bX1 bX2 bX3
  have hL := Lib.hid (hl.ext hE0)
  have hV := Lib.hid (hr.ext hE0)
  have hmf : ∀ (fn : Fn) (first cap : Array Value) (w : World), (Instr.makeFunc fn first cap).run Tryd.prog w = .ok (.func fn first cap) w := fun _ _ _ _ => rfl
  clear hl hr
  obtain ⟨w1, hw1⟩ : ∃ z, (World.alloc (World.alloc (World.alloc (World.alloc w (.cells #[.int .i64 num, .slice q l.length cp] 56)) (.cells #[.int .i64 tag] 3)) (.cells #[.slice a2 run.length cp2] 37)) (.cells #[.int .i64 0, .slice none 0 0] 56)) = z := ⟨_, rfl⟩
  rw [hw1] at hE0 hL hV bX0 bX1 bX2 bX3
  rcases ask33_cases ⟨num, l⟩ a n run with h8 | h6 | ⟨h0, hok, hkk, hin⟩
  · have hres := Lib.hid (use33_bad (tag := tag) (b := true) h8 (by decide))
    replace h8 := Lib.hid h8
    go_enter Tryd.func32, Tryd.ntmps32
    have c0_0 : World.cell? w1 ⟨w.heap.size, 0, none⟩ = some (.int .i64 num) := bX0.cell 0
    have c0_1 : World.cell? w1 ⟨w.heap.size, 1, none⟩ = some (.slice q l.length cp) := bX0.cell 1
    have c1_0 : World.cell? w1 ⟨w.heap.size + 1, 0, none⟩ = some (.int .i64 tag) := bX1.cell 0
    have c2_0 : World.cell? w1 ⟨w.heap.size + 1 + 1, 0, none⟩ = some (.slice a2 run.length cp2) := bX2.cell 0
    have c3_0 : World.cell? w1 ⟨w.heap.size + 1 + 1 + 1, 0, none⟩ = some (.int .i64 0) := bX3.cell 0
    have c3_1 : World.cell? w1 ⟨w.heap.size + 1 + 1 + 1, 1, none⟩ = some (.slice none 0 0) := bX3.cell 1
    go_wp2_with fail
    clear c0_0 c0_1 c1_0 c2_0 c3_0 c3_1
    clear hw1
    refine (stacks_asked hL.out hV.out).mono ?_
    rintro e w2 ⟨rfl, hE2⟩
    rw [h8.out]
    have c0_0 : World.cell? w2 ⟨w.heap.size, 0, none⟩ = some (.int .i64 num) := (bX0.ext hE2).cell 0
    have c0_1 : World.cell? w2 ⟨w.heap.size, 1, none⟩ = some (.slice q l.length cp) := (bX0.ext hE2).cell 1
    have c1_0 : World.cell? w2 ⟨w.heap.size + 1, 0, none⟩ = some (.int .i64 tag) := (bX1.ext hE2).cell 0
    have c2_0 : World.cell? w2 ⟨w.heap.size + 1 + 1, 0, none⟩ = some (.slice a2 run.length cp2) := (bX2.ext hE2).cell 0
    have c3_0 : World.cell? w2 ⟨w.heap.size + 1 + 1 + 1, 0, none⟩ = some (.int .i64 0) := (bX3.ext hE2).cell 0
    have c3_1 : World.cell? w2 ⟨w.heap.size + 1 + 1 + 1, 1, none⟩ = some (.slice none 0 0) := (bX3.ext hE2).cell 1
    have f0 := (bX3.ext hE2).frozen 0
    have f1 := (bX3.ext hE2).frozen 1
    go_wp2
    rw [hres.out]
    refine bodyPost_ret (v := .tuple #[.agg #[.int .i64 0, .slice none 0 0], .int .u8 0, .int .i64 8]) (by simp [results, Tryd.f32, go_sem, c3_0, c3_1]) rfl ⟨_, [], rfl, OwnS.nil _ _, ?_⟩
    have hFF := hE0.trans hE2
    first | exact hFF | exact (hFF.setCell (by simp <;> omega) _).setCell (by simp <;> omega) _
  · have hres := Lib.hid (use33_bad (tag := tag) (b := true) h6 (by decide))
    replace h6 := Lib.hid h6
    go_enter Tryd.func32, Tryd.ntmps32
    have c0_0 : World.cell? w1 ⟨w.heap.size, 0, none⟩ = some (.int .i64 num) := bX0.cell 0
    have c0_1 : World.cell? w1 ⟨w.heap.size, 1, none⟩ = some (.slice q l.length cp) := bX0.cell 1
    have c1_0 : World.cell? w1 ⟨w.heap.size + 1, 0, none⟩ = some (.int .i64 tag) := bX1.cell 0
    have c2_0 : World.cell? w1 ⟨w.heap.size + 1 + 1, 0, none⟩ = some (.slice a2 run.length cp2) := bX2.cell 0
    have c3_0 : World.cell? w1 ⟨w.heap.size + 1 + 1 + 1, 0, none⟩ = some (.int .i64 0) := bX3.cell 0
    have c3_1 : World.cell? w1 ⟨w.heap.size + 1 + 1 + 1, 1, none⟩ = some (.slice none 0 0) := bX3.cell 1
    go_wp2_with fail
    clear c0_0 c0_1 c1_0 c2_0 c3_0 c3_1
    clear hw1
    refine (stacks_asked hL.out hV.out).mono ?_
    rintro e w2 ⟨rfl, hE2⟩
    rw [h6.out]
    have c0_0 : World.cell? w2 ⟨w.heap.size, 0, none⟩ = some (.int .i64 num) := (bX0.ext hE2).cell 0
    have c0_1 : World.cell? w2 ⟨w.heap.size, 1, none⟩ = some (.slice q l.length cp) := (bX0.ext hE2).cell 1
    have c1_0 : World.cell? w2 ⟨w.heap.size + 1, 0, none⟩ = some (.int .i64 tag) := (bX1.ext hE2).cell 0
    have c2_0 : World.cell? w2 ⟨w.heap.size + 1 + 1, 0, none⟩ = some (.slice a2 run.length cp2) := (bX2.ext hE2).cell 0
    have c3_0 : World.cell? w2 ⟨w.heap.size + 1 + 1 + 1, 0, none⟩ = some (.int .i64 0) := (bX3.ext hE2).cell 0
    have c3_1 : World.cell? w2 ⟨w.heap.size + 1 + 1 + 1, 1, none⟩ = some (.slice none 0 0) := (bX3.ext hE2).cell 1
    have f0 := (bX3.ext hE2).frozen 0
    have f1 := (bX3.ext hE2).frozen 1
    go_wp2
    rw [hres.out]
    refine bodyPost_ret (v := .tuple #[.agg #[.int .i64 0, .slice none 0 0], .int .u8 0, .int .i64 6]) (by simp [results, Tryd.f32, go_sem, c3_0, c3_1]) rfl ⟨_, [], rfl, OwnS.nil _ _, ?_⟩
    have hFF := hE0.trans hE2
    first | exact hFF | exact (hFF.setCell (by simp <;> omega) _).setCell (by simp <;> omega) _
  have hin2 := hin
  unfold inR33 at hin2
  dsimp only at hin2
  obtain ⟨fa, rfl⟩ : ∃ m : Nat, a = m := ⟨a.toNat, by omega⟩
  obtain ⟨fn, rfl⟩ : ∃ m : Nat, n = m := ⟨n.toNat, by omega⟩
  have hin3 : fa < l.length ∧ 1 ≤ fn ∧ fn ≤ l.length - fa := by omega
  have hsm : Hid (l.length ≤ 2 ∧ ∀ s ∈ l, s.length ≤ 600) := Hid.mk (okK_small33 hkk)
  replace hin3 := Lib.hid hin3
  clear hin hin2 hok hkk
  have hres := Lib.hid (use33_ok (tag := tag) (b := true) h0)
  replace h0 := Lib.hid h0
  obtain ⟨⟨⟨yn, yl⟩, u, e3⟩, hy⟩ : ∃ z, eachR (fun l => useR l tag true run) ⟨num, l⟩ fa fn = z := ⟨_, rfl⟩
  replace hy := Lib.hid hy
  go_enter Tryd.func32, Tryd.ntmps32
  have c0_0 : World.cell? w1 ⟨w.heap.size, 0, none⟩ = some (.int .i64 num) := bX0.cell 0
  have c0_1 : World.cell? w1 ⟨w.heap.size, 1, none⟩ = some (.slice q l.length cp) := bX0.cell 1
  have c1_0 : World.cell? w1 ⟨w.heap.size + 1, 0, none⟩ = some (.int .i64 tag) := bX1.cell 0
  have c2_0 : World.cell? w1 ⟨w.heap.size + 1 + 1, 0, none⟩ = some (.slice a2 run.length cp2) := bX2.cell 0
  have c3_0 : World.cell? w1 ⟨w.heap.size + 1 + 1 + 1, 0, none⟩ = some (.int .i64 0) := bX3.cell 0
  have c3_1 : World.cell? w1 ⟨w.heap.size + 1 + 1 + 1, 1, none⟩ = some (.slice none 0 0) := bX3.cell 1
  go_wp2_with fail
  clear c0_0 c0_1 c1_0 c2_0 c3_0 c3_1
  clear hw1
  refine (stacks_asked hL.out hV.out).mono ?_
  rintro e w2 ⟨rfl, hE2⟩
  rw [h0.out]
  have c0_0 : World.cell? w2 ⟨w.heap.size, 0, none⟩ = some (.int .i64 num) := (bX0.ext hE2).cell 0
  have c0_1 : World.cell? w2 ⟨w.heap.size, 1, none⟩ = some (.slice q l.length cp) := (bX0.ext hE2).cell 1
  have c1_0 : World.cell? w2 ⟨w.heap.size + 1, 0, none⟩ = some (.int .i64 tag) := (bX1.ext hE2).cell 0
  have c2_0 : World.cell? w2 ⟨w.heap.size + 1 + 1, 0, none⟩ = some (.slice a2 run.length cp2) := (bX2.ext hE2).cell 0
  have c3_0 : World.cell? w2 ⟨w.heap.size + 1 + 1 + 1, 0, none⟩ = some (.int .i64 0) := (bX3.ext hE2).cell 0
  have c3_1 : World.cell? w2 ⟨w.heap.size + 1 + 1 + 1, 1, none⟩ = some (.slice none 0 0) := (bX3.ext hE2).cell 1
  have f0 := (bX3.ext hE2).frozen 0
  have f1 := (bX3.ext hE2).frozen 1
  go_wp2_with fail
  refine (stacks_each callFunc_write33 (stacks_write1 tag (w.heap.size + 1) (w.heap.size + 1 + 1) _ c1_0 c2_0 (hV.out.ext hE2)) hsm.out hin3.out (hL.out.ext hE2)).mono ?_
  rintro e w4 ⟨v4, vs4, rfl, h4, hE4⟩
  rw [hy.out] at h4 ⊢
  dsimp only at h4 ⊢
  clear c0_0 c0_1 c1_0 c2_0 c3_0 c3_1 f0 f1
  obtain ⟨a4, k4, rfl, -⟩ := h4.sts.form
  replace h4 := Lib.hid h4
  have c0 : World.cell? w4 ⟨w.heap.size + 1 + 1 + 1, 0, none⟩ = some (.int .i64 0) := ((bX3.ext hE2).ext hE4).cell 0
  have c1 : World.cell? w4 ⟨w.heap.size + 1 + 1 + 1, 1, none⟩ = some (.slice none 0 0) := ((bX3.ext hE2).ext hE4).cell 1
  have f0 := ((bX3.ext hE2).ext hE4).frozen 0
  have f1 := ((bX3.ext hE2).ext hE4).frozen 1
  have hlt := bX3.lt
  have hsz2 := hE2.size
  go_wp2
  rw [hres.out, hy.out]
  have hY := ((ExtBut.setCell w4 ⟨w.heap.size + 1 + 1 + 1, 0, none⟩ (.int .i64 yn)).mono (S' := fun b => b = w.heap.size + 1 + 1 + 1) (fun x _ h => h)).trans ((ExtBut.setCell _ ⟨w.heap.size + 1 + 1 + 1, 1, none⟩ (.slice a4 yl.length k4)).mono (S' := fun b => b = w.heap.size + 1 + 1 + 1) (fun x _ h => h))
  refine bodyPost_ret (v := .tuple #[.agg #[.int .i64 yn, .slice a4 yl.length k4], .int .u8 u, .int .i64 e3]) (by simp [results, Tryd.f32, go_sem, c0, c1]) rfl ⟨_, vs4, rfl, OwnS.mono (B := w2.heap.size) (B' := w.heap.size) (OwnS.but h4.out hY (fun g e h => by omega)) (by omega), ExtBut.ext ((hE0.trans hE2).trans hE4) hY (fun x h => by omega)⟩


set_option maxHeartbeats 3200000 in
theorem stacks_Retag {l : List (List Item)} {num a n : Int} {kind : Int} {run : List Int} {s v : Value} {w : World} (hp : Perms w) (hk : u8B kind) (tag : Int) (it : Item) (hl : Sts w s l) (hr : Nts w v run) :
    Calls Tryd.prog 33 #[.agg #[.int .i64 num, s], .int .i64 a, .int .i64 n, .int .u8 kind, .int .i64 tag, it.val, v] w (RetKW w (tag33 ⟨num, l⟩ a n kind tag it run).1 (tag33 ⟨num, l⟩ a n kind tag it run).2.1 (tag33 ⟨num, l⟩ a n kind tag it run).2.2) := by
  obtain ⟨p, t, c⟩ := it
  obtain ⟨q, cp, rfl, -⟩ := hl.form
  obtain ⟨a2, cp2, rfl, -⟩ := hr.form
  have hE0 : Ext w (World.alloc (World.alloc (World.alloc (World.alloc (World.alloc (World.alloc w (.cells #[.int .i64 num, .slice q l.length cp] 56)) (.cells #[.int .u8 kind] 5)) (.cells #[.int .i64 tag] 3)) (.cells #[.int .u8 p, .int .i64 t, .int .i64 c] 23)) (.cells #[.slice a2 run.length cp2] 37)) (.cells #[.int .i64 0, .slice none 0 0] 56)) := ((((((Ext.refl w).alloc (.cells #[.int .i64 num, .slice q l.length cp] 56)).alloc (.cells #[.int .u8 kind] 5)).alloc (.cells #[.int .i64 tag] 3)).alloc (.cells #[.int .u8 p, .int .i64 t, .int .i64 c] 23)).alloc (.cells #[.slice a2 run.length cp2] 37)).alloc (.cells #[.int .i64 0, .slice none 0 0] 56)
  have bX0 := (((((Box.new w 56 #[.int .i64 num, .slice q l.length cp]).ext ((Ext.refl _).alloc (.cells #[.int .u8 kind] 5))).ext ((Ext.refl _).alloc (.cells #[.int .i64 tag] 3))).ext ((Ext.refl _).alloc (.cells #[.int .u8 p, .int .i64 t, .int .i64 c] 23))).ext ((Ext.refl _).alloc (.cells #[.slice a2 run.length cp2] 37))).ext ((Ext.refl _).alloc (.cells #[.int .i64 0, .slice none 0 0] 56))
  have bX1 := ((((Box.new (World.alloc w (.cells #[.int .i64 num, .slice q l.length cp] 56)) 5 #[.int .u8 kind]).ext ((Ext.refl _).alloc (.cells #[.int .i64 tag] 3))).ext ((Ext.refl _).alloc (.cells #[.int .u8 p, .int .i64 t, .int .i64 c] 23))).ext ((Ext.refl _).alloc (.cells #[.slice a2 run.length cp2] 37))).ext ((Ext.refl _).alloc (.cells #[.int .i64 0, .slice none 0 0] 56))
  have bX2 := (((Box.new (World.alloc (World.alloc w (.cells #[.int .i64 num, .slice q l.length cp] 56)) (.cells #[.int .u8 kind] 5)) 3 #[.int .i64 tag]).ext ((Ext.refl _).alloc (.cells #[.int .u8 p, .int .i64 t, .int .i64 c] 23))).ext ((Ext.refl _).alloc (.cells #[.slice a2 run.length cp2] 37))).ext ((Ext.refl _).alloc (.cells #[.int .i64 0, .slice none 0 0] 56))
  have bX3 := ((Box.new (World.alloc (World.alloc (World.alloc w (.cells #[.int .i64 num, .slice q l.length cp] 56)) (.cells #[.int .u8 kind] 5)) (.cells #[.int .i64 tag] 3)) 23 #[.int .u8 p, .int .i64 t, .int .i64 c]).ext ((Ext.refl _).alloc (.cells #[.slice a2 run.length cp2] 37))).ext ((Ext.refl _).alloc (.cells #[.int .i64 0, .slice none 0 0] 56))
  have bX4 := (Box.new (World.alloc (World.alloc (World.alloc (World.alloc w (.cells #[.int .i64 num, .slice q l.length cp] 56)) (.cells #[.int .u8 kind] 5)) (.cells #[.int .i64 tag] 3)) (.cells #[.int .u8 p, .int .i64 t, .int .i64 c] 23)) 37 #[.slice a2 run.length cp2]).ext ((Ext.refl _).alloc (.cells #[.int .i64 0, .slice none 0 0] 56))
  have bX5 := Box.new (World.alloc (World.alloc (World.alloc (World.alloc (World.alloc w (.cells #[.int .i64 num, .slice q l.length cp] 56)) (.cells #[.int .u8 kind] 5)) (.cells #[.int .i64 tag] 3)) (.cells #[.int .u8 p, .int .i64 t, .int .i64 c] 23)) (.cells #[.slice a2 run.length cp2] 37)) 56 #[.int .i64 0, .slice none 0 0]
  simp only [World.size_alloc] at bX0 bX1 bX2 bX3 bX4 bX5
  have hL := Lib.hid (hl.ext hE0)
  have hV := Lib.hid (hr.ext hE0)
  have hP := Lib.hid (hp.ext hE0)
  clear hp
  replace hk := Lib.hid hk
  unfold Item.val
  have hmf : ∀ (fn : Fn) (first cap : Array Value) (w : World), (Instr.makeFunc fn first cap).run Tryd.prog w = .ok (.func fn first cap) w := fun _ _ _ _ => rfl
  clear hl hr
  obtain ⟨w1, hw1⟩ : ∃ z, (World.alloc (World.alloc (World.alloc (World.alloc (World.alloc (World.alloc w (.cells #[.int .i64 num, .slice q l.length cp] 56)) (.cells #[.int .u8 kind] 5)) (.cells #[.int .i64 tag] 3)) (.cells #[.int .u8 p, .int .i64 t, .int .i64 c] 23)) (.cells #[.slice a2 run.length cp2] 37)) (.cells #[.int .i64 0, .slice none 0 0] 56)) = z := ⟨_, rfl⟩
  rw [hw1] at hE0 hL hV hP bX0 bX1 bX2 bX3 bX4 bX5
  rcases ask33_cases ⟨num, l⟩ a n run with h8 | h6 | ⟨h0, hok, hkk, hin⟩
  · have hres := Lib.hid (tag33_bad (k := kind) (old := tag) (it := ⟨p, t, c⟩) h8 (by decide))
    replace h8 := Lib.hid h8
    go_enter Tryd.func33, Tryd.ntmps33
    have c0_0 : World.cell? w1 ⟨w.heap.size, 0, none⟩ = some (.int .i64 num) := bX0.cell 0
    have c0_1 : World.cell? w1 ⟨w.heap.size, 1, none⟩ = some (.slice q l.length cp) := bX0.cell 1
    have c1_0 : World.cell? w1 ⟨w.heap.size + 1, 0, none⟩ = some (.int .u8 kind) := bX1.cell 0
    have c2_0 : World.cell? w1 ⟨w.heap.size + 1 + 1, 0, none⟩ = some (.int .i64 tag) := bX2.cell 0
    have c3_0 : World.cell? w1 ⟨w.heap.size + 1 + 1 + 1, 0, none⟩ = some (.int .u8 p) := bX3.cell 0
    have c3_1 : World.cell? w1 ⟨w.heap.size + 1 + 1 + 1, 1, none⟩ = some (.int .i64 t) := bX3.cell 1
    have c3_2 : World.cell? w1 ⟨w.heap.size + 1 + 1 + 1, 2, none⟩ = some (.int .i64 c) := bX3.cell 2
    have c4_0 : World.cell? w1 ⟨w.heap.size + 1 + 1 + 1 + 1, 0, none⟩ = some (.slice a2 run.length cp2) := bX4.cell 0
    have c5_0 : World.cell? w1 ⟨w.heap.size + 1 + 1 + 1 + 1 + 1, 0, none⟩ = some (.int .i64 0) := bX5.cell 0
    have c5_1 : World.cell? w1 ⟨w.heap.size + 1 + 1 + 1 + 1 + 1, 1, none⟩ = some (.slice none 0 0) := bX5.cell 1
    go_wp2_with fail
    clear c0_0 c0_1 c1_0 c2_0 c3_0 c3_1 c3_2 c4_0 c5_0 c5_1
    clear hw1
    refine (stacks_asked hL.out hV.out).mono ?_
    rintro e w2 ⟨rfl, hE2⟩
    rw [h8.out]
    have c0_0 : World.cell? w2 ⟨w.heap.size, 0, none⟩ = some (.int .i64 num) := (bX0.ext hE2).cell 0
    have c0_1 : World.cell? w2 ⟨w.heap.size, 1, none⟩ = some (.slice q l.length cp) := (bX0.ext hE2).cell 1
    have c1_0 : World.cell? w2 ⟨w.heap.size + 1, 0, none⟩ = some (.int .u8 kind) := (bX1.ext hE2).cell 0
    have c2_0 : World.cell? w2 ⟨w.heap.size + 1 + 1, 0, none⟩ = some (.int .i64 tag) := (bX2.ext hE2).cell 0
    have c3_0 : World.cell? w2 ⟨w.heap.size + 1 + 1 + 1, 0, none⟩ = some (.int .u8 p) := (bX3.ext hE2).cell 0
    have c3_1 : World.cell? w2 ⟨w.heap.size + 1 + 1 + 1, 1, none⟩ = some (.int .i64 t) := (bX3.ext hE2).cell 1
    have c3_2 : World.cell? w2 ⟨w.heap.size + 1 + 1 + 1, 2, none⟩ = some (.int .i64 c) := (bX3.ext hE2).cell 2
    have c4_0 : World.cell? w2 ⟨w.heap.size + 1 + 1 + 1 + 1, 0, none⟩ = some (.slice a2 run.length cp2) := (bX4.ext hE2).cell 0
    have c5_0 : World.cell? w2 ⟨w.heap.size + 1 + 1 + 1 + 1 + 1, 0, none⟩ = some (.int .i64 0) := (bX5.ext hE2).cell 0
    have c5_1 : World.cell? w2 ⟨w.heap.size + 1 + 1 + 1 + 1 + 1, 1, none⟩ = some (.slice none 0 0) := (bX5.ext hE2).cell 1
    have f0 := (bX5.ext hE2).frozen 0
    have f1 := (bX5.ext hE2).frozen 1
    go_wp2
    rw [hres.out]
    refine bodyPost_ret (v := .tuple #[.agg #[.int .i64 0, .slice none 0 0], .int .u8 0, .int .i64 8]) (by simp [results, Tryd.f33, go_sem, c5_0, c5_1]) rfl ⟨_, [], rfl, OwnS.nil _ _, ?_⟩
    have hFF := hE0.trans hE2
    first | exact hFF | exact (hFF.setCell (by simp <;> omega) _).setCell (by simp <;> omega) _
  · have hres := Lib.hid (tag33_bad (k := kind) (old := tag) (it := ⟨p, t, c⟩) h6 (by decide))
    replace h6 := Lib.hid h6
    go_enter Tryd.func33, Tryd.ntmps33
    have c0_0 : World.cell? w1 ⟨w.heap.size, 0, none⟩ = some (.int .i64 num) := bX0.cell 0
    have c0_1 : World.cell? w1 ⟨w.heap.size, 1, none⟩ = some (.slice q l.length cp) := bX0.cell 1
    have c1_0 : World.cell? w1 ⟨w.heap.size + 1, 0, none⟩ = some (.int .u8 kind) := bX1.cell 0
    have c2_0 : World.cell? w1 ⟨w.heap.size + 1 + 1, 0, none⟩ = some (.int .i64 tag) := bX2.cell 0
    have c3_0 : World.cell? w1 ⟨w.heap.size + 1 + 1 + 1, 0, none⟩ = some (.int .u8 p) := bX3.cell 0
    have c3_1 : World.cell? w1 ⟨w.heap.size + 1 + 1 + 1, 1, none⟩ = some (.int .i64 t) := bX3.cell 1
    have c3_2 : World.cell? w1 ⟨w.heap.size + 1 + 1 + 1, 2, none⟩ = some (.int .i64 c) := bX3.cell 2
    have c4_0 : World.cell? w1 ⟨w.heap.size + 1 + 1 + 1 + 1, 0, none⟩ = some (.slice a2 run.length cp2) := bX4.cell 0
    have c5_0 : World.cell? w1 ⟨w.heap.size + 1 + 1 + 1 + 1 + 1, 0, none⟩ = some (.int .i64 0) := bX5.cell 0
    have c5_1 : World.cell? w1 ⟨w.heap.size + 1 + 1 + 1 + 1 + 1, 1, none⟩ = some (.slice none 0 0) := bX5.cell 1
    go_wp2_with fail
    clear c0_0 c0_1 c1_0 c2_0 c3_0 c3_1 c3_2 c4_0 c5_0 c5_1
    clear hw1
    refine (stacks_asked hL.out hV.out).mono ?_
    rintro e w2 ⟨rfl, hE2⟩
    rw [h6.out]
    have c0_0 : World.cell? w2 ⟨w.heap.size, 0, none⟩ = some (.int .i64 num) := (bX0.ext hE2).cell 0
    have c0_1 : World.cell? w2 ⟨w.heap.size, 1, none⟩ = some (.slice q l.length cp) := (bX0.ext hE2).cell 1
    have c1_0 : World.cell? w2 ⟨w.heap.size + 1, 0, none⟩ = some (.int .u8 kind) := (bX1.ext hE2).cell 0
    have c2_0 : World.cell? w2 ⟨w.heap.size + 1 + 1, 0, none⟩ = some (.int .i64 tag) := (bX2.ext hE2).cell 0
    have c3_0 : World.cell? w2 ⟨w.heap.size + 1 + 1 + 1, 0, none⟩ = some (.int .u8 p) := (bX3.ext hE2).cell 0
    have c3_1 : World.cell? w2 ⟨w.heap.size + 1 + 1 + 1, 1, none⟩ = some (.int .i64 t) := (bX3.ext hE2).cell 1
    have c3_2 : World.cell? w2 ⟨w.heap.size + 1 + 1 + 1, 2, none⟩ = some (.int .i64 c) := (bX3.ext hE2).cell 2
    have c4_0 : World.cell? w2 ⟨w.heap.size + 1 + 1 + 1 + 1, 0, none⟩ = some (.slice a2 run.length cp2) := (bX4.ext hE2).cell 0
    have c5_0 : World.cell? w2 ⟨w.heap.size + 1 + 1 + 1 + 1 + 1, 0, none⟩ = some (.int .i64 0) := (bX5.ext hE2).cell 0
    have c5_1 : World.cell? w2 ⟨w.heap.size + 1 + 1 + 1 + 1 + 1, 1, none⟩ = some (.slice none 0 0) := (bX5.ext hE2).cell 1
    have f0 := (bX5.ext hE2).frozen 0
    have f1 := (bX5.ext hE2).frozen 1
    go_wp2
    rw [hres.out]
    refine bodyPost_ret (v := .tuple #[.agg #[.int .i64 0, .slice none 0 0], .int .u8 0, .int .i64 6]) (by simp [results, Tryd.f33, go_sem, c5_0, c5_1]) rfl ⟨_, [], rfl, OwnS.nil _ _, ?_⟩
    have hFF := hE0.trans hE2
    first | exact hFF | exact (hFF.setCell (by simp <;> omega) _).setCell (by simp <;> omega) _
  have hin2 := hin
  unfold inR33 at hin2
  dsimp only at hin2
  obtain ⟨fa, rfl⟩ : ∃ m : Nat, a = m := ⟨a.toNat, by omega⟩
  obtain ⟨fn, rfl⟩ : ∃ m : Nat, n = m := ⟨n.toNat, by omega⟩
  have hin3 : fa < l.length ∧ 1 ≤ fn ∧ fn ≤ l.length - fa := by omega
  have hsm : Hid (l.length ≤ 2 ∧ ∀ s ∈ l, s.length ≤ 600) := Hid.mk (okK_small33 hkk)
  replace hin3 := Lib.hid hin3
  clear hin hin2 hok hkk
  cases hko : kindOk kind
  · have hres := Lib.hid (tag33_arg (old := tag) (it := ⟨p, t, c⟩) h0 hko)
    have hke := Lib.hid (kindErr_no hko)
    have hkk := kind_no hko hk.out
    replace h0 := Lib.hid h0
    clear hko
    go_enter Tryd.func33, Tryd.ntmps33
    have c0_0 : World.cell? w1 ⟨w.heap.size, 0, none⟩ = some (.int .i64 num) := bX0.cell 0
    have c0_1 : World.cell? w1 ⟨w.heap.size, 1, none⟩ = some (.slice q l.length cp) := bX0.cell 1
    have c1_0 : World.cell? w1 ⟨w.heap.size + 1, 0, none⟩ = some (.int .u8 kind) := bX1.cell 0
    have c2_0 : World.cell? w1 ⟨w.heap.size + 1 + 1, 0, none⟩ = some (.int .i64 tag) := bX2.cell 0
    have c3_0 : World.cell? w1 ⟨w.heap.size + 1 + 1 + 1, 0, none⟩ = some (.int .u8 p) := bX3.cell 0
    have c3_1 : World.cell? w1 ⟨w.heap.size + 1 + 1 + 1, 1, none⟩ = some (.int .i64 t) := bX3.cell 1
    have c3_2 : World.cell? w1 ⟨w.heap.size + 1 + 1 + 1, 2, none⟩ = some (.int .i64 c) := bX3.cell 2
    have c4_0 : World.cell? w1 ⟨w.heap.size + 1 + 1 + 1 + 1, 0, none⟩ = some (.slice a2 run.length cp2) := bX4.cell 0
    have c5_0 : World.cell? w1 ⟨w.heap.size + 1 + 1 + 1 + 1 + 1, 0, none⟩ = some (.int .i64 0) := bX5.cell 0
    have c5_1 : World.cell? w1 ⟨w.heap.size + 1 + 1 + 1 + 1 + 1, 1, none⟩ = some (.slice none 0 0) := bX5.cell 1
    go_wp2_with fail
    clear c0_0 c0_1 c1_0 c2_0 c3_0 c3_1 c3_2 c4_0 c5_0 c5_1
    clear hw1
    refine (stacks_asked hL.out hV.out).mono ?_
    rintro e w2 ⟨rfl, hE2⟩
    rw [h0.out]
    have c0_0 : World.cell? w2 ⟨w.heap.size, 0, none⟩ = some (.int .i64 num) := (bX0.ext hE2).cell 0
    have c0_1 : World.cell? w2 ⟨w.heap.size, 1, none⟩ = some (.slice q l.length cp) := (bX0.ext hE2).cell 1
    have c1_0 : World.cell? w2 ⟨w.heap.size + 1, 0, none⟩ = some (.int .u8 kind) := (bX1.ext hE2).cell 0
    have c2_0 : World.cell? w2 ⟨w.heap.size + 1 + 1, 0, none⟩ = some (.int .i64 tag) := (bX2.ext hE2).cell 0
    have c3_0 : World.cell? w2 ⟨w.heap.size + 1 + 1 + 1, 0, none⟩ = some (.int .u8 p) := (bX3.ext hE2).cell 0
    have c3_1 : World.cell? w2 ⟨w.heap.size + 1 + 1 + 1, 1, none⟩ = some (.int .i64 t) := (bX3.ext hE2).cell 1
    have c3_2 : World.cell? w2 ⟨w.heap.size + 1 + 1 + 1, 2, none⟩ = some (.int .i64 c) := (bX3.ext hE2).cell 2
    have c4_0 : World.cell? w2 ⟨w.heap.size + 1 + 1 + 1 + 1, 0, none⟩ = some (.slice a2 run.length cp2) := (bX4.ext hE2).cell 0
    have c5_0 : World.cell? w2 ⟨w.heap.size + 1 + 1 + 1 + 1 + 1, 0, none⟩ = some (.int .i64 0) := (bX5.ext hE2).cell 0
    have c5_1 : World.cell? w2 ⟨w.heap.size + 1 + 1 + 1 + 1 + 1, 1, none⟩ = some (.slice none 0 0) := (bX5.ext hE2).cell 1
    have f0 := (bX5.ext hE2).frozen 0
    have f1 := (bX5.ext hE2).frozen 1
    go_wp2_with fail
    refine (grant_Check _ hk.out).mono ?_
    rintro e w3 ⟨rfl, rfl⟩
    rw [hke.out]
    go_wp2
    rw [hres.out]
    refine bodyPost_ret (v := .tuple #[.agg #[.int .i64 0, .slice none 0 0], .int .u8 0, .int .i64 2]) (by simp [results, Tryd.f33, go_sem, c5_0, c5_1]) rfl ⟨_, [], rfl, OwnS.nil _ _, ?_⟩
    have hFF := hE0.trans hE2
    first | exact hFF | exact (hFF.setCell (by simp <;> omega) _).setCell (by simp <;> omega) _
  have hres := Lib.hid (tag33_ok (old := tag) (it := ⟨p, t, c⟩) h0 hko)
  have hke := Lib.hid (kindErr_yes hko)
  have hof := Lib.hid (oneR_funK tag ⟨p, t, c⟩ run hko)
  have hk4 : 1 ≤ kind ∧ kind ≤ 4 := by rcases kind_yes hko with rfl | rfl | rfl | rfl <;> omega
  have g1 : decide (kind < 1) = false := decide_eq_false (by omega)
  have g2 : decide (4 < kind) = false := decide_eq_false (by omega)
  clear hko hk4
  replace h0 := Lib.hid h0
  obtain ⟨⟨⟨yn, yl⟩, u, e3⟩, hy⟩ : ∃ z, eachR (fun l => tagR l kind tag ⟨p, t, c⟩ run) ⟨num, l⟩ fa fn = z := ⟨_, rfl⟩
  replace hy := Lib.hid hy
  go_enter Tryd.func33, Tryd.ntmps33
  have c0_0 : World.cell? w1 ⟨w.heap.size, 0, none⟩ = some (.int .i64 num) := bX0.cell 0
  have c0_1 : World.cell? w1 ⟨w.heap.size, 1, none⟩ = some (.slice q l.length cp) := bX0.cell 1
  have c1_0 : World.cell? w1 ⟨w.heap.size + 1, 0, none⟩ = some (.int .u8 kind) := bX1.cell 0
  have c2_0 : World.cell? w1 ⟨w.heap.size + 1 + 1, 0, none⟩ = some (.int .i64 tag) := bX2.cell 0
  have c3_0 : World.cell? w1 ⟨w.heap.size + 1 + 1 + 1, 0, none⟩ = some (.int .u8 p) := bX3.cell 0
  have c3_1 : World.cell? w1 ⟨w.heap.size + 1 + 1 + 1, 1, none⟩ = some (.int .i64 t) := bX3.cell 1
  have c3_2 : World.cell? w1 ⟨w.heap.size + 1 + 1 + 1, 2, none⟩ = some (.int .i64 c) := bX3.cell 2
  have c4_0 : World.cell? w1 ⟨w.heap.size + 1 + 1 + 1 + 1, 0, none⟩ = some (.slice a2 run.length cp2) := bX4.cell 0
  have c5_0 : World.cell? w1 ⟨w.heap.size + 1 + 1 + 1 + 1 + 1, 0, none⟩ = some (.int .i64 0) := bX5.cell 0
  have c5_1 : World.cell? w1 ⟨w.heap.size + 1 + 1 + 1 + 1 + 1, 1, none⟩ = some (.slice none 0 0) := bX5.cell 1
  go_wp2_with fail
  clear c0_0 c0_1 c1_0 c2_0 c3_0 c3_1 c3_2 c4_0 c5_0 c5_1
  clear hw1
  refine (stacks_asked hL.out hV.out).mono ?_
  rintro e w2 ⟨rfl, hE2⟩
  rw [h0.out]
  have c0_0 : World.cell? w2 ⟨w.heap.size, 0, none⟩ = some (.int .i64 num) := (bX0.ext hE2).cell 0
  have c0_1 : World.cell? w2 ⟨w.heap.size, 1, none⟩ = some (.slice q l.length cp) := (bX0.ext hE2).cell 1
  have c1_0 : World.cell? w2 ⟨w.heap.size + 1, 0, none⟩ = some (.int .u8 kind) := (bX1.ext hE2).cell 0
  have c2_0 : World.cell? w2 ⟨w.heap.size + 1 + 1, 0, none⟩ = some (.int .i64 tag) := (bX2.ext hE2).cell 0
  have c3_0 : World.cell? w2 ⟨w.heap.size + 1 + 1 + 1, 0, none⟩ = some (.int .u8 p) := (bX3.ext hE2).cell 0
  have c3_1 : World.cell? w2 ⟨w.heap.size + 1 + 1 + 1, 1, none⟩ = some (.int .i64 t) := (bX3.ext hE2).cell 1
  have c3_2 : World.cell? w2 ⟨w.heap.size + 1 + 1 + 1, 2, none⟩ = some (.int .i64 c) := (bX3.ext hE2).cell 2
  have c4_0 : World.cell? w2 ⟨w.heap.size + 1 + 1 + 1 + 1, 0, none⟩ = some (.slice a2 run.length cp2) := (bX4.ext hE2).cell 0
  have c5_0 : World.cell? w2 ⟨w.heap.size + 1 + 1 + 1 + 1 + 1, 0, none⟩ = some (.int .i64 0) := (bX5.ext hE2).cell 0
  have c5_1 : World.cell? w2 ⟨w.heap.size + 1 + 1 + 1 + 1 + 1, 1, none⟩ = some (.slice none 0 0) := (bX5.ext hE2).cell 1
  have f0 := (bX5.ext hE2).frozen 0
  have f1 := (bX5.ext hE2).frozen 1
  go_wp2_with fail
  refine (grant_Check _ hk.out).mono ?_
  rintro e w3 ⟨rfl, rfl⟩
  rw [hke.out]
  go_wp2_with fail
  refine (stacks_each callFunc_retag33 (stacks_retag1 hk.out tag p t c (w.heap.size + 1) (w.heap.size + 1 + 1) (w.heap.size + 1 + 1 + 1) (w.heap.size + 1 + 1 + 1 + 1) _ (hP.out.ext hE2) c1_0 c2_0 c3_0 c3_1 c3_2 c4_0 (hV.out.ext hE2)) hsm.out hin3.out (hL.out.ext hE2)).mono ?_
  rintro e w4 ⟨v4, vs4, rfl, h4, hE4⟩
  rw [hy.out] at h4 ⊢
  dsimp only at h4 ⊢
  clear c0_0 c0_1 c1_0 c2_0 c3_0 c3_1 c3_2 c4_0 c5_0 c5_1 f0 f1
  obtain ⟨a4, k4, rfl, -⟩ := h4.sts.form
  replace h4 := Lib.hid h4
  have c0 : World.cell? w4 ⟨w.heap.size + 1 + 1 + 1 + 1 + 1, 0, none⟩ = some (.int .i64 0) := ((bX5.ext hE2).ext hE4).cell 0
  have c1 : World.cell? w4 ⟨w.heap.size + 1 + 1 + 1 + 1 + 1, 1, none⟩ = some (.slice none 0 0) := ((bX5.ext hE2).ext hE4).cell 1
  have f0 := ((bX5.ext hE2).ext hE4).frozen 0
  have f1 := ((bX5.ext hE2).ext hE4).frozen 1
  have hlt := bX5.lt
  have hsz2 := hE2.size
  go_wp2
  rw [hres.out, hy.out]
  have hY := ((ExtBut.setCell w4 ⟨w.heap.size + 1 + 1 + 1 + 1 + 1, 0, none⟩ (.int .i64 yn)).mono (S' := fun b => b = w.heap.size + 1 + 1 + 1 + 1 + 1) (fun x _ h => h)).trans ((ExtBut.setCell _ ⟨w.heap.size + 1 + 1 + 1 + 1 + 1, 1, none⟩ (.slice a4 yl.length k4)).mono (S' := fun b => b = w.heap.size + 1 + 1 + 1 + 1 + 1) (fun x _ h => h))
  refine bodyPost_ret (v := .tuple #[.agg #[.int .i64 yn, .slice a4 yl.length k4], .int .u8 u, .int .i64 e3]) (by simp [results, Tryd.f33, go_sem, c0, c1]) rfl ⟨_, vs4, rfl, OwnS.mono (B := w2.heap.size) (B' := w.heap.size) (OwnS.but h4.out hY (fun g e h => by omega)) (by omega), ExtBut.ext ((hE0.trans hE2).trans hE4) hY (fun x h => by omega)⟩


end Go.Proofs.YtkbocenpkdaogaaDoor

/- How the arguments of a statement read: a slice of items; and how a statement is closed that only makes memory. -/
namespace Go.Proofs.YtkbocenpkdaogaaDoor
set_option maxRecDepth 100000
open Go.ChangeShapes Go.WideShapes Go.ChangeAt Go.RowKit

theorem flat_get {k : Nat} {rows : List (List Value)} (hk : ∀ r ∈ rows, r.length = k) {j : Nat} {u : Value} (h : rows.flatten[j]? = some u) : ∃ i r m, rows[i]? = some r ∧ r[m]? = some u ∧ m < k ∧ j = i * k + m := by
  induction rows generalizing j with
  | nil => simp at h
  | cons r rows ih =>
    rw [List.flatten_cons] at h
    have hr : r.length = k := hk r (by simp)
    by_cases hj : j < k
    · rw [List.getElem?_append_left (by omega)] at h
      exact ⟨0, r, j, rfl, h, hj, by simp⟩
    · rw [List.getElem?_append_right (by omega)] at h
      obtain ⟨i, r', m, h1, h2, h3, h4⟩ := ih (fun r hr => hk r (by simp [hr])) h
      exact ⟨i + 1, r', m, by simpa using h1, h2, h3, by rw [Nat.add_mul]; omega⟩

theorem flat_len {k : Nat} {rows : List (List Value)} (hk : ∀ r ∈ rows, r.length = k) : rows.flatten.length = rows.length * k := by
  induction rows with
  | nil => simp
  | cons r rows ih => rw [List.flatten_cons, List.length_append, ih (fun r hr => hk r (by simp [hr])), hk r (by simp), List.length_cons, Nat.add_mul]; omega

theorem mapM_get {β : Type} {f : Nat → Option β} {n : Nat} {l : List β} (h : (List.range n).mapM f = some l) : l.length = n ∧ ∀ i, i < n → f i = l[i]? := by
  refine ⟨by simpa using mapM_some_length h, fun i hi => ?_⟩
  exact mapM_some_get h i i (by simp [hi])

section
variable {H : Type} {enc : TypeId × Value → H} {P : Program} {w : World} {base : Nat} {spare : Nat → Bool} {held : Bool}

theorem cells_get {a : Addr} {n : Nat} {cs : List Value} (h : w.cells? base a n = some cs) : cs.length = n ∧ ∀ j, j < n → w.cell? (a.add j) = cs[j]? := by
  unfold World.cells? at h
  split at h
  · exact mapM_get h
  · cases h

/-- A slice that came in: its rows, and what each reads as. -/
theorem read_slice {α : Type} {t e k : Nat} (ht : P.underlying t = some (.slice e)) (hk : P.cellsOf e = k) (hpos : 0 < k) (R : List Value → α → Prop)
    (hel : ∀ (n : Nat) (cs : List Value) (x : DataW H × List MemPlace), cs.length = k → DataW.trod enc P w base spare held n e cs = some x → ∃ a, R cs a)
    {fuel : Nat} {cs : List Value} {x : DataW H × List MemPlace} (h : DataW.trod enc P w base spare held fuel t cs = some x) :
    ∃ (v : Value) (rows : List (List Value)) (xs : List α), cs = [v] ∧ Sl w k v rows.length rows.flatten ∧ (∀ r ∈ rows, r.length = k) ∧ All2 R rows xs := by
  rcases Deep.open_slice ht h with ⟨rfl, _⟩ | ⟨a, len, cap, m, n, D, Pl, rfl, hb, hl, hm, hmm, _, hi⟩
  · exact ⟨_, [], [], rfl, Sl.nil w k, by simp, trivial⟩
  · have hlm : len ≤ m := by rw [hmm]; split <;> omega
    have hi' : ∀ i, i < len → ∃ y : List Value × α, y.1.length = k ∧ (∀ j, j < k → w.cell? (a.add (i * k + j)) = y.1[j]?) ∧ R y.1 y.2 := by
      intro i hlt
      obtain ⟨cs', h1, h2⟩ := hi i (by omega)
      rw [hk] at h1
      obtain ⟨g1, g2⟩ := cells_get h1
      obtain ⟨y, hy⟩ := hel n cs' _ g1 h2
      exact ⟨(cs', y), g1, fun j hj => by rw [← g2 j hj, Deep.add_add], hy⟩
    cases len with
    | zero => exact ⟨_, [], [], rfl, ⟨by simp, some a, cap, rfl, hl, hm, fun h => (by cases h), fun j u h => by simp at h⟩, by simp, trivial⟩
    | succ len =>
      haveI : Inhabited (List Value × α) := ⟨Classical.choose (hi' 0 (by omega))⟩
      obtain ⟨f, hf⟩ := Deep.choose_lt hi'
      refine ⟨_, (List.range (len + 1)).map (fun i => (f i).1), (List.range (len + 1)).map (fun i => (f i).2), rfl, ?_, ?_, ?_⟩
      · have hrk : ∀ r ∈ (List.range (len + 1)).map (fun i => (f i).1), r.length = k := by
          intro r hr
          obtain ⟨i, hi2, rfl⟩ := List.mem_map.1 hr
          exact (hf i (List.mem_range.1 hi2)).1
        have hspot : a.spot = none := by
          obtain ⟨b, o, s⟩ := a
          have h0 := (hf 0 (by omega)).2.1 0 hpos
          have hlen0 := (hf 0 (by omega)).1
          rw [List.getElem?_eq_getElem (by omega)] at h0
          simp only [Nat.zero_mul, Nat.zero_add, Addr.add, if_true] at h0
          cases s with
          | none => rfl
          | some s => unfold World.cell? at h0; split at h0 <;> simp at h0
        obtain ⟨b, o, s⟩ := a
        simp only at hspot
        subst hspot
        rw [List.length_map, List.length_range]
        refine ⟨by simpa using flat_len hrk, _, cap, rfl, hl, hm, fun h => (by cases h), fun j u hj => ?_⟩
        obtain ⟨i, r, m', h1, h2, h3, rfl⟩ := flat_get hrk hj
        rw [List.getElem?_map] at h1
        have hlt : i < len + 1 := by
          rcases Nat.lt_or_ge i (len + 1) with h | h
          · exact h
          · rw [List.getElem?_eq_none (by simpa using h)] at h1; simp at h1
        rw [List.getElem?_eq_getElem (by simpa using hlt)] at h1
        simp only [List.getElem_range, Option.map_some, Option.some.injEq] at h1
        subst h1
        refine ⟨b, o, rfl, ?_⟩
        have := (hf i hlt).2.1 m' h3
        rw [h2] at this
        have hadd : (⟨b, o, none⟩ : Addr).add (i * k + m') = ⟨b, o + (i * k + m'), none⟩ := by unfold Addr.add; split <;> simp_all
        rw [hadd] at this
        exact this
      · intro r hr
        obtain ⟨i, hi2, rfl⟩ := List.mem_map.1 hr
        exact (hf i (List.mem_range.1 hi2)).1
      · exact All2.map _ _ _ fun i hi2 => (hf i (List.mem_range.1 hi2)).2.2
end

section
variable {H : Type} {enc : TypeId × Value → H} {w : World} {base : Nat} {spare : Nat → Bool} {held : Bool}

/-- An item's numbers are in the range of their kinds. -/
def Item.wf (x : Item) : Prop := (0 ≤ x.p ∧ x.p ≤ 255) ∧ (-9223372036854775808 ≤ x.t ∧ x.t ≤ 9223372036854775807) ∧ (-9223372036854775808 ≤ x.c ∧ x.c ≤ 9223372036854775807)

theorem read_item (n : Nat) (cs : List Value) (x : DataW H × List MemPlace) (hl : cs.length = 3) (h : DataW.trod enc Tryd.prog w base spare held n 23 cs = some x) : ∃ a : Item, cs = a.row ∧ a.wf := by
  have c8 : Tryd.prog.cellsOf 5 = 1 := by kernel_rfl
  have c64 : Tryd.prog.cellsOf 3 = 1 := by kernel_rfl
  obtain ⟨xs, m, rfl, rfl, _, hx, hf⟩ := DataW.trod_struct Tryd.underlying23 h
  match cs, hl with
  | [c0, c1, c2], _ =>
    have f0 : DataW.trod enc Tryd.prog w base spare held m 5 (([c0, c1, c2].drop 0).take (Tryd.prog.cellsOf 5)) = xs[0]? := hf 0 _ rfl
    have f1 : DataW.trod enc Tryd.prog w base spare held m 3 (([c0, c1, c2].drop 1).take (Tryd.prog.cellsOf 3)) = xs[1]? := hf 1 _ rfl
    have f2 : DataW.trod enc Tryd.prog w base spare held m 3 (([c0, c1, c2].drop 2).take (Tryd.prog.cellsOf 3)) = xs[2]? := hf 2 _ rfl
    rw [c8] at f0
    rw [c64] at f1 f2
    match xs, hx with
    | [y0, y1, y2], _ =>
      obtain ⟨p, e0, _, w0⟩ := DataW.trod_int Tryd.underlying5 f0
      obtain ⟨t, e1, _, w1⟩ := DataW.trod_int Tryd.underlying3 f1
      obtain ⟨c, e2, _, w2⟩ := DataW.trod_int Tryd.underlying3 f2
      simp at e0 e1 e2
      subst e0 e1 e2
      refine ⟨⟨p, t, c⟩, rfl, ?_, ?_, ?_⟩
      · simpa [Lit.wf, IntKind.min, IntKind.max, IntKind.signed, IntKind.bits] using w0
      · simpa [Lit.wf, IntKind.min, IntKind.max, IntKind.signed, IntKind.bits] using w1
      · simpa [Lit.wf, IntKind.min, IntKind.max, IntKind.signed, IntKind.bits] using w2

theorem rows_of_items : ∀ {rows : List (List Value)} {l : List Item}, All2 (fun cs (a : Item) => cs = a.row ∧ a.wf) rows l → rows.flatten = l.flatMap Item.row ∧ ∀ a ∈ l, a.wf
  | [], [], _ => ⟨rfl, fun _ h => by cases h⟩
  | r :: rows, a :: l, h => by
    obtain ⟨h1, h2⟩ := rows_of_items h.2
    refine ⟨by rw [List.flatten_cons, List.flatMap_cons, h1, h.1.1], fun b hb => ?_⟩
    rcases List.mem_cons.1 hb with rfl | hb
    · exact h.1.2
    · exact h2 b hb

theorem read_items {t : Nat} (ht : Tryd.prog.underlying t = some (.slice 23)) {n : Nat} {cs : List Value} {x : DataW H × List MemPlace} (h : DataW.trod enc Tryd.prog w base spare held n t cs = some x) :
    ∃ (v : Value) (l : List Item), cs = [v] ∧ Its w v l ∧ ∀ a ∈ l, a.wf := by
  obtain ⟨v, rows, l, rfl, hs, _, ha⟩ := read_slice (k := 3) ht (by kernel_rfl) (by omega) (fun cs (a : Item) => cs = a.row ∧ a.wf) (fun n cs x hl h => read_item n cs x hl h) h
  obtain ⟨e, hw⟩ := rows_of_items ha
  refine ⟨v, l, rfl, ?_, hw⟩
  unfold Its
  rw [← e, ← ha.length]
  exact hs

theorem open_items {t : Nat} (ht : Tryd.prog.underlying t = some (.slice 23)) {r : Reach} {b0 : Nat} {v : Value} {d : DataW H} {p : List MemPlace} (hv : Value.okWide Tryd.prog w r b0 t v) (h : DataW.Trod enc Tryd.prog w base spare held t v d p) :
    ∃ l : List Item, Its w v l ∧ ∀ a ∈ l, a.wf := by
  obtain ⟨a0, len, cap, rfl⟩ := okWide_slice ht hv
  obtain ⟨n, hn⟩ := h
  obtain ⟨u, l, e, hl, hw⟩ := read_items ht hn
  simp only [Value.cells, List.cons.injEq, and_true] at e
  subst e
  exact ⟨l, hl, hw⟩

theorem open_item {r : Reach} {b0 : Nat} {v : Value} {d : DataW H} {p : List MemPlace} (hv : Value.okWide Tryd.prog w r b0 23 v) (h : DataW.Trod enc Tryd.prog w base spare held 23 v d p) :
    ∃ x : Item, v = x.val ∧ x.wf := by
  obtain ⟨cs, rfl, hsz⟩ := okWide_struct Tryd.underlying23 hv
  have hc : Tryd.prog.cellsOf 23 = 3 := by kernel_rfl
  obtain ⟨n, hn⟩ := h
  obtain ⟨x, e, hw⟩ := read_item n _ _ (by simp only [Value.cells, Array.length_toList]; exact hsz.trans hc) hn
  refine ⟨x, ?_, hw⟩
  unfold Item.val
  congr 1
  apply Array.toList_inj.1
  simpa [Value.cells, Item.row] using e
end

end Go.Proofs.YtkbocenpkdaogaaDoor

/- Memory as Lean data: cells, allocations, and what a value in memory reads as; no program in sight. -/
namespace Go.Proofs.YtkbocenpkdaogaaDoor
set_option maxRecDepth 100000
open Go.RowKit

/-! ### cells -/
structure Cell where
  k : Int
  n : Int
  a : Int
  o : Int
  t : Int
  deriving DecidableEq
def Cell.row (c : Cell) : List Value := [.int .u8 c.k, .int .i64 c.n, .int .i64 c.a, .int .i64 c.o, .int .i64 c.t]
def Cell.val (c : Cell) : Value := .agg #[.int .u8 c.k, .int .i64 c.n, .int .i64 c.a, .int .i64 c.o, .int .i64 c.t]
def Cell.zero : Cell := ⟨0, 0, 0, 0, 0⟩
theorem Cell.row_len (c : Cell) : c.row.length = 5 := rfl
theorem Cell.one (l : List Cell) : ∀ u ∈ l.flatMap Cell.row, u.oneCell' = true := by
  intro u hu
  obtain ⟨x, _, hx⟩ := List.mem_flatMap.1 hu
  simp only [Cell.row, List.mem_cons, List.not_mem_nil, or_false] at hx
  rcases hx with rfl | rfl | rfl | rfl | rfl <;> rfl

def Cls (w : World) (v : Value) (l : List Cell) : Prop := Sl w 5 v l.length (l.flatMap Cell.row)
theorem Cls.ext {w w' : World} {v : Value} {l : List Cell} (h : Cls w v l) (he : Ext w w') : Cls w' v l := Sl.ext h he
theorem Cls.nil (w : World) : Cls w (.slice none 0 0) [] := Sl.nil w 5
theorem Cls.form {w : World} {v : Value} {l : List Cell} (h : Cls w v l) : ∃ a cap, v = .slice a l.length cap ∧ l.length ≤ cap ∧ cap ≤ maxLen ∧ (a = none → cap = 0) := Sl.slice_form h
theorem Cls.cell {w : World} {a : Option Addr} {n cap : Nat} {l : List Cell} (h : Cls w (.slice a n cap) l) {i : Nat} {x : Cell} (hx : l[i]? = some x) :
    ∃ b off, a = some ⟨b, off, none⟩ ∧ b < w.heap.size ∧ w.cell? ⟨b, off + i * 5, none⟩ = some (.int .u8 x.k) ∧ w.cell? ⟨b, off + i * 5 + 1, none⟩ = some (.int .i64 x.n) ∧ w.cell? ⟨b, off + i * 5 + 2, none⟩ = some (.int .i64 x.a) ∧ w.cell? ⟨b, off + i * 5 + 3, none⟩ = some (.int .i64 x.o) ∧ w.cell? ⟨b, off + i * 5 + 4, none⟩ = some (.int .i64 x.t) := by
  have hi : i < l.length := (List.getElem?_eq_some_iff.1 hx).1
  obtain ⟨b, off, rfl, hb, hc⟩ := Sl.at h (by omega) (by omega : 0 < l.length)
  have g := rows_get Cell.row Cell.row_len l i
  refine ⟨b, off, rfl, hb, ?_, ?_, ?_, ?_, ?_⟩
  · have := hc (i * 5 + 0) _ ((g 0 x hx (by omega)).trans rfl)
    simpa using this
  · exact hc (i * 5 + 1) _ ((g 1 x hx (by omega)).trans rfl)
  · exact hc (i * 5 + 2) _ ((g 2 x hx (by omega)).trans rfl)
  · exact hc (i * 5 + 3) _ ((g 3 x hx (by omega)).trans rfl)
  · exact hc (i * 5 + 4) _ ((g 4 x hx (by omega)).trans rfl)

/-- No pointer. -/
def Cell.noP (c : Cell) : Bool := c.a == 0 && c.o == 0 && c.t == 0
def Cell.ok (c : Cell) : Bool :=
  if c.k = 0 then c.n == 0 && c.noP else if c.k = 1 then c.noP else if c.k = 2 then c.n == 0 && inB c.a && inB c.t && decide (0 ≤ c.o) && decide (c.o ≤ 2) else false
def cellErr (c : Cell) : Int := if c.ok then 0 else 8

/-! ### allocations -/
structure Alloc where
  num : Int
  live : Bool
  cells : List Cell
  deriving DecidableEq
def arow (s : Value) (a : Alloc) : List Value := [.int .i64 a.num, .bool a.live, s]
theorem arow_len (s : Value) (a : Alloc) : (arow s a).length = 3 := rfl
theorem arow_one (vs : List Value) (l : List Alloc) (h : ∀ s ∈ vs, s.oneCell' = true) : ∀ u ∈ trows arow vs l, u.oneCell' = true := by
  intro u hu
  obtain ⟨p, hp, hu⟩ := List.mem_flatMap.1 hu
  simp only [arow, List.mem_cons, List.not_mem_nil, or_false] at hu
  rcases hu with rfl | rfl | rfl
  · rfl
  · rfl
  · exact h _ (List.of_mem_zip hp).1
/-- In w the slice v reads as the allocations l. -/
def Als (w : World) (v : Value) (l : List Alloc) : Prop := Tb arow 3 (fun s a => Cls w s a.cells) w v l

theorem Als.ext {w w' : World} {v : Value} {l : List Alloc} (h : Als w v l) (he : Ext w w') : Als w' v l := Tb.ext h he fun _ _ h => Cls.ext h he
theorem Als.nil (w : World) : Als w (.slice none 0 0) [] := Tb.nil w
theorem Als.form {w : World} {v : Value} {l : List Alloc} (h : Als w v l) : ∃ a cap, v = .slice a l.length cap ∧ l.length ≤ cap ∧ cap ≤ maxLen ∧ (a = none → cap = 0) := Tb.form h
theorem Als.cell {w : World} {a : Option Addr} {n cap : Nat} {l : List Alloc} (h : Als w (.slice a n cap) l) {i : Nat} {x : Alloc} (hx : l[i]? = some x) :
    ∃ b off s, a = some ⟨b, off, none⟩ ∧ b < w.heap.size ∧ w.cell? ⟨b, off + i * 3, none⟩ = some (.int .i64 x.num) ∧ w.cell? ⟨b, off + i * 3 + 1, none⟩ = some (.bool x.live) ∧ w.cell? ⟨b, off + i * 3 + 2, none⟩ = some s ∧ Cls w s x.cells := by
  obtain ⟨b, off, s, rfl, hb, hc, hcell⟩ := Tb.cell h arow_len (by omega) hx
  refine ⟨b, off, s, rfl, hb, ?_, ?_, ?_, hc⟩
  · simpa using hcell 0 _ rfl
  · exact hcell 1 _ rfl
  · exact hcell 2 _ rfl

/-- Valid allocations: each number at least `least` and below next, increasing; one or two cells, all valid; those that ended are unset. -/
def okAl (next : Int) : Int → List Alloc → Bool
  | _, [] => true
  | least, a :: l => decide (least ≤ a.num) && decide (a.num < next) && decide (1 ≤ a.cells.length) && decide (a.cells.length ≤ 2) && a.cells.all (fun c => c.ok && (a.live || c.k == 0)) && okAl next (a.num + 1) l
def okM (l : List Alloc) (next : Int) : Bool := decide (l.length ≤ 400) && inB next && okAl next 0 l
def memErr (l : List Alloc) (next : Int) : Int := if okM l next then 0 else 8

theorem okAl_drop {next least : Int} {l : List Alloc} {k : Nat} {x : Alloc} (hx : l[k]? = some x) :
    okAl next least (l.drop k) = (decide (least ≤ x.num) && decide (x.num < next) && decide (1 ≤ x.cells.length) && decide (x.cells.length ≤ 2) && x.cells.all (fun c => c.ok && (x.live || c.k == 0)) && okAl next (x.num + 1) (l.drop (k + 1))) := by
  obtain ⟨hk, rfl⟩ := List.getElem?_eq_some_iff.1 hx
  rw [List.drop_eq_getElem_cons hk]
  rfl


/-! ### what the functions on memories compute -/
structure Mem where
  al : List Alloc
  next : Int
  deriving DecidableEq
def Mem.zero : Mem := ⟨[], 0⟩
def RdM (w : World) (v : Value) (m : Mem) : Prop := ∃ s, v = .agg #[s, .int .i64 m.next] ∧ Als w s m.al
theorem RdM.ext {w w' : World} {v : Value} {m : Mem} (h : RdM w v m) (he : Ext w w') : RdM w' v m := by
  obtain ⟨s, rfl, hs⟩ := h
  exact ⟨s, rfl, hs.ext he⟩
theorem RdM.zero (w : World) : RdM w (.agg #[.slice none 0 0, .int .i64 0]) Mem.zero := ⟨_, rfl, Als.nil w⟩
def Mem.ok (m : Mem) : Bool := okM m.al m.next
def Mem.err (m : Mem) : Int := if m.ok then 0 else 8
theorem Mem.err_eq (m : Mem) : m.err = memErr m.al m.next := rfl

def newAlloc (num : Int) (size : Nat) : Alloc := ⟨num, true, List.replicate size Cell.zero⟩
/-- Add: the memory, the number, the error. -/
def addR (m : Mem) (size : Int) : Mem × Int × Int :=
  if m.ok then
    if size < 1 ∨ 2 < size then (Mem.zero, 0, 2)
    else if m.al.length = 400 ∨ m.next = 1000000 then (Mem.zero, 0, 18)
    else (⟨m.al ++ [newAlloc m.next size.toNat], m.next + 1⟩, m.next, 0)
  else (Mem.zero, 0, 8)
def atNum (l : List Alloc) (n : Int) : Option Nat := l.findIdx? (fun a => a.num == n)
def Alloc.zero : Alloc := ⟨0, false, []⟩
/-- Get: the allocation, the error. -/
def getR (m : Mem) (n : Int) : Alloc × Int :=
  if m.ok then
    match atNum m.al n with
    | none => (Alloc.zero, 6)
    | some i => (m.al.getD i Alloc.zero, 0)
  else (Alloc.zero, 8)
def ended (a : Alloc) : Alloc := ⟨a.num, false, List.replicate a.cells.length Cell.zero⟩
def endAt (l : List Alloc) (i : Nat) : List Alloc := match l[i]? with | some a => l.set i (ended a) | none => l
/-- End: the memory, the error. -/
def endR (m : Mem) (n : Int) : Mem × Int :=
  if m.ok then
    match atNum m.al n with
    | none => (Mem.zero, 6)
    | some i => if (m.al.getD i Alloc.zero).live then (⟨endAt m.al i, m.next⟩, 0) else (Mem.zero, 6)
  else (Mem.zero, 8)
/-- Forget: the memory, the error. -/
def forgetR (m : Mem) : Mem × Int := if m.ok then (⟨m.al.filter (·.live), m.next⟩, 0) else (Mem.zero, 8)
/-- More than 410 allocations, or one of more than 5 cells. -/
def greatM (l : List Alloc) : Bool := (l.take 411).any (fun a => decide (5 < a.cells.length)) || decide (410 < l.length)

end Go.Proofs.YtkbocenpkdaogaaDoor

/- What the functions on cells of a memory compute (layer 27), and plain laws of layers 26 and 27; no program in sight. -/
namespace Go.Proofs.YtkbocenpkdaogaaDoor
set_option maxRecDepth 100000
open Go.RowKit

structure Ptr where
  a : Int
  o : Int
  t : Int
  deriving DecidableEq
def Ptr.val (p : Ptr) : Value := .agg #[.int .i64 p.a, .int .i64 p.o, .int .i64 p.t]

/-- The index of the allocation of a range, if there is one, and the error. -/
def askR (m : Mem) (p : Ptr) (n : Int) : Option Nat × Int :=
  if m.ok then
    if p.a < 0 ∨ m.next ≤ p.a ∨ n < 1 ∨ 2 < n then (none, 2)
    else match atNum m.al p.a with
      | none => (none, 0)
      | some i => if p.o < 0 ∨ ((m.al.getD i Alloc.zero).cells.length : Int) - n < p.o then (none, 6) else (some i, 0)
  else (none, 8)
def cutOf (a : Alloc) (o n : Nat) : List Cell := (a.cells.drop o).take n
/-- The cells of a range; none if its allocation is not there. -/
def rangeR (m : Mem) (p : Ptr) (n : Int) : List Cell :=
  match (askR m p n).1 with
  | none => []
  | some i => if (m.al.getD i Alloc.zero).live then cutOf (m.al.getD i Alloc.zero) p.o.toNat n.toNat else []
/-- LoadAll: the cells, why not, the error. -/
def loadR (m : Mem) (p : Ptr) (n : Int) : List Cell × Int × Int :=
  if (askR m p n).2 = 0 then
    if rangeR m p n = [] then ([], 3, 0) else if (rangeR m p n).any (· == Cell.zero) then ([], 4, 0) else (rangeR m p n, 0, 0)
  else ([], 0, (askR m p n).2)
def load1R (m : Mem) (p : Ptr) : Cell × Int × Int := ((loadR m p 1).1.headD Cell.zero, (loadR m p 1).2)
def putCells (a : Alloc) (o : Nat) (l : List Cell) : Alloc := ⟨a.num, a.live, a.cells.take o ++ l ++ a.cells.drop (o + l.length)⟩
def storeAt (al : List Alloc) (i o : Nat) (l : List Cell) : List Alloc := match al[i]? with | some a => al.set i (putCells a o l) | none => al
/-- StoreAll: the memory, why not, the error. -/
def storeR (m : Mem) (p : Ptr) (l : List Cell) : Mem × Int × Int :=
  if (askR m p l.length).2 = 0 then
    if l.all Cell.ok then
      match (askR m p l.length).1 with
      | none => (Mem.zero, 3, 0)
      | some i => if (m.al.getD i Alloc.zero).live then (⟨storeAt m.al i p.o.toNat l, m.next⟩, 0, 0) else (Mem.zero, 3, 0)
    else (Mem.zero, 0, 8)
  else (Mem.zero, 0, (askR m p l.length).2)

end Go.Proofs.YtkbocenpkdaogaaDoor

/- How the arguments of a statement read: pointers, cells, memories. -/
namespace Go.Proofs.YtkbocenpkdaogaaDoor
set_option maxRecDepth 100000
open Go.ChangeShapes Go.WideShapes Go.ChangeAt Go.RowKit

/-- Each row holds a slice. -/
theorem All2.tab {α : Type} {row : Value → α → List Value} {Q : Value → α → Prop} : ∀ {rows : List (List Value)} {l : List α}, All2 (fun cs a => ∃ s, cs = row s a ∧ Q s a) rows l → ∃ vs, All2 Q vs l ∧ rows.flatten = trows row vs l
  | [], [], _ => ⟨[], trivial, rfl⟩
  | r :: rows, a :: l, h => by
    obtain ⟨vs, h1, h2⟩ := All2.tab h.2
    obtain ⟨s, rfl, hq⟩ := h.1
    exact ⟨s :: vs, ⟨hq, h1⟩, by rw [List.flatten_cons, h2]; simp [trows]⟩

section
variable {H : Type} {enc : TypeId × Value → H} {w : World} {base : Nat} {spare : Nat → Bool} {held : Bool}



end

end Go.Proofs.YtkbocenpkdaogaaDoor
