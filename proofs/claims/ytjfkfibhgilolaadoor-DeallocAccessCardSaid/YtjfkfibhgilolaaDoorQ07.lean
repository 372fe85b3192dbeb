/- Several texts in one: StkI, DeaE, StkJ. -/
import Derived.Test.YtjfkfibhgilolaaDoorQ06
import Derived.Test.YtjfkfibhgilolaaDoorQ05
/- Contracts: Read, Write, Retag of layer 33, the program's and the reference's. (printed by gen/acts33.py) -/
namespace Go.Proofs.YtjfkfibhgilolaaDoor
set_option maxRecDepth 100000
open Go.RowKit

theorem okK_small33 {x : Stk} (h : okK x = true) : x.cells.length ≤ 2 ∧ ∀ s ∈ x.cells, s.length ≤ 600 := by
  unfold okK at h
  simp only [Bool.and_eq_true, decide_eq_true_eq] at h
  refine ⟨h.1.2, fun s hs => ?_⟩
  have := List.all_eq_true.1 h.2 s hs
  unfold okS at this
  simp only [Bool.and_eq_true, decide_eq_true_eq] at this
  exact this.1
def use33 (x : Stk) (a n tag : Int) (b : Bool) (run : List Int) : Stk × Int × Int := if ask33 x a n run = 0 then eachR (fun l => useR l tag b run) x a.toNat n.toNat else (Stk.zero, 0, ask33 x a n run)
def tag33 (x : Stk) (a n k old : Int) (it : Item) (run : List Int) : Stk × Int × Int := if ask33 x a n run = 0 then (if kindOk k then eachR (fun l => tagR l k old it run) x a.toNat n.toNat else (Stk.zero, 0, 2)) else (Stk.zero, 0, ask33 x a n run)
theorem use33_bad {x : Stk} {a n tag : Int} {b : Bool} {run : List Int} {e : Int} (h : ask33 x a n run = e) (he : e ≠ 0) : use33 x a n tag b run = (Stk.zero, 0, e) := by rw [use33, h, if_neg he]
theorem use33_ok {x : Stk} {a n : Nat} {tag : Int} {b : Bool} {run : List Int} (h : ask33 x a n run = 0) : use33 x a n tag b run = eachR (fun l => useR l tag b run) x a n := by rw [use33, if_pos h, Int.toNat_natCast, Int.toNat_natCast]
theorem tag33_bad {x : Stk} {a n k old : Int} {it : Item} {run : List Int} {e : Int} (h : ask33 x a n run = e) (he : e ≠ 0) : tag33 x a n k old it run = (Stk.zero, 0, e) := by rw [tag33, h, if_neg he]
theorem tag33_arg {x : Stk} {a n k old : Int} {it : Item} {run : List Int} (h : ask33 x a n run = 0) (hk : kindOk k = false) : tag33 x a n k old it run = (Stk.zero, 0, 2) := by rw [tag33, if_pos h, if_neg (by simp [hk])]
theorem tag33_ok {x : Stk} {a n : Nat} {k old : Int} {it : Item} {run : List Int} (h : ask33 x a n run = 0) (hk : kindOk k = true) : tag33 x a n k old it run = eachR (fun l => tagR l k old it run) x a n := by rw [tag33, if_pos h, if_pos hk, Int.toNat_natCast, Int.toNat_natCast]
theorem oneR_fun0 (tag : Int) (it : Item) (run : List Int) : oneR 0 tag it run = fun l => useR l tag false run := rfl
theorem oneR_fun9 (tag : Int) (it : Item) (run : List Int) : oneR 9 tag it run = fun l => useR l tag true run := rfl
theorem oneR_funK {k : Int} (tag : Int) (it : Item) (run : List Int) (hk : kindOk k = true) : oneR k tag it run = fun l => tagR l k tag it run := by
  funext l
  rcases kind_yes hk with rfl | rfl | rfl | rfl <;> rfl

theorem callFunc_read33 (args : Array Value) (w : World) : (callFunc 67 args).run Tryd.prog w = .ok (.enter 67 args) w := by kernel_rfl
set_option maxHeartbeats 400000 in
theorem stacks_read1 {run : List Int} {r : Value} (tag : Int) (B1 B2 : Nat) (W : World) (h1 : W.cell? ⟨B1, 0, none⟩ = some (.int .i64 tag)) (h2 : W.cell? ⟨B2, 0, none⟩ = some r) (hr : Nts W r run) : PredU 67 #[.pointer (some ⟨B1, 0, none⟩), .pointer (some ⟨B2, 0, none⟩)] W (fun l => useR l tag false run) := by
  intro x s w hW hl
  have d1 := hW.cell h1
  have d2 := hW.cell h2
  have hF := Lib.hid (guard_ReadO tag hl (hr.ext hW))
  obtain ⟨a, cp, rfl, -⟩ := hl.form
  obtain ⟨a2, cp2, rfl, -⟩ := hr.form
  clear h1 h2 hW hl hr
  show Calls Tryd.prog 67 #[.slice a x.length cp, .pointer (some ⟨B1, 0, none⟩), .pointer (some ⟨B2, 0, none⟩)] w _
  go_enter Tryd.func67, Tryd.ntmps67
  go_wp2_with fail
  refine hF.out.mono ?_
  rintro e w1 ⟨v2, rfl, hv2, hE2⟩
  obtain ⟨b3, d3, rfl, -⟩ := hv2.its.form
  go_wp2
  refine bodyPost_ret (results_tmp3 rfl _ _ _) rfl ?_
  exact ⟨_, rfl, hv2, hE2⟩

theorem callFunc_write33 (args : Array Value) (w : World) : (callFunc 68 args).run Tryd.prog w = .ok (.enter 68 args) w := by kernel_rfl
set_option maxHeartbeats 400000 in
theorem stacks_write1 {run : List Int} {r : Value} (tag : Int) (B1 B2 : Nat) (W : World) (h1 : W.cell? ⟨B1, 0, none⟩ = some (.int .i64 tag)) (h2 : W.cell? ⟨B2, 0, none⟩ = some r) (hr : Nts W r run) : PredU 68 #[.pointer (some ⟨B1, 0, none⟩), .pointer (some ⟨B2, 0, none⟩)] W (fun l => useR l tag true run) := by
  intro x s w hW hl
  have d1 := hW.cell h1
  have d2 := hW.cell h2
  have hF := Lib.hid (guard_WriteO tag hl (hr.ext hW))
  obtain ⟨a, cp, rfl, -⟩ := hl.form
  obtain ⟨a2, cp2, rfl, -⟩ := hr.form
  clear h1 h2 hW hl hr
  show Calls Tryd.prog 68 #[.slice a x.length cp, .pointer (some ⟨B1, 0, none⟩), .pointer (some ⟨B2, 0, none⟩)] w _
  go_enter Tryd.func68, Tryd.ntmps68
  go_wp2_with fail
  refine hF.out.mono ?_
  rintro e w1 ⟨v2, rfl, hv2, hE2⟩
  obtain ⟨b3, d3, rfl, -⟩ := hv2.its.form
  go_wp2
  refine bodyPost_ret (results_tmp3 rfl _ _ _) rfl ?_
  exact ⟨_, rfl, hv2, hE2⟩

theorem callFunc_retag33 (args : Array Value) (w : World) : (callFunc 69 args).run Tryd.prog w = .ok (.enter 69 args) w := by kernel_rfl
set_option maxHeartbeats 400000 in
theorem stacks_retag1 {run : List Int} {r : Value} {k : Int} (hk : u8B k) (old p t c : Int) (B0 B1 B2 B3 : Nat) (W : World) (hp : Perms W) (h0 : W.cell? ⟨B0, 0, none⟩ = some (.int .u8 k)) (h1 : W.cell? ⟨B1, 0, none⟩ = some (.int .i64 old)) (i0 : W.cell? ⟨B2, 0, none⟩ = some (.int .u8 p)) (i1 : W.cell? ⟨B2, 1, none⟩ = some (.int .i64 t)) (i2 : W.cell? ⟨B2, 2, none⟩ = some (.int .i64 c)) (h2 : W.cell? ⟨B3, 0, none⟩ = some r) (hr : Nts W r run) : PredU 69 #[.pointer (some ⟨B0, 0, none⟩), .pointer (some ⟨B1, 0, none⟩), .pointer (some ⟨B2, 0, none⟩), .pointer (some ⟨B3, 0, none⟩)] W (fun l => tagR l k old ⟨p, t, c⟩ run) := by
  intro x s w hW hl
  have d0 := hW.cell h0
  have d1 := hW.cell h1
  have d2 := hW.cell h2
  have e0 := hW.cell i0
  have e1 := hW.cell i1
  have e2 := hW.cell i2
  have hF := Lib.hid (guard_RetagO (hp.ext hW) hk old ⟨p, t, c⟩ hl (hr.ext hW))
  obtain ⟨a, cp, rfl, -⟩ := hl.form
  obtain ⟨a2, cp2, rfl, -⟩ := hr.form
  clear h0 h1 h2 i0 i1 i2 hW hl hr hp hk
  show Calls Tryd.prog 69 #[.slice a x.length cp, .pointer (some ⟨B0, 0, none⟩), .pointer (some ⟨B1, 0, none⟩), .pointer (some ⟨B2, 0, none⟩), .pointer (some ⟨B3, 0, none⟩)] w _
  unfold Item.val at hF
  go_enter Tryd.func69, Tryd.ntmps69
  go_wp2_with fail
  refine hF.out.mono ?_
  rintro e w1 ⟨v2, rfl, hv2, hE2⟩
  obtain ⟨b3, d3, rfl, -⟩ := hv2.its.form
  go_wp2
  refine bodyPost_ret (results_tmp3 rfl _ _ _) rfl ?_
  exact ⟨_, rfl, hv2, hE2⟩

set_option maxHeartbeats 3200000 in
theorem stacks_Read {l : List (List Item)} {num a n : Int} {run : List Int} {s v : Value} {w : World} (tag : Int) (hl : Sts w s l) (hr : Nts w v run) :
    Calls Tryd.prog 36 #[.agg #[.int .i64 num, s], .int .i64 a, .int .i64 n, .int .i64 tag, v] w (RetKW w (use33 ⟨num, l⟩ a n tag false run).1 (use33 ⟨num, l⟩ a n tag false run).2.1 (use33 ⟨num, l⟩ a n tag false run).2.2) := by
  obtain ⟨q, cp, rfl, -⟩ := hl.form
  obtain ⟨a2, cp2, rfl, -⟩ := hr.form
  have hE0 : Ext w (World.alloc (World.alloc (World.alloc (World.alloc w (.cells #[.int .i64 num, .slice q l.length cp] 56)) (.cells #[.int .i64 tag] 3)) (.cells #[.slice a2 run.length cp2] 37)) (.cells #[.int .i64 0, .slice none 0 0] 56)) := ((((Ext.refl w).alloc (.cells #[.int .i64 num, .slice q l.length cp] 56)).alloc (.cells #[.int .i64 tag] 3)).alloc (.cells #[.slice a2 run.length cp2] 37)).alloc (.cells #[.int .i64 0, .slice none 0 0] 56)
  have bX0 := (((Box.new w 56 #[.int .i64 num, .slice q l.length cp]).ext ((Ext.refl _).alloc (.cells #[.int .i64 tag] 3))).ext ((Ext.refl _).alloc (.cells #[.slice a2 run.length cp2] 37))).ext ((Ext.refl _).alloc (.cells #[.int .i64 0, .slice none 0 0] 56))
  have bX1 := ((Box.new (World.alloc w (.cells #[.int .i64 num, .slice q l.length cp] 56)) 3 #[.int .i64 tag]).ext ((Ext.refl _).alloc (.cells #[.slice a2 run.length cp2] 37))).ext ((Ext.refl _).alloc (.cells #[.int .i64 0, .slice none 0 0] 56))
  have bX2 := (Box.new (World.alloc (World.alloc w (.cells #[.int .i64 num, .slice q l.length cp] 56)) (.cells #[.int .i64 tag] 3)) 37 #[.slice a2 run.length cp2]).ext ((Ext.refl _).alloc (.cells #[.int .i64 0, .slice none 0 0] 56))
  have bX3 := Box.new (World.alloc (World.alloc (World.alloc w (.cells #[.int .i64 num, .slice q l.length cp] 56)) (.cells #[.int .i64 tag] 3)) (.cells #[.slice a2 run.length cp2] 37)) 56 #[.int .i64 0, .slice none 0 0]
  simp only [World.size_alloc] at bX0 bX1 bX2 bX3
  have hL := Lib.hid (hl.ext hE0)
  have hV := Lib.hid (hr.ext hE0)
  have hmf : ∀ (fn : Fn) (first cap : Array Value) (w : World), (Instr.makeFunc fn first cap).run Tryd.prog w = .ok (.func fn first cap) w := fun _ _ _ _ => rfl
  clear hl hr
  obtain ⟨w1, hw1⟩ : ∃ z, (World.alloc (World.alloc (World.alloc (World.alloc w (.cells #[.int .i64 num, .slice q l.length cp] 56)) (.cells #[.int .i64 tag] 3)) (.cells #[.slice a2 run.length cp2] 37)) (.cells #[.int .i64 0, .slice none 0 0] 56)) = z := ⟨_, rfl⟩
  rw [hw1] at hE0 hL hV bX0 bX1 bX2 bX3
  rcases ask33_cases ⟨num, l⟩ a n run with h8 | h6 | ⟨h0, hok, hkk, hin⟩
  · have hres := Lib.hid (use33_bad (tag := tag) (b := false) h8 (by decide))
    replace h8 := Lib.hid h8
    go_enter Tryd.func36, Tryd.ntmps36
    have c0_0 : World.cell? w1 ⟨w.heap.size, 0, none⟩ = some (.int .i64 num) := bX0.cell 0
    have c0_1 : World.cell? w1 ⟨w.heap.size, 1, none⟩ = some (.slice q l.length cp) := bX0.cell 1
    have c1_0 : World.cell? w1 ⟨w.heap.size + 1, 0, none⟩ = some (.int .i64 tag) := bX1.cell 0
    have c2_0 : World.cell? w1 ⟨w.heap.size + 1 + 1, 0, none⟩ = some (.slice a2 run.length cp2) := bX2.cell 0
    have c3_0 : World.cell? w1 ⟨w.heap.size + 1 + 1 + 1, 0, none⟩ = some (.int .i64 0) := bX3.cell 0
    have c3_1 : World.cell? w1 ⟨w.heap.size + 1 + 1 + 1, 1, none⟩ = some (.slice none 0 0) := bX3.cell 1
    go_wp2_with fail
    clear c0_0 c0_1 c1_0 c2_0 c3_0 c3_1
    clear hw1
    refine (stacks_asked hL.out hV.out).mono ?_
    rintro e w2 ⟨rfl, hE2⟩
    rw [h8.out]
    have c0_0 : World.cell? w2 ⟨w.heap.size, 0, none⟩ = some (.int .i64 num) := (bX0.ext hE2).cell 0
    have c0_1 : World.cell? w2 ⟨w.heap.size, 1, none⟩ = some (.slice q l.length cp) := (bX0.ext hE2).cell 1
    have c1_0 : World.cell? w2 ⟨w.heap.size + 1, 0, none⟩ = some (.int .i64 tag) := (bX1.ext hE2).cell 0
    have c2_0 : World.cell? w2 ⟨w.heap.size + 1 + 1, 0, none⟩ = some (.slice a2 run.length cp2) := (bX2.ext hE2).cell 0
    have c3_0 : World.cell? w2 ⟨w.heap.size + 1 + 1 + 1, 0, none⟩ = some (.int .i64 0) := (bX3.ext hE2).cell 0
    have c3_1 : World.cell? w2 ⟨w.heap.size + 1 + 1 + 1, 1, none⟩ = some (.slice none 0 0) := (bX3.ext hE2).cell 1
    have f0 := (bX3.ext hE2).frozen 0
    have f1 := (bX3.ext hE2).frozen 1
    go_wp2
    rw [hres.out]
    refine bodyPost_ret (v := .tuple #[.agg #[.int .i64 0, .slice none 0 0], .int .u8 0, .int .i64 8]) (by simp [results, Tryd.f36, go_sem, c3_0, c3_1]) rfl ⟨_, [], rfl, OwnS.nil _ _, ?_⟩
    have hFF := hE0.trans hE2
    first | exact hFF | exact (hFF.setCell (by simp <;> omega) _).setCell (by simp <;> omega) _
  · have hres := Lib.hid (use33_bad (tag := tag) (b := false) h6 (by decide))
    replace h6 := Lib.hid h6
    go_enter Tryd.func36, Tryd.ntmps36
    have c0_0 : World.cell? w1 ⟨w.heap.size, 0, none⟩ = some (.int .i64 num) := bX0.cell 0
    have c0_1 : World.cell? w1 ⟨w.heap.size, 1, none⟩ = some (.slice q l.length cp) := bX0.cell 1
    have c1_0 : World.cell? w1 ⟨w.heap.size + 1, 0, none⟩ = some (.int .i64 tag) := bX1.cell 0
    have c2_0 : World.cell? w1 ⟨w.heap.size + 1 + 1, 0, none⟩ = some (.slice a2 run.length cp2) := bX2.cell 0
    have c3_0 : World.cell? w1 ⟨w.heap.size + 1 + 1 + 1, 0, none⟩ = some (.int .i64 0) := bX3.cell 0
    have c3_1 : World.cell? w1 ⟨w.heap.size + 1 + 1 + 1, 1, none⟩ = some (.slice none 0 0) := bX3.cell 1
    go_wp2_with fail
    clear c0_0 c0_1 c1_0 c2_0 c3_0 c3_1
    clear hw1
    refine (stacks_asked hL.out hV.out).mono ?_
    rintro e w2 ⟨rfl, hE2⟩
    rw [h6.out]
    have c0_0 : World.cell? w2 ⟨w.heap.size, 0, none⟩ = some (.int .i64 num) := (bX0.ext hE2).cell 0
    have c0_1 : World.cell? w2 ⟨w.heap.size, 1, none⟩ = some (.slice q l.length cp) := (bX0.ext hE2).cell 1
    have c1_0 : World.cell? w2 ⟨w.heap.size + 1, 0, none⟩ = some (.int .i64 tag) := (bX1.ext hE2).cell 0
    have c2_0 : World.cell? w2 ⟨w.heap.size + 1 + 1, 0, none⟩ = some (.slice a2 run.length cp2) := (bX2.ext hE2).cell 0
    have c3_0 : World.cell? w2 ⟨w.heap.size + 1 + 1 + 1, 0, none⟩ = some (.int .i64 0) := (bX3.ext hE2).cell 0
    have c3_1 : World.cell? w2 ⟨w.heap.size + 1 + 1 + 1, 1, none⟩ = some (.slice none 0 0) := (bX3.ext hE2).cell 1
    have f0 := (bX3.ext hE2).frozen 0
    have f1 := (bX3.ext hE2).frozen 1
    go_wp2
    rw [hres.out]
    refine bodyPost_ret (v := .tuple #[.agg #[.int .i64 0, .slice none 0 0], .int .u8 0, .int .i64 6]) (by simp [results, Tryd.f36, go_sem, c3_0, c3_1]) rfl ⟨_, [], rfl, OwnS.nil _ _, ?_⟩
    have hFF := hE0.trans hE2
    first | exact hFF | exact (hFF.setCell (by simp <;> omega) _).setCell (by simp <;> omega) _
  have hin2 := hin
  unfold inR33 at hin2
  dsimp only at hin2
  obtain ⟨fa, rfl⟩ : ∃ m : Nat, a = m := ⟨a.toNat, by omega⟩
  obtain ⟨fn, rfl⟩ : ∃ m : Nat, n = m := ⟨n.toNat, by omega⟩
  have hin3 : fa < l.length ∧ 1 ≤ fn ∧ fn ≤ l.length - fa := by omega
  have hsm : Hid (l.length ≤ 2 ∧ ∀ s ∈ l, s.length ≤ 600) := Hid.mk (okK_small33 hkk)
  replace hin3 := Lib.hid hin3
  clear hin hin2 hok hkk
  have hres := Lib.hid (use33_ok (tag := tag) (b := false) h0)
  replace h0 := Lib.hid h0
  obtain ⟨⟨⟨yn, yl⟩, u, e3⟩, hy⟩ : ∃ z, eachR (fun l => useR l tag false run) ⟨num, l⟩ fa fn = z := ⟨_, rfl⟩
  replace hy := Lib.hid hy
  go_enter Tryd.func36, Tryd.ntmps36
  have c0_0 : World.cell? w1 ⟨w.heap.size, 0, none⟩ = some (.int .i64 num) := bX0.cell 0
  have c0_1 : World.cell? w1 ⟨w.heap.size, 1, none⟩ = some (.slice q l.length cp) := bX0.cell 1
  have c1_0 : World.cell? w1 ⟨w.heap.size + 1, 0, none⟩ = some (.int .i64 tag) := bX1.cell 0
  have c2_0 : World.cell? w1 ⟨w.heap.size + 1 + 1, 0, none⟩ = some (.slice a2 run.length cp2) := bX2.cell 0
  have c3_0 : World.cell? w1 ⟨w.heap.size + 1 + 1 + 1, 0, none⟩ = some (.int .i64 0) := bX3.cell 0
  have c3_1 : World.cell? w1 ⟨w.heap.size + 1 + 1 + 1, 1, none⟩ = some (.slice none 0 0) := bX3.cell 1
  go_wp2_with fail
  clear c0_0 c0_1 c1_0 c2_0 c3_0 c3_1
  clear hw1
  refine (stacks_asked hL.out hV.out).mono ?_
  rintro e w2 ⟨rfl, hE2⟩
  rw [h0.out]
  have c0_0 : World.cell? w2 ⟨w.heap.size, 0, none⟩ = some (.int .i64 num) := (bX0.ext hE2).cell 0
  have c0_1 : World.cell? w2 ⟨w.heap.size, 1, none⟩ = some (.slice q l.length cp) := (bX0.ext hE2).cell 1
  have c1_0 : World.cell? w2 ⟨w.heap.size + 1, 0, none⟩ = some (.int .i64 tag) := (bX1.ext hE2).cell 0
  have c2_0 : World.cell? w2 ⟨w.heap.size + 1 + 1, 0, none⟩ = some (.slice a2 run.length cp2) := (bX2.ext hE2).cell 0
  have c3_0 : World.cell? w2 ⟨w.heap.size + 1 + 1 + 1, 0, none⟩ = some (.int .i64 0) := (bX3.ext hE2).cell 0
  have c3_1 : World.cell? w2 ⟨w.heap.size + 1 + 1 + 1, 1, none⟩ = some (.slice none 0 0) := (bX3.ext hE2).cell 1
  have f0 := (bX3.ext hE2).frozen 0
  have f1 := (bX3.ext hE2).frozen 1
  go_wp2_with fail
  refine (stacks_each callFunc_read33 (stacks_read1 tag (w.heap.size + 1) (w.heap.size + 1 + 1) _ c1_0 c2_0 (hV.out.ext hE2)) hsm.out hin3.out (hL.out.ext hE2)).mono ?_
  rintro e w4 ⟨v4, vs4, rfl, h4, hE4⟩
  rw [hy.out] at h4 ⊢
  dsimp only at h4 ⊢
  clear c0_0 c0_1 c1_0 c2_0 c3_0 c3_1 f0 f1
  obtain ⟨a4, k4, rfl, -⟩ := h4.sts.form
  replace h4 := Lib.hid h4
  have c0 : World.cell? w4 ⟨w.heap.size + 1 + 1 + 1, 0, none⟩ = some (.int .i64 0) := ((bX3.ext hE2).ext hE4).cell 0
  have c1 : World.cell? w4 ⟨w.heap.size + 1 + 1 + 1, 1, none⟩ = some (.slice none 0 0) := ((bX3.ext hE2).ext hE4).cell 1
  have f0 := ((bX3.ext hE2).ext hE4).frozen 0
  have f1 := ((bX3.ext hE2).ext hE4).frozen 1
  have hlt := bX3.lt
  have hsz2 := hE2.size
  go_wp2
  rw [hres.out, hy.out]
  have hY := ((ExtBut.setCell w4 ⟨w.heap.size + 1 + 1 + 1, 0, none⟩ (.int .i64 yn)).mono (S' := fun b => b = w.heap.size + 1 + 1 + 1) (fun x _ h => h)).trans ((ExtBut.setCell _ ⟨w.heap.size + 1 + 1 + 1, 1, none⟩ (.slice a4 yl.length k4)).mono (S' := fun b => b = w.heap.size + 1 + 1 + 1) (fun x _ h => h))
  refine bodyPost_ret (v := .tuple #[.agg #[.int .i64 yn, .slice a4 yl.length k4], .int .u8 u, .int .i64 e3]) (by simp [results, Tryd.f36, go_sem, c0, c1]) rfl ⟨_, vs4, rfl, OwnS.mono (B := w2.heap.size) (B' := w.heap.size) (OwnS.but h4.out hY (fun g e h => by omega)) (by omega), ExtBut.ext ((hE0.trans hE2).trans hE4) hY (fun x h => by omega)⟩


set_option maxHeartbeats 3200000 in
theorem stacks_Write {l : List (List Item)} {num a n : Int} {run : List Int} {s v : Value} {w : World} (tag : Int) (hl : Sts w s l) (hr : Nts w v run) :
    Calls Tryd.prog 37 #[.agg #[.int .i64 num, s], .int .i64 a, .int .i64 n, .int .i64 tag, v] w (RetKW w (use33 ⟨num, l⟩ a n tag true run).1 (use33 ⟨num, l⟩ a n tag true run).2.1 (use33 ⟨num, l⟩ a n tag true run).2.2) := by
  obtain ⟨q, cp, rfl, -⟩ := hl.form
  obtain ⟨a2, cp2, rfl, -⟩ := hr.form
  have hE0 : Ext w (World.alloc (World.alloc (World.alloc (World.alloc w (.cells #[.int .i64 num, .slice q l.length cp] 56)) (.cells #[.int .i64 tag] 3)) (.cells #[.slice a2 run.length cp2] 37)) (.cells #[.int .i64 0, .slice none 0 0] 56)) := ((((Ext.refl w).alloc (.cells #[.int .i64 num, .slice q l.length cp] 56)).alloc (.cells #[.int .i64 tag] 3)).alloc (.cells #[.slice a2 run.length cp2] 37)).alloc (.cells #[.int .i64 0, .slice none 0 0] 56)
  have bX0 := (((Box.new w 56 #[.int .i64 num, .slice q l.length cp]).ext ((Ext.refl _).alloc (.cells #[.int .i64 tag] 3))).ext ((Ext.refl _).alloc (.cells #[.slice a2 run.length cp2] 37))).ext ((Ext.refl _).alloc (.cells #[.int .i64 0, .slice none 0 0] 56))
  have bX1 := ((Box.new (World.alloc w (.cells #[.int .i64 num, .slice q l.length cp] 56)) 3 #[.int .i64 tag]).ext ((Ext.refl _).alloc (.cells #[.slice a2 run.length cp2] 37))).ext ((Ext.refl _).alloc (.cells #[.int .i64 0, .slice none 0 0] 56))
  have bX2 := (Box.new (World.alloc (World.alloc w (.cells #[.int .i64 num, .slice q l.length cp] 56)) (.cells #[.int .i64 tag] 3)) 37 #[.slice a2 run.length cp2]).ext ((Ext.refl _).alloc (.cells #[.int .i64 0, .slice none 0 0] 56))
  have bX3 := Box.new (World.alloc (World.alloc (World.alloc w (.cells #[.int .i64 num, .slice q l.length cp] 56)) (.cells #[.int .i64 tag] 3)) (.cells #[.slice a2 run.length cp2] 37)) 56 #[.int .i64 0, .slice none 0 0]
  simp only [World.size_alloc] at bX0 bX1 bX2 bX3
  have hL := Lib.hid (hl.ext hE0)
  have hV := Lib.hid (hr.ext hE0)
  have hmf : ∀ (fn : Fn) (first cap : Array Value) (w : World), (Instr.makeFunc fn first cap).run Tryd.prog w = .ok (.func fn first cap) w := fun _ _ _ _ => rfl
  clear hl hr
  obtain ⟨w1, hw1⟩ : ∃ z, (World.alloc (World.alloc (World.alloc (World.alloc w (.cells #[.int .i64 num, .slice q l.length cp] 56)) (.cells #[.int .i64 tag] 3)) (.cells #[.slice a2 run.length cp2] 37)) (.cells #[.int .i64 0, .slice none 0 0] 56)) = z := ⟨_, rfl⟩
  rw [hw1] at hE0 hL hV bX0 bX1 bX2 bX3
  rcases ask33_cases ⟨num, l⟩ a n run with h8 | h6 | ⟨h0, hok, hkk, hin⟩
  · have hres := Lib.hid (use33_bad (tag := tag) (b := true) h8 (by decide))
    replace h8 := Lib.hid h8
    go_enter Tryd.func37, Tryd.ntmps37
    have c0_0 : World.cell? w1 ⟨w.heap.size, 0, none⟩ = some (.int .i64 num) := bX0.cell 0
    have c0_1 : World.cell? w1 ⟨w.heap.size, 1, none⟩ = some (.slice q l.length cp) := bX0.cell 1
    have c1_0 : World.cell? w1 ⟨w.heap.size + 1, 0, none⟩ = some (.int .i64 tag) := bX1.cell 0
    have c2_0 : World.cell? w1 ⟨w.heap.size + 1 + 1, 0, none⟩ = some (.slice a2 run.length cp2) := bX2.cell 0
    have c3_0 : World.cell? w1 ⟨w.heap.size + 1 + 1 + 1, 0, none⟩ = some (.int .i64 0) := bX3.cell 0
    have c3_1 : World.cell? w1 ⟨w.heap.size + 1 + 1 + 1, 1, none⟩ = some (.slice none 0 0) := bX3.cell 1
    go_wp2_with fail
    clear c0_0 c0_1 c1_0 c2_0 c3_0 c3_1
    clear hw1
    refine (stacks_asked hL.out hV.out).mono ?_
    rintro e w2 ⟨rfl, hE2⟩
    rw [h8.out]
    have c0_0 : World.cell? w2 ⟨w.heap.size, 0, none⟩ = some (.int .i64 num) := (bX0.ext hE2).cell 0
    have c0_1 : World.cell? w2 ⟨w.heap.size, 1, none⟩ = some (.slice q l.length cp) := (bX0.ext hE2).cell 1
    have c1_0 : World.cell? w2 ⟨w.heap.size + 1, 0, none⟩ = some (.int .i64 tag) := (bX1.ext hE2).cell 0
    have c2_0 : World.cell? w2 ⟨w.heap.size + 1 + 1, 0, none⟩ = some (.slice a2 run.length cp2) := (bX2.ext hE2).cell 0
    have c3_0 : World.cell? w2 ⟨w.heap.size + 1 + 1 + 1, 0, none⟩ = some (.int .i64 0) := (bX3.ext hE2).cell 0
    have c3_1 : World.cell? w2 ⟨w.heap.size + 1 + 1 + 1, 1, none⟩ = some (.slice none 0 0) := (bX3.ext hE2).cell 1
    have f0 := (bX3.ext hE2).frozen 0
    have f1 := (bX3.ext hE2).frozen 1
    go_wp2
    rw [hres.out]
    refine bodyPost_ret (v := .tuple #[.agg #[.int .i64 0, .slice none 0 0], .int .u8 0, .int .i64 8]) (by simp [results, Tryd.f37, go_sem, c3_0, c3_1]) rfl ⟨_, [], rfl, OwnS.nil _ _, ?_⟩
    have hFF := hE0.trans hE2
    first | exact hFF | exact (hFF.setCell (by simp <;> omega) _).setCell (by simp <;> omega) _
  · have hres := Lib.hid (use33_bad (tag := tag) (b := true) h6 (by decide))
    replace h6 := Lib.hid h6
    go_enter Tryd.func37, Tryd.ntmps37
    have c0_0 : World.cell? w1 ⟨w.heap.size, 0, none⟩ = some (.int .i64 num) := bX0.cell 0
    have c0_1 : World.cell? w1 ⟨w.heap.size, 1, none⟩ = some (.slice q l.length cp) := bX0.cell 1
    have c1_0 : World.cell? w1 ⟨w.heap.size + 1, 0, none⟩ = some (.int .i64 tag) := bX1.cell 0
    have c2_0 : World.cell? w1 ⟨w.heap.size + 1 + 1, 0, none⟩ = some (.slice a2 run.length cp2) := bX2.cell 0
    have c3_0 : World.cell? w1 ⟨w.heap.size + 1 + 1 + 1, 0, none⟩ = some (.int .i64 0) := bX3.cell 0
    have c3_1 : World.cell? w1 ⟨w.heap.size + 1 + 1 + 1, 1, none⟩ = some (.slice none 0 0) := bX3.cell 1
    go_wp2_with fail
    clear c0_0 c0_1 c1_0 c2_0 c3_0 c3_1
    clear hw1
    refine (stacks_asked hL.out hV.out).mono ?_
    rintro e w2 ⟨rfl, hE2⟩
    rw [h6.out]
    have c0_0 : World.cell? w2 ⟨w.heap.size, 0, none⟩ = some (.int .i64 num) := (bX0.ext hE2).cell 0
    have c0_1 : World.cell? w2 ⟨w.heap.size, 1, none⟩ = some (.slice q l.length cp) := (bX0.ext hE2).cell 1
    have c1_0 : World.cell? w2 ⟨w.heap.size + 1, 0, none⟩ = some (.int .i64 tag) := (bX1.ext hE2).cell 0
    have c2_0 : World.cell? w2 ⟨w.heap.size + 1 + 1, 0, none⟩ = some (.slice a2 run.length cp2) := (bX2.ext hE2).cell 0
    have c3_0 : World.cell? w2 ⟨w.heap.size + 1 + 1 + 1, 0, none⟩ = some (.int .i64 0) := (bX3.ext hE2).cell 0
    have c3_1 : World.cell? w2 ⟨w.heap.size + 1 + 1 + 1, 1, none⟩ = some (.slice none 0 0) := (bX3.ext hE2).cell 1
    have f0 := (bX3.ext hE2).frozen 0
    have f1 := (bX3.ext hE2).frozen 1
    go_wp2
    rw [hres.out]
    refine bodyPost_ret (v := .tuple #[.agg #[.int .i64 0, .slice none 0 0], .int .u8 0, .int .i64 6]) (by simp [results, Tryd.f37, go_sem, c3_0, c3_1]) rfl ⟨_, [], rfl, OwnS.nil _ _, ?_⟩
    have hFF := hE0.trans hE2
    first | exact hFF | exact (hFF.setCell (by simp <;> omega) _).setCell (by simp <;> omega) _
  have hin2 := hin
  unfold inR33 at hin2
  dsimp only at hin2
  obtain ⟨fa, rfl⟩ : ∃ m : Nat, a = m := ⟨a.toNat, by omega⟩
  obtain ⟨fn, rfl⟩ : ∃ m : Nat, n = m := ⟨n.toNat, by omega⟩
  have hin3 : fa < l.length ∧ 1 ≤ fn ∧ fn ≤ l.length - fa := by omega
  have hsm : Hid (l.length ≤ 2 ∧ ∀ s ∈ l, s.length ≤ 600) := Hid.mk (okK_small33 hkk)
  replace hin3 := Lib.hid hin3
  clear hin hin2 hok hkk
  have hres := Lib.hid (use33_ok (tag := tag) (b := true) h0)
  replace h0 := Lib.hid h0
  obtain ⟨⟨⟨yn, yl⟩, u, e3⟩, hy⟩ : ∃ z, eachR (fun l => useR l tag true run) ⟨num, l⟩ fa fn = z := ⟨_, rfl⟩
  replace hy := Lib.hid hy
  go_enter Tryd.func37, Tryd.ntmps37
  have c0_0 : World.cell? w1 ⟨w.heap.size, 0, none⟩ = some (.int .i64 num) := bX0.cell 0
  have c0_1 : World.cell? w1 ⟨w.heap.size, 1, none⟩ = some (.slice q l.length cp) := bX0.cell 1
  have c1_0 : World.cell? w1 ⟨w.heap.size + 1, 0, none⟩ = some (.int .i64 tag) := bX1.cell 0
  have c2_0 : World.cell? w1 ⟨w.heap.size + 1 + 1, 0, none⟩ = some (.slice a2 run.length cp2) := bX2.cell 0
  have c3_0 : World.cell? w1 ⟨w.heap.size + 1 + 1 + 1, 0, none⟩ = some (.int .i64 0) := bX3.cell 0
  have c3_1 : World.cell? w1 ⟨w.heap.size + 1 + 1 + 1, 1, none⟩ = some (.slice none 0 0) := bX3.cell 1
  go_wp2_with fail
  clear c0_0 c0_1 c1_0 c2_0 c3_0 c3_1
  clear hw1
  refine (stacks_asked hL.out hV.out).mono ?_
  rintro e w2 ⟨rfl, hE2⟩
  rw [h0.out]
  have c0_0 : World.cell? w2 ⟨w.heap.size, 0, none⟩ = some (.int .i64 num) := (bX0.ext hE2).cell 0
  have c0_1 : World.cell? w2 ⟨w.heap.size, 1, none⟩ = some (.slice q l.length cp) := (bX0.ext hE2).cell 1
  have c1_0 : World.cell? w2 ⟨w.heap.size + 1, 0, none⟩ = some (.int .i64 tag) := (bX1.ext hE2).cell 0
  have c2_0 : World.cell? w2 ⟨w.heap.size + 1 + 1, 0, none⟩ = some (.slice a2 run.length cp2) := (bX2.ext hE2).cell 0
  have c3_0 : World.cell? w2 ⟨w.heap.size + 1 + 1 + 1, 0, none⟩ = some (.int .i64 0) := (bX3.ext hE2).cell 0
  have c3_1 : World.cell? w2 ⟨w.heap.size + 1 + 1 + 1, 1, none⟩ = some (.slice none 0 0) := (bX3.ext hE2).cell 1
  have f0 := (bX3.ext hE2).frozen 0
  have f1 := (bX3.ext hE2).frozen 1
  go_wp2_with fail
  refine (stacks_each callFunc_write33 (stacks_write1 tag (w.heap.size + 1) (w.heap.size + 1 + 1) _ c1_0 c2_0 (hV.out.ext hE2)) hsm.out hin3.out (hL.out.ext hE2)).mono ?_
  rintro e w4 ⟨v4, vs4, rfl, h4, hE4⟩
  rw [hy.out] at h4 ⊢
  dsimp only at h4 ⊢
  clear c0_0 c0_1 c1_0 c2_0 c3_0 c3_1 f0 f1
  obtain ⟨a4, k4, rfl, -⟩ := h4.sts.form
  replace h4 := Lib.hid h4
  have c0 : World.cell? w4 ⟨w.heap.size + 1 + 1 + 1, 0, none⟩ = some (.int .i64 0) := ((bX3.ext hE2).ext hE4).cell 0
  have c1 : World.cell? w4 ⟨w.heap.size + 1 + 1 + 1, 1, none⟩ = some (.slice none 0 0) := ((bX3.ext hE2).ext hE4).cell 1
  have f0 := ((bX3.ext hE2).ext hE4).frozen 0
  have f1 := ((bX3.ext hE2).ext hE4).frozen 1
  have hlt := bX3.lt
  have hsz2 := hE2.size
  go_wp2
  rw [hres.out, hy.out]
  have hY := ((ExtBut.setCell w4 ⟨w.heap.size + 1 + 1 + 1, 0, none⟩ (.int .i64 yn)).mono (S' := fun b => b = w.heap.size + 1 + 1 + 1) (fun x _ h => h)).trans ((ExtBut.setCell _ ⟨w.heap.size + 1 + 1 + 1, 1, none⟩ (.slice a4 yl.length k4)).mono (S' := fun b => b = w.heap.size + 1 + 1 + 1) (fun x _ h => h))
  refine bodyPost_ret (v := .tuple #[.agg #[.int .i64 yn, .slice a4 yl.length k4], .int .u8 u, .int .i64 e3]) (by simp [results, Tryd.f37, go_sem, c0, c1]) rfl ⟨_, vs4, rfl, OwnS.mono (B := w2.heap.size) (B' := w.heap.size) (OwnS.but h4.out hY (fun g e h => by omega)) (by omega), ExtBut.ext ((hE0.trans hE2).trans hE4) hY (fun x h => by omega)⟩


set_option maxHeartbeats 3200000 in
theorem stacks_Retag {l : List (List Item)} {num a n : Int} {kind : Int} {run : List Int} {s v : Value} {w : World} (hp : Perms w) (hk : u8B kind) (tag : Int) (it : Item) (hl : Sts w s l) (hr : Nts w v run) :
    Calls Tryd.prog 38 #[.agg #[.int .i64 num, s], .int .i64 a, .int .i64 n, .int .u8 kind, .int .i64 tag, it.val, v] w (RetKW w (tag33 ⟨num, l⟩ a n kind tag it run).1 (tag33 ⟨num, l⟩ a n kind tag it run).2.1 (tag33 ⟨num, l⟩ a n kind tag it run).2.2) := by
  obtain ⟨p, t, c⟩ := it
  obtain ⟨q, cp, rfl, -⟩ := hl.form
  obtain ⟨a2, cp2, rfl, -⟩ := hr.form
  have hE0 : Ext w (World.alloc (World.alloc (World.alloc (World.alloc (World.alloc (World.alloc w (.cells #[.int .i64 num, .slice q l.length cp] 56)) (.cells #[.int .u8 kind] 5)) (.cells #[.int .i64 tag] 3)) (.cells #[.int .u8 p, .int .i64 t, .int .i64 c] 23)) (.cells #[.slice a2 run.length cp2] 37)) (.cells #[.int .i64 0, .slice none 0 0] 56)) := ((((((Ext.refl w).alloc (.cells #[.int .i64 num, .slice q l.length cp] 56)).alloc (.cells #[.int .u8 kind] 5)).alloc (.cells #[.int .i64 tag] 3)).alloc (.cells #[.int .u8 p, .int .i64 t, .int .i64 c] 23)).alloc (.cells #[.slice a2 run.length cp2] 37)).alloc (.cells #[.int .i64 0, .slice none 0 0] 56)
  have bX0 := (((((Box.new w 56 #[.int .i64 num, .slice q l.length cp]).ext ((Ext.refl _).alloc (.cells #[.int .u8 kind] 5))).ext ((Ext.refl _).alloc (.cells #[.int .i64 tag] 3))).ext ((Ext.refl _).alloc (.cells #[.int .u8 p, .int .i64 t, .int .i64 c] 23))).ext ((Ext.refl _).alloc (.cells #[.slice a2 run.length cp2] 37))).ext ((Ext.refl _).alloc (.cells #[.int .i64 0, .slice none 0 0] 56))
  have bX1 := ((((Box.new (World.alloc w (.cells #[.int .i64 num, .slice q l.length cp] 56)) 5 #[.int .u8 kind]).ext ((Ext.refl _).alloc (.cells #[.int .i64 tag] 3))).ext ((Ext.refl _).alloc (.cells #[.int .u8 p, .int .i64 t, .int .i64 c] 23))).ext ((Ext.refl _).alloc (.cells #[.slice a2 run.length cp2] 37))).ext ((Ext.refl _).alloc (.cells #[.int .i64 0, .slice none 0 0] 56))
  have bX2 := (((Box.new (World.alloc (World.alloc w (.cells #[.int .i64 num, .slice q l.length cp] 56)) (.cells #[.int .u8 kind] 5)) 3 #[.int .i64 tag]).ext ((Ext.refl _).alloc (.cells #[.int .u8 p, .int .i64 t, .int .i64 c] 23))).ext ((Ext.refl _).alloc (.cells #[.slice a2 run.length cp2] 37))).ext ((Ext.refl _).alloc (.cells #[.int .i64 0, .slice none 0 0] 56))
  have bX3 := ((Box.new (World.alloc (World.alloc (World.alloc w (.cells #[.int .i64 num, .slice q l.length cp] 56)) (.cells #[.int .u8 kind] 5)) (.cells #[.int .i64 tag] 3)) 23 #[.int .u8 p, .int .i64 t, .int .i64 c]).ext ((Ext.refl _).alloc (.cells #[.slice a2 run.length cp2] 37))).ext ((Ext.refl _).alloc (.cells #[.int .i64 0, .slice none 0 0] 56))
  have bX4 := (Box.new (World.alloc (World.alloc (World.alloc (World.alloc w (.cells #[.int .i64 num, .slice q l.length cp] 56)) (.cells #[.int .u8 kind] 5)) (.cells #[.int .i64 tag] 3)) (.cells #[.int .u8 p, .int .i64 t, .int .i64 c] 23)) 37 #[.slice a2 run.length cp2]).ext ((Ext.refl _).alloc (.cells #[.int .i64 0, .slice none 0 0] 56))
  have bX5 := Box.new (World.alloc (World.alloc (World.alloc (World.alloc (World.alloc w (.cells #[.int .i64 num, .slice q l.length cp] 56)) (.cells #[.int .u8 kind] 5)) (.cells #[.int .i64 tag] 3)) (.cells #[.int .u8 p, .int .i64 t, .int .i64 c] 23)) (.cells #[.slice a2 run.length cp2] 37)) 56 #[.int .i64 0, .slice none 0 0]
  simp only [World.size_alloc] at bX0 bX1 bX2 bX3 bX4 bX5
  have hL := Lib.hid (hl.ext hE0)
  have hV := Lib.hid (hr.ext hE0)
  have hP := Lib.hid (hp.ext hE0)
  clear hp
  replace hk := Lib.hid hk
  unfold Item.val
  have hmf : ∀ (fn : Fn) (first cap : Array Value) (w : World), (Instr.makeFunc fn first cap).run Tryd.prog w = .ok (.func fn first cap) w := fun _ _ _ _ => rfl
  clear hl hr
  obtain ⟨w1, hw1⟩ : ∃ z, (World.alloc (World.alloc (World.alloc (World.alloc (World.alloc (World.alloc w (.cells #[.int .i64 num, .slice q l.length cp] 56)) (.cells #[.int .u8 kind] 5)) (.cells #[.int .i64 tag] 3)) (.cells #[.int .u8 p, .int .i64 t, .int .i64 c] 23)) (.cells #[.slice a2 run.length cp2] 37)) (.cells #[.int .i64 0, .slice none 0 0] 56)) = z := ⟨_, rfl⟩
  rw [hw1] at hE0 hL hV hP bX0 bX1 bX2 bX3 bX4 bX5
  rcases ask33_cases ⟨num, l⟩ a n run with h8 | h6 | ⟨h0, hok, hkk, hin⟩
  · have hres := Lib.hid (tag33_bad (k := kind) (old := tag) (it := ⟨p, t, c⟩) h8 (by decide))
    replace h8 := Lib.hid h8
    go_enter Tryd.func38, Tryd.ntmps38
    have c0_0 : World.cell? w1 ⟨w.heap.size, 0, none⟩ = some (.int .i64 num) := bX0.cell 0
    have c0_1 : World.cell? w1 ⟨w.heap.size, 1, none⟩ = some (.slice q l.length cp) := bX0.cell 1
    have c1_0 : World.cell? w1 ⟨w.heap.size + 1, 0, none⟩ = some (.int .u8 kind) := bX1.cell 0
    have c2_0 : World.cell? w1 ⟨w.heap.size + 1 + 1, 0, none⟩ = some (.int .i64 tag) := bX2.cell 0
    have c3_0 : World.cell? w1 ⟨w.heap.size + 1 + 1 + 1, 0, none⟩ = some (.int .u8 p) := bX3.cell 0
    have c3_1 : World.cell? w1 ⟨w.heap.size + 1 + 1 + 1, 1, none⟩ = some (.int .i64 t) := bX3.cell 1
    have c3_2 : World.cell? w1 ⟨w.heap.size + 1 + 1 + 1, 2, none⟩ = some (.int .i64 c) := bX3.cell 2
    have c4_0 : World.cell? w1 ⟨w.heap.size + 1 + 1 + 1 + 1, 0, none⟩ = some (.slice a2 run.length cp2) := bX4.cell 0
    have c5_0 : World.cell? w1 ⟨w.heap.size + 1 + 1 + 1 + 1 + 1, 0, none⟩ = some (.int .i64 0) := bX5.cell 0
    have c5_1 : World.cell? w1 ⟨w.heap.size + 1 + 1 + 1 + 1 + 1, 1, none⟩ = some (.slice none 0 0) := bX5.cell 1
    go_wp2_with fail
    clear c0_0 c0_1 c1_0 c2_0 c3_0 c3_1 c3_2 c4_0 c5_0 c5_1
    clear hw1
    refine (stacks_asked hL.out hV.out).mono ?_
    rintro e w2 ⟨rfl, hE2⟩
    rw [h8.out]
    have c0_0 : World.cell? w2 ⟨w.heap.size, 0, none⟩ = some (.int .i64 num) := (bX0.ext hE2).cell 0
    have c0_1 : World.cell? w2 ⟨w.heap.size, 1, none⟩ = some (.slice q l.length cp) := (bX0.ext hE2).cell 1
    have c1_0 : World.cell? w2 ⟨w.heap.size + 1, 0, none⟩ = some (.int .u8 kind) := (bX1.ext hE2).cell 0
    have c2_0 : World.cell? w2 ⟨w.heap.size + 1 + 1, 0, none⟩ = some (.int .i64 tag) := (bX2.ext hE2).cell 0
    have c3_0 : World.cell? w2 ⟨w.heap.size + 1 + 1 + 1, 0, none⟩ = some (.int .u8 p) := (bX3.ext hE2).cell 0
    have c3_1 : World.cell? w2 ⟨w.heap.size + 1 + 1 + 1, 1, none⟩ = some (.int .i64 t) := (bX3.ext hE2).cell 1
    have c3_2 : World.cell? w2 ⟨w.heap.size + 1 + 1 + 1, 2, none⟩ = some (.int .i64 c) := (bX3.ext hE2).cell 2
    have c4_0 : World.cell? w2 ⟨w.heap.size + 1 + 1 + 1 + 1, 0, none⟩ = some (.slice a2 run.length cp2) := (bX4.ext hE2).cell 0
    have c5_0 : World.cell? w2 ⟨w.heap.size + 1 + 1 + 1 + 1 + 1, 0, none⟩ = some (.int .i64 0) := (bX5.ext hE2).cell 0
    have c5_1 : World.cell? w2 ⟨w.heap.size + 1 + 1 + 1 + 1 + 1, 1, none⟩ = some (.slice none 0 0) := (bX5.ext hE2).cell 1
    have f0 := (bX5.ext hE2).frozen 0
    have f1 := (bX5.ext hE2).frozen 1
    go_wp2
    rw [hres.out]
    refine bodyPost_ret (v := .tuple #[.agg #[.int .i64 0, .slice none 0 0], .int .u8 0, .int .i64 8]) (by simp [results, Tryd.f38, go_sem, c5_0, c5_1]) rfl ⟨_, [], rfl, OwnS.nil _ _, ?_⟩
    have hFF := hE0.trans hE2
    first | exact hFF | exact (hFF.setCell (by simp <;> omega) _).setCell (by simp <;> omega) _
  · have hres := Lib.hid (tag33_bad (k := kind) (old := tag) (it := ⟨p, t, c⟩) h6 (by decide))
    replace h6 := Lib.hid h6
    go_enter Tryd.func38, Tryd.ntmps38
    have c0_0 : World.cell? w1 ⟨w.heap.size, 0, none⟩ = some (.int .i64 num) := bX0.cell 0
    have c0_1 : World.cell? w1 ⟨w.heap.size, 1, none⟩ = some (.slice q l.length cp) := bX0.cell 1
    have c1_0 : World.cell? w1 ⟨w.heap.size + 1, 0, none⟩ = some (.int .u8 kind) := bX1.cell 0
    have c2_0 : World.cell? w1 ⟨w.heap.size + 1 + 1, 0, none⟩ = some (.int .i64 tag) := bX2.cell 0
    have c3_0 : World.cell? w1 ⟨w.heap.size + 1 + 1 + 1, 0, none⟩ = some (.int .u8 p) := bX3.cell 0
    have c3_1 : World.cell? w1 ⟨w.heap.size + 1 + 1 + 1, 1, none⟩ = some (.int .i64 t) := bX3.cell 1
    have c3_2 : World.cell? w1 ⟨w.heap.size + 1 + 1 + 1, 2, none⟩ = some (.int .i64 c) := bX3.cell 2
    have c4_0 : World.cell? w1 ⟨w.heap.size + 1 + 1 + 1 + 1, 0, none⟩ = some (.slice a2 run.length cp2) := bX4.cell 0
    have c5_0 : World.cell? w1 ⟨w.heap.size + 1 + 1 + 1 + 1 + 1, 0, none⟩ = some (.int .i64 0) := bX5.cell 0
    have c5_1 : World.cell? w1 ⟨w.heap.size + 1 + 1 + 1 + 1 + 1, 1, none⟩ = some (.slice none 0 0) := bX5.cell 1
    go_wp2_with fail
    clear c0_0 c0_1 c1_0 c2_0 c3_0 c3_1 c3_2 c4_0 c5_0 c5_1
    clear hw1
    refine (stacks_asked hL.out hV.out).mono ?_
    rintro e w2 ⟨rfl, hE2⟩
    rw [h6.out]
    have c0_0 : World.cell? w2 ⟨w.heap.size, 0, none⟩ = some (.int .i64 num) := (bX0.ext hE2).cell 0
    have c0_1 : World.cell? w2 ⟨w.heap.size, 1, none⟩ = some (.slice q l.length cp) := (bX0.ext hE2).cell 1
    have c1_0 : World.cell? w2 ⟨w.heap.size + 1, 0, none⟩ = some (.int .u8 kind) := (bX1.ext hE2).cell 0
    have c2_0 : World.cell? w2 ⟨w.heap.size + 1 + 1, 0, none⟩ = some (.int .i64 tag) := (bX2.ext hE2).cell 0
    have c3_0 : World.cell? w2 ⟨w.heap.size + 1 + 1 + 1, 0, none⟩ = some (.int .u8 p) := (bX3.ext hE2).cell 0
    have c3_1 : World.cell? w2 ⟨w.heap.size + 1 + 1 + 1, 1, none⟩ = some (.int .i64 t) := (bX3.ext hE2).cell 1
    have c3_2 : World.cell? w2 ⟨w.heap.size + 1 + 1 + 1, 2, none⟩ = some (.int .i64 c) := (bX3.ext hE2).cell 2
    have c4_0 : World.cell? w2 ⟨w.heap.size + 1 + 1 + 1 + 1, 0, none⟩ = some (.slice a2 run.length cp2) := (bX4.ext hE2).cell 0
    have c5_0 : World.cell? w2 ⟨w.heap.size + 1 + 1 + 1 + 1 + 1, 0, none⟩ = some (.int .i64 0) := (bX5.ext hE2).cell 0
    have c5_1 : World.cell? w2 ⟨w.heap.size + 1 + 1 + 1 + 1 + 1, 1, none⟩ = some (.slice none 0 0) := (bX5.ext hE2).cell 1
    have f0 := (bX5.ext hE2).frozen 0
    have f1 := (bX5.ext hE2).frozen 1
    go_wp2
    rw [hres.out]
    refine bodyPost_ret (v := .tuple #[.agg #[.int .i64 0, .slice none 0 0], .int .u8 0, .int .i64 6]) (by simp [results, Tryd.f38, go_sem, c5_0, c5_1]) rfl ⟨_, [], rfl, OwnS.nil _ _, ?_⟩
    have hFF := hE0.trans hE2
    first | exact hFF | exact (hFF.setCell (by simp <;> omega) _).setCell (by simp <;> omega) _
  have hin2 := hin
  unfold inR33 at hin2
  dsimp only at hin2
  obtain ⟨fa, rfl⟩ : ∃ m : Nat, a = m := ⟨a.toNat, by omega⟩
  obtain ⟨fn, rfl⟩ : ∃ m : Nat, n = m := ⟨n.toNat, by omega⟩
  have hin3 : fa < l.length ∧ 1 ≤ fn ∧ fn ≤ l.length - fa := by omega
  have hsm : Hid (l.length ≤ 2 ∧ ∀ s ∈ l, s.length ≤ 600) := Hid.mk (okK_small33 hkk)
  replace hin3 := Lib.hid hin3
  clear hin hin2 hok hkk
  cases hko : kindOk kind
  · have hres := Lib.hid (tag33_arg (old := tag) (it := ⟨p, t, c⟩) h0 hko)
    have hke := Lib.hid (kindErr_no hko)
    have hkk := kind_no hko hk.out
    replace h0 := Lib.hid h0
    clear hko
    go_enter Tryd.func38, Tryd.ntmps38
    have c0_0 : World.cell? w1 ⟨w.heap.size, 0, none⟩ = some (.int .i64 num) := bX0.cell 0
    have c0_1 : World.cell? w1 ⟨w.heap.size, 1, none⟩ = some (.slice q l.length cp) := bX0.cell 1
    have c1_0 : World.cell? w1 ⟨w.heap.size + 1, 0, none⟩ = some (.int .u8 kind) := bX1.cell 0
    have c2_0 : World.cell? w1 ⟨w.heap.size + 1 + 1, 0, none⟩ = some (.int .i64 tag) := bX2.cell 0
    have c3_0 : World.cell? w1 ⟨w.heap.size + 1 + 1 + 1, 0, none⟩ = some (.int .u8 p) := bX3.cell 0
    have c3_1 : World.cell? w1 ⟨w.heap.size + 1 + 1 + 1, 1, none⟩ = some (.int .i64 t) := bX3.cell 1
    have c3_2 : World.cell? w1 ⟨w.heap.size + 1 + 1 + 1, 2, none⟩ = some (.int .i64 c) := bX3.cell 2
    have c4_0 : World.cell? w1 ⟨w.heap.size + 1 + 1 + 1 + 1, 0, none⟩ = some (.slice a2 run.length cp2) := bX4.cell 0
    have c5_0 : World.cell? w1 ⟨w.heap.size + 1 + 1 + 1 + 1 + 1, 0, none⟩ = some (.int .i64 0) := bX5.cell 0
    have c5_1 : World.cell? w1 ⟨w.heap.size + 1 + 1 + 1 + 1 + 1, 1, none⟩ = some (.slice none 0 0) := bX5.cell 1
    go_wp2_with fail
    clear c0_0 c0_1 c1_0 c2_0 c3_0 c3_1 c3_2 c4_0 c5_0 c5_1
    clear hw1
    refine (stacks_asked hL.out hV.out).mono ?_
    rintro e w2 ⟨rfl, hE2⟩
    rw [h0.out]
    have c0_0 : World.cell? w2 ⟨w.heap.size, 0, none⟩ = some (.int .i64 num) := (bX0.ext hE2).cell 0
    have c0_1 : World.cell? w2 ⟨w.heap.size, 1, none⟩ = some (.slice q l.length cp) := (bX0.ext hE2).cell 1
    have c1_0 : World.cell? w2 ⟨w.heap.size + 1, 0, none⟩ = some (.int .u8 kind) := (bX1.ext hE2).cell 0
    have c2_0 : World.cell? w2 ⟨w.heap.size + 1 + 1, 0, none⟩ = some (.int .i64 tag) := (bX2.ext hE2).cell 0
    have c3_0 : World.cell? w2 ⟨w.heap.size + 1 + 1 + 1, 0, none⟩ = some (.int .u8 p) := (bX3.ext hE2).cell 0
    have c3_1 : World.cell? w2 ⟨w.heap.size + 1 + 1 + 1, 1, none⟩ = some (.int .i64 t) := (bX3.ext hE2).cell 1
    have c3_2 : World.cell? w2 ⟨w.heap.size + 1 + 1 + 1, 2, none⟩ = some (.int .i64 c) := (bX3.ext hE2).cell 2
    have c4_0 : World.cell? w2 ⟨w.heap.size + 1 + 1 + 1 + 1, 0, none⟩ = some (.slice a2 run.length cp2) := (bX4.ext hE2).cell 0
    have c5_0 : World.cell? w2 ⟨w.heap.size + 1 + 1 + 1 + 1 + 1, 0, none⟩ = some (.int .i64 0) := (bX5.ext hE2).cell 0
    have c5_1 : World.cell? w2 ⟨w.heap.size + 1 + 1 + 1 + 1 + 1, 1, none⟩ = some (.slice none 0 0) := (bX5.ext hE2).cell 1
    have f0 := (bX5.ext hE2).frozen 0
    have f1 := (bX5.ext hE2).frozen 1
    go_wp2_with fail
    refine (grant_Check _ hk.out).mono ?_
    rintro e w3 ⟨rfl, rfl⟩
    rw [hke.out]
    go_wp2
    rw [hres.out]
    refine bodyPost_ret (v := .tuple #[.agg #[.int .i64 0, .slice none 0 0], .int .u8 0, .int .i64 2]) (by simp [results, Tryd.f38, go_sem, c5_0, c5_1]) rfl ⟨_, [], rfl, OwnS.nil _ _, ?_⟩
    have hFF := hE0.trans hE2
    first | exact hFF | exact (hFF.setCell (by simp <;> omega) _).setCell (by simp <;> omega) _
  have hres := Lib.hid (tag33_ok (old := tag) (it := ⟨p, t, c⟩) h0 hko)
  have hke := Lib.hid (kindErr_yes hko)
  have hof := Lib.hid (oneR_funK tag ⟨p, t, c⟩ run hko)
  have hk4 : 1 ≤ kind ∧ kind ≤ 4 := by rcases kind_yes hko with rfl | rfl | rfl | rfl <;> omega
  have g1 : decide (kind < 1) = false := decide_eq_false (by omega)
  have g2 : decide (4 < kind) = false := decide_eq_false (by omega)
  clear hko hk4
  replace h0 := Lib.hid h0
  obtain ⟨⟨⟨yn, yl⟩, u, e3⟩, hy⟩ : ∃ z, eachR (fun l => tagR l kind tag ⟨p, t, c⟩ run) ⟨num, l⟩ fa fn = z := ⟨_, rfl⟩
  replace hy := Lib.hid hy
  go_enter Tryd.func38, Tryd.ntmps38
  have c0_0 : World.cell? w1 ⟨w.heap.size, 0, none⟩ = some (.int .i64 num) := bX0.cell 0
  have c0_1 : World.cell? w1 ⟨w.heap.size, 1, none⟩ = some (.slice q l.length cp) := bX0.cell 1
  have c1_0 : World.cell? w1 ⟨w.heap.size + 1, 0, none⟩ = some (.int .u8 kind) := bX1.cell 0
  have c2_0 : World.cell? w1 ⟨w.heap.size + 1 + 1, 0, none⟩ = some (.int .i64 tag) := bX2.cell 0
  have c3_0 : World.cell? w1 ⟨w.heap.size + 1 + 1 + 1, 0, none⟩ = some (.int .u8 p) := bX3.cell 0
  have c3_1 : World.cell? w1 ⟨w.heap.size + 1 + 1 + 1, 1, none⟩ = some (.int .i64 t) := bX3.cell 1
  have c3_2 : World.cell? w1 ⟨w.heap.size + 1 + 1 + 1, 2, none⟩ = some (.int .i64 c) := bX3.cell 2
  have c4_0 : World.cell? w1 ⟨w.heap.size + 1 + 1 + 1 + 1, 0, none⟩ = some (.slice a2 run.length cp2) := bX4.cell 0
  have c5_0 : World.cell? w1 ⟨w.heap.size + 1 + 1 + 1 + 1 + 1, 0, none⟩ = some (.int .i64 0) := bX5.cell 0
  have c5_1 : World.cell? w1 ⟨w.heap.size + 1 + 1 + 1 + 1 + 1, 1, none⟩ = some (.slice none 0 0) := bX5.cell 1
  go_wp2_with fail
  clear c0_0 c0_1 c1_0 c2_0 c3_0 c3_1 c3_2 c4_0 c5_0 c5_1
  clear hw1
  refine (stacks_asked hL.out hV.out).mono ?_
  rintro e w2 ⟨rfl, hE2⟩
  rw [h0.out]
  have c0_0 : World.cell? w2 ⟨w.heap.size, 0, none⟩ = some (.int .i64 num) := (bX0.ext hE2).cell 0
  have c0_1 : World.cell? w2 ⟨w.heap.size, 1, none⟩ = some (.slice q l.length cp) := (bX0.ext hE2).cell 1
  have c1_0 : World.cell? w2 ⟨w.heap.size + 1, 0, none⟩ = some (.int .u8 kind) := (bX1.ext hE2).cell 0
  have c2_0 : World.cell? w2 ⟨w.heap.size + 1 + 1, 0, none⟩ = some (.int .i64 tag) := (bX2.ext hE2).cell 0
  have c3_0 : World.cell? w2 ⟨w.heap.size + 1 + 1 + 1, 0, none⟩ = some (.int .u8 p) := (bX3.ext hE2).cell 0
  have c3_1 : World.cell? w2 ⟨w.heap.size + 1 + 1 + 1, 1, none⟩ = some (.int .i64 t) := (bX3.ext hE2).cell 1
  have c3_2 : World.cell? w2 ⟨w.heap.size + 1 + 1 + 1, 2, none⟩ = some (.int .i64 c) := (bX3.ext hE2).cell 2
  have c4_0 : World.cell? w2 ⟨w.heap.size + 1 + 1 + 1 + 1, 0, none⟩ = some (.slice a2 run.length cp2) := (bX4.ext hE2).cell 0
  have c5_0 : World.cell? w2 ⟨w.heap.size + 1 + 1 + 1 + 1 + 1, 0, none⟩ = some (.int .i64 0) := (bX5.ext hE2).cell 0
  have c5_1 : World.cell? w2 ⟨w.heap.size + 1 + 1 + 1 + 1 + 1, 1, none⟩ = some (.slice none 0 0) := (bX5.ext hE2).cell 1
  have f0 := (bX5.ext hE2).frozen 0
  have f1 := (bX5.ext hE2).frozen 1
  go_wp2_with fail
  refine (grant_Check _ hk.out).mono ?_
  rintro e w3 ⟨rfl, rfl⟩
  rw [hke.out]
  go_wp2_with fail
  refine (stacks_each callFunc_retag33 (stacks_retag1 hk.out tag p t c (w.heap.size + 1) (w.heap.size + 1 + 1) (w.heap.size + 1 + 1 + 1) (w.heap.size + 1 + 1 + 1 + 1) _ (hP.out.ext hE2) c1_0 c2_0 c3_0 c3_1 c3_2 c4_0 (hV.out.ext hE2)) hsm.out hin3.out (hL.out.ext hE2)).mono ?_
  rintro e w4 ⟨v4, vs4, rfl, h4, hE4⟩
  rw [hy.out] at h4 ⊢
  dsimp only at h4 ⊢
  clear c0_0 c0_1 c1_0 c2_0 c3_0 c3_1 c3_2 c4_0 c5_0 c5_1 f0 f1
  obtain ⟨a4, k4, rfl, -⟩ := h4.sts.form
  replace h4 := Lib.hid h4
  have c0 : World.cell? w4 ⟨w.heap.size + 1 + 1 + 1 + 1 + 1, 0, none⟩ = some (.int .i64 0) := ((bX5.ext hE2).ext hE4).cell 0
  have c1 : World.cell? w4 ⟨w.heap.size + 1 + 1 + 1 + 1 + 1, 1, none⟩ = some (.slice none 0 0) := ((bX5.ext hE2).ext hE4).cell 1
  have f0 := ((bX5.ext hE2).ext hE4).frozen 0
  have f1 := ((bX5.ext hE2).ext hE4).frozen 1
  have hlt := bX5.lt
  have hsz2 := hE2.size
  go_wp2
  rw [hres.out, hy.out]
  have hY := ((ExtBut.setCell w4 ⟨w.heap.size + 1 + 1 + 1 + 1 + 1, 0, none⟩ (.int .i64 yn)).mono (S' := fun b => b = w.heap.size + 1 + 1 + 1 + 1 + 1) (fun x _ h => h)).trans ((ExtBut.setCell _ ⟨w.heap.size + 1 + 1 + 1 + 1 + 1, 1, none⟩ (.slice a4 yl.length k4)).mono (S' := fun b => b = w.heap.size + 1 + 1 + 1 + 1 + 1) (fun x _ h => h))
  refine bodyPost_ret (v := .tuple #[.agg #[.int .i64 yn, .slice a4 yl.length k4], .int .u8 u, .int .i64 e3]) (by simp [results, Tryd.f38, go_sem, c0, c1]) rfl ⟨_, vs4, rfl, OwnS.mono (B := w2.heap.size) (B' := w.heap.size) (OwnS.but h4.out hY (fun g e h => by omega)) (by omega), ExtBut.ext ((hE0.trans hE2).trans hE4) hY (fun x h => by omega)⟩


end Go.Proofs.YtjfkfibhgilolaaDoor

/- The chapter's example of layer 34. (printed by gen/dea34b.py) -/
namespace Go.Proofs.YtjfkfibhgilolaaDoor
set_option maxRecDepth 100000
open Go.RowKit

theorem greatK_smallE {l : List (List Item)} (h : greatK l = false) : l.length ≤ 1000000 ∧ ∀ x ∈ l, x.length ≤ 1000000 := by
  unfold greatK at h
  rw [Bool.or_eq_false_iff, decide_eq_false_iff_not] at h
  refine ⟨by omega, fun x hx => ?_⟩
  have := List.any_eq_false.1 h.1 x (by rw [List.take_of_length_le (by omega)]; exact hx)
  simp [wideS] at this
  omega

theorem alive34_data : ∃ (X Y : List (List Item)), newK 1 2 1 = (⟨1, X⟩, 0) ∧ tag33 ⟨1, X⟩ 0 2 1 1 ⟨0, 2, 5⟩ [] = (⟨1, Y⟩, 0, 0) ∧ endR34 ⟨1, X⟩ [5] = (0, 0) ∧ endR34 ⟨1, Y⟩ [4, 5] = (2, 0) ∧ endR34 ⟨1, Y⟩ [4, 6] = (0, 0) :=
  ⟨[[⟨1, 1, 0⟩], [⟨1, 1, 0⟩]], [[⟨1, 1, 0⟩, ⟨4, 2, 5⟩], [⟨1, 1, 0⟩, ⟨4, 2, 5⟩]], by decide +kernel⟩

set_option maxRecDepth 100000 in
set_option maxHeartbeats 1600000 in
theorem law34_may_yes {l : List (List Item)} {run : List Int} {num want : Int} {s v : Value} {w : World} (hl : Sts w s l) (hr : Nts w v run) (hE : endR34 ⟨num, l⟩ run = (want, 0)) :
    Calls Tryd.prog 51 #[.agg #[.int .i64 num, s], v, .int .u8 want] w fun e w' => e = .returned (.bool true) ∧ Ext w w' := by
  have hF := (Ext.refl w).alloc (.cells #[.int .i64 num, s] 56)
  have hL : Sts _ s l := hl.ext hF
  have hR : Nts _ v run := hr.ext hF
  have hq := Lib.hid hE
  obtain ⟨a, cp, rfl, -⟩ := hl.form
  obtain ⟨a2, cp2, rfl, -⟩ := hr.form
  clear hl hr hE
  go_enter Tryd.func51, Tryd.ntmps51
  go_wp2_with fail
  refine (dealloc_End hL hR).mono ?_
  rintro e w1 ⟨rfl, hE1⟩
  rw [hq.out]
  go_wp2
  go_ret
  exact ⟨rfl, hF.trans hE1⟩

set_option maxRecDepth 100000 in
set_option maxHeartbeats 6400000 in
theorem law34_alive {w : World} (hp : Perms w) : Calls Tryd.prog 45 #[] w fun e w' => e = .returned (.bool true) ∧ Ext w w' := by
  obtain ⟨X, Y, e1, e2, e3, e4, e5⟩ := alive34_data
  replace e1 := Lib.hid e1
  replace e2 := Lib.hid e2
  replace e3 := Lib.hid e3
  replace e4 := Lib.hid e4
  replace e5 := Lib.hid e5
  go_enter Tryd.func45, Tryd.ntmps45
  go_wp2_with fail
  refine (stacks_New 1 2 1 _).mono ?_
  rintro e w1 ⟨vh1, vsh1, rfl, oh1, hZ0⟩
  have hE0 : Ext w w1 := Ext.trans (by repeat (first | exact Ext.refl _ | apply Ext.alloc | apply Ext.drew)) hZ0
  replace hp := hp.ext hE0
  have hF0 := Ext.trans (Ext.refl w) hE0
  rw [e1.out] at oh1 ⊢
  dsimp only at oh1 ⊢
  have h1 : Sts _ _ X := oh1.sts
  obtain ⟨ah1, ch1, rfl, -⟩ := h1.form
  clear oh1
  go_wp2_with fail
  have bh1 := Box.new w1 56 #[.int .i64 1, .slice ah1 X.length ch1]
  have hsz : Hid ((World.alloc w1 (.cells #[.int .i64 1, .slice ah1 X.length ch1] 56)).heap.size = w1.heap.size + 1) := Hid.mk (by simp)
  have hx1 : Ext w1 (World.alloc w1 (.cells #[.int .i64 1, .slice ah1 X.length ch1] 56)) := (Ext.refl _).alloc _
  obtain ⟨w1b, hw1⟩ : ∃ x, World.alloc w1 (.cells #[.int .i64 1, .slice ah1 X.length ch1] 56) = x := ⟨_, rfl⟩
  rw [hw1] at hsz bh1 hx1 ⊢
  clear hw1
  replace hp := hp.ext hx1
  replace h1 := h1.ext hx1
  have hF1 := Ext.trans (hF0) hx1
  refine (stacks_Retag (run := []) (hp.ext (by repeat (first | exact Ext.refl _ | apply Ext.alloc | apply Ext.drew))) ⟨by decide, by decide⟩ 1 ⟨0, 2, 5⟩ (h1.ext (by repeat (first | exact Ext.refl _ | apply Ext.alloc | apply Ext.drew))) (by (repeat (first | exact Nts.nil _ | exact Nts.litl _ _ _ _ _ (by first | (simp; done) | exact hsz.out | (have := hsz.out; simp; omega)) rfl (by simp [maxLen]) rfl | refine Nts.ext ?_ (Ext.refl _).drew | refine Nts.ext ?_ ((Ext.refl _).alloc _) | refine Nts.ext ?_ (by assumption))))).mono ?_
  rintro e w3 ⟨vh2, vsh2, rfl, oh2, hZ2⟩
  have hE2 : Ext w1b w3 := Ext.trans (by repeat (first | exact Ext.refl _ | apply Ext.alloc | apply Ext.drew)) hZ2
  replace hp := hp.ext hE2
  replace h1 := h1.ext hE2
  replace bh1 := bh1.ext hE2
  have hF2 := Ext.trans (hF1) hE2
  rw [e2.out] at oh2 ⊢
  dsimp only at oh2 ⊢
  have h2 : Sts _ _ Y := oh2.sts
  obtain ⟨ah2, ch2, rfl, -⟩ := h2.form
  clear oh2
  have bh1_0 : World.cell? w3 ⟨w1.heap.size, 0, none⟩ = some (.int .i64 1) := bh1.cell 0
  have bh1_1 : World.cell? w3 ⟨w1.heap.size, 1, none⟩ = some (.slice ah1 X.length ch1) := bh1.cell 1
  have bh1_l := bh1.lt
  go_wp2_with fail
  clear bh1_0 bh1_1 bh1_l
  have bh2 := Box.new w3 56 #[.int .i64 1, .slice ah2 Y.length ch2]
  have hsz : Hid ((World.alloc w3 (.cells #[.int .i64 1, .slice ah2 Y.length ch2] 56)).heap.size = w3.heap.size + 1) := Hid.mk (by simp)
  have hx3 : Ext w3 (World.alloc w3 (.cells #[.int .i64 1, .slice ah2 Y.length ch2] 56)) := (Ext.refl _).alloc _
  obtain ⟨w3b, hw3⟩ : ∃ x, World.alloc w3 (.cells #[.int .i64 1, .slice ah2 Y.length ch2] 56) = x := ⟨_, rfl⟩
  rw [hw3] at hsz bh2 hx3 ⊢
  clear hw3
  replace hp := hp.ext hx3
  replace h1 := h1.ext hx3
  replace bh1 := bh1.ext hx3
  replace h2 := h2.ext hx3
  have hF3 := Ext.trans (hF2) hx3
  refine (law34_may_yes (run := [5]) (h1.ext (by repeat (first | exact Ext.refl _ | apply Ext.alloc | apply Ext.drew))) (by (repeat (first | exact Nts.nil _ | exact Nts.litl _ _ _ _ _ (by first | (simp; done) | exact hsz.out | (have := hsz.out; simp; omega)) rfl (by simp [maxLen]) rfl | refine Nts.ext ?_ (Ext.refl _).drew | refine Nts.ext ?_ ((Ext.refl _).alloc _) | refine Nts.ext ?_ (by assumption)))) e3.out).mono ?_
  rintro e w5 ⟨rfl, hZ4⟩
  have hE4 : Ext w3b w5 := Ext.trans (by repeat (first | exact Ext.refl _ | apply Ext.alloc | apply Ext.drew)) hZ4
  replace hp := hp.ext hE4
  replace h1 := h1.ext hE4
  replace bh1 := bh1.ext hE4
  replace h2 := h2.ext hE4
  replace bh2 := bh2.ext hE4
  have hF4 := Ext.trans (hF3) hE4
  have bh1_0 : World.cell? w5 ⟨w1.heap.size, 0, none⟩ = some (.int .i64 1) := bh1.cell 0
  have bh1_1 : World.cell? w5 ⟨w1.heap.size, 1, none⟩ = some (.slice ah1 X.length ch1) := bh1.cell 1
  have bh1_l := bh1.lt
  have bh2_0 : World.cell? w5 ⟨w3.heap.size, 0, none⟩ = some (.int .i64 1) := bh2.cell 0
  have bh2_1 : World.cell? w5 ⟨w3.heap.size, 1, none⟩ = some (.slice ah2 Y.length ch2) := bh2.cell 1
  have bh2_l := bh2.lt
  go_wp2_with fail
  clear bh1_0 bh1_1 bh1_l
  clear bh2_0 bh2_1 bh2_l
  refine (law34_may_yes (run := [4, 5]) (h2.ext (by repeat (first | exact Ext.refl _ | apply Ext.alloc | apply Ext.drew))) (by (repeat (first | exact Nts.nil _ | exact Nts.litl _ _ _ _ _ (by first | (simp; done) | exact hsz.out | (have := hsz.out; simp; omega)) rfl (by simp [maxLen]) rfl | refine Nts.ext ?_ (Ext.refl _).drew | refine Nts.ext ?_ ((Ext.refl _).alloc _) | refine Nts.ext ?_ (by assumption)))) e4.out).mono ?_
  rintro e w6 ⟨rfl, hZ5⟩
  have hE5 : Ext w5 w6 := Ext.trans (by repeat (first | exact Ext.refl _ | apply Ext.alloc | apply Ext.drew)) hZ5
  replace hp := hp.ext hE5
  replace h1 := h1.ext hE5
  replace bh1 := bh1.ext hE5
  replace h2 := h2.ext hE5
  replace bh2 := bh2.ext hE5
  have hF5 := Ext.trans (hF4) hE5
  have bh1_0 : World.cell? w6 ⟨w1.heap.size, 0, none⟩ = some (.int .i64 1) := bh1.cell 0
  have bh1_1 : World.cell? w6 ⟨w1.heap.size, 1, none⟩ = some (.slice ah1 X.length ch1) := bh1.cell 1
  have bh1_l := bh1.lt
  have bh2_0 : World.cell? w6 ⟨w3.heap.size, 0, none⟩ = some (.int .i64 1) := bh2.cell 0
  have bh2_1 : World.cell? w6 ⟨w3.heap.size, 1, none⟩ = some (.slice ah2 Y.length ch2) := bh2.cell 1
  have bh2_l := bh2.lt
  go_wp2_with fail
  clear bh1_0 bh1_1 bh1_l
  clear bh2_0 bh2_1 bh2_l
  refine (law34_may_yes (run := [4, 6]) (h2.ext (by repeat (first | exact Ext.refl _ | apply Ext.alloc | apply Ext.drew))) (by (repeat (first | exact Nts.nil _ | exact Nts.litl _ _ _ _ _ (by first | (simp; done) | exact hsz.out | (have := hsz.out; simp; omega)) rfl (by simp [maxLen]) rfl | refine Nts.ext ?_ (Ext.refl _).drew | refine Nts.ext ?_ ((Ext.refl _).alloc _) | refine Nts.ext ?_ (by assumption)))) e5.out).mono ?_
  rintro e w7 ⟨rfl, hZ6⟩
  have hE6 : Ext w6 w7 := Ext.trans (by repeat (first | exact Ext.refl _ | apply Ext.alloc | apply Ext.drew)) hZ6
  replace hp := hp.ext hE6
  replace h1 := h1.ext hE6
  replace bh1 := bh1.ext hE6
  replace h2 := h2.ext hE6
  replace bh2 := bh2.ext hE6
  have hF6 := Ext.trans (hF5) hE6
  have bh1_0 : World.cell? w7 ⟨w1.heap.size, 0, none⟩ = some (.int .i64 1) := bh1.cell 0
  have bh1_1 : World.cell? w7 ⟨w1.heap.size, 1, none⟩ = some (.slice ah1 X.length ch1) := bh1.cell 1
  have bh1_l := bh1.lt
  have bh2_0 : World.cell? w7 ⟨w3.heap.size, 0, none⟩ = some (.int .i64 1) := bh2.cell 0
  have bh2_1 : World.cell? w7 ⟨w3.heap.size, 1, none⟩ = some (.slice ah2 Y.length ch2) := bh2.cell 1
  have bh2_l := bh2.lt
  go_wp2
  go_ret
  exact ⟨rfl, hF6⟩

end Go.Proofs.YtjfkfibhgilolaaDoor

/- Contracts: use and one of the statements of layer 33. (printed by gen/law33b.py) -/
namespace Go.Proofs.YtjfkfibhgilolaaDoor
set_option maxRecDepth 100000
open Go.RowKit

def useA (x : Stk) (what a n tag : Int) (run : List Int) : Stk × Int × Int := if what = 0 then use33 x a n tag false run else if what = 5 then use33 x a n tag true run else tag33 x a n what tag ⟨0, 9, 0⟩ run
def oneA (what tag : Int) (run : List Int) (l : List Item) : List Item × Int × Int := if what = 0 then useR l tag false run else if what = 5 then useR l tag true run else tagR l what tag ⟨0, 9, 0⟩ run
theorem useA_read {x : Stk} {a n tag : Int} {run : List Int} : useA x 0 a n tag run = use33 x a n tag false run := rfl
theorem useA_write {x : Stk} {a n tag : Int} {run : List Int} : useA x 5 a n tag run = use33 x a n tag true run := rfl
theorem useA_tag {x : Stk} {what a n tag : Int} {run : List Int} (h0 : what ≠ 0) (h5 : what ≠ 5) : useA x what a n tag run = tag33 x a n what tag ⟨0, 9, 0⟩ run := by rw [useA, if_neg h0, if_neg h5]
theorem oneA_read {l : List Item} {tag : Int} {run : List Int} : oneA 0 tag run l = useR l tag false run := rfl
theorem oneA_write {l : List Item} {tag : Int} {run : List Int} : oneA 5 tag run l = useR l tag true run := rfl
theorem oneA_tag {l : List Item} {what tag : Int} {run : List Int} (h0 : what ≠ 0) (h5 : what ≠ 5) : oneA what tag run l = tagR l what tag ⟨0, 9, 0⟩ run := by rw [oneA, if_neg h0, if_neg h5]

set_option maxHeartbeats 800000 in
theorem law33_one {l : List Item} {run : List Int} {what : Int} {v r : Value} {w : World} (hp : Perms w) (hk : u8B what) (tag : Int) (hl : Its w v l) (hr : Nts w r run) :
    Calls Tryd.prog 44 #[v, .int .u8 what, .int .i64 tag, r] w (RetSO w (oneA what tag run l).1 (oneA what tag run l).2.1 (oneA what tag run l).2.2) := by
  have hL := Lib.hid hl
  have hR := Lib.hid hr
  replace hp := Lib.hid hp
  obtain ⟨a, cp, rfl, -⟩ := hl.form
  obtain ⟨a3, cp3, rfl, -⟩ := hr.form
  clear hl hr
  by_cases h0 : what = 0
  · subst h0
    rw [oneA_read]
    go_enter Tryd.func44, Tryd.ntmps44
    go_wp2_with fail
    refine (guard_ReadO tag hL.out hR.out).mono ?_
    rintro e w2 ⟨v2, rfl, hv2, hE2⟩
    obtain ⟨b3, d3, rfl, -⟩ := hv2.its.form
    go_wp2
    refine bodyPost_ret (results_tmp3 rfl _ _ _) rfl ?_
    exact ⟨_, rfl, hv2, hE2⟩
  by_cases h5 : what = 5
  · subst h5
    rw [oneA_write]
    go_enter Tryd.func44, Tryd.ntmps44
    go_wp2_with fail
    refine (guard_WriteO tag hL.out hR.out).mono ?_
    rintro e w2 ⟨v2, rfl, hv2, hE2⟩
    obtain ⟨b3, d3, rfl, -⟩ := hv2.its.form
    go_wp2
    refine bodyPost_ret (results_tmp3 rfl _ _ _) rfl ?_
    exact ⟨_, rfl, hv2, hE2⟩
  · have k0 : (what == 0) = false := by simp [h0]
    have k5 : (what == 5) = false := by simp [h5]
    rw [oneA_tag h0 h5]
    replace hk := Lib.hid hk
    clear h0 h5
    go_enter Tryd.func44, Tryd.ntmps44
    go_wp2_with fail
    refine (guard_RetagO hp.out hk.out tag ⟨0, 9, 0⟩ hL.out hR.out).mono ?_
    rintro e w2 ⟨v2, rfl, hv2, hE2⟩
    obtain ⟨b3, d3, rfl, -⟩ := hv2.its.form
    go_wp2
    refine bodyPost_ret (results_tmp3 rfl _ _ _) rfl ?_
    exact ⟨_, rfl, hv2, hE2⟩

set_option maxHeartbeats 1600000 in
theorem law33_use {l : List (List Item)} {num what a n : Int} {run : List Int} {s v : Value} {w : World} (hp : Perms w) (hk : u8B what) (tag : Int) (hl : Sts w s l) (hr : Nts w v run) :
    Calls Tryd.prog 43 #[.agg #[.int .i64 num, s], .int .u8 what, .int .i64 a, .int .i64 n, .int .i64 tag, v] w (RetKW w (useA ⟨num, l⟩ what a n tag run).1 (useA ⟨num, l⟩ what a n tag run).2.1 (useA ⟨num, l⟩ what a n tag run).2.2) := by
  obtain ⟨q, cp, rfl, -⟩ := hl.form
  obtain ⟨a2, cp2, rfl, -⟩ := hr.form
  have hE0 : Ext w (World.alloc (World.alloc w (.cells #[.int .i64 num, .slice q l.length cp] 56)) (.cells #[.int .i64 0, .slice none 0 0] 56)) := ((Ext.refl w).alloc _).alloc _
  have bX := (Box.new w 56 #[.int .i64 num, .slice q l.length cp]).ext ((Ext.refl _).alloc (.cells #[.int .i64 0, .slice none 0 0] 56))
  have bR := Box.new (World.alloc w (.cells #[.int .i64 num, .slice q l.length cp] 56)) 56 #[.int .i64 0, .slice none 0 0]
  simp only [World.size_alloc] at bR
  have hL := Lib.hid (hl.ext hE0)
  have hV := Lib.hid (hr.ext hE0)
  have hP := Lib.hid (hp.ext hE0)
  clear hl hr hp
  replace hk := Lib.hid hk
  obtain ⟨w1, hw1⟩ : ∃ z, (World.alloc (World.alloc w (.cells #[.int .i64 num, .slice q l.length cp] 56)) (.cells #[.int .i64 0, .slice none 0 0] 56)) = z := ⟨_, rfl⟩
  rw [hw1] at hE0 hL hV hP bX bR
  have x0 : World.cell? w1 ⟨w.heap.size, 0, none⟩ = some (.int .i64 num) := bX.cell 0
  have x1 : World.cell? w1 ⟨w.heap.size, 1, none⟩ = some (.slice q l.length cp) := bX.cell 1
  by_cases h0 : what = 0
  · subst h0
    rw [useA_read]
    obtain ⟨⟨⟨yn, yl⟩, u, e3⟩, hy⟩ : ∃ z, use33 ⟨num, l⟩ a n tag false run = z := ⟨_, rfl⟩
    replace hy := Lib.hid hy
    go_enter Tryd.func43, Tryd.ntmps43
    go_wp2_with fail
    clear hw1 x0 x1
    refine (stacks_Read tag hL.out hV.out).mono ?_
    rintro e w4 ⟨v4, vs4, rfl, h4, hE4⟩
    rw [hy.out] at h4 ⊢
    dsimp only at h4 ⊢
    obtain ⟨a4, k4, rfl, -⟩ := h4.sts.form
    replace h4 := Lib.hid h4
    have c0 : World.cell? w4 ⟨w.heap.size + 1, 0, none⟩ = some (.int .i64 0) := (bR.ext hE4).cell 0
    have c1 : World.cell? w4 ⟨w.heap.size + 1, 1, none⟩ = some (.slice none 0 0) := (bR.ext hE4).cell 1
    have f0 := (bR.ext hE4).frozen 0
    have f1 := (bR.ext hE4).frozen 1
    have hlt := bR.lt
    go_wp2
    rw [hy.out]
    have hY := ((ExtBut.setCell w4 ⟨w.heap.size + 1, 0, none⟩ (.int .i64 yn)).mono (S' := fun b => b = w.heap.size + 1) (fun x _ h => h)).trans ((ExtBut.setCell _ ⟨w.heap.size + 1, 1, none⟩ (.slice a4 yl.length k4)).mono (S' := fun b => b = w.heap.size + 1) (fun x _ h => h))
    refine bodyPost_ret (v := .tuple #[.agg #[.int .i64 yn, .slice a4 yl.length k4], .int .u8 u, .int .i64 e3]) (by simp [results, Tryd.f43, go_sem, c0, c1]) rfl ⟨_, vs4, rfl, OwnS.mono (B := w1.heap.size) (B' := w.heap.size) (OwnS.but h4.out hY (fun g e h => by omega)) (by omega), ExtBut.ext (hE0.trans hE4) hY (fun x h => by omega)⟩
  by_cases h5 : what = 5
  · subst h5
    rw [useA_write]
    obtain ⟨⟨⟨yn, yl⟩, u, e3⟩, hy⟩ : ∃ z, use33 ⟨num, l⟩ a n tag true run = z := ⟨_, rfl⟩
    replace hy := Lib.hid hy
    go_enter Tryd.func43, Tryd.ntmps43
    go_wp2_with fail
    clear hw1 x0 x1
    refine (stacks_Write tag hL.out hV.out).mono ?_
    rintro e w4 ⟨v4, vs4, rfl, h4, hE4⟩
    rw [hy.out] at h4 ⊢
    dsimp only at h4 ⊢
    obtain ⟨a4, k4, rfl, -⟩ := h4.sts.form
    replace h4 := Lib.hid h4
    have c0 : World.cell? w4 ⟨w.heap.size + 1, 0, none⟩ = some (.int .i64 0) := (bR.ext hE4).cell 0
    have c1 : World.cell? w4 ⟨w.heap.size + 1, 1, none⟩ = some (.slice none 0 0) := (bR.ext hE4).cell 1
    have f0 := (bR.ext hE4).frozen 0
    have f1 := (bR.ext hE4).frozen 1
    have hlt := bR.lt
    go_wp2
    rw [hy.out]
    have hY := ((ExtBut.setCell w4 ⟨w.heap.size + 1, 0, none⟩ (.int .i64 yn)).mono (S' := fun b => b = w.heap.size + 1) (fun x _ h => h)).trans ((ExtBut.setCell _ ⟨w.heap.size + 1, 1, none⟩ (.slice a4 yl.length k4)).mono (S' := fun b => b = w.heap.size + 1) (fun x _ h => h))
    refine bodyPost_ret (v := .tuple #[.agg #[.int .i64 yn, .slice a4 yl.length k4], .int .u8 u, .int .i64 e3]) (by simp [results, Tryd.f43, go_sem, c0, c1]) rfl ⟨_, vs4, rfl, OwnS.mono (B := w1.heap.size) (B' := w.heap.size) (OwnS.but h4.out hY (fun g e h => by omega)) (by omega), ExtBut.ext (hE0.trans hE4) hY (fun x h => by omega)⟩
  · have k0 : (what == 0) = false := by simp [h0]
    have k5 : (what == 5) = false := by simp [h5]
    rw [useA_tag h0 h5]
    clear h0 h5
    obtain ⟨⟨⟨yn, yl⟩, u, e3⟩, hy⟩ : ∃ z, tag33 ⟨num, l⟩ a n what tag ⟨0, 9, 0⟩ run = z := ⟨_, rfl⟩
    replace hy := Lib.hid hy
    go_enter Tryd.func43, Tryd.ntmps43
    go_wp2_with fail
    clear hw1 x0 x1
    refine (stacks_Retag hP.out hk.out tag ⟨0, 9, 0⟩ hL.out hV.out).mono ?_
    rintro e w4 ⟨v4, vs4, rfl, h4, hE4⟩
    rw [hy.out] at h4 ⊢
    dsimp only at h4 ⊢
    obtain ⟨a4, k4, rfl, -⟩ := h4.sts.form
    replace h4 := Lib.hid h4
    have c0 : World.cell? w4 ⟨w.heap.size + 1, 0, none⟩ = some (.int .i64 0) := (bR.ext hE4).cell 0
    have c1 : World.cell? w4 ⟨w.heap.size + 1, 1, none⟩ = some (.slice none 0 0) := (bR.ext hE4).cell 1
    have f0 := (bR.ext hE4).frozen 0
    have f1 := (bR.ext hE4).frozen 1
    have hlt := bR.lt
    go_wp2
    rw [hy.out]
    have hY := ((ExtBut.setCell w4 ⟨w.heap.size + 1, 0, none⟩ (.int .i64 yn)).mono (S' := fun b => b = w.heap.size + 1) (fun x _ h => h)).trans ((ExtBut.setCell _ ⟨w.heap.size + 1, 1, none⟩ (.slice a4 yl.length k4)).mono (S' := fun b => b = w.heap.size + 1) (fun x _ h => h))
    refine bodyPost_ret (v := .tuple #[.agg #[.int .i64 yn, .slice a4 yl.length k4], .int .u8 u, .int .i64 e3]) (by simp [results, Tryd.f43, go_sem, c0, c1]) rfl ⟨_, vs4, rfl, OwnS.mono (B := w1.heap.size) (B' := w.heap.size) (OwnS.but h4.out hY (fun g e h => by omega)) (by omega), ExtBut.ext (hE0.trans hE4) hY (fun x h => by omega)⟩

end Go.Proofs.YtjfkfibhgilolaaDoor
