/- Contracts: use and one of the statements of layer 33. (printed by gen/law33b.py) -/
import Derived.Test.YtjfkfibhgilolaaDoorStkI
namespace Go.Proofs.YtjfkfibhgilolaaDoor
set_option maxRecDepth 100000
open Go.RowKit

def useA (x : Stk) (what a n tag : Int) (run : List Int) : Stk × Int × Int := if what = 0 then use33 x a n tag false run else if what = 5 then use33 x a n tag true run else tag33 x a n what tag ⟨0, 9, 0⟩ run
def oneA (what tag : Int) (run : List Int) (l : List Item) : List Item × Int × Int := if what = 0 then useR l tag false run else if what = 5 then useR l tag true run else tagR l what tag ⟨0, 9, 0⟩ run
theorem useA_read {x : Stk} {a n tag : Int} {run : List Int} : useA x 0 a n tag run = use33 x a n tag false run := rfl
theorem useA_write {x : Stk} {a n tag : Int} {run : List Int} : useA x 5 a n tag run = use33 x a n tag true run := rfl
theorem useA_tag {x : Stk} {what a n tag : Int} {run : List Int} (h0 : what ≠ 0) (h5 : what ≠ 5) : useA x what a n tag run = tag33 x a n what tag ⟨0, 9, 0⟩ run := by rw [useA, if_neg h0, if_neg h5]
theorem oneA_read {l : List Item} {tag : Int} {run : List Int} : oneA 0 tag run l = useR l tag false run := rfl
theorem oneA_write {l : List Item} {tag : Int} {run : List Int} : oneA 5 tag run l = useR l tag true run := rfl
theorem oneA_tag {l : List Item} {what tag : Int} {run : List Int} (h0 : what ≠ 0) (h5 : what ≠ 5) : oneA what tag run l = tagR l what tag ⟨0, 9, 0⟩ run := by rw [oneA, if_neg h0, if_neg h5]

set_option maxHeartbeats 800000 in
theorem law33_one {l : List Item} {run : List Int} {what : Int} {v r : Value} {w : World} (hp : Perms w) (hk : u8B what) (tag : Int) (hl : Its w v l) (hr : Nts w r run) :
    Calls Tryd.prog 44 #[v, .int .u8 what, .int .i64 tag, r] w (RetSO w (oneA what tag run l).1 (oneA what tag run l).2.1 (oneA what tag run l).2.2) := by
  have hL := Lib.hid hl
  have hR := Lib.hid hr
  replace hp := Lib.hid hp
  obtain ⟨a, cp, rfl, -⟩ := hl.form
  obtain ⟨a3, cp3, rfl, -⟩ := hr.form
  clear hl hr
  by_cases h0 : what = 0
  · subst h0
    rw [oneA_read]
    go_enter Tryd.func44, Tryd.ntmps44
    go_wp2_with fail
    refine (guard_ReadO tag hL.out hR.out).mono ?_
    rintro e w2 ⟨v2, rfl, hv2, hE2⟩
    obtain ⟨b3, d3, rfl, -⟩ := hv2.its.form
    go_wp2
    refine bodyPost_ret (results_tmp3 rfl _ _ _) rfl ?_
    exact ⟨_, rfl, hv2, hE2⟩
  by_cases h5 : what = 5
  · subst h5
    rw [oneA_write]
    go_enter Tryd.func44, Tryd.ntmps44
    go_wp2_with fail
    refine (guard_WriteO tag hL.out hR.out).mono ?_
    rintro e w2 ⟨v2, rfl, hv2, hE2⟩
    obtain ⟨b3, d3, rfl, -⟩ := hv2.its.form
    go_wp2
    refine bodyPost_ret (results_tmp3 rfl _ _ _) rfl ?_
    exact ⟨_, rfl, hv2, hE2⟩
  · have k0 : (what == 0) = false := by simp [h0]
    have k5 : (what == 5) = false := by simp [h5]
    rw [oneA_tag h0 h5]
    replace hk := Lib.hid hk
    clear h0 h5
    go_enter Tryd.func44, Tryd.ntmps44
    go_wp2_with fail
    refine (guard_RetagO hp.out hk.out tag ⟨0, 9, 0⟩ hL.out hR.out).mono ?_
    rintro e w2 ⟨v2, rfl, hv2, hE2⟩
    obtain ⟨b3, d3, rfl, -⟩ := hv2.its.form
    go_wp2
    refine bodyPost_ret (results_tmp3 rfl _ _ _) rfl ?_
    exact ⟨_, rfl, hv2, hE2⟩

set_option maxHeartbeats 1600000 in
theorem law33_use {l : List (List Item)} {num what a n : Int} {run : List Int} {s v : Value} {w : World} (hp : Perms w) (hk : u8B what) (tag : Int) (hl : Sts w s l) (hr : Nts w v run) :
    Calls Tryd.prog 43 #[.agg #[.int .i64 num, s], .int .u8 what, .int .i64 a, .int .i64 n, .int .i64 tag, v] w (RetKW w (useA ⟨num, l⟩ what a n tag run).1 (useA ⟨num, l⟩ what a n tag run).2.1 (useA ⟨num, l⟩ what a n tag run).2.2) := by
  obtain ⟨q, cp, rfl, -⟩ := hl.form
  obtain ⟨a2, cp2, rfl, -⟩ := hr.form
  have hE0 : Ext w (World.alloc (World.alloc w (.cells #[.int .i64 num, .slice q l.length cp] 56)) (.cells #[.int .i64 0, .slice none 0 0] 56)) := ((Ext.refl w).alloc _).alloc _
  have bX := (Box.new w 56 #[.int .i64 num, .slice q l.length cp]).ext ((Ext.refl _).alloc (.cells #[.int .i64 0, .slice none 0 0] 56))
  have bR := Box.new (World.alloc w (.cells #[.int .i64 num, .slice q l.length cp] 56)) 56 #[.int .i64 0, .slice none 0 0]
  simp only [World.size_alloc] at bR
  have hL := Lib.hid (hl.ext hE0)
  have hV := Lib.hid (hr.ext hE0)
  have hP := Lib.hid (hp.ext hE0)
  clear hl hr hp
  replace hk := Lib.hid hk
  obtain ⟨w1, hw1⟩ : ∃ z, (World.alloc (World.alloc w (.cells #[.int .i64 num, .slice q l.length cp] 56)) (.cells #[.int .i64 0, .slice none 0 0] 56)) = z := ⟨_, rfl⟩
  rw [hw1] at hE0 hL hV hP bX bR
  have x0 : World.cell? w1 ⟨w.heap.size, 0, none⟩ = some (.int .i64 num) := bX.cell 0
  have x1 : World.cell? w1 ⟨w.heap.size, 1, none⟩ = some (.slice q l.length cp) := bX.cell 1
  by_cases h0 : what = 0
  · subst h0
    rw [useA_read]
    obtain ⟨⟨⟨yn, yl⟩, u, e3⟩, hy⟩ : ∃ z, use33 ⟨num, l⟩ a n tag false run = z := ⟨_, rfl⟩
    replace hy := Lib.hid hy
    go_enter Tryd.func43, Tryd.ntmps43
    go_wp2_with fail
    clear hw1 x0 x1
    refine (stacks_Read tag hL.out hV.out).mono ?_
    rintro e w4 ⟨v4, vs4, rfl, h4, hE4⟩
    rw [hy.out] at h4 ⊢
    dsimp only at h4 ⊢
    obtain ⟨a4, k4, rfl, -⟩ := h4.sts.form
    replace h4 := Lib.hid h4
    have c0 : World.cell? w4 ⟨w.heap.size + 1, 0, none⟩ = some (.int .i64 0) := (bR.ext hE4).cell 0
    have c1 : World.cell? w4 ⟨w.heap.size + 1, 1, none⟩ = some (.slice none 0 0) := (bR.ext hE4).cell 1
    have f0 := (bR.ext hE4).frozen 0
    have f1 := (bR.ext hE4).frozen 1
    have hlt := bR.lt
    go_wp2
    rw [hy.out]
    have hY := ((ExtBut.setCell w4 ⟨w.heap.size + 1, 0, none⟩ (.int .i64 yn)).mono (S' := fun b => b = w.heap.size + 1) (fun x _ h => h)).trans ((ExtBut.setCell _ ⟨w.heap.size + 1, 1, none⟩ (.slice a4 yl.length k4)).mono (S' := fun b => b = w.heap.size + 1) (fun x _ h => h))
    refine bodyPost_ret (v := .tuple #[.agg #[.int .i64 yn, .slice a4 yl.length k4], .int .u8 u, .int .i64 e3]) (by simp [results, Tryd.f43, go_sem, c0, c1]) rfl ⟨_, vs4, rfl, OwnS.mono (B := w1.heap.size) (B' := w.heap.size) (OwnS.but h4.out hY (fun g e h => by omega)) (by omega), ExtBut.ext (hE0.trans hE4) hY (fun x h => by omega)⟩
  by_cases h5 : what = 5
  · subst h5
    rw [useA_write]
    obtain ⟨⟨⟨yn, yl⟩, u, e3⟩, hy⟩ : ∃ z, use33 ⟨num, l⟩ a n tag true run = z := ⟨_, rfl⟩
    replace hy := Lib.hid hy
    go_enter Tryd.func43, Tryd.ntmps43
    go_wp2_with fail
    clear hw1 x0 x1
    refine (stacks_Write tag hL.out hV.out).mono ?_
    rintro e w4 ⟨v4, vs4, rfl, h4, hE4⟩
    rw [hy.out] at h4 ⊢
    dsimp only at h4 ⊢
    obtain ⟨a4, k4, rfl, -⟩ := h4.sts.form
    replace h4 := Lib.hid h4
    have c0 : World.cell? w4 ⟨w.heap.size + 1, 0, none⟩ = some (.int .i64 0) := (bR.ext hE4).cell 0
    have c1 : World.cell? w4 ⟨w.heap.size + 1, 1, none⟩ = some (.slice none 0 0) := (bR.ext hE4).cell 1
    have f0 := (bR.ext hE4).frozen 0
    have f1 := (bR.ext hE4).frozen 1
    have hlt := bR.lt
    go_wp2
    rw [hy.out]
    have hY := ((ExtBut.setCell w4 ⟨w.heap.size + 1, 0, none⟩ (.int .i64 yn)).mono (S' := fun b => b = w.heap.size + 1) (fun x _ h => h)).trans ((ExtBut.setCell _ ⟨w.heap.size + 1, 1, none⟩ (.slice a4 yl.length k4)).mono (S' := fun b => b = w.heap.size + 1) (fun x _ h => h))
    refine bodyPost_ret (v := .tuple #[.agg #[.int .i64 yn, .slice a4 yl.length k4], .int .u8 u, .int .i64 e3]) (by simp [results, Tryd.f43, go_sem, c0, c1]) rfl ⟨_, vs4, rfl, OwnS.mono (B := w1.heap.size) (B' := w.heap.size) (OwnS.but h4.out hY (fun g e h => by omega)) (by omega), ExtBut.ext (hE0.trans hE4) hY (fun x h => by omega)⟩
  · have k0 : (what == 0) = false := by simp [h0]
    have k5 : (what == 5) = false := by simp [h5]
    rw [useA_tag h0 h5]
    clear h0 h5
    obtain ⟨⟨⟨yn, yl⟩, u, e3⟩, hy⟩ : ∃ z, tag33 ⟨num, l⟩ a n what tag ⟨0, 9, 0⟩ run = z := ⟨_, rfl⟩
    replace hy := Lib.hid hy
    go_enter Tryd.func43, Tryd.ntmps43
    go_wp2_with fail
    clear hw1 x0 x1
    refine (stacks_Retag hP.out hk.out tag ⟨0, 9, 0⟩ hL.out hV.out).mono ?_
    rintro e w4 ⟨v4, vs4, rfl, h4, hE4⟩
    rw [hy.out] at h4 ⊢
    dsimp only at h4 ⊢
    obtain ⟨a4, k4, rfl, -⟩ := h4.sts.form
    replace h4 := Lib.hid h4
    have c0 : World.cell? w4 ⟨w.heap.size + 1, 0, none⟩ = some (.int .i64 0) := (bR.ext hE4).cell 0
    have c1 : World.cell? w4 ⟨w.heap.size + 1, 1, none⟩ = some (.slice none 0 0) := (bR.ext hE4).cell 1
    have f0 := (bR.ext hE4).frozen 0
    have f1 := (bR.ext hE4).frozen 1
    have hlt := bR.lt
    go_wp2
    rw [hy.out]
    have hY := ((ExtBut.setCell w4 ⟨w.heap.size + 1, 0, none⟩ (.int .i64 yn)).mono (S' := fun b => b = w.heap.size + 1) (fun x _ h => h)).trans ((ExtBut.setCell _ ⟨w.heap.size + 1, 1, none⟩ (.slice a4 yl.length k4)).mono (S' := fun b => b = w.heap.size + 1) (fun x _ h => h))
    refine bodyPost_ret (v := .tuple #[.agg #[.int .i64 yn, .slice a4 yl.length k4], .int .u8 u, .int .i64 e3]) (by simp [results, Tryd.f43, go_sem, c0, c1]) rfl ⟨_, vs4, rfl, OwnS.mono (B := w1.heap.size) (B' := w.heap.size) (OwnS.but h4.out hY (fun g e h => by omega)) (by omega), ExtBut.ext (hE0.trans hE4) hY (fun x h => by omega)⟩

end Go.Proofs.YtjfkfibhgilolaaDoor
