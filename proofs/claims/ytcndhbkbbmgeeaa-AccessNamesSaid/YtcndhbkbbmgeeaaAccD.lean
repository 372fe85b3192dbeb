/- Contracts: layer 29, the program's and the reference's, and the helpers of its statements. (printed by gen/accd.py) -/
import Derived.Test.YtcndhbkbbmgeeaaAccB
import Derived.Test.YtcndhbkbbmgeeaaAccC
namespace Go.Proofs.Ytcndhbkbbmgeeaa
set_option maxRecDepth 100000
open Go.RowKit


set_option maxHeartbeats 400000 in
theorem access_ReadO {l : List Item} {v : Value} {w : World} (tag : Int) (hl : Its w v l) :
    Calls Try.prog 20 #[v, .int .i64 tag] w (RetUO w (accL l tag false) (accG l tag false) (accW l tag false) (chk l)) := by
  have hC := Lib.hid (access_useO tag false hl)
  obtain ⟨a, cp, rfl, -⟩ := hl.form
  clear hl
  go_enter Try.func20, Try.ntmps20
  go_wp2_with fail
  refine hC.out.mono ?_
  rintro e w1 ⟨v1, v2, rfl, h1, h2, h3, hE⟩
  have h3o := Lib.hid h3; clear h3
  go_wp2
  refine bodyPost_ret (results_tmp4 rfl _ _ _) rfl ?_
  exact ⟨_, _, rfl, h1, h2, h3o.out, hE⟩

theorem access_Read {l : List Item} {v : Value} {w : World} (tag : Int) (hl : Its w v l) :
    Calls Try.prog 20 #[v, .int .i64 tag] w (RetU w (accL l tag false) (accG l tag false) (accW l tag false) (chk l)) := (access_ReadO tag hl).mono fun _ _ h => h.weak


set_option maxHeartbeats 400000 in
theorem access_WriteO {l : List Item} {v : Value} {w : World} (tag : Int) (hl : Its w v l) :
    Calls Try.prog 21 #[v, .int .i64 tag] w (RetUO w (accL l tag true) (accG l tag true) (accW l tag true) (chk l)) := by
  have hC := Lib.hid (access_useO tag true hl)
  obtain ⟨a, cp, rfl, -⟩ := hl.form
  clear hl
  go_enter Try.func21, Try.ntmps21
  go_wp2_with fail
  refine hC.out.mono ?_
  rintro e w1 ⟨v1, v2, rfl, h1, h2, h3, hE⟩
  have h3o := Lib.hid h3; clear h3
  go_wp2
  refine bodyPost_ret (results_tmp4 rfl _ _ _) rfl ?_
  exact ⟨_, _, rfl, h1, h2, h3o.out, hE⟩

theorem access_Write {l : List Item} {v : Value} {w : World} (tag : Int) (hl : Its w v l) :
    Calls Try.prog 21 #[v, .int .i64 tag] w (RetU w (accL l tag true) (accG l tag true) (accW l tag true) (chk l)) := (access_WriteO tag hl).mono fun _ _ h => h.weak


set_option maxHeartbeats 400000 in
theorem access_May {l : List Item} {v : Value} {w : World} (tag : Int) (write : Bool) (hl : Its w v l) :
    Calls Try.prog 22 #[v, .int .i64 tag, .bool write] w fun e w' => e = .returned (.tuple #[.bool (mayB l tag write), .int .i64 (chk l)]) ∧ Ext w w' := by
  have hC := Lib.hid (items_Find tag write hl)
  obtain ⟨a, cp, rfl, -⟩ := hl.form
  clear hl
  obtain ⟨n, hn⟩ : ∃ n, findErr l tag write = n := ⟨_, rfl⟩
  have hn := Lib.hid hn
  have hc : Hid (n = 6 ∧ mayB l tag write = false ∧ chk l = 0 ∨ n = 0 ∧ mayB l tag write = true ∧ chk l = 0 ∨ n = 8 ∧ mayB l tag write = false ∧ chk l = 8) := Hid.mk (by
    rw [← hn.out]
    cases hk : okS l <;> cases hf : findAt l tag write <;> simp [findErr, mayB, chk, hk, hf])
  rcases hc.out with ⟨rfl, h1, h2⟩ | ⟨rfl, h1, h2⟩ | ⟨rfl, h1, h2⟩
  all_goals
    have h1 := Lib.hid h1; have h2 := Lib.hid h2
    clear hc
    go_enter Try.func22, Try.ntmps22
    go_wp2_with fail
    refine hC.out.mono ?_
    rintro e w1 ⟨rfl, hE⟩
    rw [hn.out]
    go_wp2
    go_ret2
    exact ⟨(by rw [h1.out, h2.out]; try rfl), hE⟩


set_option maxHeartbeats 400000 in
theorem law29_use {l : List Item} {v : Value} {w : World} (tag : Int) (write : Bool) (hl : Its w v l) :
    Calls Try.prog 63 #[v, .int .i64 tag, .bool write] w (RetU w (accL l tag write) (accG l tag write) (accW l tag write) (chk l)) := by
  have hL := Lib.hid hl
  obtain ⟨a, cp, rfl, -⟩ := hl.form
  clear hl
  cases write
  · go_enter Try.func63, Try.ntmps63
    go_wp2_with fail
    refine (access_Read tag hL.out).mono ?_
    rintro e w1 ⟨v1, v2, rfl, h1, h2, hE⟩
    go_wp2
    refine bodyPost_ret (results_tmp4 rfl _ _ _) rfl ?_
    exact ⟨_, _, rfl, h1, h2, hE⟩
  · go_enter Try.func63, Try.ntmps63
    go_wp2_with fail
    refine (access_Write tag hL.out).mono ?_
    rintro e w1 ⟨v1, v2, rfl, h1, h2, hE⟩
    go_wp2
    refine bodyPost_ret (results_tmp4 rfl _ _ _) rfl ?_
    exact ⟨_, _, rfl, h1, h2, hE⟩

set_option maxHeartbeats 400000 in
theorem law29_leaves {l want gone : List Item} {v v1 v2 : Value} {w : World} (tag : Int) (write : Bool) (hl : Its w v l) (hw : Its w v1 want) (hg : Its w v2 gone)
    (h : chk l = 0 ∧ accW l tag write = 0 ∧ accL l tag write = want ∧ accG l tag write = gone) :
    Calls Try.prog 18 #[v, .int .i64 tag, .bool write, v1, v2] w fun e w' => e = .returned (.bool true) ∧ Ext w w' := by
  have hL := Lib.hid hl; have hW := Lib.hid hw; have hG := Lib.hid hg; have h := Lib.hid h
  obtain ⟨a, cp, rfl, -⟩ := hl.form
  obtain ⟨a1, cp1, rfl, -⟩ := hw.form
  obtain ⟨a2, cp2, rfl, -⟩ := hg.form
  clear hl hw hg
  go_enter Try.func18, Try.ntmps18
  go_wp2_with fail
  refine (law29_use tag write hL.out).mono ?_
  rintro e w1 ⟨v1, v2, rfl, h1, h2, hE⟩
  rw [h.out.1, h.out.2.1]
  rw [h.out.2.2.1] at h1
  rw [h.out.2.2.2] at h2
  go_wp2_with fail
  refine (ref28_Same_yes h1 (hW.out.ext hE)).mono ?_
  rintro e w2 ⟨rfl, hE2⟩
  go_wp2_with fail
  refine (ref28_Same_yes (h2.ext hE2) (hG.out.ext (hE.trans hE2))).mono ?_
  rintro e w3 ⟨rfl, hE3⟩
  go_wp2
  go_ret
  exact ⟨rfl, (hE.trans hE2).trans hE3⟩

set_option maxHeartbeats 400000 in
theorem law29_none {l : List Item} {v : Value} {w : World} (tag : Int) (write : Bool) (hl : Its w v l) (h : chk l = 0 ∧ accW l tag write = 1 ∧ accL l tag write = [] ∧ accG l tag write = []) :
    Calls Try.prog 19 #[v, .int .i64 tag, .bool write] w fun e w' => e = .returned (.bool true) ∧ Ext w w' := by
  have hL := Lib.hid hl; have h := Lib.hid h
  obtain ⟨a, cp, rfl, -⟩ := hl.form
  clear hl
  go_enter Try.func19, Try.ntmps19
  go_wp2_with fail
  refine (law29_use tag write hL.out).mono ?_
  rintro e w1 ⟨v1, v2, rfl, h1, h2, hE⟩
  rw [h.out.1, h.out.2.1]
  rw [h.out.2.2.1] at h1
  rw [h.out.2.2.2] at h2
  obtain ⟨a1, cp1, rfl, -⟩ := h1.form
  obtain ⟨a2, cp2, rfl, -⟩ := h2.form
  go_wp2
  go_ret
  exact ⟨rfl, hE⟩

def exam29 : List Item := [⟨1, 1, 0⟩, ⟨1, 2, 0⟩, ⟨4, 3, 0⟩, ⟨1, 4, 0⟩]

set_option maxHeartbeats 400000 in
theorem law29_example (w : World) : Calls Try.prog 65 #[] w (RetL 25 w exam29) := by
  have hO := Own.lit (B := w.heap.size) (e := 25) (k := 3) w #[.int .u8 1, .int .i64 1, .int .i64 0, .int .u8 1, .int .i64 2, .int .i64 0, .int .u8 4, .int .i64 3, .int .i64 0, .int .u8 1, .int .i64 4, .int .i64 0] 4 (Nat.le_refl _) (by simp [maxLen]) rfl
  go_enter Try.func65, Try.ntmps65
  go_wp2
  go_ret
  exact ⟨_, rfl, hO, (Ext.refl _).alloc _⟩

end Go.Proofs.Ytcndhbkbbmgeeaa
