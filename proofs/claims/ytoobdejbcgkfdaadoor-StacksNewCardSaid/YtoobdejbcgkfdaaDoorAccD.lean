/- Contracts: layer 29, the program's and the reference's, and the helpers of its statements. (printed by gen/accd.py) -/
import Derived.Test.YtoobdejbcgkfdaaDoorAccB
import Derived.Test.YtoobdejbcgkfdaaDoorAccC
namespace Go.Proofs.YtoobdejbcgkfdaaDoor
set_option maxRecDepth 100000
open Go.RowKit


set_option maxHeartbeats 400000 in
theorem access_ReadO {l : List Item} {v : Value} {w : World} (tag : Int) (hl : Its w v l) :
    Calls Tryd.prog 60 #[v, .int .i64 tag] w (RetUO w (accL l tag false) (accG l tag false) (accW l tag false) (chk l)) := by
  have hC := Lib.hid (access_useO tag false hl)
  obtain ⟨a, cp, rfl, -⟩ := hl.form
  clear hl
  go_enter Tryd.func60, Tryd.ntmps60
  go_wp2_with fail
  refine hC.out.mono ?_
  rintro e w1 ⟨v1, v2, rfl, h1, h2, h3, hE⟩
  have h3o := Lib.hid h3; clear h3
  go_wp2
  refine bodyPost_ret (results_tmp4 rfl _ _ _) rfl ?_
  exact ⟨_, _, rfl, h1, h2, h3o.out, hE⟩

theorem access_Read {l : List Item} {v : Value} {w : World} (tag : Int) (hl : Its w v l) :
    Calls Tryd.prog 60 #[v, .int .i64 tag] w (RetU w (accL l tag false) (accG l tag false) (accW l tag false) (chk l)) := (access_ReadO tag hl).mono fun _ _ h => h.weak

set_option maxHeartbeats 400000 in
theorem ref29_ReadO {l : List Item} {v : Value} {w : World} (tag : Int) (hl : Its w v l) :
    Calls Tryd.prog 114 #[v, .int .i64 tag] w (RetUO w (accL l tag false) (accG l tag false) (accW l tag false) (chk l)) := by
  have hL := Lib.hid hl
  obtain ⟨a, cp, rfl, -⟩ := hl.form
  clear hl
  cases hk : okS l
  · have h8 : Hid (accL l tag false = [] ∧ accG l tag false = [] ∧ accW l tag false = 0 ∧ chk l = 8) := Hid.mk (by simp [accL, accG, accW, chk, hk])
    go_enter Tryd.func114, Tryd.ntmps114
    go_wp2_with fail
    refine (ref28_Check hL.out).mono ?_
    rintro e w1 ⟨rfl, hE⟩
    rw [h8.out.2.2.2]
    go_wp2
    refine bodyPost_ret (results_tmp4 rfl _ _ _) rfl ?_
    rw [h8.out.1, h8.out.2.1, h8.out.2.2.1, h8.out.2.2.2]
    exact RetUO.none hE
  · have h0 : Hid (accL l tag false = usedL l tag false ∧ accG l tag false = usedG l tag false ∧ accW l tag false = usedW l tag false ∧ chk l = 0) := Hid.mk (by simp [accL, accG, accW, chk, hk])
    have hl6 : l.length ≤ 600 := by simp [okS] at hk; omega
    go_enter Tryd.func114, Tryd.ntmps114
    go_wp2_with fail
    refine (ref28_Check hL.out).mono ?_
    rintro e w1 ⟨rfl, hE⟩
    rw [h0.out.2.2.2]
    go_wp2_with fail
    refine (ref29_UsedO tag false (hL.out.ext hE) hl6).mono ?_
    rintro e w2 ⟨v1, v2, rfl, h1, h2, h3, hE2⟩
    have h3o := Lib.hid h3; clear h3
    go_wp2
    refine bodyPost_ret (results_tmp4 rfl _ _ _) rfl ?_
    rw [h0.out.1, h0.out.2.1, h0.out.2.2.1, h0.out.2.2.2]
    exact ⟨_, _, rfl, h1.mono hE.size, h2.mono hE.size, h3o.out, hE.trans hE2⟩

theorem ref29_Read {l : List Item} {v : Value} {w : World} (tag : Int) (hl : Its w v l) :
    Calls Tryd.prog 114 #[v, .int .i64 tag] w (RetU w (accL l tag false) (accG l tag false) (accW l tag false) (chk l)) := (ref29_ReadO tag hl).mono fun _ _ h => h.weak

set_option maxHeartbeats 400000 in
theorem access_WriteO {l : List Item} {v : Value} {w : World} (tag : Int) (hl : Its w v l) :
    Calls Tryd.prog 61 #[v, .int .i64 tag] w (RetUO w (accL l tag true) (accG l tag true) (accW l tag true) (chk l)) := by
  have hC := Lib.hid (access_useO tag true hl)
  obtain ⟨a, cp, rfl, -⟩ := hl.form
  clear hl
  go_enter Tryd.func61, Tryd.ntmps61
  go_wp2_with fail
  refine hC.out.mono ?_
  rintro e w1 ⟨v1, v2, rfl, h1, h2, h3, hE⟩
  have h3o := Lib.hid h3; clear h3
  go_wp2
  refine bodyPost_ret (results_tmp4 rfl _ _ _) rfl ?_
  exact ⟨_, _, rfl, h1, h2, h3o.out, hE⟩

theorem access_Write {l : List Item} {v : Value} {w : World} (tag : Int) (hl : Its w v l) :
    Calls Tryd.prog 61 #[v, .int .i64 tag] w (RetU w (accL l tag true) (accG l tag true) (accW l tag true) (chk l)) := (access_WriteO tag hl).mono fun _ _ h => h.weak

set_option maxHeartbeats 400000 in
theorem ref29_WriteO {l : List Item} {v : Value} {w : World} (tag : Int) (hl : Its w v l) :
    Calls Tryd.prog 88 #[v, .int .i64 tag] w (RetUO w (accL l tag true) (accG l tag true) (accW l tag true) (chk l)) := by
  have hL := Lib.hid hl
  obtain ⟨a, cp, rfl, -⟩ := hl.form
  clear hl
  cases hk : okS l
  · have h8 : Hid (accL l tag true = [] ∧ accG l tag true = [] ∧ accW l tag true = 0 ∧ chk l = 8) := Hid.mk (by simp [accL, accG, accW, chk, hk])
    go_enter Tryd.func88, Tryd.ntmps88
    go_wp2_with fail
    refine (ref28_Check hL.out).mono ?_
    rintro e w1 ⟨rfl, hE⟩
    rw [h8.out.2.2.2]
    go_wp2
    refine bodyPost_ret (results_tmp4 rfl _ _ _) rfl ?_
    rw [h8.out.1, h8.out.2.1, h8.out.2.2.1, h8.out.2.2.2]
    exact RetUO.none hE
  · have h0 : Hid (accL l tag true = usedL l tag true ∧ accG l tag true = usedG l tag true ∧ accW l tag true = usedW l tag true ∧ chk l = 0) := Hid.mk (by simp [accL, accG, accW, chk, hk])
    have hl6 : l.length ≤ 600 := by simp [okS] at hk; omega
    go_enter Tryd.func88, Tryd.ntmps88
    go_wp2_with fail
    refine (ref28_Check hL.out).mono ?_
    rintro e w1 ⟨rfl, hE⟩
    rw [h0.out.2.2.2]
    go_wp2_with fail
    refine (ref29_UsedO tag true (hL.out.ext hE) hl6).mono ?_
    rintro e w2 ⟨v1, v2, rfl, h1, h2, h3, hE2⟩
    have h3o := Lib.hid h3; clear h3
    go_wp2
    refine bodyPost_ret (results_tmp4 rfl _ _ _) rfl ?_
    rw [h0.out.1, h0.out.2.1, h0.out.2.2.1, h0.out.2.2.2]
    exact ⟨_, _, rfl, h1.mono hE.size, h2.mono hE.size, h3o.out, hE.trans hE2⟩

theorem ref29_Write {l : List Item} {v : Value} {w : World} (tag : Int) (hl : Its w v l) :
    Calls Tryd.prog 88 #[v, .int .i64 tag] w (RetU w (accL l tag true) (accG l tag true) (accW l tag true) (chk l)) := (ref29_WriteO tag hl).mono fun _ _ h => h.weak






def exam29 : List Item := [⟨1, 1, 0⟩, ⟨1, 2, 0⟩, ⟨4, 3, 0⟩, ⟨1, 4, 0⟩]


end Go.Proofs.YtoobdejbcgkfdaaDoor
