/- The statement DeallocNothing: for all arguments the call returns true. Condition: the laid permissions. (printed by gen/dea34d.py) -/
import Derived.Test.YtjfkfibhgilolaaDoorDeaG
import Derived.Test.YtjfkfibhgilolaaDoorReadK
import Derived.Test.YtjfkfibhgilolaaDoorReadI
import Derived.Test.YtjfkfibhgilolaaDoorClose
import Derived.Test.YtjfkfibhgilolaaDoorDoor
import Derived.Test.YtjfkfibhgilolaaDoorItemsE
import Derived.Deep.QuietTactic
import Derived.Deep.RegionHeld3
namespace Go.Proofs.YtjfkfibhgilolaaDoor
set_option maxRecDepth 100000
open Go.ChangeShapes Go.WideShapes Go.ChangeAt Go.RowKit

set_option maxRecDepth 100000 in
set_option maxHeartbeats 25600000 in
theorem deallocNothing_walk {x : Stk} {run : List Int} {s v : Value} {w : World} (hp : Perms w) (c : Int) (hl : Sts w s x.cells) (hr : Nts w v run) :
    Calls Tryd.prog 10 #[.agg #[.int .i64 x.num, s], v, .int .i64 c] w fun e w' => e = .returned (.bool true) ∧ Ext w w' := by
  obtain ⟨num, l⟩ := x
  obtain ⟨q, cp, rfl, -⟩ := Sts.form hl
  obtain ⟨a2, cp2, rfl, hlc2, -⟩ := hr.form
  have hF : Ext w (w.alloc (.cells #[.int .i64 num, .slice q l.length cp] 56)) := (Ext.refl w).alloc _
  have bM := Box.new w 56 #[.int .i64 num, .slice q l.length cp]
  have hL : Sts _ _ l := hl.ext hF
  have hR : Nts _ _ run := hr.ext hF
  have hP : Perms _ := hp.ext hF
  clear hl hr hp
  dsimp only at *
  obtain ⟨w0, hw0⟩ : ∃ z, (w.alloc (.cells #[.int .i64 num, .slice q l.length cp] 56)) = z := ⟨_, rfl⟩
  rw [hw0] at hF bM hL hR hP
  cases hg0 : greatK l
  rotate_left
  · have hg := Lib.hid hg0
    clear hg0
    go_enter Tryd.func10, Tryd.ntmps10
    go_wp2_with fail
    try clear hw0
    refine (law34_alive hP).mono ?_
    rintro e w1 ⟨rfl, hZ0⟩
    have hE0 : Ext w0 w1 := Ext.trans (by repeat (first | exact Ext.refl _ | apply Ext.alloc | apply Ext.drew)) hZ0
    replace bM := bM.ext hE0
    replace hL := hL.ext hE0
    replace hR := hR.ext hE0
    replace hP := hP.ext hE0
    have hF0 := Ext.trans (hF) hE0
    have bM_0 : World.cell? w1 ⟨w.heap.size, 0, none⟩ = some (.int .i64 num) := bM.cell 0
    have bM_1 : World.cell? w1 ⟨w.heap.size, 1, none⟩ = some (.slice q l.length cp) := bM.cell 1
    have bM_l := bM.lt
    go_wp2_with fail
    clear bM_0 bM_1 bM_l
    refine (ref33_Great hL).mono ?_
    rintro e w2 ⟨rfl, hZ1⟩
    have hE1 : Ext w1 w2 := Ext.trans (by repeat (first | exact Ext.refl _ | apply Ext.alloc | apply Ext.drew)) hZ1
    replace bM := bM.ext hE1
    replace hL := hL.ext hE1
    replace hR := hR.ext hE1
    replace hP := hP.ext hE1
    have hF1 := Ext.trans (hF0) hE1
    rw [hg.out]
    have bM_0 : World.cell? w2 ⟨w.heap.size, 0, none⟩ = some (.int .i64 num) := bM.cell 0
    have bM_1 : World.cell? w2 ⟨w.heap.size, 1, none⟩ = some (.slice q l.length cp) := bM.cell 1
    have bM_l := bM.lt
    go_wp2
    go_ret
    exact ⟨rfl, hF1⟩

  have hg := Lib.hid hg0
  clear hg0
  by_cases h5 : 50 < run.length
  · have t5 : decide (50 < run.length) = true := decide_eq_true h5
    have t5' : decide ((50 : Int) < (run.length : Int)) = true := decide_eq_true (by omega)
    go_enter Tryd.func10, Tryd.ntmps10
    go_wp2_with fail
    try clear hw0
    refine (law34_alive hP).mono ?_
    rintro e w1 ⟨rfl, hZ0⟩
    have hE0 : Ext w0 w1 := Ext.trans (by repeat (first | exact Ext.refl _ | apply Ext.alloc | apply Ext.drew)) hZ0
    replace bM := bM.ext hE0
    replace hL := hL.ext hE0
    replace hR := hR.ext hE0
    replace hP := hP.ext hE0
    have hF0 := Ext.trans (hF) hE0
    have bM_0 : World.cell? w1 ⟨w.heap.size, 0, none⟩ = some (.int .i64 num) := bM.cell 0
    have bM_1 : World.cell? w1 ⟨w.heap.size, 1, none⟩ = some (.slice q l.length cp) := bM.cell 1
    have bM_l := bM.lt
    go_wp2_with fail
    clear bM_0 bM_1 bM_l
    refine (ref33_Great hL).mono ?_
    rintro e w2 ⟨rfl, hZ1⟩
    have hE1 : Ext w1 w2 := Ext.trans (by repeat (first | exact Ext.refl _ | apply Ext.alloc | apply Ext.drew)) hZ1
    replace bM := bM.ext hE1
    replace hL := hL.ext hE1
    replace hR := hR.ext hE1
    replace hP := hP.ext hE1
    have hF1 := Ext.trans (hF0) hE1
    rw [hg.out]
    have bM_0 : World.cell? w2 ⟨w.heap.size, 0, none⟩ = some (.int .i64 num) := bM.cell 0
    have bM_1 : World.cell? w2 ⟨w.heap.size, 1, none⟩ = some (.slice q l.length cp) := bM.cell 1
    have bM_l := bM.lt
    go_wp2
    go_ret
    exact ⟨rfl, hF1⟩

  have t5 : decide (50 < run.length) = false := decide_eq_false h5
  have t5' : decide ((50 : Int) < (run.length : Int)) = false := decide_eq_false (by omega)
  replace h5 := Lib.hid h5
  by_cases hr0 : runErr run = 0
  rotate_left
  · obtain ⟨rk, hrc⟩ : ∃ z, runErr run = z := ⟨_, rfl⟩
    have c1 : (rk != 0) = true := by rw [← hrc]; simp [hr0]
    replace hrc := Lib.hid hrc
    clear hr0
    go_enter Tryd.func10, Tryd.ntmps10
    go_wp2_with fail
    try clear hw0
    refine (law34_alive hP).mono ?_
    rintro e w1 ⟨rfl, hZ0⟩
    have hE0 : Ext w0 w1 := Ext.trans (by repeat (first | exact Ext.refl _ | apply Ext.alloc | apply Ext.drew)) hZ0
    replace bM := bM.ext hE0
    replace hL := hL.ext hE0
    replace hR := hR.ext hE0
    replace hP := hP.ext hE0
    have hF0 := Ext.trans (hF) hE0
    have bM_0 : World.cell? w1 ⟨w.heap.size, 0, none⟩ = some (.int .i64 num) := bM.cell 0
    have bM_1 : World.cell? w1 ⟨w.heap.size, 1, none⟩ = some (.slice q l.length cp) := bM.cell 1
    have bM_l := bM.lt
    go_wp2_with fail
    clear bM_0 bM_1 bM_l
    refine (ref33_Great hL).mono ?_
    rintro e w2 ⟨rfl, hZ1⟩
    have hE1 : Ext w1 w2 := Ext.trans (by repeat (first | exact Ext.refl _ | apply Ext.alloc | apply Ext.drew)) hZ1
    replace bM := bM.ext hE1
    replace hL := hL.ext hE1
    replace hR := hR.ext hE1
    replace hP := hP.ext hE1
    have hF1 := Ext.trans (hF0) hE1
    rw [hg.out]
    have bM_0 : World.cell? w2 ⟨w.heap.size, 0, none⟩ = some (.int .i64 num) := bM.cell 0
    have bM_1 : World.cell? w2 ⟨w.heap.size, 1, none⟩ = some (.slice q l.length cp) := bM.cell 1
    have bM_l := bM.lt
    go_wp2_with fail
    clear bM_0 bM_1 bM_l
    refine (ref31_Check hR).mono ?_
    rintro e wz ⟨rfl, rfl⟩
    rw [hrc.out]
    have bM_0 : World.cell? w2 ⟨w.heap.size, 0, none⟩ = some (.int .i64 num) := bM.cell 0
    have bM_1 : World.cell? w2 ⟨w.heap.size, 1, none⟩ = some (.slice q l.length cp) := bM.cell 1
    have bM_l := bM.lt
    go_wp2
    go_ret
    exact ⟨rfl, hF1⟩

  have hrok := runErr_okR hr0
  have hrc := Lib.hid hr0
  clear hr0
  by_cases hk0 : stkErr ⟨num, l⟩ = 0
  rotate_left
  · obtain ⟨ck, hck⟩ : ∃ z, stkErr ⟨num, l⟩ = z := ⟨_, rfl⟩
    have c1 : (ck != 0) = true := by rw [← hck]; simp [hk0]
    replace hck := Lib.hid hck
    clear hk0 hrok
    go_enter Tryd.func10, Tryd.ntmps10
    go_wp2_with fail
    try clear hw0
    refine (law34_alive hP).mono ?_
    rintro e w1 ⟨rfl, hZ0⟩
    have hE0 : Ext w0 w1 := Ext.trans (by repeat (first | exact Ext.refl _ | apply Ext.alloc | apply Ext.drew)) hZ0
    replace bM := bM.ext hE0
    replace hL := hL.ext hE0
    replace hR := hR.ext hE0
    replace hP := hP.ext hE0
    have hF0 := Ext.trans (hF) hE0
    have bM_0 : World.cell? w1 ⟨w.heap.size, 0, none⟩ = some (.int .i64 num) := bM.cell 0
    have bM_1 : World.cell? w1 ⟨w.heap.size, 1, none⟩ = some (.slice q l.length cp) := bM.cell 1
    have bM_l := bM.lt
    go_wp2_with fail
    clear bM_0 bM_1 bM_l
    refine (ref33_Great hL).mono ?_
    rintro e w2 ⟨rfl, hZ1⟩
    have hE1 : Ext w1 w2 := Ext.trans (by repeat (first | exact Ext.refl _ | apply Ext.alloc | apply Ext.drew)) hZ1
    replace bM := bM.ext hE1
    replace hL := hL.ext hE1
    replace hR := hR.ext hE1
    replace hP := hP.ext hE1
    have hF1 := Ext.trans (hF0) hE1
    rw [hg.out]
    have bM_0 : World.cell? w2 ⟨w.heap.size, 0, none⟩ = some (.int .i64 num) := bM.cell 0
    have bM_1 : World.cell? w2 ⟨w.heap.size, 1, none⟩ = some (.slice q l.length cp) := bM.cell 1
    have bM_l := bM.lt
    go_wp2_with fail
    clear bM_0 bM_1 bM_l
    refine (ref31_Check hR).mono ?_
    rintro e wz ⟨rfl, rfl⟩
    rw [hrc.out]
    have bM_0 : World.cell? w2 ⟨w.heap.size, 0, none⟩ = some (.int .i64 num) := bM.cell 0
    have bM_1 : World.cell? w2 ⟨w.heap.size, 1, none⟩ = some (.slice q l.length cp) := bM.cell 1
    have bM_l := bM.lt
    go_wp2_with fail
    clear bM_0 bM_1 bM_l
    refine (ref33_Check hL).mono ?_
    rintro e w3 ⟨rfl, hZ2⟩
    have hE2 : Ext w2 w3 := Ext.trans (by repeat (first | exact Ext.refl _ | apply Ext.alloc | apply Ext.drew)) hZ2
    replace bM := bM.ext hE2
    replace hL := hL.ext hE2
    replace hR := hR.ext hE2
    replace hP := hP.ext hE2
    have hF2 := Ext.trans (hF1) hE2
    rw [hck.out]
    have bM_0 : World.cell? w3 ⟨w.heap.size, 0, none⟩ = some (.int .i64 num) := bM.cell 0
    have bM_1 : World.cell? w3 ⟨w.heap.size, 1, none⟩ = some (.slice q l.length cp) := bM.cell 1
    have bM_l := bM.lt
    go_wp2
    go_ret
    exact ⟨rfl, hF2⟩

  have hkok := stkErr_okK hk0
  have hck := Lib.hid hk0
  clear hk0
  have hEnil := Lib.hid (end_nil hkok)
  have hPr := prot_ok hrok hkok
  have hEn := end_ok hrok hkok
  have hfk := free_kept l run
  have hlen2 := (okK_small hkok).1
  have hkl := kept_len (run := run) (okK_small hkok).2 l.length
  rw [List.take_length] at hkl
  have hat : Hid (∀ (i k : Nat) (x : List Item) (y : Item), l[i]? = some x → x[k]? = some y → heldR [y] run = (0, if heldBy run y then 0 else 6) ∧ (heldBy run y = true → (keptL l run)[(keptL (l.take i) run).length + ((x.take k).filter (heldBy run)).length]? = some y)) :=
    Hid.mk fun i k x y hx hy => ⟨held_one hrok (okK_item hkok hx hy), fun hh => kept_at hx hy hh⟩
  have hfew : Hid (∀ i : Nat, i < run.length → ∃ v, endR34 ⟨num, l⟩ (run.take i ++ run.drop (i + 1)) = (v, 0) ∧ (freeB l run = true → v = 0)) := Hid.mk fun i hi =>
    ⟨_, end_ok (okR_erase hrok hi) hkok, fun h => by rw [if_pos (free_fewer h)]⟩
  have hrl : run.length ≤ 32 := okR_len hrok
  have hcase : (decide (c < 0) = true) ∨ (decide (c < 0) = false ∧ decide ((run.length : Int) ≤ c) = true) ∨ (decide (c < 0) = false ∧ decide ((run.length : Int) ≤ c) = false ∧ ∃ i : Nat, c = i ∧ i < run.length) := by
    by_cases h1 : c < 0
    · exact .inl (decide_eq_true h1)
    · by_cases h2 : (run.length : Int) ≤ c
      · exact .inr (.inl ⟨decide_eq_false h1, decide_eq_true h2⟩)
      · exact .inr (.inr ⟨decide_eq_false h1, decide_eq_false h2, c.toNat, by omega, by omega⟩)
  replace hcase := Lib.hid hcase
  have hxl : Hid (∀ (i : Nat) (x : List Item), l[i]? = some x → x.length ≤ 600) := Hid.mk fun i x hx => (okK_small hkok).2 x (List.mem_of_getElem? hx)
  clear hkok hrok
  dsimp only at hEn hPr hlen2 hkl
  obtain ⟨L, hLd⟩ : ∃ z, keptL l run = z := ⟨_, rfl⟩
  rw [hLd] at hPr hfk hat hkl
  have hLb : L.length ≤ 1200 := by omega
  replace hLd := Lib.hid hLd
  replace hPr := Lib.hid hPr
  clear hkl
  cases hfr : freeB l run
  · rw [hfr] at hEn hfk hfew
    have l0 : (L.length == 0) = false := hfk.symm
    have l0' : ((L.length : Int) == 0) = false := by simpa using l0
    replace hEn := Lib.hid hEn
    clear hfk hfr
    go_enter Tryd.func10, Tryd.ntmps10
    go_wp2_with fail
    try clear hw0
    refine (law34_alive hP).mono ?_
    rintro e w1 ⟨rfl, hZ0⟩
    have hE0 : Ext w0 w1 := Ext.trans (by repeat (first | exact Ext.refl _ | apply Ext.alloc | apply Ext.drew)) hZ0
    replace bM := bM.ext hE0
    replace hL := hL.ext hE0
    replace hR := hR.ext hE0
    replace hP := hP.ext hE0
    have hF0 := Ext.trans (hF) hE0
    have bM_0 : World.cell? w1 ⟨w.heap.size, 0, none⟩ = some (.int .i64 num) := bM.cell 0
    have bM_1 : World.cell? w1 ⟨w.heap.size, 1, none⟩ = some (.slice q l.length cp) := bM.cell 1
    have bM_l := bM.lt
    go_wp2_with fail
    clear bM_0 bM_1 bM_l
    refine (ref33_Great hL).mono ?_
    rintro e w2 ⟨rfl, hZ1⟩
    have hE1 : Ext w1 w2 := Ext.trans (by repeat (first | exact Ext.refl _ | apply Ext.alloc | apply Ext.drew)) hZ1
    replace bM := bM.ext hE1
    replace hL := hL.ext hE1
    replace hR := hR.ext hE1
    replace hP := hP.ext hE1
    have hF1 := Ext.trans (hF0) hE1
    rw [hg.out]
    have bM_0 : World.cell? w2 ⟨w.heap.size, 0, none⟩ = some (.int .i64 num) := bM.cell 0
    have bM_1 : World.cell? w2 ⟨w.heap.size, 1, none⟩ = some (.slice q l.length cp) := bM.cell 1
    have bM_l := bM.lt
    go_wp2_with fail
    clear bM_0 bM_1 bM_l
    refine (ref31_Check hR).mono ?_
    rintro e wz ⟨rfl, rfl⟩
    rw [hrc.out]
    have bM_0 : World.cell? w2 ⟨w.heap.size, 0, none⟩ = some (.int .i64 num) := bM.cell 0
    have bM_1 : World.cell? w2 ⟨w.heap.size, 1, none⟩ = some (.slice q l.length cp) := bM.cell 1
    have bM_l := bM.lt
    go_wp2_with fail
    clear bM_0 bM_1 bM_l
    refine (ref33_Check hL).mono ?_
    rintro e w3 ⟨rfl, hZ2⟩
    have hE2 : Ext w2 w3 := Ext.trans (by repeat (first | exact Ext.refl _ | apply Ext.alloc | apply Ext.drew)) hZ2
    replace bM := bM.ext hE2
    replace hL := hL.ext hE2
    replace hR := hR.ext hE2
    replace hP := hP.ext hE2
    have hF2 := Ext.trans (hF1) hE2
    rw [hck.out]
    have bM_0 : World.cell? w3 ⟨w.heap.size, 0, none⟩ = some (.int .i64 num) := bM.cell 0
    have bM_1 : World.cell? w3 ⟨w.heap.size, 1, none⟩ = some (.slice q l.length cp) := bM.cell 1
    have bM_l := bM.lt
    go_wp2_with fail
    clear bM_0 bM_1 bM_l
    refine (dealloc_End hL hR).mono ?_
    rintro e w4 ⟨rfl, hZ3⟩
    have hE3 : Ext w3 w4 := Ext.trans (by repeat (first | exact Ext.refl _ | apply Ext.alloc | apply Ext.drew)) hZ3
    replace bM := bM.ext hE3
    replace hL := hL.ext hE3
    replace hR := hR.ext hE3
    replace hP := hP.ext hE3
    have hF3 := Ext.trans (hF2) hE3
    rw [hEn.out]
    try simp only [if_false, Bool.false_eq_true]
    have bM_0 : World.cell? w4 ⟨w.heap.size, 0, none⟩ = some (.int .i64 num) := bM.cell 0
    have bM_1 : World.cell? w4 ⟨w.heap.size, 1, none⟩ = some (.slice q l.length cp) := bM.cell 1
    have bM_l := bM.lt
    go_wp2_with fail
    clear bM_0 bM_1 bM_l
    refine (dealloc_Protects hL hR).mono ?_
    rintro e w5 ⟨vhib, rfl, ohib, hZ4⟩
    have hE4 : Ext w4 w5 := Ext.trans (by repeat (first | exact Ext.refl _ | apply Ext.alloc | apply Ext.drew)) hZ4
    replace bM := bM.ext hE4
    replace hL := hL.ext hE4
    replace hR := hR.ext hE4
    replace hP := hP.ext hE4
    have hF4 := Ext.trans (hF3) hE4
    rw [hPr.out] at ohib ⊢
    have hib : Its _ _ L := (OwnI.its ohib)
    obtain ⟨ahib, chib, rfl, -⟩ := hib.form
    clear ohib
    dsimp only at hib ⊢
    have bM_0 : World.cell? w5 ⟨w.heap.size, 0, none⟩ = some (.int .i64 num) := bM.cell 0
    have bM_1 : World.cell? w5 ⟨w.heap.size, 1, none⟩ = some (.slice q l.length cp) := bM.cell 1
    have bM_l := bM.lt
    go_wp2_with fail
    clear bM_0 bM_1 bM_l
    refine (law34_may_yes hL (Nts.nil _) hEnil.out).mono ?_
    rintro e w6 ⟨rfl, hZ5⟩
    have hE5 : Ext w5 w6 := Ext.trans (by repeat (first | exact Ext.refl _ | apply Ext.alloc | apply Ext.drew)) hZ5
    replace bM := bM.ext hE5
    replace hL := hL.ext hE5
    replace hR := hR.ext hE5
    replace hP := hP.ext hE5
    replace hib := hib.ext hE5
    have hF5 := Ext.trans (hF4) hE5
    have bM_0 : World.cell? w6 ⟨w.heap.size, 0, none⟩ = some (.int .i64 num) := bM.cell 0
    have bM_1 : World.cell? w6 ⟨w.heap.size, 1, none⟩ = some (.slice q l.length cp) := bM.cell 1
    have bM_l := bM.lt
    go_wp2
    clear bM_0 bM_1 bM_l
    go_loopw [12, 13] (fun nv iv wr => ∃ i n : Nat, i ≤ l.length ∧ iv = .int .i64 i ∧ nv = .int .i64 n ∧ Hid (n = (keptL (l.take i) run).length) ∧ Ext w6 wr) (fun _ iv _ => l.length - (intOf iv).toNat)
    case atStart => exact ⟨0, 0, Nat.zero_le _, rfl, rfl, Hid.mk (by simp [keptL]), Ext.refl _⟩
    case round =>
      obtain ⟨i, n, hi, rfl, rfl, hn, hX⟩ := hrel
      have bX := bM.ext hX
      have bM_0 : World.cell? wr ⟨w.heap.size, 0, none⟩ = some (.int .i64 num) := bX.cell 0
      have bM_1 : World.cell? wr ⟨w.heap.size, 1, none⟩ = some (.slice q l.length cp) := bX.cell 1
      by_cases hlt : i < l.length
      · have hlt' : decide (i < l.length) = true := decide_eq_true hlt
        obtain ⟨x, hx⟩ : ∃ x, l[i]? = some x := ⟨l[i], by simp [hlt]⟩
        have hxb := hxl.out i x hx
        have hks := Lib.hid (kept_succ (run := run) hx)
        have hXl := Lib.hid hx
        clear hx
        go_wp2
        clear bM_0 bM_1 bX
        go_loopw [12, 14] (fun nv kv wq => ∃ k m : Nat, k ≤ x.length ∧ kv = .int .i64 k ∧ nv = .int .i64 m ∧ Hid (m = (keptL (l.take i) run).length + ((x.take k).filter (heldBy run)).length) ∧ Ext w6 wq) (fun _ kv _ => x.length - (intOf kv).toNat)
        case atStart => exact ⟨0, n, Nat.zero_le _, rfl, rfl, Hid.mk (by rw [hn.out]; simp), hX⟩
        case round =>
          obtain ⟨k, m, hk, rfl, rfl, hm, hY⟩ := hrel
          have bY := bM.ext hY
          have bM_0 : World.cell? wr ⟨w.heap.size, 0, none⟩ = some (.int .i64 num) := bY.cell 0
          have bM_1 : World.cell? wr ⟨w.heap.size, 1, none⟩ = some (.slice q l.length cp) := bY.cell 1
          obtain ⟨b, off, s, rfl, hb, hc, his⟩ := (hL.ext hY).cell hXl.out
          obtain ⟨pa, pc, rfl, -⟩ := his.form
          by_cases hkt : k < x.length
          · have hkt' : decide (k < x.length) = true := decide_eq_true hkt
            obtain ⟨y, hy⟩ : ∃ y, x[k]? = some y := ⟨x[k], by simp [hkt]⟩
            obtain ⟨hh1, hh2⟩ := hat.out i k x y hXl.out hy
            obtain ⟨b0, o0, rfl, hb0, c0, c1, c2⟩ := his.cell hy
            have hyl := Lib.hid hy
            clear hy
            cases hq : heldBy run y
            · rw [hq] at hh1
              have hms := Lib.hid (filt_no hyl.out hq)
              replace hh1 := Lib.hid hh1
              clear hh2 hq
              go_wp2_with fail
              refine (guard_Held (l := [y]) (Its.lit _ _ _ _ _ (by simp) rfl (by simp [maxLen]) rfl) ((hR.ext hY).ext (by repeat (first | exact Ext.refl _ | apply Ext.alloc | apply Ext.drew)))).mono ?_
              rintro e w31 ⟨rfl, hZ⟩
              rw [hh1.out]
              have hYZ := hY.trans (Ext.trans (by repeat (first | exact Ext.refl _ | apply Ext.alloc | apply Ext.drew)) hZ)
              go_wp2
              go_roundw
              case rel => exact ⟨k + 1, m, by omega, by go_num, rfl, Hid.mk (by rw [hms.out]; exact hm.out), hYZ⟩
              case measure => simp [intOf]; omega
            · rw [hq] at hh1
              have hms := Lib.hid (filt_len_yes (q := heldBy run) hyl.out hq)
              have hLy := hh2 hq
              replace hh1 := Lib.hid hh1
              clear hh2 hq
              rw [← hm.out] at hLy
              have hmL : m < L.length := (List.getElem?_eq_some_iff.1 hLy).1
              have hmL1 : decide (L.length ≤ m) = false := decide_eq_false (by omega)
              have hmL2 : decide ((L.length : Int) ≤ (m : Int)) = false := decide_eq_false (by omega)
              replace hLy := Lib.hid hLy
              go_wp2_with fail
              refine (guard_Held (l := [y]) (Its.lit _ _ _ _ _ (by simp) rfl (by simp [maxLen]) rfl) ((hR.ext hY).ext (by repeat (first | exact Ext.refl _ | apply Ext.alloc | apply Ext.drew)))).mono ?_
              rintro e w31 ⟨rfl, hZ⟩
              rw [hh1.out]
              have hYw := (Ext.trans (by repeat (first | exact Ext.refl _ | apply Ext.alloc | apply Ext.drew)) hZ : Ext wr w31)
              have hYZ := hY.trans hYw
              obtain ⟨bL, oL, rfl, hbL, d0, d1, d2⟩ := (hib.ext hYZ).cell hLy.out
              replace bM_0 := Ext.cell hYw bM_0
              replace bM_1 := Ext.cell hYw bM_1
              replace hc := Ext.cell hYw hc
              replace c0 := Ext.cell hYw c0
              replace c1 := Ext.cell hYw c1
              replace c2 := Ext.cell hYw c2
              have hne := run_neq_item y y
              simp only [ne_eq, not_true_eq_false, decide_false] at hne
              unfold Item.val at hne
              have hi0 : (0 : Int) ≤ (m : Int) := by omega
              have hi1 : (m : Int) < (L.length : Int) := by omega
              have hi2 : (0 : Int) ≤ (i : Int) := by omega
              have hi3 : (i : Int) < (l.length : Int) := by omega
              have hi4 : (0 : Int) ≤ (k : Int) := by omega
              have hi5 : (k : Int) < (x.length : Int) := by omega
              clear hb hb0 hbL
              go_wp2
              go_quiet (fail)
              go_wp2
              go_roundw
              case rel => exact ⟨k + 1, m + 1, by omega, by go_num, by go_num, Hid.mk (by rw [hms.out, hm.out]; omega), (by first | exact hYZ.drewN _ | exact hYZ)⟩
              case measure => simp [intOf]; omega
          · have hke : k = x.length := by omega
            subst hke
            go_wp2
            go_roundw
            case rel => exact ⟨i + 1, m, by omega, by go_num, rfl, Hid.mk (by rw [hks.out, List.length_append, hm.out, List.take_length]), hY⟩
            case measure => simp [intOf]; omega
      · have hie : i = l.length := by omega
        subst hie
        have hnL : n = L.length := by rw [hn.out, List.take_length, hLd.out]
        subst hnL
        clear hlt hn hat hxl hi
        have hRx := hR.ext hX
        have hLx := hL.ext hX
        rcases hcase.out with g1 | ⟨g1, g2⟩ | ⟨g1, g2, ci, rfl, hci⟩
        · go_wp2
          go_ret
          exact ⟨rfl, hF5.trans hX⟩
        · go_wp2
          go_ret
          exact ⟨rfl, hF5.trans hX⟩
        obtain ⟨ev, hev, hv0⟩ := hfew.out ci hci
        replace hev := Lib.hid hev
        clear hv0
        clear hfew hcase
        obtain ⟨b2, d2, hs2, hn2⟩ := slice_from_Ints a2 run cp2 ((ci : Int) + 1) (ci + 1) (by simp) (by omega)
        have hs1 := slice_upto_Ints a2 run.length cp2 (ci : Int) ci rfl (by omega)
        have hw1 : IntKind.i64.wrap ((ci : Int) + 1) = (ci : Int) + 1 := IntWalk.i64_in _ (by omega)
        obtain ⟨ti, z, hi', hz, hi3, hz3, hby⟩ := Int.infoE
        replace hz := Lib.hid hz; replace hi3 := Lib.hid hi3; replace hz3 := Lib.hid hz3; replace hby := Lib.hid hby; replace hi' := Lib.hid hi'
        replace hn2 := Lib.hid hn2
        have ht1 := hRx.take ci (by omega)
        have ht2 := hn2.out _ hRx
        unfold Nts at ht1 ht2
        rw [List.length_take, Nat.min_eq_left (by omega)] at ht1
        rw [List.length_drop] at ht2
        replace ht1 := Lib.hid ht1; replace ht2 := Lib.hid ht2
        have bX2 := bX
        go_wp2
        go_region_held3 (fun w' => Ext wr w') (first | assumption | exact (Ext.refl _).drew | exact Ext.refl _ | exact ((Ext.refl _).alloc _).drew | exact (Ext.refl _).alloc _ | exact hEx2 | exact hEx1 | exact hEx2.drew | exact hEx1.drew) (first | (rw [if_pos (by rfl)]; refine wp_append_any (.tmp 149) (.tmp 152) 37 37 rfl rfl rfl (B := wr.heap.size) (e := 3) (n := 0) (m := ci) (xs := []) (ys := (run.take ci).flatMap irow) Tryd.underlying37 Tryd.underlying37 hi'.out hz.out hi3.out hz3.out ?_ ?_ ?_ ?_ ?_ ?_ ?_; (first | exact (Own.made wr wr.heap.size 3 1 (Nat.le_refl _)).ext (Ext.refl _).drew | exact Own.made wr wr.heap.size 3 1 (Nat.le_refl _)); (first | exact ht1.out.ext ((Ext.refl _).alloc _).drew | exact ht1.out.ext ((Ext.refl _).alloc _)); (exact Nts.one _); (simp [maxLen]; omega); (rw [hby.out]; omega); (simp); intro v1 x1 hO1 hK1 _ _; (first | (have hEx1 : Ext wr x1 := Below.trans ((Ext.refl wr).alloc _).drew hK1.below) | (have hEx1 : Ext wr x1 := Below.trans ((Ext.refl wr).alloc _) hK1.below)); have hO1 := Lib.hid hO1; clear hK1) | (rw [if_pos (by rfl)]; refine wp_append_any (.tmp 153) (.tmp 157) 37 37 rfl rfl rfl (B := wr.heap.size) (e := 3) (n := 0 + ci) (m := run.length - (ci + 1)) (xs := [] ++ (run.take ci).flatMap irow) (ys := (run.drop (ci + 1)).flatMap irow) Tryd.underlying37 Tryd.underlying37 hi'.out hz.out hi3.out hz3.out ?_ ?_ ?_ ?_ ?_ ?_ ?_; (first | exact hO1.out | exact hO1.out.ext (Ext.refl _).drew); (first | exact ht2.out.ext hEx1 | exact ht2.out.ext hEx1.drew); (exact Nts.one _); (simp [maxLen]; omega); (rw [hby.out]; omega); (first | exact hEx1.size | exact hEx1.drew.size); intro v2 x2 hO2 hK2 _ _; (first | (have hEx2 : Ext wr x2 := Below.trans hEx1 hK2.below) | (have hEx2 : Ext wr x2 := Below.trans hEx1.drew hK2.below)); have hO2 := Lib.hid hO2; clear hK2))
        all_goals
          have hNf : Nts x2 v2 (run.take ci ++ run.drop (ci + 1)) := by
            have h := hO2.out.sl
            unfold Nts
            rw [List.nil_append, ← List.flatMap_append] at h
            rw [List.length_append, List.length_take, List.length_drop, Nat.min_eq_left (by omega)]
            rw [Nat.zero_add] at h
            exact h
          have hLz := hLx.ext hEx2
          have bZ := bX2.ext hEx2
          have bM_0 : World.cell? x2 ⟨w.heap.size, 0, none⟩ = some (.int .i64 num) := bZ.cell 0
          have bM_1 : World.cell? x2 ⟨w.heap.size, 1, none⟩ = some (.slice q l.length cp) := bZ.cell 1
          clear ht1 ht2 hs1 hs2 hw1 hn2 g1 g2
          try clear hO1
          try clear hO2
          go_wp2_with fail
          refine (dealloc_End hLz hNf).mono ?_
          rintro e w41 ⟨rfl, hZ⟩
          rw [hev.out]
          go_wp2
          go_ret
          exact ⟨rfl, hF5.trans (hX.trans (hEx2.trans hZ))⟩

  · rw [hfr] at hEn hfk hfew
    have l0 : (L.length == 0) = true := hfk.symm
    have l0' : ((L.length : Int) == 0) = true := by simpa using l0
    replace hEn := Lib.hid hEn
    clear hfk hfr
    go_enter Tryd.func10, Tryd.ntmps10
    go_wp2_with fail
    try clear hw0
    refine (law34_alive hP).mono ?_
    rintro e w1 ⟨rfl, hZ0⟩
    have hE0 : Ext w0 w1 := Ext.trans (by repeat (first | exact Ext.refl _ | apply Ext.alloc | apply Ext.drew)) hZ0
    replace bM := bM.ext hE0
    replace hL := hL.ext hE0
    replace hR := hR.ext hE0
    replace hP := hP.ext hE0
    have hF0 := Ext.trans (hF) hE0
    have bM_0 : World.cell? w1 ⟨w.heap.size, 0, none⟩ = some (.int .i64 num) := bM.cell 0
    have bM_1 : World.cell? w1 ⟨w.heap.size, 1, none⟩ = some (.slice q l.length cp) := bM.cell 1
    have bM_l := bM.lt
    go_wp2_with fail
    clear bM_0 bM_1 bM_l
    refine (ref33_Great hL).mono ?_
    rintro e w2 ⟨rfl, hZ1⟩
    have hE1 : Ext w1 w2 := Ext.trans (by repeat (first | exact Ext.refl _ | apply Ext.alloc | apply Ext.drew)) hZ1
    replace bM := bM.ext hE1
    replace hL := hL.ext hE1
    replace hR := hR.ext hE1
    replace hP := hP.ext hE1
    have hF1 := Ext.trans (hF0) hE1
    rw [hg.out]
    have bM_0 : World.cell? w2 ⟨w.heap.size, 0, none⟩ = some (.int .i64 num) := bM.cell 0
    have bM_1 : World.cell? w2 ⟨w.heap.size, 1, none⟩ = some (.slice q l.length cp) := bM.cell 1
    have bM_l := bM.lt
    go_wp2_with fail
    clear bM_0 bM_1 bM_l
    refine (ref31_Check hR).mono ?_
    rintro e wz ⟨rfl, rfl⟩
    rw [hrc.out]
    have bM_0 : World.cell? w2 ⟨w.heap.size, 0, none⟩ = some (.int .i64 num) := bM.cell 0
    have bM_1 : World.cell? w2 ⟨w.heap.size, 1, none⟩ = some (.slice q l.length cp) := bM.cell 1
    have bM_l := bM.lt
    go_wp2_with fail
    clear bM_0 bM_1 bM_l
    refine (ref33_Check hL).mono ?_
    rintro e w3 ⟨rfl, hZ2⟩
    have hE2 : Ext w2 w3 := Ext.trans (by repeat (first | exact Ext.refl _ | apply Ext.alloc | apply Ext.drew)) hZ2
    replace bM := bM.ext hE2
    replace hL := hL.ext hE2
    replace hR := hR.ext hE2
    replace hP := hP.ext hE2
    have hF2 := Ext.trans (hF1) hE2
    rw [hck.out]
    have bM_0 : World.cell? w3 ⟨w.heap.size, 0, none⟩ = some (.int .i64 num) := bM.cell 0
    have bM_1 : World.cell? w3 ⟨w.heap.size, 1, none⟩ = some (.slice q l.length cp) := bM.cell 1
    have bM_l := bM.lt
    go_wp2_with fail
    clear bM_0 bM_1 bM_l
    refine (dealloc_End hL hR).mono ?_
    rintro e w4 ⟨rfl, hZ3⟩
    have hE3 : Ext w3 w4 := Ext.trans (by repeat (first | exact Ext.refl _ | apply Ext.alloc | apply Ext.drew)) hZ3
    replace bM := bM.ext hE3
    replace hL := hL.ext hE3
    replace hR := hR.ext hE3
    replace hP := hP.ext hE3
    have hF3 := Ext.trans (hF2) hE3
    rw [hEn.out]
    try simp only [if_true]
    have bM_0 : World.cell? w4 ⟨w.heap.size, 0, none⟩ = some (.int .i64 num) := bM.cell 0
    have bM_1 : World.cell? w4 ⟨w.heap.size, 1, none⟩ = some (.slice q l.length cp) := bM.cell 1
    have bM_l := bM.lt
    go_wp2_with fail
    clear bM_0 bM_1 bM_l
    refine (dealloc_Protects hL hR).mono ?_
    rintro e w5 ⟨vhib, rfl, ohib, hZ4⟩
    have hE4 : Ext w4 w5 := Ext.trans (by repeat (first | exact Ext.refl _ | apply Ext.alloc | apply Ext.drew)) hZ4
    replace bM := bM.ext hE4
    replace hL := hL.ext hE4
    replace hR := hR.ext hE4
    replace hP := hP.ext hE4
    have hF4 := Ext.trans (hF3) hE4
    rw [hPr.out] at ohib ⊢
    have hib : Its _ _ L := (OwnI.its ohib)
    obtain ⟨ahib, chib, rfl, -⟩ := hib.form
    clear ohib
    dsimp only at hib ⊢
    have bM_0 : World.cell? w5 ⟨w.heap.size, 0, none⟩ = some (.int .i64 num) := bM.cell 0
    have bM_1 : World.cell? w5 ⟨w.heap.size, 1, none⟩ = some (.slice q l.length cp) := bM.cell 1
    have bM_l := bM.lt
    go_wp2_with fail
    clear bM_0 bM_1 bM_l
    refine (law34_may_yes hL (Nts.nil _) hEnil.out).mono ?_
    rintro e w6 ⟨rfl, hZ5⟩
    have hE5 : Ext w5 w6 := Ext.trans (by repeat (first | exact Ext.refl _ | apply Ext.alloc | apply Ext.drew)) hZ5
    replace bM := bM.ext hE5
    replace hL := hL.ext hE5
    replace hR := hR.ext hE5
    replace hP := hP.ext hE5
    replace hib := hib.ext hE5
    have hF5 := Ext.trans (hF4) hE5
    have bM_0 : World.cell? w6 ⟨w.heap.size, 0, none⟩ = some (.int .i64 num) := bM.cell 0
    have bM_1 : World.cell? w6 ⟨w.heap.size, 1, none⟩ = some (.slice q l.length cp) := bM.cell 1
    have bM_l := bM.lt
    go_wp2
    clear bM_0 bM_1 bM_l
    go_loopw [12, 13] (fun nv iv wr => ∃ i n : Nat, i ≤ l.length ∧ iv = .int .i64 i ∧ nv = .int .i64 n ∧ Hid (n = (keptL (l.take i) run).length) ∧ Ext w6 wr) (fun _ iv _ => l.length - (intOf iv).toNat)
    case atStart => exact ⟨0, 0, Nat.zero_le _, rfl, rfl, Hid.mk (by simp [keptL]), Ext.refl _⟩
    case round =>
      obtain ⟨i, n, hi, rfl, rfl, hn, hX⟩ := hrel
      have bX := bM.ext hX
      have bM_0 : World.cell? wr ⟨w.heap.size, 0, none⟩ = some (.int .i64 num) := bX.cell 0
      have bM_1 : World.cell? wr ⟨w.heap.size, 1, none⟩ = some (.slice q l.length cp) := bX.cell 1
      by_cases hlt : i < l.length
      · have hlt' : decide (i < l.length) = true := decide_eq_true hlt
        obtain ⟨x, hx⟩ : ∃ x, l[i]? = some x := ⟨l[i], by simp [hlt]⟩
        have hxb := hxl.out i x hx
        have hks := Lib.hid (kept_succ (run := run) hx)
        have hXl := Lib.hid hx
        clear hx
        go_wp2
        clear bM_0 bM_1 bX
        go_loopw [12, 14] (fun nv kv wq => ∃ k m : Nat, k ≤ x.length ∧ kv = .int .i64 k ∧ nv = .int .i64 m ∧ Hid (m = (keptL (l.take i) run).length + ((x.take k).filter (heldBy run)).length) ∧ Ext w6 wq) (fun _ kv _ => x.length - (intOf kv).toNat)
        case atStart => exact ⟨0, n, Nat.zero_le _, rfl, rfl, Hid.mk (by rw [hn.out]; simp), hX⟩
        case round =>
          obtain ⟨k, m, hk, rfl, rfl, hm, hY⟩ := hrel
          have bY := bM.ext hY
          have bM_0 : World.cell? wr ⟨w.heap.size, 0, none⟩ = some (.int .i64 num) := bY.cell 0
          have bM_1 : World.cell? wr ⟨w.heap.size, 1, none⟩ = some (.slice q l.length cp) := bY.cell 1
          obtain ⟨b, off, s, rfl, hb, hc, his⟩ := (hL.ext hY).cell hXl.out
          obtain ⟨pa, pc, rfl, -⟩ := his.form
          by_cases hkt : k < x.length
          · have hkt' : decide (k < x.length) = true := decide_eq_true hkt
            obtain ⟨y, hy⟩ : ∃ y, x[k]? = some y := ⟨x[k], by simp [hkt]⟩
            obtain ⟨hh1, hh2⟩ := hat.out i k x y hXl.out hy
            obtain ⟨b0, o0, rfl, hb0, c0, c1, c2⟩ := his.cell hy
            have hyl := Lib.hid hy
            clear hy
            cases hq : heldBy run y
            · rw [hq] at hh1
              have hms := Lib.hid (filt_no hyl.out hq)
              replace hh1 := Lib.hid hh1
              clear hh2 hq
              go_wp2_with fail
              refine (guard_Held (l := [y]) (Its.lit _ _ _ _ _ (by simp) rfl (by simp [maxLen]) rfl) ((hR.ext hY).ext (by repeat (first | exact Ext.refl _ | apply Ext.alloc | apply Ext.drew)))).mono ?_
              rintro e w31 ⟨rfl, hZ⟩
              rw [hh1.out]
              have hYZ := hY.trans (Ext.trans (by repeat (first | exact Ext.refl _ | apply Ext.alloc | apply Ext.drew)) hZ)
              go_wp2
              go_roundw
              case rel => exact ⟨k + 1, m, by omega, by go_num, rfl, Hid.mk (by rw [hms.out]; exact hm.out), hYZ⟩
              case measure => simp [intOf]; omega
            · rw [hq] at hh1
              have hms := Lib.hid (filt_len_yes (q := heldBy run) hyl.out hq)
              have hLy := hh2 hq
              replace hh1 := Lib.hid hh1
              clear hh2 hq
              rw [← hm.out] at hLy
              have hmL : m < L.length := (List.getElem?_eq_some_iff.1 hLy).1
              have hmL1 : decide (L.length ≤ m) = false := decide_eq_false (by omega)
              have hmL2 : decide ((L.length : Int) ≤ (m : Int)) = false := decide_eq_false (by omega)
              replace hLy := Lib.hid hLy
              go_wp2_with fail
              refine (guard_Held (l := [y]) (Its.lit _ _ _ _ _ (by simp) rfl (by simp [maxLen]) rfl) ((hR.ext hY).ext (by repeat (first | exact Ext.refl _ | apply Ext.alloc | apply Ext.drew)))).mono ?_
              rintro e w31 ⟨rfl, hZ⟩
              rw [hh1.out]
              have hYw := (Ext.trans (by repeat (first | exact Ext.refl _ | apply Ext.alloc | apply Ext.drew)) hZ : Ext wr w31)
              have hYZ := hY.trans hYw
              obtain ⟨bL, oL, rfl, hbL, d0, d1, d2⟩ := (hib.ext hYZ).cell hLy.out
              replace bM_0 := Ext.cell hYw bM_0
              replace bM_1 := Ext.cell hYw bM_1
              replace hc := Ext.cell hYw hc
              replace c0 := Ext.cell hYw c0
              replace c1 := Ext.cell hYw c1
              replace c2 := Ext.cell hYw c2
              have hne := run_neq_item y y
              simp only [ne_eq, not_true_eq_false, decide_false] at hne
              unfold Item.val at hne
              have hi0 : (0 : Int) ≤ (m : Int) := by omega
              have hi1 : (m : Int) < (L.length : Int) := by omega
              have hi2 : (0 : Int) ≤ (i : Int) := by omega
              have hi3 : (i : Int) < (l.length : Int) := by omega
              have hi4 : (0 : Int) ≤ (k : Int) := by omega
              have hi5 : (k : Int) < (x.length : Int) := by omega
              clear hb hb0 hbL
              go_wp2
              go_quiet (fail)
              go_wp2
              go_roundw
              case rel => exact ⟨k + 1, m + 1, by omega, by go_num, by go_num, Hid.mk (by rw [hms.out, hm.out]; omega), (by first | exact hYZ.drewN _ | exact hYZ)⟩
              case measure => simp [intOf]; omega
          · have hke : k = x.length := by omega
            subst hke
            go_wp2
            go_roundw
            case rel => exact ⟨i + 1, m, by omega, by go_num, rfl, Hid.mk (by rw [hks.out, List.length_append, hm.out, List.take_length]), hY⟩
            case measure => simp [intOf]; omega
      · have hie : i = l.length := by omega
        subst hie
        have hnL : n = L.length := by rw [hn.out, List.take_length, hLd.out]
        subst hnL
        clear hlt hn hat hxl hi
        have hRx := hR.ext hX
        have hLx := hL.ext hX
        rcases hcase.out with g1 | ⟨g1, g2⟩ | ⟨g1, g2, ci, rfl, hci⟩
        · go_wp2
          go_ret
          exact ⟨rfl, hF5.trans hX⟩
        · go_wp2
          go_ret
          exact ⟨rfl, hF5.trans hX⟩
        obtain ⟨ev, hev, hv0⟩ := hfew.out ci hci
        replace hev := Lib.hid hev
        obtain rfl := hv0 (by first | rfl | trivial)
        clear hfew hcase
        obtain ⟨b2, d2, hs2, hn2⟩ := slice_from_Ints a2 run cp2 ((ci : Int) + 1) (ci + 1) (by simp) (by omega)
        have hs1 := slice_upto_Ints a2 run.length cp2 (ci : Int) ci rfl (by omega)
        have hw1 : IntKind.i64.wrap ((ci : Int) + 1) = (ci : Int) + 1 := IntWalk.i64_in _ (by omega)
        obtain ⟨ti, z, hi', hz, hi3, hz3, hby⟩ := Int.infoE
        replace hz := Lib.hid hz; replace hi3 := Lib.hid hi3; replace hz3 := Lib.hid hz3; replace hby := Lib.hid hby; replace hi' := Lib.hid hi'
        replace hn2 := Lib.hid hn2
        have ht1 := hRx.take ci (by omega)
        have ht2 := hn2.out _ hRx
        unfold Nts at ht1 ht2
        rw [List.length_take, Nat.min_eq_left (by omega)] at ht1
        rw [List.length_drop] at ht2
        replace ht1 := Lib.hid ht1; replace ht2 := Lib.hid ht2
        have bX2 := bX
        go_wp2
        go_region_held3 (fun w' => Ext wr w') (first | assumption | exact (Ext.refl _).drew | exact Ext.refl _ | exact ((Ext.refl _).alloc _).drew | exact (Ext.refl _).alloc _ | exact hEx2 | exact hEx1 | exact hEx2.drew | exact hEx1.drew) (first | (rw [if_pos (by rfl)]; refine wp_append_any (.tmp 149) (.tmp 152) 37 37 rfl rfl rfl (B := wr.heap.size) (e := 3) (n := 0) (m := ci) (xs := []) (ys := (run.take ci).flatMap irow) Tryd.underlying37 Tryd.underlying37 hi'.out hz.out hi3.out hz3.out ?_ ?_ ?_ ?_ ?_ ?_ ?_; (first | exact (Own.made wr wr.heap.size 3 1 (Nat.le_refl _)).ext (Ext.refl _).drew | exact Own.made wr wr.heap.size 3 1 (Nat.le_refl _)); (first | exact ht1.out.ext ((Ext.refl _).alloc _).drew | exact ht1.out.ext ((Ext.refl _).alloc _)); (exact Nts.one _); (simp [maxLen]; omega); (rw [hby.out]; omega); (simp); intro v1 x1 hO1 hK1 _ _; (first | (have hEx1 : Ext wr x1 := Below.trans ((Ext.refl wr).alloc _).drew hK1.below) | (have hEx1 : Ext wr x1 := Below.trans ((Ext.refl wr).alloc _) hK1.below)); have hO1 := Lib.hid hO1; clear hK1) | (rw [if_pos (by rfl)]; refine wp_append_any (.tmp 153) (.tmp 157) 37 37 rfl rfl rfl (B := wr.heap.size) (e := 3) (n := 0 + ci) (m := run.length - (ci + 1)) (xs := [] ++ (run.take ci).flatMap irow) (ys := (run.drop (ci + 1)).flatMap irow) Tryd.underlying37 Tryd.underlying37 hi'.out hz.out hi3.out hz3.out ?_ ?_ ?_ ?_ ?_ ?_ ?_; (first | exact hO1.out | exact hO1.out.ext (Ext.refl _).drew); (first | exact ht2.out.ext hEx1 | exact ht2.out.ext hEx1.drew); (exact Nts.one _); (simp [maxLen]; omega); (rw [hby.out]; omega); (first | exact hEx1.size | exact hEx1.drew.size); intro v2 x2 hO2 hK2 _ _; (first | (have hEx2 : Ext wr x2 := Below.trans hEx1 hK2.below) | (have hEx2 : Ext wr x2 := Below.trans hEx1.drew hK2.below)); have hO2 := Lib.hid hO2; clear hK2))
        all_goals
          have hNf : Nts x2 v2 (run.take ci ++ run.drop (ci + 1)) := by
            have h := hO2.out.sl
            unfold Nts
            rw [List.nil_append, ← List.flatMap_append] at h
            rw [List.length_append, List.length_take, List.length_drop, Nat.min_eq_left (by omega)]
            rw [Nat.zero_add] at h
            exact h
          have hLz := hLx.ext hEx2
          have bZ := bX2.ext hEx2
          have bM_0 : World.cell? x2 ⟨w.heap.size, 0, none⟩ = some (.int .i64 num) := bZ.cell 0
          have bM_1 : World.cell? x2 ⟨w.heap.size, 1, none⟩ = some (.slice q l.length cp) := bZ.cell 1
          clear ht1 ht2 hs1 hs2 hw1 hn2 g1 g2
          try clear hO1
          try clear hO2
          go_wp2_with fail
          refine (dealloc_End hLz hNf).mono ?_
          rintro e w41 ⟨rfl, hZ⟩
          rw [hev.out]
          go_wp2
          go_ret
          exact ⟨rfl, hF5.trans (hX.trans (hEx2.trans hZ))⟩

set_option maxRecDepth 100000 in
theorem deallocNothing_contract (H : Type) (enc : TypeId × Value → H) (W : World) (base : Nat) (args : Array Value) (ds gs : List (DataW H)) (before : List MemPlace)
    (hval0 : ∀ (j : Nat) t v, Tryd.f10.params[j]? = some t → args[j]? = some v → Value.okWide Tryd.prog W .any base t v)
    (hW : DataW.Whole enc Tryd.prog Tryd.f10.params.toList Rows.deallocNothingSpec.vars false W args.toList ds gs before) (hL : laidMetH Tryd.prog Rows.deallocNothingRow.laid W) :
    Calls Tryd.prog 10 args W fun e W' => ∃ v, e = .returned v ∧ Rows.deallocNothingSpec.post enc Tryd.prog Tryd.f10 false true false false W args v W' := by
  have hval : ∀ (j : Nat) t v, Tryd.f10.params[j]? = some t → args[j]? = some v → Value.okWide Tryd.prog W .any base t v := hval0
  have hW' := hW
  obtain ⟨p, q, hA0, hV, rfl, hfz, hnd⟩ := hW
  have hA : DataW.TrodAll enc Tryd.prog W 0 (fun _ => true) true Tryd.f10.params.toList args.toList ds p := hA0
  rw [Tryd.params10] at hA hval
  obtain ⟨v0, vs0, d0, ds0, p0, q0, hargs, rfl, rfl, h0, r0⟩ := trodAll_cons hA
  obtain ⟨v1, vs1, d1, ds1, p1, q1, rfl, rfl, rfl, h1, r1⟩ := trodAll_cons r0
  obtain ⟨v2, vs2, d2, ds2, p2, q2, rfl, rfl, rfl, h2, r2⟩ := trodAll_cons r1
  obtain ⟨rfl, rfl, rfl⟩ := trodAll_nil r2
  obtain rfl : args = #[v0, v1, v2] := by cases args; simp_all
  obtain ⟨x0, u0, rfl, k0, wf0⟩ := open_stacks (hval 0 56 v0 rfl rfl) h0
  obtain ⟨x1, k1, wf1⟩ := open_ints' Tryd.underlying37 (hval 1 37 v1 rfl rfl) h1
  obtain ⟨x2, rfl, rfl, rfl, wf2⟩ := open_int Tryd.underlying3 (hval 2 3 v2 rfl rfl) h2
  refine (deallocNothing_walk (perms_of_laid hL) x2 k0 k1).mono fun e W' ⟨he, hb⟩ => ?_
  subst he
  exact ⟨_, rfl, post_law TrydlaidOut (tb := 4) rfl Tryd.underlying4 (by kernel_rfl) rfl (fun ds hd => match ds, hd with | [a0, a1, a2], _ => rfl) hW' hb⟩
theorem deallocNothing_met (os : Os) : laidMet Tryd.prog Rows.deallocNothingRow.laid ((doorWorld os).forCall (fun _ _ => 0) ⟨#[], #[.agg #[.int .i64 0, .slice none 0 0], .slice none 0 0, .int .i64 0], []⟩).memory :=
  laidMet_of_run' 8 (by kernel_rfl) (by kernel_rfl)
theorem deallocNothing_reads (os : Os) {H : Type} (enc : TypeId × Value → H) : ∃ places, DataW.whole enc Tryd.prog ((doorWorld os).forCall (fun _ _ => 0) ⟨#[], #[.agg #[.int .i64 0, .slice none 0 0], .slice none 0 0, .int .i64 0], []⟩).memory Tryd.f10.params.toList Rows.deallocNothingSpec.vars false (#[.agg #[.int .i64 0, .slice none 0 0], .slice none 0 0, .int .i64 0] : Array Value).toList 8 = some ([.agg [.lit (.int .i64 0), .nil], .nil, .lit (.int .i64 0)], [], places) :=
  ⟨[], by kernel_rfl⟩
set_option maxRecDepth 100000 in
theorem deallocNothing_lifted (os : Os) (started : os.Started) (H : Type) (enc : TypeId × Value → H) (F : Stop.Interp) :
    ReturnsInHanded {} Tryd.checked os 10 .any ((OpenSpec.ofChange Rows.deallocNothingSpec).preRow enc Tryd.prog Tryd.f10 Rows.deallocNothingRow.domain false Rows.deallocNothingRow.laid) (((OpenSpec.ofChange Rows.deallocNothingSpec).at F).post enc Tryd.prog Tryd.f10 false true false false) := by
  obtain ⟨places, hx⟩ := deallocNothing_reads os enc
  refine returnsInHanded_of_row (C := Tryd.checked) (s := OpenSpec.ofChange Rows.deallocNothingSpec) Trydown started (by kernel_rfl) Tryd.func10
    (witness_row_at (enc := enc) (C := Tryd.checked) false (doorWorld os) #[.agg #[.int .i64 0, .slice none 0 0], .slice none 0 0, .int .i64 0] rfl (by kernel_rfl) (by kernel_rfl) (by kernel_rfl)
      (OpenSpec.preRow_of_cond 8 hx (by kernel_rfl) (fun k hk => by cases hk) (by kernel_rfl) (deallocNothing_met os))) ?_
  intro W base args ds gs before hval hW _ _ _ hL _ _
  exact deallocNothing_contract H enc W base args ds gs before hval hW hL
theorem deallocNothing_said : Rows.DeallocNothingSaid :=
  OpenClaim.holds_of_cond 10 Tryd.f10 rfl rfl rfl rfl rfl rfl rfl ⟨rfl, rfl, rfl, rfl, rfl⟩ rfl rfl rfl rfl rfl (by kernel_rfl) Tryd.func10 (by kernel_rfl)
    (of_decide_eq_true (by kernel_rfl)) (by unfold Func.isWrapper; first | (rw [if_pos (by decide +kernel)]; kernel_rfl) | (rw [if_neg (by decide +kernel)]; exact ⟨rfl, rfl⟩))
    (fun os started H enc _ F => by rw [OpenClaim.pre_eq_preRow]; exact deallocNothing_lifted os started H enc F)
theorem deallocNothing_plain (f : FuncId) (fn : Func) (hf : Tryd.pinned.checked.prog.funcNamed "pawnshop/pawnshoplaw34.DeallocNothing" = some f) (hfn : Tryd.pinned.checked.prog.funcs[f]? = some fn) :
    false = Tryd.pinned.checked.prog.looks [] ∧ ∀ (j : Nat) t, fn.params[j]? = some t → Tryd.pinned.checked.prog.wantsStandIn t = false := by
  obtain rfl : f = 10 := Option.some.inj ((show Tryd.prog.funcNamed "pawnshop/pawnshoplaw34.DeallocNothing" = some 10 by kernel_rfl).symm.trans hf) |>.symm
  obtain rfl : fn = Tryd.f10 := (Option.some.inj (Tryd.func10.symm.trans hfn)).symm
  refine ⟨by kernel_rfl, fun j t ht => ?_⟩
  have hm : t ∈ Tryd.f10.params.toList := by simpa using Array.mem_of_getElem? ht
  have hall : (Tryd.f10.params.toList.all fun u => !Tryd.prog.wantsStandIn u) = true := by kernel_rfl
  exact (show Tryd.prog.wantsStandIn t = false by simpa using List.all_eq_true.1 hall t hm)
theorem deallocNothing_card : Rows.DeallocNothingCardSaid :=
  Claim7.holds_tied_plain_at .later [] _ _ _ _ deallocNothing_said (fun _ h => by cases h) (by kernel_rfl) (fun _ h => by cases h) deallocNothing_row_tie rfl ⟨rfl, rfl⟩ (by kernel_rfl) rfl deallocNothing_plain (by kernel_rfl)

end Go.Proofs.YtjfkfibhgilolaaDoor
