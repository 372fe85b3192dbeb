/- The statement AccessAbove: for every stack, tag and kind of access the call returns true. No condition. -/
import Derived.Test.YtifigkhahabpfaaAccD
import Derived.Test.YtifigkhahabpfaaAccF
import Derived.Test.YtifigkhahabpfaaLaw29A
import Derived.Test.YtifigkhahabpfaaClose
import Derived.BigQuiet
import Derived.Deep.QuietTactic
namespace Go.Proofs.Ytifigkhahabpfaa
open Go.ChangeShapes Go.WideShapes Go.ChangeAt Go.RowKit

set_option maxHeartbeats 25600000 in
set_option maxRecDepth 100000 in
theorem accessAbove_walk {l : List Item} {v : Value} {w : World} (tag : Int) (write : Bool) (hl : Its w v l) :
    Calls Try.prog 11 #[v, .int .i64 tag, .bool write] w fun e w' => e = .returned (.bool true) ∧ Ext w w' := by
  have hF0 := Ext.refl w
  have hL := hl
  obtain ⟨a, cp, rfl, -⟩ := hl.form
  clear hl
  by_cases hg : 610 < l.length
  · go_enter Try.func11, Try.ntmps11
    go_wp2_with fail
    refine (law29_alive _).mono ?_
    rintro e w1 ⟨rfl, hE1⟩
    have hF1 := hF0.trans hE1
    replace hL := hL.ext hE1
    go_wp2_with fail
    refine (ref28_Great hL).mono ?_
    rintro e w2 ⟨rfl, rfl⟩
    go_wp2
    go_ret
    exact ⟨rfl, hF1⟩
  cases hk : okS l
  · have h8 : Hid (chk l = 8) := Hid.mk (by simp [chk, hk])
    go_enter Try.func11, Try.ntmps11
    go_wp2_with fail
    refine (law29_alive _).mono ?_
    rintro e w1 ⟨rfl, hE1⟩
    have hF1 := hF0.trans hE1
    replace hL := hL.ext hE1
    go_wp2_with fail
    refine (ref28_Great hL).mono ?_
    rintro e w2 ⟨rfl, rfl⟩
    go_wp2_with fail
    refine (ref28_Check hL).mono ?_
    rintro e w3 ⟨rfl, hE3⟩
    have hF3 := hF1.trans hE3
    replace hL := hL.ext hE3
    rw [h8.out]
    go_wp2
    go_ret
    exact ⟨rfl, hF3⟩
  have h0 : Hid (chk l = 0) := Hid.mk (by simp [chk, hk])
  cases hf : findAt l tag write with
  | none =>
    have hx : Hid (accL l tag write = [] ∧ accG l tag write = [] ∧ accW l tag write = 1) := Hid.mk (by simp [accL, accG, accW, usedL, usedG, usedW, hk, hf])
    have hfi : Hid (findIx l tag write = 0 ∧ findErr l tag write = 6) := Hid.mk (by simp [findIx, findErr, hk, hf])
    have hma : Hid (mayB l tag write = false) := Hid.mk (by simp [mayB, hk, hf])
    clear hk hf
    go_enter Try.func11, Try.ntmps11
    go_wp2_with fail
    refine (law29_alive _).mono ?_
    rintro e w1 ⟨rfl, hE1⟩
    have hF1 := hF0.trans hE1
    replace hL := hL.ext hE1
    go_wp2_with fail
    refine (ref28_Great hL).mono ?_
    rintro e w2 ⟨rfl, rfl⟩
    go_wp2_with fail
    refine (ref28_Check hL).mono ?_
    rintro e w3 ⟨rfl, hE3⟩
    have hF3 := hF1.trans hE3
    replace hL := hL.ext hE3
    rw [h0.out]
    go_wp2_with fail
    refine (law29_use tag write hL).mono ?_
    rintro e w4 ⟨va, vb, rfl, ha, hb, hE4⟩
    have hF4 := hF3.trans hE4
    replace hL := hL.ext hE4
    rw [hx.out.1] at ha
    rw [hx.out.2.1] at hb
    rw [hx.out.2.2, h0.out]
    obtain ⟨aa, ca, rfl, hca, hcb, -⟩ := ha.form
    obtain ⟨ab, cb, rfl, hcc, hcd, -⟩ := hb.form
    go_wp2_with fail
    refine (items_Find tag write hL).mono ?_
    rintro e w5 ⟨rfl, hE5⟩
    have hF5 := hF4.trans hE5
    replace hL := hL.ext hE5
    replace ha := ha.ext hE5
    replace hb := hb.ext hE5
    rw [hfi.out.1, hfi.out.2]
    go_wp2_with fail
    refine (access_May tag write hL).mono ?_
    rintro e w6 ⟨rfl, hE6⟩
    have hF6 := hF5.trans hE6
    replace hL := hL.ext hE6
    replace ha := ha.ext hE6
    replace hb := hb.ext hE6
    rw [hma.out, h0.out]
    go_wp2
    go_ret
    exact ⟨rfl, hF6⟩
  | some i =>
    obtain ⟨x0, hx0, -, -⟩ := findAt_is hf
    have hil : i < l.length := (List.getElem?_eq_some_iff.1 hx0).1
    have hfi : Hid (findIx l tag write = (i : Int) ∧ findErr l tag write = 0) := Hid.mk (by simp [findIx, findErr, hk, hf])
    have hma : Hid (mayB l tag write = true) := Hid.mk (by simp [mayB, hk, hf])
    have ht : (l.take (i + 1)).length = i + 1 := by rw [List.length_take]; omega
    obtain ⟨m, hm⟩ : ∃ m, useLeft l i write = m := ⟨_, rfl⟩
    obtain ⟨n, hn⟩ : ∃ n, useGone l i write = n := ⟨_, rfl⟩
    have hx : Hid (accL l tag write = m ∧ accG l tag write = n ∧ accW l tag write = 0) := Hid.mk (by simp [accL, accG, accW, usedL, usedG, usedW, hk, hf, hm, hn])
    have hl6 : l.length ≤ 600 := by simp [okS] at hk; omega
    have hil0 : decide ((i : Int) < 0) = false := decide_eq_false (by omega)
    have hid_hx0 := Lib.hid hx0; clear hx0; have hx0 := hid_hx0; clear hid_hx0
    cases write
    · skip
      have hM : (l.take (i + 1)).length = i + 1 := ht
      have hml : m = (l.take (i + 1)) ++ (l.drop (i + 1)).filter (fun x => !(((fun x => x.p == 1) : Item → Bool) x)) := by rw [← hm]; rfl
      have hnl : n = (l.drop (i + 1)).filter (fun x => x.p == 1) := by rw [← hn]; rfl
      have hE := parts_end hil hM hml hnl
      have hm6 : m.length ≤ 600 := by omega
      have hn6 : n.length ≤ 600 := by omega
      have him : i < m.length := by rw [hml, List.length_append, hM]; omega
      have hs : ((m.length : Int) + (n.length : Int) != (l.length : Int)) = false := by simp; omega
      have hs2 : ((m.length : Int) + (n.length : Int) == (l.length : Int)) = true := by simp; omega
      have him0 : decide ((m.length : Int) ≤ (i : Int)) = false := decide_eq_false (by omega)
      have him1 : decide (m.length ≤ i) = false := decide_eq_false (by omega)
      have hid_hm := Lib.hid hm; clear hm; have hm := hid_hm; clear hid_hm; have hid_hn := Lib.hid hn; clear hn; have hn := hid_hn; clear hid_hn; have hid_hM := Lib.hid hM; clear hM; have hM := hid_hM; clear hid_hM; have hid_hml := Lib.hid hml; clear hml; have hml := hid_hml; clear hid_hml; have hid_hnl := Lib.hid hnl; clear hnl; have hnl := hid_hnl; clear hid_hnl; have hid_hE := Lib.hid hE; clear hE; have hE := hid_hE; clear hid_hE; have hid_ht := Lib.hid ht; clear ht; have ht := hid_ht; clear hid_ht
      clear hk hf
      go_enter Try.func11, Try.ntmps11
      go_wp2_with fail
      refine (law29_alive _).mono ?_
      rintro e w1 ⟨rfl, hE1⟩
      have hF1 := hF0.trans hE1
      replace hL := hL.ext hE1
      go_wp2_with fail
      refine (ref28_Great hL).mono ?_
      rintro e w2 ⟨rfl, rfl⟩
      go_wp2_with fail
      refine (ref28_Check hL).mono ?_
      rintro e w3 ⟨rfl, hE3⟩
      have hF3 := hF1.trans hE3
      replace hL := hL.ext hE3
      rw [h0.out]
      go_wp2_with fail
      refine (law29_use tag false hL).mono ?_
      rintro e w4 ⟨va, vb, rfl, ha, hb, hE4⟩
      have hF4 := hF3.trans hE4
      replace hL := hL.ext hE4
      rw [hx.out.1] at ha
      rw [hx.out.2.1] at hb
      rw [hx.out.2.2, h0.out]
      obtain ⟨aa, ca, rfl, hca, hcb, -⟩ := ha.form
      obtain ⟨ab, cb, rfl, hcc, hcd, -⟩ := hb.form
      go_wp2_with fail
      refine (items_Find tag false hL).mono ?_
      rintro e w5 ⟨rfl, hE5⟩
      have hF5 := hF4.trans hE5
      replace hL := hL.ext hE5
      replace ha := ha.ext hE5
      replace hb := hb.ext hE5
      rw [hfi.out.1, hfi.out.2]
      go_wp2_with fail
      refine (access_May tag false hL).mono ?_
      rintro e w6 ⟨rfl, hE6⟩
      have hF6 := hF5.trans hE6
      replace hL := hL.ext hE6
      replace ha := ha.ext hE6
      replace hb := hb.ext hE6
      rw [hma.out, h0.out]
      skip
      go_wp2
      (try simp only [him1])
      go_loopw [16, 17, 18] (fun nv mv iv wr => ∃ k cn cm : Nat, k ≤ l.length ∧ iv = .int .i64 k ∧ nv = .int .i64 cn ∧ mv = .int .i64 cm ∧ Hid (cn = cN l i (fun x => x.p == 1) k ∧ cm = cM l i (fun x => x.p == 1) k) ∧ Ext w6 wr) (fun _ _ iv _ => l.length - (intOf iv).toNat)
      case atStart => exact ⟨0, 0, 0, Nat.zero_le _, rfl, rfl, rfl, ⟨(parts_zero l i (fun x => x.p == 1)).1.symm, (parts_zero l i (fun x => x.p == 1)).2.symm⟩, Ext.refl _⟩
      case round =>
        obtain ⟨k, cn, cm, hk, rfl, rfl, rfl, hC, hX⟩ := hrel
        by_cases hlt : k < l.length
        · obtain ⟨x, hx⟩ : ∃ x, l[k]? = some x := ⟨l[k], by simp [hlt]⟩
          obtain ⟨b0, o0, rfl, hb0, c0, c1, c2⟩ := (hL.ext hX).cell hx
          have hXl := Lib.hid hx
          clear hx
          rcases Nat.lt_trichotomy k i with hki | hki | hki
          · have hk1 : ((k : Int) == (i : Int)) = false := by simp; omega
            have hk2 : decide ((i : Int) < (k : Int)) = false := decide_eq_false (by omega)
            have hS0 := parts_low (q := (fun x => x.p == 1)) hM.out hml.out (k := k) (by first | omega | (have := hki'.out; omega))
            have hS : m[cn]? = some x ∧ cN l i (fun x => x.p == 1) (k + 1) = cN l i (fun x => x.p == 1) k + 1 ∧ cM l i (fun x => x.p == 1) (k + 1) = cM l i (fun x => x.p == 1) k := ⟨by rw [hC.out.1, hS0.1]; rw [List.getElem?_take, if_pos (by omega)]; exact hXl.out, hS0.2⟩
            clear hS0
            obtain ⟨b1, o1, hb1, hbl, d0, d1, d2⟩ := Its.cell (ha.ext hX) hS.1
            cases hb1
            have hlen := (List.getElem?_eq_some_iff.1 hS.1).1
            have hcm1 := hS.2
            have hid_hcm1 := Lib.hid hcm1; clear hcm1; have hcm1 := hid_hcm1; clear hid_hcm1
            clear hS
            have hi0 : (0 : Int) ≤ (cn : Int) := by omega
            have hi1 : (cn : Int) < (m.length : Int) := by omega
            have hi2 : decide ((m.length : Int) ≤ (cn : Int)) = false := decide_eq_false (by omega)
            have hne := run_neq_item x x
            unfold Item.val at hne
            simp only [ne_eq, not_true_eq_false, decide_false] at hne
            go_wp2
            go_quiet (fail)
            go_wp2
            go_roundw
            case rel => exact ⟨k + 1, cn + 1, cm, by omega, by go_num, by go_num, rfl, Hid.mk ⟨by rw [hcm1.out.1, hC.out.1], by rw [hcm1.out.2, hC.out.2]⟩, (by first | exact (hX.trans ((Ext.refl _).alloc _)).drewN _ | exact hX.trans ((Ext.refl _).alloc _) | exact hX.trans (((Ext.refl _).alloc _).setCell (by simp) _) | exact (hX.trans (((Ext.refl _).alloc _).setCell (by simp) _)).drewN _)⟩
            case measure => simp [intOf]; omega
          · have hk1 : ((k : Int) == (i : Int)) = true := by simp; omega
            have hk2 : decide ((i : Int) < (k : Int)) = false := decide_eq_false (by omega)
            have hki' := Lib.hid hki
            have hk3 : k ≤ i := by omega
            have hS0 := parts_low (q := (fun x => x.p == 1)) hM.out hml.out (k := k) (by first | omega | (have := hki'.out; omega))
            have hS : m[cn]? = some x ∧ cN l i (fun x => x.p == 1) (k + 1) = cN l i (fun x => x.p == 1) k + 1 ∧ cM l i (fun x => x.p == 1) (k + 1) = cM l i (fun x => x.p == 1) k := ⟨by rw [hC.out.1, hS0.1]; rw [List.getElem?_take, if_pos (by omega)]; exact hXl.out, hS0.2⟩
            clear hS0
            clear hki
            obtain ⟨b1, o1, hb1, hbl, d0, d1, d2⟩ := Its.cell (ha.ext hX) hS.1
            cases hb1
            have hlen := (List.getElem?_eq_some_iff.1 hS.1).1
            have hcm1 := hS.2
            have hid_hcm1 := Lib.hid hcm1; clear hcm1; have hcm1 := hid_hcm1; clear hid_hcm1
            clear hS
            have hi0 : (0 : Int) ≤ (cn : Int) := by omega
            have hi1 : (cn : Int) < (m.length : Int) := by omega
            have hi2 : decide ((m.length : Int) ≤ (cn : Int)) = false := decide_eq_false (by omega)
            have hne := run_neq_item x x
            unfold Item.val at hne
            simp only [ne_eq, not_true_eq_false, decide_false] at hne
            go_wp2
            go_quiet (fail)
            go_wp2
            go_roundw
            case rel => exact ⟨k + 1, cn + 1, cm, by omega, by go_num, by go_num, rfl, Hid.mk ⟨by rw [hcm1.out.1, hC.out.1], by rw [hcm1.out.2, hC.out.2]⟩, (by first | exact (hX.trans ((Ext.refl _).alloc _)).drewN _ | exact hX.trans ((Ext.refl _).alloc _) | exact hX.trans (((Ext.refl _).alloc _).setCell (by simp) _) | exact (hX.trans (((Ext.refl _).alloc _).setCell (by simp) _)).drewN _)⟩
            case measure => simp [intOf]; omega
          · have hk1 : ((k : Int) == (i : Int)) = false := by simp; omega
            have hk2 : decide ((i : Int) < (k : Int)) = true := decide_eq_true (by omega)
            cases hp : x.p == 1
            · skip
              have hS0 := parts_stay (q := (fun x => x.p == 1)) hM.out hml.out hXl.out hki hp
              have hS : m[cn]? = some x ∧ _ ∧ _ := ⟨by rw [hC.out.1]; exact hS0.1, hS0.2⟩
              clear hS0
              obtain ⟨b1, o1, hb1, hbl, d0, d1, d2⟩ := Its.cell (ha.ext hX) hS.1
              cases hb1
              have hlen := (List.getElem?_eq_some_iff.1 hS.1).1
              have hcm1 := hS.2
              have hid_hcm1 := Lib.hid hcm1; clear hcm1; have hcm1 := hid_hcm1; clear hid_hcm1
              clear hS
              have hi0 : (0 : Int) ≤ (cn : Int) := by omega
              have hi1 : (cn : Int) < (m.length : Int) := by omega
              have hi2 : decide ((m.length : Int) ≤ (cn : Int)) = false := decide_eq_false (by omega)
              have hne := run_neq_item x x
              unfold Item.val at hne
              simp only [ne_eq, not_true_eq_false, decide_false] at hne
              go_wp2
              go_quiet (fail)
              go_wp2
              go_roundw
              case rel => exact ⟨k + 1, cn + 1, cm, by omega, by go_num, by go_num, rfl, Hid.mk ⟨by rw [hcm1.out.1, hC.out.1], by rw [hcm1.out.2, hC.out.2]⟩, (by first | exact (hX.trans ((Ext.refl _).alloc _)).drewN _ | exact hX.trans ((Ext.refl _).alloc _) | exact hX.trans (((Ext.refl _).alloc _).setCell (by simp) _) | exact (hX.trans (((Ext.refl _).alloc _).setCell (by simp) _)).drewN _)⟩
              case measure => simp [intOf]; omega
            · skip
              have hS0 := parts_go (q := (fun x => x.p == 1)) hnl.out hXl.out hki hp
              have hS : n[cm]? = some x ∧ _ ∧ _ := ⟨by rw [hC.out.2]; exact hS0.1, hS0.2⟩
              clear hS0
              obtain ⟨b1, o1, hb1, hbl, d0, d1, d2⟩ := Its.cell (hb.ext hX) hS.1
              cases hb1
              have hlen := (List.getElem?_eq_some_iff.1 hS.1).1
              have hcm1 := hS.2
              have hid_hcm1 := Lib.hid hcm1; clear hcm1; have hcm1 := hid_hcm1; clear hid_hcm1
              clear hS
              have hi0 : (0 : Int) ≤ (cm : Int) := by omega
              have hi1 : (cm : Int) < (n.length : Int) := by omega
              have hi2 : decide ((n.length : Int) ≤ (cm : Int)) = false := decide_eq_false (by omega)
              have hne := run_neq_item x x
              unfold Item.val at hne
              simp only [ne_eq, not_true_eq_false, decide_false] at hne
              go_wp2
              go_quiet (fail)
              go_wp2
              go_roundw
              case rel => exact ⟨k + 1, cn, cm + 1, by omega, by go_num, rfl, by go_num, Hid.mk ⟨by rw [hcm1.out.1, hC.out.1], by rw [hcm1.out.2, hC.out.2]⟩, (by first | exact (hX.trans ((Ext.refl _).alloc _)).drewN _ | exact hX.trans ((Ext.refl _).alloc _) | exact hX.trans (((Ext.refl _).alloc _).setCell (by simp) _) | exact (hX.trans (((Ext.refl _).alloc _).setCell (by simp) _)).drewN _)⟩
              case measure => simp [intOf]; omega
        · have hkl : k = l.length := by omega
          subst hkl
          have e1 : cn = m.length := hC.out.1.trans hE.out.1
          have e2 : cm = n.length := hC.out.2.trans hE.out.2.1
          subst e1 e2
          go_wp2
          go_ret
          exact ⟨rfl, hF6.trans hX⟩
    · skip
      have hM : (actAt (l.take (i + 1)) i).length = i + 1 := (actAt_len _ _).trans ht
      have hml : m = (actAt (l.take (i + 1)) i) ++ (l.drop (i + 1)).filter (fun x => !(((fun _ => true) : Item → Bool) x)) := by rw [← hm]; rw [filter_no, List.append_nil]; rfl
      have hnl : n = (l.drop (i + 1)).filter (fun _ => true) := by rw [← hn]; rw [filter_yes]; rfl
      have hE := parts_end hil hM hml hnl
      have hm6 : m.length ≤ 600 := by omega
      have hn6 : n.length ≤ 600 := by omega
      have him : i < m.length := by rw [hml, List.length_append, hM]; omega
      have hs : ((m.length : Int) + (n.length : Int) != (l.length : Int)) = false := by simp; omega
      have hs2 : ((m.length : Int) + (n.length : Int) == (l.length : Int)) = true := by simp; omega
      have him0 : decide ((m.length : Int) ≤ (i : Int)) = false := decide_eq_false (by omega)
      have him1 : decide (m.length ≤ i) = false := decide_eq_false (by omega)
      have hid_hm := Lib.hid hm; clear hm; have hm := hid_hm; clear hid_hm; have hid_hn := Lib.hid hn; clear hn; have hn := hid_hn; clear hid_hn; have hid_hM := Lib.hid hM; clear hM; have hM := hid_hM; clear hid_hM; have hid_hml := Lib.hid hml; clear hml; have hml := hid_hml; clear hid_hml; have hid_hnl := Lib.hid hnl; clear hnl; have hnl := hid_hnl; clear hid_hnl; have hid_hE := Lib.hid hE; clear hE; have hE := hid_hE; clear hid_hE; have hid_ht := Lib.hid ht; clear ht; have ht := hid_ht; clear hid_ht
      clear hk hf
      go_enter Try.func11, Try.ntmps11
      go_wp2_with fail
      refine (law29_alive _).mono ?_
      rintro e w1 ⟨rfl, hE1⟩
      have hF1 := hF0.trans hE1
      replace hL := hL.ext hE1
      go_wp2_with fail
      refine (ref28_Great hL).mono ?_
      rintro e w2 ⟨rfl, rfl⟩
      go_wp2_with fail
      refine (ref28_Check hL).mono ?_
      rintro e w3 ⟨rfl, hE3⟩
      have hF3 := hF1.trans hE3
      replace hL := hL.ext hE3
      rw [h0.out]
      go_wp2_with fail
      refine (law29_use tag true hL).mono ?_
      rintro e w4 ⟨va, vb, rfl, ha, hb, hE4⟩
      have hF4 := hF3.trans hE4
      replace hL := hL.ext hE4
      rw [hx.out.1] at ha
      rw [hx.out.2.1] at hb
      rw [hx.out.2.2, h0.out]
      obtain ⟨aa, ca, rfl, hca, hcb, -⟩ := ha.form
      obtain ⟨ab, cb, rfl, hcc, hcd, -⟩ := hb.form
      go_wp2_with fail
      refine (items_Find tag true hL).mono ?_
      rintro e w5 ⟨rfl, hE5⟩
      have hF5 := hF4.trans hE5
      replace hL := hL.ext hE5
      replace ha := ha.ext hE5
      replace hb := hb.ext hE5
      rw [hfi.out.1, hfi.out.2]
      go_wp2_with fail
      refine (access_May tag true hL).mono ?_
      rintro e w6 ⟨rfl, hE6⟩
      have hF6 := hF5.trans hE6
      replace hL := hL.ext hE6
      replace ha := ha.ext hE6
      replace hb := hb.ext hE6
      rw [hma.out, h0.out]
      skip
      go_wp2
      (try simp only [him1])
      go_loopw [16, 17, 18] (fun nv mv iv wr => ∃ k cn cm : Nat, k ≤ l.length ∧ iv = .int .i64 k ∧ nv = .int .i64 cn ∧ mv = .int .i64 cm ∧ Hid (cn = cN l i (fun _ => true) k ∧ cm = cM l i (fun _ => true) k) ∧ Ext w6 wr) (fun _ _ iv _ => l.length - (intOf iv).toNat)
      case atStart => exact ⟨0, 0, 0, Nat.zero_le _, rfl, rfl, rfl, ⟨(parts_zero l i (fun _ => true)).1.symm, (parts_zero l i (fun _ => true)).2.symm⟩, Ext.refl _⟩
      case round =>
        obtain ⟨k, cn, cm, hk, rfl, rfl, rfl, hC, hX⟩ := hrel
        by_cases hlt : k < l.length
        · obtain ⟨x, hx⟩ : ∃ x, l[k]? = some x := ⟨l[k], by simp [hlt]⟩
          obtain ⟨b0, o0, rfl, hb0, c0, c1, c2⟩ := (hL.ext hX).cell hx
          have hXl := Lib.hid hx
          clear hx
          rcases Nat.lt_trichotomy k i with hki | hki | hki
          · have hk1 : ((k : Int) == (i : Int)) = false := by simp; omega
            have hk2 : decide ((i : Int) < (k : Int)) = false := decide_eq_false (by omega)
            have hS0 := parts_low (q := (fun _ => true)) hM.out hml.out (k := k) (by first | omega | (have := hki'.out; omega))
            have hS : m[cn]? = some x ∧ cN l i (fun _ => true) (k + 1) = cN l i (fun _ => true) k + 1 ∧ cM l i (fun _ => true) (k + 1) = cM l i (fun _ => true) k := ⟨by rw [hC.out.1, hS0.1]; rw [actAt_get_ne (by omega), List.getElem?_take, if_pos (by omega)]; exact hXl.out, hS0.2⟩
            clear hS0
            obtain ⟨b1, o1, hb1, hbl, d0, d1, d2⟩ := Its.cell (ha.ext hX) hS.1
            cases hb1
            have hlen := (List.getElem?_eq_some_iff.1 hS.1).1
            have hcm1 := hS.2
            have hid_hcm1 := Lib.hid hcm1; clear hcm1; have hcm1 := hid_hcm1; clear hid_hcm1
            clear hS
            have hi0 : (0 : Int) ≤ (cn : Int) := by omega
            have hi1 : (cn : Int) < (m.length : Int) := by omega
            have hi2 : decide ((m.length : Int) ≤ (cn : Int)) = false := decide_eq_false (by omega)
            have hne := run_neq_item x x
            unfold Item.val at hne
            simp only [ne_eq, not_true_eq_false, decide_false] at hne
            go_wp2
            go_quiet (fail)
            go_wp2
            go_roundw
            case rel => exact ⟨k + 1, cn + 1, cm, by omega, by go_num, by go_num, rfl, Hid.mk ⟨by rw [hcm1.out.1, hC.out.1], by rw [hcm1.out.2, hC.out.2]⟩, (by first | exact (hX.trans ((Ext.refl _).alloc _)).drewN _ | exact hX.trans ((Ext.refl _).alloc _) | exact hX.trans (((Ext.refl _).alloc _).setCell (by simp) _) | exact (hX.trans (((Ext.refl _).alloc _).setCell (by simp) _)).drewN _)⟩
            case measure => simp [intOf]; omega
          · have hk1 : ((k : Int) == (i : Int)) = true := by simp; omega
            have hk2 : decide ((i : Int) < (k : Int)) = false := decide_eq_false (by omega)
            have hki' := Lib.hid hki
            have hk3 : k ≤ i := by omega
            have htk : (l.take (i + 1))[i]? = some x := take_get (by rw [← hki]; exact hXl.out)
            have hid_htk := Lib.hid htk; clear htk; have htk := hid_htk; clear hid_htk
            clear hki
            cases hp : x.p == 2
            · skip
              have hS0 := parts_low (q := (fun _ => true)) hM.out hml.out (k := k) (by first | omega | (have := hki'.out; omega))
              have hS : m[cn]? = some x ∧ cN l i (fun _ => true) (k + 1) = cN l i (fun _ => true) k + 1 ∧ cM l i (fun _ => true) (k + 1) = cM l i (fun _ => true) k := ⟨by rw [hC.out.1, hS0.1]; rw [hki'.out]; exact actAt_get_no htk.out (by intro e; simp [e] at hp), hS0.2⟩
              clear hS0
              obtain ⟨b1, o1, hb1, hbl, d0, d1, d2⟩ := Its.cell (ha.ext hX) hS.1
              cases hb1
              have hlen := (List.getElem?_eq_some_iff.1 hS.1).1
              have hcm1 := hS.2
              have hid_hcm1 := Lib.hid hcm1; clear hcm1; have hcm1 := hid_hcm1; clear hid_hcm1
              clear hS
              have hi0 : (0 : Int) ≤ (cn : Int) := by omega
              have hi1 : (cn : Int) < (m.length : Int) := by omega
              have hi2 : decide ((m.length : Int) ≤ (cn : Int)) = false := decide_eq_false (by omega)
              have hne := run_neq_item x x
              unfold Item.val at hne
              simp only [ne_eq, not_true_eq_false, decide_false] at hne
              go_wp2
              go_quiet (fail)
              go_wp2
              go_roundw
              case rel => exact ⟨k + 1, cn + 1, cm, by omega, by go_num, by go_num, rfl, Hid.mk ⟨by rw [hcm1.out.1, hC.out.1], by rw [hcm1.out.2, hC.out.2]⟩, (by first | exact (hX.trans ((Ext.refl _).alloc _)).drewN _ | exact hX.trans ((Ext.refl _).alloc _) | exact hX.trans (((Ext.refl _).alloc _).setCell (by simp) _) | exact (hX.trans (((Ext.refl _).alloc _).setCell (by simp) _)).drewN _)⟩
              case measure => simp [intOf]; omega
            · skip
              have hS0 := parts_low (q := (fun _ => true)) hM.out hml.out (k := k) (by first | omega | (have := hki'.out; omega))
              have hS : m[cn]? = some (⟨1, x.t, x.c⟩ : Item) ∧ cN l i (fun _ => true) (k + 1) = cN l i (fun _ => true) k + 1 ∧ cM l i (fun _ => true) (k + 1) = cM l i (fun _ => true) k := ⟨by rw [hC.out.1, hS0.1]; rw [hki'.out]; exact actAt_get_yes htk.out (by simpa using hp), hS0.2⟩
              clear hS0
              obtain ⟨b1, o1, hb1, hbl, d0, d1, d2⟩ := Its.cell (ha.ext hX) hS.1
              cases hb1
              have hlen := (List.getElem?_eq_some_iff.1 hS.1).1
              have hcm1 := hS.2
              have hid_hcm1 := Lib.hid hcm1; clear hcm1; have hcm1 := hid_hcm1; clear hid_hcm1
              clear hS
              have hi0 : (0 : Int) ≤ (cn : Int) := by omega
              have hi1 : (cn : Int) < (m.length : Int) := by omega
              have hi2 : decide ((m.length : Int) ≤ (cn : Int)) = false := decide_eq_false (by omega)
              have hne := run_neq_item ⟨1, x.t, x.c⟩ ⟨1, x.t, x.c⟩
              unfold Item.val at hne
              simp only [ne_eq, not_true_eq_false, decide_false] at hne
              go_wp2
              go_quiet (fail)
              go_wp2
              go_roundw
              case rel => exact ⟨k + 1, cn + 1, cm, by omega, by go_num, by go_num, rfl, Hid.mk ⟨by rw [hcm1.out.1, hC.out.1], by rw [hcm1.out.2, hC.out.2]⟩, (by first | exact (hX.trans ((Ext.refl _).alloc _)).drewN _ | exact hX.trans ((Ext.refl _).alloc _) | exact hX.trans (((Ext.refl _).alloc _).setCell (by simp) _) | exact (hX.trans (((Ext.refl _).alloc _).setCell (by simp) _)).drewN _)⟩
              case measure => simp [intOf]; omega
          · have hk1 : ((k : Int) == (i : Int)) = false := by simp; omega
            have hk2 : decide ((i : Int) < (k : Int)) = true := decide_eq_true (by omega)
            have hS0 := parts_go (q := (fun _ => true)) hnl.out hXl.out hki rfl
            have hS : n[cm]? = some x ∧ _ ∧ _ := ⟨by rw [hC.out.2]; exact hS0.1, hS0.2⟩
            clear hS0
            obtain ⟨b1, o1, hb1, hbl, d0, d1, d2⟩ := Its.cell (hb.ext hX) hS.1
            cases hb1
            have hlen := (List.getElem?_eq_some_iff.1 hS.1).1
            have hcm1 := hS.2
            have hid_hcm1 := Lib.hid hcm1; clear hcm1; have hcm1 := hid_hcm1; clear hid_hcm1
            clear hS
            have hi0 : (0 : Int) ≤ (cm : Int) := by omega
            have hi1 : (cm : Int) < (n.length : Int) := by omega
            have hi2 : decide ((n.length : Int) ≤ (cm : Int)) = false := decide_eq_false (by omega)
            have hne := run_neq_item x x
            unfold Item.val at hne
            simp only [ne_eq, not_true_eq_false, decide_false] at hne
            go_wp2
            go_quiet (fail)
            go_wp2
            go_roundw
            case rel => exact ⟨k + 1, cn, cm + 1, by omega, by go_num, rfl, by go_num, Hid.mk ⟨by rw [hcm1.out.1, hC.out.1], by rw [hcm1.out.2, hC.out.2]⟩, (by first | exact (hX.trans ((Ext.refl _).alloc _)).drewN _ | exact hX.trans ((Ext.refl _).alloc _) | exact hX.trans (((Ext.refl _).alloc _).setCell (by simp) _) | exact (hX.trans (((Ext.refl _).alloc _).setCell (by simp) _)).drewN _)⟩
            case measure => simp [intOf]; omega
        · have hkl : k = l.length := by omega
          subst hkl
          have e1 : cn = m.length := hC.out.1.trans hE.out.1
          have e2 : cm = n.length := hC.out.2.trans hE.out.2.1
          subst e1 e2
          go_wp2
          go_ret
          exact ⟨rfl, hF6.trans hX⟩

set_option maxRecDepth 100000 in
theorem accessAbove_lifted (os : Os) (started : os.Started) (H : Type) (enc : TypeId × Value → H) :
    ReturnsInHanded {} Try.checked os 11 .any (Rows.accessAboveSpec.pre6 enc Try.prog Try.f11 Rows.accessAboveRow.domain false) (Rows.accessAboveSpec.post enc Try.prog Try.f11 false true false false) := by
  refine returnsInHanded_of_change (C := Try.checked) Tryown started (by kernel_rfl) Try.func11
    (ChangeSpec.witness6 (enc := enc) (C := Try.checked) false ⟨#[], #[.slice none 0 0, .int .i64 0, .bool false], []⟩ 8 (by kernel_rfl) (by kernel_rfl) (by kernel_rfl) (by kernel_rfl)) ?_
  intro W base args ds gs before hval0 hW _ _
  have hval : ∀ (j : Nat) t v, Try.f11.params[j]? = some t → args[j]? = some v → Value.okWide Try.prog W .any base t v := hval0
  have hW' := hW
  obtain ⟨p, q, hA0, hV, rfl, hfz, hnd⟩ := hW
  have hA : DataW.TrodAll enc Try.prog W 0 (fun _ => true) true Try.f11.params.toList args.toList ds p := hA0
  rw [Try.params11] at hA hval
  obtain ⟨v0, vs0, d0, ds0, p0, q0, hargs, rfl, rfl, h0, r0⟩ := trodAll_cons hA
  obtain ⟨v1, vs1, d1, ds1, p1, q1, rfl, rfl, rfl, h1, r1⟩ := trodAll_cons r0
  obtain ⟨v2, vs2, d2, ds2, p2, q2, rfl, rfl, rfl, h2, r2⟩ := trodAll_cons r1
  obtain ⟨rfl, rfl, rfl⟩ := trodAll_nil r2
  obtain rfl : args = #[v0, v1, v2] := by cases args; simp_all
  obtain ⟨x0, k0, wf0⟩ := open_items Try.underlying23 (hval 0 23 v0 rfl rfl) h0
  obtain ⟨x1, rfl, rfl, rfl, wf1⟩ := open_int Try.underlying3 (hval 1 3 v1 rfl rfl) h1
  obtain ⟨x2, rfl, rfl, rfl⟩ := open_bool Try.underlying4 (hval 2 4 v2 rfl rfl) h2
  refine (accessAbove_walk x1 x2 k0).mono fun e W' ⟨he, hb⟩ => ?_
  subst he
  exact ⟨_, rfl, post_law TrylaidOut (tb := 4) rfl Try.underlying4 (by kernel_rfl) rfl (fun ds hd => match ds, hd with | [a0, a1, a2], _ => rfl) hW' hb⟩

theorem accessAbove_holds : Rows.AccessAboveSaid :=
  OpenClaim.holds_of_wide 11 Try.f11 rfl rfl rfl rfl rfl rfl rfl ⟨rfl, rfl, rfl, rfl, rfl⟩ rfl rfl rfl rfl rfl (by kernel_rfl) Try.func11 (by kernel_rfl)
    (of_decide_eq_true (by kernel_rfl)) (by unfold Func.isWrapper; first | (rw [if_pos (by decide +kernel)]; kernel_rfl) | (rw [if_neg (by decide +kernel)]; exact ⟨rfl, rfl⟩))
    (fun os started H enc _ => accessAbove_lifted os started H enc)

end Go.Proofs.Ytifigkhahabpfaa
