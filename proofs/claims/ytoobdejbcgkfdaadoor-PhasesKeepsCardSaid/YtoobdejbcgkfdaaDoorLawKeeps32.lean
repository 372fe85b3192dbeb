/- The statement PhasesKeeps, as the card: for every stack, tags and calls the call returns true; perms holds what its initialiser lays. No other condition. -/
import Derived.Test.YtoobdejbcgkfdaaDoorLaw32C
import Derived.Test.YtoobdejbcgkfdaaDoorDoor
import Derived.Test.YtoobdejbcgkfdaaDoorReadI
namespace Go.Proofs.YtoobdejbcgkfdaaDoor
set_option maxRecDepth 100000
open Go.ChangeShapes Go.WideShapes Go.ChangeAt Go.RowKit


set_option maxRecDepth 100000 in
set_option maxHeartbeats 3200000 in
theorem phasesKeeps_walk {l : List Item} {tags run : List Int} {v g r : Value} {w : World} (hp : Perms w) (old tag : Int) (hl : Its w v l) (ht : Nts w g tags) (hr : Nts w r run) :
    Calls Tryd.prog 7 #[v, .int .i64 old, .int .i64 tag, g, r] w fun e w' => e = .returned (.bool true) ∧ Ext w w' := by
  have hF0 := Ext.refl w
  have hL := hl; have hR := hr; have hP := hp; have hT := ht
  obtain ⟨a, cp, rfl, hlc, hcm, -⟩ := hl.form
  obtain ⟨a2, cp2, rfl, hlc2, hcm2, -⟩ := hr.form
  obtain ⟨a3, cp3, rfl, hlc3, hcm3, -⟩ := ht.form
  clear hl hp hr ht
  by_cases hb : 610 < l.length
  · have hd : Hid (decide (610 < l.length) = true) := Hid.mk (decide_eq_true hb)
    go_enter Tryd.func7, Tryd.ntmps7
    go_wp2_with fail
    refine (law32_alive hP).mono ?_
    rintro e w1 ⟨rfl, hE1⟩
    have hF1 := hF0.trans hE1
    replace hL := hL.ext hE1
    replace hR := hR.ext hE1
    replace hP := hP.ext hE1
    replace hT := hT.ext hE1
    go_wp2_with fail
    refine (ref28_Great hL).mono ?_
    rintro e w2 ⟨rfl, rfl⟩
    rw [hd.out]
    go_wp2
    go_ret
    exact ⟨rfl, hF1⟩
  · have hd : Hid (decide (610 < l.length) = false) := Hid.mk (decide_eq_false hb)
    have hs : l.length ≤ 1000000 := by omega
    clear hb
    cases hok : okS l
    · have hc : Hid (chk l = 8) := Hid.mk (by simp [chk, hok])
      clear hok
      go_enter Tryd.func7, Tryd.ntmps7
      go_wp2_with fail
      refine (law32_alive hP).mono ?_
      rintro e w1 ⟨rfl, hE1⟩
      have hF1 := hF0.trans hE1
      replace hL := hL.ext hE1
      replace hR := hR.ext hE1
      replace hP := hP.ext hE1
      replace hT := hT.ext hE1
      go_wp2_with fail
      refine (ref28_Great hL).mono ?_
      rintro e w2 ⟨rfl, rfl⟩
      rw [hd.out]
      go_wp2_with fail
      refine (ref28_Check hL).mono ?_
      rintro e w3 ⟨rfl, hE3⟩
      have hF3 := hF1.trans hE3
      replace hL := hL.ext hE3
      replace hR := hR.ext hE3
      replace hP := hP.ext hE3
      replace hT := hT.ext hE3
      rw [hc.out]
      go_wp2
      go_ret
      exact ⟨rfl, hF3⟩
    · have hc : Hid (chk l = 0) := Hid.mk (by simp [chk, hok])
      replace hok := Lib.hid hok
      rcases findAt_cases l tag false with ⟨i0, hno⟩ | hno
      · have hat : Hid (idxOf (findAt l tag false) = (i0 : Int)) := Hid.mk (by rw [hno]; rfl)
        have hat0 : decide ((0 : Int) ≤ (i0 : Int)) = true := decide_eq_true (by omega)
        clear hno
        go_enter Tryd.func7, Tryd.ntmps7
        go_wp2_with fail
        refine (law32_alive hP).mono ?_
        rintro e w1 ⟨rfl, hE1⟩
        have hF1 := hF0.trans hE1
        replace hL := hL.ext hE1
        replace hR := hR.ext hE1
        replace hP := hP.ext hE1
        replace hT := hT.ext hE1
        go_wp2_with fail
        refine (ref28_Great hL).mono ?_
        rintro e w2 ⟨rfl, rfl⟩
        rw [hd.out]
        go_wp2_with fail
        refine (ref28_Check hL).mono ?_
        rintro e w3 ⟨rfl, hE3⟩
        have hF3 := hF1.trans hE3
        replace hL := hL.ext hE3
        replace hR := hR.ext hE3
        replace hP := hP.ext hE3
        replace hT := hT.ext hE3
        rw [hc.out]
        go_wp2_with fail
        refine (ref28_At tag false hL).mono ?_
        rintro e w4 ⟨rfl, rfl⟩
        rw [hat.out]
        go_wp2
        go_ret
        exact ⟨rfl, hF3⟩
      · have hat : Hid (idxOf (findAt l tag false) = -1) := Hid.mk (by rw [hno]; rfl)
        replace hno := Lib.hid hno
        by_cases h5 : 30 < tags.length
        · have q1 : decide ((30 : Int) < (tags.length : Int)) = true := decide_eq_true (by omega)
          go_enter Tryd.func7, Tryd.ntmps7
          go_wp2_with fail
          refine (law32_alive hP).mono ?_
          rintro e w1 ⟨rfl, hE1⟩
          have hF1 := hF0.trans hE1
          replace hL := hL.ext hE1
          replace hR := hR.ext hE1
          replace hP := hP.ext hE1
          replace hT := hT.ext hE1
          go_wp2_with fail
          refine (ref28_Great hL).mono ?_
          rintro e w2 ⟨rfl, rfl⟩
          rw [hd.out]
          go_wp2_with fail
          refine (ref28_Check hL).mono ?_
          rintro e w3 ⟨rfl, hE3⟩
          have hF3 := hF1.trans hE3
          replace hL := hL.ext hE3
          replace hR := hR.ext hE3
          replace hP := hP.ext hE3
          replace hT := hT.ext hE3
          rw [hc.out]
          go_wp2_with fail
          refine (ref28_At tag false hL).mono ?_
          rintro e w4 ⟨rfl, rfl⟩
          rw [hat.out]
          go_wp2
          go_ret
          exact ⟨rfl, hF3⟩
        · have q1 : decide ((30 : Int) < (tags.length : Int)) = false := decide_eq_false (by omega)
          have q1n : tags.length ≤ 30 := by omega
          clear h5
          by_cases h5 : 50 < run.length
          · have q2 : decide ((50 : Int) < (run.length : Int)) = true := decide_eq_true (by omega)
            go_enter Tryd.func7, Tryd.ntmps7
            go_wp2_with fail
            refine (law32_alive hP).mono ?_
            rintro e w1 ⟨rfl, hE1⟩
            have hF1 := hF0.trans hE1
            replace hL := hL.ext hE1
            replace hR := hR.ext hE1
            replace hP := hP.ext hE1
            replace hT := hT.ext hE1
            go_wp2_with fail
            refine (ref28_Great hL).mono ?_
            rintro e w2 ⟨rfl, rfl⟩
            rw [hd.out]
            go_wp2_with fail
            refine (ref28_Check hL).mono ?_
            rintro e w3 ⟨rfl, hE3⟩
            have hF3 := hF1.trans hE3
            replace hL := hL.ext hE3
            replace hR := hR.ext hE3
            replace hP := hP.ext hE3
            replace hT := hT.ext hE3
            rw [hc.out]
            go_wp2_with fail
            refine (ref28_At tag false hL).mono ?_
            rintro e w4 ⟨rfl, rfl⟩
            rw [hat.out]
            go_wp2
            go_ret
            exact ⟨rfl, hF3⟩
          · have q2 : decide ((50 : Int) < (run.length : Int)) = false := decide_eq_false (by omega)
            have q2n : run.length ≤ 50 := by omega
            clear h5
            obtain ⟨⟨T, why, er⟩, hA⟩ : ∃ x, tagR l 3 old ⟨0, tag, 0⟩ run = x := ⟨_, rfl⟩
            by_cases hn : er = 0 ∧ why = 0
            · obtain ⟨rfl, rfl⟩ := hn
              obtain ⟨hor, hres, -⟩ := reserve_law hno.out hA
              replace hor := Lib.hid hor
              replace hres := Lib.hid hres
              have hph : Hid (((phaseR T tag).2 == 0 && (phaseR T tag).1 == 1) = true) := Hid.mk (by rw [hres.out.phase rfl]; rfl)
              replace hA := Lib.hid hA
              go_enter Tryd.func7, Tryd.ntmps7
              go_wp2_with fail
              refine (law32_alive hP).mono ?_
              rintro e w1 ⟨rfl, hE1⟩
              have hF1 := hF0.trans hE1
              replace hL := hL.ext hE1
              replace hR := hR.ext hE1
              replace hP := hP.ext hE1
              replace hT := hT.ext hE1
              go_wp2_with fail
              refine (ref28_Great hL).mono ?_
              rintro e w2 ⟨rfl, rfl⟩
              rw [hd.out]
              go_wp2_with fail
              refine (ref28_Check hL).mono ?_
              rintro e w3 ⟨rfl, hE3⟩
              have hF3 := hF1.trans hE3
              replace hL := hL.ext hE3
              replace hR := hR.ext hE3
              replace hP := hP.ext hE3
              replace hT := hT.ext hE3
              rw [hc.out]
              go_wp2_with fail
              refine (ref28_At tag false hL).mono ?_
              rintro e w4 ⟨rfl, rfl⟩
              rw [hat.out]
              go_wp2_with fail
              refine (phases_Reserve hP old tag hL hR).mono ?_
              rintro e w5 ⟨vt, rfl, ot, hE5⟩
              have hF5 := hF3.trans hE5
              replace hL := hL.ext hE5
              replace hR := hR.ext hE5
              replace hP := hP.ext hE5
              replace hT := hT.ext hE5
              have t : Its w5 vt T := by rw [hA.out] at ot; exact OwnI.its ot
              rw [hA.out]
              clear ot
              obtain ⟨at_, ct, rfl, hlt_, hmt_, -⟩ := t.form
              go_wp2_with fail
              refine (law32_is tag 1 t).mono ?_
              rintro e w6 ⟨rfl, hE6⟩
              have hF6 := hF5.trans hE6
              replace hL := hL.ext hE6
              replace hR := hR.ext hE6
              replace hP := hP.ext hE6
              replace hT := hT.ext hE6
              replace t := t.ext hE6
              rw [hph.out]
              go_wp2
              go_loopw [15] (fun iv wr => ∃ i : Nat, i ≤ tags.length + 1 ∧ iv = .int .i64 i ∧ Ext w6 wr) (fun iv _ => tags.length + 1 - (intOf iv).toNat)
              case atStart => exact ⟨0, Nat.zero_le _, rfl, Ext.refl _⟩
              case round =>
                obtain ⟨i, hi, rfl, hX⟩ := hrel
                by_cases hlt : i ≤ tags.length
                · have hle : decide ((i : Int) ≤ (tags.length : Int)) = true := decide_eq_true (by omega)
                  have hsl := slice_upto_Ints a3 tags.length cp3 (i : Int) i rfl (by omega)
                  have htk := (hT.ext hX).take i hlt
                  have hli : Hid ((tags.take i).length = i) := Hid.mk (by rw [List.length_take]; omega)
                  obtain ⟨⟨U, n, u⟩, hU⟩ : ∃ x, readsR run T (tags.take i) = x := ⟨_, rfl⟩
                  have hM : Hid (manyR T (tags.take i) run = (U, n, u, 0)) := Hid.mk (by rw [manyR_ok hor.out hres.out.ok (by rw [hli.out]; omega), hU])
                  have hro := reads_ok hor.out (tags.take i) T hres.out.ok
                  have hrr := Resv.reads (r := ⟨2, tag, 0⟩) rfl hor.out (tags.take i) T hres.out
                  rw [hU, hli.out] at hro
                  rw [hU] at hrr
                  simp only at hro hrr
                  obtain ⟨-, hro⟩ := hro
                  by_cases hu : u = 0
                  · have hnn : n = (i : Int) := by
                      rcases hro with ⟨-, h⟩ | ⟨h, -⟩
                      · exact h
                      · exact absurd hu h
                    have hrU := Lib.hid (hrr hu)
                    subst hu hnn
                    have hph2 : Hid (((phaseR U tag).2 == 0 && (phaseR U tag).1 == 1) = true) := Hid.mk (by rw [hrU.out.phase rfl]; rfl)
                    obtain ⟨⟨R1, R2, R3⟩, hR1⟩ : ∃ x, useR U tag false run = x := ⟨_, rfl⟩
                    obtain ⟨⟨N, N2, N3⟩, hN1⟩ : ∃ x, useR U tag true run = x := ⟨_, rfl⟩
                    have ha1 := resv_access (write := false) hrU.out rfl hor.out
                    have ha2 := resv_access (write := true) hrU.out rfl hor.out
                    rw [hR1] at ha1
                    rw [hN1] at ha2
                    simp only at ha1 ha2
                    obtain ⟨rfl, hr2⟩ := ha1
                    obtain ⟨rfl, hn2⟩ := ha2
                    have z1 : (R2 == 1) = false := beq_eq_false_iff_ne.2 hr2
                    have z2 : (N2 == 1) = false := beq_eq_false_iff_ne.2 hn2
                    have hwr := fun (h : N2 = 0) => Resv.write (N := N) (e := 0) hrU.out rfl hor.out (by rw [hN1, h])
                    replace hR1 := Lib.hid hR1
                    replace hN1 := Lib.hid hN1
                    clear hU hro hrr hr2 hn2
                    by_cases hz : N2 = 0
                    · subst hz
                      obtain ⟨⟨M, hM1⟩, hNok, hNph⟩ := hwr rfl
                      have hph3 : Hid (((phaseR N tag).2 == 0 && (phaseR N tag).1 == 2) = true) := Hid.mk (by rw [hNph]; rfl)
                      have hNl : Hid (N.length = M.length + 1) := Hid.mk (by rw [hM1]; simp)
                      have hNx : Hid (N[M.length]? = some ⟨1, tag, 0⟩) := Hid.mk (by rw [hM1]; simp)
                      have hM6 : M.length ≤ 600 := by
                        have h := hNok
                        unfold okS at h
                        simp only [Bool.and_eq_true, decide_eq_true_eq] at h
                        have := hNl.out; omega
                      have hne := run_neq_item ⟨1, tag, 0⟩ ⟨1, tag, 0⟩
                      unfold Item.val at hne
                      simp only [ne_eq, not_true_eq_false, decide_false] at hne
                      clear hM1 hNok hNph hwr
                      have hXX := Ext.refl wr
                      go_wp2_with fail
                      refine (phases_Many (t.ext hX) htk (hR.ext hX)).mono ?_
                      rintro e w30 ⟨vuu, rfl, ouu, hE30⟩
                      have hF30 := hXX.trans hE30
                      have uu : Its w30 vuu U := by rw [hM.out] at ouu; exact OwnI.its ouu
                      rw [hM.out]
                      clear ouu
                      obtain ⟨auu, cuu, rfl, hluu, hmuu, -⟩ := uu.form
                      go_wp2_with fail
                      refine (guard_ReadO tag uu ((hR.ext hX).ext hF30)).mono ?_
                      rintro e w31 ⟨vrr, rfl, orr, hE31⟩
                      have hF31 := hF30.trans hE31
                      replace uu := uu.ext hE31
                      have rr : Its w31 vrr R1 := by rw [hR1.out] at orr; exact OwnI.its orr
                      rw [hR1.out]
                      clear orr
                      obtain ⟨arr, crr, rfl, -⟩ := rr.form
                      go_wp2_with fail
                      refine (law32_is tag 1 uu).mono ?_
                      rintro e w32 ⟨rfl, hE32⟩
                      have hF32 := hF31.trans hE32
                      replace uu := uu.ext hE32
                      rw [hph2.out]
                      go_wp2_with fail
                      refine (phases_Activate tag uu ((hR.ext hX).ext hF32)).mono ?_
                      rintro e w33 ⟨vnn, rfl, onn, hE33⟩
                      have hF33 := hF32.trans hE33
                      replace uu := uu.ext hE33
                      have nn : Its w33 vnn N := by rw [hN1.out] at onn; exact OwnI.its onn
                      rw [hN1.out]
                      clear onn
                      obtain ⟨ann, cnn, rfl, hlnn, hmnn, -⟩ := nn.form
                      unfold maxLen at hmnn
                      obtain ⟨bb, off, rfl, hbb, t0, t1, t2⟩ := nn.cell hNx.out
                      rw [hNl.out] at nn ⊢
                      have hw1 : IntKind.i64.wrap ((M.length : Int) + 1 - 1) = (M.length : Int) := by rw [show (M.length : Int) + 1 - 1 = (M.length : Int) by omega]; exact IntWalk.i64_in _ (by omega)
                      have hw2 : IntKind.i64.wrap (M.length : Int) = (M.length : Int) := IntWalk.i64_in _ (by omega)
                      have hi0 : (0 : Int) ≤ (M.length : Int) := by omega
                      have hi1 : (M.length : Int) < (M.length : Int) + 1 := by omega
                      have hi2 : (M.length : Int).toNat = M.length := by omega
                      have hi3 : ((M.length : Int) + 1 == 0) = false := beq_eq_false_iff_ne.2 (by omega)
                      have hph3' := hph3.out
                      go_wp2_with fail
                      refine (law32_is tag 2 nn).mono ?_
                      rintro e wz ⟨rfl, hEz⟩
                      rw [hph3.out]
                      replace t0 := hEz.cell t0; replace t1 := hEz.cell t1; replace t2 := hEz.cell t2
                      have hY := (hX.trans hF33).trans hEz
                      clear nn hph3'
                      go_wp2
                      go_roundw
                      case rel => exact ⟨i + 1, by omega, by go_num, hY⟩
                      case measure => simp [intOf]; omega
                    · have z3 : (N2 == 0) = false := beq_eq_false_iff_ne.2 hz
                      clear hz hwr
                      have hXX := Ext.refl wr
                      go_wp2_with fail
                      refine (phases_Many (t.ext hX) htk (hR.ext hX)).mono ?_
                      rintro e w30 ⟨vuu, rfl, ouu, hE30⟩
                      have hF30 := hXX.trans hE30
                      have uu : Its w30 vuu U := by rw [hM.out] at ouu; exact OwnI.its ouu
                      rw [hM.out]
                      clear ouu
                      obtain ⟨auu, cuu, rfl, hluu, hmuu, -⟩ := uu.form
                      go_wp2_with fail
                      refine (guard_ReadO tag uu ((hR.ext hX).ext hF30)).mono ?_
                      rintro e w31 ⟨vrr, rfl, orr, hE31⟩
                      have hF31 := hF30.trans hE31
                      replace uu := uu.ext hE31
                      have rr : Its w31 vrr R1 := by rw [hR1.out] at orr; exact OwnI.its orr
                      rw [hR1.out]
                      clear orr
                      obtain ⟨arr, crr, rfl, -⟩ := rr.form
                      go_wp2_with fail
                      refine (law32_is tag 1 uu).mono ?_
                      rintro e w32 ⟨rfl, hE32⟩
                      have hF32 := hF31.trans hE32
                      replace uu := uu.ext hE32
                      rw [hph2.out]
                      go_wp2_with fail
                      refine (phases_Activate tag uu ((hR.ext hX).ext hF32)).mono ?_
                      rintro e w33 ⟨vnn, rfl, onn, hE33⟩
                      have hF33 := hF32.trans hE33
                      replace uu := uu.ext hE33
                      have nn : Its w33 vnn N := by rw [hN1.out] at onn; exact OwnI.its onn
                      rw [hN1.out]
                      clear onn
                      obtain ⟨ann, cnn, rfl, hlnn, hmnn, -⟩ := nn.form
                      unfold maxLen at hmnn
                      have hY := hX.trans hF33
                      clear nn
                      go_wp2
                      go_roundw
                      case rel => exact ⟨i + 1, by omega, by go_num, hY⟩
                      case measure => simp [intOf]; omega
                  · have hnn : n < (i : Int) := by
                      rcases hro with ⟨h, -⟩ | ⟨-, h, -⟩
                      · exact absurd h hu
                      · exact h
                    have z1 : (u == 0) = false := beq_eq_false_iff_ne.2 hu
                    have z2 : decide (n < (i : Int)) = true := decide_eq_true hnn
                    clear hU hro hrr hu hnn
                    have hXX := Ext.refl wr
                    go_wp2_with fail
                    refine (phases_Many (t.ext hX) htk (hR.ext hX)).mono ?_
                    rintro e w30 ⟨vuu, rfl, ouu, hE30⟩
                    have hF30 := hXX.trans hE30
                    have uu : Its w30 vuu U := by rw [hM.out] at ouu; exact OwnI.its ouu
                    rw [hM.out]
                    clear ouu
                    obtain ⟨auu, cuu, rfl, hluu, hmuu, -⟩ := uu.form
                    go_wp2
                    go_ret
                    exact ⟨rfl, (hF6.trans hX).trans hF30⟩
                · have hle : decide ((i : Int) ≤ (tags.length : Int)) = false := decide_eq_false (by omega)
                  go_wp2
                  go_ret
                  exact ⟨rfl, hF6.trans hX⟩
            · have hq : (er == 0) = false ∨ (er = 0 ∧ (why == 0) = false) := by
                by_cases h : er = 0
                · exact .inr ⟨h, beq_eq_false_iff_ne.2 (fun h2 => hn ⟨h, h2⟩)⟩
                · exact .inl (beq_eq_false_iff_ne.2 h)
              replace hA := Lib.hid hA
              clear hn
              rcases hq with z1 | ⟨rfl, z1⟩
              all_goals
                go_enter Tryd.func7, Tryd.ntmps7
                go_wp2_with fail
                refine (law32_alive hP).mono ?_
                rintro e w1 ⟨rfl, hE1⟩
                have hF1 := hF0.trans hE1
                replace hL := hL.ext hE1
                replace hR := hR.ext hE1
                replace hP := hP.ext hE1
                replace hT := hT.ext hE1
                go_wp2_with fail
                refine (ref28_Great hL).mono ?_
                rintro e w2 ⟨rfl, rfl⟩
                rw [hd.out]
                go_wp2_with fail
                refine (ref28_Check hL).mono ?_
                rintro e w3 ⟨rfl, hE3⟩
                have hF3 := hF1.trans hE3
                replace hL := hL.ext hE3
                replace hR := hR.ext hE3
                replace hP := hP.ext hE3
                replace hT := hT.ext hE3
                rw [hc.out]
                go_wp2_with fail
                refine (ref28_At tag false hL).mono ?_
                rintro e w4 ⟨rfl, rfl⟩
                rw [hat.out]
                go_wp2_with fail
                refine (phases_Reserve hP old tag hL hR).mono ?_
                rintro e w5 ⟨vt, rfl, ot, hE5⟩
                have hF5 := hF3.trans hE5
                replace hL := hL.ext hE5
                replace hR := hR.ext hE5
                replace hP := hP.ext hE5
                replace hT := hT.ext hE5
                have t : Its w5 vt T := by rw [hA.out] at ot; exact OwnI.its ot
                rw [hA.out]
                clear ot
                obtain ⟨at_, ct, rfl, hlt_, hmt_, -⟩ := t.form
                go_wp2
                go_ret
                exact ⟨rfl, hF5⟩

set_option maxRecDepth 100000 in
theorem phasesKeeps_contract (H : Type) (enc : TypeId × Value → H) (W : World) (base : Nat) (args : Array Value) (ds gs : List (DataW H)) (before : List MemPlace)
    (hval0 : ∀ (j : Nat) t v, Tryd.f7.params[j]? = some t → args[j]? = some v → Value.okWide Tryd.prog W .any base t v)
    (hW : DataW.Whole enc Tryd.prog Tryd.f7.params.toList Rows.phasesKeepsSpec.vars false W args.toList ds gs before) (hL : laidMetH Tryd.prog Rows.phasesKeepsRow.laid W) :
    Calls Tryd.prog 7 args W fun e W' => ∃ v, e = .returned v ∧ Rows.phasesKeepsSpec.post enc Tryd.prog Tryd.f7 false true false false W args v W' := by
  have hval : ∀ (j : Nat) t v, Tryd.f7.params[j]? = some t → args[j]? = some v → Value.okWide Tryd.prog W .any base t v := hval0
  have hW' := hW
  obtain ⟨p, q, hA0, hV, rfl, hfz, hnd⟩ := hW
  have hA : DataW.TrodAll enc Tryd.prog W 0 (fun _ => true) true Tryd.f7.params.toList args.toList ds p := hA0
  rw [Tryd.params7] at hA hval
  obtain ⟨v0, vs0, d0, ds0, p0, q0, hargs, rfl, rfl, h0, r0⟩ := trodAll_cons hA
  obtain ⟨v1, vs1, d1, ds1, p1, q1, rfl, rfl, rfl, h1, r1⟩ := trodAll_cons r0
  obtain ⟨v2, vs2, d2, ds2, p2, q2, rfl, rfl, rfl, h2, r2⟩ := trodAll_cons r1
  obtain ⟨v3, vs3, d3, ds3, p3, q3, rfl, rfl, rfl, h3, r3⟩ := trodAll_cons r2
  obtain ⟨v4, vs4, d4, ds4, p4, q4, rfl, rfl, rfl, h4, r4⟩ := trodAll_cons r3
  obtain ⟨rfl, rfl, rfl⟩ := trodAll_nil r4
  obtain rfl : args = #[v0, v1, v2, v3, v4] := by cases args; simp_all
  obtain ⟨x0, k0, wf0⟩ := open_items Tryd.underlying31 (hval 0 31 v0 rfl rfl) h0
  obtain ⟨x1, rfl, rfl, rfl, wf1⟩ := open_int Tryd.underlying3 (hval 1 3 v1 rfl rfl) h1
  obtain ⟨x2, rfl, rfl, rfl, wf2⟩ := open_int Tryd.underlying3 (hval 2 3 v2 rfl rfl) h2
  obtain ⟨x3, k3, wf3⟩ := open_ints' Tryd.underlying37 (hval 3 37 v3 rfl rfl) h3
  obtain ⟨x4, k4, wf4⟩ := open_ints' Tryd.underlying37 (hval 4 37 v4 rfl rfl) h4
  refine (phasesKeeps_walk (perms_of_laid hL) x1 x2 k0 k3 k4).mono fun e W' ⟨he, hb⟩ => ?_
  subst he
  exact ⟨_, rfl, post_law TrydlaidOut (tb := 4) rfl Tryd.underlying4 (by kernel_rfl) rfl (fun ds hd => match ds, hd with | [a0, a1, a2, a3, a4], _ => rfl) hW' hb⟩
theorem phasesKeeps_met (os : Os) : laidMet Tryd.prog Rows.phasesKeepsRow.laid ((doorWorld os).forCall (fun _ _ => 0) ⟨#[], #[.slice none 0 0, .int .i64 0, .int .i64 0, .slice none 0 0, .slice none 0 0], []⟩).memory :=
  laidMet_of_run' 8 (by kernel_rfl) (by kernel_rfl)
theorem phasesKeeps_reads (os : Os) {H : Type} (enc : TypeId × Value → H) : ∃ places, DataW.whole enc Tryd.prog ((doorWorld os).forCall (fun _ _ => 0) ⟨#[], #[.slice none 0 0, .int .i64 0, .int .i64 0, .slice none 0 0, .slice none 0 0], []⟩).memory Tryd.f7.params.toList Rows.phasesKeepsSpec.vars false (#[.slice none 0 0, .int .i64 0, .int .i64 0, .slice none 0 0, .slice none 0 0] : Array Value).toList 8 = some ([.nil, .lit (.int .i64 0), .lit (.int .i64 0), .nil, .nil], [], places) :=
  ⟨[], by kernel_rfl⟩
set_option maxRecDepth 100000 in
theorem phasesKeeps_lifted (os : Os) (started : os.Started) (H : Type) (enc : TypeId × Value → H) (F : Stop.Interp) :
    ReturnsInHanded {} Tryd.checked os 7 .any ((OpenSpec.ofChange Rows.phasesKeepsSpec).preRow enc Tryd.prog Tryd.f7 Rows.phasesKeepsRow.domain false Rows.phasesKeepsRow.laid) (((OpenSpec.ofChange Rows.phasesKeepsSpec).at F).post enc Tryd.prog Tryd.f7 false true false false) := by
  obtain ⟨places, hx⟩ := phasesKeeps_reads os enc
  refine returnsInHanded_of_row (C := Tryd.checked) (s := OpenSpec.ofChange Rows.phasesKeepsSpec) Trydown started (by kernel_rfl) Tryd.func7
    (witness_row_at (enc := enc) (C := Tryd.checked) false (doorWorld os) #[.slice none 0 0, .int .i64 0, .int .i64 0, .slice none 0 0, .slice none 0 0] rfl (by kernel_rfl) (by kernel_rfl) (by kernel_rfl)
      (OpenSpec.preRow_of_cond 8 hx (by kernel_rfl) (fun k hk => by cases hk) (by kernel_rfl) (phasesKeeps_met os))) ?_
  intro W base args ds gs before hval hW _ _ _ hL _ _
  exact phasesKeeps_contract H enc W base args ds gs before hval hW hL
theorem phasesKeeps_said : Rows.PhasesKeepsSaid :=
  OpenClaim.holds_of_cond 7 Tryd.f7 rfl rfl rfl rfl rfl rfl rfl ⟨rfl, rfl, rfl, rfl, rfl⟩ rfl rfl rfl rfl rfl (by kernel_rfl) Tryd.func7 (by kernel_rfl)
    (of_decide_eq_true (by kernel_rfl)) (by unfold Func.isWrapper; first | (rw [if_pos (by decide +kernel)]; kernel_rfl) | (rw [if_neg (by decide +kernel)]; exact ⟨rfl, rfl⟩))
    (fun os started H enc _ F => by rw [OpenClaim.pre_eq_preRow]; exact phasesKeeps_lifted os started H enc F)
theorem phasesKeeps_plain (f : FuncId) (fn : Func) (hf : Tryd.pinned.checked.prog.funcNamed "pawnshop/pawnshoplaw32.PhasesKeeps" = some f) (hfn : Tryd.pinned.checked.prog.funcs[f]? = some fn) :
    false = Tryd.pinned.checked.prog.looks [] ∧ ∀ (j : Nat) t, fn.params[j]? = some t → Tryd.pinned.checked.prog.wantsStandIn t = false := by
  obtain rfl : f = 7 := Option.some.inj ((show Tryd.prog.funcNamed "pawnshop/pawnshoplaw32.PhasesKeeps" = some 7 by kernel_rfl).symm.trans hf) |>.symm
  obtain rfl : fn = Tryd.f7 := (Option.some.inj (Tryd.func7.symm.trans hfn)).symm
  refine ⟨by kernel_rfl, fun j t ht => ?_⟩
  have hm : t ∈ Tryd.f7.params.toList := by simpa using Array.mem_of_getElem? ht
  have hall : (Tryd.f7.params.toList.all fun u => !Tryd.prog.wantsStandIn u) = true := by kernel_rfl
  exact (show Tryd.prog.wantsStandIn t = false by simpa using List.all_eq_true.1 hall t hm)
theorem phasesKeeps_card : Rows.PhasesKeepsCardSaid :=
  Claim7.holds_tied_plain_at .later [] _ _ _ _ phasesKeeps_said (fun _ h => by cases h) (by kernel_rfl) (fun _ h => by cases h) phasesKeeps_row_tie rfl ⟨rfl, rfl⟩ (by kernel_rfl) rfl phasesKeeps_plain (by kernel_rfl)

end Go.Proofs.YtoobdejbcgkfdaaDoor
