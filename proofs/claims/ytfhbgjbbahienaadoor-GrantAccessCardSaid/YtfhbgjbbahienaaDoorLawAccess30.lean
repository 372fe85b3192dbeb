/- The statement GrantAccess, as the card: for every stack, kind, tag and item the call returns true; perms holds what its initialiser lays. No other condition. -/
import Derived.Test.YtfhbgjbbahienaaDoorLaw30A
import Derived.Test.YtfhbgjbbahienaaDoorDoor
import Derived.Test.YtfhbgjbbahienaaDoorReadI
namespace Go.Proofs.YtfhbgjbbahienaaDoor
set_option maxRecDepth 100000
open Go.ChangeShapes Go.WideShapes Go.ChangeAt Go.RowKit


set_option maxRecDepth 100000 in
set_option maxHeartbeats 3200000 in
theorem grantAccess_walk {l : List Item} {k : Int} {v : Value} {w : World} (hp : Perms w) (hk : u8B k) (old : Int) (x : Item) (hl : Its w v l) :
    Calls Tryd.prog 3 #[v, .int .u8 k, .int .i64 old, x.val] w fun e w' => e = .returned (.bool true) ∧ Ext w w' := by
  obtain ⟨a, cp, rfl, hlc, hcm, -⟩ := hl.form
  obtain ⟨xp, xt, xc⟩ := x
  unfold Item.val
  have bX := Box.new w 25 #[.int .u8 xp, .int .i64 xt, .int .i64 xc]
  have hF0 : Ext w (w.alloc (.cells #[.int .u8 xp, .int .i64 xt, .int .i64 xc] 25)) := (Ext.refl _).alloc _
  have hL := hl.ext hF0
  have hP := hp.ext hF0
  clear hl hp
  by_cases hb : 610 < l.length
  · have hd : Hid (decide (610 < l.length) = true) := Hid.mk (decide_eq_true hb)
    go_enter Tryd.func3, Tryd.ntmps3
    go_wp2_with fail
    refine (law30_alive hP).mono ?_
    rintro e w1 ⟨rfl, hE1⟩
    have hF1 := hF0.trans hE1
    replace hL := hL.ext hE1
    replace hP := hP.ext hE1
    replace bX := bX.ext hE1
    go_wp2_with fail
    refine (ref28_Great hL).mono ?_
    rintro e w2 ⟨rfl, rfl⟩
    rw [hd.out]
    go_wp2
    go_ret
    exact ⟨rfl, hF1⟩
  · have hd : Hid (decide (610 < l.length) = false) := Hid.mk (decide_eq_false hb)
    clear hb
    cases hok : okS l
    · have h8 : Hid (chk l = 8) := Hid.mk (by simp [chk, hok])
      clear hok
      go_enter Tryd.func3, Tryd.ntmps3
      go_wp2_with fail
      refine (law30_alive hP).mono ?_
      rintro e w1 ⟨rfl, hE1⟩
      have hF1 := hF0.trans hE1
      replace hL := hL.ext hE1
      replace hP := hP.ext hE1
      replace bX := bX.ext hE1
      go_wp2_with fail
      refine (ref28_Great hL).mono ?_
      rintro e w2 ⟨rfl, rfl⟩
      rw [hd.out]
      go_wp2_with fail
      refine (ref28_Check hL).mono ?_
      rintro e w3 ⟨rfl, hE3⟩
      have hF3 := hF1.trans hE3
      replace hL := hL.ext hE3
      replace hP := hP.ext hE3
      replace bX := bX.ext hE3
      rw [h8.out]
      go_wp2
      go_ret
      exact ⟨rfl, hF3⟩
    · have h0 : Hid (chk l = 0) := Hid.mk (by simp [chk, hok])
      have hl6 : Hid (l.length ≤ 600) := Hid.mk (by simp [okS] at hok; omega)
      obtain ⟨⟨R, G, why, er⟩, hR⟩ : ∃ r, retagR l k old ⟨xp, xt, xc⟩ = r := ⟨_, rfl⟩
      by_cases her : er = 0
      · subst her
        obtain ⟨s1, -, s2, -, s3⟩ := retag_spec hok hR
        have hacc : Hid (∀ wb, accL l old wb = usedL l old wb ∧ accG l old wb = usedG l old wb ∧ accW l old wb = usedW l old wb ∧ chk l = 0) := Hid.mk (fun wb => by simp [accL, accG, accW, chk, hok])
        replace s1 := Lib.hid s1
        replace hR := Lib.hid hR
        clear hok
        obtain ⟨wb, hwb⟩ : ∃ wb, writesOf k = wb := ⟨_, rfl⟩
        rw [hwb] at s2 s3
        replace hwb := Lib.hid hwb
        rcases s3 with ⟨rfl, rfl, rfl⟩ | ⟨rfl, s4, s5, s6⟩
        · replace s2 := Lib.hid s2.symm
          cases wb
          · go_enter Tryd.func3, Tryd.ntmps3
            go_wp2_with fail
            refine (law30_alive hP).mono ?_
            rintro e w1 ⟨rfl, hE1⟩
            have hF1 := hF0.trans hE1
            replace hL := hL.ext hE1
            replace hP := hP.ext hE1
            replace bX := bX.ext hE1
            go_wp2_with fail
            refine (ref28_Great hL).mono ?_
            rintro e w2 ⟨rfl, rfl⟩
            rw [hd.out]
            go_wp2_with fail
            refine (ref28_Check hL).mono ?_
            rintro e w3 ⟨rfl, hE3⟩
            have hF3 := hF1.trans hE3
            replace hL := hL.ext hE3
            replace hP := hP.ext hE3
            replace bX := bX.ext hE3
            rw [h0.out]
            have b0 := (bX.cell 0).trans rfl
            have b1 := (bX.cell 1).trans rfl
            have b2 := (bX.cell 2).trans rfl
            go_wp2_with fail
            refine (grant_RetagO hP hk old ⟨xp, xt, xc⟩ hL).mono ?_
            rintro e w4 ⟨va, vb, rfl, oa, ob, -, hE4⟩
            have hF4 := hF3.trans hE4
            replace hL := hL.ext hE4
            replace hP := hP.ext hE4
            replace bX := bX.ext hE4
            have ha : Its w4 va [] := by rw [hR.out] at oa; exact oa.sl
            have hb : Its w4 vb [] := by rw [hR.out] at ob; exact ob.sl
            rw [hR.out]
            clear oa ob
            obtain ⟨aa, ca, rfl, hlca, hcma, -⟩ := ha.form
            obtain ⟨ab, cb, rfl, -⟩ := hb.form
            go_wp2_with fail
            refine (grant_Writes _ hk).mono ?_
            rintro e w5 ⟨rfl, hE5⟩
            have hF5 := hF4.trans hE5
            replace hL := hL.ext hE5
            replace hP := hP.ext hE5
            replace bX := bX.ext hE5
            replace ha := ha.ext hE5
            replace hb := hb.ext hE5
            rw [hwb.out, s1.out]
            go_wp2_with fail
            refine (access_ReadO old hL).mono ?_
            rintro e w6 ⟨vc, vd, rfl, oc, od, -, hE6⟩
            have hF6 := hF5.trans hE6
            replace hL := hL.ext hE6
            replace hP := hP.ext hE6
            replace bX := bX.ext hE6
            replace ha := ha.ext hE6
            replace hb := hb.ext hE6
            obtain ⟨e1, e2, e3, e4⟩ := hacc.out false
            rw [e3, e4, s2.out]
            clear e1 e2 e3 e4
            obtain ⟨ac, cc, rfl, -⟩ := (Own.sl oc).slice_form
            obtain ⟨ad, cd, rfl, -⟩ := (Own.sl od).slice_form
            clear oc od
            go_wp2
            go_ret
            exact ⟨rfl, hF6⟩
          · go_enter Tryd.func3, Tryd.ntmps3
            go_wp2_with fail
            refine (law30_alive hP).mono ?_
            rintro e w1 ⟨rfl, hE1⟩
            have hF1 := hF0.trans hE1
            replace hL := hL.ext hE1
            replace hP := hP.ext hE1
            replace bX := bX.ext hE1
            go_wp2_with fail
            refine (ref28_Great hL).mono ?_
            rintro e w2 ⟨rfl, rfl⟩
            rw [hd.out]
            go_wp2_with fail
            refine (ref28_Check hL).mono ?_
            rintro e w3 ⟨rfl, hE3⟩
            have hF3 := hF1.trans hE3
            replace hL := hL.ext hE3
            replace hP := hP.ext hE3
            replace bX := bX.ext hE3
            rw [h0.out]
            have b0 := (bX.cell 0).trans rfl
            have b1 := (bX.cell 1).trans rfl
            have b2 := (bX.cell 2).trans rfl
            go_wp2_with fail
            refine (grant_RetagO hP hk old ⟨xp, xt, xc⟩ hL).mono ?_
            rintro e w4 ⟨va, vb, rfl, oa, ob, -, hE4⟩
            have hF4 := hF3.trans hE4
            replace hL := hL.ext hE4
            replace hP := hP.ext hE4
            replace bX := bX.ext hE4
            have ha : Its w4 va [] := by rw [hR.out] at oa; exact oa.sl
            have hb : Its w4 vb [] := by rw [hR.out] at ob; exact ob.sl
            rw [hR.out]
            clear oa ob
            obtain ⟨aa, ca, rfl, hlca, hcma, -⟩ := ha.form
            obtain ⟨ab, cb, rfl, -⟩ := hb.form
            go_wp2_with fail
            refine (grant_Writes _ hk).mono ?_
            rintro e w5 ⟨rfl, hE5⟩
            have hF5 := hF4.trans hE5
            replace hL := hL.ext hE5
            replace hP := hP.ext hE5
            replace bX := bX.ext hE5
            replace ha := ha.ext hE5
            replace hb := hb.ext hE5
            rw [hwb.out, s1.out]
            go_wp2_with fail
            refine (access_ReadO old hL).mono ?_
            rintro e w6 ⟨vc, vd, rfl, oc, od, -, hE6⟩
            have hF6 := hF5.trans hE6
            replace hL := hL.ext hE6
            replace hP := hP.ext hE6
            replace bX := bX.ext hE6
            replace ha := ha.ext hE6
            replace hb := hb.ext hE6
            obtain ⟨e1, e2, e3, e4⟩ := hacc.out false
            rw [e3, e4]
            clear e1 e2 e3 e4
            obtain ⟨ac, cc, rfl, -⟩ := (Own.sl oc).slice_form
            obtain ⟨ad, cd, rfl, -⟩ := (Own.sl od).slice_form
            clear oc od
            go_wp2_with fail
            refine (access_WriteO old hL).mono ?_
            rintro e w7 ⟨vc, vd, rfl, oc, od, -, hE7⟩
            have hF7 := hF6.trans hE7
            replace hL := hL.ext hE7
            replace hP := hP.ext hE7
            replace bX := bX.ext hE7
            replace ha := ha.ext hE7
            replace hb := hb.ext hE7
            obtain ⟨e1, e2, e3, e4⟩ := hacc.out true
            rw [e3, e4, s2.out]
            clear e1 e2 e3 e4
            obtain ⟨ac, cc, rfl, -⟩ := (Own.sl oc).slice_form
            obtain ⟨ad, cd, rfl, -⟩ := (Own.sl od).slice_form
            clear oc od
            go_wp2
            go_ret
            exact ⟨rfl, hF7⟩
        · replace s2 := Lib.hid s2.symm
          obtain ⟨M, hM⟩ : ∃ M, usedL l old wb = M := ⟨_, rfl⟩
          rw [hM] at s4 s6
          have hlen : R.length = M.length + 1 := by rw [s4]; simp
          have htake : Hid (R.take M.length = M) := Hid.mk (by rw [s4]; simp)
          have hMle : M.length ≤ R.length := by omega
          have q1 : ((R.length : Int) == (M.length : Int) + 1) = true := beq_iff_eq.2 (by omega)
          have hM6 : M.length ≤ 610 := by have : (usedL l old wb).length ≤ l.length := usedL_len; rw [hM] at this; have := hl6.out; omega
          have hw1 : IntKind.i64.wrap ((M.length : Int) + 1) = (M.length : Int) + 1 := IntWalk.i64_in _ (by omega)
          replace hM := Lib.hid hM
          replace s5 := Lib.hid s5.symm
          replace hlen := Lib.hid hlen
          clear s4 s6
          cases wb
          · go_enter Tryd.func3, Tryd.ntmps3
            go_wp2_with fail
            refine (law30_alive hP).mono ?_
            rintro e w1 ⟨rfl, hE1⟩
            have hF1 := hF0.trans hE1
            replace hL := hL.ext hE1
            replace hP := hP.ext hE1
            replace bX := bX.ext hE1
            go_wp2_with fail
            refine (ref28_Great hL).mono ?_
            rintro e w2 ⟨rfl, rfl⟩
            rw [hd.out]
            go_wp2_with fail
            refine (ref28_Check hL).mono ?_
            rintro e w3 ⟨rfl, hE3⟩
            have hF3 := hF1.trans hE3
            replace hL := hL.ext hE3
            replace hP := hP.ext hE3
            replace bX := bX.ext hE3
            rw [h0.out]
            have b0 := (bX.cell 0).trans rfl
            have b1 := (bX.cell 1).trans rfl
            have b2 := (bX.cell 2).trans rfl
            go_wp2_with fail
            refine (grant_RetagO hP hk old ⟨xp, xt, xc⟩ hL).mono ?_
            rintro e w4 ⟨va, vb, rfl, oa, ob, -, hE4⟩
            have hF4 := hF3.trans hE4
            replace hL := hL.ext hE4
            replace hP := hP.ext hE4
            replace bX := bX.ext hE4
            have ha : Its w4 va R := by rw [hR.out] at oa; exact oa.sl
            have hb : Its w4 vb G := by rw [hR.out] at ob; exact ob.sl
            rw [hR.out]
            clear oa ob
            obtain ⟨aa, ca, rfl, hlca, hcma, -⟩ := ha.form
            obtain ⟨ab, cb, rfl, -⟩ := hb.form
            go_wp2_with fail
            refine (grant_Writes _ hk).mono ?_
            rintro e w5 ⟨rfl, hE5⟩
            have hF5 := hF4.trans hE5
            replace hL := hL.ext hE5
            replace hP := hP.ext hE5
            replace bX := bX.ext hE5
            replace ha := ha.ext hE5
            replace hb := hb.ext hE5
            rw [hwb.out, s1.out]
            go_wp2_with fail
            refine (access_ReadO old hL).mono ?_
            rintro e w6 ⟨vc, vd, rfl, oc, od, -, hE6⟩
            have hF6 := hF5.trans hE6
            replace hL := hL.ext hE6
            replace hP := hP.ext hE6
            replace bX := bX.ext hE6
            replace ha := ha.ext hE6
            replace hb := hb.ext hE6
            obtain ⟨e1, e2, e3, e4⟩ := hacc.out false
            have hc : Its w6 vc M := by rw [e1, hM.out] at oc; exact oc.sl
            have hd' : Its w6 vd G := by rw [e2, s5.out] at od; exact od.sl
            rw [e3, e4, s2.out]
            obtain ⟨ac, cc, rfl, -⟩ := hc.form
            obtain ⟨ad, cd, rfl, -⟩ := hd'.form
            clear e1 e2 e3 e4 oc od
            have hsl := slice_upto_Stack aa R ca (M.length : Int) M.length rfl (by omega)
            have htk := ha.take M.length hMle; rw [htake.out] at htk
            go_wp2_with fail
            refine (ref28_Same_yes htk hc).mono ?_
            rintro e w7 ⟨rfl, hE7⟩
            have hF7 := hF6.trans hE7
            replace hL := hL.ext hE7
            replace hP := hP.ext hE7
            replace bX := bX.ext hE7
            replace ha := ha.ext hE7
            replace hb := hb.ext hE7
            replace hc := hc.ext hE7
            replace hd' := hd'.ext hE7
            go_wp2_with fail
            refine (ref28_Same_yes hb hd').mono ?_
            rintro e w8 ⟨rfl, hE8⟩
            have hF8 := hF7.trans hE8
            replace hL := hL.ext hE8
            replace hP := hP.ext hE8
            replace bX := bX.ext hE8
            replace ha := ha.ext hE8
            replace hb := hb.ext hE8
            replace hc := hc.ext hE8
            replace hd' := hd'.ext hE8
            go_wp2
            go_ret
            exact ⟨rfl, hF8⟩
          · go_enter Tryd.func3, Tryd.ntmps3
            go_wp2_with fail
            refine (law30_alive hP).mono ?_
            rintro e w1 ⟨rfl, hE1⟩
            have hF1 := hF0.trans hE1
            replace hL := hL.ext hE1
            replace hP := hP.ext hE1
            replace bX := bX.ext hE1
            go_wp2_with fail
            refine (ref28_Great hL).mono ?_
            rintro e w2 ⟨rfl, rfl⟩
            rw [hd.out]
            go_wp2_with fail
            refine (ref28_Check hL).mono ?_
            rintro e w3 ⟨rfl, hE3⟩
            have hF3 := hF1.trans hE3
            replace hL := hL.ext hE3
            replace hP := hP.ext hE3
            replace bX := bX.ext hE3
            rw [h0.out]
            have b0 := (bX.cell 0).trans rfl
            have b1 := (bX.cell 1).trans rfl
            have b2 := (bX.cell 2).trans rfl
            go_wp2_with fail
            refine (grant_RetagO hP hk old ⟨xp, xt, xc⟩ hL).mono ?_
            rintro e w4 ⟨va, vb, rfl, oa, ob, -, hE4⟩
            have hF4 := hF3.trans hE4
            replace hL := hL.ext hE4
            replace hP := hP.ext hE4
            replace bX := bX.ext hE4
            have ha : Its w4 va R := by rw [hR.out] at oa; exact oa.sl
            have hb : Its w4 vb G := by rw [hR.out] at ob; exact ob.sl
            rw [hR.out]
            clear oa ob
            obtain ⟨aa, ca, rfl, hlca, hcma, -⟩ := ha.form
            obtain ⟨ab, cb, rfl, -⟩ := hb.form
            go_wp2_with fail
            refine (grant_Writes _ hk).mono ?_
            rintro e w5 ⟨rfl, hE5⟩
            have hF5 := hF4.trans hE5
            replace hL := hL.ext hE5
            replace hP := hP.ext hE5
            replace bX := bX.ext hE5
            replace ha := ha.ext hE5
            replace hb := hb.ext hE5
            rw [hwb.out, s1.out]
            go_wp2_with fail
            refine (access_ReadO old hL).mono ?_
            rintro e w6 ⟨vc, vd, rfl, oc, od, -, hE6⟩
            have hF6 := hF5.trans hE6
            replace hL := hL.ext hE6
            replace hP := hP.ext hE6
            replace bX := bX.ext hE6
            replace ha := ha.ext hE6
            replace hb := hb.ext hE6
            obtain ⟨e1, e2, e3, e4⟩ := hacc.out false
            rw [e3, e4]
            obtain ⟨ac, cc, rfl, -⟩ := (Own.sl oc).slice_form
            obtain ⟨ad, cd, rfl, -⟩ := (Own.sl od).slice_form
            clear e1 e2 e3 e4 oc od
            go_wp2_with fail
            refine (access_WriteO old hL).mono ?_
            rintro e w7 ⟨vc, vd, rfl, oc, od, -, hE7⟩
            have hF7 := hF6.trans hE7
            replace hL := hL.ext hE7
            replace hP := hP.ext hE7
            replace bX := bX.ext hE7
            replace ha := ha.ext hE7
            replace hb := hb.ext hE7
            obtain ⟨e1, e2, e3, e4⟩ := hacc.out true
            have hc : Its w7 vc M := by rw [e1, hM.out] at oc; exact oc.sl
            have hd' : Its w7 vd G := by rw [e2, s5.out] at od; exact od.sl
            rw [e3, e4, s2.out]
            obtain ⟨ac, cc, rfl, -⟩ := hc.form
            obtain ⟨ad, cd, rfl, -⟩ := hd'.form
            clear e1 e2 e3 e4 oc od
            have hsl := slice_upto_Stack aa R ca (M.length : Int) M.length rfl (by omega)
            have htk := ha.take M.length hMle; rw [htake.out] at htk
            go_wp2_with fail
            refine (ref28_Same_yes htk hc).mono ?_
            rintro e w8 ⟨rfl, hE8⟩
            have hF8 := hF7.trans hE8
            replace hL := hL.ext hE8
            replace hP := hP.ext hE8
            replace bX := bX.ext hE8
            replace ha := ha.ext hE8
            replace hb := hb.ext hE8
            replace hc := hc.ext hE8
            replace hd' := hd'.ext hE8
            go_wp2_with fail
            refine (ref28_Same_yes hb hd').mono ?_
            rintro e w9 ⟨rfl, hE9⟩
            have hF9 := hF8.trans hE9
            replace hL := hL.ext hE9
            replace hP := hP.ext hE9
            replace bX := bX.ext hE9
            replace ha := ha.ext hE9
            replace hb := hb.ext hE9
            replace hc := hc.ext hE9
            replace hd' := hd'.ext hE9
            go_wp2
            go_ret
            exact ⟨rfl, hF9⟩
      · have z1 : (er == 0) = false := beq_eq_false_iff_ne.2 her
        replace hR := Lib.hid hR
        clear hok her
        go_enter Tryd.func3, Tryd.ntmps3
        go_wp2_with fail
        refine (law30_alive hP).mono ?_
        rintro e w1 ⟨rfl, hE1⟩
        have hF1 := hF0.trans hE1
        replace hL := hL.ext hE1
        replace hP := hP.ext hE1
        replace bX := bX.ext hE1
        go_wp2_with fail
        refine (ref28_Great hL).mono ?_
        rintro e w2 ⟨rfl, rfl⟩
        rw [hd.out]
        go_wp2_with fail
        refine (ref28_Check hL).mono ?_
        rintro e w3 ⟨rfl, hE3⟩
        have hF3 := hF1.trans hE3
        replace hL := hL.ext hE3
        replace hP := hP.ext hE3
        replace bX := bX.ext hE3
        rw [h0.out]
        have b0 := (bX.cell 0).trans rfl
        have b1 := (bX.cell 1).trans rfl
        have b2 := (bX.cell 2).trans rfl
        go_wp2_with fail
        refine (grant_RetagO hP hk old ⟨xp, xt, xc⟩ hL).mono ?_
        rintro e w4 ⟨va, vb, rfl, oa, ob, -, hE4⟩
        have hF4 := hF3.trans hE4
        replace hL := hL.ext hE4
        replace hP := hP.ext hE4
        replace bX := bX.ext hE4
        have ha : Its w4 va R := by rw [hR.out] at oa; exact oa.sl
        have hb : Its w4 vb G := by rw [hR.out] at ob; exact ob.sl
        rw [hR.out]
        clear oa ob
        obtain ⟨aa, ca, rfl, hlca, hcma, -⟩ := ha.form
        obtain ⟨ab, cb, rfl, -⟩ := hb.form
        go_wp2
        go_ret
        exact ⟨rfl, hF4⟩
set_option maxRecDepth 100000 in
theorem grantAccess_contract (H : Type) (enc : TypeId × Value → H) (W : World) (base : Nat) (args : Array Value) (ds gs : List (DataW H)) (before : List MemPlace)
    (hval0 : ∀ (j : Nat) t v, Tryd.f3.params[j]? = some t → args[j]? = some v → Value.okWide Tryd.prog W .any base t v)
    (hW : DataW.Whole enc Tryd.prog Tryd.f3.params.toList Rows.grantAccessSpec.vars false W args.toList ds gs before) (hL : laidMetH Tryd.prog Rows.grantAccessRow.laid W) :
    Calls Tryd.prog 3 args W fun e W' => ∃ v, e = .returned v ∧ Rows.grantAccessSpec.post enc Tryd.prog Tryd.f3 false true false false W args v W' := by
  have hval : ∀ (j : Nat) t v, Tryd.f3.params[j]? = some t → args[j]? = some v → Value.okWide Tryd.prog W .any base t v := hval0
  have hW' := hW
  obtain ⟨p, q, hA0, hV, rfl, hfz, hnd⟩ := hW
  have hA : DataW.TrodAll enc Tryd.prog W 0 (fun _ => true) true Tryd.f3.params.toList args.toList ds p := hA0
  rw [Tryd.params3] at hA hval
  obtain ⟨v0, vs0, d0, ds0, p0, q0, hargs, rfl, rfl, h0, r0⟩ := trodAll_cons hA
  obtain ⟨v1, vs1, d1, ds1, p1, q1, rfl, rfl, rfl, h1, r1⟩ := trodAll_cons r0
  obtain ⟨v2, vs2, d2, ds2, p2, q2, rfl, rfl, rfl, h2, r2⟩ := trodAll_cons r1
  obtain ⟨v3, vs3, d3, ds3, p3, q3, rfl, rfl, rfl, h3, r3⟩ := trodAll_cons r2
  obtain ⟨rfl, rfl, rfl⟩ := trodAll_nil r3
  obtain rfl : args = #[v0, v1, v2, v3] := by cases args; simp_all
  obtain ⟨x0, k0, wf0⟩ := open_items Tryd.underlying23 (hval 0 23 v0 rfl rfl) h0
  obtain ⟨x1, rfl, rfl, rfl, wf1⟩ := open_int Tryd.underlying5 (hval 1 5 v1 rfl rfl) h1
  obtain ⟨x2, rfl, rfl, rfl, wf2⟩ := open_int Tryd.underlying3 (hval 2 3 v2 rfl rfl) h2
  obtain ⟨x3, rfl, wf3⟩ := open_item (hval 3 25 v3 rfl rfl) h3
  refine (grantAccess_walk (perms_of_laid hL) (u8B_of wf1) x2 x3 k0).mono fun e W' ⟨he, hb⟩ => ?_
  subst he
  exact ⟨_, rfl, post_law TrydlaidOut (tb := 4) rfl Tryd.underlying4 (by kernel_rfl) rfl (fun ds hd => match ds, hd with | [a0, a1, a2, a3], _ => rfl) hW' hb⟩
theorem grantAccess_met (os : Os) : laidMet Tryd.prog Rows.grantAccessRow.laid ((doorWorld os).forCall (fun _ _ => 0) ⟨#[], #[.slice none 0 0, .int .u8 0, .int .i64 0, .agg #[.int .u8 0, .int .i64 0, .int .i64 0]], []⟩).memory :=
  laidMet_of_run' 8 (by kernel_rfl) (by kernel_rfl)
theorem grantAccess_reads (os : Os) {H : Type} (enc : TypeId × Value → H) : ∃ places, DataW.whole enc Tryd.prog ((doorWorld os).forCall (fun _ _ => 0) ⟨#[], #[.slice none 0 0, .int .u8 0, .int .i64 0, .agg #[.int .u8 0, .int .i64 0, .int .i64 0]], []⟩).memory Tryd.f3.params.toList Rows.grantAccessSpec.vars false (#[.slice none 0 0, .int .u8 0, .int .i64 0, .agg #[.int .u8 0, .int .i64 0, .int .i64 0]] : Array Value).toList 8 = some ([.nil, .lit (.int .u8 0), .lit (.int .i64 0), .agg [.lit (.int .u8 0), .lit (.int .i64 0), .lit (.int .i64 0)]], [], places) :=
  ⟨[], by kernel_rfl⟩
set_option maxRecDepth 100000 in
theorem grantAccess_lifted (os : Os) (started : os.Started) (H : Type) (enc : TypeId × Value → H) (F : Stop.Interp) :
    ReturnsInHanded {} Tryd.checked os 3 .any ((OpenSpec.ofChange Rows.grantAccessSpec).preRow enc Tryd.prog Tryd.f3 Rows.grantAccessRow.domain false Rows.grantAccessRow.laid) (((OpenSpec.ofChange Rows.grantAccessSpec).at F).post enc Tryd.prog Tryd.f3 false true false false) := by
  obtain ⟨places, hx⟩ := grantAccess_reads os enc
  refine returnsInHanded_of_row (C := Tryd.checked) (s := OpenSpec.ofChange Rows.grantAccessSpec) Trydown started (by kernel_rfl) Tryd.func3
    (witness_row_at (enc := enc) (C := Tryd.checked) false (doorWorld os) #[.slice none 0 0, .int .u8 0, .int .i64 0, .agg #[.int .u8 0, .int .i64 0, .int .i64 0]] rfl (by kernel_rfl) (by kernel_rfl) (by kernel_rfl)
      (OpenSpec.preRow_of_cond 8 hx (by kernel_rfl) (fun k hk => by cases hk) (by kernel_rfl) (grantAccess_met os))) ?_
  intro W base args ds gs before hval hW _ _ _ hL _ _
  exact grantAccess_contract H enc W base args ds gs before hval hW hL
theorem grantAccess_said : Rows.GrantAccessSaid :=
  OpenClaim.holds_of_cond 3 Tryd.f3 rfl rfl rfl rfl rfl rfl rfl ⟨rfl, rfl, rfl, rfl, rfl⟩ rfl rfl rfl rfl rfl (by kernel_rfl) Tryd.func3 (by kernel_rfl)
    (of_decide_eq_true (by kernel_rfl)) (by unfold Func.isWrapper; first | (rw [if_pos (by decide +kernel)]; kernel_rfl) | (rw [if_neg (by decide +kernel)]; exact ⟨rfl, rfl⟩))
    (fun os started H enc _ F => by rw [OpenClaim.pre_eq_preRow]; exact grantAccess_lifted os started H enc F)
theorem grantAccess_plain (f : FuncId) (fn : Func) (hf : Tryd.pinned.checked.prog.funcNamed "pawnshop/pawnshoplaw30.GrantAccess" = some f) (hfn : Tryd.pinned.checked.prog.funcs[f]? = some fn) :
    false = Tryd.pinned.checked.prog.looks [] ∧ ∀ (j : Nat) t, fn.params[j]? = some t → Tryd.pinned.checked.prog.wantsStandIn t = false := by
  obtain rfl : f = 3 := Option.some.inj ((show Tryd.prog.funcNamed "pawnshop/pawnshoplaw30.GrantAccess" = some 3 by kernel_rfl).symm.trans hf) |>.symm
  obtain rfl : fn = Tryd.f3 := (Option.some.inj (Tryd.func3.symm.trans hfn)).symm
  refine ⟨by kernel_rfl, fun j t ht => ?_⟩
  have hm : t ∈ Tryd.f3.params.toList := by simpa using Array.mem_of_getElem? ht
  have hall : (Tryd.f3.params.toList.all fun u => !Tryd.prog.wantsStandIn u) = true := by kernel_rfl
  exact (show Tryd.prog.wantsStandIn t = false by simpa using List.all_eq_true.1 hall t hm)
theorem grantAccess_card : Rows.GrantAccessCardSaid :=
  Claim7.holds_tied_plain_at .later [] _ _ _ _ grantAccess_said (fun _ h => by cases h) (by kernel_rfl) (fun _ h => by cases h) grantAccess_row_tie rfl ⟨rfl, rfl⟩ (by kernel_rfl) rfl grantAccess_plain (by kernel_rfl)

end Go.Proofs.YtfhbgjbbahienaaDoor
