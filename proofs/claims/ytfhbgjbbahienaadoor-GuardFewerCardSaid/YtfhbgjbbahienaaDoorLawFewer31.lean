/- The statement GuardFewer, as the card: for every stack, access, tag, list of calls and index the call returns true; perms holds what its initialiser lays. No other condition. -/
import Derived.Test.YtfhbgjbbahienaaDoorLaw31B
import Derived.Test.YtfhbgjbbahienaaDoorDoor
import Derived.Test.YtfhbgjbbahienaaDoorReadI
import Derived.Deep.RegionHeld3
namespace Go.Proofs.YtfhbgjbbahienaaDoor
set_option maxRecDepth 100000
open Go.ChangeShapes Go.WideShapes Go.ChangeAt Go.RowKit


set_option maxRecDepth 100000 in
set_option maxHeartbeats 3200000 in
theorem guardFewer_walk {l : List Item} {run : List Int} {k : Int} {v r : Value} {w : World} (hp : Perms w) (hk : u8B k) (tag c : Int) (hl : Its w v l) (hr : Nts w r run) :
    Calls Tryd.prog 9 #[v, .int .u8 k, .int .i64 tag, r, .int .i64 c] w fun e w' => e = .returned (.bool true) ∧ Ext w w' := by
  have hF0 := Ext.refl w
  have hL := hl; have hR := hr; have hP := hp
  obtain ⟨a, cp, rfl, hlc, hcm, -⟩ := hl.form
  obtain ⟨a2, cp2, rfl, hlc2, hcm2, -⟩ := hr.form
  clear hl hp hr
  by_cases hb : 610 < l.length
  · have hd : Hid (decide (610 < l.length) = true) := Hid.mk (decide_eq_true hb)
    go_enter Tryd.func9, Tryd.ntmps9
    go_wp2_with fail
    refine (law31_aliveO _).mono ?_
    rintro e w1 ⟨rfl, hE1⟩
    have hF1 := hF0.trans hE1
    replace hL := hL.ext hE1
    replace hR := hR.ext hE1
    replace hP := hP.ext hE1
    go_wp2_with fail
    refine (ref28_Great hL).mono ?_
    rintro e w2 ⟨rfl, rfl⟩
    rw [hd.out]
    go_wp2
    go_ret
    exact ⟨rfl, hF1⟩
  · have hd : Hid (decide (610 < l.length) = false) := Hid.mk (decide_eq_false hb)
    clear hb
    by_cases h5 : 32 < run.length
    · have q1 : decide ((32 : Int) < (run.length : Int)) = true := decide_eq_true (by omega)
      clear h5
      go_enter Tryd.func9, Tryd.ntmps9
      go_wp2_with fail
      refine (law31_aliveO _).mono ?_
      rintro e w1 ⟨rfl, hE1⟩
      have hF1 := hF0.trans hE1
      replace hL := hL.ext hE1
      replace hR := hR.ext hE1
      replace hP := hP.ext hE1
      go_wp2_with fail
      refine (ref28_Great hL).mono ?_
      rintro e w2 ⟨rfl, rfl⟩
      rw [hd.out]
      go_wp2
      go_ret
      exact ⟨rfl, hF1⟩
    · have q1 : decide ((32 : Int) < (run.length : Int)) = false := decide_eq_false (by omega)
      have hl32 : run.length ≤ 32 := by omega
      clear h5
      cases hok : okR run
      · have h8 := Lib.hid (runErr_bad hok)
        clear hok
        go_enter Tryd.func9, Tryd.ntmps9
        go_wp2_with fail
        refine (law31_aliveO _).mono ?_
        rintro e w1 ⟨rfl, hE1⟩
        have hF1 := hF0.trans hE1
        replace hL := hL.ext hE1
        replace hR := hR.ext hE1
        replace hP := hP.ext hE1
        go_wp2_with fail
        refine (ref28_Great hL).mono ?_
        rintro e w2 ⟨rfl, rfl⟩
        rw [hd.out]
        go_wp2_with fail
        refine (ref31_Check hR).mono ?_
        rintro e w3 ⟨rfl, rfl⟩
        rw [h8.out]
        go_wp2
        go_ret
        exact ⟨rfl, hF1⟩
      · have h0 := Lib.hid (runErr_ok hok)
        obtain ⟨⟨A1, A2, A3⟩, hA⟩ : ∃ x, doR l k tag run = x := ⟨_, rfl⟩
        obtain ⟨⟨X, XG, why, er⟩, hX⟩ : ∃ x, baseR l k tag = x := ⟨_, rfl⟩
        have hN : Hid (doR l k tag [] = (X, why, er)) := Hid.mk (by rw [none_law, hX])
        have hcase : (decide (0 ≤ c) = false) ∨ (decide (0 ≤ c) = true ∧ decide (c < (run.length : Int)) = false) ∨ (decide (0 ≤ c) = true ∧ decide (c < (run.length : Int)) = true ∧ ∃ i : Nat, c = i ∧ i < run.length ∧ ∃ B w f, doR l k tag (run.take i ++ run.drop (i + 1)) = (B, w, f) ∧ f = A3 ∧ ((A2 = 2 ∧ A3 = 0) ∨ (B = A1 ∧ w = A2))) := by
          by_cases h1 : 0 ≤ c
          · by_cases h2 : c < (run.length : Int)
            · refine .inr (.inr ⟨decide_eq_true h1, decide_eq_true h2, c.toNat, by omega, by omega, ?_⟩)
              obtain ⟨⟨B, w', f⟩, hB⟩ : ∃ x, doR l k tag (run.take c.toNat ++ run.drop (c.toNat + 1)) = x := ⟨_, rfl⟩
              obtain ⟨e1, e2⟩ := fewer_law hok (by omega) hA hB
              exact ⟨B, w', f, hB, e1, e2⟩
            · exact .inr (.inl ⟨decide_eq_true h1, decide_eq_false h2⟩)
          · exact .inl (decide_eq_false h1)
        have hway : (k = 0 ∧ Hid (accL l tag false = X ∧ accW l tag false = why ∧ chk l = er)) ∨ ((k == 0) = false ∧ k = 5 ∧ Hid (accL l tag true = X ∧ accW l tag true = why ∧ chk l = er)) ∨ ((k == 0) = false ∧ (k == 5) = false ∧ Hid (retagR l k tag ⟨0, 9, 0⟩ = (X, XG, why, er))) := by
          unfold baseR at hX
          by_cases e0 : k = 0
          · rw [if_pos e0] at hX
            simp only [Prod.mk.injEq] at hX
            exact .inl ⟨e0, Hid.mk ⟨hX.1, hX.2.2.1, hX.2.2.2⟩⟩
          · rw [if_neg e0] at hX
            by_cases e5 : k = 5
            · rw [if_pos e5] at hX
              simp only [Prod.mk.injEq] at hX
              exact .inr (.inl ⟨beq_eq_false_iff_ne.2 e0, e5, Hid.mk ⟨hX.1, hX.2.2.1, hX.2.2.2⟩⟩)
            · rw [if_neg e5] at hX
              exact .inr (.inr ⟨beq_eq_false_iff_ne.2 e0, beq_eq_false_iff_ne.2 e5, Hid.mk hX⟩)
        replace hA := Lib.hid hA
        clear hX hok
        have hway' := Lib.hid hway
        clear hway
        rcases hcase with g1 | ⟨g1, g2⟩ | ⟨g1, g2, i, rfl, hi, B, wf, f, hB, rfl, hfl⟩
        ·
          go_enter Tryd.func9, Tryd.ntmps9
          go_wp2_with fail
          refine (law31_aliveO _).mono ?_
          rintro e w1 ⟨rfl, hE1⟩
          have hF1 := hF0.trans hE1
          replace hL := hL.ext hE1
          replace hR := hR.ext hE1
          replace hP := hP.ext hE1
          go_wp2_with fail
          refine (ref28_Great hL).mono ?_
          rintro e w2 ⟨rfl, rfl⟩
          rw [hd.out]
          go_wp2_with fail
          refine (ref31_Check hR).mono ?_
          rintro e w3 ⟨rfl, rfl⟩
          rw [h0.out]
          go_wp2_with fail
          refine (law31_use hP hk tag hL hR).mono ?_
          rintro e w4 ⟨va, rfl, oa, hE4⟩
          have hF4 := hF1.trans hE4
          replace hL := hL.ext hE4
          replace hR := hR.ext hE4
          replace hP := hP.ext hE4
          have ha : Its w4 va A1 := by rw [hA.out] at oa; exact oa.its
          rw [hA.out]
          clear oa
          obtain ⟨aa, ca, rfl, -⟩ := ha.form
          go_wp2_with fail
          refine (law31_use hP hk tag hL (Nts.nil _)).mono ?_
          rintro e w10 ⟨vn, rfl, on, hE10⟩
          have hF10 := hF4.trans hE10
          replace hL := hL.ext hE10
          replace hR := hR.ext hE10
          replace hP := hP.ext hE10
          have hn : Its w10 vn X := by rw [hN.out] at on; exact on.its
          rw [hN.out]
          clear on
          obtain ⟨an, cn, rfl, -⟩ := hn.form
          rcases hway'.out with ⟨rfl, hy⟩ | ⟨q0, rfl, hy⟩ | ⟨q0, q5, hy⟩
          ·
            go_wp2_with fail
            refine (access_ReadO tag hL).mono ?_
            rintro e w15 ⟨vd, ve, rfl, od, oe, -, hE15⟩
            have hF15 := hF10.trans hE15
            replace hL := hL.ext hE15
            replace hR := hR.ext hE15
            replace hP := hP.ext hE15
            replace hn := hn.ext hE15
            obtain ⟨y1, y2, y3⟩ := hy.out
            rw [y2, y3]
            have hdd : Its w15 vd X := by rw [y1] at od; exact od.sl
            clear y1 y2 y3
            obtain ⟨ae, ce, rfl, -⟩ := (Own.sl oe).slice_form
            clear od oe
            obtain ⟨ad, cd, rfl, -⟩ := hdd.form
            go_wp2_with fail
            refine (ref28_Same_yes hn hdd).mono ?_
            rintro e w16 ⟨rfl, hE16⟩
            have hF16 := hF15.trans hE16
            replace hL := hL.ext hE16
            replace hR := hR.ext hE16
            replace hP := hP.ext hE16
            replace hn := hn.ext hE16
            replace hdd := hdd.ext hE16
            go_wp2
            go_ret
            exact ⟨rfl, hF16⟩
          ·
            go_wp2_with fail
            refine (access_WriteO tag hL).mono ?_
            rintro e w15 ⟨vd, ve, rfl, od, oe, -, hE15⟩
            have hF15 := hF10.trans hE15
            replace hL := hL.ext hE15
            replace hR := hR.ext hE15
            replace hP := hP.ext hE15
            replace hn := hn.ext hE15
            obtain ⟨y1, y2, y3⟩ := hy.out
            rw [y2, y3]
            have hdd : Its w15 vd X := by rw [y1] at od; exact od.sl
            clear y1 y2 y3
            obtain ⟨ae, ce, rfl, -⟩ := (Own.sl oe).slice_form
            clear od oe
            obtain ⟨ad, cd, rfl, -⟩ := hdd.form
            go_wp2_with fail
            refine (ref28_Same_yes hn hdd).mono ?_
            rintro e w16 ⟨rfl, hE16⟩
            have hF16 := hF15.trans hE16
            replace hL := hL.ext hE16
            replace hR := hR.ext hE16
            replace hP := hP.ext hE16
            replace hn := hn.ext hE16
            replace hdd := hdd.ext hE16
            go_wp2
            go_ret
            exact ⟨rfl, hF16⟩
          ·
            go_wp2_with fail
            refine (grant_RetagO hP hk tag ⟨0, 9, 0⟩ hL).mono ?_
            rintro e w15 ⟨vd, ve, rfl, od, oe, -, hE15⟩
            have hF15 := hF10.trans hE15
            replace hL := hL.ext hE15
            replace hR := hR.ext hE15
            replace hP := hP.ext hE15
            replace hn := hn.ext hE15
            rw [hy.out]
            have hdd : Its w15 vd X := by rw [hy.out] at od; exact od.sl
            obtain ⟨ae, ce, rfl, -⟩ := (Own.sl oe).slice_form
            clear od oe
            obtain ⟨ad, cd, rfl, -⟩ := hdd.form
            go_wp2_with fail
            refine (ref28_Same_yes hn hdd).mono ?_
            rintro e w16 ⟨rfl, hE16⟩
            have hF16 := hF15.trans hE16
            replace hL := hL.ext hE16
            replace hR := hR.ext hE16
            replace hP := hP.ext hE16
            replace hn := hn.ext hE16
            replace hdd := hdd.ext hE16
            go_wp2
            go_ret
            exact ⟨rfl, hF16⟩
        ·
          go_enter Tryd.func9, Tryd.ntmps9
          go_wp2_with fail
          refine (law31_aliveO _).mono ?_
          rintro e w1 ⟨rfl, hE1⟩
          have hF1 := hF0.trans hE1
          replace hL := hL.ext hE1
          replace hR := hR.ext hE1
          replace hP := hP.ext hE1
          go_wp2_with fail
          refine (ref28_Great hL).mono ?_
          rintro e w2 ⟨rfl, rfl⟩
          rw [hd.out]
          go_wp2_with fail
          refine (ref31_Check hR).mono ?_
          rintro e w3 ⟨rfl, rfl⟩
          rw [h0.out]
          go_wp2_with fail
          refine (law31_use hP hk tag hL hR).mono ?_
          rintro e w4 ⟨va, rfl, oa, hE4⟩
          have hF4 := hF1.trans hE4
          replace hL := hL.ext hE4
          replace hR := hR.ext hE4
          replace hP := hP.ext hE4
          have ha : Its w4 va A1 := by rw [hA.out] at oa; exact oa.its
          rw [hA.out]
          clear oa
          obtain ⟨aa, ca, rfl, -⟩ := ha.form
          go_wp2_with fail
          refine (law31_use hP hk tag hL (Nts.nil _)).mono ?_
          rintro e w10 ⟨vn, rfl, on, hE10⟩
          have hF10 := hF4.trans hE10
          replace hL := hL.ext hE10
          replace hR := hR.ext hE10
          replace hP := hP.ext hE10
          have hn : Its w10 vn X := by rw [hN.out] at on; exact on.its
          rw [hN.out]
          clear on
          obtain ⟨an, cn, rfl, -⟩ := hn.form
          rcases hway'.out with ⟨rfl, hy⟩ | ⟨q0, rfl, hy⟩ | ⟨q0, q5, hy⟩
          ·
            go_wp2_with fail
            refine (access_ReadO tag hL).mono ?_
            rintro e w15 ⟨vd, ve, rfl, od, oe, -, hE15⟩
            have hF15 := hF10.trans hE15
            replace hL := hL.ext hE15
            replace hR := hR.ext hE15
            replace hP := hP.ext hE15
            replace hn := hn.ext hE15
            obtain ⟨y1, y2, y3⟩ := hy.out
            rw [y2, y3]
            have hdd : Its w15 vd X := by rw [y1] at od; exact od.sl
            clear y1 y2 y3
            obtain ⟨ae, ce, rfl, -⟩ := (Own.sl oe).slice_form
            clear od oe
            obtain ⟨ad, cd, rfl, -⟩ := hdd.form
            go_wp2_with fail
            refine (ref28_Same_yes hn hdd).mono ?_
            rintro e w16 ⟨rfl, hE16⟩
            have hF16 := hF15.trans hE16
            replace hL := hL.ext hE16
            replace hR := hR.ext hE16
            replace hP := hP.ext hE16
            replace hn := hn.ext hE16
            replace hdd := hdd.ext hE16
            go_wp2
            go_ret
            exact ⟨rfl, hF16⟩
          ·
            go_wp2_with fail
            refine (access_WriteO tag hL).mono ?_
            rintro e w15 ⟨vd, ve, rfl, od, oe, -, hE15⟩
            have hF15 := hF10.trans hE15
            replace hL := hL.ext hE15
            replace hR := hR.ext hE15
            replace hP := hP.ext hE15
            replace hn := hn.ext hE15
            obtain ⟨y1, y2, y3⟩ := hy.out
            rw [y2, y3]
            have hdd : Its w15 vd X := by rw [y1] at od; exact od.sl
            clear y1 y2 y3
            obtain ⟨ae, ce, rfl, -⟩ := (Own.sl oe).slice_form
            clear od oe
            obtain ⟨ad, cd, rfl, -⟩ := hdd.form
            go_wp2_with fail
            refine (ref28_Same_yes hn hdd).mono ?_
            rintro e w16 ⟨rfl, hE16⟩
            have hF16 := hF15.trans hE16
            replace hL := hL.ext hE16
            replace hR := hR.ext hE16
            replace hP := hP.ext hE16
            replace hn := hn.ext hE16
            replace hdd := hdd.ext hE16
            go_wp2
            go_ret
            exact ⟨rfl, hF16⟩
          ·
            go_wp2_with fail
            refine (grant_RetagO hP hk tag ⟨0, 9, 0⟩ hL).mono ?_
            rintro e w15 ⟨vd, ve, rfl, od, oe, -, hE15⟩
            have hF15 := hF10.trans hE15
            replace hL := hL.ext hE15
            replace hR := hR.ext hE15
            replace hP := hP.ext hE15
            replace hn := hn.ext hE15
            rw [hy.out]
            have hdd : Its w15 vd X := by rw [hy.out] at od; exact od.sl
            obtain ⟨ae, ce, rfl, -⟩ := (Own.sl oe).slice_form
            clear od oe
            obtain ⟨ad, cd, rfl, -⟩ := hdd.form
            go_wp2_with fail
            refine (ref28_Same_yes hn hdd).mono ?_
            rintro e w16 ⟨rfl, hE16⟩
            have hF16 := hF15.trans hE16
            replace hL := hL.ext hE16
            replace hR := hR.ext hE16
            replace hP := hP.ext hE16
            replace hn := hn.ext hE16
            replace hdd := hdd.ext hE16
            go_wp2
            go_ret
            exact ⟨rfl, hF16⟩
        ·
          obtain ⟨b2, d2, hs2, hn2⟩ := slice_from_Ints a2 run cp2 ((i : Int) + 1) (i + 1) (by simp) (by omega)
          have hs1 := slice_upto_Ints a2 run.length cp2 (i : Int) i rfl (by omega)
          have hw1 : IntKind.i64.wrap ((i : Int) + 1) = (i : Int) + 1 := IntWalk.i64_in _ (by omega)
          obtain ⟨ti, z, hi', hz, hi3, hz3, hby⟩ := Int.infoE
          replace hz := Lib.hid hz; replace hi3 := Lib.hid hi3; replace hz3 := Lib.hid hz3; replace hby := Lib.hid hby; replace hi' := Lib.hid hi'
          replace hB := Lib.hid hB
          replace hfl := Lib.hid hfl
          replace hn2 := Lib.hid hn2
          go_enter Tryd.func9, Tryd.ntmps9
          go_wp2_with fail
          refine (law31_aliveO _).mono ?_
          rintro e w1 ⟨rfl, hE1⟩
          have hF1 := hF0.trans hE1
          replace hL := hL.ext hE1
          replace hR := hR.ext hE1
          replace hP := hP.ext hE1
          go_wp2_with fail
          refine (ref28_Great hL).mono ?_
          rintro e w2 ⟨rfl, rfl⟩
          rw [hd.out]
          go_wp2_with fail
          refine (ref31_Check hR).mono ?_
          rintro e w3 ⟨rfl, rfl⟩
          rw [h0.out]
          go_wp2_with fail
          refine (law31_use hP hk tag hL hR).mono ?_
          rintro e w4 ⟨va, rfl, oa, hE4⟩
          have hF4 := hF1.trans hE4
          replace hL := hL.ext hE4
          replace hR := hR.ext hE4
          replace hP := hP.ext hE4
          have ha : Its w4 va A1 := by rw [hA.out] at oa; exact oa.its
          rw [hA.out]
          clear oa
          obtain ⟨aa, ca, rfl, -⟩ := ha.form
          have ht1 := hR.take i (by omega)
          have ht2 := hn2.out _ hR
          unfold Nts at ht1 ht2
          rw [List.length_take, Nat.min_eq_left (by omega)] at ht1
          rw [List.length_drop] at ht2
          replace ht1 := Lib.hid ht1; replace ht2 := Lib.hid ht2
          go_wp2
          go_region_held3 (fun w' => Ext w4 w') (first | assumption | exact (Ext.refl _).drew | exact Ext.refl _ | exact ((Ext.refl _).alloc _).drew | exact (Ext.refl _).alloc _ | exact hEx2 | exact hEx1 | exact hEx2.drew | exact hEx1.drew) (first | (rw [if_pos (by rfl)]; refine wp_append_any (.tmp 60) (.tmp 63) 53 53 rfl rfl rfl (B := w4.heap.size) (e := 3) (n := 0) (m := i) (xs := []) (ys := (run.take i).flatMap irow) Tryd.underlying53 Tryd.underlying53 hi'.out hz.out hi3.out hz3.out ?_ ?_ ?_ ?_ ?_ ?_ ?_; (first | exact (Own.made w4 w4.heap.size 3 1 (Nat.le_refl _)).ext (Ext.refl _).drew | exact Own.made w4 w4.heap.size 3 1 (Nat.le_refl _)); (first | exact ht1.out.ext ((Ext.refl _).alloc _).drew | exact ht1.out.ext ((Ext.refl _).alloc _)); (exact Nts.one _); (simp [maxLen]; omega); (rw [hby.out]; omega); (simp); intro v1 x1 hO1 hK1 _ _; (first | (have hEx1 : Ext w4 x1 := Below.trans ((Ext.refl w4).alloc _).drew hK1.below) | (have hEx1 : Ext w4 x1 := Below.trans ((Ext.refl w4).alloc _) hK1.below)); have hO1 := Lib.hid hO1; clear hK1) | (rw [if_pos (by rfl)]; refine wp_append_any (.tmp 64) (.tmp 68) 53 53 rfl rfl rfl (B := w4.heap.size) (e := 3) (n := 0 + i) (m := run.length - (i + 1)) (xs := [] ++ (run.take i).flatMap irow) (ys := (run.drop (i + 1)).flatMap irow) Tryd.underlying53 Tryd.underlying53 hi'.out hz.out hi3.out hz3.out ?_ ?_ ?_ ?_ ?_ ?_ ?_; (first | exact hO1.out | exact hO1.out.ext (Ext.refl _).drew); (first | exact ht2.out.ext hEx1 | exact ht2.out.ext hEx1.drew); (exact Nts.one _); (simp [maxLen]; omega); (rw [hby.out]; omega); (first | exact hEx1.size | exact hEx1.drew.size); intro v2 x2 hO2 hK2 _ _; (first | (have hEx2 : Ext w4 x2 := Below.trans hEx1 hK2.below) | (have hEx2 : Ext w4 x2 := Below.trans hEx1.drew hK2.below)); have hO2 := Lib.hid hO2; clear hK2))
          all_goals
            have hNf : Nts x2 v2 (run.take i ++ run.drop (i + 1)) := by
              have h := hO2.out.sl
              unfold Nts
              rw [List.nil_append, ← List.flatMap_append] at h
              rw [List.length_append, List.length_take, List.length_drop, Nat.min_eq_left (by omega)]
              rw [Nat.zero_add] at h
              exact h
            replace hL := hL.ext hEx2
            replace hR := hR.ext hEx2
            replace hP := hP.ext hEx2
            replace ha := ha.ext hEx2
            have hG0 := hF4.trans hEx2
            clear ht1 ht2 hs1 hs2 hw1 hn2 g1 g2
            try clear hO1
            try clear hO2
            go_wp2_with fail
            refine (law31_use hP hk tag hL hNf).mono ?_
            rintro e w20 ⟨vb, rfl, ob, hE20⟩
            have hF20 := hG0.trans hE20
            replace hL := hL.ext hE20
            replace hR := hR.ext hE20
            replace hP := hP.ext hE20
            replace ha := ha.ext hE20
            have hbb : Its w20 vb B := by rw [hB.out] at ob; exact ob.its
            rw [hB.out]
            clear ob
            obtain ⟨ab, cb, rfl, -⟩ := hbb.form
            rcases hfl.out with ⟨rfl, rfl⟩ | ⟨rfl, rfl⟩
            ·
              go_wp2_with fail
              refine (law31_use hP hk tag hL (Nts.nil _)).mono ?_
              rintro e w25 ⟨vn, rfl, on, hE25⟩
              have hF25 := hF20.trans hE25
              replace hL := hL.ext hE25
              replace hR := hR.ext hE25
              replace hP := hP.ext hE25
              have hn : Its w25 vn X := by rw [hN.out] at on; exact on.its
              rw [hN.out]
              clear on
              obtain ⟨an, cn, rfl, -⟩ := hn.form
              rcases hway'.out with ⟨rfl, hy⟩ | ⟨q0, rfl, hy⟩ | ⟨q0, q5, hy⟩
              ·
                go_wp2_with fail
                refine (access_ReadO tag hL).mono ?_
                rintro e w30 ⟨vd, ve, rfl, od, oe, -, hE30⟩
                have hF30 := hF25.trans hE30
                replace hL := hL.ext hE30
                replace hR := hR.ext hE30
                replace hP := hP.ext hE30
                replace hn := hn.ext hE30
                obtain ⟨y1, y2, y3⟩ := hy.out
                rw [y2, y3]
                have hdd : Its w30 vd X := by rw [y1] at od; exact od.sl
                clear y1 y2 y3
                obtain ⟨ae, ce, rfl, -⟩ := (Own.sl oe).slice_form
                clear od oe
                obtain ⟨ad, cd, rfl, -⟩ := hdd.form
                go_wp2_with fail
                refine (ref28_Same_yes hn hdd).mono ?_
                rintro e w31 ⟨rfl, hE31⟩
                have hF31 := hF30.trans hE31
                replace hL := hL.ext hE31
                replace hR := hR.ext hE31
                replace hP := hP.ext hE31
                replace hn := hn.ext hE31
                replace hdd := hdd.ext hE31
                go_wp2
                go_ret
                exact ⟨rfl, hF31⟩
              ·
                go_wp2_with fail
                refine (access_WriteO tag hL).mono ?_
                rintro e w30 ⟨vd, ve, rfl, od, oe, -, hE30⟩
                have hF30 := hF25.trans hE30
                replace hL := hL.ext hE30
                replace hR := hR.ext hE30
                replace hP := hP.ext hE30
                replace hn := hn.ext hE30
                obtain ⟨y1, y2, y3⟩ := hy.out
                rw [y2, y3]
                have hdd : Its w30 vd X := by rw [y1] at od; exact od.sl
                clear y1 y2 y3
                obtain ⟨ae, ce, rfl, -⟩ := (Own.sl oe).slice_form
                clear od oe
                obtain ⟨ad, cd, rfl, -⟩ := hdd.form
                go_wp2_with fail
                refine (ref28_Same_yes hn hdd).mono ?_
                rintro e w31 ⟨rfl, hE31⟩
                have hF31 := hF30.trans hE31
                replace hL := hL.ext hE31
                replace hR := hR.ext hE31
                replace hP := hP.ext hE31
                replace hn := hn.ext hE31
                replace hdd := hdd.ext hE31
                go_wp2
                go_ret
                exact ⟨rfl, hF31⟩
              ·
                go_wp2_with fail
                refine (grant_RetagO hP hk tag ⟨0, 9, 0⟩ hL).mono ?_
                rintro e w30 ⟨vd, ve, rfl, od, oe, -, hE30⟩
                have hF30 := hF25.trans hE30
                replace hL := hL.ext hE30
                replace hR := hR.ext hE30
                replace hP := hP.ext hE30
                replace hn := hn.ext hE30
                rw [hy.out]
                have hdd : Its w30 vd X := by rw [hy.out] at od; exact od.sl
                obtain ⟨ae, ce, rfl, -⟩ := (Own.sl oe).slice_form
                clear od oe
                obtain ⟨ad, cd, rfl, -⟩ := hdd.form
                go_wp2_with fail
                refine (ref28_Same_yes hn hdd).mono ?_
                rintro e w31 ⟨rfl, hE31⟩
                have hF31 := hF30.trans hE31
                replace hL := hL.ext hE31
                replace hR := hR.ext hE31
                replace hP := hP.ext hE31
                replace hn := hn.ext hE31
                replace hdd := hdd.ext hE31
                go_wp2
                go_ret
                exact ⟨rfl, hF31⟩
            · by_cases z0 : wf = 0
              · subst z0
                go_wp2_with fail
                refine (ref28_Same_yes ha hbb).mono ?_
                rintro e w30 ⟨rfl, hE30⟩
                have hF30 := hF20.trans hE30
                replace hL := hL.ext hE30
                replace hR := hR.ext hE30
                replace hP := hP.ext hE30
                go_wp2_with fail
                refine (law31_use hP hk tag hL (Nts.nil _)).mono ?_
                rintro e w35 ⟨vn, rfl, on, hE35⟩
                have hF35 := hF30.trans hE35
                replace hL := hL.ext hE35
                replace hR := hR.ext hE35
                replace hP := hP.ext hE35
                have hn : Its w35 vn X := by rw [hN.out] at on; exact on.its
                rw [hN.out]
                clear on
                obtain ⟨an, cn, rfl, -⟩ := hn.form
                rcases hway'.out with ⟨rfl, hy⟩ | ⟨q0, rfl, hy⟩ | ⟨q0, q5, hy⟩
                ·
                  go_wp2_with fail
                  refine (access_ReadO tag hL).mono ?_
                  rintro e w40 ⟨vd, ve, rfl, od, oe, -, hE40⟩
                  have hF40 := hF35.trans hE40
                  replace hL := hL.ext hE40
                  replace hR := hR.ext hE40
                  replace hP := hP.ext hE40
                  replace hn := hn.ext hE40
                  obtain ⟨y1, y2, y3⟩ := hy.out
                  rw [y2, y3]
                  have hdd : Its w40 vd X := by rw [y1] at od; exact od.sl
                  clear y1 y2 y3
                  obtain ⟨ae, ce, rfl, -⟩ := (Own.sl oe).slice_form
                  clear od oe
                  obtain ⟨ad, cd, rfl, -⟩ := hdd.form
                  go_wp2_with fail
                  refine (ref28_Same_yes hn hdd).mono ?_
                  rintro e w41 ⟨rfl, hE41⟩
                  have hF41 := hF40.trans hE41
                  replace hL := hL.ext hE41
                  replace hR := hR.ext hE41
                  replace hP := hP.ext hE41
                  replace hn := hn.ext hE41
                  replace hdd := hdd.ext hE41
                  go_wp2
                  go_ret
                  exact ⟨rfl, hF41⟩
                ·
                  go_wp2_with fail
                  refine (access_WriteO tag hL).mono ?_
                  rintro e w40 ⟨vd, ve, rfl, od, oe, -, hE40⟩
                  have hF40 := hF35.trans hE40
                  replace hL := hL.ext hE40
                  replace hR := hR.ext hE40
                  replace hP := hP.ext hE40
                  replace hn := hn.ext hE40
                  obtain ⟨y1, y2, y3⟩ := hy.out
                  rw [y2, y3]
                  have hdd : Its w40 vd X := by rw [y1] at od; exact od.sl
                  clear y1 y2 y3
                  obtain ⟨ae, ce, rfl, -⟩ := (Own.sl oe).slice_form
                  clear od oe
                  obtain ⟨ad, cd, rfl, -⟩ := hdd.form
                  go_wp2_with fail
                  refine (ref28_Same_yes hn hdd).mono ?_
                  rintro e w41 ⟨rfl, hE41⟩
                  have hF41 := hF40.trans hE41
                  replace hL := hL.ext hE41
                  replace hR := hR.ext hE41
                  replace hP := hP.ext hE41
                  replace hn := hn.ext hE41
                  replace hdd := hdd.ext hE41
                  go_wp2
                  go_ret
                  exact ⟨rfl, hF41⟩
                ·
                  go_wp2_with fail
                  refine (grant_RetagO hP hk tag ⟨0, 9, 0⟩ hL).mono ?_
                  rintro e w40 ⟨vd, ve, rfl, od, oe, -, hE40⟩
                  have hF40 := hF35.trans hE40
                  replace hL := hL.ext hE40
                  replace hR := hR.ext hE40
                  replace hP := hP.ext hE40
                  replace hn := hn.ext hE40
                  rw [hy.out]
                  have hdd : Its w40 vd X := by rw [hy.out] at od; exact od.sl
                  obtain ⟨ae, ce, rfl, -⟩ := (Own.sl oe).slice_form
                  clear od oe
                  obtain ⟨ad, cd, rfl, -⟩ := hdd.form
                  go_wp2_with fail
                  refine (ref28_Same_yes hn hdd).mono ?_
                  rintro e w41 ⟨rfl, hE41⟩
                  have hF41 := hF40.trans hE41
                  replace hL := hL.ext hE41
                  replace hR := hR.ext hE41
                  replace hP := hP.ext hE41
                  replace hn := hn.ext hE41
                  replace hdd := hdd.ext hE41
                  go_wp2
                  go_ret
                  exact ⟨rfl, hF41⟩
              · have z0b : (wf == 0) = false := beq_eq_false_iff_ne.2 z0
                clear z0
                by_cases z1 : wf = 1
                · subst z1
                  go_wp2_with fail
                  refine (law31_use hP hk tag hL (Nts.nil _)).mono ?_
                  rintro e w30 ⟨vn, rfl, on, hE30⟩
                  have hF30 := hF20.trans hE30
                  replace hL := hL.ext hE30
                  replace hR := hR.ext hE30
                  replace hP := hP.ext hE30
                  have hn : Its w30 vn X := by rw [hN.out] at on; exact on.its
                  rw [hN.out]
                  clear on
                  obtain ⟨an, cn, rfl, -⟩ := hn.form
                  rcases hway'.out with ⟨rfl, hy⟩ | ⟨q0, rfl, hy⟩ | ⟨q0, q5, hy⟩
                  ·
                    go_wp2_with fail
                    refine (access_ReadO tag hL).mono ?_
                    rintro e w35 ⟨vd, ve, rfl, od, oe, -, hE35⟩
                    have hF35 := hF30.trans hE35
                    replace hL := hL.ext hE35
                    replace hR := hR.ext hE35
                    replace hP := hP.ext hE35
                    replace hn := hn.ext hE35
                    obtain ⟨y1, y2, y3⟩ := hy.out
                    rw [y2, y3]
                    have hdd : Its w35 vd X := by rw [y1] at od; exact od.sl
                    clear y1 y2 y3
                    obtain ⟨ae, ce, rfl, -⟩ := (Own.sl oe).slice_form
                    clear od oe
                    obtain ⟨ad, cd, rfl, -⟩ := hdd.form
                    go_wp2_with fail
                    refine (ref28_Same_yes hn hdd).mono ?_
                    rintro e w36 ⟨rfl, hE36⟩
                    have hF36 := hF35.trans hE36
                    replace hL := hL.ext hE36
                    replace hR := hR.ext hE36
                    replace hP := hP.ext hE36
                    replace hn := hn.ext hE36
                    replace hdd := hdd.ext hE36
                    go_wp2
                    go_ret
                    exact ⟨rfl, hF36⟩
                  ·
                    go_wp2_with fail
                    refine (access_WriteO tag hL).mono ?_
                    rintro e w35 ⟨vd, ve, rfl, od, oe, -, hE35⟩
                    have hF35 := hF30.trans hE35
                    replace hL := hL.ext hE35
                    replace hR := hR.ext hE35
                    replace hP := hP.ext hE35
                    replace hn := hn.ext hE35
                    obtain ⟨y1, y2, y3⟩ := hy.out
                    rw [y2, y3]
                    have hdd : Its w35 vd X := by rw [y1] at od; exact od.sl
                    clear y1 y2 y3
                    obtain ⟨ae, ce, rfl, -⟩ := (Own.sl oe).slice_form
                    clear od oe
                    obtain ⟨ad, cd, rfl, -⟩ := hdd.form
                    go_wp2_with fail
                    refine (ref28_Same_yes hn hdd).mono ?_
                    rintro e w36 ⟨rfl, hE36⟩
                    have hF36 := hF35.trans hE36
                    replace hL := hL.ext hE36
                    replace hR := hR.ext hE36
                    replace hP := hP.ext hE36
                    replace hn := hn.ext hE36
                    replace hdd := hdd.ext hE36
                    go_wp2
                    go_ret
                    exact ⟨rfl, hF36⟩
                  ·
                    go_wp2_with fail
                    refine (grant_RetagO hP hk tag ⟨0, 9, 0⟩ hL).mono ?_
                    rintro e w35 ⟨vd, ve, rfl, od, oe, -, hE35⟩
                    have hF35 := hF30.trans hE35
                    replace hL := hL.ext hE35
                    replace hR := hR.ext hE35
                    replace hP := hP.ext hE35
                    replace hn := hn.ext hE35
                    rw [hy.out]
                    have hdd : Its w35 vd X := by rw [hy.out] at od; exact od.sl
                    obtain ⟨ae, ce, rfl, -⟩ := (Own.sl oe).slice_form
                    clear od oe
                    obtain ⟨ad, cd, rfl, -⟩ := hdd.form
                    go_wp2_with fail
                    refine (ref28_Same_yes hn hdd).mono ?_
                    rintro e w36 ⟨rfl, hE36⟩
                    have hF36 := hF35.trans hE36
                    replace hL := hL.ext hE36
                    replace hR := hR.ext hE36
                    replace hP := hP.ext hE36
                    replace hn := hn.ext hE36
                    replace hdd := hdd.ext hE36
                    go_wp2
                    go_ret
                    exact ⟨rfl, hF36⟩
                · have z1b : (wf == 1) = false := beq_eq_false_iff_ne.2 z1
                  clear z1
                  go_wp2_with fail
                  refine (law31_use hP hk tag hL (Nts.nil _)).mono ?_
                  rintro e w30 ⟨vn, rfl, on, hE30⟩
                  have hF30 := hF20.trans hE30
                  replace hL := hL.ext hE30
                  replace hR := hR.ext hE30
                  replace hP := hP.ext hE30
                  have hn : Its w30 vn X := by rw [hN.out] at on; exact on.its
                  rw [hN.out]
                  clear on
                  obtain ⟨an, cn, rfl, -⟩ := hn.form
                  rcases hway'.out with ⟨rfl, hy⟩ | ⟨q0, rfl, hy⟩ | ⟨q0, q5, hy⟩
                  ·
                    go_wp2_with fail
                    refine (access_ReadO tag hL).mono ?_
                    rintro e w35 ⟨vd, ve, rfl, od, oe, -, hE35⟩
                    have hF35 := hF30.trans hE35
                    replace hL := hL.ext hE35
                    replace hR := hR.ext hE35
                    replace hP := hP.ext hE35
                    replace hn := hn.ext hE35
                    obtain ⟨y1, y2, y3⟩ := hy.out
                    rw [y2, y3]
                    have hdd : Its w35 vd X := by rw [y1] at od; exact od.sl
                    clear y1 y2 y3
                    obtain ⟨ae, ce, rfl, -⟩ := (Own.sl oe).slice_form
                    clear od oe
                    obtain ⟨ad, cd, rfl, -⟩ := hdd.form
                    go_wp2_with fail
                    refine (ref28_Same_yes hn hdd).mono ?_
                    rintro e w36 ⟨rfl, hE36⟩
                    have hF36 := hF35.trans hE36
                    replace hL := hL.ext hE36
                    replace hR := hR.ext hE36
                    replace hP := hP.ext hE36
                    replace hn := hn.ext hE36
                    replace hdd := hdd.ext hE36
                    go_wp2
                    go_ret
                    exact ⟨rfl, hF36⟩
                  ·
                    go_wp2_with fail
                    refine (access_WriteO tag hL).mono ?_
                    rintro e w35 ⟨vd, ve, rfl, od, oe, -, hE35⟩
                    have hF35 := hF30.trans hE35
                    replace hL := hL.ext hE35
                    replace hR := hR.ext hE35
                    replace hP := hP.ext hE35
                    replace hn := hn.ext hE35
                    obtain ⟨y1, y2, y3⟩ := hy.out
                    rw [y2, y3]
                    have hdd : Its w35 vd X := by rw [y1] at od; exact od.sl
                    clear y1 y2 y3
                    obtain ⟨ae, ce, rfl, -⟩ := (Own.sl oe).slice_form
                    clear od oe
                    obtain ⟨ad, cd, rfl, -⟩ := hdd.form
                    go_wp2_with fail
                    refine (ref28_Same_yes hn hdd).mono ?_
                    rintro e w36 ⟨rfl, hE36⟩
                    have hF36 := hF35.trans hE36
                    replace hL := hL.ext hE36
                    replace hR := hR.ext hE36
                    replace hP := hP.ext hE36
                    replace hn := hn.ext hE36
                    replace hdd := hdd.ext hE36
                    go_wp2
                    go_ret
                    exact ⟨rfl, hF36⟩
                  ·
                    go_wp2_with fail
                    refine (grant_RetagO hP hk tag ⟨0, 9, 0⟩ hL).mono ?_
                    rintro e w35 ⟨vd, ve, rfl, od, oe, -, hE35⟩
                    have hF35 := hF30.trans hE35
                    replace hL := hL.ext hE35
                    replace hR := hR.ext hE35
                    replace hP := hP.ext hE35
                    replace hn := hn.ext hE35
                    rw [hy.out]
                    have hdd : Its w35 vd X := by rw [hy.out] at od; exact od.sl
                    obtain ⟨ae, ce, rfl, -⟩ := (Own.sl oe).slice_form
                    clear od oe
                    obtain ⟨ad, cd, rfl, -⟩ := hdd.form
                    go_wp2_with fail
                    refine (ref28_Same_yes hn hdd).mono ?_
                    rintro e w36 ⟨rfl, hE36⟩
                    have hF36 := hF35.trans hE36
                    replace hL := hL.ext hE36
                    replace hR := hR.ext hE36
                    replace hP := hP.ext hE36
                    replace hn := hn.ext hE36
                    replace hdd := hdd.ext hE36
                    go_wp2
                    go_ret
                    exact ⟨rfl, hF36⟩
set_option maxRecDepth 100000 in
theorem guardFewer_contract (H : Type) (enc : TypeId × Value → H) (W : World) (base : Nat) (args : Array Value) (ds gs : List (DataW H)) (before : List MemPlace)
    (hval0 : ∀ (j : Nat) t v, Tryd.f9.params[j]? = some t → args[j]? = some v → Value.okWide Tryd.prog W .any base t v)
    (hW : DataW.Whole enc Tryd.prog Tryd.f9.params.toList Rows.guardFewerSpec.vars false W args.toList ds gs before) (hL : laidMetH Tryd.prog Rows.guardFewerRow.laid W) :
    Calls Tryd.prog 9 args W fun e W' => ∃ v, e = .returned v ∧ Rows.guardFewerSpec.post enc Tryd.prog Tryd.f9 false true false false W args v W' := by
  have hval : ∀ (j : Nat) t v, Tryd.f9.params[j]? = some t → args[j]? = some v → Value.okWide Tryd.prog W .any base t v := hval0
  have hW' := hW
  obtain ⟨p, q, hA0, hV, rfl, hfz, hnd⟩ := hW
  have hA : DataW.TrodAll enc Tryd.prog W 0 (fun _ => true) true Tryd.f9.params.toList args.toList ds p := hA0
  rw [Tryd.params9] at hA hval
  obtain ⟨v0, vs0, d0, ds0, p0, q0, hargs, rfl, rfl, h0, r0⟩ := trodAll_cons hA
  obtain ⟨v1, vs1, d1, ds1, p1, q1, rfl, rfl, rfl, h1, r1⟩ := trodAll_cons r0
  obtain ⟨v2, vs2, d2, ds2, p2, q2, rfl, rfl, rfl, h2, r2⟩ := trodAll_cons r1
  obtain ⟨v3, vs3, d3, ds3, p3, q3, rfl, rfl, rfl, h3, r3⟩ := trodAll_cons r2
  obtain ⟨v4, vs4, d4, ds4, p4, q4, rfl, rfl, rfl, h4, r4⟩ := trodAll_cons r3
  obtain ⟨rfl, rfl, rfl⟩ := trodAll_nil r4
  obtain rfl : args = #[v0, v1, v2, v3, v4] := by cases args; simp_all
  obtain ⟨x0, k0, wf0⟩ := open_items Tryd.underlying23 (hval 0 23 v0 rfl rfl) h0
  obtain ⟨x1, rfl, rfl, rfl, wf1⟩ := open_int Tryd.underlying5 (hval 1 5 v1 rfl rfl) h1
  obtain ⟨x2, rfl, rfl, rfl, wf2⟩ := open_int Tryd.underlying3 (hval 2 3 v2 rfl rfl) h2
  obtain ⟨x3, k3, wf3⟩ := open_ints' Tryd.underlying53 (hval 3 53 v3 rfl rfl) h3
  obtain ⟨x4, rfl, rfl, rfl, wf4⟩ := open_int Tryd.underlying3 (hval 4 3 v4 rfl rfl) h4
  refine (guardFewer_walk (perms_of_laid hL) (u8B_of wf1) x2 x4 k0 k3).mono fun e W' ⟨he, hb⟩ => ?_
  subst he
  exact ⟨_, rfl, post_law TrydlaidOut (tb := 4) rfl Tryd.underlying4 (by kernel_rfl) rfl (fun ds hd => match ds, hd with | [a0, a1, a2, a3, a4], _ => rfl) hW' hb⟩
theorem guardFewer_met (os : Os) : laidMet Tryd.prog Rows.guardFewerRow.laid ((doorWorld os).forCall (fun _ _ => 0) ⟨#[], #[.slice none 0 0, .int .u8 0, .int .i64 0, .slice none 0 0, .int .i64 0], []⟩).memory :=
  laidMet_of_run' 8 (by kernel_rfl) (by kernel_rfl)
theorem guardFewer_reads (os : Os) {H : Type} (enc : TypeId × Value → H) : ∃ places, DataW.whole enc Tryd.prog ((doorWorld os).forCall (fun _ _ => 0) ⟨#[], #[.slice none 0 0, .int .u8 0, .int .i64 0, .slice none 0 0, .int .i64 0], []⟩).memory Tryd.f9.params.toList Rows.guardFewerSpec.vars false (#[.slice none 0 0, .int .u8 0, .int .i64 0, .slice none 0 0, .int .i64 0] : Array Value).toList 8 = some ([.nil, .lit (.int .u8 0), .lit (.int .i64 0), .nil, .lit (.int .i64 0)], [], places) :=
  ⟨[], by kernel_rfl⟩
set_option maxRecDepth 100000 in
theorem guardFewer_lifted (os : Os) (started : os.Started) (H : Type) (enc : TypeId × Value → H) (F : Stop.Interp) :
    ReturnsInHanded {} Tryd.checked os 9 .any ((OpenSpec.ofChange Rows.guardFewerSpec).preRow enc Tryd.prog Tryd.f9 Rows.guardFewerRow.domain false Rows.guardFewerRow.laid) (((OpenSpec.ofChange Rows.guardFewerSpec).at F).post enc Tryd.prog Tryd.f9 false true false false) := by
  obtain ⟨places, hx⟩ := guardFewer_reads os enc
  refine returnsInHanded_of_row (C := Tryd.checked) (s := OpenSpec.ofChange Rows.guardFewerSpec) Trydown started (by kernel_rfl) Tryd.func9
    (witness_row_at (enc := enc) (C := Tryd.checked) false (doorWorld os) #[.slice none 0 0, .int .u8 0, .int .i64 0, .slice none 0 0, .int .i64 0] rfl (by kernel_rfl) (by kernel_rfl) (by kernel_rfl)
      (OpenSpec.preRow_of_cond 8 hx (by kernel_rfl) (fun k hk => by cases hk) (by kernel_rfl) (guardFewer_met os))) ?_
  intro W base args ds gs before hval hW _ _ _ hL _ _
  exact guardFewer_contract H enc W base args ds gs before hval hW hL
theorem guardFewer_said : Rows.GuardFewerSaid :=
  OpenClaim.holds_of_cond 9 Tryd.f9 rfl rfl rfl rfl rfl rfl rfl ⟨rfl, rfl, rfl, rfl, rfl⟩ rfl rfl rfl rfl rfl (by kernel_rfl) Tryd.func9 (by kernel_rfl)
    (of_decide_eq_true (by kernel_rfl)) (by unfold Func.isWrapper; first | (rw [if_pos (by decide +kernel)]; kernel_rfl) | (rw [if_neg (by decide +kernel)]; exact ⟨rfl, rfl⟩))
    (fun os started H enc _ F => by rw [OpenClaim.pre_eq_preRow]; exact guardFewer_lifted os started H enc F)
theorem guardFewer_plain (f : FuncId) (fn : Func) (hf : Tryd.pinned.checked.prog.funcNamed "pawnshop/pawnshoplaw31.GuardFewer" = some f) (hfn : Tryd.pinned.checked.prog.funcs[f]? = some fn) :
    false = Tryd.pinned.checked.prog.looks [] ∧ ∀ (j : Nat) t, fn.params[j]? = some t → Tryd.pinned.checked.prog.wantsStandIn t = false := by
  obtain rfl : f = 9 := Option.some.inj ((show Tryd.prog.funcNamed "pawnshop/pawnshoplaw31.GuardFewer" = some 9 by kernel_rfl).symm.trans hf) |>.symm
  obtain rfl : fn = Tryd.f9 := (Option.some.inj (Tryd.func9.symm.trans hfn)).symm
  refine ⟨by kernel_rfl, fun j t ht => ?_⟩
  have hm : t ∈ Tryd.f9.params.toList := by simpa using Array.mem_of_getElem? ht
  have hall : (Tryd.f9.params.toList.all fun u => !Tryd.prog.wantsStandIn u) = true := by kernel_rfl
  exact (show Tryd.prog.wantsStandIn t = false by simpa using List.all_eq_true.1 hall t hm)
theorem guardFewer_card : Rows.GuardFewerCardSaid :=
  Claim7.holds_tied_plain_at .later [] _ _ _ _ guardFewer_said (fun _ h => by cases h) (by kernel_rfl) (fun _ h => by cases h) guardFewer_row_tie rfl ⟨rfl, rfl⟩ (by kernel_rfl) rfl guardFewer_plain (by kernel_rfl)

end Go.Proofs.YtfhbgjbbahienaaDoor
