/- The statement GrantTop, as the card: for every stack, kind, tag and item the call returns true; perms holds what its initialiser lays. No other condition. -/
import Derived.Test.YtfhbgjbbahienaaDoorLaw30A
import Derived.Test.YtfhbgjbbahienaaDoorDoor
import Derived.Test.YtfhbgjbbahienaaDoorReadI
import Derived.Deep.RegionHeld3
namespace Go.Proofs.YtfhbgjbbahienaaDoor
set_option maxRecDepth 100000
open Go.ChangeShapes Go.WideShapes Go.ChangeAt Go.RowKit


set_option maxRecDepth 100000 in
set_option maxHeartbeats 3200000 in
theorem grantTop_walk {l : List Item} {k : Int} {v : Value} {w : World} (hp : Perms w) (hk : u8B k) (old : Int) (x : Item) (hl : Its w v l) :
    Calls Tryd.prog 6 #[v, .int .u8 k, .int .i64 old, x.val] w fun e w' => e = .returned (.bool true) ∧ Ext w w' := by
  obtain ⟨a, cp, rfl, hlc, hcm, -⟩ := hl.form
  obtain ⟨xp, xt, xc⟩ := x
  unfold Item.val
  have bX := Box.new w 25 #[.int .u8 xp, .int .i64 xt, .int .i64 xc]
  have hF0 : Ext w (w.alloc (.cells #[.int .u8 xp, .int .i64 xt, .int .i64 xc] 25)) := (Ext.refl _).alloc _
  have hL := hl.ext hF0
  have hP := hp.ext hF0
  clear hl hp
  by_cases hb : 610 < l.length
  · have hd : Hid (decide (610 < l.length) = true) := Hid.mk (decide_eq_true hb)
    go_enter Tryd.func6, Tryd.ntmps6
    go_wp2_with fail
    refine (law30_alive hP).mono ?_
    rintro e w1 ⟨rfl, hE1⟩
    have hF1 := hF0.trans hE1
    replace hL := hL.ext hE1
    replace hP := hP.ext hE1
    replace bX := bX.ext hE1
    go_wp2_with fail
    refine (ref28_Great hL).mono ?_
    rintro e w2 ⟨rfl, rfl⟩
    rw [hd.out]
    go_wp2
    go_ret
    exact ⟨rfl, hF1⟩
  · have hd : Hid (decide (610 < l.length) = false) := Hid.mk (decide_eq_false hb)
    clear hb
    cases hok : okS l
    · have h8 : Hid (chk l = 8) := Hid.mk (by simp [chk, hok])
      clear hok
      go_enter Tryd.func6, Tryd.ntmps6
      go_wp2_with fail
      refine (law30_alive hP).mono ?_
      rintro e w1 ⟨rfl, hE1⟩
      have hF1 := hF0.trans hE1
      replace hL := hL.ext hE1
      replace hP := hP.ext hE1
      replace bX := bX.ext hE1
      go_wp2_with fail
      refine (ref28_Great hL).mono ?_
      rintro e w2 ⟨rfl, rfl⟩
      rw [hd.out]
      go_wp2_with fail
      refine (ref28_Check hL).mono ?_
      rintro e w3 ⟨rfl, hE3⟩
      have hF3 := hF1.trans hE3
      replace hL := hL.ext hE3
      replace hP := hP.ext hE3
      replace bX := bX.ext hE3
      rw [h8.out]
      go_wp2
      go_ret
      exact ⟨rfl, hF3⟩
    · have h0 : Hid (chk l = 0) := Hid.mk (by simp [chk, hok])
      have hl6 : l.length ≤ 600 := by simp [okS] at hok; omega
      cases hkk : kindOk k
      · have hke := Lib.hid (kindErr_no hkk)
        clear hok hkk
        go_enter Tryd.func6, Tryd.ntmps6
        go_wp2_with fail
        refine (law30_alive hP).mono ?_
        rintro e w1 ⟨rfl, hE1⟩
        have hF1 := hF0.trans hE1
        replace hL := hL.ext hE1
        replace hP := hP.ext hE1
        replace bX := bX.ext hE1
        go_wp2_with fail
        refine (ref28_Great hL).mono ?_
        rintro e w2 ⟨rfl, rfl⟩
        rw [hd.out]
        go_wp2_with fail
        refine (ref28_Check hL).mono ?_
        rintro e w3 ⟨rfl, hE3⟩
        have hF3 := hF1.trans hE3
        replace hL := hL.ext hE3
        replace hP := hP.ext hE3
        replace bX := bX.ext hE3
        rw [h0.out]
        go_wp2_with fail
        refine (grant_Check _ hk).mono ?_
        rintro e w4 ⟨rfl, rfl⟩
        rw [hke.out]
        go_wp2
        go_ret
        exact ⟨rfl, hF3⟩
      · have hke := Lib.hid (kindErr_yes hkk)
        have hpm : Hid (permR k = permOf k) := Hid.mk (by simp [permR, hkk])
        have hRok := retagR_ok (l := l) (k := k) (old := old) (x := ⟨xp, xt, xc⟩)
        obtain ⟨⟨R, G, why, er⟩, hR⟩ : ∃ r, retagR l k old ⟨xp, xt, xc⟩ = r := ⟨_, rfl⟩
        obtain ⟨wb, hwb⟩ : ∃ wb, writesOf k = wb := ⟨_, rfl⟩
        obtain ⟨may, hmay⟩ : ∃ b, mayB l old wb = b := ⟨_, rfl⟩
        by_cases her : er = 0
        · subst her
          obtain ⟨-, -, s2, s7, s3⟩ := retag_spec hok hR
          rw [hwb] at s2 s3
          have hmw : may = (usedW l old wb == 0) := by
            rw [← hmay, mayB, hok, Bool.true_and]
            rcases usedW_cases l old wb with ⟨h1, h2⟩ | ⟨h1, h2⟩
            · rw [h1, h2]; rfl
            · rw [h1, h2]; rfl
          rw [hR] at hRok
          replace hRok : okS R = true := hRok
          replace hR := Lib.hid hR
          replace hwb := Lib.hid hwb
          replace hmay := Lib.hid hmay
          rcases s3 with ⟨rfl, rfl, rfl⟩ | ⟨rfl, s4, -, s6⟩
          · rw [← s2] at hmw
            have hm0 : may = false := hmw
            subst hm0
            clear s2 s7 hok hkk hRok hmw
            go_enter Tryd.func6, Tryd.ntmps6
            go_wp2_with fail
            refine (law30_alive hP).mono ?_
            rintro e w1 ⟨rfl, hE1⟩
            have hF1 := hF0.trans hE1
            replace hL := hL.ext hE1
            replace hP := hP.ext hE1
            replace bX := bX.ext hE1
            go_wp2_with fail
            refine (ref28_Great hL).mono ?_
            rintro e w2 ⟨rfl, rfl⟩
            rw [hd.out]
            go_wp2_with fail
            refine (ref28_Check hL).mono ?_
            rintro e w3 ⟨rfl, hE3⟩
            have hF3 := hF1.trans hE3
            replace hL := hL.ext hE3
            replace hP := hP.ext hE3
            replace bX := bX.ext hE3
            rw [h0.out]
            go_wp2_with fail
            refine (grant_Check _ hk).mono ?_
            rintro e w4 ⟨rfl, rfl⟩
            rw [hke.out]
            go_wp2_with fail
            refine (grant_Writes _ hk).mono ?_
            rintro e w5 ⟨rfl, hE5⟩
            have hF5 := hF3.trans hE5
            replace hL := hL.ext hE5
            replace hP := hP.ext hE5
            replace bX := bX.ext hE5
            rw [hwb.out, hke.out]
            go_wp2_with fail
            refine (grant_Perm hP hk).mono ?_
            rintro e w6 ⟨rfl, rfl⟩
            rw [hpm.out, hke.out]
            go_wp2_with fail
            refine (access_May old wb hL).mono ?_
            rintro e w7 ⟨rfl, hE7⟩
            have hF7 := hF5.trans hE7
            replace hL := hL.ext hE7
            replace hP := hP.ext hE7
            replace bX := bX.ext hE7
            rw [hmay.out, h0.out]
            have b0 := (bX.cell 0).trans rfl
            have b1 := (bX.cell 1).trans rfl
            have b2 := (bX.cell 2).trans rfl
            go_wp2_with fail
            refine (grant_RetagO hP hk old ⟨xp, xt, xc⟩ hL).mono ?_
            rintro e w8 ⟨va, vb, rfl, oa, ob, -, hE8⟩
            have hF8 := hF7.trans hE8
            replace hL := hL.ext hE8
            replace hP := hP.ext hE8
            replace bX := bX.ext hE8
            have ha : Its w8 va [] := by rw [hR.out] at oa; exact oa.sl
            rw [hR.out]
            obtain ⟨ab, cb, rfl, -⟩ := (Own.sl ob).slice_form
            clear oa ob
            obtain ⟨aa, ca, rfl, hlca, hcma, -⟩ := ha.form
            go_wp2
            go_ret
            exact ⟨rfl, hF8⟩
          · rw [← s2] at hmw
            have hm1 : may = true := hmw
            subst hm1
            have hpos := usedL_pos s2.symm
            have hcR : Hid (chk R = 0) := Hid.mk (by simp [chk, hRok])
            obtain ⟨M, hM⟩ : ∃ M, usedL l old wb = M := ⟨_, rfl⟩
            rw [hM] at s4 s6 hpos
            have hM6 : M.length ≤ 600 := by rw [← hM]; exact Nat.le_trans usedL_len hl6
            obtain ⟨pm, hpk⟩ : ∃ pm, permOf k = pm := ⟨_, rfl⟩
            have hf0 : findAt R xt false = some M.length := by rw [s4]; exact findAt_top (by simp [grants])
            have hf1 : (k == 1) = true ∨ (k == 1) = false ∧ findAt R xt true = some M.length := by
              by_cases h : k = 1
              · exact .inl (beq_iff_eq.2 h)
              · refine .inr ⟨beq_eq_false_iff_ne.2 h, ?_⟩
                rw [s4]
                refine findAt_top ?_
                rcases kind_yes hkk with rfl | rfl | rfl | rfl
                · exact absurd rfl h
                all_goals simp [grants, permOf]
            have hx0 : Hid (findIx R xt false = (M.length : Int)) := Hid.mk (by simp [findIx, hRok, hf0])
            have hx1 : Hid (findErr R xt false = 0) := Hid.mk (by simp [findErr, hRok, hf0])
            have hx2 : (k == 1) = true ∨ (k == 1) = false ∧ Hid (findIx R xt true = (M.length : Int)) ∧ Hid (findErr R xt true = 0) := by
              rcases hf1 with h | ⟨h, h2⟩
              · exact .inl h
              · exact .inr ⟨h, Hid.mk (by simp [findIx, hRok, h2]), Hid.mk (by simp [findErr, hRok, h2])⟩
            have hRl : Hid (R.length = M.length + 1) := Hid.mk (by rw [s4]; simp)
            have hRn : Hid (R[M.length]? = some ⟨pm, xt, xc⟩) := Hid.mk (by rw [s4, ← hpk]; simp)
            have hne := run_neq_item ⟨pm, xt, xc⟩ ⟨pm, xt, xc⟩
            unfold Item.val at hne
            rw [hpk] at hpm
            clear s2 s4 s6 s7 hok hkk hRok hmw hf0 hf1 hM hpk
            go_enter Tryd.func6, Tryd.ntmps6
            go_wp2_with fail
            refine (law30_alive hP).mono ?_
            rintro e w1 ⟨rfl, hE1⟩
            have hF1 := hF0.trans hE1
            replace hL := hL.ext hE1
            replace hP := hP.ext hE1
            replace bX := bX.ext hE1
            go_wp2_with fail
            refine (ref28_Great hL).mono ?_
            rintro e w2 ⟨rfl, rfl⟩
            rw [hd.out]
            go_wp2_with fail
            refine (ref28_Check hL).mono ?_
            rintro e w3 ⟨rfl, hE3⟩
            have hF3 := hF1.trans hE3
            replace hL := hL.ext hE3
            replace hP := hP.ext hE3
            replace bX := bX.ext hE3
            rw [h0.out]
            go_wp2_with fail
            refine (grant_Check _ hk).mono ?_
            rintro e w4 ⟨rfl, rfl⟩
            rw [hke.out]
            go_wp2_with fail
            refine (grant_Writes _ hk).mono ?_
            rintro e w5 ⟨rfl, hE5⟩
            have hF5 := hF3.trans hE5
            replace hL := hL.ext hE5
            replace hP := hP.ext hE5
            replace bX := bX.ext hE5
            rw [hwb.out, hke.out]
            go_wp2_with fail
            refine (grant_Perm hP hk).mono ?_
            rintro e w6 ⟨rfl, rfl⟩
            rw [hpm.out, hke.out]
            go_wp2_with fail
            refine (access_May old wb hL).mono ?_
            rintro e w7 ⟨rfl, hE7⟩
            have hF7 := hF5.trans hE7
            replace hL := hL.ext hE7
            replace hP := hP.ext hE7
            replace bX := bX.ext hE7
            rw [hmay.out, h0.out]
            have b0 := (bX.cell 0).trans rfl
            have b1 := (bX.cell 1).trans rfl
            have b2 := (bX.cell 2).trans rfl
            go_wp2_with fail
            refine (grant_RetagO hP hk old ⟨xp, xt, xc⟩ hL).mono ?_
            rintro e w8 ⟨va, vb, rfl, oa, ob, -, hE8⟩
            have hF8 := hF7.trans hE8
            replace hL := hL.ext hE8
            replace hP := hP.ext hE8
            replace bX := bX.ext hE8
            have ha : Its w8 va R := by rw [hR.out] at oa; exact oa.sl
            rw [hR.out]
            obtain ⟨ab, cb, rfl, -⟩ := (Own.sl ob).slice_form
            clear oa ob
            obtain ⟨aa, ca, rfl, hlca, hcma, -⟩ := ha.form
            clear b0 b1 b2
            have b1 : World.cell? w8 ⟨w.heap.size, 1, none⟩ = some (.int .i64 xt) := bX.cell 1
            have b2 : World.cell? w8 ⟨w.heap.size, 2, none⟩ = some (.int .i64 xc) := bX.cell 2
            obtain ⟨bb, off, rfl, hbb, t0, t1, t2⟩ := ha.cell hRn.out
            rw [hRl.out] at ha ⊢
            unfold maxLen at hcma
            have hw1 : IntKind.i64.wrap ((M.length : Int) + 1 - 1) = (M.length : Int) := by rw [show (M.length : Int) + 1 - 1 = (M.length : Int) by omega]; exact IntWalk.i64_in _ (by omega)
            have hw2 : IntKind.i64.wrap (M.length : Int) = (M.length : Int) := IntWalk.i64_in _ (by omega)
            have hi0 : (0 : Int) ≤ (M.length : Int) := by omega
            have hi1 : (M.length : Int) < (M.length : Int) + 1 := by omega
            have hi2 : (M.length : Int).toNat = M.length := by omega
            have hi3 : decide ((M.length : Int) + 1 < 2) = false := decide_eq_false (by omega)
            clear hlca hbb
            go_wp2_with fail
            have hSk : ∀ w' w'' : World, (w'.cell? ⟨w.heap.size, 1, none⟩ = some (.int .i64 xt) ∧ w'.cell? ⟨w.heap.size, 2, none⟩ = some (.int .i64 xc) ∧ w'.cell? ⟨bb, off + M.length * 3, none⟩ = some (.int .u8 pm) ∧ w'.cell? ⟨bb, off + M.length * 3 + 1, none⟩ = some (.int .i64 xt) ∧ w'.cell? ⟨bb, off + M.length * 3 + 2, none⟩ = some (.int .i64 xc) ∧ Ext w8 w') → Ext w' w'' → (w''.cell? ⟨w.heap.size, 1, none⟩ = some (.int .i64 xt) ∧ w''.cell? ⟨w.heap.size, 2, none⟩ = some (.int .i64 xc) ∧ w''.cell? ⟨bb, off + M.length * 3, none⟩ = some (.int .u8 pm) ∧ w''.cell? ⟨bb, off + M.length * 3 + 1, none⟩ = some (.int .i64 xt) ∧ w''.cell? ⟨bb, off + M.length * 3 + 2, none⟩ = some (.int .i64 xc) ∧ Ext w8 w'') := by
              rintro w' w'' ⟨k0, k1, k2, k3, k4, kE⟩ h
              exact ⟨h.cell k0, h.cell k1, h.cell k2, h.cell k3, h.cell k4, Ext.trans kE h⟩
            go_region_held3 (fun w' => (w'.cell? ⟨w.heap.size, 1, none⟩ = some (.int .i64 xt) ∧ w'.cell? ⟨w.heap.size, 2, none⟩ = some (.int .i64 xc) ∧ w'.cell? ⟨bb, off + M.length * 3, none⟩ = some (.int .u8 pm) ∧ w'.cell? ⟨bb, off + M.length * 3 + 1, none⟩ = some (.int .i64 xt) ∧ w'.cell? ⟨bb, off + M.length * 3 + 2, none⟩ = some (.int .i64 xc) ∧ Ext w8 w')) (first | assumption | exact ⟨b1, b2, t0, t1, t2, (Ext.refl _).drew⟩ | (refine hSk _ _ (by assumption) ?_; first | assumption | exact (Ext.refl _).alloc _ | exact ((Ext.refl _).alloc _).drew)) (first | (go_at_call 27; refine (items_Check (ha.ext ?_)).mono ?_; (exact And.right (And.right (And.right (And.right (And.right (by assumption)))))); rintro e wr0 ⟨rfl, hR0⟩; rw [hcR.out]))
            obtain ⟨g0, g1, g2, g3, g4, hRR⟩ := (by assumption : (wr0.cell? ⟨w.heap.size, 1, none⟩ = some (.int .i64 xt) ∧ wr0.cell? ⟨w.heap.size, 2, none⟩ = some (.int .i64 xc) ∧ wr0.cell? ⟨bb, off + M.length * 3, none⟩ = some (.int .u8 pm) ∧ wr0.cell? ⟨bb, off + M.length * 3 + 1, none⟩ = some (.int .i64 xt) ∧ wr0.cell? ⟨bb, off + M.length * 3 + 2, none⟩ = some (.int .i64 xc) ∧ Ext w8 wr0))
            clear b1; have b1 := g0; clear g0
            clear b2; have b2 := g1; clear g1
            clear t0; have t0 := g2; clear g2
            clear t1; have t1 := g3; clear g3
            clear t2; have t2 := g4; clear g4
            replace ha := ha.ext hRR
            replace bX := bX.ext hRR
            have hG0 := hF8.trans hRR
            clear t0 t1 t2 b2 hne
            rcases hx2 with h1 | ⟨h1, h2, h3⟩
            all_goals
              go_wp2_with fail
              refine (items_Find xt false ha).mono ?_
              rintro e w20 ⟨rfl, hE20⟩
              have hF20 := hG0.trans hE20
              replace ha := ha.ext hE20
              replace bX := bX.ext hE20
              rw [hx0.out, hx1.out]
              clear b1
              have b1 : World.cell? w20 ⟨w.heap.size, 1, none⟩ = some (.int .i64 xt) := bX.cell 1
              go_wp2_with fail
              refine (items_Find xt true ha).mono ?_
              rintro e w21 ⟨rfl, hE21⟩
              have hF21 := hF20.trans hE21
              replace ha := ha.ext hE21
              replace bX := bX.ext hE21
              try rw [h2.out, h3.out]
              go_wp2
              go_ret
              exact ⟨rfl, hF21⟩
        · have z1 : (er == 0) = false := beq_eq_false_iff_ne.2 her
          have hR0 : R = [] ∧ (er = 2 ∨ er = 18) := by
            have hr := hR
            unfold retagR at hr
            rw [if_pos hok] at hr
            split at hr
            · split at hr
              · split at hr
                · simp only [Prod.mk.injEq] at hr; exact ⟨hr.1.symm, .inr hr.2.2.2.symm⟩
                · simp only [Prod.mk.injEq] at hr; exact absurd hr.2.2.2.symm her
              · simp only [Prod.mk.injEq] at hr; exact absurd hr.2.2.2.symm her
            · simp only [Prod.mk.injEq] at hr; exact ⟨hr.1.symm, .inl hr.2.2.2.symm⟩
          obtain ⟨rfl, hr2⟩ := hR0
          clear hRok
          replace hR := Lib.hid hR
          replace hwb := Lib.hid hwb
          replace hmay := Lib.hid hmay
          clear hok her hkk
          rcases hr2 with rfl | rfl
          all_goals
            go_enter Tryd.func6, Tryd.ntmps6
            go_wp2_with fail
            refine (law30_alive hP).mono ?_
            rintro e w1 ⟨rfl, hE1⟩
            have hF1 := hF0.trans hE1
            replace hL := hL.ext hE1
            replace hP := hP.ext hE1
            replace bX := bX.ext hE1
            go_wp2_with fail
            refine (ref28_Great hL).mono ?_
            rintro e w2 ⟨rfl, rfl⟩
            rw [hd.out]
            go_wp2_with fail
            refine (ref28_Check hL).mono ?_
            rintro e w3 ⟨rfl, hE3⟩
            have hF3 := hF1.trans hE3
            replace hL := hL.ext hE3
            replace hP := hP.ext hE3
            replace bX := bX.ext hE3
            rw [h0.out]
            go_wp2_with fail
            refine (grant_Check _ hk).mono ?_
            rintro e w4 ⟨rfl, rfl⟩
            rw [hke.out]
            go_wp2_with fail
            refine (grant_Writes _ hk).mono ?_
            rintro e w5 ⟨rfl, hE5⟩
            have hF5 := hF3.trans hE5
            replace hL := hL.ext hE5
            replace hP := hP.ext hE5
            replace bX := bX.ext hE5
            rw [hwb.out, hke.out]
            go_wp2_with fail
            refine (grant_Perm hP hk).mono ?_
            rintro e w6 ⟨rfl, rfl⟩
            rw [hpm.out, hke.out]
            go_wp2_with fail
            refine (access_May old wb hL).mono ?_
            rintro e w7 ⟨rfl, hE7⟩
            have hF7 := hF5.trans hE7
            replace hL := hL.ext hE7
            replace hP := hP.ext hE7
            replace bX := bX.ext hE7
            rw [hmay.out, h0.out]
            have b0 := (bX.cell 0).trans rfl
            have b1 := (bX.cell 1).trans rfl
            have b2 := (bX.cell 2).trans rfl
            go_wp2_with fail
            refine (grant_RetagO hP hk old ⟨xp, xt, xc⟩ hL).mono ?_
            rintro e w8 ⟨va, vb, rfl, oa, ob, -, hE8⟩
            have hF8 := hF7.trans hE8
            replace hL := hL.ext hE8
            replace hP := hP.ext hE8
            replace bX := bX.ext hE8
            have ha : Its w8 va [] := by rw [hR.out] at oa; exact oa.sl
            rw [hR.out]
            obtain ⟨ab, cb, rfl, -⟩ := (Own.sl ob).slice_form
            clear oa ob
            obtain ⟨aa, ca, rfl, hlca, hcma, -⟩ := ha.form
            go_wp2
            go_ret
            exact ⟨rfl, hF8⟩
set_option maxRecDepth 100000 in
theorem grantTop_contract (H : Type) (enc : TypeId × Value → H) (W : World) (base : Nat) (args : Array Value) (ds gs : List (DataW H)) (before : List MemPlace)
    (hval0 : ∀ (j : Nat) t v, Tryd.f6.params[j]? = some t → args[j]? = some v → Value.okWide Tryd.prog W .any base t v)
    (hW : DataW.Whole enc Tryd.prog Tryd.f6.params.toList Rows.grantTopSpec.vars false W args.toList ds gs before) (hL : laidMetH Tryd.prog Rows.grantTopRow.laid W) :
    Calls Tryd.prog 6 args W fun e W' => ∃ v, e = .returned v ∧ Rows.grantTopSpec.post enc Tryd.prog Tryd.f6 false true false false W args v W' := by
  have hval : ∀ (j : Nat) t v, Tryd.f6.params[j]? = some t → args[j]? = some v → Value.okWide Tryd.prog W .any base t v := hval0
  have hW' := hW
  obtain ⟨p, q, hA0, hV, rfl, hfz, hnd⟩ := hW
  have hA : DataW.TrodAll enc Tryd.prog W 0 (fun _ => true) true Tryd.f6.params.toList args.toList ds p := hA0
  rw [Tryd.params6] at hA hval
  obtain ⟨v0, vs0, d0, ds0, p0, q0, hargs, rfl, rfl, h0, r0⟩ := trodAll_cons hA
  obtain ⟨v1, vs1, d1, ds1, p1, q1, rfl, rfl, rfl, h1, r1⟩ := trodAll_cons r0
  obtain ⟨v2, vs2, d2, ds2, p2, q2, rfl, rfl, rfl, h2, r2⟩ := trodAll_cons r1
  obtain ⟨v3, vs3, d3, ds3, p3, q3, rfl, rfl, rfl, h3, r3⟩ := trodAll_cons r2
  obtain ⟨rfl, rfl, rfl⟩ := trodAll_nil r3
  obtain rfl : args = #[v0, v1, v2, v3] := by cases args; simp_all
  obtain ⟨x0, k0, wf0⟩ := open_items Tryd.underlying23 (hval 0 23 v0 rfl rfl) h0
  obtain ⟨x1, rfl, rfl, rfl, wf1⟩ := open_int Tryd.underlying5 (hval 1 5 v1 rfl rfl) h1
  obtain ⟨x2, rfl, rfl, rfl, wf2⟩ := open_int Tryd.underlying3 (hval 2 3 v2 rfl rfl) h2
  obtain ⟨x3, rfl, wf3⟩ := open_item (hval 3 25 v3 rfl rfl) h3
  refine (grantTop_walk (perms_of_laid hL) (u8B_of wf1) x2 x3 k0).mono fun e W' ⟨he, hb⟩ => ?_
  subst he
  exact ⟨_, rfl, post_law TrydlaidOut (tb := 4) rfl Tryd.underlying4 (by kernel_rfl) rfl (fun ds hd => match ds, hd with | [a0, a1, a2, a3], _ => rfl) hW' hb⟩
theorem grantTop_met (os : Os) : laidMet Tryd.prog Rows.grantTopRow.laid ((doorWorld os).forCall (fun _ _ => 0) ⟨#[], #[.slice none 0 0, .int .u8 0, .int .i64 0, .agg #[.int .u8 0, .int .i64 0, .int .i64 0]], []⟩).memory :=
  laidMet_of_run' 8 (by kernel_rfl) (by kernel_rfl)
theorem grantTop_reads (os : Os) {H : Type} (enc : TypeId × Value → H) : ∃ places, DataW.whole enc Tryd.prog ((doorWorld os).forCall (fun _ _ => 0) ⟨#[], #[.slice none 0 0, .int .u8 0, .int .i64 0, .agg #[.int .u8 0, .int .i64 0, .int .i64 0]], []⟩).memory Tryd.f6.params.toList Rows.grantTopSpec.vars false (#[.slice none 0 0, .int .u8 0, .int .i64 0, .agg #[.int .u8 0, .int .i64 0, .int .i64 0]] : Array Value).toList 8 = some ([.nil, .lit (.int .u8 0), .lit (.int .i64 0), .agg [.lit (.int .u8 0), .lit (.int .i64 0), .lit (.int .i64 0)]], [], places) :=
  ⟨[], by kernel_rfl⟩
set_option maxRecDepth 100000 in
theorem grantTop_lifted (os : Os) (started : os.Started) (H : Type) (enc : TypeId × Value → H) (F : Stop.Interp) :
    ReturnsInHanded {} Tryd.checked os 6 .any ((OpenSpec.ofChange Rows.grantTopSpec).preRow enc Tryd.prog Tryd.f6 Rows.grantTopRow.domain false Rows.grantTopRow.laid) (((OpenSpec.ofChange Rows.grantTopSpec).at F).post enc Tryd.prog Tryd.f6 false true false false) := by
  obtain ⟨places, hx⟩ := grantTop_reads os enc
  refine returnsInHanded_of_row (C := Tryd.checked) (s := OpenSpec.ofChange Rows.grantTopSpec) Trydown started (by kernel_rfl) Tryd.func6
    (witness_row_at (enc := enc) (C := Tryd.checked) false (doorWorld os) #[.slice none 0 0, .int .u8 0, .int .i64 0, .agg #[.int .u8 0, .int .i64 0, .int .i64 0]] rfl (by kernel_rfl) (by kernel_rfl) (by kernel_rfl)
      (OpenSpec.preRow_of_cond 8 hx (by kernel_rfl) (fun k hk => by cases hk) (by kernel_rfl) (grantTop_met os))) ?_
  intro W base args ds gs before hval hW _ _ _ hL _ _
  exact grantTop_contract H enc W base args ds gs before hval hW hL
theorem grantTop_said : Rows.GrantTopSaid :=
  OpenClaim.holds_of_cond 6 Tryd.f6 rfl rfl rfl rfl rfl rfl rfl ⟨rfl, rfl, rfl, rfl, rfl⟩ rfl rfl rfl rfl rfl (by kernel_rfl) Tryd.func6 (by kernel_rfl)
    (of_decide_eq_true (by kernel_rfl)) (by unfold Func.isWrapper; first | (rw [if_pos (by decide +kernel)]; kernel_rfl) | (rw [if_neg (by decide +kernel)]; exact ⟨rfl, rfl⟩))
    (fun os started H enc _ F => by rw [OpenClaim.pre_eq_preRow]; exact grantTop_lifted os started H enc F)
theorem grantTop_plain (f : FuncId) (fn : Func) (hf : Tryd.pinned.checked.prog.funcNamed "pawnshop/pawnshoplaw30.GrantTop" = some f) (hfn : Tryd.pinned.checked.prog.funcs[f]? = some fn) :
    false = Tryd.pinned.checked.prog.looks [] ∧ ∀ (j : Nat) t, fn.params[j]? = some t → Tryd.pinned.checked.prog.wantsStandIn t = false := by
  obtain rfl : f = 6 := Option.some.inj ((show Tryd.prog.funcNamed "pawnshop/pawnshoplaw30.GrantTop" = some 6 by kernel_rfl).symm.trans hf) |>.symm
  obtain rfl : fn = Tryd.f6 := (Option.some.inj (Tryd.func6.symm.trans hfn)).symm
  refine ⟨by kernel_rfl, fun j t ht => ?_⟩
  have hm : t ∈ Tryd.f6.params.toList := by simpa using Array.mem_of_getElem? ht
  have hall : (Tryd.f6.params.toList.all fun u => !Tryd.prog.wantsStandIn u) = true := by kernel_rfl
  exact (show Tryd.prog.wantsStandIn t = false by simpa using List.all_eq_true.1 hall t hm)
theorem grantTop_card : Rows.GrantTopCardSaid :=
  Claim7.holds_tied_plain_at .later [] _ _ _ _ grantTop_said (fun _ h => by cases h) (by kernel_rfl) (fun _ h => by cases h) grantTop_row_tie rfl ⟨rfl, rfl⟩ (by kernel_rfl) rfl grantTop_plain (by kernel_rfl)

end Go.Proofs.YtfhbgjbbahienaaDoor
