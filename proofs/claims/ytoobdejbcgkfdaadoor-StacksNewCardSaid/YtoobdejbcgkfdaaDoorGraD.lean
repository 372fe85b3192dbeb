/- Contracts: the reference's Tagged and Retag (layer 30). -/
import Derived.Test.YtoobdejbcgkfdaaDoorGraC
import Derived.Deep.RegionHeld3
namespace Go.Proofs.YtoobdejbcgkfdaaDoor
set_option maxRecDepth 100000
open Go.RowKit

def tagdL (l : List Item) (k old : Int) (x : Item) : List Item := if usedW l old (writesOf k) = 0 then usedL l old (writesOf k) ++ [⟨permOf k, x.t, x.c⟩] else []
def tagdG (l : List Item) (k old : Int) : List Item := if usedW l old (writesOf k) = 0 then usedG l old (writesOf k) else []
theorem tagd_no {l : List Item} {k old : Int} {x : Item} (h : usedW l old (writesOf k) ≠ 0) : tagdL l k old x = [] ∧ tagdG l k old = [] := by simp [tagdL, tagdG, h]
theorem tagd_yes {l : List Item} {k old : Int} {x : Item} (h : usedW l old (writesOf k) = 0) : tagdL l k old x = usedL l old (writesOf k) ++ [⟨permOf k, x.t, x.c⟩] ∧ tagdG l k old = usedG l old (writesOf k) := by simp [tagdL, tagdG, h]

set_option maxHeartbeats 1600000 in
theorem ref30_TaggedO {l : List Item} {k : Int} {v : Value} {w : World} (old : Int) (x : Item) (hl : Its w v l) (hl6 : l.length ≤ 600) :
    Calls Tryd.prog 102 #[v, .int .u8 k, .int .i64 old, x.val] w (RetUO3 w (tagdL l k old x) (tagdG l k old) (usedW l old (writesOf k))) := by
  obtain ⟨a, cp, rfl, -⟩ := hl.form
  obtain ⟨xp, xt, xc⟩ := x
  unfold Item.val
  have bX := Box.new w 23 #[.int .u8 xp, .int .i64 xt, .int .i64 xc]
  have hF : Ext w (w.alloc (.cells #[.int .u8 xp, .int .i64 xt, .int .i64 xc] 23)) := (Ext.refl _).alloc _
  have hL := Lib.hid (hl.ext hF)
  clear hl
  obtain ⟨wb, hwb⟩ : ∃ wb, writesOf k = wb := ⟨_, rfl⟩
  have hl1 : (usedL l old wb).length ≤ 600 := Nat.le_trans usedL_len hl6
  rcases usedW_cases l old wb with ⟨hu, -⟩ | ⟨hu, -⟩
  · have hT := Lib.hid (tagd_yes (l := l) (k := k) (old := old) (x := ⟨xp, xt, xc⟩) (by rw [hwb]; exact hu))
    rw [hwb] at hT ⊢
    replace hwb := Lib.hid hwb
    obtain ⟨M, hM⟩ : ∃ M, usedL l old wb = M := ⟨_, rfl⟩
    obtain ⟨G, hG⟩ : ∃ G, usedG l old wb = G := ⟨_, rfl⟩
    rw [hM] at hT hl1
    rw [hG] at hT
    rw [hu]
    replace hM := Lib.hid hM
    replace hG := Lib.hid hG
    replace hu := Lib.hid hu
    go_enter Tryd.func102, Tryd.ntmps102
    go_wp2_with fail
    refine (ref30_Wrote _ _).mono ?_
    rintro e w1 ⟨rfl, rfl⟩
    rw [hwb.out]
    go_wp2_with fail
    refine (ref29_UsedO old wb hL.out hl6).mono ?_
    rintro e w1 ⟨v1, u1, rfl, hv1, hu1, hd1, hE1⟩
    rw [hM.out] at hv1
    rw [hG.out] at hu1
    rw [hu.out]
    replace hd1 := Lib.hid hd1
    replace bX := bX.ext hE1
    have hF1 := hF.trans hE1
    have hs1 := hF1.size
    have hsz : w.heap.size < w1.heap.size := Nat.lt_of_lt_of_le (by simp) hE1.size
    have hlt : (w.alloc (.cells #[.int .u8 xp, .int .i64 xt, .int .i64 xc] 23)).heap.size = w.heap.size + 1 := by simp
    rw [hlt] at hv1 hu1
    clear hlt
    have d1 : w1.cell? ⟨w.heap.size, 1, none⟩ = some (.int .i64 xt) := bX.cell 1
    have d2 : w1.cell? ⟨w.heap.size, 2, none⟩ = some (.int .i64 xc) := bX.cell 2
    obtain ⟨a1, c1, rfl, -⟩ := (Own.sl hv1).slice_form
    obtain ⟨a2, c2, rfl, -⟩ := (Own.sl hu1).slice_form
    replace hu1 := Lib.hid hu1
    obtain ⟨i, z, hi, hz, hi3, hz3, hby⟩ := Item.infoE
    have hi' := Lib.hid hi; have hz' := Lib.hid hz; have hi3' := Lib.hid hi3; have hz3' := Lib.hid hz3; have hby' := Lib.hid hby
    clear hi hz hi3 hz3 hby
    go_wp2
    have hS0 : ∀ w' : World, Ext w1 w' → (w'.cell? ⟨w.heap.size, 1, none⟩ = some (.int .i64 xt) ∧ w'.cell? ⟨w.heap.size, 2, none⟩ = some (.int .i64 xc)) ∧ ExtBut (fun b => w.heap.size + 1 ≤ b) w1 w' := fun w' h => ⟨⟨h.cell d1, h.cell d2⟩, ExtBut.of_ext h⟩
    have hS1 : ∀ w' w'' : World, Ext w1 w' → Keeps w' w'' (w.heap.size + 1) (.slice a1 M.length c1) → (w''.cell? ⟨w.heap.size, 1, none⟩ = some (.int .i64 xt) ∧ w''.cell? ⟨w.heap.size, 2, none⟩ = some (.int .i64 xc)) ∧ ExtBut (fun b => w.heap.size + 1 ≤ b) w1 w'' := by
      intro w' w'' h hK
      have hX : ExtBut (fun b => w.heap.size + 1 ≤ b) w' w'' := (ExtBut.of_keeps hK).mono fun b _ hb => (hv1.lt hb).1
      exact ⟨⟨hX.cell (h.cell d1) (by simp), hX.cell (h.cell d2) (by simp)⟩, (ExtBut.of_ext h).trans hX⟩
    go_region_held3 (fun w' => (w'.cell? ⟨w.heap.size, 1, none⟩ = some (.int .i64 xt) ∧ w'.cell? ⟨w.heap.size, 2, none⟩ = some (.int .i64 xc)) ∧ ExtBut (fun b => w.heap.size + 1 ≤ b) w1 w') (first | exact hS0 _ (Ext.refl _).drew | exact hS0 _ (Ext.refl _) | exact hS0 _ ((Ext.refl _).alloc _).drew | exact hS0 _ ((Ext.refl _).alloc _) | exact hS1 _ _ ((Ext.refl _).alloc _).drew hK' | exact hS1 _ _ ((Ext.refl _).alloc _) hK') (first | (go_at_call 111; refine (ref30_Given _ _).mono ?_; rintro e w3 ⟨rfl, rfl⟩) | (rw [if_pos (by rfl)]; refine wp_append_any (.tmp 26) (.tmp 34) 31 31 rfl rfl rfl (B := w.heap.size + 1) (e := 23) (n := M.length) (m := 1) (xs := M.flatMap Item.row) (ys := [.int .u8 (permOf k), .int .i64 xt, .int .i64 xc]) Tryd.underlying31 Tryd.underlying31 hi'.out hz'.out hi3'.out hz3'.out ?_ ?_ ?_ ?_ ?_ ?_ ?_; (first | exact hv1.ext ((Ext.refl _).alloc _).drew | exact hv1.ext ((Ext.refl _).alloc _)); (first | exact ((Own.lit (B := 0) (e := 23) (k := 3) _ #[.int .u8 (permOf k), .int .i64 xt, .int .i64 xc] 1 (Nat.zero_le _) (by simp [maxLen]) rfl).sl.ext (Ext.refl _).drew) | exact (Own.lit (B := 0) (e := 23) (k := 3) _ #[.int .u8 (permOf k), .int .i64 xt, .int .i64 xc] 1 (Nat.zero_le _) (by simp [maxLen]) rfl).sl); (simp [Value.oneCell']); (simp [maxLen]; omega); (rw [hby'.out]; omega); (simp; omega); intro v' w' hO' hK' hb' _))
    all_goals
      have hEA : Ext w1 (w1.alloc (.cells #[.int .u8 (permOf k), .int .i64 xt, .int .i64 xc] 23)).drew := ((Ext.refl _).alloc _).drew
      have hK : Keeps (w1.alloc (.cells #[.int .u8 (permOf k), .int .i64 xt, .int .i64 xc] 23)).drew w' (w.heap.size + 1) (.slice a1 M.length c1) := hK'
      have hb : v'.ownBlock = (Value.slice a1 M.length c1).ownBlock ∨ ∃ g, v'.ownBlock = some g ∧ w1.heap.size ≤ g := by
        rcases hb' with h | ⟨g, h1, h2⟩
        · exact .inl h
        · exact .inr ⟨g, h1, Nat.le_trans hEA.size h2⟩
      have hX : ExtBut (fun b => w.heap.size + 1 ≤ b) w1 w' := And.right (by assumption : (w'.cell? ⟨w.heap.size, 1, none⟩ = some (.int .i64 xt) ∧ w'.cell? ⟨w.heap.size, 2, none⟩ = some (.int .i64 xc)) ∧ ExtBut (fun b => w.heap.size + 1 ≤ b) w1 w')
      have hO := Lib.hid hO'
      replace hK := Lib.hid hK
      replace hb := Lib.hid hb
      replace hEA := Lib.hid hEA
      replace hX := Lib.hid hX
      clear hO' hK' hb' hS0 hS1
      go_wp2
      go_ret3
      rw [hT.out.1, hT.out.2]
      refine ⟨_, _, rfl, ?_, ?_, ?_, ExtBut.ext hF1 hX.out (fun b hb => by omega)⟩
      · rw [List.length_append, List.flatMap_append]
        exact hO.out.mono (Nat.le_succ _)
      · exact (ExtBut.own (hu1.out.ext hEA.out) (ExtBut.of_keeps hK.out) (fun g hg e => hd1.out g e hg)).mono (Nat.le_succ _)
      · intro g hg e
        rcases hb.out with h | ⟨g', h1, h2⟩
        · exact hd1.out g (h ▸ hg) e
        · have h1' : v'.ownBlock = some g := hg
          rw [h1] at h1'
          cases h1'
          have := (hu1.out.lt e).2
          omega
  · have hT := Lib.hid (tagd_no (l := l) (k := k) (old := old) (x := ⟨xp, xt, xc⟩) (by rw [hwb, hu]; decide))
    rw [hwb, hu]
    replace hwb := Lib.hid hwb
    replace hu := Lib.hid hu
    go_enter Tryd.func102, Tryd.ntmps102
    go_wp2_with fail
    refine (ref30_Wrote _ _).mono ?_
    rintro e w1 ⟨rfl, rfl⟩
    rw [hwb.out]
    go_wp2_with fail
    refine (ref29_UsedO old wb hL.out hl6).mono ?_
    rintro e w1 ⟨v1, u1, rfl, hv1, hu1, hd1, hE1⟩
    rw [hu.out]
    clear hv1 hu1 hd1
    go_wp2
    go_ret3
    rw [hT.out.1, hT.out.2]
    exact ⟨_, _, rfl, Own.nil _ _ _ _, Own.nil _ _ _ _, (fun g h => by cases h), hF.trans hE1⟩

set_option maxHeartbeats 1600000 in
theorem ref30_RetagO {l : List Item} {k : Int} {v : Value} {w : World} (hk : u8B k) (old : Int) (x : Item) (hl : Its w v l) :
    Calls Tryd.prog 86 #[v, .int .u8 k, .int .i64 old, x.val] w (RetUO w (retagR l k old x).1 (retagR l k old x).2.1 (retagR l k old x).2.2.1 (retagR l k old x).2.2.2) := by
  obtain ⟨a, cp, rfl, -⟩ := hl.form
  obtain ⟨xp, xt, xc⟩ := x
  unfold Item.val
  have bX := Box.new w 23 #[.int .u8 xp, .int .i64 xt, .int .i64 xc]
  have hF : Ext w (w.alloc (.cells #[.int .u8 xp, .int .i64 xt, .int .i64 xc] 23)) := (Ext.refl _).alloc _
  have hL := Lib.hid (hl.ext hF)
  clear hl
  cases hok : okS l
  · have h8 : Hid (chk l = 8) := Hid.mk (by simp [chk, hok])
    have hres := Lib.hid (retagR_bad (k := k) (old := old) (x := ⟨xp, xt, xc⟩) hok)
    clear hok bX
    go_enter Tryd.func86, Tryd.ntmps86
    go_wp2_with fail
    refine (ref28_Check hL.out).mono ?_
    rintro e w1 ⟨rfl, hE1⟩
    rw [h8.out]
    go_wp2
    refine bodyPost_ret (results_tmp4 rfl _ _ _) rfl ?_
    exact retUO_errs hres.out (hF.trans hE1)
  · have h0 : Hid (chk l = 0) := Hid.mk (by simp [chk, hok])
    have hl6 : l.length ≤ 600 := by simp [okS] at hok; omega
    cases ha : kindOk k && argOk ⟨xp, xt, xc⟩
    · have hres := Lib.hid (retagR_arg (old := old) hok ha)
      clear hok
      have hcase : (kindErr k = 2) ∨ (kindErr k = 0 ∧ (inB xt = false ∨ (inB xt = true ∧ (inB xc = false ∨ (inB xc = true ∧ (xp != 0) = true))))) := by
        cases h1 : kindOk k
        · exact .inl (kindErr_no h1)
        · refine .inr ⟨kindErr_yes h1, ?_⟩
          rw [h1, Bool.true_and] at ha
          unfold argOk at ha
          simp only at ha
          by_cases hp : xp = 0
          · subst hp
            cases h2 : inB xt <;> cases h3 : inB xc <;> simp_all
          · cases h2 : inB xt <;> cases h3 : inB xc <;> simp_all
      clear ha
      rcases hcase with q | ⟨q, q0 | ⟨q0, q1 | ⟨q1, q2⟩⟩⟩
      all_goals
        replace q := Lib.hid q
        go_enter Tryd.func86, Tryd.ntmps86
        go_wp2_with fail
        refine (ref28_Check hL.out).mono ?_
        rintro e w1 ⟨rfl, hE1⟩
        rw [h0.out]
        replace bX := bX.ext hE1
        have b0 := bX.cell 0; have b1 := bX.cell 1; have b2 := bX.cell 2
        go_wp2_with (first | (go_at_call 101; refine (ref30_Check _ hk).mono ?_; rintro e w2 ⟨rfl, rfl⟩; rw [q.out]) | (go_at_call 94; refine (ref28_In _ _).mono ?_; rintro e w2 ⟨rfl, rfl⟩))
        refine bodyPost_ret (results_tmp4 rfl _ _ _) rfl ?_
        exact retUO_errs hres.out (hF.trans hE1)
    · have hkk : kindOk k = true ∧ argOk ⟨xp, xt, xc⟩ = true := by simpa using ha
      have q := Lib.hid (kindErr_yes hkk.1)
      have ha2 := hkk.2
      unfold argOk at ha2
      simp only [Bool.and_eq_true, beq_iff_eq] at ha2
      obtain ⟨⟨rfl, q0⟩, q1⟩ := ha2
      have hres0 : Hid (usedW l old (writesOf k) ≠ 0 → retagR l k old ⟨0, xt, xc⟩ = ([], [], usedW l old (writesOf k), 0)) := Hid.mk (retagR_no hok ha)
      have hres1 : Hid (usedW l old (writesOf k) = 0 → (usedL l old (writesOf k)).length = 600 → retagR l k old ⟨0, xt, xc⟩ = ([], [], 0, 18)) := Hid.mk (retagR_full hok ha)
      have hres2 : Hid (usedW l old (writesOf k) = 0 → ¬ (usedL l old (writesOf k)).length = 600 → retagR l k old ⟨0, xt, xc⟩ = (usedL l old (writesOf k) ++ [⟨permOf k, xt, xc⟩], usedG l old (writesOf k), 0, 0)) := Hid.mk (retagR_yes hok ha)
      have hle : Hid ((usedL l old (writesOf k)).length ≤ 600) := Hid.mk (Nat.le_trans usedL_len hl6)
      clear hok ha hkk
      obtain ⟨T, hT⟩ : ∃ T, tagdL l k old ⟨0, xt, xc⟩ = T := ⟨_, rfl⟩
      obtain ⟨G, hG⟩ : ∃ G, tagdG l k old = G := ⟨_, rfl⟩
      obtain ⟨u, hu⟩ : ∃ u, usedW l old (writesOf k) = u := ⟨_, rfl⟩
      have hcase : (600 < T.length ∧ retagR l k old ⟨0, xt, xc⟩ = ([], [], 0, 18)) ∨ (T.length ≤ 600 ∧ retagR l k old ⟨0, xt, xc⟩ = (T, G, u, 0)) := by
        by_cases h : usedW l old (writesOf k) = 0
        · have e1 := (tagd_yes (x := ⟨0, xt, xc⟩) h).1
          have e2 := (tagd_yes (x := ⟨0, xt, xc⟩) h).2
          by_cases hf : (usedL l old (writesOf k)).length = 600
          · exact .inl ⟨by rw [← hT, e1]; simp; omega, hres1.out h hf⟩
          · refine .inr ⟨by rw [← hT, e1]; have := hle.out; simp; omega, ?_⟩
            rw [hres2.out h hf, ← hT, e1, ← hG, e2, ← hu, h]
        · have e1 := (tagd_no (x := ⟨0, xt, xc⟩) h).1
          have e2 := (tagd_no (x := ⟨0, xt, xc⟩) h).2
          exact .inr ⟨by rw [← hT, e1]; simp, by rw [hres0.out h, ← hT, e1, ← hG, e2, ← hu]⟩
      replace hT := Lib.hid hT
      replace hG := Lib.hid hG
      replace hu := Lib.hid hu
      clear hres0 hres1 hres2 hle
      rcases hcase with ⟨hn, hres⟩ | ⟨hn, hres⟩
      all_goals
        replace hres := Lib.hid hres
        go_enter Tryd.func86, Tryd.ntmps86
        go_wp2_with fail
        refine (ref28_Check hL.out).mono ?_
        rintro e w1 ⟨rfl, hE1⟩
        rw [h0.out]
        replace bX := bX.ext hE1
        have b0 := bX.cell 0; have b1 := bX.cell 1; have b2 := bX.cell 2
        go_wp2_with (first | (go_at_call 101; refine (ref30_Check _ hk).mono ?_; rintro e w2 ⟨rfl, rfl⟩; rw [q.out]) | (go_at_call 94; refine (ref28_In _ _).mono ?_; rintro e w2 ⟨rfl, rfl⟩) | (go_at_call 102; refine (ref30_TaggedO (k := k) old ⟨0, xt, xc⟩ (hL.out.ext hE1) hl6).mono ?_; rintro e w3 ⟨v3, u3, rfl, hv3, hu3, hd3, hE3⟩; rw [hT.out] at hv3; rw [hG.out] at hu3; rw [hu.out]; replace hd3 := Lib.hid hd3; obtain ⟨a3, c3, rfl, -⟩ := (Own.sl hv3).slice_form; obtain ⟨a4, c4, rfl, -⟩ := (Own.sl hu3).slice_form))
        refine bodyPost_ret (results_tmp4 rfl _ _ _) rfl ?_
        first
          | exact retUO_errs hres.out ((hF.trans hE1).trans hE3)
          | (rw [hres.out]; exact ⟨_, _, rfl, hv3.mono ((hF.trans hE1).size), hu3.mono ((hF.trans hE1).size), hd3.out, (hF.trans hE1).trans hE3⟩)

end Go.Proofs.YtoobdejbcgkfdaaDoor
