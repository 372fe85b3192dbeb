/- Contracts: one and ranged of the reference of layer 33. (printed by gen/ranged33.py) -/
import Derived.Test.YtoobdejbcgkfdaaDoorStkF
namespace Go.Proofs.YtoobdejbcgkfdaaDoor
set_option maxRecDepth 100000
open Go.RowKit

def oneR (kind tag : Int) (it : Item) (run : List Int) (l : List Item) : List Item × Int × Int := if kind = 0 then useR l tag false run else if kind = 9 then useR l tag true run else tagR l kind tag it run
theorem oneR_read {tag : Int} {it : Item} {run : List Int} {l : List Item} : oneR 0 tag it run l = useR l tag false run := rfl
theorem oneR_write {tag : Int} {it : Item} {run : List Int} {l : List Item} : oneR 9 tag it run l = useR l tag true run := rfl
theorem oneR_tag {kind tag : Int} {it : Item} {run : List Int} {l : List Item} (h0 : kind ≠ 0) (h9 : kind ≠ 9) : oneR kind tag it run l = tagR l kind tag it run := by rw [oneR, if_neg h0, if_neg h9]

set_option maxHeartbeats 800000 in
theorem ref33_one {l : List Item} {run : List Int} {kind : Int} {v r : Value} {w : World} (hk : u8B kind) (tag : Int) (it : Item) (hl : Its w v l) (hr : Nts w r run) :
    Calls Tryd.prog 96 #[v, .int .u8 kind, .int .i64 tag, it.val, r] w (RetSO w (oneR kind tag it run l).1 (oneR kind tag it run l).2.1 (oneR kind tag it run l).2.2) := by
  obtain ⟨p, t, c⟩ := it
  have hE0 := (Ext.refl w).alloc (.cells #[.int .u8 p, .int .i64 t, .int .i64 c] 23)
  have bI := Box.new w 23 #[.int .u8 p, .int .i64 t, .int .i64 c]
  have i0 : World.cell? (w.alloc (.cells #[.int .u8 p, .int .i64 t, .int .i64 c] 23)) ⟨w.heap.size, 0, none⟩ = some (.int .u8 p) := bI.cell 0
  have i1 : World.cell? (w.alloc (.cells #[.int .u8 p, .int .i64 t, .int .i64 c] 23)) ⟨w.heap.size, 1, none⟩ = some (.int .i64 t) := bI.cell 1
  have i2 : World.cell? (w.alloc (.cells #[.int .u8 p, .int .i64 t, .int .i64 c] 23)) ⟨w.heap.size, 2, none⟩ = some (.int .i64 c) := bI.cell 2
  have hL := Lib.hid (hl.ext hE0)
  have hR := Lib.hid (hr.ext hE0)
  obtain ⟨a, cp, rfl, -⟩ := hl.form
  obtain ⟨a3, cp3, rfl, -⟩ := hr.form
  clear hl hr bI
  unfold Item.val
  by_cases h0 : kind = 0
  · subst h0
    rw [oneR_read]
    go_enter Tryd.func96, Tryd.ntmps96
    go_wp2_with fail
    refine (ref31_ReadO tag hL.out hR.out).mono ?_
    rintro e w2 ⟨v2, rfl, hv2, hE2⟩
    obtain ⟨b3, d3, rfl, -⟩ := hv2.its.form
    go_wp2
    refine bodyPost_ret (results_tmp3 rfl _ _ _) rfl ?_
    exact ⟨_, rfl, OwnI.mono hv2 hE0.size, hE0.trans hE2⟩
  by_cases h9 : kind = 9
  · subst h9
    rw [oneR_write]
    go_enter Tryd.func96, Tryd.ntmps96
    go_wp2_with fail
    refine (ref31_WriteO tag hL.out hR.out).mono ?_
    rintro e w2 ⟨v2, rfl, hv2, hE2⟩
    obtain ⟨b3, d3, rfl, -⟩ := hv2.its.form
    go_wp2
    refine bodyPost_ret (results_tmp3 rfl _ _ _) rfl ?_
    exact ⟨_, rfl, OwnI.mono hv2 hE0.size, hE0.trans hE2⟩
  · have k0 : (kind == 0) = false := by simp [h0]
    have k9 : (kind == 9) = false := by simp [h9]
    rw [oneR_tag h0 h9]
    replace hk := Lib.hid hk
    clear h0 h9
    go_enter Tryd.func96, Tryd.ntmps96
    go_wp2_with fail
    refine (ref31_RetagO hk.out tag ⟨p, t, c⟩ hL.out hR.out).mono ?_
    rintro e w2 ⟨v2, rfl, hv2, hE2⟩
    obtain ⟨b3, d3, rfl, -⟩ := hv2.its.form
    go_wp2
    refine bodyPost_ret (results_tmp3 rfl _ _ _) rfl ?_
    exact ⟨_, rfl, OwnI.mono hv2 hE0.size, hE0.trans hE2⟩

set_option maxHeartbeats 3200000 in
theorem ref33_ranged {l : List (List Item)} {num kind : Int} {a n : Nat} {run : List Int} {s v : Value} {w : World} (hk : u8B kind) (tag : Int) (it : Item) (hsm : l.length ≤ 2 ∧ ∀ x ∈ l, x.length ≤ 600) (hin : a < l.length ∧ 1 ≤ n ∧ n ≤ l.length - a) (hl : Sts w s l) (hr : Nts w v run) :
    Calls Tryd.prog 78 #[.agg #[.int .i64 num, s], .int .i64 a, .int .i64 n, .int .u8 kind, .int .i64 tag, it.val, v] w (RetKW w (eachR (oneR kind tag it run) ⟨num, l⟩ a n).1 (eachR (oneR kind tag it run) ⟨num, l⟩ a n).2.1 (eachR (oneR kind tag it run) ⟨num, l⟩ a n).2.2) := by
  obtain ⟨p, t, c⟩ := it
  obtain ⟨q, cp, rfl, hlc, hcm, -⟩ := hl.form
  obtain ⟨a3, cp3, rfl, -⟩ := hr.form
  unfold maxLen at hcm
  have hE0 : Ext w (World.alloc (World.alloc (World.alloc w (.cells #[.int .i64 num, .slice q l.length cp] 70)) (.cells #[.int .u8 p, .int .i64 t, .int .i64 c] 23)) (.cells #[.int .i64 0, .slice none 0 0] 70)) := (((Ext.refl w).alloc _).alloc _).alloc _
  have bM := ((Box.new w 70 #[.int .i64 num, .slice q l.length cp]).ext ((Ext.refl _).alloc (.cells #[.int .u8 p, .int .i64 t, .int .i64 c] 23))).ext ((Ext.refl _).alloc (.cells #[.int .i64 0, .slice none 0 0] 70))
  have bI := (Box.new (World.alloc w (.cells #[.int .i64 num, .slice q l.length cp] 70)) 23 #[.int .u8 p, .int .i64 t, .int .i64 c]).ext ((Ext.refl _).alloc (.cells #[.int .i64 0, .slice none 0 0] 70))
  have bR := Box.new (World.alloc (World.alloc w (.cells #[.int .i64 num, .slice q l.length cp] 70)) (.cells #[.int .u8 p, .int .i64 t, .int .i64 c] 23)) 70 #[.int .i64 0, .slice none 0 0]
  simp only [World.size_alloc] at bI bR
  have hL := Lib.hid (hl.ext hE0)
  have hR := Lib.hid (hr.ext hE0)
  have hL0 := Lib.hid hl
  have hR0 := Lib.hid hr
  clear hl hr
  have m0 : World.cell? (World.alloc (World.alloc (World.alloc w (.cells #[.int .i64 num, .slice q l.length cp] 70)) (.cells #[.int .u8 p, .int .i64 t, .int .i64 c] 23)) (.cells #[.int .i64 0, .slice none 0 0] 70)) ⟨w.heap.size, 0, none⟩ = some (.int .i64 num) := bM.cell 0
  have m1 : World.cell? (World.alloc (World.alloc (World.alloc w (.cells #[.int .i64 num, .slice q l.length cp] 70)) (.cells #[.int .u8 p, .int .i64 t, .int .i64 c] 23)) (.cells #[.int .i64 0, .slice none 0 0] 70)) ⟨w.heap.size, 1, none⟩ = some (.slice q l.length cp) := bM.cell 1
  have hH := Lib.hid (And.intro bM (And.intro bI bR))
  clear bM bI bR
  unfold Item.val
  replace hk := Lib.hid hk
  go_enter Tryd.func78, Tryd.ntmps78
  go_wp2_with fail
  obtain ⟨w1, hw1⟩ : ∃ z, (World.alloc (World.alloc (World.alloc w (.cells #[.int .i64 num, .slice q l.length cp] 70)) (.cells #[.int .u8 p, .int .i64 t, .int .i64 c] 23)) (.cells #[.int .i64 0, .slice none 0 0] 70)) = z := ⟨_, rfl⟩
  have hsz1 : w1.heap.size = w.heap.size + 3 := by rw [← hw1]; simp
  rw [hw1] at hE0 hH hL hR ⊢
  clear hw1 m0 m1
  refine (ref33_Twin hL.out ⟨by omega, fun x hx => by have := hsm.2 x hx; omega⟩).mono ?_
  rintro e w2 ⟨vt, vs0, rfl, hT, hE2⟩
  replace hT : OwnS w2 w1.heap.size vt vs0 l := hT
  obtain ⟨g, cg, rfl, hcg, hcg2, hg1, hg2⟩ := Own.form hT.outer (show 0 < l.length by omega)
  dsimp only
  have bO := Box.new w2 70 #[.int .i64 num, .slice (some ⟨g, 0, none⟩) l.length cg]
  have hEo := (Ext.refl w2).alloc (.cells #[.int .i64 num, .slice (some ⟨g, 0, none⟩) l.length cg] 70)
  go_wp2
  obtain ⟨w3, hw3⟩ : ∃ z, World.alloc w2 (.cells #[.int .i64 num, .slice (some ⟨g, 0, none⟩) l.length cg] 70) = z := ⟨_, rfl⟩
  have hsz3 : w3.heap.size = w2.heap.size + 1 := by rw [← hw3]; simp
  rw [hw3] at bO hEo ⊢
  clear hw3
  have hT3 := hT.ext hEo
  have hE3 := (hE0.trans hE2).trans hEo
  have hH3 := Lib.hid (And.intro ((hH.out.1.ext hE2).ext hEo) (And.intro ((hH.out.2.1.ext hE2).ext hEo) ((hH.out.2.2.ext hE2).ext hEo)))
  have hsz2 := hE2.size
  replace bO := Lib.hid bO
  clear hT hH hL hR hE2 hEo
  unfold maxLen at hcg2
  have hwr : IntKind.i64.wrap ((a : Int) + (n : Int)) = (a : Int) + (n : Int) := IntWalk.i64_in _ (by omega)
  go_loopw [18, 19] (fun fv iv wr => ∃ (j : Nat) (why : Int) (out : List (List Item)) (vs : List Value), a ≤ j ∧ j ≤ a + n ∧ iv = .int .i64 j ∧ fv = .int .u8 why ∧ out.length = l.length ∧ OwnS wr w1.heap.size (.slice (some ⟨g, 0, none⟩) l.length cg) vs out ∧ ExtBut (· = g) w3 wr ∧ Hid (eachR (oneR kind tag ⟨p, t, c⟩ run) ⟨num, l⟩ a n = eachGo (oneR kind tag ⟨p, t, c⟩ run) num l (a + n - j) j out why)) (fun _ iv _ => a + n - (intOf iv).toNat)
  case atStart => exact ⟨a, 0, l, vs0, Nat.le_refl _, by omega, rfl, rfl, rfl, hT3, ExtBut.refl _ _, Hid.mk (by rw [show a + n - a = n by omega]; rfl)⟩
  case round =>
    obtain ⟨j, why, out, vs, hj1, hj2, rfl, rfl, hol, hO, hX, hN⟩ := hrel
    have bM := hH3.out.1.but hX (by omega)
    have bI := hH3.out.2.1.but hX (by omega)
    have bR := hH3.out.2.2.but hX (by omega)
    have bO4 := bO.out.but hX (by omega)
    have hF : Ext w wr := ExtBut.ext hE3 hX (fun x h => by omega)
    have m0 : wr.cell? ⟨w.heap.size, 0, none⟩ = some (.int .i64 num) := bM.cell 0
    have m1 : wr.cell? ⟨w.heap.size, 1, none⟩ = some (.slice q l.length cp) := bM.cell 1
    have i0 : wr.cell? ⟨w.heap.size + 1, 0, none⟩ = some (.int .u8 p) := bI.cell 0
    have i1 : wr.cell? ⟨w.heap.size + 1, 1, none⟩ = some (.int .i64 t) := bI.cell 1
    have i2 : wr.cell? ⟨w.heap.size + 1, 2, none⟩ = some (.int .i64 c) := bI.cell 2
    by_cases hlt : j < a + n
    · have hlt' : decide ((j : Int) < (a : Int) + (n : Int)) = true := decide_eq_true (by omega)
      obtain ⟨x, hx⟩ : ∃ x, l[j]? = some x := ⟨l[j], by simp [show j < l.length by omega]⟩
      obtain ⟨b, off, sv, rfl, hbb, d0, hcl⟩ := (hL0.out.ext hF).cell hx
      have hX0 := Lib.hid hx
      obtain ⟨ca, ccp, rfl, -⟩ := hcl.form
      have hC := Lib.hid hcl
      have hR2 := Lib.hid (hR0.out.ext hF)
      obtain ⟨⟨s2, v2, e2⟩, hf⟩ : ∃ z, oneR kind tag ⟨p, t, c⟩ run x = z := ⟨_, rfl⟩
      replace hf := Lib.hid hf
      have hA := Lib.hid (And.intro hO (And.intro hX (And.intro bO4 bR)))
      have hjl : j < l.length := by omega
      clear hx hcl hbb hO hX bM bI bR bO4
      by_cases he : e2 = 0
      · subst he
        go_wp2
        have hSk : ∀ w' w'' : World, (w'.cell? ⟨w.heap.size, 0, none⟩ = some (.int .i64 num) ∧ w'.cell? ⟨w.heap.size, 1, none⟩ = some (.slice (some ⟨b, off, none⟩) l.length cp) ∧ w'.cell? ⟨w.heap.size + 1, 0, none⟩ = some (.int .u8 p) ∧ w'.cell? ⟨w.heap.size + 1, 1, none⟩ = some (.int .i64 t) ∧ w'.cell? ⟨w.heap.size + 1, 2, none⟩ = some (.int .i64 c) ∧ w'.cell? ⟨b, off + j, none⟩ = some (.slice ca x.length ccp) ∧ Ext wr w') → Ext w' w'' → (w''.cell? ⟨w.heap.size, 0, none⟩ = some (.int .i64 num) ∧ w''.cell? ⟨w.heap.size, 1, none⟩ = some (.slice (some ⟨b, off, none⟩) l.length cp) ∧ w''.cell? ⟨w.heap.size + 1, 0, none⟩ = some (.int .u8 p) ∧ w''.cell? ⟨w.heap.size + 1, 1, none⟩ = some (.int .i64 t) ∧ w''.cell? ⟨w.heap.size + 1, 2, none⟩ = some (.int .i64 c) ∧ w''.cell? ⟨b, off + j, none⟩ = some (.slice ca x.length ccp) ∧ Ext wr w'') := by
          rintro w' w'' ⟨k0, k1, k2, k3, k4, k5, kE⟩ h
          exact ⟨h.cell k0, h.cell k1, h.cell k2, h.cell k3, h.cell k4, h.cell k5, Ext.trans kE h⟩
        go_region_held3 (fun w' => (w'.cell? ⟨w.heap.size, 0, none⟩ = some (.int .i64 num) ∧ w'.cell? ⟨w.heap.size, 1, none⟩ = some (.slice (some ⟨b, off, none⟩) l.length cp) ∧ w'.cell? ⟨w.heap.size + 1, 0, none⟩ = some (.int .u8 p) ∧ w'.cell? ⟨w.heap.size + 1, 1, none⟩ = some (.int .i64 t) ∧ w'.cell? ⟨w.heap.size + 1, 2, none⟩ = some (.int .i64 c) ∧ w'.cell? ⟨b, off + j, none⟩ = some (.slice ca x.length ccp) ∧ Ext wr w')) (first | assumption | exact ⟨m0, m1, i0, i1, i2, d0, (Ext.refl _).drew⟩ | (refine hSk _ _ (by assumption) ?_; first | assumption | exact (Ext.refl _).alloc _ | exact ((Ext.refl _).alloc _).drew)) (first | (go_at_call 96; refine (ref33_one hk.out tag ⟨p, t, c⟩ (hC.out.ext ?_) (hR2.out.ext ?_)).mono ?_; (exact And.right (And.right (And.right (And.right (And.right (And.right (by assumption))))))); (exact And.right (And.right (And.right (And.right (And.right (And.right (by assumption))))))); rintro e wn ⟨vo, rfl, hvo, hR0⟩; (have hB : Ext wr wn := (by refine Ext.trans ?_ hR0; exact And.right (And.right (And.right (And.right (And.right (And.right (by assumption)))))))); (have hvo2 : OwnI wn wr.heap.size vo (oneR kind tag ⟨p, t, c⟩ run x).1 := OwnI.mono hvo (Ext.size (a := wr) (by exact And.right (And.right (And.right (And.right (And.right (And.right (by assumption))))))))); (obtain ⟨bo, co, rfl, -⟩ := hvo2.its.form); (replace hvo2 := Lib.hid hvo2); clear hvo; (rw [hf.out] at hvo2 ⊢); dsimp only at hvo2 ⊢))
        all_goals
          have bO5 := hA.out.2.2.1.ext hB
          have o1 : wn.cell? ⟨w2.heap.size, 1, none⟩ = some (.slice (some ⟨g, 0, none⟩) l.length cg) := bO5.cell 1
          have hOo := hA.out.1.outer
          rw [hol] at hOo
          have hfr := (Own.ext hOo hB).frozen j
          have hgl : g < wn.heap.size := by have := hB.size; have := hA.out.2.1.size; omega
          obtain ⟨y, hy⟩ : ∃ y, out[j]? = some y := ⟨out[j]'(by omega), by simp [show j < out.length by omega]⟩
          obtain ⟨b', off', sv', hbe, hb', c0, -⟩ := (hA.out.1.sts.ext hB).cell hy
          cases hbe
          rw [Nat.zero_add] at c0
          have hO5 : OwnS (wn.setCell ⟨g, j, none⟩ (.slice bo s2.length co)) w1.heap.size (.slice (some ⟨g, 0, none⟩) l.length cg) (vs.set j (.slice bo s2.length co)) (out.set j s2) := by
            have h := OwnS.set (show OwnS wr w1.heap.size (.slice (some ⟨g, 0, none⟩) out.length cg) vs out by rw [hol]; exact hA.out.1) hB (OwnI.mono hvo2.out (by have := hA.out.2.1.size; omega)) (fun b e => (Own.lt hvo2.out e).1) (show j < out.length by omega)
            rw [List.length_set, hol] at h
            exact h
          have hX5 := (hA.out.2.1.trans (ExtBut.of_ext hB)).trans (ExtBut.setCell wn ⟨g, j, none⟩ (.slice bo s2.length co))
          have hN2 : eachR (oneR kind tag ⟨p, t, c⟩ run) ⟨num, l⟩ a n = eachGo (oneR kind tag ⟨p, t, c⟩ run) num l (a + n - (j + 1)) (j + 1) (out.set j s2) (if why = 0 then v2 else why) := by
            rw [hN.out, show a + n - j = (a + n - (j + 1)) + 1 by omega, eachGo_ok hX0.out hf.out]
          have hZ := Lib.hid (And.intro hO5 (And.intro hX5 hN2))
          clear hOo hb' hy hO5 hX5 hN2 bO5
          by_cases hwy : why = 0
          · subst hwy
            go_wp2
            go_roundw
            case rel => exact ⟨j + 1, v2, _, _, by omega, by omega, by go_num, rfl, by simp [hol], hZ.out.1, hZ.out.2.1, Hid.mk hZ.out.2.2⟩
            case measure => simp [intOf]; omega
          · have hw1 : (why == 0) = false := by simp [hwy]
            go_wp2
            go_roundw
            case rel => exact ⟨j + 1, why, _, _, by omega, by omega, by go_num, rfl, by simp [hol], hZ.out.1, hZ.out.2.1, Hid.mk (by rw [hZ.out.2.2, if_neg hwy])⟩
            case measure => simp [intOf]; omega
      · have he1 : (e2 != 0) = true := by simp [he]
        have hres : Hid (eachR (oneR kind tag ⟨p, t, c⟩ run) ⟨num, l⟩ a n = (Stk.zero, 0, e2)) := Hid.mk (by rw [hN.out, show a + n - j = (a + n - (j + 1)) + 1 by omega, eachGo_bad hX0.out hf.out he])
        go_wp2
        have hSk : ∀ w' w'' : World, (w'.cell? ⟨w.heap.size, 0, none⟩ = some (.int .i64 num) ∧ w'.cell? ⟨w.heap.size, 1, none⟩ = some (.slice (some ⟨b, off, none⟩) l.length cp) ∧ w'.cell? ⟨w.heap.size + 1, 0, none⟩ = some (.int .u8 p) ∧ w'.cell? ⟨w.heap.size + 1, 1, none⟩ = some (.int .i64 t) ∧ w'.cell? ⟨w.heap.size + 1, 2, none⟩ = some (.int .i64 c) ∧ w'.cell? ⟨b, off + j, none⟩ = some (.slice ca x.length ccp) ∧ Ext wr w') → Ext w' w'' → (w''.cell? ⟨w.heap.size, 0, none⟩ = some (.int .i64 num) ∧ w''.cell? ⟨w.heap.size, 1, none⟩ = some (.slice (some ⟨b, off, none⟩) l.length cp) ∧ w''.cell? ⟨w.heap.size + 1, 0, none⟩ = some (.int .u8 p) ∧ w''.cell? ⟨w.heap.size + 1, 1, none⟩ = some (.int .i64 t) ∧ w''.cell? ⟨w.heap.size + 1, 2, none⟩ = some (.int .i64 c) ∧ w''.cell? ⟨b, off + j, none⟩ = some (.slice ca x.length ccp) ∧ Ext wr w'') := by
          rintro w' w'' ⟨k0, k1, k2, k3, k4, k5, kE⟩ h
          exact ⟨h.cell k0, h.cell k1, h.cell k2, h.cell k3, h.cell k4, h.cell k5, Ext.trans kE h⟩
        go_region_held3 (fun w' => (w'.cell? ⟨w.heap.size, 0, none⟩ = some (.int .i64 num) ∧ w'.cell? ⟨w.heap.size, 1, none⟩ = some (.slice (some ⟨b, off, none⟩) l.length cp) ∧ w'.cell? ⟨w.heap.size + 1, 0, none⟩ = some (.int .u8 p) ∧ w'.cell? ⟨w.heap.size + 1, 1, none⟩ = some (.int .i64 t) ∧ w'.cell? ⟨w.heap.size + 1, 2, none⟩ = some (.int .i64 c) ∧ w'.cell? ⟨b, off + j, none⟩ = some (.slice ca x.length ccp) ∧ Ext wr w')) (first | assumption | exact ⟨m0, m1, i0, i1, i2, d0, (Ext.refl _).drew⟩ | (refine hSk _ _ (by assumption) ?_; first | assumption | exact (Ext.refl _).alloc _ | exact ((Ext.refl _).alloc _).drew)) (first | (go_at_call 96; refine (ref33_one hk.out tag ⟨p, t, c⟩ (hC.out.ext ?_) (hR2.out.ext ?_)).mono ?_; (exact And.right (And.right (And.right (And.right (And.right (And.right (by assumption))))))); (exact And.right (And.right (And.right (And.right (And.right (And.right (by assumption))))))); rintro e wn ⟨vo, rfl, hvo, hR0⟩; (have hB : Ext wr wn := (by refine Ext.trans ?_ hR0; exact And.right (And.right (And.right (And.right (And.right (And.right (by assumption)))))))); (have hvo2 : OwnI wn wr.heap.size vo (oneR kind tag ⟨p, t, c⟩ run x).1 := OwnI.mono hvo (Ext.size (a := wr) (by exact And.right (And.right (And.right (And.right (And.right (And.right (by assumption))))))))); (obtain ⟨bo, co, rfl, -⟩ := hvo2.its.form); (replace hvo2 := Lib.hid hvo2); clear hvo; (rw [hf.out] at hvo2 ⊢); dsimp only at hvo2 ⊢))
        all_goals
          have bR5 := hA.out.2.2.2.ext hB
          have r0 : wn.cell? ⟨w.heap.size + 1 + 1, 0, none⟩ = some (.int .i64 0) := bR5.cell 0
          have r1 : wn.cell? ⟨w.heap.size + 1 + 1, 1, none⟩ = some (.slice none 0 0) := bR5.cell 1
          have rf0 := bR5.frozen 0
          have rf1 := bR5.frozen 1
          have hF5 := hF.trans hB
          clear bR5
          go_wp2
          rw [hres.out]
          refine bodyPost_ret (v := .tuple #[.agg #[.int .i64 0, .slice none 0 0], .int .u8 0, .int .i64 e2]) (by simp [results, Tryd.f78, go_sem, r0, r1]) rfl ⟨_, [], rfl, OwnS.nil _ _, ?_⟩
          first | exact hF5 | exact (hF5.setCell (by simp; omega) _).setCell (by simp; omega) _
    · have hlt' : decide ((j : Int) < (a : Int) + (n : Int)) = false := decide_eq_false (by omega)
      have hja : j = a + n := by omega
      have hm0 : a + n - j = 0 := by omega
      rw [hm0] at hN
      have r0 : wr.cell? ⟨w.heap.size + 1 + 1, 0, none⟩ = some (.int .i64 0) := bR.cell 0
      have r1 : wr.cell? ⟨w.heap.size + 1 + 1, 1, none⟩ = some (.slice none 0 0) := bR.cell 1
      have rf0 := bR.frozen 0
      have rf1 := bR.frozen 1
      have o0 : wr.cell? ⟨w2.heap.size, 0, none⟩ = some (.int .i64 num) := bO4.cell 0
      have o1 : wr.cell? ⟨w2.heap.size, 1, none⟩ = some (.slice (some ⟨g, 0, none⟩) l.length cg) := bO4.cell 1
      have hO' := Lib.hid hO
      clear hO hm0 hlt bM bI bR bO4
      by_cases hwy : why = 0
      · subst hwy
        have hres : Hid (eachR (oneR kind tag ⟨p, t, c⟩ run) ⟨num, l⟩ a n = (⟨num, out⟩, 0, 0)) := Hid.mk (by rw [hN.out, eachGo_end])
        go_wp2
        rw [hres.out]
        have hY := ((ExtBut.setCell wr ⟨w.heap.size + 1 + 1, 0, none⟩ (.int .i64 num)).mono (S' := fun b => b = w.heap.size + 1 + 1) (fun x _ h => h)).trans ((ExtBut.setCell _ ⟨w.heap.size + 1 + 1, 1, none⟩ (.slice (some ⟨g, 0, none⟩) l.length cg)).mono (S' := fun b => b = w.heap.size + 1 + 1) (fun x _ h => h))
        refine bodyPost_ret (v := .tuple #[.agg #[.int .i64 num, .slice (some ⟨g, 0, none⟩) l.length cg], .int .u8 0, .int .i64 0]) (by simp [results, Tryd.f78, go_sem, r0, r1]) rfl ⟨_, vs, rfl, OwnS.mono (B' := w.heap.size) (OwnS.but hO'.out hY (fun g e h => by omega)) (by omega), ExtBut.ext hF hY (fun x h => by omega)⟩
      · have hw1 : (why != 0) = true := by simp [hwy]
        have hres : Hid (eachR (oneR kind tag ⟨p, t, c⟩ run) ⟨num, l⟩ a n = (Stk.zero, why, 0)) := Hid.mk (by rw [hN.out, eachGo_why hwy])
        clear hwy
        go_wp2
        rw [hres.out]
        refine bodyPost_ret (v := .tuple #[.agg #[.int .i64 0, .slice none 0 0], .int .u8 why, .int .i64 0]) (by simp [results, Tryd.f78, go_sem, r0, r1]) rfl ⟨_, [], rfl, OwnS.nil _ _, ?_⟩
        first | exact hF | exact (hF.setCell (by simp; omega) _).setCell (by simp; omega) _

end Go.Proofs.YtoobdejbcgkfdaaDoor
