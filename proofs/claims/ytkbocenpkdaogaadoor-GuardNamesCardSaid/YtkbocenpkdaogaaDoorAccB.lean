/- Contracts: access.use. -/
import Derived.Test.YtkbocenpkdaogaaDoorAccA
import Derived.LoopIn
namespace Go.Proofs.YtkbocenpkdaogaaDoor
set_option maxRecDepth 100000
open Go.RowKit

set_option maxHeartbeats 1600000 in
theorem access_useO {l : List Item} {v : Value} {w : World} (tag : Int) (write : Bool) (hl : Its w v l) :
    Calls Tryd.prog 67 #[v, .int .i64 tag, .bool write] w (RetUO w (accL l tag write) (accG l tag write) (accW l tag write) (chk l)) := by
  have hF0 := Ext.refl w
  have hL := hl
  obtain ⟨a, cp, rfl, hlc, hcm, -⟩ := hl.form
  unfold maxLen at hcm
  clear hl
  cases hk : okS l
  · have hi : Hid (findIx l tag write = 0) := Hid.mk (by simp [findIx, hk])
    have he : Hid (findErr l tag write = 8) := Hid.mk (by simp [findErr, hk])
    have e1 : Hid (accL l tag write = [] ∧ accG l tag write = [] ∧ accW l tag write = 0 ∧ chk l = 8) := Hid.mk (by simp [accL, accG, accW, chk, hk])
    clear hk
    go_enter Tryd.func67, Tryd.ntmps67
    go_wp2_with fail
    refine (items_Find tag write hL).mono ?_
    rintro e w1 ⟨rfl, hE1⟩
    rw [hi.out, he.out]
    go_wp2
    refine bodyPost_ret (results_tmp4 rfl _ _ _) rfl ?_
    rw [e1.out.1, e1.out.2.1, e1.out.2.2.1, e1.out.2.2.2]
    exact RetUO.none hE1
  · cases hf : findAt l tag write with
    | none =>
      have hi : Hid (findIx l tag write = 0) := Hid.mk (by simp [findIx, hk, hf])
      have he : Hid (findErr l tag write = 6) := Hid.mk (by simp [findErr, hk, hf])
      have e1 : Hid (accL l tag write = [] ∧ accG l tag write = [] ∧ accW l tag write = 1 ∧ chk l = 0) := Hid.mk (by simp [accL, accG, accW, usedL, usedG, usedW, chk, hk, hf])
      clear hk hf
      go_enter Tryd.func67, Tryd.ntmps67
      go_wp2_with fail
      refine (items_Find tag write hL).mono ?_
      rintro e w1 ⟨rfl, hE1⟩
      rw [hi.out, he.out]
      go_wp2
      refine bodyPost_ret (results_tmp4 rfl _ _ _) rfl ?_
      rw [e1.out.1, e1.out.2.1, e1.out.2.2.1, e1.out.2.2.2]
      exact RetUO.none hE1
    | some i =>
      obtain ⟨x, hx, -, -⟩ := findAt_is hf
      have hil : i < l.length := (List.getElem?_eq_some_iff.1 hx).1
      have hi : Hid (findIx l tag write = (i : Int)) := Hid.mk (by simp [findIx, hk, hf])
      have he : Hid (findErr l tag write = 0) := Hid.mk (by simp [findErr, hk, hf])
      have hae : Hid (atErr l (i : Int) = 0) := Hid.mk (by simp [atErr, hk, hil])
      have hl6 : l.length ≤ 600 := by simp [okS] at hk; omega
      have e1 : Hid (accL l tag write = useLeft l i write ∧ accG l tag write = useGone l i write ∧ accW l tag write = 0 ∧ chk l = 0) := Hid.mk (by simp [accL, accG, accW, usedL, usedG, usedW, chk, hk, hf])
      obtain ⟨m, hm⟩ : ∃ m, l.take (i + 1) = m := ⟨_, rfl⟩
      obtain ⟨n, hn⟩ : ∃ n, l.drop (i + 1) = n := ⟨_, rfl⟩
      have hb : Hid (belowOf l (i : Int) = m) := Hid.mk (by unfold belowOf; rw [hae.out]; simp [hm])
      have ha : Hid (aboveOf l (i : Int) = n) := Hid.mk (by unfold aboveOf; rw [hae.out]; simp [hn])
      have him : i < m.length := by rw [← hm]; simp; omega
      have hm6 : m.length ≤ 600 := by rw [← hm]; simp; omega
      have hnl : n.length ≤ 600 := by rw [← hn]; simp; omega
      have hmx : Hid (m[i]? = some x) := Hid.mk (by rw [← hm]; exact take_get hx)
      have hm := Lib.hid hm; have hn := Lib.hid hn
      clear hk hf hx
      obtain ⟨ty, zz, hty, hz, hi3, hz3, hby⟩ := Item.infoE
      have hty := Lib.hid hty; have hz := Lib.hid hz; have hi3 := Lib.hid hi3; have hz3 := Lib.hid hz3; have hby := Lib.hid hby
      cases write
      · have hlf : Hid (useLeft l i false = m ++ n.filter (fun x => !(x.p == 1))) := Hid.mk (by simp only [useLeft, hm.out, hn.out]; rfl)
        have hgn : Hid (useGone l i false = n.filter (fun x => x.p == 1)) := Hid.mk (by simp [useGone, hn.out])
        go_enter Tryd.func67, Tryd.ntmps67
        go_wp2_with fail
        refine (items_Find tag _ hL).mono ?_
        rintro e w1 ⟨rfl, hE1⟩
        rw [hi.out, he.out]
        replace hL := hL.ext hE1
        go_wp2_with fail
        refine (items_Below (i : Int) hL).mono ?_
        rintro e w2 ⟨vl, rfl, hvl, hE2⟩
        rw [hb.out] at hvl
        rw [hae.out]
        replace hL := hL.ext hE2
        go_wp2_with fail
        refine (items_Above (i : Int) hL).mono ?_
        rintro e w3 ⟨va, rfl, hva, hE3⟩
        rw [ha.out] at hva
        rw [hae.out]
        have hF2 := hE1.trans hE2
        have hF3 := hF2.trans hE3
        have hvl3 := hvl.ext hE3
        have hI0 : UseInv (fun x => x.p == 1) w w3 w2.heap.size m n 0 vl (.slice none 0 0) w3 := UseInv.start hF3 (hvl3.mono hE1.size) (fun g hg => (hvl.lt hg).2)
        obtain ⟨g1, c1, rfl, hc1, hc2, -⟩ := hvl3.form (by omega)
        obtain ⟨a2, cp2, rfl, hc3, hc4, -⟩ := hva.sl.slice_form
        unfold maxLen at hc2 hc4
        clear hvl
        go_wp2
        go_loopw [12, 16, 58] (fun lf gn i wr => ∃ k : Nat, k ≤ n.length ∧ i = .int .i64 k ∧ UseInv (fun x => x.p == 1) w w3 w2.heap.size m n k lf gn wr) (fun _ _ i _ => n.length - (intOf i).toNat)
        case atStart => exact ⟨0, Nat.zero_le _, rfl, hI0⟩
        case round =>
          obtain ⟨k, hk, rfl, hI⟩ := hrel
          by_cases hlt : k < n.length
          · obtain ⟨y, hy⟩ : ∃ y, n[k]? = some y := ⟨n[k], by simp [hlt]⟩
            have hA := hI.above hva
            obtain ⟨b, off, rfl, hb, d0, d1, d2⟩ := hA.cell hy
            have hY := Lib.hid hy
            clear hy
            have hI' := Lib.hid hI
            have hA' := Lib.hid hA
            clear hI hA
            have hE : Ext wr ((wr.alloc (.cells #[.int .u8 y.p, .int .i64 y.t, .int .i64 y.c] 23)).alloc (.cells #[.int .u8 y.p, .int .i64 y.t, .int .i64 y.c] 23)) := ((Ext.refl wr).alloc _).alloc _
            have hx : Sl ((wr.alloc (.cells #[.int .u8 y.p, .int .i64 y.t, .int .i64 y.c] 23)).alloc (.cells #[.int .u8 y.p, .int .i64 y.t, .int .i64 y.c] 23)) 3 (.slice (some ⟨wr.heap.size + 1, 0, none⟩) 1 1) 1 y.row := by
              have := (Own.lit (B := 0) (e := 23) (k := 3) (wr.alloc (.cells #[.int .u8 y.p, .int .i64 y.t, .int .i64 y.c] 23)) #[.int .u8 y.p, .int .i64 y.t, .int .i64 y.c] 1 (Nat.zero_le _) (by simp [maxLen]) rfl).sl
              rw [show (wr.alloc (.cells #[.int .u8 y.p, .int .i64 y.t, .int .i64 y.c] 23)).heap.size = wr.heap.size + 1 by simp] at this
              exact this
            have hl1 : (m ++ (n.take k).filter (fun x => !(x.p == 1))).length ≤ 1200 := by
              have := List.length_filter_le (fun x : Item => !(x.p == 1)) (n.take k)
              rw [List.length_append]; rw [List.length_take] at this; omega
            have hl2 : ((n.take k).filter (fun x => x.p == 1)).length ≤ 600 := by
              have := List.length_filter_le (fun x : Item => x.p == 1) (n.take k)
              rw [List.length_take] at this; omega
            have hEs := Lib.hid (hI'.out.2.2.1.trans hE).size
            have hE := Lib.hid hE; have hx := Lib.hid hx; have hl1 := Lib.hid hl1; have hl2 := Lib.hid hl2
            cases hp : y.p == 1
            · go_wp2_with (at_builtin; refine Hid.out ?_)
              refine Hid.mk ?_
              refine wpList_append_any rfl _ _ 31 31 rfl rfl rfl Tryd.underlying31 Tryd.underlying31 hty.out hz.out hi3.out hz3.out (hI'.out.1.1.ext hE.out) hx.out (by simp [Item.row, Value.oneCell']) (Nat.le_trans (Nat.add_le_add_right hl1.out 1) (by simp [maxLen])) (by rw [hby.out]; exact Nat.le_trans (Nat.mul_le_mul_right 24 (Nat.add_le_add_right hl1.out 1)) (by decide)) hEs.out ?_
              intro v' w' hO' hK' hb' _
              have hN := Lib.hid (hI'.out.left hY.out hp hE.out hO' hK' hb')
              clear hO' hK' hb'
              go_wp2
              go_roundw
              case rel => exact ⟨k + 1, by omega, by go_num, hN.out⟩
              case measure => simp [intOf]; omega
            · go_wp2_with (at_builtin; refine Hid.out ?_)
              refine Hid.mk ?_
              refine wpList_append_any rfl _ _ 30 30 rfl rfl rfl Tryd.underlying30 Tryd.underlying30 hty.out hz.out hi3.out hz3.out (hI'.out.1.2.ext hE.out) hx.out (by simp [Item.row, Value.oneCell']) (Nat.le_trans (Nat.add_le_add_right hl2.out 1) (by simp [maxLen])) (by rw [hby.out]; exact Nat.le_trans (Nat.mul_le_mul_right 24 (Nat.add_le_add_right hl2.out 1)) (by decide)) hEs.out ?_
              intro v' w' hO' hK' hb' _
              have hN := Lib.hid (hI'.out.gone hY.out hp hE.out hO' hK' hb')
              clear hO' hK' hb'
              go_wp2
              go_roundw
              case rel => exact ⟨k + 1, by omega, by go_num, hN.out⟩
              case measure => simp [intOf]; omega
          · have hkl : k = n.length := by omega
            subst hkl
            obtain ⟨⟨h1, h2⟩, ⟨-, -, h5⟩, hE, _⟩ := hI
            rw [List.take_length] at h1 h2
            have h1 := Lib.hid h1; have h2 := Lib.hid h2; have h5o := Lib.hid h5; clear h5
            go_wp2
            refine bodyPost_ret (results_tmp4 rfl _ _ _) rfl ?_
            rw [e1.out.1, e1.out.2.1, e1.out.2.2.1, e1.out.2.2.2, hlf.out, hgn.out]
            exact ⟨_, _, rfl, h1.out, h2.out, h5o.out, hE⟩
      · have hgn : Hid (useGone l i true = n) := Hid.mk (by simp [useGone, hn.out])
        cases hp : x.p == 2
        rotate_left
        · have hlf : Hid (useLeft l i true = m.set i ⟨1, x.t, x.c⟩) := Hid.mk (by simp [useLeft, hm.out, actAt, hmx.out]; intro e; exact absurd (by simpa using hp) e)
          go_enter Tryd.func67, Tryd.ntmps67
          go_wp2_with fail
          refine (items_Find tag _ hL).mono ?_
          rintro e w1 ⟨rfl, hE1⟩
          rw [hi.out, he.out]
          replace hL := hL.ext hE1
          go_wp2_with fail
          refine (items_Below (i : Int) hL).mono ?_
          rintro e w2 ⟨vl, rfl, hvl, hE2⟩
          rw [hb.out] at hvl
          rw [hae.out]
          replace hL := hL.ext hE2
          go_wp2_with fail
          refine (items_Above (i : Int) hL).mono ?_
          rintro e w3 ⟨va, rfl, hva, hE3⟩
          rw [ha.out] at hva
          rw [hae.out]
          have hF2 := hE1.trans hE2
          have hF3 := hF2.trans hE3
          have hvl3 := hvl.ext hE3
          obtain ⟨g1, c1, rfl, hc1, hc2, -⟩ := hvl3.form (by omega)
          obtain ⟨a2, cp2, rfl, hc3, hc4, -⟩ := hva.sl.slice_form
          obtain ⟨b, off, hb', hb, d0, -, -⟩ := Its.cell (l := m) hvl3.sl hmx.out
          cases hb'
          rw [Nat.zero_add] at d0
          have hfr := hvl3.frozen (i * 3)
          have hS := Lib.hid (hvl3.set (i * 3) (.int .u8 1))
          have hK := Lib.hid (hvl3.setKeeps (B' := w.heap.size) hE1.size (i * 3) (.int .u8 1))
          have hne : Hid (g1 < w2.heap.size) := Hid.mk (hvl.lt rfl).2
          clear hvl hvl3
          go_wp2
          refine bodyPost_ret (results_tmp4 rfl _ _ _) rfl ?_
          rw [e1.out.1, e1.out.2.1, e1.out.2.2.1, e1.out.2.2.2, hlf.out, hgn.out]
          refine ⟨_, _, rfl, ?_, (hva.keeps hK.out (fun g hg e => ?_)).mono hF2.size, (fun g e1 e2 => ?_), Below.trans hF3 hK.out.below⟩
          · have := hS.out
            rw [rows_setp 1 m i x hmx.out] at this
            rw [List.length_set]
            exact this.mono hE1.size
          · have := (hva.lt hg).1
            have := hne.out
            have e' : g1 = g := by simpa [Value.ownBlock] using e
            omega
          · have := (hva.lt e2).1
            have := hne.out
            have e' : g1 = g := by simpa [Value.ownBlock] using e1
            omega
        · have hlf : Hid (useLeft l i true = m) := Hid.mk (by simp [useLeft, hm.out, actAt, hmx.out]; intro e; simp [e] at hp)
          go_enter Tryd.func67, Tryd.ntmps67
          go_wp2_with fail
          refine (items_Find tag _ hL).mono ?_
          rintro e w1 ⟨rfl, hE1⟩
          rw [hi.out, he.out]
          replace hL := hL.ext hE1
          go_wp2_with fail
          refine (items_Below (i : Int) hL).mono ?_
          rintro e w2 ⟨vl, rfl, hvl, hE2⟩
          rw [hb.out] at hvl
          rw [hae.out]
          replace hL := hL.ext hE2
          go_wp2_with fail
          refine (items_Above (i : Int) hL).mono ?_
          rintro e w3 ⟨va, rfl, hva, hE3⟩
          rw [ha.out] at hva
          rw [hae.out]
          have hF2 := hE1.trans hE2
          have hF3 := hF2.trans hE3
          have hvl3 := hvl.ext hE3
          have hvL : Its w3 vl m := hvl3.sl
          obtain ⟨g1, c1, rfl, hc1, hc2, -⟩ := hvl3.form (by omega)
          obtain ⟨a2, cp2, rfl, hc3, hc4, -⟩ := hva.sl.slice_form
          obtain ⟨b, off, hb', hb, d0, -, -⟩ := Its.cell hvL hmx.out
          cases hb'
          rw [Nat.zero_add] at d0
          have hne : Hid (g1 < w2.heap.size) := Hid.mk (hvl.lt rfl).2
          have hvl3 := Lib.hid hvl3
          clear hvl
          go_wp2
          refine bodyPost_ret (results_tmp4 rfl _ _ _) rfl ?_
          rw [e1.out.1, e1.out.2.1, e1.out.2.2.1, e1.out.2.2.2, hlf.out, hgn.out]
          refine ⟨_, _, rfl, hvl3.out.mono hE1.size, hva.mono hF2.size, (fun g e1 e2 => ?_), hF3⟩
          have := (hva.lt e2).1
          have := hne.out
          have e' : g1 = g := by simpa [Value.ownBlock] using e1
          omega
theorem access_use {l : List Item} {v : Value} {w : World} (tag : Int) (write : Bool) (hl : Its w v l) :
    Calls Tryd.prog 67 #[v, .int .i64 tag, .bool write] w (RetU w (accL l tag write) (accG l tag write) (accW l tag write) (chk l)) := (access_useO tag write hl).mono fun _ _ h => h.weak

end Go.Proofs.YtkbocenpkdaogaaDoor
