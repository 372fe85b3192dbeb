/- Contracts: the reference's Used. (printed by gen/accc.py) -/
import Derived.Test.YtoobdejbcgkfdaaDoorAccA
import Derived.LoopIn
namespace Go.Proofs.YtoobdejbcgkfdaaDoor
set_option maxRecDepth 100000
open Go.RowKit

theorem filter_yes (n : List Item) : n.filter (fun _ => true) = n := List.filter_eq_self.2 (fun _ _ => rfl)
theorem filter_no (n : List Item) : n.filter (fun x => !((fun _ => true) x)) = [] := List.filter_eq_nil_iff.2 (by simp)

set_option maxHeartbeats 3200000 in
theorem ref29_UsedO {l : List Item} {v : Value} {w : World} (tag : Int) (write : Bool) (hl : Its w v l) (hl6 : l.length ≤ 600) :
    Calls Tryd.prog 104 #[v, .int .i64 tag, .bool write] w (RetUO3 w (usedL l tag write) (usedG l tag write) (usedW l tag write)) := by
  have hL := Lib.hid hl
  obtain ⟨a, cp, rfl, hlc, hcm, -⟩ := hl.form
  unfold maxLen at hcm
  clear hl
  cases hf : findAt l tag write with
  | none =>
    have e1 : Hid (usedL l tag write = [] ∧ usedG l tag write = [] ∧ usedW l tag write = 1) := Hid.mk (by simp [usedL, usedG, usedW, hf])
    have hf := Lib.hid hf
    go_enter Tryd.func104, Tryd.ntmps104
    go_wp2_with fail
    refine (ref28_At tag write hL.out).mono ?_
    rintro e w1 ⟨rfl, rfl⟩
    rw [hf.out, show idxOf none = -1 from rfl]
    go_wp2
    go_ret3
    rw [e1.out.1, e1.out.2.1, e1.out.2.2]
    exact ⟨_, _, rfl, Own.nil _ _ _ _, Own.nil _ _ _ _, (fun g h => by cases h), Ext.refl _⟩
  | some i =>
    obtain ⟨x, hx, -, -⟩ := findAt_is hf
    have hil : i < l.length := (List.getElem?_eq_some_iff.1 hx).1
    have e1 : Hid (usedL l tag write = useLeft l i write ∧ usedG l tag write = useGone l i write ∧ usedW l tag write = 0) := Hid.mk (by simp [usedL, usedG, usedW, hf])
    obtain ⟨m, hm⟩ : ∃ m, l.take (i + 1) = m := ⟨_, rfl⟩
    obtain ⟨n, hn⟩ : ∃ n, l.drop (i + 1) = n := ⟨_, rfl⟩
    have him : i < m.length := by rw [← hm]; simp; omega
    have hm6 : m.length ≤ 600 := by rw [← hm]; simp; omega
    have hnl : Hid (i + 1 + n.length = l.length) := Hid.mk (by rw [← hn]; simp; omega)
    have hn6 : n.length ≤ 600 := by rw [← hn]; simp; omega
    have hmx : Hid (m[i]? = some x) := Hid.mk (by rw [← hm]; exact take_get hx)
    have hm' := Lib.hid hm; have hn' := Lib.hid hn; have hf' := Lib.hid hf
    have hml : Hid ((l.take (i + 1)).length = m.length) := Hid.mk (by rw [hm])
    clear hm hn hf hx
    have hm := hm'; have hn := hn'; have hf := hf'
    clear hm' hn' hf'
    have d0 : decide ((i : Int) < 0) = false := decide_eq_false (by omega)
    have hs1 := slice_upto_Stack a l cp ((i : Int) + 1) (i + 1) (by simp) (by omega)
    obtain ⟨ty, zz, hty', hz', hi3', hz3', hby'⟩ := Item.infoE
    have hty := Lib.hid hty'; have hz := Lib.hid hz'; have hi3 := Lib.hid hi3'; have hz3 := Lib.hid hz3'; have hby := Lib.hid hby'
    clear hty' hz' hi3' hz3' hby'
    cases write
    · have hlf : Hid (useLeft l i false = m ++ n.filter (fun x => !(x.p == 1))) := Hid.mk (by simp only [useLeft, hm.out, hn.out]; rfl)
      have hgn : Hid (useGone l i false = n.filter (fun x => x.p == 1)) := Hid.mk (by simp [useGone, hn.out])
      go_enter Tryd.func104, Tryd.ntmps104
      go_wp2_with fail
      refine (ref28_At tag _ hL.out).mono ?_
      rintro e w1 ⟨rfl, rfl⟩
      rw [hf.out, show idxOf (some i) = (i : Int) from rfl]
      go_wp2_with fail
      refine (ref28_Twin (l := l.take (i + 1)) (hL.out.take (i + 1) (by omega)) (by simp; omega)).mono ?_
      rintro e w1 ⟨vl, rfl, hvl, hE1⟩
      rw [hm.out] at hvl
      obtain ⟨g1, c1, rfl, hc1, hc2, -⟩ := hvl.form (by omega)
      obtain ⟨b, off, hb', hb, d0, -, -⟩ := Its.cell (l := m) hvl.sl hmx.out
      cases hb'
      rw [Nat.zero_add] at d0
      have hg1 : Hid (g1 < w1.heap.size) := Hid.mk (hvl.lt rfl).2
      have hI0 : Hid (UseInv (fun x => x.p == 1) w w1 w1.heap.size m n 0 _ (.slice none 0 0) w1) := Hid.mk (UseInv.start hE1 hvl (fun g hg => (hvl.lt hg).2))
      clear hvl
      go_wp2
      go_loopw [10, 11, 12] (fun lf gn iv wr => ∃ j k : Nat, j = i + 1 + k ∧ k ≤ n.length ∧ iv = .int .i64 j ∧ UseInv (fun x => x.p == 1) w w1 w1.heap.size m n k lf gn wr) (fun _ _ iv _ => l.length - (intOf iv).toNat)
      case atStart => exact ⟨i + 1, 0, rfl, Nat.zero_le _, by go_num, hI0.out⟩
      case round =>
        obtain ⟨j, k, hj, hk, rfl, hI⟩ := hrel
        by_cases hlt : k < n.length
        · obtain ⟨y, hy⟩ : ∃ y, n[k]? = some y := ⟨n[k], by simp [hlt]⟩
          have hly : l[j]? = some y := by rw [← hn.out, List.getElem?_drop] at hy; rw [hj]; exact hy
          obtain ⟨b, off, rfl, hb, d0, d1, d2⟩ := (hL.out.ext hI.2.2.1).cell hly
          have hY := Lib.hid hy
          have hI' := Lib.hid hI
          have hjl : j < l.length := by have := hnl.out; omega
          have hj' := Lib.hid hj
          clear hj
          clear hy hI hly
          have hE : Ext wr (wr.alloc (.cells #[.int .u8 y.p, .int .i64 y.t, .int .i64 y.c] 23)) := (Ext.refl wr).alloc _
          have hx : Sl (wr.alloc (.cells #[.int .u8 y.p, .int .i64 y.t, .int .i64 y.c] 23)) 3 (.slice (some ⟨wr.heap.size, 0, none⟩) 1 1) 1 y.row := (Own.lit (B := 0) (e := 23) (k := 3) wr #[.int .u8 y.p, .int .i64 y.t, .int .i64 y.c] 1 (Nat.zero_le _) (by simp [maxLen]) rfl).sl
          have hl1 : (m ++ (n.take k).filter (fun x => !(((fun x => x.p == 1) : Item → Bool) x))).length ≤ 1200 := by
            have := List.length_filter_le (fun x => !(((fun x => x.p == 1) : Item → Bool) x)) (n.take k)
            have hm6' : (m).length ≤ 600 := by simpa using hm6
            rw [List.length_append]; rw [List.length_take] at this; omega
          have hl2 : ((n.take k).filter (fun x => x.p == 1)).length ≤ 600 := by
            have := List.length_filter_le (fun x => x.p == 1) (n.take k)
            rw [List.length_take] at this; omega
          have hEs := Lib.hid (hI'.out.2.2.1.trans hE).size
          have hE := Lib.hid hE; have hx := Lib.hid hx; have hl1 := Lib.hid hl1; have hl2 := Lib.hid hl2
          cases hp : y.p == 1
          · skip
            go_wp2_with (at_builtin; refine Hid.out ?_)
            refine Hid.mk ?_
            refine wpList_append_any rfl _ _ 31 31 rfl rfl rfl Tryd.underlying31 Tryd.underlying31 hty.out hz.out hi3.out hz3.out (hI'.out.1.1.ext hE.out) hx.out (by simp [Item.row, Value.oneCell']) (Nat.le_trans (Nat.add_le_add_right hl1.out 1) (by simp [maxLen])) (by rw [hby.out]; exact Nat.le_trans (Nat.mul_le_mul_right 24 (Nat.add_le_add_right hl1.out 1)) (by decide)) hEs.out ?_
            intro v' w' hO' hK' hb' _
            have hN := Lib.hid (hI'.out.left hY.out hp hE.out hO' hK' hb')
            clear hO' hK' hb'
            go_wp2
            go_roundw
            case rel => exact ⟨j + 1, k + 1, by have := hj'.out; omega, by omega, by go_num, hN.out⟩
            case measure => simp [intOf]; omega
          · skip
            go_wp2_with (at_builtin; refine Hid.out ?_)
            refine Hid.mk ?_
            refine wpList_append_any rfl _ _ 30 30 rfl rfl rfl Tryd.underlying30 Tryd.underlying30 hty.out hz.out hi3.out hz3.out (hI'.out.1.2.ext hE.out) hx.out (by simp [Item.row, Value.oneCell']) (Nat.le_trans (Nat.add_le_add_right hl2.out 1) (by simp [maxLen])) (by rw [hby.out]; exact Nat.le_trans (Nat.mul_le_mul_right 24 (Nat.add_le_add_right hl2.out 1)) (by decide)) hEs.out ?_
            intro v' w' hO' hK' hb' _
            have hN := Lib.hid (hI'.out.gone hY.out hp hE.out hO' hK' hb')
            clear hO' hK' hb'
            go_wp2
            go_roundw
            case rel => exact ⟨j + 1, k + 1, by have := hj'.out; omega, by omega, by go_num, hN.out⟩
            case measure => simp [intOf]; omega
        · have hkl : k = n.length := by omega
          subst hkl
          have hjl : j = l.length := by have := hnl.out; omega
          clear hj
          subst hjl
          obtain ⟨⟨h1, h2⟩, ⟨-, -, h5⟩, hE, _⟩ := hI
          rw [List.take_length] at h1 h2
          have h1 := Lib.hid h1; have h2 := Lib.hid h2; have h5o := Lib.hid h5; clear h5
          go_wp2
          go_ret3
          rw [e1.out.1, e1.out.2.1, e1.out.2.2, hlf.out, hgn.out]
          exact ⟨_, _, rfl, h1.out, h2.out, h5o.out, hE⟩
    · have hgn : Hid (useGone l i true = n.filter (fun _ => true)) := Hid.mk (by rw [filter_yes]; simp [useGone, hn.out])
      cases hp : x.p == 2
      · have hlf : Hid (useLeft l i true = m ++ n.filter (fun x => !((fun _ => true) x))) := Hid.mk (by rw [filter_no, List.append_nil]; simp [useLeft, hm.out, actAt, hmx.out]; intro e; simp [e] at hp)
        go_enter Tryd.func104, Tryd.ntmps104
        go_wp2_with fail
        refine (ref28_At tag _ hL.out).mono ?_
        rintro e w1 ⟨rfl, rfl⟩
        rw [hf.out, show idxOf (some i) = (i : Int) from rfl]
        go_wp2_with fail
        refine (ref28_Twin (l := l.take (i + 1)) (hL.out.take (i + 1) (by omega)) (by simp; omega)).mono ?_
        rintro e w1 ⟨vl, rfl, hvl, hE1⟩
        rw [hm.out] at hvl
        obtain ⟨g1, c1, rfl, hc1, hc2, -⟩ := hvl.form (by omega)
        obtain ⟨b, off, hb', hb, d0, -, -⟩ := Its.cell (l := m) hvl.sl hmx.out
        cases hb'
        rw [Nat.zero_add] at d0
        have hg1 : Hid (g1 < w1.heap.size) := Hid.mk (hvl.lt rfl).2
        have hI0 : Hid (UseInv (fun _ => true) w w1 w1.heap.size m n 0 _ (.slice none 0 0) w1) := Hid.mk (UseInv.start hE1 hvl (fun g hg => (hvl.lt hg).2))
        clear hvl
        go_wp2
        go_loopw [10, 11, 12] (fun lf gn iv wr => ∃ j k : Nat, j = i + 1 + k ∧ k ≤ n.length ∧ iv = .int .i64 j ∧ UseInv (fun _ => true) w w1 w1.heap.size m n k lf gn wr) (fun _ _ iv _ => l.length - (intOf iv).toNat)
        case atStart => exact ⟨i + 1, 0, rfl, Nat.zero_le _, by go_num, hI0.out⟩
        case round =>
          obtain ⟨j, k, hj, hk, rfl, hI⟩ := hrel
          by_cases hlt : k < n.length
          · obtain ⟨y, hy⟩ : ∃ y, n[k]? = some y := ⟨n[k], by simp [hlt]⟩
            have hly : l[j]? = some y := by rw [← hn.out, List.getElem?_drop] at hy; rw [hj]; exact hy
            obtain ⟨b, off, rfl, hb, d0, d1, d2⟩ := (hL.out.ext hI.2.2.1).cell hly
            have hY := Lib.hid hy
            have hI' := Lib.hid hI
            have hjl : j < l.length := by have := hnl.out; omega
            have hj' := Lib.hid hj
            clear hj
            clear hy hI hly
            have hE : Ext wr (wr.alloc (.cells #[.int .u8 y.p, .int .i64 y.t, .int .i64 y.c] 23)) := (Ext.refl wr).alloc _
            have hx : Sl (wr.alloc (.cells #[.int .u8 y.p, .int .i64 y.t, .int .i64 y.c] 23)) 3 (.slice (some ⟨wr.heap.size, 0, none⟩) 1 1) 1 y.row := (Own.lit (B := 0) (e := 23) (k := 3) wr #[.int .u8 y.p, .int .i64 y.t, .int .i64 y.c] 1 (Nat.zero_le _) (by simp [maxLen]) rfl).sl
            have hl1 : (m ++ (n.take k).filter (fun x => !(((fun _ => true) : Item → Bool) x))).length ≤ 1200 := by
              have := List.length_filter_le (fun x => !(((fun _ => true) : Item → Bool) x)) (n.take k)
              have hm6' : (m).length ≤ 600 := by simpa using hm6
              rw [List.length_append]; rw [List.length_take] at this; omega
            have hl2 : ((n.take k).filter (fun _ => true)).length ≤ 600 := by
              have := List.length_filter_le (fun _ => true) (n.take k)
              rw [List.length_take] at this; omega
            have hEs := Lib.hid (hI'.out.2.2.1.trans hE).size
            have hE := Lib.hid hE; have hx := Lib.hid hx; have hl1 := Lib.hid hl1; have hl2 := Lib.hid hl2
            go_wp2_with (at_builtin; refine Hid.out ?_)
            refine Hid.mk ?_
            refine wpList_append_any rfl _ _ 30 30 rfl rfl rfl Tryd.underlying30 Tryd.underlying30 hty.out hz.out hi3.out hz3.out (hI'.out.1.2.ext hE.out) hx.out (by simp [Item.row, Value.oneCell']) (Nat.le_trans (Nat.add_le_add_right hl2.out 1) (by simp [maxLen])) (by rw [hby.out]; exact Nat.le_trans (Nat.mul_le_mul_right 24 (Nat.add_le_add_right hl2.out 1)) (by decide)) hEs.out ?_
            intro v' w' hO' hK' hb' _
            have hN := Lib.hid (hI'.out.gone hY.out rfl hE.out hO' hK' hb')
            clear hO' hK' hb'
            go_wp2
            go_roundw
            case rel => exact ⟨j + 1, k + 1, by have := hj'.out; omega, by omega, by go_num, hN.out⟩
            case measure => simp [intOf]; omega
          · have hkl : k = n.length := by omega
            subst hkl
            have hjl : j = l.length := by have := hnl.out; omega
            clear hj
            subst hjl
            obtain ⟨⟨h1, h2⟩, ⟨-, -, h5⟩, hE, _⟩ := hI
            rw [List.take_length] at h1 h2
            have h1 := Lib.hid h1; have h2 := Lib.hid h2; have h5o := Lib.hid h5; clear h5
            go_wp2
            go_ret3
            rw [e1.out.1, e1.out.2.1, e1.out.2.2, hlf.out, hgn.out]
            exact ⟨_, _, rfl, h1.out, h2.out, h5o.out, hE⟩
      · have hlf : Hid (useLeft l i true = (m.set i ⟨1, x.t, x.c⟩) ++ n.filter (fun x => !((fun _ => true) x))) := Hid.mk (by rw [filter_no, List.append_nil]; simp [useLeft, hm.out, actAt, hmx.out]; intro e; exact absurd (by simpa using hp) e)
        go_enter Tryd.func104, Tryd.ntmps104
        go_wp2_with fail
        refine (ref28_At tag _ hL.out).mono ?_
        rintro e w1 ⟨rfl, rfl⟩
        rw [hf.out, show idxOf (some i) = (i : Int) from rfl]
        go_wp2_with fail
        refine (ref28_Twin (l := l.take (i + 1)) (hL.out.take (i + 1) (by omega)) (by simp; omega)).mono ?_
        rintro e w1 ⟨vl, rfl, hvl, hE1⟩
        rw [hm.out] at hvl
        obtain ⟨g1, c1, rfl, hc1, hc2, -⟩ := hvl.form (by omega)
        obtain ⟨b, off, hb', hb, d0, -, -⟩ := Its.cell (l := m) hvl.sl hmx.out
        cases hb'
        rw [Nat.zero_add] at d0
        have hg1 : Hid (g1 < w1.heap.size) := Hid.mk (hvl.lt rfl).2
        have hfr := hvl.frozen (i * 3)
        have hS := hvl.set (i * 3) (.int .u8 1)
        rw [rows_setp 1 m i x hmx.out] at hS
        have hK := hvl.setKeeps (B' := w.heap.size) (Nat.le_refl _) (i * 3) (.int .u8 1)
        have hS' : Own (w1.setCell ⟨g1, i * 3, none⟩ (.int .u8 1)) w.heap.size 23 3 (.slice (some ⟨g1, 0, none⟩) m.length c1) (m.set i ⟨1, x.t, x.c⟩).length ((m.set i ⟨1, x.t, x.c⟩).flatMap Item.row) := by rw [List.length_set]; exact hS
        obtain ⟨wz, hwz⟩ : ∃ wz, w1.setCell ⟨g1, i * 3, none⟩ (.int .u8 1) = wz := ⟨_, rfl⟩
        rw [hwz] at hS' hK
        have hI0 : Hid (UseInv (fun _ => true) w wz wz.heap.size (m.set i ⟨1, x.t, x.c⟩) n 0 (.slice (some ⟨g1, 0, none⟩) m.length c1) (.slice none 0 0) wz) := Hid.mk (UseInv.start (Below.trans hE1 hK.below) hS' (fun g hg => (hS'.lt hg).2))
        clear hvl hS hS' hK
        go_wp2
        go_loopw [10, 11, 12] (fun lf gn iv wr => ∃ j k : Nat, j = i + 1 + k ∧ k ≤ n.length ∧ iv = .int .i64 j ∧ UseInv (fun _ => true) w wz wz.heap.size (m.set i ⟨1, x.t, x.c⟩) n k lf gn wr) (fun _ _ iv _ => l.length - (intOf iv).toNat)
        case atStart => exact ⟨i + 1, 0, rfl, Nat.zero_le _, by go_num, hI0.out⟩
        case round =>
          obtain ⟨j, k, hj, hk, rfl, hI⟩ := hrel
          by_cases hlt : k < n.length
          · obtain ⟨y, hy⟩ : ∃ y, n[k]? = some y := ⟨n[k], by simp [hlt]⟩
            have hly : l[j]? = some y := by rw [← hn.out, List.getElem?_drop] at hy; rw [hj]; exact hy
            obtain ⟨b, off, rfl, hb, d0, d1, d2⟩ := (hL.out.ext hI.2.2.1).cell hly
            have hY := Lib.hid hy
            have hI' := Lib.hid hI
            have hjl : j < l.length := by have := hnl.out; omega
            have hj' := Lib.hid hj
            clear hj
            clear hy hI hly
            have hE : Ext wr (wr.alloc (.cells #[.int .u8 y.p, .int .i64 y.t, .int .i64 y.c] 23)) := (Ext.refl wr).alloc _
            have hx : Sl (wr.alloc (.cells #[.int .u8 y.p, .int .i64 y.t, .int .i64 y.c] 23)) 3 (.slice (some ⟨wr.heap.size, 0, none⟩) 1 1) 1 y.row := (Own.lit (B := 0) (e := 23) (k := 3) wr #[.int .u8 y.p, .int .i64 y.t, .int .i64 y.c] 1 (Nat.zero_le _) (by simp [maxLen]) rfl).sl
            have hl1 : ((m.set i ⟨1, x.t, x.c⟩) ++ (n.take k).filter (fun x => !(((fun _ => true) : Item → Bool) x))).length ≤ 1200 := by
              have := List.length_filter_le (fun x => !(((fun _ => true) : Item → Bool) x)) (n.take k)
              have hm6' : ((m.set i ⟨1, x.t, x.c⟩)).length ≤ 600 := by simpa using hm6
              rw [List.length_append]; rw [List.length_take] at this; omega
            have hl2 : ((n.take k).filter (fun _ => true)).length ≤ 600 := by
              have := List.length_filter_le (fun _ => true) (n.take k)
              rw [List.length_take] at this; omega
            have hEs := Lib.hid (hI'.out.2.2.1.trans hE).size
            have hE := Lib.hid hE; have hx := Lib.hid hx; have hl1 := Lib.hid hl1; have hl2 := Lib.hid hl2
            go_wp2_with (at_builtin; refine Hid.out ?_)
            refine Hid.mk ?_
            refine wpList_append_any rfl _ _ 30 30 rfl rfl rfl Tryd.underlying30 Tryd.underlying30 hty.out hz.out hi3.out hz3.out (hI'.out.1.2.ext hE.out) hx.out (by simp [Item.row, Value.oneCell']) (Nat.le_trans (Nat.add_le_add_right hl2.out 1) (by simp [maxLen])) (by rw [hby.out]; exact Nat.le_trans (Nat.mul_le_mul_right 24 (Nat.add_le_add_right hl2.out 1)) (by decide)) hEs.out ?_
            intro v' w' hO' hK' hb' _
            have hN := Lib.hid (hI'.out.gone hY.out rfl hE.out hO' hK' hb')
            clear hO' hK' hb'
            go_wp2
            go_roundw
            case rel => exact ⟨j + 1, k + 1, by have := hj'.out; omega, by omega, by go_num, hN.out⟩
            case measure => simp [intOf]; omega
          · have hkl : k = n.length := by omega
            subst hkl
            have hjl : j = l.length := by have := hnl.out; omega
            clear hj
            subst hjl
            obtain ⟨⟨h1, h2⟩, ⟨-, -, h5⟩, hE, _⟩ := hI
            rw [List.take_length] at h1 h2
            have h1 := Lib.hid h1; have h2 := Lib.hid h2; have h5o := Lib.hid h5; clear h5
            go_wp2
            go_ret3
            rw [e1.out.1, e1.out.2.1, e1.out.2.2, hlf.out, hgn.out]
            exact ⟨_, _, rfl, h1.out, h2.out, h5o.out, hE⟩

theorem ref29_Used {l : List Item} {v : Value} {w : World} (tag : Int) (write : Bool) (hl : Its w v l) (hl6 : l.length ≤ 600) :
    Calls Tryd.prog 104 #[v, .int .i64 tag, .bool write] w (RetU3 w (usedL l tag write) (usedG l tag write) (usedW l tag write)) := (ref29_UsedO tag write hl hl6).mono fun _ _ h => h.weak

end Go.Proofs.YtoobdejbcgkfdaaDoor
