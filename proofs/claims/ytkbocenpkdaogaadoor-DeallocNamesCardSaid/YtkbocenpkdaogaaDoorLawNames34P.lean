/- The statement DeallocNames: the call returns true. Condition: the laid permissions. (printed by gen/names34.py) -/
import Derived.Test.YtkbocenpkdaogaaDoorQ08
import Derived.Deep.DeepCutAuto
namespace Go.Proofs.YtkbocenpkdaogaaDoor
set_option maxRecDepth 100000
open Go.ChangeShapes Go.WideShapes Go.ChangeAt Go.RowKit

set_option maxRecDepth 100000 in
set_option maxHeartbeats 25600000 in
theorem deallocNames_walk {w : World} (hp : Perms w) : Calls Tryd.prog 7 #[] w fun e w' => e = .returned (.bool true) ∧ Ext w w' := by
  go_enter Tryd.func7, Tryd.ntmps7
  go_upto_region 2 with fail
  have bi1 := Box.new w 23 #[.int .u8 1, .int .i64 1, .int .i64 0, .int .u8 4, .int .i64 2, .int .i64 9]
  have hsz : Hid ((World.alloc w (.cells #[.int .u8 1, .int .i64 1, .int .i64 0, .int .u8 4, .int .i64 2, .int .i64 9] 23)).heap.size = w.heap.size + 1) := Hid.mk (by simp)
  have hx0 : Ext w (World.alloc w (.cells #[.int .u8 1, .int .i64 1, .int .i64 0, .int .u8 4, .int .i64 2, .int .i64 9] 23)) := (Ext.refl _).alloc _
  obtain ⟨w0b, hw0⟩ : ∃ x, World.alloc w (.cells #[.int .u8 1, .int .i64 1, .int .i64 0, .int .u8 4, .int .i64 2, .int .i64 9] 23) = x := ⟨_, rfl⟩
  rw [hw0] at hsz bi1 hx0 ⊢
  clear hw0
  replace hp := hp.ext hx0
  have hF0 := Ext.trans (Ext.refl w) hx0
  have hszp := hsz
  have bi2 := Box.new w0b 23 #[.int .u8 1, .int .i64 1, .int .i64 3, .int .u8 3, .int .i64 3, .int .i64 8, .int .u8 3, .int .i64 3, .int .i64 9]
  have hsz : Hid ((World.alloc w0b (.cells #[.int .u8 1, .int .i64 1, .int .i64 3, .int .u8 3, .int .i64 3, .int .i64 8, .int .u8 3, .int .i64 3, .int .i64 9] 23)).heap.size = w0b.heap.size + 1) := Hid.mk (by simp)
  have hx1 : Ext w0b (World.alloc w0b (.cells #[.int .u8 1, .int .i64 1, .int .i64 3, .int .u8 3, .int .i64 3, .int .i64 8, .int .u8 3, .int .i64 3, .int .i64 9] 23)) := (Ext.refl _).alloc _
  obtain ⟨w1b, hw1⟩ : ∃ x, World.alloc w0b (.cells #[.int .u8 1, .int .i64 1, .int .i64 3, .int .u8 3, .int .i64 3, .int .i64 8, .int .u8 3, .int .i64 3, .int .i64 9] 23) = x := ⟨_, rfl⟩
  rw [hw1] at hsz bi2 hx1 ⊢
  clear hw1
  replace hp := hp.ext hx1
  replace bi1 := bi1.ext hx1
  have hF1 := Ext.trans (hF0) hx1
  rw [hszp.out] at bi2 hsz
  clear hszp
  have hszp := hsz
  have btb := Box.new w1b 31 #[.slice (some ⟨w.heap.size, 0, none⟩) 2 2, .slice (some ⟨w.heap.size + 1, 0, none⟩) 3 3]
  have hsz : Hid ((World.alloc w1b (.cells #[.slice (some ⟨w.heap.size, 0, none⟩) 2 2, .slice (some ⟨w.heap.size + 1, 0, none⟩) 3 3] 31)).heap.size = w1b.heap.size + 1) := Hid.mk (by simp)
  have hx2 : Ext w1b (World.alloc w1b (.cells #[.slice (some ⟨w.heap.size, 0, none⟩) 2 2, .slice (some ⟨w.heap.size + 1, 0, none⟩) 3 3] 31)) := (Ext.refl _).alloc _
  obtain ⟨w2b, hw2⟩ : ∃ x, World.alloc w1b (.cells #[.slice (some ⟨w.heap.size, 0, none⟩) 2 2, .slice (some ⟨w.heap.size + 1, 0, none⟩) 3 3] 31) = x := ⟨_, rfl⟩
  rw [hw2] at hsz btb hx2 ⊢
  clear hw2
  replace hp := hp.ext hx2
  replace bi1 := bi1.ext hx2
  replace bi2 := bi2.ext hx2
  have hF2 := Ext.trans (hF1) hx2
  rw [hszp.out] at btb hsz
  clear hszp
  have hszp := hsz
  have bT := Box.new w2b 56 #[.int .i64 0, .slice (some ⟨w.heap.size + 1 + 1, 0, none⟩) 2 2]
  have hsz : Hid ((World.alloc w2b (.cells #[.int .i64 0, .slice (some ⟨w.heap.size + 1 + 1, 0, none⟩) 2 2] 56)).heap.size = w2b.heap.size + 1) := Hid.mk (by simp)
  have hx3 : Ext w2b (World.alloc w2b (.cells #[.int .i64 0, .slice (some ⟨w.heap.size + 1 + 1, 0, none⟩) 2 2] 56)) := (Ext.refl _).alloc _
  obtain ⟨w3b, hw3⟩ : ∃ x, World.alloc w2b (.cells #[.int .i64 0, .slice (some ⟨w.heap.size + 1 + 1, 0, none⟩) 2 2] 56) = x := ⟨_, rfl⟩
  rw [hw3] at hsz bT hx3 ⊢
  clear hw3
  replace hp := hp.ext hx3
  replace bi1 := bi1.ext hx3
  replace bi2 := bi2.ext hx3
  replace btb := btb.ext hx3
  have hF3 := Ext.trans (hF2) hx3
  rw [hszp.out] at bT hsz
  clear hszp
  have hTw : Sts w3b (.slice (some ⟨w.heap.size + 1 + 1, 0, none⟩) 2 2) one34 := Sts.of_box btb [_, _] ⟨Its.of_box bi1 rfl (by simp [maxLen]) rfl, Its.of_box bi2 rfl (by simp [maxLen]) rfl, trivial⟩ rfl (by simp [maxLen]) rfl
  have hmk : ∀ W : World, (Instr.makeSlice 59 (.int .i64 401) (.int .i64 401)).run Tryd.prog W = .ok (.slice (some ⟨W.heap.size, 0, none⟩) 401 401) (W.alloc (.cells (zstks 401) 56)) := make_Stks 401 (by decide)
  have hO := zstks_own 401 (by decide) w3b (B := w3b.heap.size) (Nat.le_refl _)
  go_wp2
  clear hmk
  obtain ⟨B, hB⟩ : ∃ n, Array.size (World.heap w3b) = n := ⟨_, rfl⟩
  rw [hB] at hO ⊢
  go_loopw [3] (fun iv wr => ∃ (k : Nat) (vs : List Value), k ≤ 401 ∧ iv = .int .i64 k ∧ vs.length = 401 ∧ Own wr B 56 2 (.slice (some ⟨B, 0, none⟩) 401 401) 401 (vs.flatMap nrow) ∧ Hid (∀ s ∈ vs.take k, Foot (B + 1) wr.heap.size wr (fun w' => Sts w' s base34)) ∧ Hid (∀ s ∈ vs, ∃ a n c, s = .slice a n c) ∧ Ext w3b wr) (fun iv _ => 401 - (intOf iv).toNat)
  case atStart => exact ⟨0, _, by omega, rfl, by simp, hO, Hid.mk (by simp), Hid.mk (fun s hs => ⟨_, _, _, (List.mem_replicate.1 hs).2⟩), (Ext.refl _).alloc _⟩
  case round =>
    obtain ⟨k, vs, hk, rfl, hvl, hW, hFt, hsl, hX⟩ := hrel
    by_cases hlt : k < 401
    · have hlt' : decide ((k : Int) < 401) = true := decide_eq_true (by omega)
      have hBl : B < wr.heap.size := (hW.lt (g := B) rfl).2
      have f0 := hW.frozen (k * 2)
      have f1 := hW.frozen (k * 2 + 1)
      obtain ⟨s0, hs0⟩ : ∃ s, vs[k]? = some s := ⟨vs[k]'(by omega), by simp⟩
      obtain ⟨sa, sn, sc, rfl⟩ := hsl.out s0 (List.mem_of_getElem? hs0)
      have c0 : World.cell? wr ⟨B, k * 2, none⟩ = some (.int .i64 0) := (hW.cellAt (k * 2) (by omega)).trans (rows_get nrow nrow_len vs k 0 _ hs0 (by omega))
      have c1 : World.cell? wr ⟨B, k * 2 + 1, none⟩ = some (.slice sa sn sc) := (hW.cellAt (k * 2 + 1) (by omega)).trans (rows_get nrow nrow_len vs k 1 _ hs0 (by omega))
      have hi0 : (0 : Int) ≤ (k : Int) := by omega
      have hi1 : (k : Int) < 401 := by omega
      replace hvl := Lib.hid hvl
      replace hs0 := Lib.hid hs0
      go_wp2
      go_roundw
      case rel =>
        have hvl' := hvl.out
        have hset := Own.set (Own.set hW (k * 2) (.int .i64 0)) (k * 2 + 1) (.slice (some ⟨wr.heap.size + 1, 0, none⟩) 1 1)
        rw [nrow_set vs k _ (by omega)] at hset
        have hsz : ((World.setCell wr ⟨B, k * 2, none⟩ (.int .i64 0)).setCell ⟨B, k * 2 + 1, none⟩ (.slice (some ⟨wr.heap.size + 1, 0, none⟩) 1 1)).heap.size = wr.heap.size := by simp
        have hEa : Ext ((World.setCell wr ⟨B, k * 2, none⟩ (.int .i64 0)).setCell ⟨B, k * 2 + 1, none⟩ (.slice (some ⟨wr.heap.size + 1, 0, none⟩) 1 1)) (World.alloc (World.alloc ((World.setCell wr ⟨B, k * 2, none⟩ (.int .i64 0)).setCell ⟨B, k * 2 + 1, none⟩ (.slice (some ⟨wr.heap.size + 1, 0, none⟩) 1 1)) (.cells #[.int .u8 1, .int .i64 1, .int .i64 0] 23)) (.cells #[.slice (some ⟨wr.heap.size, 0, none⟩) 1 1] 31)) := ((Ext.refl _).alloc _).alloc _
        have hft := base_foot ((World.setCell wr ⟨B, k * 2, none⟩ (.int .i64 0)).setCell ⟨B, k * 2 + 1, none⟩ (.slice (some ⟨wr.heap.size + 1, 0, none⟩) 1 1)) B (by rw [hsz]; exact hBl)
        rw [hsz] at hft
        refine ⟨k + 1, vs.set k (.slice (some ⟨wr.heap.size + 1, 0, none⟩) 1 1), by omega, by go_num, by simpa using hvl', hset.ext hEa, Hid.mk ?_, Hid.mk (fun s hs => by rcases List.mem_or_eq_of_mem_set hs with h | rfl; exact hsl.out s h; exact ⟨_, _, _, rfl⟩), Ext.alloc (Ext.alloc (Ext.setCell (Ext.setCell hX (by rw [hB]; exact Nat.le_refl _) _) (by rw [hB]; exact Nat.le_refl _) _) _) _⟩
        intro s hs
        obtain ⟨i, hi⟩ := List.mem_iff_getElem?.1 hs
        rw [List.getElem?_take] at hi
        split at hi
        · rename_i hik
          by_cases e : i = k
          · subst e
            rw [List.getElem?_set_self (by omega)] at hi
            cases hi
            exact hft
          · rw [List.getElem?_set_ne (fun e' => e e'.symm)] at hi
            have hm : s ∈ vs.take k := List.mem_iff_getElem?.2 ⟨i, by rw [List.getElem?_take, if_pos (by omega)]; exact hi⟩
            have h1 := Foot.set (Foot.set (hFt.out s hm) (p := ⟨B, k * 2, none⟩) (.inl (Nat.lt_succ_self B)) (.int .i64 0)) (p := ⟨B, k * 2 + 1, none⟩) (.inl (Nat.lt_succ_self B)) (.slice (some ⟨wr.heap.size + 1, 0, none⟩) 1 1)
            exact Foot.mono (Foot.ext h1 hEa (by rw [hsz]; exact Nat.le_refl _)) (Nat.le_refl _) (by have := hEa.size; rw [hsz] at this; exact this)
        · cases hi
      case measure => simp [intOf]; omega
    · have hke : k = 401 := by omega
      subst hke
      have hall : ∀ s ∈ vs, Sts wr s base34 := fun s hs => (hFt.out s (by rw [List.take_of_length_le (by omega)]; exact hs)).read
      have hK4 := kts_base hW.sl hvl hall
      have hK0 := kts_base_take (i := 400) hW.sl hvl hall (by decide)
      have hs4 := slice_upto_Stks (some ⟨B, 0, none⟩) 401 401 400 400 rfl (by decide)
      obtain ⟨r401, hr401⟩ : ∃ z : List Stk, List.replicate 401 ⟨0, base34⟩ = z := ⟨_, rfl⟩
      obtain ⟨r400, hr400⟩ : ∃ z : List Stk, List.replicate 400 ⟨0, base34⟩ = z := ⟨_, rfl⟩
      obtain ⟨v0, hv0⟩ : ∃ s, vs[0]? = some s := ⟨vs[0]'(by omega), by simp⟩
      have m0 : World.cell? wr ⟨B, 0, none⟩ = some (.int .i64 0) := (hW.cellAt 0 (by omega)).trans (rows_get nrow nrow_len vs 0 0 v0 hv0 (by omega))
      have m1 : World.cell? wr ⟨B, 1, none⟩ = some v0 := (hW.cellAt 1 (by omega)).trans (rows_get nrow nrow_len vs 0 1 v0 hv0 (by omega))
      have hS0 := hall v0 (List.mem_of_getElem? hv0)
      obtain ⟨va0, vc0, rfl, -⟩ := hS0.form
      have ef := Lib.hid dn_f; have eg := Lib.hid dn_g; have eh := Lib.hid dn_h
      rw [hr401] at hK4 ef eg
      rw [hr400] at hK0 eh
      clear hr401 hr400 hlt hk hall hv0 hFt hW hvl hsl
      replace hp := hp.ext hX
      replace bi1 := bi1.ext hX
      replace bi2 := bi2.ext hX
      replace btb := btb.ext hX
      replace bT := bT.ext hX
      replace hTw := hTw.ext hX
      have hF100 := Ext.trans (hF3) hX
      have bi1_0 : World.cell? wr ⟨w.heap.size, 0, none⟩ = some (.int .u8 1) := bi1.cell 0
      have bi1_1 : World.cell? wr ⟨w.heap.size, 1, none⟩ = some (.int .i64 1) := bi1.cell 1
      have bi1_2 : World.cell? wr ⟨w.heap.size, 2, none⟩ = some (.int .i64 0) := bi1.cell 2
      have bi1_3 : World.cell? wr ⟨w.heap.size, 3, none⟩ = some (.int .u8 4) := bi1.cell 3
      have bi1_4 : World.cell? wr ⟨w.heap.size, 4, none⟩ = some (.int .i64 2) := bi1.cell 4
      have bi1_5 : World.cell? wr ⟨w.heap.size, 5, none⟩ = some (.int .i64 9) := bi1.cell 5
      have bi1_l := bi1.lt
      have bi2_0 : World.cell? wr ⟨w.heap.size + 1, 0, none⟩ = some (.int .u8 1) := bi2.cell 0
      have bi2_1 : World.cell? wr ⟨w.heap.size + 1, 1, none⟩ = some (.int .i64 1) := bi2.cell 1
      have bi2_2 : World.cell? wr ⟨w.heap.size + 1, 2, none⟩ = some (.int .i64 3) := bi2.cell 2
      have bi2_3 : World.cell? wr ⟨w.heap.size + 1, 3, none⟩ = some (.int .u8 3) := bi2.cell 3
      have bi2_4 : World.cell? wr ⟨w.heap.size + 1, 4, none⟩ = some (.int .i64 3) := bi2.cell 4
      have bi2_5 : World.cell? wr ⟨w.heap.size + 1, 5, none⟩ = some (.int .i64 8) := bi2.cell 5
      have bi2_6 : World.cell? wr ⟨w.heap.size + 1, 6, none⟩ = some (.int .u8 3) := bi2.cell 6
      have bi2_7 : World.cell? wr ⟨w.heap.size + 1, 7, none⟩ = some (.int .i64 3) := bi2.cell 7
      have bi2_8 : World.cell? wr ⟨w.heap.size + 1, 8, none⟩ = some (.int .i64 9) := bi2.cell 8
      have bi2_l := bi2.lt
      have btb_0 : World.cell? wr ⟨w.heap.size + 1 + 1, 0, none⟩ = some (.slice (some ⟨w.heap.size, 0, none⟩) 2 2) := btb.cell 0
      have btb_1 : World.cell? wr ⟨w.heap.size + 1 + 1, 1, none⟩ = some (.slice (some ⟨w.heap.size + 1, 0, none⟩) 3 3) := btb.cell 1
      have btb_l := btb.lt
      have bT_0 : World.cell? wr ⟨w.heap.size + 1 + 1 + 1, 0, none⟩ = some (.int .i64 0) := bT.cell 0
      have bT_1 : World.cell? wr ⟨w.heap.size + 1 + 1 + 1, 1, none⟩ = some (.slice (some ⟨w.heap.size + 1 + 1, 0, none⟩) 2 2) := bT.cell 1
      have bT_l := bT.lt
      have m0_l := World.block_lt_of_cell? _ _ m0
      have m1_l := World.block_lt_of_cell? _ _ m1
      go_wp2_with fail
      try clear m0_l
      try clear m1_l
      clear bi1_0 bi1_1 bi1_2 bi1_3 bi1_4 bi1_5 bi1_l
      clear bi2_0 bi2_1 bi2_2 bi2_3 bi2_4 bi2_5 bi2_6 bi2_7 bi2_8 bi2_l
      clear btb_0 btb_1 btb_l
      clear bT_0 bT_1 bT_l
      refine (dealloc_End (run := [0]) (Sts.nil _) (by (repeat (first | exact Nts.nil _ | exact Nts.litl _ _ _ _ _ (by first | (simp; done) | exact hsz.out | (have := hsz.out; simp; omega)) rfl (by simp [maxLen]) rfl | refine Nts.ext ?_ (Ext.refl _).drew | refine Nts.ext ?_ ((Ext.refl _).alloc _) | refine Nts.ext ?_ (by assumption))))).mono ?_
      rintro e w102 ⟨rfl, hZ101⟩
      have hE101 : Ext wr w102 := Ext.trans (by repeat (first | exact Ext.refl _ | apply Ext.alloc | apply Ext.drew)) hZ101
      replace hp := hp.ext hE101
      replace bi1 := bi1.ext hE101
      replace bi2 := bi2.ext hE101
      replace btb := btb.ext hE101
      replace bT := bT.ext hE101
      replace hTw := hTw.ext hE101
      replace hK4 := hK4.ext hE101
      replace hK0 := hK0.ext hE101
      replace hS0 := hS0.ext hE101
      replace m0 := Ext.cell hE101 m0
      replace m1 := Ext.cell hE101 m1
      have hF101 := Ext.trans (hF100) hE101
      rw [dn_a]
      have bi1_0 : World.cell? w102 ⟨w.heap.size, 0, none⟩ = some (.int .u8 1) := bi1.cell 0
      have bi1_1 : World.cell? w102 ⟨w.heap.size, 1, none⟩ = some (.int .i64 1) := bi1.cell 1
      have bi1_2 : World.cell? w102 ⟨w.heap.size, 2, none⟩ = some (.int .i64 0) := bi1.cell 2
      have bi1_3 : World.cell? w102 ⟨w.heap.size, 3, none⟩ = some (.int .u8 4) := bi1.cell 3
      have bi1_4 : World.cell? w102 ⟨w.heap.size, 4, none⟩ = some (.int .i64 2) := bi1.cell 4
      have bi1_5 : World.cell? w102 ⟨w.heap.size, 5, none⟩ = some (.int .i64 9) := bi1.cell 5
      have bi1_l := bi1.lt
      have bi2_0 : World.cell? w102 ⟨w.heap.size + 1, 0, none⟩ = some (.int .u8 1) := bi2.cell 0
      have bi2_1 : World.cell? w102 ⟨w.heap.size + 1, 1, none⟩ = some (.int .i64 1) := bi2.cell 1
      have bi2_2 : World.cell? w102 ⟨w.heap.size + 1, 2, none⟩ = some (.int .i64 3) := bi2.cell 2
      have bi2_3 : World.cell? w102 ⟨w.heap.size + 1, 3, none⟩ = some (.int .u8 3) := bi2.cell 3
      have bi2_4 : World.cell? w102 ⟨w.heap.size + 1, 4, none⟩ = some (.int .i64 3) := bi2.cell 4
      have bi2_5 : World.cell? w102 ⟨w.heap.size + 1, 5, none⟩ = some (.int .i64 8) := bi2.cell 5
      have bi2_6 : World.cell? w102 ⟨w.heap.size + 1, 6, none⟩ = some (.int .u8 3) := bi2.cell 6
      have bi2_7 : World.cell? w102 ⟨w.heap.size + 1, 7, none⟩ = some (.int .i64 3) := bi2.cell 7
      have bi2_8 : World.cell? w102 ⟨w.heap.size + 1, 8, none⟩ = some (.int .i64 9) := bi2.cell 8
      have bi2_l := bi2.lt
      have btb_0 : World.cell? w102 ⟨w.heap.size + 1 + 1, 0, none⟩ = some (.slice (some ⟨w.heap.size, 0, none⟩) 2 2) := btb.cell 0
      have btb_1 : World.cell? w102 ⟨w.heap.size + 1 + 1, 1, none⟩ = some (.slice (some ⟨w.heap.size + 1, 0, none⟩) 3 3) := btb.cell 1
      have btb_l := btb.lt
      have bT_0 : World.cell? w102 ⟨w.heap.size + 1 + 1 + 1, 0, none⟩ = some (.int .i64 0) := bT.cell 0
      have bT_1 : World.cell? w102 ⟨w.heap.size + 1 + 1 + 1, 1, none⟩ = some (.slice (some ⟨w.heap.size + 1 + 1, 0, none⟩) 2 2) := bT.cell 1
      have bT_l := bT.lt
      have m0_l := World.block_lt_of_cell? _ _ m0
      have m1_l := World.block_lt_of_cell? _ _ m1
      go_wp2_with fail
      try clear m0_l
      try clear m1_l
      clear bi1_0 bi1_1 bi1_2 bi1_3 bi1_4 bi1_5 bi1_l
      clear bi2_0 bi2_1 bi2_2 bi2_3 bi2_4 bi2_5 bi2_6 bi2_7 bi2_8 bi2_l
      clear btb_0 btb_1 btb_l
      clear bT_0 bT_1 bT_l
      refine (dealloc_End (run := []) (Sts.nil _) (Nts.nil _)).mono ?_
      rintro e w103 ⟨rfl, hZ102⟩
      have hE102 : Ext w102 w103 := Ext.trans (by repeat (first | exact Ext.refl _ | apply Ext.alloc | apply Ext.drew)) hZ102
      replace hp := hp.ext hE102
      replace bi1 := bi1.ext hE102
      replace bi2 := bi2.ext hE102
      replace btb := btb.ext hE102
      replace bT := bT.ext hE102
      replace hTw := hTw.ext hE102
      replace hK4 := hK4.ext hE102
      replace hK0 := hK0.ext hE102
      replace hS0 := hS0.ext hE102
      replace m0 := Ext.cell hE102 m0
      replace m1 := Ext.cell hE102 m1
      have hF102 := Ext.trans (hF101) hE102
      rw [dn_b]
      have bi1_0 : World.cell? w103 ⟨w.heap.size, 0, none⟩ = some (.int .u8 1) := bi1.cell 0
      have bi1_1 : World.cell? w103 ⟨w.heap.size, 1, none⟩ = some (.int .i64 1) := bi1.cell 1
      have bi1_2 : World.cell? w103 ⟨w.heap.size, 2, none⟩ = some (.int .i64 0) := bi1.cell 2
      have bi1_3 : World.cell? w103 ⟨w.heap.size, 3, none⟩ = some (.int .u8 4) := bi1.cell 3
      have bi1_4 : World.cell? w103 ⟨w.heap.size, 4, none⟩ = some (.int .i64 2) := bi1.cell 4
      have bi1_5 : World.cell? w103 ⟨w.heap.size, 5, none⟩ = some (.int .i64 9) := bi1.cell 5
      have bi1_l := bi1.lt
      have bi2_0 : World.cell? w103 ⟨w.heap.size + 1, 0, none⟩ = some (.int .u8 1) := bi2.cell 0
      have bi2_1 : World.cell? w103 ⟨w.heap.size + 1, 1, none⟩ = some (.int .i64 1) := bi2.cell 1
      have bi2_2 : World.cell? w103 ⟨w.heap.size + 1, 2, none⟩ = some (.int .i64 3) := bi2.cell 2
      have bi2_3 : World.cell? w103 ⟨w.heap.size + 1, 3, none⟩ = some (.int .u8 3) := bi2.cell 3
      have bi2_4 : World.cell? w103 ⟨w.heap.size + 1, 4, none⟩ = some (.int .i64 3) := bi2.cell 4
      have bi2_5 : World.cell? w103 ⟨w.heap.size + 1, 5, none⟩ = some (.int .i64 8) := bi2.cell 5
      have bi2_6 : World.cell? w103 ⟨w.heap.size + 1, 6, none⟩ = some (.int .u8 3) := bi2.cell 6
      have bi2_7 : World.cell? w103 ⟨w.heap.size + 1, 7, none⟩ = some (.int .i64 3) := bi2.cell 7
      have bi2_8 : World.cell? w103 ⟨w.heap.size + 1, 8, none⟩ = some (.int .i64 9) := bi2.cell 8
      have bi2_l := bi2.lt
      have btb_0 : World.cell? w103 ⟨w.heap.size + 1 + 1, 0, none⟩ = some (.slice (some ⟨w.heap.size, 0, none⟩) 2 2) := btb.cell 0
      have btb_1 : World.cell? w103 ⟨w.heap.size + 1 + 1, 1, none⟩ = some (.slice (some ⟨w.heap.size + 1, 0, none⟩) 3 3) := btb.cell 1
      have btb_l := btb.lt
      have bT_0 : World.cell? w103 ⟨w.heap.size + 1 + 1 + 1, 0, none⟩ = some (.int .i64 0) := bT.cell 0
      have bT_1 : World.cell? w103 ⟨w.heap.size + 1 + 1 + 1, 1, none⟩ = some (.slice (some ⟨w.heap.size + 1 + 1, 0, none⟩) 2 2) := bT.cell 1
      have bT_l := bT.lt
      have m0_l := World.block_lt_of_cell? _ _ m0
      have m1_l := World.block_lt_of_cell? _ _ m1
      go_wp2_with fail
      try clear m0_l
      try clear m1_l
      clear bi1_0 bi1_1 bi1_2 bi1_3 bi1_4 bi1_5 bi1_l
      clear bi2_0 bi2_1 bi2_2 bi2_3 bi2_4 bi2_5 bi2_6 bi2_7 bi2_8 bi2_l
      clear btb_0 btb_1 btb_l
      clear bT_0 bT_1 bT_l
      refine (dealloc_Protects (run := []) (Sts.nil _) (Nts.nil _)).mono ?_
      rintro e w104 ⟨vhq1, rfl, ohq1, hZ103⟩
      have hE103 : Ext w103 w104 := Ext.trans (by repeat (first | exact Ext.refl _ | apply Ext.alloc | apply Ext.drew)) hZ103
      replace hp := hp.ext hE103
      replace bi1 := bi1.ext hE103
      replace bi2 := bi2.ext hE103
      replace btb := btb.ext hE103
      replace bT := bT.ext hE103
      replace hTw := hTw.ext hE103
      replace hK4 := hK4.ext hE103
      replace hK0 := hK0.ext hE103
      replace hS0 := hS0.ext hE103
      replace m0 := Ext.cell hE103 m0
      replace m1 := Ext.cell hE103 m1
      have hF103 := Ext.trans (hF102) hE103
      rw [dn_c] at ohq1 ⊢
      have hq1 : Its _ _ [] := (OwnI.its ohq1)
      obtain ⟨ahq1, chq1, rfl, -⟩ := hq1.form
      clear ohq1
      dsimp only at hq1 ⊢
      have bi1_0 : World.cell? w104 ⟨w.heap.size, 0, none⟩ = some (.int .u8 1) := bi1.cell 0
      have bi1_1 : World.cell? w104 ⟨w.heap.size, 1, none⟩ = some (.int .i64 1) := bi1.cell 1
      have bi1_2 : World.cell? w104 ⟨w.heap.size, 2, none⟩ = some (.int .i64 0) := bi1.cell 2
      have bi1_3 : World.cell? w104 ⟨w.heap.size, 3, none⟩ = some (.int .u8 4) := bi1.cell 3
      have bi1_4 : World.cell? w104 ⟨w.heap.size, 4, none⟩ = some (.int .i64 2) := bi1.cell 4
      have bi1_5 : World.cell? w104 ⟨w.heap.size, 5, none⟩ = some (.int .i64 9) := bi1.cell 5
      have bi1_l := bi1.lt
      have bi2_0 : World.cell? w104 ⟨w.heap.size + 1, 0, none⟩ = some (.int .u8 1) := bi2.cell 0
      have bi2_1 : World.cell? w104 ⟨w.heap.size + 1, 1, none⟩ = some (.int .i64 1) := bi2.cell 1
      have bi2_2 : World.cell? w104 ⟨w.heap.size + 1, 2, none⟩ = some (.int .i64 3) := bi2.cell 2
      have bi2_3 : World.cell? w104 ⟨w.heap.size + 1, 3, none⟩ = some (.int .u8 3) := bi2.cell 3
      have bi2_4 : World.cell? w104 ⟨w.heap.size + 1, 4, none⟩ = some (.int .i64 3) := bi2.cell 4
      have bi2_5 : World.cell? w104 ⟨w.heap.size + 1, 5, none⟩ = some (.int .i64 8) := bi2.cell 5
      have bi2_6 : World.cell? w104 ⟨w.heap.size + 1, 6, none⟩ = some (.int .u8 3) := bi2.cell 6
      have bi2_7 : World.cell? w104 ⟨w.heap.size + 1, 7, none⟩ = some (.int .i64 3) := bi2.cell 7
      have bi2_8 : World.cell? w104 ⟨w.heap.size + 1, 8, none⟩ = some (.int .i64 9) := bi2.cell 8
      have bi2_l := bi2.lt
      have btb_0 : World.cell? w104 ⟨w.heap.size + 1 + 1, 0, none⟩ = some (.slice (some ⟨w.heap.size, 0, none⟩) 2 2) := btb.cell 0
      have btb_1 : World.cell? w104 ⟨w.heap.size + 1 + 1, 1, none⟩ = some (.slice (some ⟨w.heap.size + 1, 0, none⟩) 3 3) := btb.cell 1
      have btb_l := btb.lt
      have bT_0 : World.cell? w104 ⟨w.heap.size + 1 + 1 + 1, 0, none⟩ = some (.int .i64 0) := bT.cell 0
      have bT_1 : World.cell? w104 ⟨w.heap.size + 1 + 1 + 1, 1, none⟩ = some (.slice (some ⟨w.heap.size + 1 + 1, 0, none⟩) 2 2) := bT.cell 1
      have bT_l := bT.lt
      have m0_l := World.block_lt_of_cell? _ _ m0
      have m1_l := World.block_lt_of_cell? _ _ m1
      go_wp2_with fail
      try clear m0_l
      try clear m1_l
      clear bi1_0 bi1_1 bi1_2 bi1_3 bi1_4 bi1_5 bi1_l
      clear bi2_0 bi2_1 bi2_2 bi2_3 bi2_4 bi2_5 bi2_6 bi2_7 bi2_8 bi2_l
      clear btb_0 btb_1 btb_l
      clear bT_0 bT_1 bT_l
      refine (dealloc_Protects (run := [2, 1]) (hTw.ext (by repeat (first | exact Ext.refl _ | apply Ext.alloc | apply Ext.drew))) (by (repeat (first | exact Nts.nil _ | exact Nts.litl _ _ _ _ _ (by first | (simp; done) | exact hsz.out | (have := hsz.out; simp; omega)) rfl (by simp [maxLen]) rfl | refine Nts.ext ?_ (Ext.refl _).drew | refine Nts.ext ?_ ((Ext.refl _).alloc _) | refine Nts.ext ?_ (by assumption))))).mono ?_
      rintro e w105 ⟨vhq2, rfl, ohq2, hZ104⟩
      have hE104 : Ext w104 w105 := Ext.trans (by repeat (first | exact Ext.refl _ | apply Ext.alloc | apply Ext.drew)) hZ104
      replace hp := hp.ext hE104
      replace bi1 := bi1.ext hE104
      replace bi2 := bi2.ext hE104
      replace btb := btb.ext hE104
      replace bT := bT.ext hE104
      replace hTw := hTw.ext hE104
      replace hK4 := hK4.ext hE104
      replace hK0 := hK0.ext hE104
      replace hS0 := hS0.ext hE104
      replace m0 := Ext.cell hE104 m0
      replace m1 := Ext.cell hE104 m1
      have hF104 := Ext.trans (hF103) hE104
      rw [dn_d] at ohq2 ⊢
      have hq2 : Its _ _ [] := (OwnI.its ohq2)
      obtain ⟨ahq2, chq2, rfl, -⟩ := hq2.form
      clear ohq2
      dsimp only at hq2 ⊢
      have bi1_0 : World.cell? w105 ⟨w.heap.size, 0, none⟩ = some (.int .u8 1) := bi1.cell 0
      have bi1_1 : World.cell? w105 ⟨w.heap.size, 1, none⟩ = some (.int .i64 1) := bi1.cell 1
      have bi1_2 : World.cell? w105 ⟨w.heap.size, 2, none⟩ = some (.int .i64 0) := bi1.cell 2
      have bi1_3 : World.cell? w105 ⟨w.heap.size, 3, none⟩ = some (.int .u8 4) := bi1.cell 3
      have bi1_4 : World.cell? w105 ⟨w.heap.size, 4, none⟩ = some (.int .i64 2) := bi1.cell 4
      have bi1_5 : World.cell? w105 ⟨w.heap.size, 5, none⟩ = some (.int .i64 9) := bi1.cell 5
      have bi1_l := bi1.lt
      have bi2_0 : World.cell? w105 ⟨w.heap.size + 1, 0, none⟩ = some (.int .u8 1) := bi2.cell 0
      have bi2_1 : World.cell? w105 ⟨w.heap.size + 1, 1, none⟩ = some (.int .i64 1) := bi2.cell 1
      have bi2_2 : World.cell? w105 ⟨w.heap.size + 1, 2, none⟩ = some (.int .i64 3) := bi2.cell 2
      have bi2_3 : World.cell? w105 ⟨w.heap.size + 1, 3, none⟩ = some (.int .u8 3) := bi2.cell 3
      have bi2_4 : World.cell? w105 ⟨w.heap.size + 1, 4, none⟩ = some (.int .i64 3) := bi2.cell 4
      have bi2_5 : World.cell? w105 ⟨w.heap.size + 1, 5, none⟩ = some (.int .i64 8) := bi2.cell 5
      have bi2_6 : World.cell? w105 ⟨w.heap.size + 1, 6, none⟩ = some (.int .u8 3) := bi2.cell 6
      have bi2_7 : World.cell? w105 ⟨w.heap.size + 1, 7, none⟩ = some (.int .i64 3) := bi2.cell 7
      have bi2_8 : World.cell? w105 ⟨w.heap.size + 1, 8, none⟩ = some (.int .i64 9) := bi2.cell 8
      have bi2_l := bi2.lt
      have btb_0 : World.cell? w105 ⟨w.heap.size + 1 + 1, 0, none⟩ = some (.slice (some ⟨w.heap.size, 0, none⟩) 2 2) := btb.cell 0
      have btb_1 : World.cell? w105 ⟨w.heap.size + 1 + 1, 1, none⟩ = some (.slice (some ⟨w.heap.size + 1, 0, none⟩) 3 3) := btb.cell 1
      have btb_l := btb.lt
      have bT_0 : World.cell? w105 ⟨w.heap.size + 1 + 1 + 1, 0, none⟩ = some (.int .i64 0) := bT.cell 0
      have bT_1 : World.cell? w105 ⟨w.heap.size + 1 + 1 + 1, 1, none⟩ = some (.slice (some ⟨w.heap.size + 1 + 1, 0, none⟩) 2 2) := bT.cell 1
      have bT_l := bT.lt
      have m0_l := World.block_lt_of_cell? _ _ m0
      have m1_l := World.block_lt_of_cell? _ _ m1
      go_wp2_with fail
      try clear m0_l
      try clear m1_l
      clear bi1_0 bi1_1 bi1_2 bi1_3 bi1_4 bi1_5 bi1_l
      clear bi2_0 bi2_1 bi2_2 bi2_3 bi2_4 bi2_5 bi2_6 bi2_7 bi2_8 bi2_l
      clear btb_0 btb_1 btb_l
      clear bT_0 bT_1 bT_l
      refine (dealloc_Protects (run := [3, 9]) (hTw.ext (by repeat (first | exact Ext.refl _ | apply Ext.alloc | apply Ext.drew))) (by (repeat (first | exact Nts.nil _ | exact Nts.litl _ _ _ _ _ (by first | (simp; done) | exact hsz.out | (have := hsz.out; simp; omega)) rfl (by simp [maxLen]) rfl | refine Nts.ext ?_ (Ext.refl _).drew | refine Nts.ext ?_ ((Ext.refl _).alloc _) | refine Nts.ext ?_ (by assumption))))).mono ?_
      rintro e w106 ⟨vhq3, rfl, ohq3, hZ105⟩
      have hE105 : Ext w105 w106 := Ext.trans (by repeat (first | exact Ext.refl _ | apply Ext.alloc | apply Ext.drew)) hZ105
      replace hp := hp.ext hE105
      replace bi1 := bi1.ext hE105
      replace bi2 := bi2.ext hE105
      replace btb := btb.ext hE105
      replace bT := bT.ext hE105
      replace hTw := hTw.ext hE105
      replace hK4 := hK4.ext hE105
      replace hK0 := hK0.ext hE105
      replace hS0 := hS0.ext hE105
      replace m0 := Ext.cell hE105 m0
      replace m1 := Ext.cell hE105 m1
      have hF105 := Ext.trans (hF104) hE105
      rw [dn_e] at ohq3 ⊢
      have hq3 : Its _ _ kept34 := (OwnI.its ohq3)
      obtain ⟨ahq3, chq3, rfl, -⟩ := hq3.form
      clear ohq3
      dsimp only at hq3 ⊢
      have bi1_0 : World.cell? w106 ⟨w.heap.size, 0, none⟩ = some (.int .u8 1) := bi1.cell 0
      have bi1_1 : World.cell? w106 ⟨w.heap.size, 1, none⟩ = some (.int .i64 1) := bi1.cell 1
      have bi1_2 : World.cell? w106 ⟨w.heap.size, 2, none⟩ = some (.int .i64 0) := bi1.cell 2
      have bi1_3 : World.cell? w106 ⟨w.heap.size, 3, none⟩ = some (.int .u8 4) := bi1.cell 3
      have bi1_4 : World.cell? w106 ⟨w.heap.size, 4, none⟩ = some (.int .i64 2) := bi1.cell 4
      have bi1_5 : World.cell? w106 ⟨w.heap.size, 5, none⟩ = some (.int .i64 9) := bi1.cell 5
      have bi1_l := bi1.lt
      have bi2_0 : World.cell? w106 ⟨w.heap.size + 1, 0, none⟩ = some (.int .u8 1) := bi2.cell 0
      have bi2_1 : World.cell? w106 ⟨w.heap.size + 1, 1, none⟩ = some (.int .i64 1) := bi2.cell 1
      have bi2_2 : World.cell? w106 ⟨w.heap.size + 1, 2, none⟩ = some (.int .i64 3) := bi2.cell 2
      have bi2_3 : World.cell? w106 ⟨w.heap.size + 1, 3, none⟩ = some (.int .u8 3) := bi2.cell 3
      have bi2_4 : World.cell? w106 ⟨w.heap.size + 1, 4, none⟩ = some (.int .i64 3) := bi2.cell 4
      have bi2_5 : World.cell? w106 ⟨w.heap.size + 1, 5, none⟩ = some (.int .i64 8) := bi2.cell 5
      have bi2_6 : World.cell? w106 ⟨w.heap.size + 1, 6, none⟩ = some (.int .u8 3) := bi2.cell 6
      have bi2_7 : World.cell? w106 ⟨w.heap.size + 1, 7, none⟩ = some (.int .i64 3) := bi2.cell 7
      have bi2_8 : World.cell? w106 ⟨w.heap.size + 1, 8, none⟩ = some (.int .i64 9) := bi2.cell 8
      have bi2_l := bi2.lt
      have btb_0 : World.cell? w106 ⟨w.heap.size + 1 + 1, 0, none⟩ = some (.slice (some ⟨w.heap.size, 0, none⟩) 2 2) := btb.cell 0
      have btb_1 : World.cell? w106 ⟨w.heap.size + 1 + 1, 1, none⟩ = some (.slice (some ⟨w.heap.size + 1, 0, none⟩) 3 3) := btb.cell 1
      have btb_l := btb.lt
      have bT_0 : World.cell? w106 ⟨w.heap.size + 1 + 1 + 1, 0, none⟩ = some (.int .i64 0) := bT.cell 0
      have bT_1 : World.cell? w106 ⟨w.heap.size + 1 + 1 + 1, 1, none⟩ = some (.slice (some ⟨w.heap.size + 1 + 1, 0, none⟩) 2 2) := bT.cell 1
      have bT_l := bT.lt
      have m0_l := World.block_lt_of_cell? _ _ m0
      have m1_l := World.block_lt_of_cell? _ _ m1
      go_wp2_with fail
      try clear m0_l
      try clear m1_l
      clear bi1_0 bi1_1 bi1_2 bi1_3 bi1_4 bi1_5 bi1_l
      clear bi2_0 bi2_1 bi2_2 bi2_3 bi2_4 bi2_5 bi2_6 bi2_7 bi2_8 bi2_l
      clear btb_0 btb_1 btb_l
      clear bT_0 bT_1 bT_l
      refine (dealloc_All (run := [1, 1]) (hK4.ext (by repeat (first | exact Ext.refl _ | apply Ext.alloc | apply Ext.drew))) (by (repeat (first | exact Nts.nil _ | exact Nts.litl _ _ _ _ _ (by first | (simp; done) | exact hsz.out | (have := hsz.out; simp; omega)) rfl (by simp [maxLen]) rfl | refine Nts.ext ?_ (Ext.refl _).drew | refine Nts.ext ?_ ((Ext.refl _).alloc _) | refine Nts.ext ?_ (by assumption))))).mono ?_
      rintro e w107 ⟨rfl, hZ106⟩
      have hE106 : Ext w106 w107 := Ext.trans (by repeat (first | exact Ext.refl _ | apply Ext.alloc | apply Ext.drew)) hZ106
      replace hp := hp.ext hE106
      replace bi1 := bi1.ext hE106
      replace bi2 := bi2.ext hE106
      replace btb := btb.ext hE106
      replace bT := bT.ext hE106
      replace hTw := hTw.ext hE106
      replace hK4 := hK4.ext hE106
      replace hK0 := hK0.ext hE106
      replace hS0 := hS0.ext hE106
      replace hq3 := hq3.ext hE106
      replace m0 := Ext.cell hE106 m0
      replace m1 := Ext.cell hE106 m1
      have hF106 := Ext.trans (hF105) hE106
      rw [ef.out]
      have bi1_0 : World.cell? w107 ⟨w.heap.size, 0, none⟩ = some (.int .u8 1) := bi1.cell 0
      have bi1_1 : World.cell? w107 ⟨w.heap.size, 1, none⟩ = some (.int .i64 1) := bi1.cell 1
      have bi1_2 : World.cell? w107 ⟨w.heap.size, 2, none⟩ = some (.int .i64 0) := bi1.cell 2
      have bi1_3 : World.cell? w107 ⟨w.heap.size, 3, none⟩ = some (.int .u8 4) := bi1.cell 3
      have bi1_4 : World.cell? w107 ⟨w.heap.size, 4, none⟩ = some (.int .i64 2) := bi1.cell 4
      have bi1_5 : World.cell? w107 ⟨w.heap.size, 5, none⟩ = some (.int .i64 9) := bi1.cell 5
      have bi1_l := bi1.lt
      have bi2_0 : World.cell? w107 ⟨w.heap.size + 1, 0, none⟩ = some (.int .u8 1) := bi2.cell 0
      have bi2_1 : World.cell? w107 ⟨w.heap.size + 1, 1, none⟩ = some (.int .i64 1) := bi2.cell 1
      have bi2_2 : World.cell? w107 ⟨w.heap.size + 1, 2, none⟩ = some (.int .i64 3) := bi2.cell 2
      have bi2_3 : World.cell? w107 ⟨w.heap.size + 1, 3, none⟩ = some (.int .u8 3) := bi2.cell 3
      have bi2_4 : World.cell? w107 ⟨w.heap.size + 1, 4, none⟩ = some (.int .i64 3) := bi2.cell 4
      have bi2_5 : World.cell? w107 ⟨w.heap.size + 1, 5, none⟩ = some (.int .i64 8) := bi2.cell 5
      have bi2_6 : World.cell? w107 ⟨w.heap.size + 1, 6, none⟩ = some (.int .u8 3) := bi2.cell 6
      have bi2_7 : World.cell? w107 ⟨w.heap.size + 1, 7, none⟩ = some (.int .i64 3) := bi2.cell 7
      have bi2_8 : World.cell? w107 ⟨w.heap.size + 1, 8, none⟩ = some (.int .i64 9) := bi2.cell 8
      have bi2_l := bi2.lt
      have btb_0 : World.cell? w107 ⟨w.heap.size + 1 + 1, 0, none⟩ = some (.slice (some ⟨w.heap.size, 0, none⟩) 2 2) := btb.cell 0
      have btb_1 : World.cell? w107 ⟨w.heap.size + 1 + 1, 1, none⟩ = some (.slice (some ⟨w.heap.size + 1, 0, none⟩) 3 3) := btb.cell 1
      have btb_l := btb.lt
      have bT_0 : World.cell? w107 ⟨w.heap.size + 1 + 1 + 1, 0, none⟩ = some (.int .i64 0) := bT.cell 0
      have bT_1 : World.cell? w107 ⟨w.heap.size + 1 + 1 + 1, 1, none⟩ = some (.slice (some ⟨w.heap.size + 1 + 1, 0, none⟩) 2 2) := bT.cell 1
      have bT_l := bT.lt
      have m0_l := World.block_lt_of_cell? _ _ m0
      have m1_l := World.block_lt_of_cell? _ _ m1
      go_wp2_with fail
      try clear m0_l
      try clear m1_l
      clear bi1_0 bi1_1 bi1_2 bi1_3 bi1_4 bi1_5 bi1_l
      clear bi2_0 bi2_1 bi2_2 bi2_3 bi2_4 bi2_5 bi2_6 bi2_7 bi2_8 bi2_l
      clear btb_0 btb_1 btb_l
      clear bT_0 bT_1 bT_l
      refine (dealloc_All (run := []) (hK4.ext (by repeat (first | exact Ext.refl _ | apply Ext.alloc | apply Ext.drew))) (Nts.nil _)).mono ?_
      rintro e w108 ⟨rfl, hZ107⟩
      have hE107 : Ext w107 w108 := Ext.trans (by repeat (first | exact Ext.refl _ | apply Ext.alloc | apply Ext.drew)) hZ107
      replace hp := hp.ext hE107
      replace bi1 := bi1.ext hE107
      replace bi2 := bi2.ext hE107
      replace btb := btb.ext hE107
      replace bT := bT.ext hE107
      replace hTw := hTw.ext hE107
      replace hK4 := hK4.ext hE107
      replace hK0 := hK0.ext hE107
      replace hS0 := hS0.ext hE107
      replace hq3 := hq3.ext hE107
      replace m0 := Ext.cell hE107 m0
      replace m1 := Ext.cell hE107 m1
      have hF107 := Ext.trans (hF106) hE107
      rw [eg.out]
      have bi1_0 : World.cell? w108 ⟨w.heap.size, 0, none⟩ = some (.int .u8 1) := bi1.cell 0
      have bi1_1 : World.cell? w108 ⟨w.heap.size, 1, none⟩ = some (.int .i64 1) := bi1.cell 1
      have bi1_2 : World.cell? w108 ⟨w.heap.size, 2, none⟩ = some (.int .i64 0) := bi1.cell 2
      have bi1_3 : World.cell? w108 ⟨w.heap.size, 3, none⟩ = some (.int .u8 4) := bi1.cell 3
      have bi1_4 : World.cell? w108 ⟨w.heap.size, 4, none⟩ = some (.int .i64 2) := bi1.cell 4
      have bi1_5 : World.cell? w108 ⟨w.heap.size, 5, none⟩ = some (.int .i64 9) := bi1.cell 5
      have bi1_l := bi1.lt
      have bi2_0 : World.cell? w108 ⟨w.heap.size + 1, 0, none⟩ = some (.int .u8 1) := bi2.cell 0
      have bi2_1 : World.cell? w108 ⟨w.heap.size + 1, 1, none⟩ = some (.int .i64 1) := bi2.cell 1
      have bi2_2 : World.cell? w108 ⟨w.heap.size + 1, 2, none⟩ = some (.int .i64 3) := bi2.cell 2
      have bi2_3 : World.cell? w108 ⟨w.heap.size + 1, 3, none⟩ = some (.int .u8 3) := bi2.cell 3
      have bi2_4 : World.cell? w108 ⟨w.heap.size + 1, 4, none⟩ = some (.int .i64 3) := bi2.cell 4
      have bi2_5 : World.cell? w108 ⟨w.heap.size + 1, 5, none⟩ = some (.int .i64 8) := bi2.cell 5
      have bi2_6 : World.cell? w108 ⟨w.heap.size + 1, 6, none⟩ = some (.int .u8 3) := bi2.cell 6
      have bi2_7 : World.cell? w108 ⟨w.heap.size + 1, 7, none⟩ = some (.int .i64 3) := bi2.cell 7
      have bi2_8 : World.cell? w108 ⟨w.heap.size + 1, 8, none⟩ = some (.int .i64 9) := bi2.cell 8
      have bi2_l := bi2.lt
      have btb_0 : World.cell? w108 ⟨w.heap.size + 1 + 1, 0, none⟩ = some (.slice (some ⟨w.heap.size, 0, none⟩) 2 2) := btb.cell 0
      have btb_1 : World.cell? w108 ⟨w.heap.size + 1 + 1, 1, none⟩ = some (.slice (some ⟨w.heap.size + 1, 0, none⟩) 3 3) := btb.cell 1
      have btb_l := btb.lt
      have bT_0 : World.cell? w108 ⟨w.heap.size + 1 + 1 + 1, 0, none⟩ = some (.int .i64 0) := bT.cell 0
      have bT_1 : World.cell? w108 ⟨w.heap.size + 1 + 1 + 1, 1, none⟩ = some (.slice (some ⟨w.heap.size + 1 + 1, 0, none⟩) 2 2) := bT.cell 1
      have bT_l := bT.lt
      have m0_l := World.block_lt_of_cell? _ _ m0
      have m1_l := World.block_lt_of_cell? _ _ m1
      go_wp2_with fail
      try clear m0_l
      try clear m1_l
      clear bi1_0 bi1_1 bi1_2 bi1_3 bi1_4 bi1_5 bi1_l
      clear bi2_0 bi2_1 bi2_2 bi2_3 bi2_4 bi2_5 bi2_6 bi2_7 bi2_8 bi2_l
      clear btb_0 btb_1 btb_l
      clear bT_0 bT_1 bT_l
      refine (dealloc_All (run := [3]) (hK0.ext (by repeat (first | exact Ext.refl _ | apply Ext.alloc | apply Ext.drew))) (by (repeat (first | exact Nts.nil _ | exact Nts.litl _ _ _ _ _ (by first | (simp; done) | exact hsz.out | (have := hsz.out; simp; omega)) rfl (by simp [maxLen]) rfl | refine Nts.ext ?_ (Ext.refl _).drew | refine Nts.ext ?_ ((Ext.refl _).alloc _) | refine Nts.ext ?_ (by assumption))))).mono ?_
      rintro e w109 ⟨rfl, hZ108⟩
      have hE108 : Ext w108 w109 := Ext.trans (by repeat (first | exact Ext.refl _ | apply Ext.alloc | apply Ext.drew)) hZ108
      replace hp := hp.ext hE108
      replace bi1 := bi1.ext hE108
      replace bi2 := bi2.ext hE108
      replace btb := btb.ext hE108
      replace bT := bT.ext hE108
      replace hTw := hTw.ext hE108
      replace hK4 := hK4.ext hE108
      replace hK0 := hK0.ext hE108
      replace hS0 := hS0.ext hE108
      replace hq3 := hq3.ext hE108
      replace m0 := Ext.cell hE108 m0
      replace m1 := Ext.cell hE108 m1
      have hF108 := Ext.trans (hF107) hE108
      rw [eh.out]
      have bi1_0 : World.cell? w109 ⟨w.heap.size, 0, none⟩ = some (.int .u8 1) := bi1.cell 0
      have bi1_1 : World.cell? w109 ⟨w.heap.size, 1, none⟩ = some (.int .i64 1) := bi1.cell 1
      have bi1_2 : World.cell? w109 ⟨w.heap.size, 2, none⟩ = some (.int .i64 0) := bi1.cell 2
      have bi1_3 : World.cell? w109 ⟨w.heap.size, 3, none⟩ = some (.int .u8 4) := bi1.cell 3
      have bi1_4 : World.cell? w109 ⟨w.heap.size, 4, none⟩ = some (.int .i64 2) := bi1.cell 4
      have bi1_5 : World.cell? w109 ⟨w.heap.size, 5, none⟩ = some (.int .i64 9) := bi1.cell 5
      have bi1_l := bi1.lt
      have bi2_0 : World.cell? w109 ⟨w.heap.size + 1, 0, none⟩ = some (.int .u8 1) := bi2.cell 0
      have bi2_1 : World.cell? w109 ⟨w.heap.size + 1, 1, none⟩ = some (.int .i64 1) := bi2.cell 1
      have bi2_2 : World.cell? w109 ⟨w.heap.size + 1, 2, none⟩ = some (.int .i64 3) := bi2.cell 2
      have bi2_3 : World.cell? w109 ⟨w.heap.size + 1, 3, none⟩ = some (.int .u8 3) := bi2.cell 3
      have bi2_4 : World.cell? w109 ⟨w.heap.size + 1, 4, none⟩ = some (.int .i64 3) := bi2.cell 4
      have bi2_5 : World.cell? w109 ⟨w.heap.size + 1, 5, none⟩ = some (.int .i64 8) := bi2.cell 5
      have bi2_6 : World.cell? w109 ⟨w.heap.size + 1, 6, none⟩ = some (.int .u8 3) := bi2.cell 6
      have bi2_7 : World.cell? w109 ⟨w.heap.size + 1, 7, none⟩ = some (.int .i64 3) := bi2.cell 7
      have bi2_8 : World.cell? w109 ⟨w.heap.size + 1, 8, none⟩ = some (.int .i64 9) := bi2.cell 8
      have bi2_l := bi2.lt
      have btb_0 : World.cell? w109 ⟨w.heap.size + 1 + 1, 0, none⟩ = some (.slice (some ⟨w.heap.size, 0, none⟩) 2 2) := btb.cell 0
      have btb_1 : World.cell? w109 ⟨w.heap.size + 1 + 1, 1, none⟩ = some (.slice (some ⟨w.heap.size + 1, 0, none⟩) 3 3) := btb.cell 1
      have btb_l := btb.lt
      have bT_0 : World.cell? w109 ⟨w.heap.size + 1 + 1 + 1, 0, none⟩ = some (.int .i64 0) := bT.cell 0
      have bT_1 : World.cell? w109 ⟨w.heap.size + 1 + 1 + 1, 1, none⟩ = some (.slice (some ⟨w.heap.size + 1 + 1, 0, none⟩) 2 2) := bT.cell 1
      have bT_l := bT.lt
      have m0_l := World.block_lt_of_cell? _ _ m0
      have m1_l := World.block_lt_of_cell? _ _ m1
      go_upto_region 15 with fail
      try clear m0_l
      try clear m1_l
      clear bi1_0 bi1_1 bi1_2 bi1_3 bi1_4 bi1_5 bi1_l
      clear bi2_0 bi2_1 bi2_2 bi2_3 bi2_4 bi2_5 bi2_6 bi2_7 bi2_8 bi2_l
      clear btb_0 btb_1 btb_l
      clear bT_0 bT_1 bT_l
      go_cut [23, 24, 25] from 102 to 113 (fun s1 s2 s3 wx => s1 = .int .i64 1 ∧ s2 = .int .u8 2 ∧ s3 = .int .i64 0 ∧ Ext w109 wx)
      case first =>
        have bT_0 : World.cell? w109 ⟨w.heap.size + 1 + 1 + 1, 0, none⟩ = some (.int .i64 0) := bT.cell 0
        have bT_1 : World.cell? w109 ⟨w.heap.size + 1 + 1 + 1, 1, none⟩ = some (.slice (some ⟨w.heap.size + 1 + 1, 0, none⟩) 2 2) := bT.cell 1
        have hSk : ∀ w' w'' : World, (w'.cell? ⟨w.heap.size + 1 + 1 + 1, 0, none⟩ = some (.int .i64 0) ∧ w'.cell? ⟨w.heap.size + 1 + 1 + 1, 1, none⟩ = some (.slice (some ⟨w.heap.size + 1 + 1, 0, none⟩) 2 2) ∧ w'.cell? ⟨B, 0, none⟩ = some (.int .i64 0) ∧ w'.cell? ⟨B, 1, none⟩ = some (.slice va0 base34.length vc0) ∧ Ext w109 w') → Ext w' w'' → (w''.cell? ⟨w.heap.size + 1 + 1 + 1, 0, none⟩ = some (.int .i64 0) ∧ w''.cell? ⟨w.heap.size + 1 + 1 + 1, 1, none⟩ = some (.slice (some ⟨w.heap.size + 1 + 1, 0, none⟩) 2 2) ∧ w''.cell? ⟨B, 0, none⟩ = some (.int .i64 0) ∧ w''.cell? ⟨B, 1, none⟩ = some (.slice va0 base34.length vc0) ∧ Ext w109 w'') := by
          rintro w' w'' ⟨k0, k1, k2, k3, kE⟩ h
          exact ⟨h.cell k0, h.cell k1, h.cell k2, h.cell k3, Ext.trans kE h⟩
        go_region_held3 (fun w' => (w'.cell? ⟨w.heap.size + 1 + 1 + 1, 0, none⟩ = some (.int .i64 0) ∧ w'.cell? ⟨w.heap.size + 1 + 1 + 1, 1, none⟩ = some (.slice (some ⟨w.heap.size + 1 + 1, 0, none⟩) 2 2) ∧ w'.cell? ⟨B, 0, none⟩ = some (.int .i64 0) ∧ w'.cell? ⟨B, 1, none⟩ = some (.slice va0 base34.length vc0) ∧ Ext w109 w')) (first | assumption | exact ⟨Ext.cell hBd bT_0, Ext.cell hBd bT_1, Ext.cell hBd m0, Ext.cell hBd m1, hBd⟩ | exact ⟨Ext.cell (Ext.drew hBd) bT_0, Ext.cell (Ext.drew hBd) bT_1, Ext.cell (Ext.drew hBd) m0, Ext.cell (Ext.drew hBd) m1, (Ext.drew hBd)⟩ | exact ⟨bT_0, bT_1, m0, m1, (Ext.refl _).drew⟩ | (refine hSk _ _ (by assumption) ?_; first | assumption | exact (Ext.refl _).alloc _ | exact ((Ext.refl _).alloc _).drew)) (first | (go_at_call 39; refine (dealloc_All (l := [⟨0, base34⟩, ⟨0, one34⟩, ⟨0, one34⟩]) (run := [8]) (by repeat (first | exact Kts.lit3 _ _ _ _ _ _ _ _ _ _ _ _ (hS0.ext (by repeat (first | exact Ext.refl _ | assumption | exact And.right (And.right (And.right (And.right (by assumption)))) | apply Ext.alloc | apply Ext.drew))) (hTw.ext (by repeat (first | exact Ext.refl _ | assumption | exact And.right (And.right (And.right (And.right (by assumption)))) | apply Ext.alloc | apply Ext.drew))) (hTw.ext (by repeat (first | exact Ext.refl _ | assumption | exact And.right (And.right (And.right (And.right (by assumption)))) | apply Ext.alloc | apply Ext.drew))) (by simp) | refine Kts.ext ?_ (Ext.refl _).drew | refine Kts.ext ?_ ((Ext.refl _).alloc _))) (by repeat (first | exact Nts.litl _ _ _ _ _ (by simp) rfl (by simp [maxLen]) rfl | refine Nts.ext ?_ (Ext.refl _).drew | refine Nts.ext ?_ ((Ext.refl _).alloc _)))).mono ?_; rintro e wd ⟨rfl, hD⟩; rw [dn_i]; (have hBd : Ext w109 wd := (by refine Ext.trans ?_ hD; exact And.right (And.right (And.right (And.right (by assumption))))))))
        all_goals
          go_wp2_with fail
          go_meet
          exact ⟨rfl, rfl, rfl, (by first | assumption | exact hBd | exact Ext.drew hBd)⟩
      case rest =>
        obtain ⟨rfl, rfl, rfl, hG⟩ := hcut
        obtain ⟨wq, hwq⟩ : ∃ z, wc = z := ⟨_, rfl⟩
        rw [hwq] at hG ⊢
        clear hwq hK4 hK0 hS0 m0 m1
        replace hp := hp.ext hG
        replace bi1 := bi1.ext hG
        replace bi2 := bi2.ext hG
        replace btb := btb.ext hG
        replace bT := bT.ext hG
        replace hTw := hTw.ext hG
        replace hq3 := hq3.ext hG
        have hF109 := Ext.trans (hF108) hG
        have bi1_0 : World.cell? wq ⟨w.heap.size, 0, none⟩ = some (.int .u8 1) := bi1.cell 0
        have bi1_1 : World.cell? wq ⟨w.heap.size, 1, none⟩ = some (.int .i64 1) := bi1.cell 1
        have bi1_2 : World.cell? wq ⟨w.heap.size, 2, none⟩ = some (.int .i64 0) := bi1.cell 2
        have bi1_3 : World.cell? wq ⟨w.heap.size, 3, none⟩ = some (.int .u8 4) := bi1.cell 3
        have bi1_4 : World.cell? wq ⟨w.heap.size, 4, none⟩ = some (.int .i64 2) := bi1.cell 4
        have bi1_5 : World.cell? wq ⟨w.heap.size, 5, none⟩ = some (.int .i64 9) := bi1.cell 5
        have bi1_l := bi1.lt
        have bi2_0 : World.cell? wq ⟨w.heap.size + 1, 0, none⟩ = some (.int .u8 1) := bi2.cell 0
        have bi2_1 : World.cell? wq ⟨w.heap.size + 1, 1, none⟩ = some (.int .i64 1) := bi2.cell 1
        have bi2_2 : World.cell? wq ⟨w.heap.size + 1, 2, none⟩ = some (.int .i64 3) := bi2.cell 2
        have bi2_3 : World.cell? wq ⟨w.heap.size + 1, 3, none⟩ = some (.int .u8 3) := bi2.cell 3
        have bi2_4 : World.cell? wq ⟨w.heap.size + 1, 4, none⟩ = some (.int .i64 3) := bi2.cell 4
        have bi2_5 : World.cell? wq ⟨w.heap.size + 1, 5, none⟩ = some (.int .i64 8) := bi2.cell 5
        have bi2_6 : World.cell? wq ⟨w.heap.size + 1, 6, none⟩ = some (.int .u8 3) := bi2.cell 6
        have bi2_7 : World.cell? wq ⟨w.heap.size + 1, 7, none⟩ = some (.int .i64 3) := bi2.cell 7
        have bi2_8 : World.cell? wq ⟨w.heap.size + 1, 8, none⟩ = some (.int .i64 9) := bi2.cell 8
        have bi2_l := bi2.lt
        have btb_0 : World.cell? wq ⟨w.heap.size + 1 + 1, 0, none⟩ = some (.slice (some ⟨w.heap.size, 0, none⟩) 2 2) := btb.cell 0
        have btb_1 : World.cell? wq ⟨w.heap.size + 1 + 1, 1, none⟩ = some (.slice (some ⟨w.heap.size + 1, 0, none⟩) 3 3) := btb.cell 1
        have btb_l := btb.lt
        have bT_0 : World.cell? wq ⟨w.heap.size + 1 + 1 + 1, 0, none⟩ = some (.int .i64 0) := bT.cell 0
        have bT_1 : World.cell? wq ⟨w.heap.size + 1 + 1 + 1, 1, none⟩ = some (.slice (some ⟨w.heap.size + 1 + 1, 0, none⟩) 2 2) := bT.cell 1
        have bT_l := bT.lt
        go_wp2_with fail
        clear bi1_0 bi1_1 bi1_2 bi1_3 bi1_4 bi1_5 bi1_l
        clear bi2_0 bi2_1 bi2_2 bi2_3 bi2_4 bi2_5 bi2_6 bi2_7 bi2_8 bi2_l
        clear btb_0 btb_1 btb_l
        clear bT_0 bT_1 bT_l
        refine (dealloc_All (l := [⟨0, one34⟩, ⟨0, []⟩]) (run := [8]) (by repeat (first | exact Kts.lit2 _ _ _ _ _ _ _ _ _ (hTw.ext (by repeat (first | exact Ext.refl _ | apply Ext.alloc | apply Ext.drew))) (Sts.nil _) (by simp) | refine Kts.ext ?_ (Ext.refl _).drew | refine Kts.ext ?_ ((Ext.refl _).alloc _))) (by (repeat (first | exact Nts.nil _ | exact Nts.litl _ _ _ _ _ (by first | (simp; done) | exact hsz.out | (have := hsz.out; simp; omega)) rfl (by simp [maxLen]) rfl | refine Nts.ext ?_ (Ext.refl _).drew | refine Nts.ext ?_ ((Ext.refl _).alloc _) | refine Nts.ext ?_ (by assumption))))).mono ?_
        rintro e w111 ⟨rfl, hZ110⟩
        have hE110 : Ext wq w111 := Ext.trans (by repeat (first | exact Ext.refl _ | apply Ext.alloc | apply Ext.drew)) hZ110
        replace hp := hp.ext hE110
        replace bi1 := bi1.ext hE110
        replace bi2 := bi2.ext hE110
        replace btb := btb.ext hE110
        replace bT := bT.ext hE110
        replace hTw := hTw.ext hE110
        replace hq3 := hq3.ext hE110
        have hF110 := Ext.trans (hF109) hE110
        rw [dn_j]
        have bi1_0 : World.cell? w111 ⟨w.heap.size, 0, none⟩ = some (.int .u8 1) := bi1.cell 0
        have bi1_1 : World.cell? w111 ⟨w.heap.size, 1, none⟩ = some (.int .i64 1) := bi1.cell 1
        have bi1_2 : World.cell? w111 ⟨w.heap.size, 2, none⟩ = some (.int .i64 0) := bi1.cell 2
        have bi1_3 : World.cell? w111 ⟨w.heap.size, 3, none⟩ = some (.int .u8 4) := bi1.cell 3
        have bi1_4 : World.cell? w111 ⟨w.heap.size, 4, none⟩ = some (.int .i64 2) := bi1.cell 4
        have bi1_5 : World.cell? w111 ⟨w.heap.size, 5, none⟩ = some (.int .i64 9) := bi1.cell 5
        have bi1_l := bi1.lt
        have bi2_0 : World.cell? w111 ⟨w.heap.size + 1, 0, none⟩ = some (.int .u8 1) := bi2.cell 0
        have bi2_1 : World.cell? w111 ⟨w.heap.size + 1, 1, none⟩ = some (.int .i64 1) := bi2.cell 1
        have bi2_2 : World.cell? w111 ⟨w.heap.size + 1, 2, none⟩ = some (.int .i64 3) := bi2.cell 2
        have bi2_3 : World.cell? w111 ⟨w.heap.size + 1, 3, none⟩ = some (.int .u8 3) := bi2.cell 3
        have bi2_4 : World.cell? w111 ⟨w.heap.size + 1, 4, none⟩ = some (.int .i64 3) := bi2.cell 4
        have bi2_5 : World.cell? w111 ⟨w.heap.size + 1, 5, none⟩ = some (.int .i64 8) := bi2.cell 5
        have bi2_6 : World.cell? w111 ⟨w.heap.size + 1, 6, none⟩ = some (.int .u8 3) := bi2.cell 6
        have bi2_7 : World.cell? w111 ⟨w.heap.size + 1, 7, none⟩ = some (.int .i64 3) := bi2.cell 7
        have bi2_8 : World.cell? w111 ⟨w.heap.size + 1, 8, none⟩ = some (.int .i64 9) := bi2.cell 8
        have bi2_l := bi2.lt
        have btb_0 : World.cell? w111 ⟨w.heap.size + 1 + 1, 0, none⟩ = some (.slice (some ⟨w.heap.size, 0, none⟩) 2 2) := btb.cell 0
        have btb_1 : World.cell? w111 ⟨w.heap.size + 1 + 1, 1, none⟩ = some (.slice (some ⟨w.heap.size + 1, 0, none⟩) 3 3) := btb.cell 1
        have btb_l := btb.lt
        have bT_0 : World.cell? w111 ⟨w.heap.size + 1 + 1 + 1, 0, none⟩ = some (.int .i64 0) := bT.cell 0
        have bT_1 : World.cell? w111 ⟨w.heap.size + 1 + 1 + 1, 1, none⟩ = some (.slice (some ⟨w.heap.size + 1 + 1, 0, none⟩) 2 2) := bT.cell 1
        have bT_l := bT.lt
        go_wp2_with fail
        clear bi1_0 bi1_1 bi1_2 bi1_3 bi1_4 bi1_5 bi1_l
        clear bi2_0 bi2_1 bi2_2 bi2_3 bi2_4 bi2_5 bi2_6 bi2_7 bi2_8 bi2_l
        clear btb_0 btb_1 btb_l
        clear bT_0 bT_1 bT_l
        refine (dealloc_All (run := []) (Kts.nil _) (Nts.nil _)).mono ?_
        rintro e w112 ⟨rfl, hZ111⟩
        have hE111 : Ext w111 w112 := Ext.trans (by repeat (first | exact Ext.refl _ | apply Ext.alloc | apply Ext.drew)) hZ111
        replace hp := hp.ext hE111
        replace bi1 := bi1.ext hE111
        replace bi2 := bi2.ext hE111
        replace btb := btb.ext hE111
        replace bT := bT.ext hE111
        replace hTw := hTw.ext hE111
        replace hq3 := hq3.ext hE111
        have hF111 := Ext.trans (hF110) hE111
        rw [dn_k]
        have bi1_0 : World.cell? w112 ⟨w.heap.size, 0, none⟩ = some (.int .u8 1) := bi1.cell 0
        have bi1_1 : World.cell? w112 ⟨w.heap.size, 1, none⟩ = some (.int .i64 1) := bi1.cell 1
        have bi1_2 : World.cell? w112 ⟨w.heap.size, 2, none⟩ = some (.int .i64 0) := bi1.cell 2
        have bi1_3 : World.cell? w112 ⟨w.heap.size, 3, none⟩ = some (.int .u8 4) := bi1.cell 3
        have bi1_4 : World.cell? w112 ⟨w.heap.size, 4, none⟩ = some (.int .i64 2) := bi1.cell 4
        have bi1_5 : World.cell? w112 ⟨w.heap.size, 5, none⟩ = some (.int .i64 9) := bi1.cell 5
        have bi1_l := bi1.lt
        have bi2_0 : World.cell? w112 ⟨w.heap.size + 1, 0, none⟩ = some (.int .u8 1) := bi2.cell 0
        have bi2_1 : World.cell? w112 ⟨w.heap.size + 1, 1, none⟩ = some (.int .i64 1) := bi2.cell 1
        have bi2_2 : World.cell? w112 ⟨w.heap.size + 1, 2, none⟩ = some (.int .i64 3) := bi2.cell 2
        have bi2_3 : World.cell? w112 ⟨w.heap.size + 1, 3, none⟩ = some (.int .u8 3) := bi2.cell 3
        have bi2_4 : World.cell? w112 ⟨w.heap.size + 1, 4, none⟩ = some (.int .i64 3) := bi2.cell 4
        have bi2_5 : World.cell? w112 ⟨w.heap.size + 1, 5, none⟩ = some (.int .i64 8) := bi2.cell 5
        have bi2_6 : World.cell? w112 ⟨w.heap.size + 1, 6, none⟩ = some (.int .u8 3) := bi2.cell 6
        have bi2_7 : World.cell? w112 ⟨w.heap.size + 1, 7, none⟩ = some (.int .i64 3) := bi2.cell 7
        have bi2_8 : World.cell? w112 ⟨w.heap.size + 1, 8, none⟩ = some (.int .i64 9) := bi2.cell 8
        have bi2_l := bi2.lt
        have btb_0 : World.cell? w112 ⟨w.heap.size + 1 + 1, 0, none⟩ = some (.slice (some ⟨w.heap.size, 0, none⟩) 2 2) := btb.cell 0
        have btb_1 : World.cell? w112 ⟨w.heap.size + 1 + 1, 1, none⟩ = some (.slice (some ⟨w.heap.size + 1, 0, none⟩) 3 3) := btb.cell 1
        have btb_l := btb.lt
        have bT_0 : World.cell? w112 ⟨w.heap.size + 1 + 1 + 1, 0, none⟩ = some (.int .i64 0) := bT.cell 0
        have bT_1 : World.cell? w112 ⟨w.heap.size + 1 + 1 + 1, 1, none⟩ = some (.slice (some ⟨w.heap.size + 1 + 1, 0, none⟩) 2 2) := bT.cell 1
        have bT_l := bT.lt
        go_wp2
        clear bi1_0 bi1_1 bi1_2 bi1_3 bi1_4 bi1_5 bi1_l
        clear bi2_0 bi2_1 bi2_2 bi2_3 bi2_4 bi2_5 bi2_6 bi2_7 bi2_8 bi2_l
        clear btb_0 btb_1 btb_l
        clear bT_0 bT_1 bT_l
        have bi1_0 : World.cell? w112 ⟨w.heap.size, 0, none⟩ = some (.int .u8 1) := bi1.cell 0
        have bi1_1 : World.cell? w112 ⟨w.heap.size, 1, none⟩ = some (.int .i64 1) := bi1.cell 1
        have bi1_2 : World.cell? w112 ⟨w.heap.size, 2, none⟩ = some (.int .i64 0) := bi1.cell 2
        have bi1_3 : World.cell? w112 ⟨w.heap.size, 3, none⟩ = some (.int .u8 4) := bi1.cell 3
        have bi1_4 : World.cell? w112 ⟨w.heap.size, 4, none⟩ = some (.int .i64 2) := bi1.cell 4
        have bi1_5 : World.cell? w112 ⟨w.heap.size, 5, none⟩ = some (.int .i64 9) := bi1.cell 5
        have bi1_l := bi1.lt
        have bi2_0 : World.cell? w112 ⟨w.heap.size + 1, 0, none⟩ = some (.int .u8 1) := bi2.cell 0
        have bi2_1 : World.cell? w112 ⟨w.heap.size + 1, 1, none⟩ = some (.int .i64 1) := bi2.cell 1
        have bi2_2 : World.cell? w112 ⟨w.heap.size + 1, 2, none⟩ = some (.int .i64 3) := bi2.cell 2
        have bi2_3 : World.cell? w112 ⟨w.heap.size + 1, 3, none⟩ = some (.int .u8 3) := bi2.cell 3
        have bi2_4 : World.cell? w112 ⟨w.heap.size + 1, 4, none⟩ = some (.int .i64 3) := bi2.cell 4
        have bi2_5 : World.cell? w112 ⟨w.heap.size + 1, 5, none⟩ = some (.int .i64 8) := bi2.cell 5
        have bi2_6 : World.cell? w112 ⟨w.heap.size + 1, 6, none⟩ = some (.int .u8 3) := bi2.cell 6
        have bi2_7 : World.cell? w112 ⟨w.heap.size + 1, 7, none⟩ = some (.int .i64 3) := bi2.cell 7
        have bi2_8 : World.cell? w112 ⟨w.heap.size + 1, 8, none⟩ = some (.int .i64 9) := bi2.cell 8
        have bi2_l := bi2.lt
        have btb_0 : World.cell? w112 ⟨w.heap.size + 1 + 1, 0, none⟩ = some (.slice (some ⟨w.heap.size, 0, none⟩) 2 2) := btb.cell 0
        have btb_1 : World.cell? w112 ⟨w.heap.size + 1 + 1, 1, none⟩ = some (.slice (some ⟨w.heap.size + 1, 0, none⟩) 3 3) := btb.cell 1
        have btb_l := btb.lt
        have bT_0 : World.cell? w112 ⟨w.heap.size + 1 + 1 + 1, 0, none⟩ = some (.int .i64 0) := bT.cell 0
        have bT_1 : World.cell? w112 ⟨w.heap.size + 1 + 1 + 1, 1, none⟩ = some (.slice (some ⟨w.heap.size + 1 + 1, 0, none⟩) 2 2) := bT.cell 1
        have bT_l := bT.lt
        refine wp_region_go (L := [Pr.eq (.bool true), Pr.eq (.bool true), Pr.eq (.bool true), Pr.eq (.bool true), Pr.eq (.int .i64 8), Pr.eq (.bool true), Pr.eq (.bool true), Pr.eq (.bool true), Pr.eq (.int .i64 8), Pr.eq (.bool true), Pr.eq (.bool true), Pr.eq (.bool true), Pr.eq (.int .i64 8), Pr.eq (.bool true), Pr.eq (.bool true), Pr.eq (.bool true), Pr.eq (.int .i64 8), Pr.eq (.bool true), Pr.eq (.bool true), Pr.eq (.bool true), Pr.eq (.int .i64 0), Pr.eq (.bool true), Pr.eq (.bool true), Pr.eq (.bool true), Pr.eq (.slice ahq3 kept34.length chq3), Pr.eq (.pointer (some ⟨w.heap.size + 1 + 1 + 1, 1, none⟩)), Pr.eq (.slice (some ⟨w.heap.size + 1 + 1, 0, none⟩) 2 2), Pr.eq (.pointer (some ⟨w.heap.size + 1 + 1, 0, none⟩)), Pr.eq (.slice (some ⟨w.heap.size, 0, none⟩) 2 2), Pr.eq (.pointer (some ⟨w.heap.size, 3, none⟩)), Pr.eq (.agg #[.int .u8 4, .int .i64 2, .int .i64 9]), Pr.eq (.pointer (some ⟨w.heap.size + 1 + 1 + 1, 1, none⟩)), Pr.eq (.slice (some ⟨w.heap.size + 1 + 1, 0, none⟩) 2 2), Pr.eq (.pointer (some ⟨w.heap.size + 1 + 1, 1, none⟩)), Pr.eq (.slice (some ⟨w.heap.size + 1, 0, none⟩) 3 3), Pr.eq (.pointer (some ⟨w.heap.size + 1, 0, none⟩)), Pr.eq (.agg #[.int .u8 1, .int .i64 1, .int .i64 3]), Pr.eq (.pointer (some ⟨w.heap.size + 1 + 1 + 1, 1, none⟩)), Pr.eq (.slice (some ⟨w.heap.size + 1 + 1, 0, none⟩) 2 2), Pr.eq (.pointer (some ⟨w.heap.size + 1 + 1, 1, none⟩)), Pr.eq (.slice (some ⟨w.heap.size + 1, 0, none⟩) 3 3), Pr.eq (.pointer (some ⟨w.heap.size + 1, 6, none⟩)), Pr.eq (.agg #[.int .u8 3, .int .i64 3, .int .i64 9]), PrI kept34, Pr.eq (.bool true), Pr.eq (.bool true), Pr.eq (.bool true), Pr.eq (.int .i64 8), Pr.eq (.bool true), Pr.eq (.bool true), Pr.eq (.bool true), Pr.eq (.int .i64 4), Pr.eq (.bool true), Pr.eq (.bool true), Pr.eq (.bool true), Pr.eq (.int .i64 400), Pr.eq (.bool true), Pr.eq (.bool true), Pr.eq (.bool true), Pr.eq (.int .u8 0), Pr.eq (.bool true), Pr.eq (.bool true), Pr.eq (.bool true), Pr.eq (.int .i64 0), Pr.eq (.bool true), Pr.eq (.bool true), Pr.eq (.bool true), Pr.eq (.int .i64 1), Pr.eq (.bool true), Pr.eq (.bool true), Pr.eq (.bool true), Pr.eq (.int .u8 2), Pr.eq (.bool true), Pr.eq (.bool true), Pr.eq (.bool true), Pr.eq (.int .i64 0), Pr.eq (.bool true), Pr.eq (.bool true), Pr.eq (.bool true), Pr.eq (.int .i64 8), Pr.eq (.bool true), Pr.eq (.bool true), Pr.eq (.bool true), Pr.eq (.int .i64 0), Pr.eq (.bool true), Pr.eq (.bool true), Pr.eq (.bool true), Pr.eq (.int .u8 0), Pr.eq (.bool true), Pr.eq (.bool true), Pr.eq (.bool true), Pr.eq (.int .i64 0), Pr.eq (.bool true), Pr.eq (.bool true), Pr.eq (.bool true), Pr.eq (.agg #[.int .i64 0, .slice (some ⟨w.heap.size + 1 + 1, 0, none⟩) 2 2]), PrN [1, 2, 4], Pr.eq (.bool true), Pr.eq (.bool true), Pr.eq (.bool true), Pr.eq (.agg #[.int .i64 0, .slice (some ⟨w.heap.size + 1 + 1, 0, none⟩) 2 2]), PrN [8], Pr.eq (.bool true), Pr.eq (.bool true), Pr.eq (.bool true)]) (by kernel_rfl) (by kernel_rfl) ?_ ?_
        · refine ⟨?_, ?_, ?_, ?_, ?_, ?_, ?_, ?_, ?_, ?_, ?_, ?_, ?_, ?_, ?_, ?_, ?_, ?_, ?_, ?_, ?_, ?_, ?_, ?_, ?_, ?_, ?_, ?_, ?_, ?_, ?_, ?_, ?_, ?_, ?_, ?_, ?_, ?_, ?_, ?_, ?_, ?_, ?_, ?_, ?_, ?_, ?_, ?_, ?_, ?_, ?_, ?_, ?_, ?_, ?_, ?_, ?_, ?_, ?_, ?_, ?_, ?_, ?_, ?_, ?_, ?_, ?_, ?_, ?_, ?_, ?_, ?_, ?_, ?_, ?_, ?_, ?_, ?_, ?_, ?_, ?_, ?_, ?_, ?_, ?_, ?_, ?_, ?_, ?_, ?_, ?_, ?_, ?_, ?_, ?_, ?_, ?_, ?_, ?_, ?_, ?_, ?_, ?_, ?_, ?_, trivial⟩
          · intro a wv hE hd ho
            refine .inl ⟨rfl, ?_⟩
            intro K hK
            have hF : Ext w112 wv := Ext.trans ((Ext.refl _).drew) hE
            clear bi1_0 bi1_1 bi1_2 bi1_3 bi1_4 bi1_5 bi2_0 bi2_1 bi2_2 bi2_3 bi2_4 bi2_5 bi2_6 bi2_7 bi2_8 btb_0 btb_1 bT_0 bT_1
            clear hd ho
            replace hK := Lib.hid hK
            go_simp
            exact hK.out _ _ rfl (Ext.refl _)
          · intro a wv hE hd ho
            refine .inl ⟨wanted_by 128 rfl rfl (hd 0 (by kernel_rfl)), ?_⟩
            intro K hK
            have hF : Ext w112 wv := Ext.trans ((Ext.refl _).drew) hE
            clear bi1_0 bi1_1 bi1_2 bi1_3 bi1_4 bi1_5 bi2_0 bi2_1 bi2_2 bi2_3 bi2_4 bi2_5 bi2_6 bi2_7 bi2_8 btb_0 btb_1 bT_0 bT_1
            clear hd ho
            replace hK := Lib.hid hK
            go_simp
            refine (law34_alive (hp.ext hF)).mono ?_
            rintro e wz ⟨rfl, hZ⟩
            go_simp
            exact hK.out _ _ rfl hZ
          · intro a wv hE hd ho
            refine .inl ⟨rfl, ?_⟩
            intro K hK
            have hF : Ext w112 wv := Ext.trans ((Ext.refl _).drew) hE
            have e128 : a.eval (.tmp 128) = .bool true := hd 0 (by kernel_rfl)
            rw [eval_tmp] at e128
            have e129 : a.eval (.tmp 129) = .bool true := hd 1 (by kernel_rfl)
            rw [eval_tmp] at e129
            clear bi1_0 bi1_1 bi1_2 bi1_3 bi1_4 bi1_5 bi2_0 bi2_1 bi2_2 bi2_3 bi2_4 bi2_5 bi2_6 bi2_7 bi2_8 btb_0 btb_1 bT_0 bT_1
            clear hd ho
            replace hK := Lib.hid hK
            go_simp
            exact hK.out _ _ rfl (Ext.refl _)
          · intro a wv hE hd ho
            refine .inl ⟨rfl, ?_⟩
            intro K hK
            have hF : Ext w112 wv := Ext.trans ((Ext.refl _).drew) hE
            have e130 : a.eval (.tmp 130) = .bool true := hd 2 (by kernel_rfl)
            rw [eval_tmp] at e130
            clear bi1_0 bi1_1 bi1_2 bi1_3 bi1_4 bi1_5 bi2_0 bi2_1 bi2_2 bi2_3 bi2_4 bi2_5 bi2_6 bi2_7 bi2_8 btb_0 btb_1 bT_0 bT_1
            clear hd ho
            replace hK := Lib.hid hK
            go_simp
            exact hK.out _ _ rfl (Ext.refl _)
          · intro a wv hE hd ho
            refine .inl ⟨wanted_by 131 rfl rfl (hd 3 (by kernel_rfl)), ?_⟩
            intro K hK
            have hF : Ext w112 wv := Ext.trans ((Ext.refl _).drew) hE
            have e5 : a.eval (.tmp 5) = .int .i64 8 := ho 5 (by kernel_rfl)
            rw [eval_tmp] at e5
            clear bi1_0 bi1_1 bi1_2 bi1_3 bi1_4 bi1_5 bi2_0 bi2_1 bi2_2 bi2_3 bi2_4 bi2_5 bi2_6 bi2_7 bi2_8 btb_0 btb_1 bT_0 bT_1
            clear hd ho
            replace hK := Lib.hid hK
            go_simp
            exact hK.out _ _ rfl (Ext.refl _)
          · intro a wv hE hd ho
            refine .inl ⟨wanted_by 131 rfl rfl (hd 3 (by kernel_rfl)), ?_⟩
            intro K hK
            have hF : Ext w112 wv := Ext.trans ((Ext.refl _).drew) hE
            have e132 : a.eval (.tmp 132) = .int .i64 8 := hd 4 (by kernel_rfl)
            rw [eval_tmp] at e132
            clear bi1_0 bi1_1 bi1_2 bi1_3 bi1_4 bi1_5 bi2_0 bi2_1 bi2_2 bi2_3 bi2_4 bi2_5 bi2_6 bi2_7 bi2_8 btb_0 btb_1 bT_0 bT_1
            clear hd ho
            replace hK := Lib.hid hK
            go_simp
            exact hK.out _ _ rfl (Ext.refl _)
          · intro a wv hE hd ho
            refine .inl ⟨rfl, ?_⟩
            intro K hK
            have hF : Ext w112 wv := Ext.trans ((Ext.refl _).drew) hE
            have e131 : a.eval (.tmp 131) = .bool true := hd 3 (by kernel_rfl)
            rw [eval_tmp] at e131
            have e133 : a.eval (.tmp 133) = .bool true := hd 5 (by kernel_rfl)
            rw [eval_tmp] at e133
            clear bi1_0 bi1_1 bi1_2 bi1_3 bi1_4 bi1_5 bi2_0 bi2_1 bi2_2 bi2_3 bi2_4 bi2_5 bi2_6 bi2_7 bi2_8 btb_0 btb_1 bT_0 bT_1
            clear hd ho
            replace hK := Lib.hid hK
            go_simp
            exact hK.out _ _ rfl (Ext.refl _)
          · intro a wv hE hd ho
            refine .inl ⟨rfl, ?_⟩
            intro K hK
            have hF : Ext w112 wv := Ext.trans ((Ext.refl _).drew) hE
            have e134 : a.eval (.tmp 134) = .bool true := hd 6 (by kernel_rfl)
            rw [eval_tmp] at e134
            clear bi1_0 bi1_1 bi1_2 bi1_3 bi1_4 bi1_5 bi2_0 bi2_1 bi2_2 bi2_3 bi2_4 bi2_5 bi2_6 bi2_7 bi2_8 btb_0 btb_1 bT_0 bT_1
            clear hd ho
            replace hK := Lib.hid hK
            go_simp
            exact hK.out _ _ rfl (Ext.refl _)
          · intro a wv hE hd ho
            refine .inl ⟨wanted_by 135 rfl rfl (hd 7 (by kernel_rfl)), ?_⟩
            intro K hK
            have hF : Ext w112 wv := Ext.trans ((Ext.refl _).drew) hE
            have e7 : a.eval (.tmp 7) = .int .i64 8 := ho 7 (by kernel_rfl)
            rw [eval_tmp] at e7
            clear bi1_0 bi1_1 bi1_2 bi1_3 bi1_4 bi1_5 bi2_0 bi2_1 bi2_2 bi2_3 bi2_4 bi2_5 bi2_6 bi2_7 bi2_8 btb_0 btb_1 bT_0 bT_1
            clear hd ho
            replace hK := Lib.hid hK
            go_simp
            exact hK.out _ _ rfl (Ext.refl _)
          · intro a wv hE hd ho
            refine .inl ⟨wanted_by 135 rfl rfl (hd 7 (by kernel_rfl)), ?_⟩
            intro K hK
            have hF : Ext w112 wv := Ext.trans ((Ext.refl _).drew) hE
            have e136 : a.eval (.tmp 136) = .int .i64 8 := hd 8 (by kernel_rfl)
            rw [eval_tmp] at e136
            clear bi1_0 bi1_1 bi1_2 bi1_3 bi1_4 bi1_5 bi2_0 bi2_1 bi2_2 bi2_3 bi2_4 bi2_5 bi2_6 bi2_7 bi2_8 btb_0 btb_1 bT_0 bT_1
            clear hd ho
            replace hK := Lib.hid hK
            go_simp
            exact hK.out _ _ rfl (Ext.refl _)
          · intro a wv hE hd ho
            refine .inl ⟨rfl, ?_⟩
            intro K hK
            have hF : Ext w112 wv := Ext.trans ((Ext.refl _).drew) hE
            have e135 : a.eval (.tmp 135) = .bool true := hd 7 (by kernel_rfl)
            rw [eval_tmp] at e135
            have e137 : a.eval (.tmp 137) = .bool true := hd 9 (by kernel_rfl)
            rw [eval_tmp] at e137
            clear bi1_0 bi1_1 bi1_2 bi1_3 bi1_4 bi1_5 bi2_0 bi2_1 bi2_2 bi2_3 bi2_4 bi2_5 bi2_6 bi2_7 bi2_8 btb_0 btb_1 bT_0 bT_1
            clear hd ho
            replace hK := Lib.hid hK
            go_simp
            exact hK.out _ _ rfl (Ext.refl _)
          · intro a wv hE hd ho
            refine .inl ⟨rfl, ?_⟩
            intro K hK
            have hF : Ext w112 wv := Ext.trans ((Ext.refl _).drew) hE
            have e138 : a.eval (.tmp 138) = .bool true := hd 10 (by kernel_rfl)
            rw [eval_tmp] at e138
            clear bi1_0 bi1_1 bi1_2 bi1_3 bi1_4 bi1_5 bi2_0 bi2_1 bi2_2 bi2_3 bi2_4 bi2_5 bi2_6 bi2_7 bi2_8 btb_0 btb_1 bT_0 bT_1
            clear hd ho
            replace hK := Lib.hid hK
            go_simp
            exact hK.out _ _ rfl (Ext.refl _)
          · intro a wv hE hd ho
            refine .inl ⟨wanted_by 139 rfl rfl (hd 11 (by kernel_rfl)), ?_⟩
            intro K hK
            have hF : Ext w112 wv := Ext.trans ((Ext.refl _).drew) hE
            have e9 : a.eval (.tmp 9) = .int .i64 8 := ho 9 (by kernel_rfl)
            rw [eval_tmp] at e9
            clear bi1_0 bi1_1 bi1_2 bi1_3 bi1_4 bi1_5 bi2_0 bi2_1 bi2_2 bi2_3 bi2_4 bi2_5 bi2_6 bi2_7 bi2_8 btb_0 btb_1 bT_0 bT_1
            clear hd ho
            replace hK := Lib.hid hK
            go_simp
            exact hK.out _ _ rfl (Ext.refl _)
          · intro a wv hE hd ho
            refine .inl ⟨wanted_by 139 rfl rfl (hd 11 (by kernel_rfl)), ?_⟩
            intro K hK
            have hF : Ext w112 wv := Ext.trans ((Ext.refl _).drew) hE
            have e140 : a.eval (.tmp 140) = .int .i64 8 := hd 12 (by kernel_rfl)
            rw [eval_tmp] at e140
            clear bi1_0 bi1_1 bi1_2 bi1_3 bi1_4 bi1_5 bi2_0 bi2_1 bi2_2 bi2_3 bi2_4 bi2_5 bi2_6 bi2_7 bi2_8 btb_0 btb_1 bT_0 bT_1
            clear hd ho
            replace hK := Lib.hid hK
            go_simp
            exact hK.out _ _ rfl (Ext.refl _)
          · intro a wv hE hd ho
            refine .inl ⟨rfl, ?_⟩
            intro K hK
            have hF : Ext w112 wv := Ext.trans ((Ext.refl _).drew) hE
            have e139 : a.eval (.tmp 139) = .bool true := hd 11 (by kernel_rfl)
            rw [eval_tmp] at e139
            have e141 : a.eval (.tmp 141) = .bool true := hd 13 (by kernel_rfl)
            rw [eval_tmp] at e141
            clear bi1_0 bi1_1 bi1_2 bi1_3 bi1_4 bi1_5 bi2_0 bi2_1 bi2_2 bi2_3 bi2_4 bi2_5 bi2_6 bi2_7 bi2_8 btb_0 btb_1 bT_0 bT_1
            clear hd ho
            replace hK := Lib.hid hK
            go_simp
            exact hK.out _ _ rfl (Ext.refl _)
          · intro a wv hE hd ho
            refine .inl ⟨rfl, ?_⟩
            intro K hK
            have hF : Ext w112 wv := Ext.trans ((Ext.refl _).drew) hE
            have e142 : a.eval (.tmp 142) = .bool true := hd 14 (by kernel_rfl)
            rw [eval_tmp] at e142
            clear bi1_0 bi1_1 bi1_2 bi1_3 bi1_4 bi1_5 bi2_0 bi2_1 bi2_2 bi2_3 bi2_4 bi2_5 bi2_6 bi2_7 bi2_8 btb_0 btb_1 bT_0 bT_1
            clear hd ho
            replace hK := Lib.hid hK
            go_simp
            exact hK.out _ _ rfl (Ext.refl _)
          · intro a wv hE hd ho
            refine .inl ⟨wanted_by 143 rfl rfl (hd 15 (by kernel_rfl)), ?_⟩
            intro K hK
            have hF : Ext w112 wv := Ext.trans ((Ext.refl _).drew) hE
            have e11 : a.eval (.tmp 11) = .int .i64 8 := ho 11 (by kernel_rfl)
            rw [eval_tmp] at e11
            clear bi1_0 bi1_1 bi1_2 bi1_3 bi1_4 bi1_5 bi2_0 bi2_1 bi2_2 bi2_3 bi2_4 bi2_5 bi2_6 bi2_7 bi2_8 btb_0 btb_1 bT_0 bT_1
            clear hd ho
            replace hK := Lib.hid hK
            go_simp
            exact hK.out _ _ rfl (Ext.refl _)
          · intro a wv hE hd ho
            refine .inl ⟨wanted_by 143 rfl rfl (hd 15 (by kernel_rfl)), ?_⟩
            intro K hK
            have hF : Ext w112 wv := Ext.trans ((Ext.refl _).drew) hE
            have e144 : a.eval (.tmp 144) = .int .i64 8 := hd 16 (by kernel_rfl)
            rw [eval_tmp] at e144
            clear bi1_0 bi1_1 bi1_2 bi1_3 bi1_4 bi1_5 bi2_0 bi2_1 bi2_2 bi2_3 bi2_4 bi2_5 bi2_6 bi2_7 bi2_8 btb_0 btb_1 bT_0 bT_1
            clear hd ho
            replace hK := Lib.hid hK
            go_simp
            exact hK.out _ _ rfl (Ext.refl _)
          · intro a wv hE hd ho
            refine .inl ⟨rfl, ?_⟩
            intro K hK
            have hF : Ext w112 wv := Ext.trans ((Ext.refl _).drew) hE
            have e143 : a.eval (.tmp 143) = .bool true := hd 15 (by kernel_rfl)
            rw [eval_tmp] at e143
            have e145 : a.eval (.tmp 145) = .bool true := hd 17 (by kernel_rfl)
            rw [eval_tmp] at e145
            clear bi1_0 bi1_1 bi1_2 bi1_3 bi1_4 bi1_5 bi2_0 bi2_1 bi2_2 bi2_3 bi2_4 bi2_5 bi2_6 bi2_7 bi2_8 btb_0 btb_1 bT_0 bT_1
            clear hd ho
            replace hK := Lib.hid hK
            go_simp
            exact hK.out _ _ rfl (Ext.refl _)
          · intro a wv hE hd ho
            refine .inl ⟨rfl, ?_⟩
            intro K hK
            have hF : Ext w112 wv := Ext.trans ((Ext.refl _).drew) hE
            have e146 : a.eval (.tmp 146) = .bool true := hd 18 (by kernel_rfl)
            rw [eval_tmp] at e146
            clear bi1_0 bi1_1 bi1_2 bi1_3 bi1_4 bi1_5 bi2_0 bi2_1 bi2_2 bi2_3 bi2_4 bi2_5 bi2_6 bi2_7 bi2_8 btb_0 btb_1 bT_0 bT_1
            clear hd ho
            replace hK := Lib.hid hK
            go_simp
            exact hK.out _ _ rfl (Ext.refl _)
          · intro a wv hE hd ho
            refine .inl ⟨wanted_by 147 rfl rfl (hd 19 (by kernel_rfl)), ?_⟩
            intro K hK
            have hF : Ext w112 wv := Ext.trans ((Ext.refl _).drew) hE
            have e13 : a.eval (.tmp 13) = .int .i64 0 := ho 13 (by kernel_rfl)
            rw [eval_tmp] at e13
            clear bi1_0 bi1_1 bi1_2 bi1_3 bi1_4 bi1_5 bi2_0 bi2_1 bi2_2 bi2_3 bi2_4 bi2_5 bi2_6 bi2_7 bi2_8 btb_0 btb_1 bT_0 bT_1
            clear hd ho
            replace hK := Lib.hid hK
            go_simp
            exact hK.out _ _ rfl (Ext.refl _)
          · intro a wv hE hd ho
            refine .inl ⟨wanted_by 147 rfl rfl (hd 19 (by kernel_rfl)), ?_⟩
            intro K hK
            have hF : Ext w112 wv := Ext.trans ((Ext.refl _).drew) hE
            have e148 : a.eval (.tmp 148) = .int .i64 0 := hd 20 (by kernel_rfl)
            rw [eval_tmp] at e148
            clear bi1_0 bi1_1 bi1_2 bi1_3 bi1_4 bi1_5 bi2_0 bi2_1 bi2_2 bi2_3 bi2_4 bi2_5 bi2_6 bi2_7 bi2_8 btb_0 btb_1 bT_0 bT_1
            clear hd ho
            replace hK := Lib.hid hK
            go_simp
            exact hK.out _ _ rfl (Ext.refl _)
          · intro a wv hE hd ho
            refine .inl ⟨rfl, ?_⟩
            intro K hK
            have hF : Ext w112 wv := Ext.trans ((Ext.refl _).drew) hE
            have e147 : a.eval (.tmp 147) = .bool true := hd 19 (by kernel_rfl)
            rw [eval_tmp] at e147
            have e149 : a.eval (.tmp 149) = .bool true := hd 21 (by kernel_rfl)
            rw [eval_tmp] at e149
            clear bi1_0 bi1_1 bi1_2 bi1_3 bi1_4 bi1_5 bi2_0 bi2_1 bi2_2 bi2_3 bi2_4 bi2_5 bi2_6 bi2_7 bi2_8 btb_0 btb_1 bT_0 bT_1
            clear hd ho
            replace hK := Lib.hid hK
            go_simp
            exact hK.out _ _ rfl (Ext.refl _)
          · intro a wv hE hd ho
            refine .inl ⟨rfl, ?_⟩
            intro K hK
            have hF : Ext w112 wv := Ext.trans ((Ext.refl _).drew) hE
            have e150 : a.eval (.tmp 150) = .bool true := hd 22 (by kernel_rfl)
            rw [eval_tmp] at e150
            clear bi1_0 bi1_1 bi1_2 bi1_3 bi1_4 bi1_5 bi2_0 bi2_1 bi2_2 bi2_3 bi2_4 bi2_5 bi2_6 bi2_7 bi2_8 btb_0 btb_1 bT_0 bT_1
            clear hd ho
            replace hK := Lib.hid hK
            go_simp
            exact hK.out _ _ rfl (Ext.refl _)
          · intro a wv hE hd ho
            refine .inl ⟨wanted_by 151 rfl rfl (hd 23 (by kernel_rfl)), ?_⟩
            intro K hK
            have hF : Ext w112 wv := Ext.trans ((Ext.refl _).drew) hE
            have e12 : a.eval (.tmp 12) = .slice ahq3 kept34.length chq3 := ho 12 (by kernel_rfl)
            rw [eval_tmp] at e12
            clear bi1_0 bi1_1 bi1_2 bi1_3 bi1_4 bi1_5 bi2_0 bi2_1 bi2_2 bi2_3 bi2_4 bi2_5 bi2_6 bi2_7 bi2_8 btb_0 btb_1 bT_0 bT_1
            clear hd ho
            replace hK := Lib.hid hK
            go_simp
            exact hK.out _ _ rfl (Ext.refl _)
          · intro a wv hE hd ho
            refine .inl ⟨wanted_by 151 rfl rfl (hd 23 (by kernel_rfl)), ?_⟩
            intro K hK
            have hF : Ext w112 wv := Ext.trans ((Ext.refl _).drew) hE
            have e1 : a.eval (.tmp 1) = .pointer (some ⟨w.heap.size + 1 + 1 + 1, 0, none⟩) := ho 1 (by kernel_rfl)
            rw [eval_tmp] at e1
            clear bi1_0 bi1_1 bi1_2 bi1_3 bi1_4 bi1_5 bi2_0 bi2_1 bi2_2 bi2_3 bi2_4 bi2_5 bi2_6 bi2_7 bi2_8 btb_0 btb_1 bT_0 bT_1
            clear hd ho
            replace hK := Lib.hid hK
            go_simp
            exact hK.out _ _ rfl (Ext.refl _)
          · intro a wv hE hd ho
            refine .inl ⟨wanted_by 151 rfl rfl (hd 23 (by kernel_rfl)), ?_⟩
            intro K hK
            have hF : Ext w112 wv := Ext.trans ((Ext.refl _).drew) hE
            have e153 : a.eval (.tmp 153) = .pointer (some ⟨w.heap.size + 1 + 1 + 1, 1, none⟩) := hd 25 (by kernel_rfl)
            rw [eval_tmp] at e153
            have bT_1w := Ext.cell hF bT_1
            clear bi1_0 bi1_1 bi1_2 bi1_3 bi1_4 bi1_5 bi2_0 bi2_1 bi2_2 bi2_3 bi2_4 bi2_5 bi2_6 bi2_7 bi2_8 btb_0 btb_1 bT_0 bT_1
            clear hd ho
            replace hK := Lib.hid hK
            go_simp
            exact hK.out _ _ rfl (Ext.refl _)
          · intro a wv hE hd ho
            refine .inl ⟨wanted_by 151 rfl rfl (hd 23 (by kernel_rfl)), ?_⟩
            intro K hK
            have hF : Ext w112 wv := Ext.trans ((Ext.refl _).drew) hE
            have e154 : a.eval (.tmp 154) = .slice (some ⟨w.heap.size + 1 + 1, 0, none⟩) 2 2 := hd 26 (by kernel_rfl)
            rw [eval_tmp] at e154
            clear bi1_0 bi1_1 bi1_2 bi1_3 bi1_4 bi1_5 bi2_0 bi2_1 bi2_2 bi2_3 bi2_4 bi2_5 bi2_6 bi2_7 bi2_8 btb_0 btb_1 bT_0 bT_1
            clear hd ho
            replace hK := Lib.hid hK
            go_simp
            exact hK.out _ _ rfl (Ext.refl _)
          · intro a wv hE hd ho
            refine .inl ⟨wanted_by 151 rfl rfl (hd 23 (by kernel_rfl)), ?_⟩
            intro K hK
            have hF : Ext w112 wv := Ext.trans ((Ext.refl _).drew) hE
            have e155 : a.eval (.tmp 155) = .pointer (some ⟨w.heap.size + 1 + 1, 0, none⟩) := hd 27 (by kernel_rfl)
            rw [eval_tmp] at e155
            have btb_0w := Ext.cell hF btb_0
            clear bi1_0 bi1_1 bi1_2 bi1_3 bi1_4 bi1_5 bi2_0 bi2_1 bi2_2 bi2_3 bi2_4 bi2_5 bi2_6 bi2_7 bi2_8 btb_0 btb_1 bT_0 bT_1
            clear hd ho
            replace hK := Lib.hid hK
            go_simp
            exact hK.out _ _ rfl (Ext.refl _)
          · intro a wv hE hd ho
            refine .inl ⟨wanted_by 151 rfl rfl (hd 23 (by kernel_rfl)), ?_⟩
            intro K hK
            have hF : Ext w112 wv := Ext.trans ((Ext.refl _).drew) hE
            have e156 : a.eval (.tmp 156) = .slice (some ⟨w.heap.size, 0, none⟩) 2 2 := hd 28 (by kernel_rfl)
            rw [eval_tmp] at e156
            clear bi1_0 bi1_1 bi1_2 bi1_3 bi1_4 bi1_5 bi2_0 bi2_1 bi2_2 bi2_3 bi2_4 bi2_5 bi2_6 bi2_7 bi2_8 btb_0 btb_1 bT_0 bT_1
            clear hd ho
            replace hK := Lib.hid hK
            go_simp
            exact hK.out _ _ rfl (Ext.refl _)
          · intro a wv hE hd ho
            refine .inl ⟨wanted_by 151 rfl rfl (hd 23 (by kernel_rfl)), ?_⟩
            intro K hK
            have hF : Ext w112 wv := Ext.trans ((Ext.refl _).drew) hE
            have e157 : a.eval (.tmp 157) = .pointer (some ⟨w.heap.size, 3, none⟩) := hd 29 (by kernel_rfl)
            rw [eval_tmp] at e157
            have bi1_3w := Ext.cell hF bi1_3
            have bi1_4w := Ext.cell hF bi1_4
            have bi1_5w := Ext.cell hF bi1_5
            clear bi1_0 bi1_1 bi1_2 bi1_3 bi1_4 bi1_5 bi2_0 bi2_1 bi2_2 bi2_3 bi2_4 bi2_5 bi2_6 bi2_7 bi2_8 btb_0 btb_1 bT_0 bT_1
            clear hd ho
            replace hK := Lib.hid hK
            go_simp
            exact hK.out _ _ rfl (Ext.refl _)
          · intro a wv hE hd ho
            refine .inl ⟨wanted_by 151 rfl rfl (hd 23 (by kernel_rfl)), ?_⟩
            intro K hK
            have hF : Ext w112 wv := Ext.trans ((Ext.refl _).drew) hE
            have e1 : a.eval (.tmp 1) = .pointer (some ⟨w.heap.size + 1 + 1 + 1, 0, none⟩) := ho 1 (by kernel_rfl)
            rw [eval_tmp] at e1
            clear bi1_0 bi1_1 bi1_2 bi1_3 bi1_4 bi1_5 bi2_0 bi2_1 bi2_2 bi2_3 bi2_4 bi2_5 bi2_6 bi2_7 bi2_8 btb_0 btb_1 bT_0 bT_1
            clear hd ho
            replace hK := Lib.hid hK
            go_simp
            exact hK.out _ _ rfl (Ext.refl _)
          · intro a wv hE hd ho
            refine .inl ⟨wanted_by 151 rfl rfl (hd 23 (by kernel_rfl)), ?_⟩
            intro K hK
            have hF : Ext w112 wv := Ext.trans ((Ext.refl _).drew) hE
            have e159 : a.eval (.tmp 159) = .pointer (some ⟨w.heap.size + 1 + 1 + 1, 1, none⟩) := hd 31 (by kernel_rfl)
            rw [eval_tmp] at e159
            have bT_1w := Ext.cell hF bT_1
            clear bi1_0 bi1_1 bi1_2 bi1_3 bi1_4 bi1_5 bi2_0 bi2_1 bi2_2 bi2_3 bi2_4 bi2_5 bi2_6 bi2_7 bi2_8 btb_0 btb_1 bT_0 bT_1
            clear hd ho
            replace hK := Lib.hid hK
            go_simp
            exact hK.out _ _ rfl (Ext.refl _)
          · intro a wv hE hd ho
            refine .inl ⟨wanted_by 151 rfl rfl (hd 23 (by kernel_rfl)), ?_⟩
            intro K hK
            have hF : Ext w112 wv := Ext.trans ((Ext.refl _).drew) hE
            have e160 : a.eval (.tmp 160) = .slice (some ⟨w.heap.size + 1 + 1, 0, none⟩) 2 2 := hd 32 (by kernel_rfl)
            rw [eval_tmp] at e160
            clear bi1_0 bi1_1 bi1_2 bi1_3 bi1_4 bi1_5 bi2_0 bi2_1 bi2_2 bi2_3 bi2_4 bi2_5 bi2_6 bi2_7 bi2_8 btb_0 btb_1 bT_0 bT_1
            clear hd ho
            replace hK := Lib.hid hK
            go_simp
            exact hK.out _ _ rfl (Ext.refl _)
          · intro a wv hE hd ho
            refine .inl ⟨wanted_by 151 rfl rfl (hd 23 (by kernel_rfl)), ?_⟩
            intro K hK
            have hF : Ext w112 wv := Ext.trans ((Ext.refl _).drew) hE
            have e161 : a.eval (.tmp 161) = .pointer (some ⟨w.heap.size + 1 + 1, 1, none⟩) := hd 33 (by kernel_rfl)
            rw [eval_tmp] at e161
            have btb_1w := Ext.cell hF btb_1
            clear bi1_0 bi1_1 bi1_2 bi1_3 bi1_4 bi1_5 bi2_0 bi2_1 bi2_2 bi2_3 bi2_4 bi2_5 bi2_6 bi2_7 bi2_8 btb_0 btb_1 bT_0 bT_1
            clear hd ho
            replace hK := Lib.hid hK
            go_simp
            exact hK.out _ _ rfl (Ext.refl _)
          · intro a wv hE hd ho
            refine .inl ⟨wanted_by 151 rfl rfl (hd 23 (by kernel_rfl)), ?_⟩
            intro K hK
            have hF : Ext w112 wv := Ext.trans ((Ext.refl _).drew) hE
            have e162 : a.eval (.tmp 162) = .slice (some ⟨w.heap.size + 1, 0, none⟩) 3 3 := hd 34 (by kernel_rfl)
            rw [eval_tmp] at e162
            clear bi1_0 bi1_1 bi1_2 bi1_3 bi1_4 bi1_5 bi2_0 bi2_1 bi2_2 bi2_3 bi2_4 bi2_5 bi2_6 bi2_7 bi2_8 btb_0 btb_1 bT_0 bT_1
            clear hd ho
            replace hK := Lib.hid hK
            go_simp
            exact hK.out _ _ rfl (Ext.refl _)
          · intro a wv hE hd ho
            refine .inl ⟨wanted_by 151 rfl rfl (hd 23 (by kernel_rfl)), ?_⟩
            intro K hK
            have hF : Ext w112 wv := Ext.trans ((Ext.refl _).drew) hE
            have e163 : a.eval (.tmp 163) = .pointer (some ⟨w.heap.size + 1, 0, none⟩) := hd 35 (by kernel_rfl)
            rw [eval_tmp] at e163
            have bi2_0w := Ext.cell hF bi2_0
            have bi2_1w := Ext.cell hF bi2_1
            have bi2_2w := Ext.cell hF bi2_2
            clear bi1_0 bi1_1 bi1_2 bi1_3 bi1_4 bi1_5 bi2_0 bi2_1 bi2_2 bi2_3 bi2_4 bi2_5 bi2_6 bi2_7 bi2_8 btb_0 btb_1 bT_0 bT_1
            clear hd ho
            replace hK := Lib.hid hK
            go_simp
            exact hK.out _ _ rfl (Ext.refl _)
          · intro a wv hE hd ho
            refine .inl ⟨wanted_by 151 rfl rfl (hd 23 (by kernel_rfl)), ?_⟩
            intro K hK
            have hF : Ext w112 wv := Ext.trans ((Ext.refl _).drew) hE
            have e1 : a.eval (.tmp 1) = .pointer (some ⟨w.heap.size + 1 + 1 + 1, 0, none⟩) := ho 1 (by kernel_rfl)
            rw [eval_tmp] at e1
            clear bi1_0 bi1_1 bi1_2 bi1_3 bi1_4 bi1_5 bi2_0 bi2_1 bi2_2 bi2_3 bi2_4 bi2_5 bi2_6 bi2_7 bi2_8 btb_0 btb_1 bT_0 bT_1
            clear hd ho
            replace hK := Lib.hid hK
            go_simp
            exact hK.out _ _ rfl (Ext.refl _)
          · intro a wv hE hd ho
            refine .inl ⟨wanted_by 151 rfl rfl (hd 23 (by kernel_rfl)), ?_⟩
            intro K hK
            have hF : Ext w112 wv := Ext.trans ((Ext.refl _).drew) hE
            have e165 : a.eval (.tmp 165) = .pointer (some ⟨w.heap.size + 1 + 1 + 1, 1, none⟩) := hd 37 (by kernel_rfl)
            rw [eval_tmp] at e165
            have bT_1w := Ext.cell hF bT_1
            clear bi1_0 bi1_1 bi1_2 bi1_3 bi1_4 bi1_5 bi2_0 bi2_1 bi2_2 bi2_3 bi2_4 bi2_5 bi2_6 bi2_7 bi2_8 btb_0 btb_1 bT_0 bT_1
            clear hd ho
            replace hK := Lib.hid hK
            go_simp
            exact hK.out _ _ rfl (Ext.refl _)
          · intro a wv hE hd ho
            refine .inl ⟨wanted_by 151 rfl rfl (hd 23 (by kernel_rfl)), ?_⟩
            intro K hK
            have hF : Ext w112 wv := Ext.trans ((Ext.refl _).drew) hE
            have e166 : a.eval (.tmp 166) = .slice (some ⟨w.heap.size + 1 + 1, 0, none⟩) 2 2 := hd 38 (by kernel_rfl)
            rw [eval_tmp] at e166
            clear bi1_0 bi1_1 bi1_2 bi1_3 bi1_4 bi1_5 bi2_0 bi2_1 bi2_2 bi2_3 bi2_4 bi2_5 bi2_6 bi2_7 bi2_8 btb_0 btb_1 bT_0 bT_1
            clear hd ho
            replace hK := Lib.hid hK
            go_simp
            exact hK.out _ _ rfl (Ext.refl _)
          · intro a wv hE hd ho
            refine .inl ⟨wanted_by 151 rfl rfl (hd 23 (by kernel_rfl)), ?_⟩
            intro K hK
            have hF : Ext w112 wv := Ext.trans ((Ext.refl _).drew) hE
            have e167 : a.eval (.tmp 167) = .pointer (some ⟨w.heap.size + 1 + 1, 1, none⟩) := hd 39 (by kernel_rfl)
            rw [eval_tmp] at e167
            have btb_1w := Ext.cell hF btb_1
            clear bi1_0 bi1_1 bi1_2 bi1_3 bi1_4 bi1_5 bi2_0 bi2_1 bi2_2 bi2_3 bi2_4 bi2_5 bi2_6 bi2_7 bi2_8 btb_0 btb_1 bT_0 bT_1
            clear hd ho
            replace hK := Lib.hid hK
            go_simp
            exact hK.out _ _ rfl (Ext.refl _)
          · intro a wv hE hd ho
            refine .inl ⟨wanted_by 151 rfl rfl (hd 23 (by kernel_rfl)), ?_⟩
            intro K hK
            have hF : Ext w112 wv := Ext.trans ((Ext.refl _).drew) hE
            have e168 : a.eval (.tmp 168) = .slice (some ⟨w.heap.size + 1, 0, none⟩) 3 3 := hd 40 (by kernel_rfl)
            rw [eval_tmp] at e168
            clear bi1_0 bi1_1 bi1_2 bi1_3 bi1_4 bi1_5 bi2_0 bi2_1 bi2_2 bi2_3 bi2_4 bi2_5 bi2_6 bi2_7 bi2_8 btb_0 btb_1 bT_0 bT_1
            clear hd ho
            replace hK := Lib.hid hK
            go_simp
            exact hK.out _ _ rfl (Ext.refl _)
          · intro a wv hE hd ho
            refine .inl ⟨wanted_by 151 rfl rfl (hd 23 (by kernel_rfl)), ?_⟩
            intro K hK
            have hF : Ext w112 wv := Ext.trans ((Ext.refl _).drew) hE
            have e169 : a.eval (.tmp 169) = .pointer (some ⟨w.heap.size + 1, 6, none⟩) := hd 41 (by kernel_rfl)
            rw [eval_tmp] at e169
            have bi2_6w := Ext.cell hF bi2_6
            have bi2_7w := Ext.cell hF bi2_7
            have bi2_8w := Ext.cell hF bi2_8
            clear bi1_0 bi1_1 bi1_2 bi1_3 bi1_4 bi1_5 bi2_0 bi2_1 bi2_2 bi2_3 bi2_4 bi2_5 bi2_6 bi2_7 bi2_8 btb_0 btb_1 bT_0 bT_1
            clear hd ho
            replace hK := Lib.hid hK
            go_simp
            exact hK.out _ _ rfl (Ext.refl _)
          · intro a wv hE hd ho
            refine .inl ⟨wanted_by 151 rfl rfl (hd 23 (by kernel_rfl)), ?_⟩
            intro K hK
            have hF : Ext w112 wv := Ext.trans ((Ext.refl _).drew) hE
            have e158 : a.eval (.tmp 158) = .agg #[.int .u8 4, .int .i64 2, .int .i64 9] := hd 30 (by kernel_rfl)
            rw [eval_tmp] at e158
            have e164 : a.eval (.tmp 164) = .agg #[.int .u8 1, .int .i64 1, .int .i64 3] := hd 36 (by kernel_rfl)
            rw [eval_tmp] at e164
            have e170 : a.eval (.tmp 170) = .agg #[.int .u8 3, .int .i64 3, .int .i64 9] := hd 42 (by kernel_rfl)
            rw [eval_tmp] at e170
            clear bi1_0 bi1_1 bi1_2 bi1_3 bi1_4 bi1_5 bi2_0 bi2_1 bi2_2 bi2_3 bi2_4 bi2_5 bi2_6 bi2_7 bi2_8 btb_0 btb_1 bT_0 bT_1
            clear hd ho
            replace hK := Lib.hid hK
            go_simp
            exact hK.out _ _ (Its.lit wv _ kept34 _ _ rfl rfl (by simp [maxLen]) rfl) ((Ext.refl _).alloc _)
          · intro a wv hE hd ho
            refine .inl ⟨wanted_by 151 rfl rfl (hd 23 (by kernel_rfl)), ?_⟩
            intro K hK
            have hF : Ext w112 wv := Ext.trans ((Ext.refl _).drew) hE
            have e152 : a.eval (.tmp 152) = .slice ahq3 kept34.length chq3 := hd 24 (by kernel_rfl)
            rw [eval_tmp] at e152
            have h171 : Its wv (a.eval (.tmp 171)) kept34 := hd 43 (by kernel_rfl)
            obtain ⟨xa171, xc171, e171, xl171, -⟩ := h171.form
            rw [e171] at h171
            rw [eval_tmp] at e171
            clear bi1_0 bi1_1 bi1_2 bi1_3 bi1_4 bi1_5 bi2_0 bi2_1 bi2_2 bi2_3 bi2_4 bi2_5 bi2_6 bi2_7 bi2_8 btb_0 btb_1 bT_0 bT_1
            clear hd ho
            replace hK := Lib.hid hK
            go_simp
            refine (ref28_Same_yes (l := kept34) (hq3.ext hF) h171).mono ?_
            rintro e wz ⟨rfl, hZ⟩
            go_simp
            exact hK.out _ _ rfl hZ
          · intro a wv hE hd ho
            refine .inl ⟨rfl, ?_⟩
            intro K hK
            have hF : Ext w112 wv := Ext.trans ((Ext.refl _).drew) hE
            have e151 : a.eval (.tmp 151) = .bool true := hd 23 (by kernel_rfl)
            rw [eval_tmp] at e151
            have e172 : a.eval (.tmp 172) = .bool true := hd 44 (by kernel_rfl)
            rw [eval_tmp] at e172
            clear bi1_0 bi1_1 bi1_2 bi1_3 bi1_4 bi1_5 bi2_0 bi2_1 bi2_2 bi2_3 bi2_4 bi2_5 bi2_6 bi2_7 bi2_8 btb_0 btb_1 bT_0 bT_1
            clear hd ho
            replace hK := Lib.hid hK
            go_simp
            exact hK.out _ _ rfl (Ext.refl _)
          · intro a wv hE hd ho
            refine .inl ⟨rfl, ?_⟩
            intro K hK
            have hF : Ext w112 wv := Ext.trans ((Ext.refl _).drew) hE
            have e173 : a.eval (.tmp 173) = .bool true := hd 45 (by kernel_rfl)
            rw [eval_tmp] at e173
            clear bi1_0 bi1_1 bi1_2 bi1_3 bi1_4 bi1_5 bi2_0 bi2_1 bi2_2 bi2_3 bi2_4 bi2_5 bi2_6 bi2_7 bi2_8 btb_0 btb_1 bT_0 bT_1
            clear hd ho
            replace hK := Lib.hid hK
            go_simp
            exact hK.out _ _ rfl (Ext.refl _)
          · intro a wv hE hd ho
            refine .inl ⟨wanted_by 174 rfl rfl (hd 46 (by kernel_rfl)), ?_⟩
            intro K hK
            have hF : Ext w112 wv := Ext.trans ((Ext.refl _).drew) hE
            have e16 : a.eval (.tmp 16) = .int .i64 8 := ho 16 (by kernel_rfl)
            rw [eval_tmp] at e16
            clear bi1_0 bi1_1 bi1_2 bi1_3 bi1_4 bi1_5 bi2_0 bi2_1 bi2_2 bi2_3 bi2_4 bi2_5 bi2_6 bi2_7 bi2_8 btb_0 btb_1 bT_0 bT_1
            clear hd ho
            replace hK := Lib.hid hK
            go_simp
            exact hK.out _ _ rfl (Ext.refl _)
          · intro a wv hE hd ho
            refine .inl ⟨wanted_by 174 rfl rfl (hd 46 (by kernel_rfl)), ?_⟩
            intro K hK
            have hF : Ext w112 wv := Ext.trans ((Ext.refl _).drew) hE
            have e175 : a.eval (.tmp 175) = .int .i64 8 := hd 47 (by kernel_rfl)
            rw [eval_tmp] at e175
            clear bi1_0 bi1_1 bi1_2 bi1_3 bi1_4 bi1_5 bi2_0 bi2_1 bi2_2 bi2_3 bi2_4 bi2_5 bi2_6 bi2_7 bi2_8 btb_0 btb_1 bT_0 bT_1
            clear hd ho
            replace hK := Lib.hid hK
            go_simp
            exact hK.out _ _ rfl (Ext.refl _)
          · intro a wv hE hd ho
            refine .inl ⟨rfl, ?_⟩
            intro K hK
            have hF : Ext w112 wv := Ext.trans ((Ext.refl _).drew) hE
            have e174 : a.eval (.tmp 174) = .bool true := hd 46 (by kernel_rfl)
            rw [eval_tmp] at e174
            have e176 : a.eval (.tmp 176) = .bool true := hd 48 (by kernel_rfl)
            rw [eval_tmp] at e176
            clear bi1_0 bi1_1 bi1_2 bi1_3 bi1_4 bi1_5 bi2_0 bi2_1 bi2_2 bi2_3 bi2_4 bi2_5 bi2_6 bi2_7 bi2_8 btb_0 btb_1 bT_0 bT_1
            clear hd ho
            replace hK := Lib.hid hK
            go_simp
            exact hK.out _ _ rfl (Ext.refl _)
          · intro a wv hE hd ho
            refine .inl ⟨rfl, ?_⟩
            intro K hK
            have hF : Ext w112 wv := Ext.trans ((Ext.refl _).drew) hE
            have e177 : a.eval (.tmp 177) = .bool true := hd 49 (by kernel_rfl)
            rw [eval_tmp] at e177
            clear bi1_0 bi1_1 bi1_2 bi1_3 bi1_4 bi1_5 bi2_0 bi2_1 bi2_2 bi2_3 bi2_4 bi2_5 bi2_6 bi2_7 bi2_8 btb_0 btb_1 bT_0 bT_1
            clear hd ho
            replace hK := Lib.hid hK
            go_simp
            exact hK.out _ _ rfl (Ext.refl _)
          · intro a wv hE hd ho
            refine .inl ⟨wanted_by 178 rfl rfl (hd 50 (by kernel_rfl)), ?_⟩
            intro K hK
            have hF : Ext w112 wv := Ext.trans ((Ext.refl _).drew) hE
            have e19 : a.eval (.tmp 19) = .int .i64 4 := ho 19 (by kernel_rfl)
            rw [eval_tmp] at e19
            clear bi1_0 bi1_1 bi1_2 bi1_3 bi1_4 bi1_5 bi2_0 bi2_1 bi2_2 bi2_3 bi2_4 bi2_5 bi2_6 bi2_7 bi2_8 btb_0 btb_1 bT_0 bT_1
            clear hd ho
            replace hK := Lib.hid hK
            go_simp
            exact hK.out _ _ rfl (Ext.refl _)
          · intro a wv hE hd ho
            refine .inl ⟨wanted_by 178 rfl rfl (hd 50 (by kernel_rfl)), ?_⟩
            intro K hK
            have hF : Ext w112 wv := Ext.trans ((Ext.refl _).drew) hE
            have e179 : a.eval (.tmp 179) = .int .i64 4 := hd 51 (by kernel_rfl)
            rw [eval_tmp] at e179
            clear bi1_0 bi1_1 bi1_2 bi1_3 bi1_4 bi1_5 bi2_0 bi2_1 bi2_2 bi2_3 bi2_4 bi2_5 bi2_6 bi2_7 bi2_8 btb_0 btb_1 bT_0 bT_1
            clear hd ho
            replace hK := Lib.hid hK
            go_simp
            exact hK.out _ _ rfl (Ext.refl _)
          · intro a wv hE hd ho
            refine .inl ⟨rfl, ?_⟩
            intro K hK
            have hF : Ext w112 wv := Ext.trans ((Ext.refl _).drew) hE
            have e178 : a.eval (.tmp 178) = .bool true := hd 50 (by kernel_rfl)
            rw [eval_tmp] at e178
            have e180 : a.eval (.tmp 180) = .bool true := hd 52 (by kernel_rfl)
            rw [eval_tmp] at e180
            clear bi1_0 bi1_1 bi1_2 bi1_3 bi1_4 bi1_5 bi2_0 bi2_1 bi2_2 bi2_3 bi2_4 bi2_5 bi2_6 bi2_7 bi2_8 btb_0 btb_1 bT_0 bT_1
            clear hd ho
            replace hK := Lib.hid hK
            go_simp
            exact hK.out _ _ rfl (Ext.refl _)
          · intro a wv hE hd ho
            refine .inl ⟨rfl, ?_⟩
            intro K hK
            have hF : Ext w112 wv := Ext.trans ((Ext.refl _).drew) hE
            have e181 : a.eval (.tmp 181) = .bool true := hd 53 (by kernel_rfl)
            rw [eval_tmp] at e181
            clear bi1_0 bi1_1 bi1_2 bi1_3 bi1_4 bi1_5 bi2_0 bi2_1 bi2_2 bi2_3 bi2_4 bi2_5 bi2_6 bi2_7 bi2_8 btb_0 btb_1 bT_0 bT_1
            clear hd ho
            replace hK := Lib.hid hK
            go_simp
            exact hK.out _ _ rfl (Ext.refl _)
          · intro a wv hE hd ho
            refine .inl ⟨wanted_by 182 rfl rfl (hd 54 (by kernel_rfl)), ?_⟩
            intro K hK
            have hF : Ext w112 wv := Ext.trans ((Ext.refl _).drew) hE
            have e20 : a.eval (.tmp 20) = .int .i64 400 := ho 20 (by kernel_rfl)
            rw [eval_tmp] at e20
            clear bi1_0 bi1_1 bi1_2 bi1_3 bi1_4 bi1_5 bi2_0 bi2_1 bi2_2 bi2_3 bi2_4 bi2_5 bi2_6 bi2_7 bi2_8 btb_0 btb_1 bT_0 bT_1
            clear hd ho
            replace hK := Lib.hid hK
            go_simp
            exact hK.out _ _ rfl (Ext.refl _)
          · intro a wv hE hd ho
            refine .inl ⟨wanted_by 182 rfl rfl (hd 54 (by kernel_rfl)), ?_⟩
            intro K hK
            have hF : Ext w112 wv := Ext.trans ((Ext.refl _).drew) hE
            have e183 : a.eval (.tmp 183) = .int .i64 400 := hd 55 (by kernel_rfl)
            rw [eval_tmp] at e183
            clear bi1_0 bi1_1 bi1_2 bi1_3 bi1_4 bi1_5 bi2_0 bi2_1 bi2_2 bi2_3 bi2_4 bi2_5 bi2_6 bi2_7 bi2_8 btb_0 btb_1 bT_0 bT_1
            clear hd ho
            replace hK := Lib.hid hK
            go_simp
            exact hK.out _ _ rfl (Ext.refl _)
          · intro a wv hE hd ho
            refine .inl ⟨rfl, ?_⟩
            intro K hK
            have hF : Ext w112 wv := Ext.trans ((Ext.refl _).drew) hE
            have e182 : a.eval (.tmp 182) = .bool true := hd 54 (by kernel_rfl)
            rw [eval_tmp] at e182
            have e184 : a.eval (.tmp 184) = .bool true := hd 56 (by kernel_rfl)
            rw [eval_tmp] at e184
            clear bi1_0 bi1_1 bi1_2 bi1_3 bi1_4 bi1_5 bi2_0 bi2_1 bi2_2 bi2_3 bi2_4 bi2_5 bi2_6 bi2_7 bi2_8 btb_0 btb_1 bT_0 bT_1
            clear hd ho
            replace hK := Lib.hid hK
            go_simp
            exact hK.out _ _ rfl (Ext.refl _)
          · intro a wv hE hd ho
            refine .inl ⟨rfl, ?_⟩
            intro K hK
            have hF : Ext w112 wv := Ext.trans ((Ext.refl _).drew) hE
            have e185 : a.eval (.tmp 185) = .bool true := hd 57 (by kernel_rfl)
            rw [eval_tmp] at e185
            clear bi1_0 bi1_1 bi1_2 bi1_3 bi1_4 bi1_5 bi2_0 bi2_1 bi2_2 bi2_3 bi2_4 bi2_5 bi2_6 bi2_7 bi2_8 btb_0 btb_1 bT_0 bT_1
            clear hd ho
            replace hK := Lib.hid hK
            go_simp
            exact hK.out _ _ rfl (Ext.refl _)
          · intro a wv hE hd ho
            refine .inl ⟨wanted_by 186 rfl rfl (hd 58 (by kernel_rfl)), ?_⟩
            intro K hK
            have hF : Ext w112 wv := Ext.trans ((Ext.refl _).drew) hE
            have e21 : a.eval (.tmp 21) = .int .u8 0 := ho 21 (by kernel_rfl)
            rw [eval_tmp] at e21
            clear bi1_0 bi1_1 bi1_2 bi1_3 bi1_4 bi1_5 bi2_0 bi2_1 bi2_2 bi2_3 bi2_4 bi2_5 bi2_6 bi2_7 bi2_8 btb_0 btb_1 bT_0 bT_1
            clear hd ho
            replace hK := Lib.hid hK
            go_simp
            exact hK.out _ _ rfl (Ext.refl _)
          · intro a wv hE hd ho
            refine .inl ⟨wanted_by 186 rfl rfl (hd 58 (by kernel_rfl)), ?_⟩
            intro K hK
            have hF : Ext w112 wv := Ext.trans ((Ext.refl _).drew) hE
            have e187 : a.eval (.tmp 187) = .int .u8 0 := hd 59 (by kernel_rfl)
            rw [eval_tmp] at e187
            clear bi1_0 bi1_1 bi1_2 bi1_3 bi1_4 bi1_5 bi2_0 bi2_1 bi2_2 bi2_3 bi2_4 bi2_5 bi2_6 bi2_7 bi2_8 btb_0 btb_1 bT_0 bT_1
            clear hd ho
            replace hK := Lib.hid hK
            go_simp
            exact hK.out _ _ rfl (Ext.refl _)
          · intro a wv hE hd ho
            refine .inl ⟨rfl, ?_⟩
            intro K hK
            have hF : Ext w112 wv := Ext.trans ((Ext.refl _).drew) hE
            have e186 : a.eval (.tmp 186) = .bool true := hd 58 (by kernel_rfl)
            rw [eval_tmp] at e186
            have e188 : a.eval (.tmp 188) = .bool true := hd 60 (by kernel_rfl)
            rw [eval_tmp] at e188
            clear bi1_0 bi1_1 bi1_2 bi1_3 bi1_4 bi1_5 bi2_0 bi2_1 bi2_2 bi2_3 bi2_4 bi2_5 bi2_6 bi2_7 bi2_8 btb_0 btb_1 bT_0 bT_1
            clear hd ho
            replace hK := Lib.hid hK
            go_simp
            exact hK.out _ _ rfl (Ext.refl _)
          · intro a wv hE hd ho
            refine .inl ⟨rfl, ?_⟩
            intro K hK
            have hF : Ext w112 wv := Ext.trans ((Ext.refl _).drew) hE
            have e189 : a.eval (.tmp 189) = .bool true := hd 61 (by kernel_rfl)
            rw [eval_tmp] at e189
            clear bi1_0 bi1_1 bi1_2 bi1_3 bi1_4 bi1_5 bi2_0 bi2_1 bi2_2 bi2_3 bi2_4 bi2_5 bi2_6 bi2_7 bi2_8 btb_0 btb_1 bT_0 bT_1
            clear hd ho
            replace hK := Lib.hid hK
            go_simp
            exact hK.out _ _ rfl (Ext.refl _)
          · intro a wv hE hd ho
            refine .inl ⟨wanted_by 190 rfl rfl (hd 62 (by kernel_rfl)), ?_⟩
            intro K hK
            have hF : Ext w112 wv := Ext.trans ((Ext.refl _).drew) hE
            have e22 : a.eval (.tmp 22) = .int .i64 0 := ho 22 (by kernel_rfl)
            rw [eval_tmp] at e22
            clear bi1_0 bi1_1 bi1_2 bi1_3 bi1_4 bi1_5 bi2_0 bi2_1 bi2_2 bi2_3 bi2_4 bi2_5 bi2_6 bi2_7 bi2_8 btb_0 btb_1 bT_0 bT_1
            clear hd ho
            replace hK := Lib.hid hK
            go_simp
            exact hK.out _ _ rfl (Ext.refl _)
          · intro a wv hE hd ho
            refine .inl ⟨wanted_by 190 rfl rfl (hd 62 (by kernel_rfl)), ?_⟩
            intro K hK
            have hF : Ext w112 wv := Ext.trans ((Ext.refl _).drew) hE
            have e191 : a.eval (.tmp 191) = .int .i64 0 := hd 63 (by kernel_rfl)
            rw [eval_tmp] at e191
            clear bi1_0 bi1_1 bi1_2 bi1_3 bi1_4 bi1_5 bi2_0 bi2_1 bi2_2 bi2_3 bi2_4 bi2_5 bi2_6 bi2_7 bi2_8 btb_0 btb_1 bT_0 bT_1
            clear hd ho
            replace hK := Lib.hid hK
            go_simp
            exact hK.out _ _ rfl (Ext.refl _)
          · intro a wv hE hd ho
            refine .inl ⟨rfl, ?_⟩
            intro K hK
            have hF : Ext w112 wv := Ext.trans ((Ext.refl _).drew) hE
            have e190 : a.eval (.tmp 190) = .bool true := hd 62 (by kernel_rfl)
            rw [eval_tmp] at e190
            have e192 : a.eval (.tmp 192) = .bool true := hd 64 (by kernel_rfl)
            rw [eval_tmp] at e192
            clear bi1_0 bi1_1 bi1_2 bi1_3 bi1_4 bi1_5 bi2_0 bi2_1 bi2_2 bi2_3 bi2_4 bi2_5 bi2_6 bi2_7 bi2_8 btb_0 btb_1 bT_0 bT_1
            clear hd ho
            replace hK := Lib.hid hK
            go_simp
            exact hK.out _ _ rfl (Ext.refl _)
          · intro a wv hE hd ho
            refine .inl ⟨rfl, ?_⟩
            intro K hK
            have hF : Ext w112 wv := Ext.trans ((Ext.refl _).drew) hE
            have e193 : a.eval (.tmp 193) = .bool true := hd 65 (by kernel_rfl)
            rw [eval_tmp] at e193
            clear bi1_0 bi1_1 bi1_2 bi1_3 bi1_4 bi1_5 bi2_0 bi2_1 bi2_2 bi2_3 bi2_4 bi2_5 bi2_6 bi2_7 bi2_8 btb_0 btb_1 bT_0 bT_1
            clear hd ho
            replace hK := Lib.hid hK
            go_simp
            exact hK.out _ _ rfl (Ext.refl _)
          · intro a wv hE hd ho
            refine .inl ⟨wanted_by 194 rfl rfl (hd 66 (by kernel_rfl)), ?_⟩
            intro K hK
            have hF : Ext w112 wv := Ext.trans ((Ext.refl _).drew) hE
            have e23 : a.eval (.tmp 23) = .int .i64 1 := ho 23 (by kernel_rfl)
            rw [eval_tmp] at e23
            clear bi1_0 bi1_1 bi1_2 bi1_3 bi1_4 bi1_5 bi2_0 bi2_1 bi2_2 bi2_3 bi2_4 bi2_5 bi2_6 bi2_7 bi2_8 btb_0 btb_1 bT_0 bT_1
            clear hd ho
            replace hK := Lib.hid hK
            go_simp
            exact hK.out _ _ rfl (Ext.refl _)
          · intro a wv hE hd ho
            refine .inl ⟨wanted_by 194 rfl rfl (hd 66 (by kernel_rfl)), ?_⟩
            intro K hK
            have hF : Ext w112 wv := Ext.trans ((Ext.refl _).drew) hE
            have e195 : a.eval (.tmp 195) = .int .i64 1 := hd 67 (by kernel_rfl)
            rw [eval_tmp] at e195
            clear bi1_0 bi1_1 bi1_2 bi1_3 bi1_4 bi1_5 bi2_0 bi2_1 bi2_2 bi2_3 bi2_4 bi2_5 bi2_6 bi2_7 bi2_8 btb_0 btb_1 bT_0 bT_1
            clear hd ho
            replace hK := Lib.hid hK
            go_simp
            exact hK.out _ _ rfl (Ext.refl _)
          · intro a wv hE hd ho
            refine .inl ⟨rfl, ?_⟩
            intro K hK
            have hF : Ext w112 wv := Ext.trans ((Ext.refl _).drew) hE
            have e194 : a.eval (.tmp 194) = .bool true := hd 66 (by kernel_rfl)
            rw [eval_tmp] at e194
            have e196 : a.eval (.tmp 196) = .bool true := hd 68 (by kernel_rfl)
            rw [eval_tmp] at e196
            clear bi1_0 bi1_1 bi1_2 bi1_3 bi1_4 bi1_5 bi2_0 bi2_1 bi2_2 bi2_3 bi2_4 bi2_5 bi2_6 bi2_7 bi2_8 btb_0 btb_1 bT_0 bT_1
            clear hd ho
            replace hK := Lib.hid hK
            go_simp
            exact hK.out _ _ rfl (Ext.refl _)
          · intro a wv hE hd ho
            refine .inl ⟨rfl, ?_⟩
            intro K hK
            have hF : Ext w112 wv := Ext.trans ((Ext.refl _).drew) hE
            have e197 : a.eval (.tmp 197) = .bool true := hd 69 (by kernel_rfl)
            rw [eval_tmp] at e197
            clear bi1_0 bi1_1 bi1_2 bi1_3 bi1_4 bi1_5 bi2_0 bi2_1 bi2_2 bi2_3 bi2_4 bi2_5 bi2_6 bi2_7 bi2_8 btb_0 btb_1 bT_0 bT_1
            clear hd ho
            replace hK := Lib.hid hK
            go_simp
            exact hK.out _ _ rfl (Ext.refl _)
          · intro a wv hE hd ho
            refine .inl ⟨wanted_by 198 rfl rfl (hd 70 (by kernel_rfl)), ?_⟩
            intro K hK
            have hF : Ext w112 wv := Ext.trans ((Ext.refl _).drew) hE
            have e24 : a.eval (.tmp 24) = .int .u8 2 := ho 24 (by kernel_rfl)
            rw [eval_tmp] at e24
            clear bi1_0 bi1_1 bi1_2 bi1_3 bi1_4 bi1_5 bi2_0 bi2_1 bi2_2 bi2_3 bi2_4 bi2_5 bi2_6 bi2_7 bi2_8 btb_0 btb_1 bT_0 bT_1
            clear hd ho
            replace hK := Lib.hid hK
            go_simp
            exact hK.out _ _ rfl (Ext.refl _)
          · intro a wv hE hd ho
            refine .inl ⟨wanted_by 198 rfl rfl (hd 70 (by kernel_rfl)), ?_⟩
            intro K hK
            have hF : Ext w112 wv := Ext.trans ((Ext.refl _).drew) hE
            have e199 : a.eval (.tmp 199) = .int .u8 2 := hd 71 (by kernel_rfl)
            rw [eval_tmp] at e199
            clear bi1_0 bi1_1 bi1_2 bi1_3 bi1_4 bi1_5 bi2_0 bi2_1 bi2_2 bi2_3 bi2_4 bi2_5 bi2_6 bi2_7 bi2_8 btb_0 btb_1 bT_0 bT_1
            clear hd ho
            replace hK := Lib.hid hK
            go_simp
            exact hK.out _ _ rfl (Ext.refl _)
          · intro a wv hE hd ho
            refine .inl ⟨rfl, ?_⟩
            intro K hK
            have hF : Ext w112 wv := Ext.trans ((Ext.refl _).drew) hE
            have e198 : a.eval (.tmp 198) = .bool true := hd 70 (by kernel_rfl)
            rw [eval_tmp] at e198
            have e200 : a.eval (.tmp 200) = .bool true := hd 72 (by kernel_rfl)
            rw [eval_tmp] at e200
            clear bi1_0 bi1_1 bi1_2 bi1_3 bi1_4 bi1_5 bi2_0 bi2_1 bi2_2 bi2_3 bi2_4 bi2_5 bi2_6 bi2_7 bi2_8 btb_0 btb_1 bT_0 bT_1
            clear hd ho
            replace hK := Lib.hid hK
            go_simp
            exact hK.out _ _ rfl (Ext.refl _)
          · intro a wv hE hd ho
            refine .inl ⟨rfl, ?_⟩
            intro K hK
            have hF : Ext w112 wv := Ext.trans ((Ext.refl _).drew) hE
            have e201 : a.eval (.tmp 201) = .bool true := hd 73 (by kernel_rfl)
            rw [eval_tmp] at e201
            clear bi1_0 bi1_1 bi1_2 bi1_3 bi1_4 bi1_5 bi2_0 bi2_1 bi2_2 bi2_3 bi2_4 bi2_5 bi2_6 bi2_7 bi2_8 btb_0 btb_1 bT_0 bT_1
            clear hd ho
            replace hK := Lib.hid hK
            go_simp
            exact hK.out _ _ rfl (Ext.refl _)
          · intro a wv hE hd ho
            refine .inl ⟨wanted_by 202 rfl rfl (hd 74 (by kernel_rfl)), ?_⟩
            intro K hK
            have hF : Ext w112 wv := Ext.trans ((Ext.refl _).drew) hE
            have e25 : a.eval (.tmp 25) = .int .i64 0 := ho 25 (by kernel_rfl)
            rw [eval_tmp] at e25
            clear bi1_0 bi1_1 bi1_2 bi1_3 bi1_4 bi1_5 bi2_0 bi2_1 bi2_2 bi2_3 bi2_4 bi2_5 bi2_6 bi2_7 bi2_8 btb_0 btb_1 bT_0 bT_1
            clear hd ho
            replace hK := Lib.hid hK
            go_simp
            exact hK.out _ _ rfl (Ext.refl _)
          · intro a wv hE hd ho
            refine .inl ⟨wanted_by 202 rfl rfl (hd 74 (by kernel_rfl)), ?_⟩
            intro K hK
            have hF : Ext w112 wv := Ext.trans ((Ext.refl _).drew) hE
            have e203 : a.eval (.tmp 203) = .int .i64 0 := hd 75 (by kernel_rfl)
            rw [eval_tmp] at e203
            clear bi1_0 bi1_1 bi1_2 bi1_3 bi1_4 bi1_5 bi2_0 bi2_1 bi2_2 bi2_3 bi2_4 bi2_5 bi2_6 bi2_7 bi2_8 btb_0 btb_1 bT_0 bT_1
            clear hd ho
            replace hK := Lib.hid hK
            go_simp
            exact hK.out _ _ rfl (Ext.refl _)
          · intro a wv hE hd ho
            refine .inl ⟨rfl, ?_⟩
            intro K hK
            have hF : Ext w112 wv := Ext.trans ((Ext.refl _).drew) hE
            have e202 : a.eval (.tmp 202) = .bool true := hd 74 (by kernel_rfl)
            rw [eval_tmp] at e202
            have e204 : a.eval (.tmp 204) = .bool true := hd 76 (by kernel_rfl)
            rw [eval_tmp] at e204
            clear bi1_0 bi1_1 bi1_2 bi1_3 bi1_4 bi1_5 bi2_0 bi2_1 bi2_2 bi2_3 bi2_4 bi2_5 bi2_6 bi2_7 bi2_8 btb_0 btb_1 bT_0 bT_1
            clear hd ho
            replace hK := Lib.hid hK
            go_simp
            exact hK.out _ _ rfl (Ext.refl _)
          · intro a wv hE hd ho
            refine .inl ⟨rfl, ?_⟩
            intro K hK
            have hF : Ext w112 wv := Ext.trans ((Ext.refl _).drew) hE
            have e205 : a.eval (.tmp 205) = .bool true := hd 77 (by kernel_rfl)
            rw [eval_tmp] at e205
            clear bi1_0 bi1_1 bi1_2 bi1_3 bi1_4 bi1_5 bi2_0 bi2_1 bi2_2 bi2_3 bi2_4 bi2_5 bi2_6 bi2_7 bi2_8 btb_0 btb_1 bT_0 bT_1
            clear hd ho
            replace hK := Lib.hid hK
            go_simp
            exact hK.out _ _ rfl (Ext.refl _)
          · intro a wv hE hd ho
            refine .inl ⟨wanted_by 206 rfl rfl (hd 78 (by kernel_rfl)), ?_⟩
            intro K hK
            have hF : Ext w112 wv := Ext.trans ((Ext.refl _).drew) hE
            have e28 : a.eval (.tmp 28) = .int .i64 8 := ho 28 (by kernel_rfl)
            rw [eval_tmp] at e28
            clear bi1_0 bi1_1 bi1_2 bi1_3 bi1_4 bi1_5 bi2_0 bi2_1 bi2_2 bi2_3 bi2_4 bi2_5 bi2_6 bi2_7 bi2_8 btb_0 btb_1 bT_0 bT_1
            clear hd ho
            replace hK := Lib.hid hK
            go_simp
            exact hK.out _ _ rfl (Ext.refl _)
          · intro a wv hE hd ho
            refine .inl ⟨wanted_by 206 rfl rfl (hd 78 (by kernel_rfl)), ?_⟩
            intro K hK
            have hF : Ext w112 wv := Ext.trans ((Ext.refl _).drew) hE
            have e207 : a.eval (.tmp 207) = .int .i64 8 := hd 79 (by kernel_rfl)
            rw [eval_tmp] at e207
            clear bi1_0 bi1_1 bi1_2 bi1_3 bi1_4 bi1_5 bi2_0 bi2_1 bi2_2 bi2_3 bi2_4 bi2_5 bi2_6 bi2_7 bi2_8 btb_0 btb_1 bT_0 bT_1
            clear hd ho
            replace hK := Lib.hid hK
            go_simp
            exact hK.out _ _ rfl (Ext.refl _)
          · intro a wv hE hd ho
            refine .inl ⟨rfl, ?_⟩
            intro K hK
            have hF : Ext w112 wv := Ext.trans ((Ext.refl _).drew) hE
            have e206 : a.eval (.tmp 206) = .bool true := hd 78 (by kernel_rfl)
            rw [eval_tmp] at e206
            have e208 : a.eval (.tmp 208) = .bool true := hd 80 (by kernel_rfl)
            rw [eval_tmp] at e208
            clear bi1_0 bi1_1 bi1_2 bi1_3 bi1_4 bi1_5 bi2_0 bi2_1 bi2_2 bi2_3 bi2_4 bi2_5 bi2_6 bi2_7 bi2_8 btb_0 btb_1 bT_0 bT_1
            clear hd ho
            replace hK := Lib.hid hK
            go_simp
            exact hK.out _ _ rfl (Ext.refl _)
          · intro a wv hE hd ho
            refine .inl ⟨rfl, ?_⟩
            intro K hK
            have hF : Ext w112 wv := Ext.trans ((Ext.refl _).drew) hE
            have e209 : a.eval (.tmp 209) = .bool true := hd 81 (by kernel_rfl)
            rw [eval_tmp] at e209
            clear bi1_0 bi1_1 bi1_2 bi1_3 bi1_4 bi1_5 bi2_0 bi2_1 bi2_2 bi2_3 bi2_4 bi2_5 bi2_6 bi2_7 bi2_8 btb_0 btb_1 bT_0 bT_1
            clear hd ho
            replace hK := Lib.hid hK
            go_simp
            exact hK.out _ _ rfl (Ext.refl _)
          · intro a wv hE hd ho
            refine .inl ⟨wanted_by 210 rfl rfl (hd 82 (by kernel_rfl)), ?_⟩
            intro K hK
            have hF : Ext w112 wv := Ext.trans ((Ext.refl _).drew) hE
            have e29 : a.eval (.tmp 29) = .int .i64 0 := ho 29 (by kernel_rfl)
            rw [eval_tmp] at e29
            clear bi1_0 bi1_1 bi1_2 bi1_3 bi1_4 bi1_5 bi2_0 bi2_1 bi2_2 bi2_3 bi2_4 bi2_5 bi2_6 bi2_7 bi2_8 btb_0 btb_1 bT_0 bT_1
            clear hd ho
            replace hK := Lib.hid hK
            go_simp
            exact hK.out _ _ rfl (Ext.refl _)
          · intro a wv hE hd ho
            refine .inl ⟨wanted_by 210 rfl rfl (hd 82 (by kernel_rfl)), ?_⟩
            intro K hK
            have hF : Ext w112 wv := Ext.trans ((Ext.refl _).drew) hE
            have e211 : a.eval (.tmp 211) = .int .i64 0 := hd 83 (by kernel_rfl)
            rw [eval_tmp] at e211
            clear bi1_0 bi1_1 bi1_2 bi1_3 bi1_4 bi1_5 bi2_0 bi2_1 bi2_2 bi2_3 bi2_4 bi2_5 bi2_6 bi2_7 bi2_8 btb_0 btb_1 bT_0 bT_1
            clear hd ho
            replace hK := Lib.hid hK
            go_simp
            exact hK.out _ _ rfl (Ext.refl _)
          · intro a wv hE hd ho
            refine .inl ⟨rfl, ?_⟩
            intro K hK
            have hF : Ext w112 wv := Ext.trans ((Ext.refl _).drew) hE
            have e210 : a.eval (.tmp 210) = .bool true := hd 82 (by kernel_rfl)
            rw [eval_tmp] at e210
            have e212 : a.eval (.tmp 212) = .bool true := hd 84 (by kernel_rfl)
            rw [eval_tmp] at e212
            clear bi1_0 bi1_1 bi1_2 bi1_3 bi1_4 bi1_5 bi2_0 bi2_1 bi2_2 bi2_3 bi2_4 bi2_5 bi2_6 bi2_7 bi2_8 btb_0 btb_1 bT_0 bT_1
            clear hd ho
            replace hK := Lib.hid hK
            go_simp
            exact hK.out _ _ rfl (Ext.refl _)
          · intro a wv hE hd ho
            refine .inl ⟨rfl, ?_⟩
            intro K hK
            have hF : Ext w112 wv := Ext.trans ((Ext.refl _).drew) hE
            have e213 : a.eval (.tmp 213) = .bool true := hd 85 (by kernel_rfl)
            rw [eval_tmp] at e213
            clear bi1_0 bi1_1 bi1_2 bi1_3 bi1_4 bi1_5 bi2_0 bi2_1 bi2_2 bi2_3 bi2_4 bi2_5 bi2_6 bi2_7 bi2_8 btb_0 btb_1 bT_0 bT_1
            clear hd ho
            replace hK := Lib.hid hK
            go_simp
            exact hK.out _ _ rfl (Ext.refl _)
          · intro a wv hE hd ho
            refine .inl ⟨wanted_by 214 rfl rfl (hd 86 (by kernel_rfl)), ?_⟩
            intro K hK
            have hF : Ext w112 wv := Ext.trans ((Ext.refl _).drew) hE
            have e30 : a.eval (.tmp 30) = .int .u8 0 := ho 30 (by kernel_rfl)
            rw [eval_tmp] at e30
            clear bi1_0 bi1_1 bi1_2 bi1_3 bi1_4 bi1_5 bi2_0 bi2_1 bi2_2 bi2_3 bi2_4 bi2_5 bi2_6 bi2_7 bi2_8 btb_0 btb_1 bT_0 bT_1
            clear hd ho
            replace hK := Lib.hid hK
            go_simp
            exact hK.out _ _ rfl (Ext.refl _)
          · intro a wv hE hd ho
            refine .inl ⟨wanted_by 214 rfl rfl (hd 86 (by kernel_rfl)), ?_⟩
            intro K hK
            have hF : Ext w112 wv := Ext.trans ((Ext.refl _).drew) hE
            have e215 : a.eval (.tmp 215) = .int .u8 0 := hd 87 (by kernel_rfl)
            rw [eval_tmp] at e215
            clear bi1_0 bi1_1 bi1_2 bi1_3 bi1_4 bi1_5 bi2_0 bi2_1 bi2_2 bi2_3 bi2_4 bi2_5 bi2_6 bi2_7 bi2_8 btb_0 btb_1 bT_0 bT_1
            clear hd ho
            replace hK := Lib.hid hK
            go_simp
            exact hK.out _ _ rfl (Ext.refl _)
          · intro a wv hE hd ho
            refine .inl ⟨rfl, ?_⟩
            intro K hK
            have hF : Ext w112 wv := Ext.trans ((Ext.refl _).drew) hE
            have e214 : a.eval (.tmp 214) = .bool true := hd 86 (by kernel_rfl)
            rw [eval_tmp] at e214
            have e216 : a.eval (.tmp 216) = .bool true := hd 88 (by kernel_rfl)
            rw [eval_tmp] at e216
            clear bi1_0 bi1_1 bi1_2 bi1_3 bi1_4 bi1_5 bi2_0 bi2_1 bi2_2 bi2_3 bi2_4 bi2_5 bi2_6 bi2_7 bi2_8 btb_0 btb_1 bT_0 bT_1
            clear hd ho
            replace hK := Lib.hid hK
            go_simp
            exact hK.out _ _ rfl (Ext.refl _)
          · intro a wv hE hd ho
            refine .inl ⟨rfl, ?_⟩
            intro K hK
            have hF : Ext w112 wv := Ext.trans ((Ext.refl _).drew) hE
            have e217 : a.eval (.tmp 217) = .bool true := hd 89 (by kernel_rfl)
            rw [eval_tmp] at e217
            clear bi1_0 bi1_1 bi1_2 bi1_3 bi1_4 bi1_5 bi2_0 bi2_1 bi2_2 bi2_3 bi2_4 bi2_5 bi2_6 bi2_7 bi2_8 btb_0 btb_1 bT_0 bT_1
            clear hd ho
            replace hK := Lib.hid hK
            go_simp
            exact hK.out _ _ rfl (Ext.refl _)
          · intro a wv hE hd ho
            refine .inl ⟨wanted_by 218 rfl rfl (hd 90 (by kernel_rfl)), ?_⟩
            intro K hK
            have hF : Ext w112 wv := Ext.trans ((Ext.refl _).drew) hE
            have e31 : a.eval (.tmp 31) = .int .i64 0 := ho 31 (by kernel_rfl)
            rw [eval_tmp] at e31
            clear bi1_0 bi1_1 bi1_2 bi1_3 bi1_4 bi1_5 bi2_0 bi2_1 bi2_2 bi2_3 bi2_4 bi2_5 bi2_6 bi2_7 bi2_8 btb_0 btb_1 bT_0 bT_1
            clear hd ho
            replace hK := Lib.hid hK
            go_simp
            exact hK.out _ _ rfl (Ext.refl _)
          · intro a wv hE hd ho
            refine .inl ⟨wanted_by 218 rfl rfl (hd 90 (by kernel_rfl)), ?_⟩
            intro K hK
            have hF : Ext w112 wv := Ext.trans ((Ext.refl _).drew) hE
            have e219 : a.eval (.tmp 219) = .int .i64 0 := hd 91 (by kernel_rfl)
            rw [eval_tmp] at e219
            clear bi1_0 bi1_1 bi1_2 bi1_3 bi1_4 bi1_5 bi2_0 bi2_1 bi2_2 bi2_3 bi2_4 bi2_5 bi2_6 bi2_7 bi2_8 btb_0 btb_1 bT_0 bT_1
            clear hd ho
            replace hK := Lib.hid hK
            go_simp
            exact hK.out _ _ rfl (Ext.refl _)
          · intro a wv hE hd ho
            refine .inl ⟨rfl, ?_⟩
            intro K hK
            have hF : Ext w112 wv := Ext.trans ((Ext.refl _).drew) hE
            have e218 : a.eval (.tmp 218) = .bool true := hd 90 (by kernel_rfl)
            rw [eval_tmp] at e218
            have e220 : a.eval (.tmp 220) = .bool true := hd 92 (by kernel_rfl)
            rw [eval_tmp] at e220
            clear bi1_0 bi1_1 bi1_2 bi1_3 bi1_4 bi1_5 bi2_0 bi2_1 bi2_2 bi2_3 bi2_4 bi2_5 bi2_6 bi2_7 bi2_8 btb_0 btb_1 bT_0 bT_1
            clear hd ho
            replace hK := Lib.hid hK
            go_simp
            exact hK.out _ _ rfl (Ext.refl _)
          · intro a wv hE hd ho
            refine .inl ⟨rfl, ?_⟩
            intro K hK
            have hF : Ext w112 wv := Ext.trans ((Ext.refl _).drew) hE
            have e221 : a.eval (.tmp 221) = .bool true := hd 93 (by kernel_rfl)
            rw [eval_tmp] at e221
            clear bi1_0 bi1_1 bi1_2 bi1_3 bi1_4 bi1_5 bi2_0 bi2_1 bi2_2 bi2_3 bi2_4 bi2_5 bi2_6 bi2_7 bi2_8 btb_0 btb_1 bT_0 bT_1
            clear hd ho
            replace hK := Lib.hid hK
            go_simp
            exact hK.out _ _ rfl (Ext.refl _)
          · intro a wv hE hd ho
            refine .inl ⟨wanted_by 222 rfl rfl (hd 94 (by kernel_rfl)), ?_⟩
            intro K hK
            have hF : Ext w112 wv := Ext.trans ((Ext.refl _).drew) hE
            have e1 : a.eval (.tmp 1) = .pointer (some ⟨w.heap.size + 1 + 1 + 1, 0, none⟩) := ho 1 (by kernel_rfl)
            rw [eval_tmp] at e1
            have bT_0w := Ext.cell hF bT_0
            have bT_1w := Ext.cell hF bT_1
            clear bi1_0 bi1_1 bi1_2 bi1_3 bi1_4 bi1_5 bi2_0 bi2_1 bi2_2 bi2_3 bi2_4 bi2_5 bi2_6 bi2_7 bi2_8 btb_0 btb_1 bT_0 bT_1
            clear hd ho
            replace hK := Lib.hid hK
            go_simp
            exact hK.out _ _ rfl (Ext.refl _)
          · intro a wv hE hd ho
            refine .inl ⟨wanted_by 222 rfl rfl (hd 94 (by kernel_rfl)), ?_⟩
            intro K hK
            have hF : Ext w112 wv := Ext.trans ((Ext.refl _).drew) hE
            clear bi1_0 bi1_1 bi1_2 bi1_3 bi1_4 bi1_5 bi2_0 bi2_1 bi2_2 bi2_3 bi2_4 bi2_5 bi2_6 bi2_7 bi2_8 btb_0 btb_1 bT_0 bT_1
            clear hd ho
            replace hK := Lib.hid hK
            go_simp
            exact hK.out _ _ (Nts.litl wv _ [1, 2, 4] _ _ rfl rfl (by simp [maxLen]) rfl) ((Ext.refl _).alloc _)
          · intro a wv hE hd ho
            refine .inl ⟨wanted_by 222 rfl rfl (hd 94 (by kernel_rfl)), ?_⟩
            intro K hK
            have hF : Ext w112 wv := Ext.trans ((Ext.refl _).drew) hE
            have e223 : a.eval (.tmp 223) = .agg #[.int .i64 0, .slice (some ⟨w.heap.size + 1 + 1, 0, none⟩) 2 2] := hd 95 (by kernel_rfl)
            rw [eval_tmp] at e223
            have h224 : Nts wv (a.eval (.tmp 224)) [1, 2, 4] := hd 96 (by kernel_rfl)
            obtain ⟨xa224, xc224, e224, xl224, -⟩ := h224.form
            rw [e224] at h224
            rw [eval_tmp] at e224
            clear bi1_0 bi1_1 bi1_2 bi1_3 bi1_4 bi1_5 bi2_0 bi2_1 bi2_2 bi2_3 bi2_4 bi2_5 bi2_6 bi2_7 bi2_8 btb_0 btb_1 bT_0 bT_1
            clear hd ho
            replace hK := Lib.hid hK
            go_simp
            refine (law34_may_yes (run := [1, 2, 4]) (hTw.ext hF) h224 dn_l).mono ?_
            rintro e wz ⟨rfl, hZ⟩
            go_simp
            exact hK.out _ _ rfl hZ
          · intro a wv hE hd ho
            refine .inl ⟨rfl, ?_⟩
            intro K hK
            have hF : Ext w112 wv := Ext.trans ((Ext.refl _).drew) hE
            have e222 : a.eval (.tmp 222) = .bool true := hd 94 (by kernel_rfl)
            rw [eval_tmp] at e222
            have e225 : a.eval (.tmp 225) = .bool true := hd 97 (by kernel_rfl)
            rw [eval_tmp] at e225
            clear bi1_0 bi1_1 bi1_2 bi1_3 bi1_4 bi1_5 bi2_0 bi2_1 bi2_2 bi2_3 bi2_4 bi2_5 bi2_6 bi2_7 bi2_8 btb_0 btb_1 bT_0 bT_1
            clear hd ho
            replace hK := Lib.hid hK
            go_simp
            exact hK.out _ _ rfl (Ext.refl _)
          · intro a wv hE hd ho
            refine .inl ⟨rfl, ?_⟩
            intro K hK
            have hF : Ext w112 wv := Ext.trans ((Ext.refl _).drew) hE
            have e226 : a.eval (.tmp 226) = .bool true := hd 98 (by kernel_rfl)
            rw [eval_tmp] at e226
            clear bi1_0 bi1_1 bi1_2 bi1_3 bi1_4 bi1_5 bi2_0 bi2_1 bi2_2 bi2_3 bi2_4 bi2_5 bi2_6 bi2_7 bi2_8 btb_0 btb_1 bT_0 bT_1
            clear hd ho
            replace hK := Lib.hid hK
            go_simp
            exact hK.out _ _ rfl (Ext.refl _)
          · intro a wv hE hd ho
            refine .inl ⟨wanted_by 227 rfl rfl (hd 99 (by kernel_rfl)), ?_⟩
            intro K hK
            have hF : Ext w112 wv := Ext.trans ((Ext.refl _).drew) hE
            have e1 : a.eval (.tmp 1) = .pointer (some ⟨w.heap.size + 1 + 1 + 1, 0, none⟩) := ho 1 (by kernel_rfl)
            rw [eval_tmp] at e1
            have bT_0w := Ext.cell hF bT_0
            have bT_1w := Ext.cell hF bT_1
            clear bi1_0 bi1_1 bi1_2 bi1_3 bi1_4 bi1_5 bi2_0 bi2_1 bi2_2 bi2_3 bi2_4 bi2_5 bi2_6 bi2_7 bi2_8 btb_0 btb_1 bT_0 bT_1
            clear hd ho
            replace hK := Lib.hid hK
            go_simp
            exact hK.out _ _ rfl (Ext.refl _)
          · intro a wv hE hd ho
            refine .inl ⟨wanted_by 227 rfl rfl (hd 99 (by kernel_rfl)), ?_⟩
            intro K hK
            have hF : Ext w112 wv := Ext.trans ((Ext.refl _).drew) hE
            clear bi1_0 bi1_1 bi1_2 bi1_3 bi1_4 bi1_5 bi2_0 bi2_1 bi2_2 bi2_3 bi2_4 bi2_5 bi2_6 bi2_7 bi2_8 btb_0 btb_1 bT_0 bT_1
            clear hd ho
            replace hK := Lib.hid hK
            go_simp
            exact hK.out _ _ (Nts.litl wv _ [8] _ _ rfl rfl (by simp [maxLen]) rfl) ((Ext.refl _).alloc _)
          · intro a wv hE hd ho
            refine .inl ⟨wanted_by 227 rfl rfl (hd 99 (by kernel_rfl)), ?_⟩
            intro K hK
            have hF : Ext w112 wv := Ext.trans ((Ext.refl _).drew) hE
            have e228 : a.eval (.tmp 228) = .agg #[.int .i64 0, .slice (some ⟨w.heap.size + 1 + 1, 0, none⟩) 2 2] := hd 100 (by kernel_rfl)
            rw [eval_tmp] at e228
            have h229 : Nts wv (a.eval (.tmp 229)) [8] := hd 101 (by kernel_rfl)
            obtain ⟨xa229, xc229, e229, xl229, -⟩ := h229.form
            rw [e229] at h229
            rw [eval_tmp] at e229
            clear bi1_0 bi1_1 bi1_2 bi1_3 bi1_4 bi1_5 bi2_0 bi2_1 bi2_2 bi2_3 bi2_4 bi2_5 bi2_6 bi2_7 bi2_8 btb_0 btb_1 bT_0 bT_1
            clear hd ho
            replace hK := Lib.hid hK
            go_simp
            refine (law34_may_yes (run := [8]) (hTw.ext hF) h229 dn_m).mono ?_
            rintro e wz ⟨rfl, hZ⟩
            go_simp
            exact hK.out _ _ rfl hZ
          · intro a wv hE hd ho
            refine .inl ⟨rfl, ?_⟩
            intro K hK
            have hF : Ext w112 wv := Ext.trans ((Ext.refl _).drew) hE
            have e227 : a.eval (.tmp 227) = .bool true := hd 99 (by kernel_rfl)
            rw [eval_tmp] at e227
            have e230 : a.eval (.tmp 230) = .bool true := hd 102 (by kernel_rfl)
            rw [eval_tmp] at e230
            clear bi1_0 bi1_1 bi1_2 bi1_3 bi1_4 bi1_5 bi2_0 bi2_1 bi2_2 bi2_3 bi2_4 bi2_5 bi2_6 bi2_7 bi2_8 btb_0 btb_1 bT_0 bT_1
            clear hd ho
            replace hK := Lib.hid hK
            go_simp
            exact hK.out _ _ rfl (Ext.refl _)
          · intro a wv hE hd ho
            refine .inl ⟨rfl, ?_⟩
            intro K hK
            have hF : Ext w112 wv := Ext.trans ((Ext.refl _).drew) hE
            have e231 : a.eval (.tmp 231) = .bool true := hd 103 (by kernel_rfl)
            rw [eval_tmp] at e231
            clear bi1_0 bi1_1 bi1_2 bi1_3 bi1_4 bi1_5 bi2_0 bi2_1 bi2_2 bi2_3 bi2_4 bi2_5 bi2_6 bi2_7 bi2_8 btb_0 btb_1 bT_0 bT_1
            clear hd ho
            replace hK := Lib.hid hK
            go_simp
            exact hK.out _ _ rfl (Ext.refl _)
        · intro vals wv hE hv
          have hF : Ext w112 wv := Ext.trans ((Ext.refl _).drew) hE
          have ee : vals 104 = .bool true := hv 104 (by decide)
          clear hv hE
          try dsimp only [List.append]
          simp only [putAll]
          go_simp
          try rw [ee]
          go_wp2
          go_ret
          exact ⟨rfl, Ext.trans (hF111) hF⟩
set_option maxRecDepth 100000 in
theorem deallocNames_contract (H : Type) (enc : TypeId × Value → H) (W : World) (base : Nat) (args : Array Value) (ds gs : List (DataW H)) (before : List MemPlace)
    (hval0 : ∀ (j : Nat) t v, Tryd.f7.params[j]? = some t → args[j]? = some v → Value.okWide Tryd.prog W .any base t v)
    (hW : DataW.Whole enc Tryd.prog Tryd.f7.params.toList Rows.deallocNamesSpec.vars false W args.toList ds gs before) (hL : laidMetH Tryd.prog Rows.deallocNamesRow.laid W) :
    Calls Tryd.prog 7 args W fun e W' => ∃ v, e = .returned v ∧ Rows.deallocNamesSpec.post enc Tryd.prog Tryd.f7 false true false false W args v W' := by
  have hval : ∀ (j : Nat) t v, Tryd.f7.params[j]? = some t → args[j]? = some v → Value.okWide Tryd.prog W .any base t v := hval0
  have hW' := hW
  obtain ⟨p, q, hA0, hV, rfl, hfz, hnd⟩ := hW
  have hA : DataW.TrodAll enc Tryd.prog W 0 (fun _ => true) true Tryd.f7.params.toList args.toList ds p := hA0
  rw [Tryd.params7] at hA hval
  obtain ⟨hargs, rfl, rfl⟩ := trodAll_nil hA
  obtain rfl : args = #[] := by cases args; simp_all
  refine (deallocNames_walk (perms_of_laid hL) ).mono fun e W' ⟨he, hb⟩ => ?_
  subst he
  exact ⟨_, rfl, post_law TrydlaidOut (tb := 4) rfl Tryd.underlying4 (by kernel_rfl) rfl (fun ds hd => match ds, hd with | [], _ => rfl) hW' hb⟩
theorem deallocNames_met (os : Os) : laidMet Tryd.prog Rows.deallocNamesRow.laid ((doorWorld os).forCall (fun _ _ => 0) ⟨#[], #[], []⟩).memory :=
  laidMet_of_run' 8 (by kernel_rfl) (by kernel_rfl)
theorem deallocNames_reads (os : Os) {H : Type} (enc : TypeId × Value → H) : ∃ places, DataW.whole enc Tryd.prog ((doorWorld os).forCall (fun _ _ => 0) ⟨#[], #[], []⟩).memory Tryd.f7.params.toList Rows.deallocNamesSpec.vars false (#[] : Array Value).toList 8 = some ([], [], places) :=
  ⟨[], by kernel_rfl⟩
set_option maxRecDepth 100000 in
theorem deallocNames_lifted (os : Os) (started : os.Started) (H : Type) (enc : TypeId × Value → H) (F : Stop.Interp) :
    ReturnsInHanded {} Tryd.checked os 7 .any ((OpenSpec.ofChange Rows.deallocNamesSpec).preRow enc Tryd.prog Tryd.f7 Rows.deallocNamesRow.domain false Rows.deallocNamesRow.laid) (((OpenSpec.ofChange Rows.deallocNamesSpec).at F).post enc Tryd.prog Tryd.f7 false true false false) := by
  obtain ⟨places, hx⟩ := deallocNames_reads os enc
  refine returnsInHanded_of_row (C := Tryd.checked) (s := OpenSpec.ofChange Rows.deallocNamesSpec) Trydown started (by kernel_rfl) Tryd.func7
    (witness_row_at (enc := enc) (C := Tryd.checked) false (doorWorld os) #[] rfl (by kernel_rfl) (by kernel_rfl) (by kernel_rfl)
      (OpenSpec.preRow_of_cond 8 hx (by kernel_rfl) (fun k hk => by cases hk) (by kernel_rfl) (deallocNames_met os))) ?_
  intro W base args ds gs before hval hW _ _ _ hL _ _
  exact deallocNames_contract H enc W base args ds gs before hval hW hL
theorem deallocNames_said : Rows.DeallocNamesSaid :=
  OpenClaim.holds_of_cond 7 Tryd.f7 rfl rfl rfl rfl rfl rfl rfl ⟨rfl, rfl, rfl, rfl, rfl⟩ rfl rfl rfl rfl rfl (by kernel_rfl) Tryd.func7 (by kernel_rfl)
    (of_decide_eq_true (by kernel_rfl)) (by unfold Func.isWrapper; first | (rw [if_pos (by decide +kernel)]; kernel_rfl) | (rw [if_neg (by decide +kernel)]; exact ⟨rfl, rfl⟩))
    (fun os started H enc _ F => by rw [OpenClaim.pre_eq_preRow]; exact deallocNames_lifted os started H enc F)
theorem deallocNames_plain (f : FuncId) (fn : Func) (hf : Tryd.pinned.checked.prog.funcNamed "pawnshop/pawnshoplaw34.DeallocNames" = some f) (hfn : Tryd.pinned.checked.prog.funcs[f]? = some fn) :
    false = Tryd.pinned.checked.prog.looks [] ∧ ∀ (j : Nat) t, fn.params[j]? = some t → Tryd.pinned.checked.prog.wantsStandIn t = false := by
  obtain rfl : f = 7 := Option.some.inj ((show Tryd.prog.funcNamed "pawnshop/pawnshoplaw34.DeallocNames" = some 7 by kernel_rfl).symm.trans hf) |>.symm
  obtain rfl : fn = Tryd.f7 := (Option.some.inj (Tryd.func7.symm.trans hfn)).symm
  refine ⟨by kernel_rfl, fun j t ht => ?_⟩
  have hm : t ∈ Tryd.f7.params.toList := by simpa using Array.mem_of_getElem? ht
  have hall : (Tryd.f7.params.toList.all fun u => !Tryd.prog.wantsStandIn u) = true := by kernel_rfl
  exact (show Tryd.prog.wantsStandIn t = false by simpa using List.all_eq_true.1 hall t hm)
theorem deallocNames_card : Rows.DeallocNamesCardSaid :=
  Claim7.holds_tied_plain_at .later [] _ _ _ _ deallocNames_said (fun _ h => by cases h) (by kernel_rfl) (fun _ h => by cases h) deallocNames_row_tie rfl ⟨rfl, rfl⟩ (by kernel_rfl) rfl deallocNames_plain (by kernel_rfl)

end Go.Proofs.YtkbocenpkdaogaaDoor
