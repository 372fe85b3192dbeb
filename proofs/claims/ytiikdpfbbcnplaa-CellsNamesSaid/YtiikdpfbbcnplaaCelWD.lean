/- Contracts: Forget of the program and of the reference. -/
import Derived.Test.YtiikdpfbbcnplaaCelWC
namespace Go.Proofs.Ytiikdpfbbcnplaa
set_option maxRecDepth 100000
open Go.RowKit

theorem forgetR_bad {m : Mem} (h : m.ok = false) : forgetR m = (Mem.zero, 8) := by simp [forgetR, h]
theorem forgetR_ok {m : Mem} (h : m.ok = true) : forgetR m = (⟨m.al.filter (·.live), m.next⟩, 0) := by simp [forgetR, h]

set_option maxRecDepth 100000 in
set_option maxHeartbeats 3200000 in
theorem allocs_Forget {m : Mem} {s : Value} {w : World} (hl : Als w s m.al) (hn : i64B m.next) :
    Calls Try.prog 61 #[.agg #[s, .int .i64 m.next]] w (RetME w (forgetR m).1 (forgetR m).2) := by
  have hE0 := ((Ext.refl w).alloc (.cells #[s, .int .i64 m.next] 24)).alloc (.cells #[.slice none 0 0, .int .i64 0] 24)
  obtain ⟨a, cp, rfl, hlc, hcm, -⟩ := hl.form
  unfold maxLen at hcm
  have bM := (Box.new w 24 #[.slice a m.al.length cp, .int .i64 m.next]).ext ((Ext.refl _).alloc (.cells #[.slice none 0 0, .int .i64 0] 24))
  have bR := Box.new (w.alloc (.cells #[.slice a m.al.length cp, .int .i64 m.next] 24)) 24 #[.slice none 0 0, .int .i64 0]
  rw [World.size_alloc] at bR
  have hCk := Lib.hid (allocs_Check (hl.ext hE0) hn)
  have hL := Lib.hid hl
  cases hok : m.ok
  · have hce : Hid (memErr m.al m.next = 8) := Hid.mk (memErr_bad hok)
    have hres := Lib.hid (forgetR_bad hok)
    clear hok hl
    go_enter Try.func61, Try.ntmps61
    go_wp2_with fail
    refine hCk.out.mono ?_
    rintro e w1 ⟨rfl, hE1⟩
    rw [hce.out]
    have bR1 := bR.ext hE1
    have r0 : w1.cell? ⟨w.heap.size + 1, 0, none⟩ = some (.slice none 0 0) := bR1.cell 0
    have r1 : w1.cell? ⟨w.heap.size + 1, 1, none⟩ = some (.int .i64 0) := bR1.cell 1
    have rf0 := bR1.frozen 0
    have rf1 := bR1.frozen 1
    have hF1 := hE0.trans hE1
    clear bM bR bR1
    go_wp2
    rw [hres.out]
    refine bodyPost_ret (v := .tuple #[.agg #[.slice none 0 0, .int .i64 0], .int .i64 8]) (by simp [results, Try.f61, go_sem, r0, r1]) rfl ⟨_, rfl, FrM.zero _ _, (hF1.setCell (by simp) _).setCell (by simp) _⟩
  · have hce : Hid (memErr m.al m.next = 0) := Hid.mk (memErr_ok hok)
    have hsm := small_of_ok hok
    have hl4 := (ok_bounds hok).1
    have hres := Lib.hid (forgetR_ok hok)
    clear hok hl
    go_enter Try.func61, Try.ntmps61
    go_wp2_with fail
    refine hCk.out.mono ?_
    rintro e w1 ⟨rfl, hE1⟩
    rw [hce.out]
    have hF1 := hE0.trans hE1
    have bM1 := bM.ext hE1
    have m0 : w1.cell? ⟨w.heap.size, 0, none⟩ = some (.slice a m.al.length cp) := bM1.cell 0
    have m1 : w1.cell? ⟨w.heap.size, 1, none⟩ = some (.int .i64 m.next) := bM1.cell 1
    go_wp2_with fail
    refine (allocs_clone (hL.out.ext hF1) hsm).mono ?_
    rintro e w2 ⟨v, vs, rfl, hOM, hE2⟩
    have hF2 := hF1.trans hE2
    have hw1 : w.heap.size + 1 < w1.heap.size := (bR.ext hE1).lt
    have hvB : ∀ g, v.ownBlock = some g → w1.heap.size ≤ g := fun g e => (hOM.outer.lt e).1
    have bM2 := bM1.ext hE2
    have bR2 := (bR.ext hE1).ext hE2
    have hv := hOM.outer.sl.slice_form
    obtain ⟨a2, cp2, rfl, hlc2, hcm2, -⟩ := hv
    unfold maxLen at hcm2
    have k0 : w2.cell? ⟨w.heap.size, 0, none⟩ = some (.slice a m.al.length cp) := bM2.cell 0
    have k1 : w2.cell? ⟨w.heap.size, 1, none⟩ = some (.int .i64 m.next) := bM2.cell 1
    have kf0 := bM2.frozen 0
    have kf1 := bM2.frozen 1
    have hX3 : ExtBut (fun b => b = w.heap.size) w2 ((w2.setCell ⟨w.heap.size, 0, none⟩ (.slice a2 m.al.length cp2)).setCell ⟨w.heap.size, 1, none⟩ (.int .i64 m.next)) := (ExtBut.setCell w2 ⟨w.heap.size, 0, none⟩ (.slice a2 m.al.length cp2)).trans (ExtBut.setCell _ ⟨w.heap.size, 1, none⟩ (.int .i64 m.next))
    have bM3 := (bM2.set 0 (.slice a2 m.al.length cp2)).set 1 (.int .i64 m.next)
    have bR3 := bR2.but hX3 (by omega)
    have hF3 := ExtBut.ext hF2 hX3 (fun x h => by omega)
    have hOM3 := OM.but hOM hX3 (fun g e h => by have := hvB g e; omega) (fun s hs g e h => by have := (OM.inner_lt hOM s hs g e).1; omega)
    have hcut := run_slice_upto (P := Try.prog) Try.underlying22 (Classical.choose_spec (Classical.choose_spec Alloc.infoE)).1 a2 m.al.length cp2 0 0 rfl (Nat.zero_le _)
    have hH := Lib.hid (And.intro bM3 (And.intro bR3 (And.intro hF3 (And.intro hOM3 (And.intro hvB hw1)))))
    clear bM bR bM1 bM2 bR2 bM3 bR3 hOM hOM3 hF3 hX3 m0 m1 hvB
    go_wp2
    obtain ⟨w3, hw3⟩ : ∃ w3, (w2.setCell ⟨w.heap.size, 0, none⟩ (.slice a2 m.al.length cp2)).setCell ⟨w.heap.size, 1, none⟩ (.int .i64 m.next) = w3 := ⟨_, rfl⟩
    rw [hw3] at hH ⊢
    clear hw3 hcut
    by_cases hz : m.al.length = 0
    · have hnil : m.al = [] := List.eq_nil_of_length_eq_zero hz
      rw [hz] at hH ⊢
      have hnil' := Lib.hid hnil
      clear hz hnil hlc hlc2 hl4
      go_loopw [5, 22] (fun lv iv wr => lv = .slice a2 0 cp2 ∧ iv = .int .i64 0 ∧ wr = w3) (fun _ _ _ => 0)
      case atStart => exact ⟨rfl, rfl, rfl⟩
      case round =>
        obtain ⟨rfl, rfl, rfl⟩ := hrel
        obtain ⟨bM3, bR3, hF3, hOM3, hvB, -⟩ := hH.out
        have n0 : wr.cell? ⟨w.heap.size, 0, none⟩ = some (.slice a2 0 cp2) := bM3.cell 0
        have n1 : wr.cell? ⟨w.heap.size, 1, none⟩ = some (.int .i64 m.next) := bM3.cell 1
        have nf0 := bM3.frozen 0
        have r0 : wr.cell? ⟨w.heap.size + 1, 0, none⟩ = some (.slice none 0 0) := bR3.cell 0
        have r1 : wr.cell? ⟨w.heap.size + 1, 1, none⟩ = some (.int .i64 0) := bR3.cell 1
        have rf0 := bR3.frozen 0
        have rf1 := bR3.frozen 1
        have hfull := run_slice_full (P := Try.prog) Try.underlying22 (Classical.choose_spec (Classical.choose_spec Alloc.infoE)).1 a2 0 cp2 0 (Nat.zero_le _)
        have hF3' := Lib.hid hF3
        clear bM3 bR3 hF3 hOM3 hvB
        go_wp2
        rw [hres.out]
        have hX7 := ((((ExtBut.setCell wr ⟨w.heap.size, 0, none⟩ (.slice a2 0 0)).mono (S' := fun b => b = w.heap.size ∨ b = w.heap.size + 1) (fun x _ h => .inl h))).trans ((ExtBut.setCell _ ⟨w.heap.size + 1, 0, none⟩ (.slice a2 0 0)).mono (S' := fun b => b = w.heap.size ∨ b = w.heap.size + 1) (fun x _ h => .inr h))).trans ((ExtBut.setCell _ ⟨w.heap.size + 1, 1, none⟩ (.int .i64 m.next)).mono (S' := fun b => b = w.heap.size ∨ b = w.heap.size + 1) (fun x _ h => .inr h))
        refine bodyPost_ret (v := .tuple #[.agg #[.slice a2 0 0, .int .i64 m.next], .int .i64 0]) (by simp [results, Try.f61, go_sem, r0, r1]) rfl ⟨_, rfl, fun w'' _ => ⟨_, rfl, ?_⟩, ExtBut.ext hF3'.out hX7 (fun x h => by omega)⟩
        rw [hnil'.out]
        exact ⟨[], trivial, ⟨by simp [trows], a2, 0, rfl, Nat.le_refl _, by simp [maxLen], fun _ => rfl, fun j u h => by simp [trows] at h⟩⟩
    · obtain ⟨bM3, bR3, hF3, hOM3, hvB, hw1'⟩ := hH.out
      obtain ⟨g, cpx, e, -, -, hg1, hg2⟩ := hOM3.outer.form (by omega)
      simp only [Value.slice.injEq] at e
      obtain ⟨rfl, -, rfl⟩ := e
      have hgm : g ≠ w.heap.size := by omega
      have hvs := (All2.iff.1 hOM3.inner).1
      have hI0 := FInv.start hOM3.outer
      have hA := Lib.hid (And.intro bM3 (And.intro bR3 (And.intro hF3 (And.intro hOM3 (And.intro hvs hI0)))))
      clear bM3 bR3 hF3 hOM3 hvB hvs hI0
      go_loopw [5, 22] (fun lv iv wr => ∃ k : Nat, k ≤ m.al.length ∧ lv = .slice (some ⟨g, 0, none⟩) (zf vs m.al k).length cp2 ∧ iv = .int .i64 k ∧ FInv w1.heap.size w3 wr g cp2 vs m.al k) (fun _ iv _ => m.al.length - (intOf iv).toNat)
      case atStart => exact ⟨0, Nat.zero_le _, by rw [zf_zero]; rfl, rfl, hA.out.2.2.2.2.2⟩
      case round =>
        obtain ⟨k, hk, rfl, rfl, hI⟩ := hrel
        have hzl := zf_le (vs := vs) (l := m.al) k
        obtain ⟨j, hj⟩ : ∃ j, (zf vs m.al k).length = j := ⟨_, rfl⟩
        have hbM : Box wr w.heap.size 24 _ := hA.out.1.but hI.keep (fun h => hgm h.symm)
        have hbR : Box wr (w.heap.size + 1) 24 _ := hA.out.2.1.but hI.keep (fun h => by omega)
        have hsz := hbM.lt
        by_cases hlt : k < m.al.length
        · obtain ⟨x, hx⟩ : ∃ x, m.al[k]? = some x := ⟨m.al[k], by simp [hlt]⟩
          obtain ⟨sv, hsv⟩ : ∃ sv, vs[k]? = some sv := by have := hA.out.2.2.2.2.1; exact ⟨vs[k], by simp⟩
          obtain ⟨c0, c1, c2⟩ := hI.cells hsv hx
          have hso : sv.oneCell' = true := (OwnC.read ((All2.iff.1 hA.out.2.2.2.1.inner).2 k sv x hsv hx)).one'
          obtain ⟨ca, ccp, rfl⟩ : ∃ ca ccp, sv = .slice ca x.cells.length ccp := by
            obtain ⟨p, q, h, -⟩ := (OwnC.read ((All2.iff.1 hA.out.2.2.2.1.inner).2 k sv x hsv hx)).form
            exact ⟨p, q, h⟩
          have hgl : g < wr.heap.size := World.block_lt_of_cell? wr _ c0
          cases hlv : x.live
          · rw [hlv] at c1
            have hN := Lib.hid (hI.skip hsv hx hlv ((Ext.refl wr).alloc (.cells #[.int .i64 x.num, .bool false, .slice ca x.cells.length ccp] 70)))
            have hzz := Lib.hid (zf_no (vs := vs) (l := m.al) hsv hx hlv)
            have hj' := Lib.hid hj
            rw [hj]
            clear hI hbM hbR hsv hx hlv hj
            go_wp2
            go_roundw
            case rel => exact ⟨k + 1, by omega, by rw [hzz.out, hj'.out], by go_num, hN.out⟩
            case measure => simp [intOf]; omega
          · rw [hlv] at c1
            have hE : Ext wr ((wr.alloc (.cells #[.int .i64 x.num, .bool true, .slice ca x.cells.length ccp] 70)).alloc (.cells #[.int .i64 x.num, .bool true, .slice ca x.cells.length ccp] 70)) := ((Ext.refl wr).alloc _).alloc _
            have hv1 : Sl ((wr.alloc (.cells #[.int .i64 x.num, .bool true, .slice ca x.cells.length ccp] 70)).alloc (.cells #[.int .i64 x.num, .bool true, .slice ca x.cells.length ccp] 70)) 3 (.slice (some ⟨wr.heap.size + 1, 0, none⟩) 1 1) 1 (arow (.slice ca x.cells.length ccp) x) := by
              have := (Own.lit' (B := 0) (e := 70) (k := 3) (wr.alloc (.cells #[.int .i64 x.num, .bool true, .slice ca x.cells.length ccp] 70)) #[.int .i64 x.num, .bool true, .slice ca x.cells.length ccp] 1 (Nat.zero_le _) (by simp [maxLen]) rfl).sl
              rw [World.size_alloc] at this
              rw [arow, hlv]
              exact this
            obtain ⟨w6, hr6, hI6, hX6⟩ := hI.take hsv hx hlv hE hv1 hso
            have hzz := zf_yes (vs := vs) (l := m.al) hsv hx hlv
            have hzl2 : Hid ((zf vs m.al (k + 1)).length = j + 1) := Hid.mk (by rw [hzz, List.length_append, hj]; rfl)
            rw [hj] at hr6 ⊢
            have hN := Lib.hid (And.intro hr6 hI6)
            clear hI hbM hbR hsv hx hlv hj hr6 hI6 hzz hE hv1 hX6
            go_wp2_with (at_builtin; refine Hid.out ?_)
            refine Hid.mk ?_
            refine wpList_append_run rfl _ _ 22 22 22 rfl rfl rfl rfl hN.out.1 ?_
            go_wp2
            go_roundw
            case rel => exact ⟨k + 1, by omega, by rw [hzl2.out], by go_num, hN.out.2⟩
            case measure => simp [intOf]; omega
        · have hkl : k = m.al.length := by omega
          subst hkl
          have n0 : wr.cell? ⟨w.heap.size, 0, none⟩ = some (.slice (some ⟨g, 0, none⟩) m.al.length cp2) := hbM.cell 0
          have n1 : wr.cell? ⟨w.heap.size, 1, none⟩ = some (.int .i64 m.next) := hbM.cell 1
          have nf0 := hbM.frozen 0
          have r0 : wr.cell? ⟨w.heap.size + 1, 0, none⟩ = some (.slice none 0 0) := hbR.cell 0
          have r1 : wr.cell? ⟨w.heap.size + 1, 1, none⟩ = some (.int .i64 0) := hbR.cell 1
          have rf0 := hbR.frozen 0
          have rf1 := hbR.frozen 1
          have hfull := run_slice_full (P := Try.prog) Try.underlying22 (Classical.choose_spec (Classical.choose_spec Alloc.infoE)).1 (some ⟨g, 0, none⟩) j cp2 j (by omega)
          have hj' := Lib.hid hj
          have hj6 : j ≤ 9223372036854775807 := by omega
          have hI' := Lib.hid hI
          rw [hj]
          clear hI hbM hbR hj
          go_wp2
          rw [hres.out]
          have hX7 := ((((ExtBut.setCell wr ⟨w.heap.size, 0, none⟩ (.slice (some ⟨g, 0, none⟩) j j)).mono (S' := fun b => b = w.heap.size ∨ b = w.heap.size + 1) (fun x _ h => .inl h))).trans ((ExtBut.setCell _ ⟨w.heap.size + 1, 0, none⟩ (.slice (some ⟨g, 0, none⟩) j j)).mono (S' := fun b => b = w.heap.size ∨ b = w.heap.size + 1) (fun x _ h => .inr h))).trans ((ExtBut.setCell _ ⟨w.heap.size + 1, 1, none⟩ (.int .i64 m.next)).mono (S' := fun b => b = w.heap.size ∨ b = w.heap.size + 1) (fun x _ h => .inr h))
          have hF4 := ExtBut.ext hA.out.2.2.1 hI'.out.keep (fun x h => by omega)
          refine bodyPost_ret (v := .tuple #[.agg #[.slice (some ⟨g, 0, none⟩) j j, .int .i64 m.next], .int .i64 0]) (by simp [results, Try.f61, go_sem, r0, r1]) rfl ⟨_, rfl, fun w'' h2 => ⟨_, rfl, ?_⟩, ExtBut.ext hF4 hX7 (fun x h => by omega)⟩
          have h9 := FInv.read (S := fun b => (b = w.heap.size ∨ b = w.heap.size + 1) ∨ b < w.heap.size) hI'.out hA.out.2.2.2.1 hg1 ((hX7.mono (fun x _ h => .inl h)).trans (h2.mono (fun x _ h => .inr h))) (fun b h => by omega)
          rw [hj'.out] at h9
          exact h9

set_option maxRecDepth 100000 in
set_option maxHeartbeats 3200000 in
theorem ref26_Forget {m : Mem} {s : Value} {w : World} (hl : Als w s m.al) (hn : i64B m.next) :
    Calls Try.prog 66 #[.agg #[s, .int .i64 m.next]] w (RetME w (forgetR m).1 (forgetR m).2) := by
  have hE0 := ((Ext.refl w).alloc (.cells #[s, .int .i64 m.next] 24)).alloc (.cells #[.slice none 0 0, .int .i64 0] 24)
  obtain ⟨a, cp, rfl, hlc, hcm, -⟩ := hl.form
  unfold maxLen at hcm
  have bM := (Box.new w 24 #[.slice a m.al.length cp, .int .i64 m.next]).ext ((Ext.refl _).alloc (.cells #[.slice none 0 0, .int .i64 0] 24))
  have bR := Box.new (w.alloc (.cells #[.slice a m.al.length cp, .int .i64 m.next] 24)) 24 #[.slice none 0 0, .int .i64 0]
  rw [World.size_alloc] at bR
  have hCk := Lib.hid (ref26_Check (hl.ext hE0) hn)
  have hL := Lib.hid hl
  cases hok : m.ok
  · have hce : Hid (memErr m.al m.next = 8) := Hid.mk (memErr_bad hok)
    have hres := Lib.hid (forgetR_bad hok)
    clear hok hl
    go_enter Try.func66, Try.ntmps66
    go_wp2_with fail
    refine hCk.out.mono ?_
    rintro e w1 ⟨rfl, hE1⟩
    rw [hce.out]
    have bR1 := bR.ext hE1
    have r0 : w1.cell? ⟨w.heap.size + 1, 0, none⟩ = some (.slice none 0 0) := bR1.cell 0
    have r1 : w1.cell? ⟨w.heap.size + 1, 1, none⟩ = some (.int .i64 0) := bR1.cell 1
    have rf0 := bR1.frozen 0
    have rf1 := bR1.frozen 1
    have hF1 := hE0.trans hE1
    clear bM bR bR1
    go_wp2
    rw [hres.out]
    refine bodyPost_ret (v := .tuple #[.agg #[.slice none 0 0, .int .i64 0], .int .i64 8]) (by simp [results, Try.f66, go_sem, r0, r1]) rfl ⟨_, rfl, FrM.zero _ _, (hF1.setCell (by simp) _).setCell (by simp) _⟩
  · have hce : Hid (memErr m.al m.next = 0) := Hid.mk (memErr_ok hok)
    have hsm := small_of_ok hok
    have hl4 := (ok_bounds hok).1
    have hres := Lib.hid (forgetR_ok hok)
    clear hok hl
    go_enter Try.func66, Try.ntmps66
    go_wp2_with fail
    refine hCk.out.mono ?_
    rintro e w1 ⟨rfl, hE1⟩
    rw [hce.out]
    have hF1 := hE0.trans hE1
    have bM1 := (bM.ext hE1).ext ((Ext.refl w1).alloc (.cells #[.slice none 0 0, .int .i64 m.next] 24))
    have bR1 := (bR.ext hE1).ext ((Ext.refl w1).alloc (.cells #[.slice none 0 0, .int .i64 m.next] 24))
    have bO1 := Box.new w1 24 #[.slice none 0 0, .int .i64 m.next]
    have hF1' := hF1.trans ((Ext.refl w1).alloc (.cells #[.slice none 0 0, .int .i64 m.next] 24))
    have z1 : w1.cell? ⟨w.heap.size, 1, none⟩ = some (.int .i64 m.next) := (bM.ext hE1).cell 1
    have z0 : w1.cell? ⟨w.heap.size, 0, none⟩ = some (.slice a m.al.length cp) := (bM.ext hE1).cell 0
    have hb1 := (bR.ext hE1).lt
    have hb0 : w.heap.size < w1.heap.size := by omega
    go_wp2_with fail
    refine (ref26_Twin (hL.out.ext hF1') hsm).mono ?_
    rintro e w3 ⟨v, vs, rfl, hOM, hE3⟩
    have hF3 := hF1'.trans hE3
    have hv := hOM.outer.sl.slice_form
    obtain ⟨a2, cp2, rfl, hlc2, hcm2, -⟩ := hv
    unfold maxLen at hcm2
    have hE4 := (Ext.refl w3).alloc (.cells #[.slice a2 m.al.length cp2, .int .i64 m.next] 24)
    have bR4 := (bR1.ext hE3).ext hE4
    have bO4 := (bO1.ext hE3).ext hE4
    have bT4 := Box.new w3 24 #[.slice a2 m.al.length cp2, .int .i64 m.next]
    have hF4 := hF3.trans hE4
    have hs13 : w1.heap.size < w3.heap.size := (bO1.ext hE3).lt
    have hin := OM.inner_lt hOM
    simp only [World.size_alloc] at hin
    have hvB : ∀ g, (Value.slice a2 m.al.length cp2).ownBlock = some g → w1.heap.size + 1 ≤ g ∧ g < w3.heap.size := fun g e => by have := hOM.outer.lt e; simpa using this
    have hOM4 := OM.ext hOM hE4
    have hH := Lib.hid (And.intro bR4 (And.intro bO4 (And.intro bT4 (And.intro hF4 (And.intro hOM4 (And.intro hin hvB))))))
    obtain ⟨ai, az, hai, haz, hai3, haz3, haby⟩ := Alloc.infoE
    have hai' := Lib.hid hai; have haz' := Lib.hid haz; have hai3' := Lib.hid hai3; have haz3' := Lib.hid haz3; have haby' := Lib.hid haby
    clear bM bR bM1 bR1 bO1 z0 z1 bR4 bO4 bT4 hF4 hOM hOM4 hin hvB hF3 hF1' hE4 hai haz hai3 haz3 haby
    go_wp2
    obtain ⟨w4, hw4⟩ : ∃ w4, w3.alloc (.cells #[.slice a2 m.al.length cp2, .int .i64 m.next] 24) = w4 := ⟨_, rfl⟩
    have hs4 : w4.heap.size = w3.heap.size + 1 := by rw [← hw4]; simp
    rw [hw4] at hH ⊢
    clear hw4
    have hs4' := Lib.hid hs4
    clear hs4
    go_loopw [7] (fun iv wr => ∃ (k : Nat) (v' : Value), k ≤ m.al.length ∧ iv = .int .i64 k ∧ Box wr w1.heap.size 24 #[v', .int .i64 m.next] ∧ Own wr w4.heap.size 70 3 v' (zf vs m.al k).length (zrows (zf vs m.al k)) ∧ ExtBut (fun b => b = w1.heap.size) w4 wr) (fun iv _ => m.al.length - (intOf iv).toNat)
    case atStart => exact ⟨0, _, Nat.zero_le _, rfl, hH.out.2.1, by rw [zf_zero]; exact Own.nil _ _ _ _, ExtBut.refl _ _⟩
    case round =>
      obtain ⟨k, v', hk, rfl, bO, hO, hX⟩ := hrel
      obtain ⟨bR4, bO4, bT4, hF4, hOM4, hin, hvB⟩ := hH.out
      have hbT := bT4.but hX (by omega)
      have hbR := bR4.but hX (by omega)
      have t0 : wr.cell? ⟨w3.heap.size, 0, none⟩ = some (.slice a2 m.al.length cp2) := hbT.cell 0
      have hszT := hbT.lt
      have hzl := zf_le (vs := vs) (l := m.al) k
      obtain ⟨j, hj⟩ : ∃ j, (zf vs m.al k).length = j := ⟨_, rfl⟩
      rw [hj] at hO
      have hvlt := fun g e => (hO.lt (g := g) e).1
      obtain ⟨av, cv, rfl, hcv, hcv2, -⟩ := hO.sl.slice_form
      by_cases hlt : k < m.al.length
      · obtain ⟨x, hx⟩ : ∃ x, m.al[k]? = some x := ⟨m.al[k], by simp [hlt]⟩
        have hvi := fun g e => hvB g e
        obtain ⟨g, sv, rfl, hg1, hg2, hsv, hown, ⟨c0, c1, c2⟩, -, -⟩ := OM.cell hOM4 hx
        have hgw := hvB g rfl
        have hgne : g ≠ w1.heap.size := by omega
        obtain ⟨ca, ccp, rfl⟩ : ∃ ca ccp, sv = .slice ca x.cells.length ccp := by
          obtain ⟨p, q, h, -⟩ := (OwnC.read hown).form
          exact ⟨p, q, h⟩
        have c0 := hX.cell c0 hgne
        have c1 := hX.cell c1 hgne
        have c2 := hX.cell c2 hgne
        have hgl : g < wr.heap.size := World.block_lt_of_cell? wr _ c0
        have hi0 : (0 : Int) ≤ (k : Int) := by omega
        have hi1 : (k : Int) < (m.al.length : Int) := by omega
        cases hlv : x.live
        · rw [hlv] at c1
          have hzz := zf_no (vs := vs) (l := m.al) hsv hx hlv
          have hN : Own wr w4.heap.size 70 3 (.slice av j cv) (zf vs m.al (k + 1)).length (zrows (zf vs m.al (k + 1))) := by rw [hzz, hj]; exact hO
          have hN := Lib.hid (And.intro bO (And.intro hN hX))
          clear bR4 bO4 bT4 hF4 hOM4 hin hvB hbT hbR hO bO hX hown hsv hx hlv hj hzz hvi hvlt
          go_wp2
          go_roundw
          case rel => exact ⟨k + 1, _, by omega, by go_num, hN.out.1, hN.out.2.1, hN.out.2.2⟩
          case measure => simp [intOf]; omega
        · rw [hlv] at c1
          have o0 : wr.cell? ⟨w1.heap.size, 0, none⟩ = some (.slice av j cv) := bO.cell 0
          have hbO := bO.lt
          have hv1 : Sl (wr.alloc (.cells #[.int .i64 x.num, .bool true, .slice ca x.cells.length ccp] 70)) 3 (.slice (some ⟨wr.heap.size, 0, none⟩) 1 1) 1 (arow (.slice ca x.cells.length ccp) x) := by
            have := (Own.lit' (B := 0) (e := 70) (k := 3) wr #[.int .i64 x.num, .bool true, .slice ca x.cells.length ccp] 1 (Nat.zero_le _) (by simp [maxLen]) rfl).sl
            rw [arow, hlv]
            exact this
          have hzz := zf_yes (vs := vs) (l := m.al) hsv hx hlv
          have hj4 : j ≤ 400 := by omega
          have hN := Lib.hid (And.intro bO (And.intro hO (And.intro hX (And.intro hv1 (And.intro hzz (And.intro hj hvlt))))))
          clear bR4 bO4 bT4 hF4 hOM4 hin hvB hbT hbR hO bO hX hown hsv hx hlv hj hzz hvi hvlt hv1
          go_wp2
          go_region_law (first | (rw [if_pos (by rfl)]; refine wp_append_any (.tmp 33) (.tmp 39) 22 22 rfl rfl rfl (B := w4.heap.size) (e := 70) (n := j) (m := 1) (xs := zrows (zf vs m.al k)) (ys := arow (.slice ca x.cells.length ccp) x) Try.underlying22 Try.underlying22 hai'.out haz'.out hai3'.out haz3'.out (hN.out.2.1.ext ((Ext.refl _).alloc _).drew) ?_ ?_ ?_ ?_ ?_ ?_; (exact Sl.ext hN.out.2.2.2.1 (Ext.refl _).drew); (simp [arow, Value.oneCell']); (simp [maxLen]; omega); (rw [haby'.out]; omega); (have := hN.out.2.2.1.size; simp; omega); intro v' w' hO' hK' hb' _; obtain ⟨a3, cp3, rfl, -⟩ := hO'.sl.slice_form; have bO' := (hN.out.1.ext ((Ext.refl _).alloc _).drew).but (ExtBut.of_keeps hK') (fun h => by have := hN.out.2.2.2.2.2.2 _ h; have := hs4'.out; omega); have k0 : w'.cell? ⟨w1.heap.size, 0, none⟩ = some (.slice av j cv) := bO'.cell 0; have kf := bO'.frozen 0))
          all_goals
            have bO6 := bO'.set 0 (.slice a3 (j + 1) cp3)
            have hX6 : ExtBut (fun b => b = w1.heap.size) w4 (w'.setCell ⟨w1.heap.size, 0, none⟩ (.slice a3 (j + 1) cp3)) := ((hN.out.2.2.1.trans (ExtBut.of_ext ((Ext.refl _).alloc _).drew)).trans' (ExtBut.of_keeps hK') (fun y hy h => by have := hN.out.2.2.2.2.2.2 _ h; omega)).trans (ExtBut.setCell w' ⟨w1.heap.size, 0, none⟩ (.slice a3 (j + 1) cp3))
            have hO6 := ExtBut.own hO' (ExtBut.setCell w' ⟨w1.heap.size, 0, none⟩ (.slice a3 (j + 1) cp3)) (fun y e h => by have := (hO'.lt e).1; have := hs4'.out; have h' : y = w1.heap.size := h; omega)
            have hO7 : Own (w'.setCell ⟨w1.heap.size, 0, none⟩ (.slice a3 (j + 1) cp3)) w4.heap.size 70 3 (.slice a3 (j + 1) cp3) (zf vs m.al (k + 1)).length (zrows (zf vs m.al (k + 1))) := by
              rw [hN.out.2.2.2.2.1, List.length_append, hN.out.2.2.2.2.2.1, zrows, List.flatMap_append, ← zrows]
              simpa using hO6
            have hR := Lib.hid (And.intro bO6 (And.intro hO7 hX6))
            clear bO' k0 kf hO' hK' hb' bO6 hX6 hO6 hO7
            go_wp2
            go_roundw
            case rel => exact ⟨k + 1, _, by omega, by go_num, hR.out.1, hR.out.2.1, hR.out.2.2⟩
            case measure => simp [intOf]; omega
      · have hkl : k = m.al.length := by omega
        subst hkl
        have o0 : wr.cell? ⟨w1.heap.size, 0, none⟩ = some (.slice av j cv) := bO.cell 0
        have o1 : wr.cell? ⟨w1.heap.size, 1, none⟩ = some (.int .i64 m.next) := bO.cell 1
        have r0 : wr.cell? ⟨w.heap.size + 1, 0, none⟩ = some (.slice none 0 0) := hbR.cell 0
        have r1 : wr.cell? ⟨w.heap.size + 1, 1, none⟩ = some (.int .i64 0) := hbR.cell 1
        have rf0 := hbR.frozen 0
        have rf1 := hbR.frozen 1
        have hzr := Lib.hid (And.intro hO (And.intro hX (And.intro hj (And.intro hF4 (And.intro hOM4 (And.intro hin hvlt))))))
        clear bR4 bO4 bT4 hF4 hOM4 hin hvB hbT hbR hO bO hX hj hvlt
        go_wp2
        rw [hres.out]
        obtain ⟨hO, hX, hj, hF4, hOM4, hin, hvlt⟩ := hzr.out
        have hXr := ((ExtBut.setCell wr ⟨w.heap.size + 1, 0, none⟩ (.slice av j cv)).mono (S' := fun b => b = w.heap.size + 1) (fun y _ h => h)).trans ((ExtBut.setCell _ ⟨w.heap.size + 1, 1, none⟩ (.int .i64 m.next)).mono (S' := fun b => b = w.heap.size + 1) (fun y _ h => h))
        have hs4 := hs4'.out
        have hF5 := ExtBut.ext hF4 hX (fun y h => by omega)
        refine bodyPost_ret (v := .tuple #[.agg #[.slice av j cv, .int .i64 m.next], .int .i64 0]) (by simp [results, Try.f66, go_sem, r0, r1]) rfl ⟨_, rfl, fun w'' h2 => ⟨_, rfl, ?_⟩, ExtBut.ext hF5 hXr (fun y h => by omega)⟩
        have hl := (All2.iff.1 hOM4.inner).1
        have e1 := zf_snd hl
        have hX9 := (hXr.mono (S' := fun b => b = w.heap.size + 1 ∨ b < w.heap.size) (fun _ _ h => .inl h)).trans (h2.mono (fun _ _ h => .inr h))
        refine ⟨(zf vs m.al m.al.length).map Prod.fst, ?_, ?_⟩
        · rw [← e1]
          refine All2.map _ _ _ fun p hp => ?_
          have hp2 := List.mem_of_mem_take (List.mem_filter.1 hp).1
          obtain ⟨i, hi⟩ := List.mem_iff_getElem?.1 hp2
          rw [List.getElem?_zip_eq_some] at hi
          have hr := (All2.iff.1 hOM4.inner).2 i _ _ hi.1 hi.2
          have h5 := hin p.1 (List.mem_of_getElem? hi.1)
          exact ExtBut.sl (ExtBut.sl (OwnC.read hr) hX (fun b e hb => by have := (h5 b e).1; have h' : b = w1.heap.size := hb; omega)) hX9 (fun b e hb => by have := (h5 b e).1; omega)
        · have h7 := (ExtBut.own hO hX9 (fun b e hb => by have := hvlt b e; omega)).sl
          rw [← e1, zf_rows, List.length_map, hj]
          exact h7

end Go.Proofs.Ytiikdpfbbcnplaa
