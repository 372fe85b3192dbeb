/- Contracts: Forget of the program and of the reference. -/
import Derived.Test.YtkiadhkkpmcmiaaCelWC
namespace Go.Proofs.Ytkiadhkkpmcmiaa
set_option maxRecDepth 100000
open Go.RowKit

theorem forgetR_bad {m : Mem} (h : m.ok = false) : forgetR m = (Mem.zero, 8) := by simp [forgetR, h]
theorem forgetR_ok {m : Mem} (h : m.ok = true) : forgetR m = (⟨m.al.filter (·.live), m.next⟩, 0) := by simp [forgetR, h]

set_option maxRecDepth 100000 in
set_option maxHeartbeats 3200000 in
theorem allocs_Forget {m : Mem} {s : Value} {w : World} (hl : Als w s m.al) (hn : i64B m.next) :
    Calls Try.prog 44 #[.agg #[s, .int .i64 m.next]] w (RetME w (forgetR m).1 (forgetR m).2) := by
  have hE0 := ((Ext.refl w).alloc (.cells #[s, .int .i64 m.next] 41)).alloc (.cells #[.slice none 0 0, .int .i64 0] 41)
  obtain ⟨a, cp, rfl, hlc, hcm, -⟩ := hl.form
  unfold maxLen at hcm
  have bM := (Box.new w 41 #[.slice a m.al.length cp, .int .i64 m.next]).ext ((Ext.refl _).alloc (.cells #[.slice none 0 0, .int .i64 0] 41))
  have bR := Box.new (w.alloc (.cells #[.slice a m.al.length cp, .int .i64 m.next] 41)) 41 #[.slice none 0 0, .int .i64 0]
  rw [World.size_alloc] at bR
  have hCk := Lib.hid (allocs_Check (hl.ext hE0) hn)
  have hL := Lib.hid hl
  cases hok : m.ok
  · have hce : Hid (memErr m.al m.next = 8) := Hid.mk (memErr_bad hok)
    have hres := Lib.hid (forgetR_bad hok)
    clear hok hl
    go_enter Try.func44, Try.ntmps44
    go_wp2_with fail
    refine hCk.out.mono ?_
    rintro e w1 ⟨rfl, hE1⟩
    rw [hce.out]
    have bR1 := bR.ext hE1
    have r0 : w1.cell? ⟨w.heap.size + 1, 0, none⟩ = some (.slice none 0 0) := bR1.cell 0
    have r1 : w1.cell? ⟨w.heap.size + 1, 1, none⟩ = some (.int .i64 0) := bR1.cell 1
    have rf0 := bR1.frozen 0
    have rf1 := bR1.frozen 1
    have hF1 := hE0.trans hE1
    clear bM bR bR1
    go_wp2
    rw [hres.out]
    refine bodyPost_ret (v := .tuple #[.agg #[.slice none 0 0, .int .i64 0], .int .i64 8]) (by simp [results, Try.f44, go_sem, r0, r1]) rfl ⟨_, rfl, FrM.zero _ _, (hF1.setCell (by simp) _).setCell (by simp) _⟩
  · have hce : Hid (memErr m.al m.next = 0) := Hid.mk (memErr_ok hok)
    have hsm := small_of_ok hok
    have hl4 := (ok_bounds hok).1
    have hres := Lib.hid (forgetR_ok hok)
    clear hok hl
    go_enter Try.func44, Try.ntmps44
    go_wp2_with fail
    refine hCk.out.mono ?_
    rintro e w1 ⟨rfl, hE1⟩
    rw [hce.out]
    have hF1 := hE0.trans hE1
    have bM1 := bM.ext hE1
    have m0 : w1.cell? ⟨w.heap.size, 0, none⟩ = some (.slice a m.al.length cp) := bM1.cell 0
    have m1 : w1.cell? ⟨w.heap.size, 1, none⟩ = some (.int .i64 m.next) := bM1.cell 1
    go_wp2_with fail
    refine (allocs_clone (hL.out.ext hF1) hsm).mono ?_
    rintro e w2 ⟨v, vs, rfl, hOM, hE2⟩
    have hF2 := hF1.trans hE2
    have hw1 : w.heap.size + 1 < w1.heap.size := (bR.ext hE1).lt
    have hvB : ∀ g, v.ownBlock = some g → w1.heap.size ≤ g := fun g e => (hOM.outer.lt e).1
    have bM2 := bM1.ext hE2
    have bR2 := (bR.ext hE1).ext hE2
    have hv := hOM.outer.sl.slice_form
    obtain ⟨a2, cp2, rfl, hlc2, hcm2, -⟩ := hv
    unfold maxLen at hcm2
    have k0 : w2.cell? ⟨w.heap.size, 0, none⟩ = some (.slice a m.al.length cp) := bM2.cell 0
    have k1 : w2.cell? ⟨w.heap.size, 1, none⟩ = some (.int .i64 m.next) := bM2.cell 1
    have kf0 := bM2.frozen 0
    have kf1 := bM2.frozen 1
    have hX3 : ExtBut (fun b => b = w.heap.size) w2 ((w2.setCell ⟨w.heap.size, 0, none⟩ (.slice a2 m.al.length cp2)).setCell ⟨w.heap.size, 1, none⟩ (.int .i64 m.next)) := (ExtBut.setCell w2 ⟨w.heap.size, 0, none⟩ (.slice a2 m.al.length cp2)).trans (ExtBut.setCell _ ⟨w.heap.size, 1, none⟩ (.int .i64 m.next))
    have bM3 := (bM2.set 0 (.slice a2 m.al.length cp2)).set 1 (.int .i64 m.next)
    have bR3 := bR2.but hX3 (by omega)
    have hF3 := ExtBut.ext hF2 hX3 (fun x h => by omega)
    have hOM3 := OM.but hOM hX3 (fun g e h => by have := hvB g e; omega) (fun s hs g e h => by have := (OM.inner_lt hOM s hs g e).1; omega)
    have hcut := run_slice_upto (P := Try.prog) Try.underlying39 (Classical.choose_spec (Classical.choose_spec Alloc.infoE)).1 a2 m.al.length cp2 0 0 rfl (Nat.zero_le _)
    have hH := Lib.hid (And.intro bM3 (And.intro bR3 (And.intro hF3 (And.intro hOM3 (And.intro hvB hw1)))))
    clear bM bR bM1 bM2 bR2 bM3 bR3 hOM hOM3 hF3 hX3 m0 m1 hvB
    go_wp2
    obtain ⟨w3, hw3⟩ : ∃ w3, (w2.setCell ⟨w.heap.size, 0, none⟩ (.slice a2 m.al.length cp2)).setCell ⟨w.heap.size, 1, none⟩ (.int .i64 m.next) = w3 := ⟨_, rfl⟩
    rw [hw3] at hH ⊢
    clear hw3 hcut
    by_cases hz : m.al.length = 0
    · have hnil : m.al = [] := List.eq_nil_of_length_eq_zero hz
      rw [hz] at hH ⊢
      have hnil' := Lib.hid hnil
      clear hz hnil hlc hlc2 hl4
      go_loopw [5, 22] (fun lv iv wr => lv = .slice a2 0 cp2 ∧ iv = .int .i64 0 ∧ wr = w3) (fun _ _ _ => 0)
      case atStart => exact ⟨rfl, rfl, rfl⟩
      case round =>
        obtain ⟨rfl, rfl, rfl⟩ := hrel
        obtain ⟨bM3, bR3, hF3, hOM3, hvB, -⟩ := hH.out
        have n0 : wr.cell? ⟨w.heap.size, 0, none⟩ = some (.slice a2 0 cp2) := bM3.cell 0
        have n1 : wr.cell? ⟨w.heap.size, 1, none⟩ = some (.int .i64 m.next) := bM3.cell 1
        have nf0 := bM3.frozen 0
        have r0 : wr.cell? ⟨w.heap.size + 1, 0, none⟩ = some (.slice none 0 0) := bR3.cell 0
        have r1 : wr.cell? ⟨w.heap.size + 1, 1, none⟩ = some (.int .i64 0) := bR3.cell 1
        have rf0 := bR3.frozen 0
        have rf1 := bR3.frozen 1
        have hfull := run_slice_full (P := Try.prog) Try.underlying39 (Classical.choose_spec (Classical.choose_spec Alloc.infoE)).1 a2 0 cp2 0 (Nat.zero_le _)
        have hF3' := Lib.hid hF3
        clear bM3 bR3 hF3 hOM3 hvB
        go_wp2
        rw [hres.out]
        have hX7 := ((((ExtBut.setCell wr ⟨w.heap.size, 0, none⟩ (.slice a2 0 0)).mono (S' := fun b => b = w.heap.size ∨ b = w.heap.size + 1) (fun x _ h => .inl h))).trans ((ExtBut.setCell _ ⟨w.heap.size + 1, 0, none⟩ (.slice a2 0 0)).mono (S' := fun b => b = w.heap.size ∨ b = w.heap.size + 1) (fun x _ h => .inr h))).trans ((ExtBut.setCell _ ⟨w.heap.size + 1, 1, none⟩ (.int .i64 m.next)).mono (S' := fun b => b = w.heap.size ∨ b = w.heap.size + 1) (fun x _ h => .inr h))
        refine bodyPost_ret (v := .tuple #[.agg #[.slice a2 0 0, .int .i64 m.next], .int .i64 0]) (by simp [results, Try.f44, go_sem, r0, r1]) rfl ⟨_, rfl, fun w'' _ => ⟨_, rfl, ?_⟩, ExtBut.ext hF3'.out hX7 (fun x h => by omega)⟩
        rw [hnil'.out]
        exact ⟨[], trivial, ⟨by simp [trows], a2, 0, rfl, Nat.le_refl _, by simp [maxLen], fun _ => rfl, fun j u h => by simp [trows] at h⟩⟩
    · obtain ⟨bM3, bR3, hF3, hOM3, hvB, hw1'⟩ := hH.out
      obtain ⟨g, cpx, e, -, -, hg1, hg2⟩ := hOM3.outer.form (by omega)
      simp only [Value.slice.injEq] at e
      obtain ⟨rfl, -, rfl⟩ := e
      have hgm : g ≠ w.heap.size := by omega
      have hvs := (All2.iff.1 hOM3.inner).1
      have hI0 := FInv.start hOM3.outer
      have hA := Lib.hid (And.intro bM3 (And.intro bR3 (And.intro hF3 (And.intro hOM3 (And.intro hvs hI0)))))
      clear bM3 bR3 hF3 hOM3 hvB hvs hI0
      go_loopw [5, 22] (fun lv iv wr => ∃ k : Nat, k ≤ m.al.length ∧ lv = .slice (some ⟨g, 0, none⟩) (zf vs m.al k).length cp2 ∧ iv = .int .i64 k ∧ FInv w1.heap.size w3 wr g cp2 vs m.al k) (fun _ iv _ => m.al.length - (intOf iv).toNat)
      case atStart => exact ⟨0, Nat.zero_le _, by rw [zf_zero]; rfl, rfl, hA.out.2.2.2.2.2⟩
      case round =>
        obtain ⟨k, hk, rfl, rfl, hI⟩ := hrel
        have hzl := zf_le (vs := vs) (l := m.al) k
        obtain ⟨j, hj⟩ : ∃ j, (zf vs m.al k).length = j := ⟨_, rfl⟩
        have hbM : Box wr w.heap.size 41 _ := hA.out.1.but hI.keep (fun h => hgm h.symm)
        have hbR : Box wr (w.heap.size + 1) 41 _ := hA.out.2.1.but hI.keep (fun h => by omega)
        have hsz := hbM.lt
        by_cases hlt : k < m.al.length
        · obtain ⟨x, hx⟩ : ∃ x, m.al[k]? = some x := ⟨m.al[k], by simp [hlt]⟩
          obtain ⟨sv, hsv⟩ : ∃ sv, vs[k]? = some sv := by have := hA.out.2.2.2.2.1; exact ⟨vs[k], by simp⟩
          obtain ⟨c0, c1, c2⟩ := hI.cells hsv hx
          have hso : sv.oneCell' = true := (OwnC.read ((All2.iff.1 hA.out.2.2.2.1.inner).2 k sv x hsv hx)).one'
          obtain ⟨ca, ccp, rfl⟩ : ∃ ca ccp, sv = .slice ca x.cells.length ccp := by
            obtain ⟨p, q, h, -⟩ := (OwnC.read ((All2.iff.1 hA.out.2.2.2.1.inner).2 k sv x hsv hx)).form
            exact ⟨p, q, h⟩
          have hgl : g < wr.heap.size := World.block_lt_of_cell? wr _ c0
          cases hlv : x.live
          · rw [hlv] at c1
            have hN := Lib.hid (hI.skip hsv hx hlv ((Ext.refl wr).alloc (.cells #[.int .i64 x.num, .bool false, .slice ca x.cells.length ccp] 75)))
            have hzz := Lib.hid (zf_no (vs := vs) (l := m.al) hsv hx hlv)
            have hj' := Lib.hid hj
            rw [hj]
            clear hI hbM hbR hsv hx hlv hj
            go_wp2
            go_roundw
            case rel => exact ⟨k + 1, by omega, by rw [hzz.out, hj'.out], by go_num, hN.out⟩
            case measure => simp [intOf]; omega
          · rw [hlv] at c1
            have hE : Ext wr ((wr.alloc (.cells #[.int .i64 x.num, .bool true, .slice ca x.cells.length ccp] 75)).alloc (.cells #[.int .i64 x.num, .bool true, .slice ca x.cells.length ccp] 75)) := ((Ext.refl wr).alloc _).alloc _
            have hv1 : Sl ((wr.alloc (.cells #[.int .i64 x.num, .bool true, .slice ca x.cells.length ccp] 75)).alloc (.cells #[.int .i64 x.num, .bool true, .slice ca x.cells.length ccp] 75)) 3 (.slice (some ⟨wr.heap.size + 1, 0, none⟩) 1 1) 1 (arow (.slice ca x.cells.length ccp) x) := by
              have := (Own.lit' (B := 0) (e := 75) (k := 3) (wr.alloc (.cells #[.int .i64 x.num, .bool true, .slice ca x.cells.length ccp] 75)) #[.int .i64 x.num, .bool true, .slice ca x.cells.length ccp] 1 (Nat.zero_le _) (by simp [maxLen]) rfl).sl
              rw [World.size_alloc] at this
              rw [arow, hlv]
              exact this
            obtain ⟨w6, hr6, hI6, hX6⟩ := hI.take hsv hx hlv hE hv1 hso
            have hzz := zf_yes (vs := vs) (l := m.al) hsv hx hlv
            have hzl2 : Hid ((zf vs m.al (k + 1)).length = j + 1) := Hid.mk (by rw [hzz, List.length_append, hj]; rfl)
            rw [hj] at hr6 ⊢
            have hN := Lib.hid (And.intro hr6 hI6)
            clear hI hbM hbR hsv hx hlv hj hr6 hI6 hzz hE hv1 hX6
            go_wp2_with (at_builtin; refine Hid.out ?_)
            refine Hid.mk ?_
            refine wpList_append_run rfl _ _ 39 39 39 rfl rfl rfl rfl hN.out.1 ?_
            go_wp2
            go_roundw
            case rel => exact ⟨k + 1, by omega, by rw [hzl2.out], by go_num, hN.out.2⟩
            case measure => simp [intOf]; omega
        · have hkl : k = m.al.length := by omega
          subst hkl
          have n0 : wr.cell? ⟨w.heap.size, 0, none⟩ = some (.slice (some ⟨g, 0, none⟩) m.al.length cp2) := hbM.cell 0
          have n1 : wr.cell? ⟨w.heap.size, 1, none⟩ = some (.int .i64 m.next) := hbM.cell 1
          have nf0 := hbM.frozen 0
          have r0 : wr.cell? ⟨w.heap.size + 1, 0, none⟩ = some (.slice none 0 0) := hbR.cell 0
          have r1 : wr.cell? ⟨w.heap.size + 1, 1, none⟩ = some (.int .i64 0) := hbR.cell 1
          have rf0 := hbR.frozen 0
          have rf1 := hbR.frozen 1
          have hfull := run_slice_full (P := Try.prog) Try.underlying39 (Classical.choose_spec (Classical.choose_spec Alloc.infoE)).1 (some ⟨g, 0, none⟩) j cp2 j (by omega)
          have hj' := Lib.hid hj
          have hj6 : j ≤ 9223372036854775807 := by omega
          have hI' := Lib.hid hI
          rw [hj]
          clear hI hbM hbR hj
          go_wp2
          rw [hres.out]
          have hX7 := ((((ExtBut.setCell wr ⟨w.heap.size, 0, none⟩ (.slice (some ⟨g, 0, none⟩) j j)).mono (S' := fun b => b = w.heap.size ∨ b = w.heap.size + 1) (fun x _ h => .inl h))).trans ((ExtBut.setCell _ ⟨w.heap.size + 1, 0, none⟩ (.slice (some ⟨g, 0, none⟩) j j)).mono (S' := fun b => b = w.heap.size ∨ b = w.heap.size + 1) (fun x _ h => .inr h))).trans ((ExtBut.setCell _ ⟨w.heap.size + 1, 1, none⟩ (.int .i64 m.next)).mono (S' := fun b => b = w.heap.size ∨ b = w.heap.size + 1) (fun x _ h => .inr h))
          have hF4 := ExtBut.ext hA.out.2.2.1 hI'.out.keep (fun x h => by omega)
          refine bodyPost_ret (v := .tuple #[.agg #[.slice (some ⟨g, 0, none⟩) j j, .int .i64 m.next], .int .i64 0]) (by simp [results, Try.f44, go_sem, r0, r1]) rfl ⟨_, rfl, fun w'' h2 => ⟨_, rfl, ?_⟩, ExtBut.ext hF4 hX7 (fun x h => by omega)⟩
          have h9 := FInv.read (S := fun b => (b = w.heap.size ∨ b = w.heap.size + 1) ∨ b < w.heap.size) hI'.out hA.out.2.2.2.1 hg1 ((hX7.mono (fun x _ h => .inl h)).trans (h2.mono (fun x _ h => .inr h))) (fun b h => by omega)
          rw [hj'.out] at h9
          exact h9


end Go.Proofs.Ytkiadhkkpmcmiaa
