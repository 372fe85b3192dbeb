/- Contract: StoreAll of the reference of layer 27. -/
import Derived.Test.YtkiadhkkpmcmiaaCelX5
import Derived.Deep.RegionHeld3
namespace Go.Proofs.Ytkiadhkkpmcmiaa
set_option maxRecDepth 100000
open Go.RowKit

theorem RetMW.none {w w' : World} {why err : Int} (h : Ext w w') : RetMW w Mem.zero why err (.returned (.tuple #[.agg #[.slice none 0 0, .int .i64 0], .int .u8 why, .int .i64 err])) w' := ⟨_, rfl, FrM.zero _ _, h⟩

set_option maxHeartbeats 6400000 in
theorem ref27_StoreAll {m : Mem} {l : List Cell} {s u : Value} {w : World} (p : Ptr) (hl : Als w s m.al) (hn : i64B m.next) (hc : Cls w u l) :
    Calls Try.prog 28 #[.agg #[s, .int .i64 m.next], p.val, u] w (RetMW w (storeR m p l).1 (storeR m p l).2.1 (storeR m p l).2.2) := by
  obtain ⟨pa, po, pt⟩ := p
  have hE0 := (((Ext.refl w).alloc (.cells #[s, .int .i64 m.next] 41)).alloc (.cells #[.int .i64 pa, .int .i64 po, .int .i64 pt] 43)).alloc (.cells #[.slice none 0 0, .int .i64 0] 41)
  have hC := Lib.hid (ref27_Asked ⟨pa, po, pt⟩ l.length (hl.ext hE0) hn)
  have hL := Lib.hid hl
  have hU := Lib.hid hc
  obtain ⟨a, cp, rfl, hlc, hcm, -⟩ := hl.form
  obtain ⟨ua, uc, rfl, huc, huc2, -⟩ := hc.form
  unfold maxLen at hcm huc2
  have bM := ((Box.new w 41 #[.slice a m.al.length cp, .int .i64 m.next]).ext ((Ext.refl _).alloc (.cells #[.int .i64 pa, .int .i64 po, .int .i64 pt] 43))).ext ((Ext.refl _).alloc (.cells #[.slice none 0 0, .int .i64 0] 41))
  have bP := (Box.new (w.alloc (.cells #[.slice a m.al.length cp, .int .i64 m.next] 41)) 43 #[.int .i64 pa, .int .i64 po, .int .i64 pt]).ext ((Ext.refl _).alloc (.cells #[.slice none 0 0, .int .i64 0] 41))
  have bR := Box.new ((w.alloc (.cells #[.slice a m.al.length cp, .int .i64 m.next] 41)).alloc (.cells #[.int .i64 pa, .int .i64 po, .int .i64 pt] 43)) 41 #[.slice none 0 0, .int .i64 0]
  simp only [World.size_alloc] at bP bR
  obtain ⟨ix, err, hask⟩ : ∃ ix err, askR m ⟨pa, po, pt⟩ l.length = (ix, err) := ⟨_, _, rfl⟩
  rw [hask] at hC
  dsimp only at hC
  unfold Ptr.val at *
  by_cases he : err = 0
  · subst he
    obtain ⟨ixv, hix⟩ : ∃ z, ixM ix = z := ⟨_, rfl⟩
    rw [hix] at hC
    have hix := Lib.hid hix
    have hbad : Hid (l.all Cell.ok = false → storeR m ⟨pa, po, pt⟩ l = (Mem.zero, 0, 8)) := Hid.mk (fun h => storeR_bad (by rw [hask]) h)
    have hA := Lib.hid hask
    clear hask hl hc
    go_enter Try.func28, Try.ntmps28
    go_wp2_with fail
    refine hC.out.mono ?_
    rintro e w1 ⟨rfl, hE1⟩
    have hF1 := hE0.trans hE1
    replace bM := bM.ext hE1
    replace bP := bP.ext hE1
    replace bR := bR.ext hE1
    go_wp2
    go_loopw [11] (fun kv wr => ∃ k : Nat, k ≤ l.length ∧ kv = .int .i64 k ∧ Ext w1 wr ∧ Hid ((l.take k).all Cell.ok = true)) (fun kv _ => l.length - (intOf kv).toNat)
    case atStart => exact ⟨0, Nat.zero_le _, rfl, Ext.refl _, by simp [Hid]⟩
    case round =>
      obtain ⟨k, hk, rfl, hE, hN⟩ := hrel
      have hF := hF1.trans hE
      by_cases hlt : k < l.length
      · obtain ⟨x, hx⟩ : ∃ x, l[k]? = some x := ⟨l[k], by simp [hlt]⟩
        obtain ⟨b, off, rfl, hbb, c0, c1, c2, c3, c4⟩ := (hU.out.ext hF).cell hx
        have hX := Lib.hid hx
        clear hx
        have hi0 : (0 : Int) ≤ (k : Int) := by omega
        have hi1 : (k : Int) < (l.length : Int) := by omega
        have hCe := Lib.hid (ref26_Cell x)
        unfold Cell.val at hCe
        cases hok : x.ok
        · have hok' := Lib.hid hok
          have hres := Lib.hid (hbad.out (all_miss' hX.out hok))
          have r0 : wr.cell? ⟨w.heap.size + 1 + 1, 0, none⟩ = some (.slice none 0 0) := (bR.ext hE).cell 0
          have r1 : wr.cell? ⟨w.heap.size + 1 + 1, 1, none⟩ = some (.int .i64 0) := (bR.ext hE).cell 1
          have bRr := bR.ext hE
          clear hok
          go_wp2_with fail
          refine (hCe.out _).mono ?_
          rintro e w2 ⟨rfl, hE2⟩
          rw [hok'.out]
          have bR2 := bRr.ext hE2
          have r0 : w2.cell? ⟨w.heap.size + 1 + 1, 0, none⟩ = some (.slice none 0 0) := bR2.cell 0
          have r1 : w2.cell? ⟨w.heap.size + 1 + 1, 1, none⟩ = some (.int .i64 0) := bR2.cell 1
          have f0 := bR2.frozen 0
          have f1 := bR2.frozen 1
          have hF2 := hF.trans hE2
          clear bM bP bR bRr bR2
          go_wp2
          rw [hres.out]
          refine bodyPost_ret (v := .tuple #[.agg #[.slice none 0 0, .int .i64 0], .int .u8 0, .int .i64 8]) (by simp [results, Try.f28, go_sem, r0, r1]) rfl (RetMW.none ((hF2.setCell (by simp; omega) _).setCell (by simp; omega) _))
        · have hok' := Lib.hid hok
          have hN2 := Lib.hid (all_take_succ' hN.out hX.out hok)
          clear hok
          go_wp2_with fail
          refine (hCe.out _).mono ?_
          rintro e w2 ⟨rfl, hE2⟩
          rw [hok'.out]
          go_wp2
          go_roundw
          case rel => exact ⟨k + 1, by omega, by go_num, hE.trans hE2, hN2.out⟩
          case measure => simp [intOf]; omega
      · have hkl : k = l.length := by omega
        subst hkl
        obtain ⟨wt, rfl⟩ : ∃ wt : World, wt = wr := ⟨_, rfl⟩
        have hall := hN.out
        rw [List.take_length] at hall
        replace bM := bM.ext hE
        replace bP := bP.ext hE
        replace bR := bR.ext hE
        have hAsk := hA.out
        clear hbad hN
        cases ix with
        | none =>
          have hres := Lib.hid (storeR_none hAsk hall)
          have hix' := hix.out
          rw [show ixM none = -1 from rfl] at hix'
          subst hix'
          have r0 : wt.cell? ⟨w.heap.size + 1 + 1, 0, none⟩ = some (.slice none 0 0) := bR.cell 0
          have r1 : wt.cell? ⟨w.heap.size + 1 + 1, 1, none⟩ = some (.int .i64 0) := bR.cell 1
          have f0 := bR.frozen 0
          have f1 := bR.frozen 1
          clear bM bP bR hall hAsk
          go_wp2
          rw [hres.out]
          refine bodyPost_ret (v := .tuple #[.agg #[.slice none 0 0, .int .i64 0], .int .u8 3, .int .i64 0]) (by simp [results, Try.f28, go_sem, r0, r1]) rfl (RetMW.none ((hF.setCell (by simp; omega) _).setCell (by simp; omega) _))
        | some i =>
          have hix' := hix.out
          rw [show ixM (some i) = (i : Int) from rfl] at hix'
          subst hix'
          obtain ⟨-, hmok, -, -, hn1, hn2, -, x, hx, ho1, ho2⟩ := askR_inv hAsk
          dsimp only at ho1 ho2
          have hil : i < m.al.length := (List.getElem?_eq_some_iff.1 hx).1
          have hi2 : decide ((i : Int) < 0) = false := decide_eq_false (by omega)
          have hi0 : (0 : Int) ≤ (i : Int) := by omega
          have hi1 : (i : Int) < (m.al.length : Int) := by omega
          obtain ⟨b, off, sv, rfl, hbb, d0, d1, d2, hcl⟩ := hL.out.cell hx
          have e1 := hF.cell d1
          have m0 : wt.cell? ⟨w.heap.size, 0, none⟩ = some (.slice (some ⟨b, off, none⟩) m.al.length cp) := bM.cell 0
          have m1 : wt.cell? ⟨w.heap.size, 1, none⟩ = some (.int .i64 m.next) := bM.cell 1
          clear d0 d1 d2 hcl
          cases hlv : x.live
          · have hres := Lib.hid (storeR_dead hAsk hall hx hlv)
            rw [hlv] at e1
            have r0 : wt.cell? ⟨w.heap.size + 1 + 1, 0, none⟩ = some (.slice none 0 0) := bR.cell 0
            have r1 : wt.cell? ⟨w.heap.size + 1 + 1, 1, none⟩ = some (.int .i64 0) := bR.cell 1
            have f0 := bR.frozen 0
            have f1 := bR.frozen 1
            clear bM bP bR hall hAsk hx hlv hmok
            go_wp2
            rw [hres.out]
            refine bodyPost_ret (v := .tuple #[.agg #[.slice none 0 0, .int .i64 0], .int .u8 3, .int .i64 0]) (by simp [results, Try.f28, go_sem, r0, r1]) rfl (RetMW.none ((hF.setCell (by simp; omega) _).setCell (by simp; omega) _))
          · have hres := Lib.hid (storeR_yes hAsk hall hx hlv)
            rw [hlv] at e1
            have hsm := small_of_ok hmok
            obtain ⟨o, rfl⟩ : ∃ o : Nat, po = (o : Int) := ⟨po.toNat, by omega⟩
            have ho3 : o + l.length ≤ x.cells.length := by omega
            have hxs : x.cells.length ≤ 1000000 := hsm.2 x (List.mem_of_getElem? hx)
            have hxl : 0 < x.cells.length := by omega
            rw [show (⟨pa, (o : Int), pt⟩ : Ptr).o.toNat = o from Int.toNat_natCast o] at hres
            have hX := Lib.hid hx
            have hl2 : l.length ≤ 2 := by omega
            clear hall hAsk hx hlv hmok ho1 ho2 hn1 hn2
            go_wp2_with fail
            refine (ref26_Twin (hL.out.ext hF) hsm).mono ?_
            rintro e w3 ⟨v, vs, rfl, hOM, hE3⟩
            have hF3 := hF.trans hE3
            have hv := hOM.outer.sl.slice_form
            obtain ⟨a2, cp2, rfl, hlc2, hcm2, -⟩ := hv
            unfold maxLen at hcm2
            obtain ⟨g, sv', rfl, hg1, hg2, hvi, hown, ⟨f0, f1, f2⟩, hfr, hsb⟩ := OM.cell hOM hX.out
            have hown' : Own w3 wt.heap.size 50 5 sv' x.cells.length (x.cells.flatMap Cell.row) := hown
            obtain ⟨gi, icp, rfl, hic1, hic2, hgi1, hgi2⟩ := hown'.form hxl
            unfold maxLen at hic2
            have hggi : gi ≠ g := (hsb gi rfl).2.2
            replace bM := bM.ext hE3
            replace bP := bP.ext hE3
            replace bR := bR.ext hE3
            have hb1 := bR.lt
            have hwr : w.heap.size + 1 + 1 < wt.heap.size := by
              have h1 := World.block_lt_of_cell? _ _ m0
              have h2 := hF.size
              have h3 := hE.size
              have h4 := hE1.size
              simp only [World.size_alloc] at h4
              omega
            have hOMh := Lib.hid (And.intro hOM (And.intro hown' hvi))
            have p1 : w3.cell? ⟨w.heap.size + 1, 1, none⟩ = some (.int .i64 (o : Int)) := bP.cell 1
            clear m0 m1 e1 hown hown' hfr hsb hOM
            go_wp2
            have hE4 : Ext w3 (w3.alloc (.cells #[.slice (some ⟨g, 0, none⟩) m.al.length cp2, .int .i64 m.next] 41)) := (Ext.refl w3).alloc _
            have bO := Box.new w3 41 #[.slice (some ⟨g, 0, none⟩) m.al.length cp2, .int .i64 m.next]
            obtain ⟨w4, hw4⟩ : ∃ w4, w3.alloc (.cells #[.slice (some ⟨g, 0, none⟩) m.al.length cp2, .int .i64 m.next] 41) = w4 := ⟨_, rfl⟩
            rw [hw4] at hE4 bO ⊢
            clear hw4
            have hOM4 := Lib.hid (And.intro (OM.ext hOMh.out.1 hE4) (And.intro (hOMh.out.2.1.ext hE4) hOMh.out.2.2))
            have g2 := hE4.cell f2
            replace bP := bP.ext hE4
            replace bR := bR.ext hE4
            have hF4 := hF3.trans hE4
            clear f0 f1 f2 p1 hOMh
            go_loopw [13] (fun kv wr => ∃ k : Nat, k ≤ l.length ∧ kv = .int .i64 k ∧ ExtBut (fun b => b = gi) w4 wr ∧ Own wr wt.heap.size 50 5 (.slice (some ⟨gi, 0, none⟩) x.cells.length icp) x.cells.length ((putCells x o (l.take k)).cells.flatMap Cell.row)) (fun kv _ => l.length - (intOf kv).toNat)
            case atStart => exact ⟨0, Nat.zero_le _, rfl, ExtBut.refl _ _, by rw [List.take_zero, put_none]; exact hOM4.out.2.1⟩
            case round =>
              obtain ⟨k, hk, rfl, hX4, hO⟩ := hrel
              have hE5 : Ext w wr := ExtBut.ext hF4 hX4 (fun y h => by omega)
              have o0 : wr.cell? ⟨w3.heap.size, 0, none⟩ = some (.slice (some ⟨g, 0, none⟩) m.al.length cp2) := (bO.but hX4 (by omega)).cell 0
              have o1 : wr.cell? ⟨w3.heap.size, 1, none⟩ = some (.int .i64 m.next) := (bO.but hX4 (by omega)).cell 1
              have p1 : wr.cell? ⟨w.heap.size + 1, 1, none⟩ = some (.int .i64 (o : Int)) := (bP.but hX4 (by omega)).cell 1
              have q2 := hX4.cell g2 (fun h => hggi h.symm)
              by_cases hlt : k < l.length
              · obtain ⟨y, hy⟩ : ∃ y, l[k]? = some y := ⟨l[k], by simp [hlt]⟩
                obtain ⟨b2, off2, rfl, hbb2, c0, c1, c2, c3, c4⟩ := (hU.out.ext hE5).cell hy
                have hY := Lib.hid hy
                have hlen : (putCells x o (l.take k)).cells.length = x.cells.length := put_len (by rw [List.length_take]; omega)
                obtain ⟨z, hz⟩ : ∃ z, (putCells x o (l.take k)).cells[o + k]? = some z := ⟨_, List.getElem?_eq_getElem (by omega)⟩
                have t := fun j (hj : j < 5) => (hO.cellAt ((o + k) * 5 + j) (by omega)).trans (rows_get Cell.row Cell.row_len _ (o + k) j z hz hj)
                have t0 : wr.cell? ⟨gi, (o + k) * 5, none⟩ = some (.int .u8 z.k) := t 0 (by omega)
                have t1 : wr.cell? ⟨gi, (o + k) * 5 + 1, none⟩ = some (.int .i64 z.n) := t 1 (by omega)
                have t2 : wr.cell? ⟨gi, (o + k) * 5 + 2, none⟩ = some (.int .i64 z.a) := t 2 (by omega)
                have t3 : wr.cell? ⟨gi, (o + k) * 5 + 3, none⟩ = some (.int .i64 z.o) := t 3 (by omega)
                have t4 : wr.cell? ⟨gi, (o + k) * 5 + 4, none⟩ = some (.int .i64 z.t) := t 4 (by omega)
                have r0 := hO.frozen ((o + k) * 5)
                have r1 := hO.frozen ((o + k) * 5 + 1)
                have r2 := hO.frozen ((o + k) * 5 + 2)
                have r3 := hO.frozen ((o + k) * 5 + 3)
                have r4 := hO.frozen ((o + k) * 5 + 4)
                have hO' := Lib.hid hO
                have hZ := Lib.hid hz
                have hlen' := Lib.hid hlen
                have hj0 : (0 : Int) ≤ (o : Int) + (k : Int) := by omega
                have hj1 : (o : Int) + (k : Int) < (x.cells.length : Int) := by omega
                have hj2 : ((o : Int) + (k : Int)).toNat = o + k := by omega
                have hj3 : IntKind.i64.wrap ((o : Int) + (k : Int)) = (o : Int) + (k : Int) := IntWalk.i64_in _ (by omega)
                have hk0 : (0 : Int) ≤ (k : Int) := by omega
                have hk1 : (k : Int) < (l.length : Int) := by omega
                clear hy hO hz t hlen bM bP bR bO
                go_wp2
                go_region
                have hS5 := ((((hO'.out.set ((o + k) * 5) (.int .u8 y.k)).set ((o + k) * 5 + 1) (.int .i64 y.n)).set ((o + k) * 5 + 2) (.int .i64 y.a)).set ((o + k) * 5 + 3) (.int .i64 y.o)).set ((o + k) * 5 + 4) (.int .i64 y.t)
                rw [rows_set5 _ (o + k) z y hZ.out, put_step ho3 hY.out] at hS5
                have hX5 := ((((hX4.set' (p := ⟨gi, (o + k) * 5, none⟩) rfl (.int .u8 y.k)).set' (p := ⟨gi, (o + k) * 5 + 1, none⟩) rfl (.int .i64 y.n)).set' (p := ⟨gi, (o + k) * 5 + 2, none⟩) rfl (.int .i64 y.a)).set' (p := ⟨gi, (o + k) * 5 + 3, none⟩) rfl (.int .i64 y.o)).set' (p := ⟨gi, (o + k) * 5 + 4, none⟩) rfl (.int .i64 y.t)
                have hS := Lib.hid (And.intro hX5 hS5)
                clear hS5 hX5
                go_wp2
                go_roundw
                case rel => exact ⟨k + 1, by omega, by go_num, hS.out.1.drewN 1, hS.out.2⟩
                case measure => simp [intOf]; omega
              · have hkl : k = l.length := by omega
                subst hkl
                rw [List.take_length] at hO
                have hO' := Lib.hid hO
                have bR5 := bR.but hX4 (by omega)
                have r0 : wr.cell? ⟨w.heap.size + 1 + 1, 0, none⟩ = some (.slice none 0 0) := bR5.cell 0
                have r1 : wr.cell? ⟨w.heap.size + 1 + 1, 1, none⟩ = some (.int .i64 0) := bR5.cell 1
                have fr0 := bR5.frozen 0
                have fr1 := bR5.frozen 1
                clear bM bP bR bO bR5 hO p1 q2
                go_wp2
                have hOM5 := OM.put_inner hOM4.out.1 hX.out hOM4.out.2.2 rfl hX4 (show OwnC wr wt.heap.size _ (putCells x o l) from by unfold OwnC; rw [put_len ho3]; exact hO'.out) rfl rfl
                have hY := ((ExtBut.setCell wr ⟨w.heap.size + 1 + 1, 0, none⟩ (.slice (some ⟨g, 0, none⟩) m.al.length cp2)).mono (S' := fun b => b = w.heap.size + 1 + 1) (fun x _ h => h)).trans ((ExtBut.setCell _ ⟨w.heap.size + 1 + 1, 1, none⟩ (.int .i64 m.next)).mono (S' := fun b => b = w.heap.size + 1 + 1) (fun x _ h => h))
                have hOM6 := OM.but hOM5 hY (fun g e h => by have := (hOM5.outer.lt e).1; omega) (fun s hs g e h => by have := (OM.inner_lt hOM5 s hs g e).1; omega)
                rw [hres.out]
                refine bodyPost_ret (v := .tuple #[.agg #[.slice (some ⟨g, 0, none⟩) m.al.length cp2, .int .i64 m.next], .int .u8 0, .int .i64 0]) (by simp [results, Try.f28, go_sem, r0, r1]) rfl ⟨_, rfl, ?_, ExtBut.ext hE5 hY (fun y h => by omega)⟩
                exact FrM.of_OM (by simpa using hOM6) (by omega)
  · have hres := Lib.hid (storeR_err (by rw [hask]) he)
    have q : (err != 0) = true := by simp [he]
    have q' : (err == 0) = false := by simp [he]
    clear hask hl hc he
    obtain ⟨ixv, hixv⟩ : ∃ z, ixM ix = z := ⟨_, rfl⟩
    rw [hixv] at hC
    clear hixv
    go_enter Try.func28, Try.ntmps28
    go_wp2_with fail
    refine hC.out.mono ?_
    rintro e w1 ⟨rfl, hE1⟩
    have bR1 := bR.ext hE1
    have r0 : w1.cell? ⟨w.heap.size + 1 + 1, 0, none⟩ = some (.slice none 0 0) := bR1.cell 0
    have r1 : w1.cell? ⟨w.heap.size + 1 + 1, 1, none⟩ = some (.int .i64 0) := bR1.cell 1
    have f0 := bR1.frozen 0
    have f1 := bR1.frozen 1
    have hF1 := hE0.trans hE1
    clear bM bP bR bR1
    go_wp2
    rw [hres.out]
    refine bodyPost_ret (v := .tuple #[.agg #[.slice none 0 0, .int .i64 0], .int .u8 0, .int .i64 err]) (by simp [results, Try.f28, go_sem, r0, r1]) rfl (RetMW.none ((hF1.setCell (by simp; omega) _).setCell (by simp; omega) _))

end Go.Proofs.Ytkiadhkkpmcmiaa
