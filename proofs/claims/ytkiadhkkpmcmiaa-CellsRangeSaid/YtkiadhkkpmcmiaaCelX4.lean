/- Contracts: LoadAll of the reference of layer 27; Load of both; SameCells. (printed by gen/cells27.py) -/
import Derived.Test.YtkiadhkkpmcmiaaCelX3
namespace Go.Proofs.Ytkiadhkkpmcmiaa
set_option maxRecDepth 100000
open Go.RowKit

set_option maxRecDepth 100000 in
set_option maxHeartbeats 3200000 in
theorem ref27_LoadAll {m : Mem} {s : Value} {w : World} (p : Ptr) (n : Int) (hl : Als w s m.al) (hn : i64B m.next) :
    Calls Try.prog 32 #[.agg #[s, .int .i64 m.next], p.val, .int .i64 n] w (RetOC w (loadR m p n).1 (loadR m p n).2.1 (loadR m p n).2.2) := by
  obtain ⟨pa, po, pt⟩ := p
  have hE0 := ((Ext.refl w).alloc (.cells #[s, .int .i64 m.next] 41)).alloc (.cells #[.int .i64 pa, .int .i64 po, .int .i64 pt] 43)
  have hC := Lib.hid (ref27_Asked ⟨pa, po, pt⟩ n (hl.ext hE0) hn)
  have hL := Lib.hid hl
  obtain ⟨a, cp, rfl, hlc, hcm, -⟩ := hl.form
  unfold maxLen at hcm
  have bM := (Box.new w 41 #[.slice a m.al.length cp, .int .i64 m.next]).ext ((Ext.refl _).alloc (.cells #[.int .i64 pa, .int .i64 po, .int .i64 pt] 43))
  have bP := Box.new (w.alloc (.cells #[.slice a m.al.length cp, .int .i64 m.next] 41)) 43 #[.int .i64 pa, .int .i64 po, .int .i64 pt]
  rw [World.size_alloc] at bP
  obtain ⟨ix, err, hask⟩ : ∃ ix err, askR m ⟨pa, po, pt⟩ n = (ix, err) := ⟨_, _, rfl⟩
  rw [hask] at hC
  dsimp only at hC
  unfold Ptr.val at *
  by_cases he : err = 0
  · subst he
    cases ix with
    | none =>
      have hres := Lib.hid (loadR_gone (by rw [hask]) (rangeR_none hask))
      rw [show ixM none = -1 from rfl] at hC
      clear hask hl bM bP
      go_enter Try.func32, Try.ntmps32
      go_wp2_with fail
      refine hC.out.mono ?_
      rintro e w1 ⟨rfl, hE1⟩
      go_wp2
      go_ret3
      rw [hres.out]
      exact ⟨_, rfl, Own.nil _ _ _ _, hE0.trans hE1⟩
    | some i =>
      rw [show ixM (some i) = (i : Int) from rfl] at hC
      obtain ⟨-, hok, -, -, hn1, hn2, -, x, hx, ho1, ho2⟩ := askR_inv hask
      have hil : i < m.al.length := (List.getElem?_eq_some_iff.1 hx).1
      have hi2 : decide ((i : Int) < 0) = false := decide_eq_false (by omega)
      have hi0 : (0 : Int) ≤ (i : Int) := by omega
      have hi1 : (i : Int) < (m.al.length : Int) := by omega
      obtain ⟨b, off, sv, rfl, hbb, d0, d1, d2, hcl⟩ := hl.cell hx
      obtain ⟨ca, ccp, rfl, hcl1, hcl2, -⟩ := hcl.form
      unfold maxLen at hcl2
      have hxs : x.cells.length ≤ 1000000 := (small_of_ok hok).2 x (List.mem_of_getElem? hx)
      dsimp only at ho1 ho2
      cases hlv : x.live
      · have hres := Lib.hid (loadR_gone (by rw [hask]) (rangeR_dead hask hx hlv))
        rw [hlv] at d1
        have hD := Lib.hid d1
        clear hask hl hok hx hcl d0 d1 d2 hlv
        go_enter Try.func32, Try.ntmps32
        go_wp2_with fail
        refine hC.out.mono ?_
        rintro e w1 ⟨rfl, hE1⟩
        have hF1 := hE0.trans hE1
        have m0 : w1.cell? ⟨w.heap.size, 0, none⟩ = some (.slice (some ⟨b, off, none⟩) m.al.length cp) := (bM.ext hE1).cell 0
        have e1 := hF1.cell hD.out
        go_wp2
        go_ret3
        rw [hres.out]
        exact ⟨_, rfl, Own.nil _ _ _ _, hF1⟩
      · obtain ⟨o, rfl⟩ : ∃ o : Nat, po = (o : Int) := ⟨po.toNat, by omega⟩
        obtain ⟨k, rfl⟩ : ∃ k : Nat, n = (k : Int) := ⟨n.toNat, by omega⟩
        have hrl := rangeR_live hask hx hlv
        rw [show (⟨pa, (o : Int), pt⟩ : Ptr).o.toNat = o from Int.toNat_natCast o, Int.toNat_natCast] at hrl
        have hok2 : o + k ≤ x.cells.length := by omega
        obtain ⟨L, hLd⟩ : ∃ L, cutOf x o k = L := ⟨_, rfl⟩
        have hLlen : L.length = k := by rw [← hLd]; exact cutOf_len hok2
        have hLget : Hid (∀ j, j < k → L[j]? = x.cells[o + j]?) := Hid.mk (fun j hj => by rw [← hLd]; exact cutOf_get hj)
        have hLz : Hid (∀ (j : Nat) (c : Cell), x.cells[j]? = some c → (c == Cell.zero) = (c.k == 0)) := Hid.mk (fun j c hc => ok_unset hok hx hc)
        rw [hLd] at hrl
        have hne : rangeR m ⟨pa, (o : Int), pt⟩ (k : Int) ≠ [] := by rw [hrl]; intro e; rw [e] at hLlen; simp at hLlen; omega
        have hyes : Hid (L.any (· == Cell.zero) = false → loadR m ⟨pa, (o : Int), pt⟩ (k : Int) = (L, 0, 0)) := Hid.mk (fun h => by rw [loadR_yes (by rw [hask]) hne (by rw [hrl]; exact h), hrl])
        have hno : Hid (L.any (· == Cell.zero) = true → loadR m ⟨pa, (o : Int), pt⟩ (k : Int) = ([], 4, 0)) := Hid.mk (fun h => loadR_unset (by rw [hask]) hne (by rw [hrl]; exact h))
        have hCl := Lib.hid hcl
        rw [hlv] at d1
        have hD := Lib.hid (And.intro d0 (And.intro d1 d2))
        have hLlen := Lib.hid hLlen
        obtain ⟨ci, cz, hci, hcz, hci3, hcz3, hcby⟩ := Cell.infoE
        have hci := Lib.hid hci; have hcz := Lib.hid hcz; have hci3 := Lib.hid hci3; have hcz3 := Lib.hid hcz3; have hcby := Lib.hid hcby
        clear hask hl hok hx hcl d0 d1 d2 hlv hLd hrl hne
        go_enter Try.func32, Try.ntmps32
        go_wp2_with fail
        refine hC.out.mono ?_
        rintro e w1 ⟨rfl, hE1⟩
        have hF1 := hE0.trans hE1
        have m0 : w1.cell? ⟨w.heap.size, 0, none⟩ = some (.slice (some ⟨b, off, none⟩) m.al.length cp) := (bM.ext hE1).cell 0
        have p1 : w1.cell? ⟨w.heap.size + 1, 1, none⟩ = some (.int .i64 (o : Int)) := (bP.ext hE1).cell 1
        have e1 := hF1.cell hD.out.2.1
        have e2 := hF1.cell hD.out.2.2
        go_wp2
        go_loopw [11, 12] (fun ov kv wr => ∃ j : Nat, j ≤ k ∧ kv = .int .i64 j ∧ Own wr w1.heap.size 50 5 ov (L.take j).length ((L.take j).flatMap Cell.row) ∧ Ext w1 wr ∧ Hid ((L.take j).any (· == Cell.zero) = false)) (fun _ kv _ => k - (intOf kv).toNat)
        case atStart => exact ⟨0, Nat.zero_le _, rfl, by simpa using Own.nil w1 w1.heap.size 50 5, Ext.refl _, by simp [Hid]⟩
        case round =>
          obtain ⟨j, hj, rfl, hO, hE, hN⟩ := hrel
          have hF := hF1.trans hE
          replace m0 := hE.cell m0
          replace p1 := hE.cell p1
          replace e1 := hE.cell e1
          replace e2 := hE.cell e2
          have hlj : (L.take j).length = j := by rw [List.length_take]; have := hLlen.out; omega
          rw [hlj] at hO
          have hO' := Lib.hid hO
          obtain ⟨ga, gc, rfl, -⟩ := hO.sl.slice_form
          clear hO
          by_cases hlt : j < k
          · obtain ⟨c, hc⟩ : ∃ c, x.cells[o + j]? = some c := ⟨x.cells[o + j]'(by omega), List.getElem?_eq_getElem _⟩
            have hcL : L[j]? = some c := (hLget.out j hlt).trans hc
            obtain ⟨cb, coff, rfl, hcb, f0, f1, f2, f3, f4⟩ := (hCl.out.ext hF).cell hc
            have hzk := hLz.out _ c hc
            have hcL := Lib.hid hcL
            have hj0 : (0 : Int) ≤ (o : Int) + (j : Int) := by omega
            have hj1 : (o : Int) + (j : Int) < (x.cells.length : Int) := by omega
            have hj2 : ((o : Int) + (j : Int)).toNat = o + j := by omega
            have hj3 : IntKind.i64.wrap ((o : Int) + (j : Int)) = (o : Int) + (j : Int) := IntWalk.i64_in _ (by omega)
            have l1 := World.block_lt_of_cell? wr _ m0
            have l2 := World.block_lt_of_cell? wr _ p1
            have l3 := World.block_lt_of_cell? wr _ e2
            have l4 := World.block_lt_of_cell? wr _ f0
            clear hc
            have hEx : Ext wr (wr.alloc (.cells #[.int .u8 c.k, .int .i64 c.n, .int .i64 c.a, .int .i64 c.o, .int .i64 c.t] 50)) := (Ext.refl wr).alloc _
            have hEy := (hEx.alloc (.cells #[.int .u8 c.k, .int .i64 c.n, .int .i64 c.a, .int .i64 c.o, .int .i64 c.t] 50)).drew
            have hxs2 : Sl ((wr.alloc (.cells #[.int .u8 c.k, .int .i64 c.n, .int .i64 c.a, .int .i64 c.o, .int .i64 c.t] 50)).alloc (.cells #[.int .u8 c.k, .int .i64 c.n, .int .i64 c.a, .int .i64 c.o, .int .i64 c.t] 50)).drew 5 (.slice (some ⟨wr.heap.size + 1, 0, none⟩) 1 1) 1 c.row := by
              have := (Own.lit' (B := 0) (e := 50) (k := 5) (wr.alloc (.cells #[.int .u8 c.k, .int .i64 c.n, .int .i64 c.a, .int .i64 c.o, .int .i64 c.t] 50)) #[.int .u8 c.k, .int .i64 c.n, .int .i64 c.a, .int .i64 c.o, .int .i64 c.t] 1 (Nat.zero_le _) (by simp [maxLen]) rfl).sl
              rw [World.size_alloc] at this
              exact this.ext (Ext.refl _).drew
            have hOx := Lib.hid (Own.ext hO'.out hEy)
            have hxs2 := Lib.hid hxs2
            have hEyz := Lib.hid (hE.trans hEy)
            clear hEx hEy
            by_cases hk0 : c.k = 0
            · have hk0' : (c.k == 0) = true := beq_iff_eq.2 hk0
              have hany := any_hit hcL.out (p := (· == Cell.zero)) (hzk.trans hk0')
              have hres := Lib.hid (hno.out hany)
              clear hzk hany hk0
              go_wp2
              go_region
              go_wp2
              go_ret3
              rw [hres.out]
              exact ⟨_, rfl, Own.nil _ _ _ _, (hF.alloc _).drew⟩
            · have hk0' : (c.k == 0) = false := beq_eq_false_iff_ne.2 hk0
              have hany := Lib.hid (any_take_succ'' hN.out hcL.out (hzk.trans hk0'))
              clear hzk hk0
              go_wp2
              go_region
              go_wp2_with (at_builtin; refine Hid.out ?_)
              refine Hid.mk ?_
              refine wpList_append_any rfl _ _ 44 44 rfl rfl rfl Try.underlying44 Try.underlying44 hci.out hcz.out hci3.out hcz3.out hOx.out hxs2.out (by simp [Cell.row, Value.oneCell']) (by simp [maxLen]; omega) (by rw [hcby.out]; omega) hEyz.out.size ?_
              intro v' w' hO2 hK2 _ _
              have hT : L.take (j + 1) = L.take j ++ [c] := by rw [List.take_add_one, hcL.out]; rfl
              have hO3 : Own w' w1.heap.size 50 5 v' (L.take (j + 1)).length ((L.take (j + 1)).flatMap Cell.row) := by
                rw [hT, List.length_append, hlj, List.flatMap_append]
                simpa using hO2
              have hR := Lib.hid (And.intro hO3 (Below.trans hEyz.out hK2.below : Ext w1 w'))
              clear hO2 hK2 hT hO3
              go_wp2
              go_roundw
              case rel => exact ⟨j + 1, by omega, by go_num, hR.out.1, hR.out.2, hany.out⟩
              case measure => simp [intOf]; omega
          · have hjk : j = k := by omega
            subst hjk
            have hT : L.take j = L := List.take_of_length_le (by rw [hLlen.out]; omega)
            have hN' := hN.out
            rw [hT] at hN'
            have hres := Lib.hid (hyes.out hN')
            clear hN' m0 p1 e1 e2
            go_wp2
            go_ret3
            rw [hres.out]
            have hO2 := hO'.out
            rw [hT] at hO2
            refine ⟨_, rfl, ?_, hF⟩
            show Own wr w.heap.size _ 5 _ L.length _
            rw [hLlen.out]
            exact hO2.mono hF1.size
  · have hres := Lib.hid (loadR_err (by rw [hask]) he)
    have q : (err != 0) = true := by simp [he]
    have q' : (err == 0) = false := by simp [he]
    clear hask hl bM bP he
    obtain ⟨ixv, hixv⟩ : ∃ z, ixM ix = z := ⟨_, rfl⟩
    rw [hixv] at hC
    clear hixv
    go_enter Try.func32, Try.ntmps32
    go_wp2_with fail
    refine hC.out.mono ?_
    rintro e w1 ⟨rfl, hE1⟩
    go_wp2
    go_ret3
    rw [hres.out]
    exact ⟨_, rfl, Own.nil _ _ _ _, hE0.trans hE1⟩

/-- A cell, a reason, an error. -/
def RetCW (w : World) (c : Cell) (why err : Int) (en : Ending) (w' : World) : Prop := en = .returned (.tuple #[c.val, .int .u8 why, .int .i64 err]) ∧ Ext w w'

set_option maxRecDepth 100000 in
set_option maxHeartbeats 1600000 in
theorem cells_Load {m : Mem} {s : Value} {w : World} (p : Ptr) (hl : Als w s m.al) (hn : i64B m.next) :
    Calls Try.prog 29 #[.agg #[s, .int .i64 m.next], p.val] w (RetCW w (load1R m p).1 (load1R m p).2.1 (load1R m p).2.2) := by
  have hE0 := (((Ext.refl w).alloc (.cells #[s, .int .i64 m.next] 41)).alloc (.cells #[.int .i64 p.a, .int .i64 p.o, .int .i64 p.t] 43)).alloc (.cells #[.int .u8 0, .int .i64 0, .int .i64 0, .int .i64 0, .int .i64 0] 50)
  have hC := Lib.hid (cells_LoadAll p 1 (hl.ext hE0) hn)
  obtain ⟨a, cp, rfl, -⟩ := hl.form
  have bR := Box.new ((w.alloc (.cells #[.slice a m.al.length cp, .int .i64 m.next] 41)).alloc (.cells #[.int .i64 p.a, .int .i64 p.o, .int .i64 p.t] 43)) 50 #[.int .u8 0, .int .i64 0, .int .i64 0, .int .i64 0, .int .i64 0]
  simp only [World.size_alloc] at bR
  obtain ⟨L, why, err, hld⟩ : ∃ L why err, loadR m p 1 = (L, why, err) := ⟨_, _, _, rfl⟩
  rw [hld] at hC
  dsimp only at hC
  by_cases hL0 : L = []
  · subst hL0
    have hres : Hid (load1R m p = (Cell.zero, why, err)) := Hid.mk (by rw [load1R, hld]; rfl)
    clear hld hl
    unfold Ptr.val at *
    go_enter Try.func29, Try.ntmps29
    go_wp2_with fail
    refine hC.out.mono ?_
    rintro e w1 ⟨v, rfl, hO, hE1⟩
    obtain ⟨va, vc, rfl, -⟩ := hO.sl.slice_form
    have hF := hE0.trans hE1
    have bR1 := bR.ext hE1
    have r0 : w1.cell? ⟨w.heap.size + 1 + 1, 0, none⟩ = some (.int .u8 0) := bR1.cell 0
    have r1 : w1.cell? ⟨w.heap.size + 1 + 1, 1, none⟩ = some (.int .i64 0) := bR1.cell 1
    have r2 : w1.cell? ⟨w.heap.size + 1 + 1, 2, none⟩ = some (.int .i64 0) := bR1.cell 2
    have r3 : w1.cell? ⟨w.heap.size + 1 + 1, 3, none⟩ = some (.int .i64 0) := bR1.cell 3
    have r4 : w1.cell? ⟨w.heap.size + 1 + 1, 4, none⟩ = some (.int .i64 0) := bR1.cell 4
    have f0 := bR1.frozen 0
    have f1 := bR1.frozen 1
    have f2 := bR1.frozen 2
    have f3 := bR1.frozen 3
    have f4 := bR1.frozen 4
    clear bR bR1 hO
    dsimp only [List.length_nil]
    go_wp2
    rw [hres.out]
    refine bodyPost_ret (v := .tuple #[.agg #[.int .u8 0, .int .i64 0, .int .i64 0, .int .i64 0, .int .i64 0], .int .u8 why, .int .i64 err]) (by simp [results, Try.f29, go_sem, r0, r1, r2, r3, r4]) rfl ⟨rfl, ?_⟩
    exact ((((hF.setCell (by simp; omega) _).setCell (by simp; omega) _).setCell (by simp; omega) _).setCell (by simp; omega) _).setCell (by simp; omega) _
  · obtain ⟨c, hc⟩ : ∃ c, L[0]? = some c := ⟨L[0]'(List.length_pos_iff.2 hL0), by simp⟩
    have hres : Hid (load1R m p = (c, why, err)) := Hid.mk (by rw [load1R, hld]; cases L with | nil => exact absurd rfl hL0 | cons y L => simp at hc; subst hc; rfl)
    have hpos : 0 < L.length := List.length_pos_iff.2 hL0
    have q : ((L.length : Int) == 0) = false := beq_eq_false_iff_ne.2 (by omega)
    have hi1 : (0 : Int) < (L.length : Int) := by omega
    have hc := Lib.hid hc
    clear hld hl hL0
    unfold Ptr.val at *
    go_enter Try.func29, Try.ntmps29
    go_wp2_with fail
    refine hC.out.mono ?_
    rintro e w1 ⟨v, rfl, hO, hE1⟩
    have hCl : Cls w1 v L := hO.sl
    obtain ⟨va, vc, rfl, -⟩ := hCl.form
    obtain ⟨g, off, rfl, hg, c0, c1, c2, c3, c4⟩ := hCl.cell hc.out
    simp only [Nat.zero_mul, Nat.add_zero] at c0 c1 c2 c3 c4
    have hgo := (hO.lt (g := g) rfl).1
    have hF := hE0.trans hE1
    have bR1 := bR.ext hE1
    have r0 : w1.cell? ⟨w.heap.size + 1 + 1, 0, none⟩ = some (.int .u8 0) := bR1.cell 0
    have r1 : w1.cell? ⟨w.heap.size + 1 + 1, 1, none⟩ = some (.int .i64 0) := bR1.cell 1
    have r2 : w1.cell? ⟨w.heap.size + 1 + 1, 2, none⟩ = some (.int .i64 0) := bR1.cell 2
    have r3 : w1.cell? ⟨w.heap.size + 1 + 1, 3, none⟩ = some (.int .i64 0) := bR1.cell 3
    have r4 : w1.cell? ⟨w.heap.size + 1 + 1, 4, none⟩ = some (.int .i64 0) := bR1.cell 4
    have f0 := bR1.frozen 0
    have f1 := bR1.frozen 1
    have f2 := bR1.frozen 2
    have f3 := bR1.frozen 3
    have f4 := bR1.frozen 4
    clear bR bR1 hO hCl
    go_wp2
    rw [hres.out]
    refine bodyPost_ret (v := .tuple #[c.val, .int .u8 why, .int .i64 err]) (by simp [results, Try.f29, go_sem, r0, r1, r2, r3, r4, Cell.val]) rfl ⟨rfl, ?_⟩
    exact ((((hF.setCell (by simp; omega) _).setCell (by simp; omega) _).setCell (by simp; omega) _).setCell (by simp; omega) _).setCell (by simp; omega) _

set_option maxRecDepth 100000 in
set_option maxHeartbeats 1600000 in
theorem ref27_Load {m : Mem} {s : Value} {w : World} (p : Ptr) (hl : Als w s m.al) (hn : i64B m.next) :
    Calls Try.prog 30 #[.agg #[s, .int .i64 m.next], p.val] w (RetCW w (load1R m p).1 (load1R m p).2.1 (load1R m p).2.2) := by
  have hE0 := (((Ext.refl w).alloc (.cells #[s, .int .i64 m.next] 41)).alloc (.cells #[.int .i64 p.a, .int .i64 p.o, .int .i64 p.t] 43)).alloc (.cells #[.int .u8 0, .int .i64 0, .int .i64 0, .int .i64 0, .int .i64 0] 50)
  have hC := Lib.hid (ref27_LoadAll p 1 (hl.ext hE0) hn)
  obtain ⟨a, cp, rfl, -⟩ := hl.form
  have bR := Box.new ((w.alloc (.cells #[.slice a m.al.length cp, .int .i64 m.next] 41)).alloc (.cells #[.int .i64 p.a, .int .i64 p.o, .int .i64 p.t] 43)) 50 #[.int .u8 0, .int .i64 0, .int .i64 0, .int .i64 0, .int .i64 0]
  simp only [World.size_alloc] at bR
  obtain ⟨L, why, err, hld⟩ : ∃ L why err, loadR m p 1 = (L, why, err) := ⟨_, _, _, rfl⟩
  rw [hld] at hC
  dsimp only at hC
  by_cases hL0 : L = []
  · subst hL0
    have hres : Hid (load1R m p = (Cell.zero, why, err)) := Hid.mk (by rw [load1R, hld]; rfl)
    clear hld hl
    unfold Ptr.val at *
    go_enter Try.func30, Try.ntmps30
    go_wp2_with fail
    refine hC.out.mono ?_
    rintro e w1 ⟨v, rfl, hO, hE1⟩
    obtain ⟨va, vc, rfl, -⟩ := hO.sl.slice_form
    have hF := hE0.trans hE1
    have bR1 := bR.ext hE1
    have r0 : w1.cell? ⟨w.heap.size + 1 + 1, 0, none⟩ = some (.int .u8 0) := bR1.cell 0
    have r1 : w1.cell? ⟨w.heap.size + 1 + 1, 1, none⟩ = some (.int .i64 0) := bR1.cell 1
    have r2 : w1.cell? ⟨w.heap.size + 1 + 1, 2, none⟩ = some (.int .i64 0) := bR1.cell 2
    have r3 : w1.cell? ⟨w.heap.size + 1 + 1, 3, none⟩ = some (.int .i64 0) := bR1.cell 3
    have r4 : w1.cell? ⟨w.heap.size + 1 + 1, 4, none⟩ = some (.int .i64 0) := bR1.cell 4
    have f0 := bR1.frozen 0
    have f1 := bR1.frozen 1
    have f2 := bR1.frozen 2
    have f3 := bR1.frozen 3
    have f4 := bR1.frozen 4
    clear bR bR1 hO
    dsimp only [List.length_nil]
    go_wp2
    rw [hres.out]
    refine bodyPost_ret (v := .tuple #[.agg #[.int .u8 0, .int .i64 0, .int .i64 0, .int .i64 0, .int .i64 0], .int .u8 why, .int .i64 err]) (by simp [results, Try.f30, go_sem, r0, r1, r2, r3, r4]) rfl ⟨rfl, ?_⟩
    exact ((((hF.setCell (by simp; omega) _).setCell (by simp; omega) _).setCell (by simp; omega) _).setCell (by simp; omega) _).setCell (by simp; omega) _
  · obtain ⟨c, hc⟩ : ∃ c, L[0]? = some c := ⟨L[0]'(List.length_pos_iff.2 hL0), by simp⟩
    have hres : Hid (load1R m p = (c, why, err)) := Hid.mk (by rw [load1R, hld]; cases L with | nil => exact absurd rfl hL0 | cons y L => simp at hc; subst hc; rfl)
    have hpos : 0 < L.length := List.length_pos_iff.2 hL0
    have q : ((L.length : Int) == 0) = false := beq_eq_false_iff_ne.2 (by omega)
    have hi1 : (0 : Int) < (L.length : Int) := by omega
    have hc := Lib.hid hc
    clear hld hl hL0
    unfold Ptr.val at *
    go_enter Try.func30, Try.ntmps30
    go_wp2_with fail
    refine hC.out.mono ?_
    rintro e w1 ⟨v, rfl, hO, hE1⟩
    have hCl : Cls w1 v L := hO.sl
    obtain ⟨va, vc, rfl, -⟩ := hCl.form
    obtain ⟨g, off, rfl, hg, c0, c1, c2, c3, c4⟩ := hCl.cell hc.out
    simp only [Nat.zero_mul, Nat.add_zero] at c0 c1 c2 c3 c4
    have hgo := (hO.lt (g := g) rfl).1
    have hF := hE0.trans hE1
    have bR1 := bR.ext hE1
    have r0 : w1.cell? ⟨w.heap.size + 1 + 1, 0, none⟩ = some (.int .u8 0) := bR1.cell 0
    have r1 : w1.cell? ⟨w.heap.size + 1 + 1, 1, none⟩ = some (.int .i64 0) := bR1.cell 1
    have r2 : w1.cell? ⟨w.heap.size + 1 + 1, 2, none⟩ = some (.int .i64 0) := bR1.cell 2
    have r3 : w1.cell? ⟨w.heap.size + 1 + 1, 3, none⟩ = some (.int .i64 0) := bR1.cell 3
    have r4 : w1.cell? ⟨w.heap.size + 1 + 1, 4, none⟩ = some (.int .i64 0) := bR1.cell 4
    have f0 := bR1.frozen 0
    have f1 := bR1.frozen 1
    have f2 := bR1.frozen 2
    have f3 := bR1.frozen 3
    have f4 := bR1.frozen 4
    clear bR bR1 hO hCl
    go_wp2
    rw [hres.out]
    refine bodyPost_ret (v := .tuple #[c.val, .int .u8 why, .int .i64 err]) (by simp [results, Try.f30, go_sem, r0, r1, r2, r3, r4, Cell.val]) rfl ⟨rfl, ?_⟩
    exact ((((hF.setCell (by simp; omega) _).setCell (by simp; omega) _).setCell (by simp; omega) _).setCell (by simp; omega) _).setCell (by simp; omega) _

theorem run_neq_cells (x y : Cell) (w : World) : (binOp .neq 50 x.val y.val).run Try.prog w = .ok (.bool (decide (x ≠ y))) w := by
  obtain ⟨k, n, a, o, t⟩ := x
  obtain ⟨k', n', a', o', t'⟩ := y
  unfold Cell.val
  go_simp
  by_cases h1 : k = k' <;> by_cases h2 : n = n' <;> by_cases h3 : a = a' <;> by_cases h4 : o = o' <;> by_cases h5 : t = t' <;> simp [h1, h2, h3, h4, h5]

set_option maxHeartbeats 1600000 in
theorem ref27_SameCells {l m : List Cell} {v u : Value} {w : World} (hl : Cls w v l) (hm : Cls w u m) : Calls Try.prog 33 #[v, u] w fun e w' => e = .returned (.bool (decide (l = m))) ∧ Ext w w' := by
  obtain ⟨a, cp, rfl, hlc, hcm, -⟩ := hl.form
  obtain ⟨a2, cp2, rfl, hlc2, hcm2, -⟩ := hm.form
  unfold maxLen at hcm hcm2
  by_cases hlen : l.length = m.length
  · have hH := Lib.hid hlen
    have hm2 := hm
    rw [← hlen] at hm2
    rw [← hlen]
    clear hlen
    have hl' := Lib.hid hl
    have hm' := Lib.hid hm2
    clear hl hm hm2
    go_enter Try.func33, Try.ntmps33
    go_wp2
    go_loopw [5] (fun i wr => ∃ k : Nat, k ≤ l.length ∧ i = .int .i64 k ∧ Ext w wr ∧ Hid (l.take k = m.take k)) (fun i _ => l.length - (intOf i).toNat)
    case atStart => exact ⟨0, Nat.zero_le _, rfl, Ext.refl _, by simp [Hid]⟩
    case round =>
      obtain ⟨k, hk, rfl, hE, hN⟩ := hrel
      by_cases hlt : k < l.length
      · obtain ⟨x, hx⟩ : ∃ x, l[k]? = some x := ⟨l[k], by simp [hlt]⟩
        obtain ⟨y, hy⟩ : ∃ y, m[k]? = some y := ⟨m[k]'(by have := hH.out; omega), by simp⟩
        obtain ⟨b, off, rfl, hb, c0, c1, c2, c3, c4⟩ := (hl'.out.ext hE).cell hx
        obtain ⟨b', off', rfl, hb', d0, d1, d2, d3, d4⟩ := (hm'.out.ext hE).cell hy
        have hX := Lib.hid hx
        have hY := Lib.hid hy
        clear hx hy
        have hi0 : (0 : Int) ≤ (k : Int) := by omega
        have hi1 : (k : Int) < (l.length : Int) := by omega
        have hn := run_neq_cells x y
        unfold Cell.val at hn
        by_cases hxy : x = y
        · subst hxy
          simp only [ne_eq, not_true_eq_false, decide_false] at hn
          go_wp2
          go_quiet (fail)
          go_wp2
          go_roundw
          case rel => exact ⟨k + 1, by omega, by go_num, hE.drewN _, by show l.take (k + 1) = m.take (k + 1); rw [List.take_add_one, List.take_add_one, hX.out, hY.out, hN.out]⟩
          case measure => simp [intOf]; omega
        · have hD := Lib.hid hxy
          simp only [ne_eq, hxy, not_false_eq_true, decide_true] at hn
          clear hxy
          go_wp2
          go_quiet (fail)
          go_wp2
          go_ret
          refine ⟨?_, hE.drewN _⟩
          have hne : l ≠ m := by
            intro e
            have h1 := hX.out
            rw [e, hY.out] at h1
            exact hD.out (Option.some.inj h1).symm
          simp [hne]
      · have hkl : k = l.length := by omega
        subst hkl
        go_wp2
        go_ret
        have h1 := hN.out
        rw [List.take_length, hH.out, List.take_length] at h1
        exact ⟨by simp [h1], hE⟩
  · have hb : ((l.length : Int) == (m.length : Int)) = false := by simp; omega
    have hb' : ((l.length : Int) != (m.length : Int)) = true := by simp; omega
    have hH := Lib.hid hlen
    clear hlen hl hm
    go_enter Try.func33, Try.ntmps33
    go_wp2
    go_ret
    have hne : l ≠ m := fun e => hH.out (by rw [e])
    exact ⟨by simp [hne], Ext.refl _⟩
theorem ref27_SameCells_yes {l : List Cell} {v u : Value} {w : World} (hl : Cls w v l) (hm : Cls w u l) : Calls Try.prog 33 #[v, u] w fun e w' => e = .returned (.bool true) ∧ Ext w w' :=
  (ref27_SameCells hl hm).mono fun _ _ ⟨h1, h2⟩ => ⟨h1.trans (by simp), h2⟩

end Go.Proofs.Ytkiadhkkpmcmiaa
