/- Contracts: find of the program, Asked of the reference of layer 27. -/
import Derived.Test.YtiikdpfbbcnplaaCelWD
namespace Go.Proofs.Ytiikdpfbbcnplaa
set_option maxRecDepth 100000
open Go.RowKit

/-- The part of a slice of cells from o on, of n cells. -/
def cutV (s : Value) (o n : Nat) : Value :=
  match s with
  | .slice a _ cap => .slice (if cap = o then a else a.map (·.add (o * 5))) n (cap - o)
  | v => v
def findV (m : Mem) (vs : List Value) (p : Ptr) (n : Int) : Value :=
  match (askR m p n).1 with
  | none => .slice none 0 0
  | some i => if (m.al.getD i Alloc.zero).live then cutV (vs.getD i (.slice none 0 0)) p.o.toNat n.toNat else .slice none 0 0
def ixA (m : Mem) (p : Ptr) (n : Int) : Int := match (askR m p n).1 with | none => -1 | some i => i

theorem Cls.cut {w : World} {s : Value} {l : List Cell} (h : Cls w s l) (o n : Nat) (hn : o + n ≤ l.length) : Cls w (cutV s o n) ((l.drop o).take n) := by
  obtain ⟨a, cap, rfl, hc, -⟩ := h.form
  have h1 := Sl.drop h o (by omega)
  rw [rows_drop Cell.row Cell.row_len] at h1
  have h2 := Sl.take h1 n (by omega)
  rw [rows_take Cell.row Cell.row_len] at h2
  unfold Cls cutV
  rw [List.length_take, List.length_drop, Nat.min_eq_left (by omega)]
  exact h2

theorem askR_bad {m : Mem} {p : Ptr} {n : Int} (h : m.ok = false) : askR m p n = (none, 8) := by simp [askR, h]
theorem askR_arg {m : Mem} {p : Ptr} {n : Int} (h : m.ok = true) (ha : p.a < 0 ∨ m.next ≤ p.a ∨ n < 1 ∨ 2 < n) : askR m p n = (none, 2) := by simp [askR, h, ha]
theorem askR_none {m : Mem} {p : Ptr} {n : Int} (h : m.ok = true) (ha : ¬ (p.a < 0 ∨ m.next ≤ p.a ∨ n < 1 ∨ 2 < n)) (hi : atNum m.al p.a = none) : askR m p n = (none, 0) := by simp [askR, h, ha, hi]
theorem askR_off {m : Mem} {p : Ptr} {n : Int} {i : Nat} {x : Alloc} (h : m.ok = true) (ha : ¬ (p.a < 0 ∨ m.next ≤ p.a ∨ n < 1 ∨ 2 < n)) (hi : atNum m.al p.a = some i) (hx : m.al[i]? = some x) (ho : p.o < 0 ∨ (x.cells.length : Int) - n < p.o) : askR m p n = (none, 6) := by
  simp [askR, h, ha, hi, List.getD_eq_getElem?_getD, hx, ho]
theorem askR_yes {m : Mem} {p : Ptr} {n : Int} {i : Nat} {x : Alloc} (h : m.ok = true) (ha : ¬ (p.a < 0 ∨ m.next ≤ p.a ∨ n < 1 ∨ 2 < n)) (hi : atNum m.al p.a = some i) (hx : m.al[i]? = some x) (ho : ¬ (p.o < 0 ∨ (x.cells.length : Int) - n < p.o)) : askR m p n = (some i, 0) := by
  simp [askR, h, ha, hi, List.getD_eq_getElem?_getD, hx, ho]

theorem run_slice_mid {P : Program} {t e : TypeId} {i : TypeInfo} (ht : P.underlying t = some (.slice e)) (hi : P.info? e = some i) (h5 : i.size = 5) (a : Option Addr) (n cap : Nat) (x y : Int) (o k : Nat) (hx : x = o) (hy : y = (o + k : Nat)) (hk : o + k ≤ cap) (w : World) :
    (Instr.slice t (.slice a n cap) (some (.int .i64 x)) (some (.int .i64 y)) none).run P w = .ok (cutV (.slice a n cap) o k) w := by
  subst hx hy
  have h2 : (0 : Int) ≤ (o : Int) + (k : Int) ∧ (o : Int) + (k : Int) ≤ (cap : Int) := by omega
  have h3 : ((o : Int) + (k : Int)).toNat = o + k := by omega
  simp [Instr.slice, run_underlying ht, Instr.sliceBounds, Instr.sliceBound, asIntOf, h2, h3, sizeOf, typeInfo, hi, h5, cutV]

theorem callFunc_cellsfind (args : Array Value) (w : World) : (callFunc 68 args).run Try.prog w = .ok (.enter 68 args) w := by kernel_rfl

set_option maxHeartbeats 400000 in
theorem cells_find1 (n : Int) (B : Nat) (W : World) (hc : W.cell? ⟨B, 0, none⟩ = some (.int .i64 n)) : PredA 68 #[.pointer (some ⟨B, 0, none⟩)] W (numIs n) := by
  intro x s w hW
  obtain ⟨num, live, cs⟩ := x
  have hcw := hW.cell hc
  have hB := World.block_lt_of_cell? _ _ hcw
  have hE := (Ext.refl w).alloc (.cells #[.int .i64 num, .bool live, s] 70)
  clear hc hW
  show Calls Try.prog 68 #[.agg #[.int .i64 num, .bool live, s], .pointer (some ⟨B, 0, none⟩)] w _
  go_enter Try.func68, Try.ntmps68
  go_wp2
  go_ret
  exact ⟨rfl, hE⟩

/-- A slice that is told, and an error. -/
def RetVE (w : World) (v : Value) (err : Int) (en : Ending) (w' : World) : Prop := en = .returned (.tuple #[v, .int .i64 err]) ∧ Ext w w'

set_option maxRecDepth 100000 in
set_option maxHeartbeats 3200000 in
theorem cells_find {m : Mem} {vs : List Value} {s : Value} {w : World} (p : Ptr) (n : Int) (hin : All2 (fun s a => Cls w s a.cells) vs m.al) (hout : Sl w 3 s m.al.length (trows arow vs m.al)) (hn : i64B m.next) :
    Calls Try.prog 29 #[.agg #[s, .int .i64 m.next], p.val, .int .i64 n] w (RetVE w (findV m vs p n) (askR m p n).2) := by
  have hl : Als w s m.al := ⟨vs, hin, hout⟩
  obtain ⟨pa, po, pt⟩ := p
  have hE0 := ((Ext.refl w).alloc (.cells #[s, .int .i64 m.next] 24)).alloc (.cells #[.int .i64 pa, .int .i64 po, .int .i64 pt] 27)
  obtain ⟨a, cp, rfl, hlc, hcm, -⟩ := hl.form
  unfold maxLen at hcm
  have bM := (Box.new w 24 #[.slice a m.al.length cp, .int .i64 m.next]).ext ((Ext.refl _).alloc (.cells #[.int .i64 pa, .int .i64 po, .int .i64 pt] 27))
  have bP := Box.new (w.alloc (.cells #[.slice a m.al.length cp, .int .i64 m.next] 24)) 27 #[.int .i64 pa, .int .i64 po, .int .i64 pt]
  rw [World.size_alloc] at bP
  have hCk := Lib.hid (allocs_Check (hl.ext hE0) hn)
  have hL := Lib.hid hl
  have hmf : ∀ (fn : Fn) (first cap : Array Value) (w : World), (Instr.makeFunc fn first cap).run Try.prog w = .ok (.func fn first cap) w := fun _ _ _ _ => rfl
  unfold Ptr.val
  cases hok : m.ok
  · have hce : Hid (memErr m.al m.next = 8) := Hid.mk (memErr_bad hok)
    have hres : Hid (findV m vs ⟨pa, po, pt⟩ n = .slice none 0 0 ∧ (askR m ⟨pa, po, pt⟩ n).2 = 8) := Hid.mk (by simp [findV, askR_bad hok])
    clear hok hl hin hout
    go_enter Try.func29, Try.ntmps29
    go_wp2_with fail
    refine hCk.out.mono ?_
    rintro e w1 ⟨rfl, hE1⟩
    rw [hce.out]
    go_wp2
    go_ret2
    rw [hres.out.1, hres.out.2]
    exact ⟨rfl, hE0.trans hE1⟩
  · have hce : Hid (memErr m.al m.next = 0) := Hid.mk (memErr_ok hok)
    have hbn := ok_bounds hok
    by_cases harg : pa < 0 ∨ m.next ≤ pa ∨ n < 1 ∨ 2 < n
    · have hres : Hid (findV m vs ⟨pa, po, pt⟩ n = .slice none 0 0 ∧ (askR m ⟨pa, po, pt⟩ n).2 = 2) := Hid.mk (by simp [findV, askR_arg (p := ⟨pa, po, pt⟩) hok harg])
      have q : decide (pa < 0) = true ∨ decide (pa < 0) = false ∧ decide (m.next ≤ pa) = true ∨ decide (pa < 0) = false ∧ decide (m.next ≤ pa) = false ∧ decide (n < 1) = true ∨ decide (pa < 0) = false ∧ decide (m.next ≤ pa) = false ∧ decide (n < 1) = false ∧ decide (2 < n) = true := by
        by_cases h1 : pa < 0
        · exact .inl (decide_eq_true h1)
        · by_cases h2 : m.next ≤ pa
          · exact .inr (.inl ⟨decide_eq_false h1, decide_eq_true h2⟩)
          · by_cases h3 : n < 1
            · exact .inr (.inr (.inl ⟨decide_eq_false h1, decide_eq_false h2, decide_eq_true h3⟩))
            · exact .inr (.inr (.inr ⟨decide_eq_false h1, decide_eq_false h2, decide_eq_false h3, decide_eq_true (by omega)⟩))
      clear hok hl hin hout harg
      rcases q with q1 | ⟨q1, q2⟩ | ⟨q1, q2, q3⟩ | ⟨q1, q2, q3, q4⟩
      all_goals
        go_enter Try.func29, Try.ntmps29
        go_wp2_with fail
        refine hCk.out.mono ?_
        rintro e w1 ⟨rfl, hE1⟩
        rw [hce.out]
        have m1 : w1.cell? ⟨w.heap.size, 1, none⟩ = some (.int .i64 m.next) := (bM.ext hE1).cell 1
        have p0 : w1.cell? ⟨w.heap.size + 1, 0, none⟩ = some (.int .i64 pa) := (bP.ext hE1).cell 0
        go_wp2
        go_ret2
        rw [hres.out.1, hres.out.2]
        exact ⟨rfl, hE0.trans hE1⟩
    · have q1 : decide (pa < 0) = false := decide_eq_false (by omega)
      have q2 : decide (m.next ≤ pa) = false := decide_eq_false (by omega)
      have q3 : decide (n < 1) = false := decide_eq_false (by omega)
      have q4 : decide (2 < n) = false := decide_eq_false (by omega)
      have hn2 : 1 ≤ n ∧ n ≤ 2 := by omega
      cases hat : atNum m.al pa with
      | none =>
        have hix : Hid (ixM (m.al.findIdx? (numIs pa)) = -1) := Hid.mk (idxM_none hat)
        have hres : Hid (findV m vs ⟨pa, po, pt⟩ n = .slice none 0 0 ∧ (askR m ⟨pa, po, pt⟩ n).2 = 0) := Hid.mk (by simp [findV, askR_none (p := ⟨pa, po, pt⟩) hok harg hat])
        clear hok hl hin hout harg hat
        go_enter Try.func29, Try.ntmps29
        go_wp2_with fail
        refine hCk.out.mono ?_
        rintro e w1 ⟨rfl, hE1⟩
        rw [hce.out]
        have hF1 := hE0.trans hE1
        have m0 : w1.cell? ⟨w.heap.size, 0, none⟩ = some (.slice a m.al.length cp) := (bM.ext hE1).cell 0
        have m1 : w1.cell? ⟨w.heap.size, 1, none⟩ = some (.int .i64 m.next) := (bM.ext hE1).cell 1
        have p0 : w1.cell? ⟨w.heap.size + 1, 0, none⟩ = some (.int .i64 pa) := (bP.ext hE1).cell 0
        go_wp2_with fail
        refine (indexFunc_alloc callFunc_cellsfind (cells_find1 pa (w.heap.size + 1) w1 p0) (hL.out.ext hF1)).mono ?_
        rintro e w2 ⟨rfl, hE2⟩
        rw [hix.out]
        go_wp2
        go_ret2
        rw [hres.out.1, hres.out.2]
        exact ⟨rfl, hF1.trans hE2⟩
      | some i =>
        have hix : Hid (ixM (m.al.findIdx? (numIs pa)) = (i : Int)) := Hid.mk (idxM_some hat)
        have hil := (atNum_lt hat).1
        obtain ⟨x, hx⟩ : ∃ x, m.al[i]? = some x := ⟨m.al[i], by simp [hil]⟩
        have hi2 : decide ((i : Int) < 0) = false := decide_eq_false (by omega)
        have hi0 : (0 : Int) ≤ (i : Int) := by omega
        have hi1 : (i : Int) < (m.al.length : Int) := by omega
        obtain ⟨sv, hsv, hcl⟩ := hin.get hx
        obtain ⟨b, off, e, hbb, hcell⟩ := Sl.at hout (by omega) (by omega : 0 < m.al.length)
        subst e
        obtain ⟨ca, ccp, rfl, hcl1, hcl2, -⟩ := hcl.form
        unfold maxLen at hcl2
        have d : ∀ j u, (arow (.slice ca x.cells.length ccp) x)[j]? = some u → w.cell? ⟨b, off + (i * 3 + j), none⟩ = some u := fun j u hj => hcell _ u ((trows_get arow arow_len hsv hx (by have := (List.getElem?_eq_some_iff.1 hj).1; simpa [arow_len] using this)).trans hj)
        have d0 : w.cell? ⟨b, off + i * 3, none⟩ = some (.int .i64 x.num) := d 0 _ rfl
        have d1 : w.cell? ⟨b, off + i * 3 + 1, none⟩ = some (.bool x.live) := d 1 _ rfl
        have d2 : w.cell? ⟨b, off + i * 3 + 2, none⟩ = some (.slice ca x.cells.length ccp) := d 2 _ rfl
        have hx2 : x.cells.length ≤ 1000000 := (small_of_ok hok).2 x (List.mem_of_getElem? hx)
        have hvd : vs.getD i (.slice none 0 0) = .slice ca x.cells.length ccp := by rw [List.getD_eq_getElem?_getD, hsv]; rfl
        by_cases ho : po < 0 ∨ (x.cells.length : Int) - n < po
        · have hres : Hid (findV m vs ⟨pa, po, pt⟩ n = .slice none 0 0 ∧ (askR m ⟨pa, po, pt⟩ n).2 = 6) := Hid.mk (by simp [findV, askR_off (p := ⟨pa, po, pt⟩) hok harg hat hx ho])
          have q5 : decide (po < 0) = true ∨ decide (po < 0) = false ∧ decide ((x.cells.length : Int) - n < po) = true := by
            by_cases h : po < 0
            · exact .inl (decide_eq_true h)
            · exact .inr ⟨decide_eq_false h, decide_eq_true (by omega)⟩
          have hH := Lib.hid (And.intro d0 (And.intro d1 d2))
          clear hok hl hin hout harg hat hx hsv hcl hcell d d0 d1 d2 ho hvd
          rcases q5 with q5 | ⟨q5, q6⟩
          all_goals
            go_enter Try.func29, Try.ntmps29
            go_wp2_with fail
            refine hCk.out.mono ?_
            rintro e w1 ⟨rfl, hE1⟩
            rw [hce.out]
            have hF1 := hE0.trans hE1
            have m0 : w1.cell? ⟨w.heap.size, 0, none⟩ = some (.slice (some ⟨b, off, none⟩) m.al.length cp) := (bM.ext hE1).cell 0
            have m1 : w1.cell? ⟨w.heap.size, 1, none⟩ = some (.int .i64 m.next) := (bM.ext hE1).cell 1
            have p0 : w1.cell? ⟨w.heap.size + 1, 0, none⟩ = some (.int .i64 pa) := (bP.ext hE1).cell 0
            go_wp2_with fail
            refine (indexFunc_alloc callFunc_cellsfind (cells_find1 pa (w.heap.size + 1) w1 p0) (hL.out.ext hF1)).mono ?_
            rintro e w2 ⟨rfl, hE2⟩
            rw [hix.out]
            have hF2 := hF1.trans hE2
            have n0 := hE2.cell m0
            have o1 : w2.cell? ⟨w.heap.size + 1, 1, none⟩ = some (.int .i64 po) := ((bP.ext hE1).ext hE2).cell 1
            have ol := ((bP.ext hE1).ext hE2).lt
            have e0 := hF2.cell hH.out.1
            have e1 := hF2.cell hH.out.2.1
            have e2 := hF2.cell hH.out.2.2
            clear m0 m1 p0
            go_wp2
            go_ret2
            rw [hres.out.1, hres.out.2]
            exact ⟨rfl, hF2.alloc _⟩
        · have q5 : decide (po < 0) = false := decide_eq_false (by omega)
          have q6 : decide ((x.cells.length : Int) - n < po) = false := decide_eq_false (by omega)
          have hask := askR_yes (p := ⟨pa, po, pt⟩) hok harg hat hx ho
          have hgd : m.al.getD i Alloc.zero = x := by rw [List.getD_eq_getElem?_getD, hx]; rfl
          obtain ⟨o, rfl⟩ : ∃ o : Nat, po = (o : Int) := ⟨po.toNat, by omega⟩
          obtain ⟨k, rfl⟩ : ∃ k : Nat, n = (k : Int) := ⟨n.toNat, by omega⟩
          have hok2 : o + k ≤ x.cells.length := by omega
          obtain ⟨ci, cz, hci, hcz, hci3, hcz3, hcby⟩ := Cell.infoE
          have hcut := run_slice_mid (P := Try.prog) Try.underlying35 hci hci3 ca x.cells.length ccp (o : Int) ((o : Int) + (k : Int)) o k rfl (by omega) (by omega)
          obtain ⟨cv, hcv⟩ : ∃ cv, cutV (.slice ca x.cells.length ccp) o k = cv := ⟨_, rfl⟩
          rw [hcv] at hcut
          have hres : Hid (findV m vs ⟨pa, o, pt⟩ k = (if x.live then cv else .slice none 0 0) ∧ (askR m ⟨pa, o, pt⟩ k).2 = 0) := Hid.mk (by
            refine ⟨?_, by rw [hask]⟩
            unfold findV
            rw [hask]
            show (if (m.al.getD i Alloc.zero).live = true then cutV (vs.getD i (.slice none 0 0)) (Int.toNat (o : Int)) (Int.toNat (k : Int)) else _) = _
            rw [hgd, hvd, Int.toNat_natCast, Int.toNat_natCast, hcv])
          have hsb : 0 ≤ (o : Int) := by omega
          have hsb2 : (o : Int) + (k : Int) ≤ 2000000 := by omega
          have hH := Lib.hid (And.intro d0 (And.intro d1 d2))
          clear hok hl hin hout harg hat hx hsv hcl hcell d d0 d1 d2 ho hvd hask hgd hci hcz hci3 hcz3 hcby hcv
          cases hlv : x.live
          all_goals
            have hlv' := Lib.hid hlv
            rw [hlv] at hres
            clear hlv
            go_enter Try.func29, Try.ntmps29
            go_wp2_with fail
            refine hCk.out.mono ?_
            rintro e w1 ⟨rfl, hE1⟩
            rw [hce.out]
            have hF1 := hE0.trans hE1
            have m0 : w1.cell? ⟨w.heap.size, 0, none⟩ = some (.slice (some ⟨b, off, none⟩) m.al.length cp) := (bM.ext hE1).cell 0
            have m1 : w1.cell? ⟨w.heap.size, 1, none⟩ = some (.int .i64 m.next) := (bM.ext hE1).cell 1
            have p0 : w1.cell? ⟨w.heap.size + 1, 0, none⟩ = some (.int .i64 pa) := (bP.ext hE1).cell 0
            go_wp2_with fail
            refine (indexFunc_alloc callFunc_cellsfind (cells_find1 pa (w.heap.size + 1) w1 p0) (hL.out.ext hF1)).mono ?_
            rintro e w2 ⟨rfl, hE2⟩
            rw [hix.out]
            have hF2 := hF1.trans hE2
            have n0 := hE2.cell m0
            have o1 : w2.cell? ⟨w.heap.size + 1, 1, none⟩ = some (.int .i64 (o : Int)) := ((bP.ext hE1).ext hE2).cell 1
            have ol := ((bP.ext hE1).ext hE2).lt
            have e0 := hF2.cell hH.out.1
            have e1 := hF2.cell hH.out.2.1
            rw [hlv'.out] at e1
            have e2 := hF2.cell hH.out.2.2
            clear m0 m1 p0
            go_wp2
            go_ret2
            rw [hres.out.1, hres.out.2]
            exact ⟨rfl, hF2.alloc _⟩

end Go.Proofs.Ytiikdpfbbcnplaa
