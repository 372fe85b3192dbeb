/- Contracts: LoadAll and Load of layer 27, the program's and the reference's. -/
import Derived.Test.YtiikdpfbbcnplaaCelX2
namespace Go.Proofs.Ytiikdpfbbcnplaa
set_option maxRecDepth 100000
open Go.RowKit

/-! ### what a load gives, case by case -/
theorem loadR_err {m : Mem} {p : Ptr} {n err : Int} (h : (askR m p n).2 = err) (he : err ≠ 0) : loadR m p n = ([], 0, err) := by
  subst h
  rw [loadR, if_neg he]
theorem rangeR_none {m : Mem} {p : Ptr} {n e : Int} (h : askR m p n = (none, e)) : rangeR m p n = [] := by rw [rangeR, h]
theorem rangeR_dead {m : Mem} {p : Ptr} {n e : Int} {i : Nat} {x : Alloc} (h : askR m p n = (some i, e)) (hx : m.al[i]? = some x) (hl : x.live = false) : rangeR m p n = [] := by
  have hg : m.al.getD i Alloc.zero = x := by rw [List.getD_eq_getElem?_getD, hx]; rfl
  rw [rangeR, h]
  show (if (m.al.getD i Alloc.zero).live = true then _ else _) = _
  rw [hg, hl]
  rfl
theorem rangeR_live {m : Mem} {p : Ptr} {n e : Int} {i : Nat} {x : Alloc} (h : askR m p n = (some i, e)) (hx : m.al[i]? = some x) (hl : x.live = true) : rangeR m p n = cutOf x p.o.toNat n.toNat := by
  have hg : m.al.getD i Alloc.zero = x := by rw [List.getD_eq_getElem?_getD, hx]; rfl
  rw [rangeR, h]
  show (if (m.al.getD i Alloc.zero).live = true then cutOf (m.al.getD i Alloc.zero) _ _ else _) = _
  rw [hg, hl]
  rfl
theorem loadR_gone {m : Mem} {p : Ptr} {n : Int} (h : (askR m p n).2 = 0) (hr : rangeR m p n = []) : loadR m p n = ([], 3, 0) := by
  rw [loadR, if_pos h, if_pos hr]
theorem loadR_unset {m : Mem} {p : Ptr} {n : Int} (h : (askR m p n).2 = 0) (hr : rangeR m p n ≠ []) (hz : (rangeR m p n).any (· == Cell.zero) = true) : loadR m p n = ([], 4, 0) := by
  rw [loadR, if_pos h, if_neg hr, if_pos hz]
theorem loadR_yes {m : Mem} {p : Ptr} {n : Int} (h : (askR m p n).2 = 0) (hr : rangeR m p n ≠ []) (hz : (rangeR m p n).any (· == Cell.zero) = false) : loadR m p n = (rangeR m p n, 0, 0) := by
  rw [loadR, if_pos h, if_neg hr, hz]
  rfl

/-- All that askR asks, where it finds an allocation. -/
theorem askR_inv {m : Mem} {p : Ptr} {n e : Int} {i : Nat} (h : askR m p n = (some i, e)) :
    e = 0 ∧ m.ok = true ∧ 0 ≤ p.a ∧ p.a < m.next ∧ 1 ≤ n ∧ n ≤ 2 ∧ atNum m.al p.a = some i ∧ ∃ x, m.al[i]? = some x ∧ 0 ≤ p.o ∧ p.o + n ≤ (x.cells.length : Int) := by
  unfold askR at h
  split at h
  · rename_i hok
    split at h
    · cases h
    · rename_i harg
      split at h
      · cases h
      · rename_i j hj
        split at h
        · cases h
        · rename_i ho
          simp only [Prod.mk.injEq, Option.some.injEq] at h
          obtain ⟨rfl, rfl⟩ := h
          have hlt := (atNum_lt hj).1
          have hg : m.al.getD j Alloc.zero = m.al[j] := by rw [List.getD_eq_getElem?_getD, List.getElem?_eq_getElem hlt]; rfl
          rw [hg] at ho
          exact ⟨rfl, hok, by omega, by omega, by omega, by omega, hj, m.al[j], List.getElem?_eq_getElem hlt, by omega, by omega⟩
  · cases h
theorem cutOf_len {x : Alloc} {o n : Nat} (h : o + n ≤ x.cells.length) : (cutOf x o n).length = n := by
  rw [cutOf, List.length_take, List.length_drop]
  omega
theorem cutOf_get {x : Alloc} {o n k : Nat} (hk : k < n) : (cutOf x o n)[k]? = x.cells[o + k]? := by
  rw [cutOf, List.getElem?_take, if_pos hk, List.getElem?_drop]
/-- In a valid memory a cell without a kind is unset. -/
theorem ok_unset {m : Mem} (h : m.ok = true) {i : Nat} {x : Alloc} (hx : m.al[i]? = some x) {j : Nat} {c : Cell} (hc : x.cells[j]? = some c) : (c == Cell.zero) = (c.k == 0) := by
  have hok : c.ok = true := by
    unfold Mem.ok okM at h
    simp only [Bool.and_eq_true] at h
    have h2 := h.2
    have key : ∀ (l : List Alloc) (least : Int), okAl m.next least l = true → ∀ a ∈ l, ∀ c ∈ a.cells, c.ok = true := by
      intro l
      induction l with
      | nil => intro _ _ a ha; cases ha
      | cons y l ih =>
        intro least hl a ha c hc
        simp only [okAl, Bool.and_eq_true] at hl
        rcases List.mem_cons.1 ha with rfl | ha
        · have := List.all_eq_true.1 hl.1.2 c hc
          simp only [Bool.and_eq_true] at this
          exact this.1
        · exact ih _ hl.2 a ha c hc
    exact key _ _ h2 x (List.mem_of_getElem? hx) c (List.mem_of_getElem? hc)
  obtain ⟨k, n, a, o, t⟩ := c
  by_cases hk : k = 0
  · subst hk
    simp [Cell.ok, Cell.noP] at hok
    obtain ⟨rfl, ⟨rfl, rfl⟩, rfl⟩ := hok
    rfl
  · have h1 : (k == 0) = false := by simp [hk]
    show _ = (k == 0)
    rw [h1]
    apply beq_eq_false_iff_ne.2
    intro e
    exact hk (by rw [Cell.zero] at e; exact congrArg Cell.k e)

/-- Cells of the call's own, a reason, an error. -/
def RetOC (w : World) (l : List Cell) (why err : Int) (en : Ending) (w' : World) : Prop :=
  ∃ v, en = .returned (.tuple #[v, .int .u8 why, .int .i64 err]) ∧ Own w' w.heap.size 29 5 v l.length (l.flatMap Cell.row) ∧ Ext w w'

set_option maxHeartbeats 3200000 in
theorem run_eql_cells (x y : Cell) (w : World) : (binOp .eql 29 x.val y.val).run Try.prog w = .ok (.bool (decide (x = y))) w := by
  obtain ⟨k, n, a, o, t⟩ := x
  obtain ⟨k', n', a', o', t'⟩ := y
  unfold Cell.val
  go_simp
  by_cases h1 : k = k' <;> by_cases h2 : n = n' <;> by_cases h3 : a = a' <;> by_cases h4 : o = o' <;> by_cases h5 : t = t' <;> simp [h1, h2, h3, h4, h5]
theorem run_eql_zero (x : Cell) (w : World) : (binOp .eql 29 Cell.zero.val x.val).run Try.prog w = .ok (.bool (x == Cell.zero)) w := by
  have e : (x == Cell.zero) = decide (Cell.zero = x) := by
    rw [Bool.eq_iff_iff, beq_iff_eq, decide_eq_true_iff]
    exact eq_comm
  rw [run_eql_cells, e]

set_option maxHeartbeats 800000 in
theorem index_zero {l : List Cell} {v : Value} {w : World} (hl : Cls w v l) :
    Calls Try.prog 69 #[v, Cell.zero.val] w fun e w' => e = .returned (.int .i64 (ixM (l.findIdx? (· == Cell.zero)))) ∧ Ext w w' := by
  have hE0 := (Ext.refl w).alloc (.cells #[.int .u8 0, .int .i64 0, .int .i64 0, .int .i64 0, .int .i64 0] 29)
  have hL := Lib.hid (hl.ext hE0)
  obtain ⟨a, cp, rfl, hlc, hcm, -⟩ := hl.form
  unfold maxLen at hcm
  have hB := Box.new w 29 #[.int .u8 0, .int .i64 0, .int .i64 0, .int .i64 0, .int .i64 0]
  clear hl
  rw [show Cell.zero.val = .agg #[.int .u8 0, .int .i64 0, .int .i64 0, .int .i64 0, .int .i64 0] from rfl]
  go_enter Try.func69, Try.ntmps69
  go_wp2
  obtain ⟨w1, hw1⟩ : ∃ w1, w.alloc (.cells #[.int .u8 0, .int .i64 0, .int .i64 0, .int .i64 0, .int .i64 0] 29) = w1 := ⟨_, rfl⟩
  rw [hw1] at hE0 hL hB ⊢
  clear hw1
  go_loopw [8] (fun i wr => ∃ k : Nat, k ≤ l.length ∧ i = .int .i64 k ∧ Ext w1 wr ∧ Hid ((l.take k).any (· == Cell.zero) = false)) (fun i _ => l.length - (intOf i).toNat)
  case atStart => exact ⟨0, Nat.zero_le _, rfl, Ext.refl _, by simp [Hid]⟩
  case round =>
    obtain ⟨k, hk, rfl, hE, hN⟩ := hrel
    have z0 : wr.cell? ⟨w.heap.size, 0, none⟩ = some (.int .u8 0) := (hB.ext hE).cell 0
    have z1 : wr.cell? ⟨w.heap.size, 1, none⟩ = some (.int .i64 0) := (hB.ext hE).cell 1
    have z2 : wr.cell? ⟨w.heap.size, 2, none⟩ = some (.int .i64 0) := (hB.ext hE).cell 2
    have z3 : wr.cell? ⟨w.heap.size, 3, none⟩ = some (.int .i64 0) := (hB.ext hE).cell 3
    have z4 : wr.cell? ⟨w.heap.size, 4, none⟩ = some (.int .i64 0) := (hB.ext hE).cell 4
    by_cases hlt : k < l.length
    · obtain ⟨x, hx⟩ : ∃ x, l[k]? = some x := ⟨l[k], by simp [hlt]⟩
      obtain ⟨b, off, rfl, hbb, c0, c1, c2, c3, c4⟩ := (hL.out.ext hE).cell hx
      have hX := Lib.hid hx
      clear hx
      have hi0 : (0 : Int) ≤ (k : Int) := by omega
      have hi1 : (k : Int) < (l.length : Int) := by omega
      have hn := run_eql_zero x
      unfold Cell.val Cell.zero at hn
      cases hpx : x == Cell.zero
      all_goals
        have hP := Lib.hid hpx
        rw [show (x == ({ k := 0, n := 0, a := 0, o := 0, t := 0 } : Cell)) = _ from hpx] at hn
        clear hpx
        go_wp2
        go_quiet (fail)
        go_wp2
      · go_roundw
        case rel => exact ⟨k + 1, by omega, by go_num, hE.drewN _, any_take_succ'' hN.out hX.out hP.out⟩
        case measure => simp [intOf]; omega
      · go_ret
        refine ⟨?_, hE0.trans (hE.drewN _)⟩
        have : l.findIdx? (· == Cell.zero) = some k := by
          rw [List.findIdx?_eq_some_iff_getElem]
          obtain ⟨hk, rfl⟩ := List.getElem?_eq_some_iff.1 hX.out
          refine ⟨hk, hP.out, fun j hj => ?_⟩
          have h := hN.out
          simp only [List.any_eq_false] at h
          have := h l[j] (by rw [List.mem_iff_getElem?]; exact ⟨j, by rw [List.getElem?_take, if_pos hj]; simp⟩)
          simpa using this
        rw [this]; rfl
    · have hkl : k = l.length := by omega
      subst hkl
      have hN' := hN.out
      rw [List.take_length] at hN'
      have hg : Hid (l.findIdx? (· == Cell.zero) = none) := Hid.mk (by rw [List.findIdx?_eq_none_iff]; simpa [List.any_eq_false] using hN')
      clear hN' z0 z1 z2 z3 z4
      go_wp2
      go_ret
      exact ⟨by rw [hg.out]; rfl, hE0.trans hE⟩

theorem ixM_any {l : List Cell} : decide (0 ≤ ixM (l.findIdx? (· == Cell.zero))) = l.any (· == Cell.zero) := by
  cases h : l.findIdx? (· == Cell.zero) with
  | none =>
    have h' : l.any (· == Cell.zero) = false := by rw [List.findIdx?_eq_none_iff] at h; simpa [List.any_eq_false] using h
    rw [h']; simp [ixM]
  | some i =>
    have h' : l.any (· == Cell.zero) = true := by
      rw [List.findIdx?_eq_some_iff_getElem] at h
      obtain ⟨hi, hp, _⟩ := h
      rw [List.any_eq_true]
      exact ⟨l[i], List.getElem_mem _, hp⟩
    rw [h']; simp [ixM]

set_option maxHeartbeats 400000 in
theorem contains_zero {l : List Cell} {v : Value} {w : World} (hl : Cls w v l) :
    Calls Try.prog 30 #[v, Cell.zero.val] w fun e w' => e = .returned (.bool (l.any (· == Cell.zero))) ∧ Ext w w' := by
  have hE0 := (Ext.refl w).alloc (.cells #[.int .u8 0, .int .i64 0, .int .i64 0, .int .i64 0, .int .i64 0] 29)
  have hC := Lib.hid (index_zero (hl.ext hE0))
  have hA := Lib.hid (ixM_any (l := l))
  obtain ⟨a, cp, rfl, -⟩ := hl.form
  unfold Cell.val Cell.zero at *
  clear hl
  go_enter Try.func30, Try.ntmps30
  go_wp2_with fail
  refine hC.out.mono ?_
  rintro e w' ⟨rfl, hE'⟩
  go_wp2
  go_ret
  exact ⟨by rw [← hA.out]; rfl, hE0.trans hE'⟩

/-- The cells that find hands out read as the range. -/
theorem findV_read {m : Mem} {vs : List Value} {w : World} (p : Ptr) (n : Int) (hin : All2 (fun s a => Cls w s a.cells) vs m.al) : Cls w (findV m vs p n) (rangeR m p n) := by
  unfold findV rangeR
  cases h : (askR m p n).1 with
  | none => exact Cls.nil w
  | some i =>
    obtain ⟨-, -, -, -, h1, h2, -, x, hx, h3, h4⟩ := askR_inv (e := (askR m p n).2) (by rw [← h])
    obtain ⟨s, hs, hc⟩ := hin.get hx
    have hg : m.al.getD i Alloc.zero = x := by rw [List.getD_eq_getElem?_getD, hx]; rfl
    have hv : vs.getD i (.slice none 0 0) = s := by rw [List.getD_eq_getElem?_getD, hs]; rfl
    show Cls w (if (m.al.getD i Alloc.zero).live = true then cutV (vs.getD i (.slice none 0 0)) p.o.toNat n.toNat else _) (if (m.al.getD i Alloc.zero).live = true then cutOf (m.al.getD i Alloc.zero) p.o.toNat n.toNat else [])
    rw [hg, hv]
    cases x.live
    · exact Cls.nil w
    · exact hc.cut _ _ (by omega)

theorem rangeR_small {m : Mem} {p : Ptr} {n : Int} : (rangeR m p n).length ≤ 2 := by
  unfold rangeR
  cases h : (askR m p n).1 with
  | none => simp
  | some i =>
    obtain ⟨-, -, -, -, h1, h2, -, x, hx, h3, h4⟩ := askR_inv (e := (askR m p n).2) (by rw [← h])
    show (if (m.al.getD i Alloc.zero).live = true then cutOf (m.al.getD i Alloc.zero) p.o.toNat n.toNat else []).length ≤ 2
    split
    · rw [cutOf, List.length_take]; omega
    · simp

set_option maxRecDepth 100000 in
set_option maxHeartbeats 1600000 in
theorem cells_LoadAll {m : Mem} {s : Value} {w : World} (p : Ptr) (n : Int) (hl : Als w s m.al) (hn : i64B m.next) :
    Calls Try.prog 8 #[.agg #[s, .int .i64 m.next], p.val, .int .i64 n] w (RetOC w (loadR m p n).1 (loadR m p n).2.1 (loadR m p n).2.2) := by
  obtain ⟨vs, hin, hout⟩ := hl
  have hE0 := ((Ext.refl w).alloc (.cells #[s, .int .i64 m.next] 24)).alloc (.cells #[.int .i64 p.a, .int .i64 p.o, .int .i64 p.t] 27)
  have hin0 : All2 (fun u a => Cls ((w.alloc (.cells #[s, .int .i64 m.next] 24)).alloc (.cells #[.int .i64 p.a, .int .i64 p.o, .int .i64 p.t] 27)) u a.cells) vs m.al := hin.mono fun _ _ h => Cls.ext h hE0
  have hC := Lib.hid (cells_find p n hin0 (hout.ext hE0) hn)
  have hR := Lib.hid (findV_read p n hin0)
  obtain ⟨a, cp, rfl, -⟩ := hout.slice_form
  obtain ⟨fv, hfv⟩ : ∃ fv, findV m vs p n = fv := ⟨_, rfl⟩
  rw [hfv] at hC hR
  obtain ⟨err, herr⟩ : ∃ err, (askR m p n).2 = err := ⟨_, rfl⟩
  rw [herr] at hC
  have hsm := Lib.hid (rangeR_small (m := m) (p := p) (n := n))
  clear hfv hin hin0 hout
  by_cases he : err = 0
  · subst he
    by_cases hr : rangeR m p n = []
    · have hres := Lib.hid (loadR_gone herr hr)
      have hR0 := hR.out
      rw [hr] at hR0
      obtain ⟨ra, rc, rfl, -⟩ := hR0.form
      clear hR hR0 hr herr
      unfold Ptr.val at *
      go_enter Try.func8, Try.ntmps8
      go_wp2_with fail
      refine hC.out.mono ?_
      rintro e w1 ⟨rfl, hE1⟩
      dsimp only [List.length_nil]
      go_wp2
      go_ret3
      rw [hres.out]
      exact ⟨_, rfl, Own.nil _ _ _ _, hE0.trans hE1⟩
    · have hlen : 0 < (rangeR m p n).length := List.length_pos_iff.2 hr
      have hld : ((rangeR m p n).length == 0) = false := by simp; exact hr
      obtain ⟨ra, rc, hre, -⟩ := hR.out.form
      have hld' : (((rangeR m p n).length : Int) == 0) = false := by simp; exact hr
      subst hre
      cases hz : (rangeR m p n).any (· == Cell.zero)
      · have hres := Lib.hid (loadR_yes herr hr hz)
        have hz' := Lib.hid hz
        obtain ⟨L, hL⟩ : ∃ L, rangeR m p n = L := ⟨_, rfl⟩
        rw [hL] at hR hz' hsm hres hC hlen hld hld'
        clear hr herr hz hL
        unfold Ptr.val at *
        go_enter Try.func8, Try.ntmps8
        go_wp2_with fail
        refine hC.out.mono ?_
        rintro e w1 ⟨rfl, hE1⟩
        go_wp2_with fail
        refine (contains_zero (hR.out.ext hE1)).mono ?_
        rintro e w2 ⟨rfl, hE2⟩
        rw [hz'.out]
        go_wp2_with fail
        refine (clone_Cells ((hR.out.ext hE1).ext hE2) (Cell.one L) (Nat.le_trans hsm.out (by omega))).mono ?_
        rintro e w3 ⟨v, rfl, hO, hE3⟩
        have hF := (hE0.trans hE1).trans hE2
        obtain ⟨va, vc, rfl, -⟩ := hO.sl.slice_form
        go_wp2
        go_ret3
        rw [hres.out]
        exact ⟨_, rfl, hO.mono hF.size, hF.trans hE3⟩
      · have hres := Lib.hid (loadR_unset herr hr hz)
        have hz' := Lib.hid hz
        obtain ⟨L, hL⟩ : ∃ L, rangeR m p n = L := ⟨_, rfl⟩
        rw [hL] at hR hz' hsm hC hlen hld hld'
        clear hr herr hz hL
        unfold Ptr.val at *
        go_enter Try.func8, Try.ntmps8
        go_wp2_with fail
        refine hC.out.mono ?_
        rintro e w1 ⟨rfl, hE1⟩
        go_wp2_with fail
        refine (contains_zero (hR.out.ext hE1)).mono ?_
        rintro e w2 ⟨rfl, hE2⟩
        rw [hz'.out]
        go_wp2
        go_ret3
        rw [hres.out]
        exact ⟨_, rfl, Own.nil _ _ _ _, (hE0.trans hE1).trans hE2⟩
  · have hres := Lib.hid (loadR_err herr he)
    have q : (err != 0) = true := by simp [he]
    have q' : (err == 0) = false := by simp [he]
    obtain ⟨ra, rc, hre, -⟩ := hR.out.form
    subst hre
    clear hR he herr
    unfold Ptr.val at *
    go_enter Try.func8, Try.ntmps8
    go_wp2_with fail
    refine hC.out.mono ?_
    rintro e w1 ⟨rfl, hE1⟩
    go_wp2
    go_ret3
    rw [hres.out]
    exact ⟨_, rfl, Own.nil _ _ _ _, hE0.trans hE1⟩

end Go.Proofs.Ytiikdpfbbcnplaa
