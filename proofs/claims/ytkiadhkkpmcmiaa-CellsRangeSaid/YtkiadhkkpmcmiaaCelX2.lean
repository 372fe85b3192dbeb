/- Contracts: Asked of the reference of layer 27. -/
import Derived.Test.YtkiadhkkpmcmiaaCelX1
namespace Go.Proofs.Ytkiadhkkpmcmiaa
set_option maxRecDepth 100000
open Go.RowKit

/-- A number and an error. -/
def RetII (w : World) (n err : Int) (en : Ending) (w' : World) : Prop := en = .returned (.tuple #[.int .i64 n, .int .i64 err]) ∧ Ext w w'

set_option maxRecDepth 100000 in
set_option maxHeartbeats 3200000 in
theorem ref27_Asked {m : Mem} {s : Value} {w : World} (p : Ptr) (n : Int) (hl : Als w s m.al) (hn : i64B m.next) :
    Calls Try.prog 63 #[.agg #[s, .int .i64 m.next], p.val, .int .i64 n] w (RetII w (ixM (askR m p n).1) (askR m p n).2) := by
  obtain ⟨pa, po, pt⟩ := p
  have hE0 := ((Ext.refl w).alloc (.cells #[s, .int .i64 m.next] 41)).alloc (.cells #[.int .i64 pa, .int .i64 po, .int .i64 pt] 43)
  obtain ⟨a, cp, rfl, hlc, hcm, -⟩ := hl.form
  unfold maxLen at hcm
  have bM := (Box.new w 41 #[.slice a m.al.length cp, .int .i64 m.next]).ext ((Ext.refl _).alloc (.cells #[.int .i64 pa, .int .i64 po, .int .i64 pt] 43))
  have bP := Box.new (w.alloc (.cells #[.slice a m.al.length cp, .int .i64 m.next] 41)) 43 #[.int .i64 pa, .int .i64 po, .int .i64 pt]
  rw [World.size_alloc] at bP
  have hCk := Lib.hid (ref26_Check (hl.ext hE0) hn)
  have hL := Lib.hid hl
  unfold Ptr.val
  cases hok : m.ok
  · have hce : Hid (memErr m.al m.next = 8) := Hid.mk (memErr_bad hok)
    have hres : Hid (ixM (askR m ⟨pa, po, pt⟩ n).1 = -1 ∧ (askR m ⟨pa, po, pt⟩ n).2 = 8) := Hid.mk (by rw [askR_bad hok]; exact ⟨rfl, rfl⟩)
    clear hok hl
    go_enter Try.func63, Try.ntmps63
    go_wp2_with fail
    refine hCk.out.mono ?_
    rintro e w1 ⟨rfl, hE1⟩
    rw [hce.out]
    go_wp2
    go_ret2
    rw [hres.out.1, hres.out.2]
    exact ⟨rfl, hE0.trans hE1⟩
  · have hce : Hid (memErr m.al m.next = 0) := Hid.mk (memErr_ok hok)
    by_cases harg : pa < 0 ∨ m.next ≤ pa ∨ n < 1 ∨ 2 < n
    · have hres : Hid (ixM (askR m ⟨pa, po, pt⟩ n).1 = -1 ∧ (askR m ⟨pa, po, pt⟩ n).2 = 2) := Hid.mk (by rw [askR_arg (p := ⟨pa, po, pt⟩) hok harg]; exact ⟨rfl, rfl⟩)
      have q : decide (pa < 0) = true ∨ decide (pa < 0) = false ∧ decide (m.next ≤ pa) = true ∨ decide (pa < 0) = false ∧ decide (m.next ≤ pa) = false ∧ decide (n < 1) = true ∨ decide (pa < 0) = false ∧ decide (m.next ≤ pa) = false ∧ decide (n < 1) = false ∧ decide (2 < n) = true := by
        by_cases h1 : pa < 0
        · exact .inl (decide_eq_true h1)
        · by_cases h2 : m.next ≤ pa
          · exact .inr (.inl ⟨decide_eq_false h1, decide_eq_true h2⟩)
          · by_cases h3 : n < 1
            · exact .inr (.inr (.inl ⟨decide_eq_false h1, decide_eq_false h2, decide_eq_true h3⟩))
            · exact .inr (.inr (.inr ⟨decide_eq_false h1, decide_eq_false h2, decide_eq_false h3, decide_eq_true (by omega)⟩))
      clear hok hl harg
      rcases q with q1 | ⟨q1, q2⟩ | ⟨q1, q2, q3⟩ | ⟨q1, q2, q3, q4⟩
      all_goals
        go_enter Try.func63, Try.ntmps63
        go_wp2_with fail
        refine hCk.out.mono ?_
        rintro e w1 ⟨rfl, hE1⟩
        rw [hce.out]
        have m1 : w1.cell? ⟨w.heap.size, 1, none⟩ = some (.int .i64 m.next) := (bM.ext hE1).cell 1
        have p0 : w1.cell? ⟨w.heap.size + 1, 0, none⟩ = some (.int .i64 pa) := (bP.ext hE1).cell 0
        go_wp2
        go_ret2
        rw [hres.out.1, hres.out.2]
        exact ⟨rfl, hE0.trans hE1⟩
    · have q1 : decide (pa < 0) = false := decide_eq_false (by omega)
      have q2 : decide (m.next ≤ pa) = false := decide_eq_false (by omega)
      have q3 : decide (n < 1) = false := decide_eq_false (by omega)
      have q4 : decide (2 < n) = false := decide_eq_false (by omega)
      cases hat : atNum m.al pa with
      | none =>
        have hix : Hid (idxM m.al pa = -1) := Hid.mk (idxM_none hat)
        have hres : Hid (ixM (askR m ⟨pa, po, pt⟩ n).1 = -1 ∧ (askR m ⟨pa, po, pt⟩ n).2 = 0) := Hid.mk (by rw [askR_none (p := ⟨pa, po, pt⟩) hok harg hat]; exact ⟨rfl, rfl⟩)
        clear hok hl harg hat
        go_enter Try.func63, Try.ntmps63
        go_wp2_with fail
        refine hCk.out.mono ?_
        rintro e w1 ⟨rfl, hE1⟩
        rw [hce.out]
        have hF1 := hE0.trans hE1
        have m0 : w1.cell? ⟨w.heap.size, 0, none⟩ = some (.slice a m.al.length cp) := (bM.ext hE1).cell 0
        have m1 : w1.cell? ⟨w.heap.size, 1, none⟩ = some (.int .i64 m.next) := (bM.ext hE1).cell 1
        have p0 : w1.cell? ⟨w.heap.size + 1, 0, none⟩ = some (.int .i64 pa) := (bP.ext hE1).cell 0
        go_wp2_with fail
        refine (ref26_At pa (hL.out.ext hF1)).mono ?_
        rintro e w2 ⟨rfl, hE2⟩
        rw [hix.out]
        go_wp2
        go_ret2
        rw [hres.out.1, hres.out.2]
        exact ⟨rfl, hF1.trans hE2⟩
      | some i =>
        have hix : Hid (idxM m.al pa = (i : Int)) := Hid.mk (idxM_some hat)
        have hil := (atNum_lt hat).1
        obtain ⟨x, hx⟩ : ∃ x, m.al[i]? = some x := ⟨m.al[i], by simp [hil]⟩
        have hi2 : decide ((i : Int) < 0) = false := decide_eq_false (by omega)
        have hi0 : (0 : Int) ≤ (i : Int) := by omega
        have hi1 : (i : Int) < (m.al.length : Int) := by omega
        obtain ⟨b, off, sv, rfl, hbb, d0, d1, d2, hcl⟩ := hl.cell hx
        obtain ⟨ca, ccp, rfl, hcl1, hcl2, -⟩ := hcl.form
        unfold maxLen at hcl2
        have hx2 : x.cells.length ≤ 1000000 := (small_of_ok hok).2 x (List.mem_of_getElem? hx)
        have hD := Lib.hid d2
        clear d0 d1 d2
        by_cases ho : po < 0 ∨ (x.cells.length : Int) - n < po
        · have hres : Hid (ixM (askR m ⟨pa, po, pt⟩ n).1 = -1 ∧ (askR m ⟨pa, po, pt⟩ n).2 = 6) := Hid.mk (by rw [askR_off (p := ⟨pa, po, pt⟩) hok harg hat hx ho]; exact ⟨rfl, rfl⟩)
          have q5 : decide (po < 0) = true ∨ decide (po < 0) = false ∧ decide ((x.cells.length : Int) ≤ po) = true ∨ decide (po < 0) = false ∧ decide ((x.cells.length : Int) ≤ po) = false ∧ (decide ((x.cells.length : Int) - po < n) = true ∧ 0 ≤ po ∧ po < (x.cells.length : Int)) := by
            by_cases h : po < 0
            · exact .inl (decide_eq_true h)
            · by_cases h2 : (x.cells.length : Int) ≤ po
              · exact .inr (.inl ⟨decide_eq_false h, decide_eq_true h2⟩)
              · exact .inr (.inr ⟨decide_eq_false h, decide_eq_false h2, decide_eq_true (by omega), by omega, by omega⟩)
          clear hok hl harg hat hx hcl ho
          rcases q5 with q5 | ⟨q5, q6⟩ | ⟨q5, q6, q7, q8, q9⟩
          all_goals
            go_enter Try.func63, Try.ntmps63
            go_wp2_with fail
            refine hCk.out.mono ?_
            rintro e w1 ⟨rfl, hE1⟩
            rw [hce.out]
            have hF1 := hE0.trans hE1
            have m0 : w1.cell? ⟨w.heap.size, 0, none⟩ = some (.slice (some ⟨b, off, none⟩) m.al.length cp) := (bM.ext hE1).cell 0
            have m1 : w1.cell? ⟨w.heap.size, 1, none⟩ = some (.int .i64 m.next) := (bM.ext hE1).cell 1
            have p0 : w1.cell? ⟨w.heap.size + 1, 0, none⟩ = some (.int .i64 pa) := (bP.ext hE1).cell 0
            go_wp2_with fail
            refine (ref26_At pa (hL.out.ext hF1)).mono ?_
            rintro e w2 ⟨rfl, hE2⟩
            rw [hix.out]
            have hF2 := hF1.trans hE2
            have n0 := hE2.cell m0
            have o1 : w2.cell? ⟨w.heap.size + 1, 1, none⟩ = some (.int .i64 po) := ((bP.ext hE1).ext hE2).cell 1
            have e2 := hF2.cell hD.out
            clear m0 m1 p0
            go_wp2
            go_ret2
            rw [hres.out.1, hres.out.2]
            exact ⟨rfl, hF2⟩
        · have q5 : decide (po < 0) = false := decide_eq_false (by omega)
          have q6 : decide ((x.cells.length : Int) ≤ po) = false := decide_eq_false (by omega)
          have q7 : decide ((x.cells.length : Int) - po < n) = false := decide_eq_false (by omega)
          have hres : Hid (ixM (askR m ⟨pa, po, pt⟩ n).1 = (i : Int) ∧ (askR m ⟨pa, po, pt⟩ n).2 = 0) := Hid.mk (by rw [askR_yes (p := ⟨pa, po, pt⟩) hok harg hat hx ho]; exact ⟨rfl, rfl⟩)
          clear hok hl harg hat hx hcl
          have hpo : 0 ≤ po ∧ po < (x.cells.length : Int) := by
            have := of_decide_eq_false q5; have := of_decide_eq_false q6; omega
          clear ho
          go_enter Try.func63, Try.ntmps63
          go_wp2_with fail
          refine hCk.out.mono ?_
          rintro e w1 ⟨rfl, hE1⟩
          rw [hce.out]
          have hF1 := hE0.trans hE1
          have m0 : w1.cell? ⟨w.heap.size, 0, none⟩ = some (.slice (some ⟨b, off, none⟩) m.al.length cp) := (bM.ext hE1).cell 0
          have m1 : w1.cell? ⟨w.heap.size, 1, none⟩ = some (.int .i64 m.next) := (bM.ext hE1).cell 1
          have p0 : w1.cell? ⟨w.heap.size + 1, 0, none⟩ = some (.int .i64 pa) := (bP.ext hE1).cell 0
          go_wp2_with fail
          refine (ref26_At pa (hL.out.ext hF1)).mono ?_
          rintro e w2 ⟨rfl, hE2⟩
          rw [hix.out]
          have hF2 := hF1.trans hE2
          have n0 := hE2.cell m0
          have o1 : w2.cell? ⟨w.heap.size + 1, 1, none⟩ = some (.int .i64 po) := ((bP.ext hE1).ext hE2).cell 1
          have e2 := hF2.cell hD.out
          clear m0 m1 p0
          go_wp2
          go_ret2
          rw [hres.out.1, hres.out.2]
          exact ⟨rfl, hF2⟩

end Go.Proofs.Ytkiadhkkpmcmiaa
