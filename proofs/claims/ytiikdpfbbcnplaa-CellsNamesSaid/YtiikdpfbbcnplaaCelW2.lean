/- Contracts: the check of a memory, the program's and the reference's. -/
import Derived.Test.YtiikdpfbbcnplaaCelW1
namespace Go.Proofs.Ytiikdpfbbcnplaa
set_option maxRecDepth 100000
open Go.RowKit

theorem all_take_succ' {α : Type} {p : α → Bool} {l : List α} {k : Nat} {x : α} (h : (l.take k).all p = true) (hx : l[k]? = some x) (hp : p x = true) : (l.take (k + 1)).all p = true := by
  rw [List.take_add_one, hx]
  simp [List.all_append, h, hp]
theorem all_miss' {α : Type} {p : α → Bool} {l : List α} {k : Nat} {x : α} (hx : l[k]? = some x) (hp : p x = false) : l.all p = false := by
  rw [List.all_eq_false]
  exact ⟨x, List.mem_of_getElem? hx, by simp [hp]⟩
def cellIn (live : Bool) (c : Cell) : Bool := c.ok && (live || c.k == 0)
theorem okAl_step {next least : Int} {l : List Alloc} {k : Nat} {x : Alloc} (hx : l[k]? = some x) (h1 : least ≤ x.num) (h2 : x.num < next) (h3 : 1 ≤ x.cells.length) (h4 : x.cells.length ≤ 2) (h5 : x.cells.all (cellIn x.live) = true) :
    okAl next least (l.drop k) = okAl next (x.num + 1) (l.drop (k + 1)) := by
  have h5' : x.cells.all (fun c => c.ok && (x.live || c.k == 0)) = true := h5
  rw [okAl_drop hx, h5']
  simp [h1, h2, h3, h4]
theorem okAl_stop {next least : Int} {l : List Alloc} {k : Nat} {x : Alloc} (hx : l[k]? = some x) (h : ¬ (least ≤ x.num ∧ x.num < next ∧ 1 ≤ x.cells.length ∧ x.cells.length ≤ 2 ∧ x.cells.all (cellIn x.live) = true)) : okAl next least (l.drop k) = false := by
  rw [okAl_drop hx, ← Bool.not_eq_true]
  intro e
  simp only [Bool.and_eq_true, decide_eq_true_eq] at e
  exact h ⟨e.1.1.1.1.1, e.1.1.1.1.2, e.1.1.1.2, e.1.1.2, e.1.2⟩
theorem memErr_ok {l : List Alloc} {next : Int} (h : okM l next = true) : memErr l next = 0 := by simp [memErr, h]
theorem memErr_bad {l : List Alloc} {next : Int} (h : okM l next = false) : memErr l next = 8 := by simp [memErr, h]

set_option maxHeartbeats 1600000 in
theorem allocs_Check {l : List Alloc} {next : Int} {s : Value} {w : World} (hl : Als w s l) (hn : i64B next) :
    Calls Try.prog 46 #[.agg #[s, .int .i64 next]] w fun e w' => e = .returned (.int .i64 (memErr l next)) ∧ Ext w w' := by
  have hE0 := (Ext.refl w).alloc (.cells #[s, .int .i64 next] 24)
  obtain ⟨a, cp, rfl, hlc, hcm, -⟩ := hl.form
  unfold maxLen at hcm
  obtain ⟨hn1, hn2⟩ := hn
  by_cases h4 : l.length ≤ 400
  · have hd : decide ((400 : Int) < (l.length : Int)) = false := decide_eq_false (by omega)
    cases hb : inB next
    · have hb' := Lib.hid hb
      go_enter Try.func46, Try.ntmps46
      go_wp2_with (go_at_call 70; refine (allocs_in _ _).mono ?_; rintro e w' ⟨rfl, rfl⟩)
      go_ret
      exact ⟨by rw [memErr_bad (by simp [okM, hb'.out])]; rfl, hE0⟩
    · have hb' := Lib.hid hb
      have hbnd : 0 ≤ next ∧ next ≤ 1000000 := by simpa [inB] using hb
      have c0 : (w.alloc (.cells #[.slice a l.length cp, .int .i64 next] 24)).cell? ⟨w.heap.size, 0, none⟩ = some (.slice a l.length cp) := by simp
      have c1 : (w.alloc (.cells #[.slice a l.length cp, .int .i64 next] 24)).cell? ⟨w.heap.size, 1, none⟩ = some (.int .i64 next) := by simp
      go_enter Try.func46, Try.ntmps46
      go_wp2_with (go_at_call 70; refine (allocs_in _ _).mono ?_; rintro e w' ⟨rfl, rfl⟩)
      obtain ⟨w1, hw1⟩ : ∃ w1, w.alloc (.cells #[.slice a l.length cp, .int .i64 next] 24) = w1 := ⟨_, rfl⟩
      rw [hw1] at hE0 c0 c1 ⊢
      clear hw1
      go_loopw [3, 21] (fun lv iv wr => ∃ (k : Nat) (least : Int), k ≤ l.length ∧ iv = .int .i64 k ∧ lv = .int .i64 least ∧ (0 ≤ least ∧ least ≤ 1000000) ∧ Ext w1 wr ∧ Hid (okAl next 0 l = okAl next least (l.drop k))) (fun _ iv _ => l.length - (intOf iv).toNat)
      case atStart => exact ⟨0, 0, Nat.zero_le _, rfl, rfl, by omega, Ext.refl _, by simp [Hid]⟩
      case round =>
        obtain ⟨k, least, hk, rfl, rfl, hleast, hE, hN⟩ := hrel
        have hF := hE0.trans hE
        by_cases hlt : k < l.length
        · obtain ⟨x, hx⟩ : ∃ x, l[k]? = some x := ⟨l[k], by simp [hlt]⟩
          obtain ⟨b, off, sv, rfl, hbb, d0, d1, d2, hcl⟩ := (hl.ext hF).cell hx
          have hX := Lib.hid hx
          obtain ⟨ca, ccp, rfl, hclc, hccm, -⟩ := hcl.form
          unfold maxLen at hccm
          have hCl := Lib.hid hcl
          have e0 := hE.cell c0
          have e1 := hE.cell c1
          have hblk : w.heap.size < wr.heap.size := World.block_lt_of_cell? wr _ e0
          clear hx hcl
          by_cases hg : least ≤ x.num ∧ x.num < next ∧ 1 ≤ x.cells.length ∧ x.cells.length ≤ 2
          · have g0 : decide (x.num < least) = false := decide_eq_false (by omega)
            have g1 : decide (next ≤ x.num) = false := decide_eq_false (by omega)
            have g2 : ((x.cells.length : Int) == 0) = false := beq_eq_false_iff_ne.2 (by omega)
            have g3 : decide ((2 : Int) < (x.cells.length : Int)) = false := decide_eq_false (by omega)
            have hx1 : 0 ≤ x.num ∧ x.num ≤ 1000000 := by omega
            have hx2 : Hid (0 ≤ x.num + 1 ∧ x.num + 1 ≤ 1000000) := Hid.mk (by omega)
            have hG := Lib.hid hg
            clear hg
            have hF2 := hF.trans ((Ext.refl wr).alloc (.cells #[.int .i64 x.num, .bool x.live, .slice ca x.cells.length ccp] 70))
            have hE2 := hE.trans ((Ext.refl wr).alloc (.cells #[.int .i64 x.num, .bool x.live, .slice ca x.cells.length ccp] 70))
            have b0 : (wr.alloc (.cells #[.int .i64 x.num, .bool x.live, .slice ca x.cells.length ccp] 70)).cell? ⟨wr.heap.size, 0, none⟩ = some (.int .i64 x.num) := by simp
            have b1 : (wr.alloc (.cells #[.int .i64 x.num, .bool x.live, .slice ca x.cells.length ccp] 70)).cell? ⟨wr.heap.size, 1, none⟩ = some (.bool x.live) := by simp
            replace hCl := Lib.hid (hCl.out.ext ((Ext.refl wr).alloc (.cells #[.int .i64 x.num, .bool x.live, .slice ca x.cells.length ccp] 70)))
            go_wp2
            obtain ⟨w2, hw2⟩ : ∃ w2, wr.alloc (.cells #[.int .i64 x.num, .bool x.live, .slice ca x.cells.length ccp] 70) = w2 := ⟨_, rfl⟩
            rw [hw2] at hF2 hE2 b0 b1 hCl ⊢
            clear hw2
            go_loopw [54] (fun jv wq => ∃ j : Nat, j ≤ x.cells.length ∧ jv = .int .i64 j ∧ Ext w2 wq ∧ Hid ((x.cells.take j).all (cellIn x.live) = true)) (fun jv _ => x.cells.length - (intOf jv).toNat)
            case atStart => exact ⟨0, Nat.zero_le _, rfl, Ext.refl _, by simp [Hid]⟩
            case round =>
              obtain ⟨j, hj, rfl, hE3, hA⟩ := hrel
              have hF3 := hF2.trans hE3
              replace b0 := hE3.cell b0
              replace b1 := hE3.cell b1
              replace hE2 := hE2.trans hE3
              have hblk2 := World.block_lt_of_cell? _ _ b0
              by_cases hjl : j < x.cells.length
              · obtain ⟨c, hc⟩ : ∃ c, x.cells[j]? = some c := ⟨x.cells[j], by simp [hjl]⟩
                obtain ⟨cb, coff, rfl, hcb, f0, f1, f2, f3, f4⟩ := (hCl.out.ext hE3).cell hc
                have hXC := Lib.hid hc
                clear hc
                have hCk := Lib.hid (allocs_CheckCell c)
                unfold Cell.val at hCk
                have z0 : (wr.alloc (.cells #[.int .u8 c.k, .int .i64 c.n, .int .i64 c.a, .int .i64 c.o, .int .i64 c.t] 29)).cell? ⟨wr.heap.size, 0, none⟩ = some (.int .u8 c.k) := by simp
                have hEa := (Ext.refl wr).alloc (.cells #[.int .u8 c.k, .int .i64 c.n, .int .i64 c.a, .int .i64 c.o, .int .i64 c.t] 29)
                replace b1 := hEa.cell b1
                have hZ := Lib.hid z0
                have hB := Lib.hid b1
                clear z0 b1
                cases hok : c.ok
                · have hce : Hid (cellErr c = 8) := Hid.mk (by simp [cellErr, hok])
                  have hbad := Lib.hid (okAl_stop hX.out (next := next) (least := least) (fun h => by have := h.2.2.2.2; rw [all_miss' hXC.out (by simp [cellIn, hok])] at this; cases this))
                  clear hok
                  go_wp2_with fail
                  refine (hCk.out _).mono ?_
                  rintro e w4 ⟨rfl, hE4⟩
                  rw [hce.out]
                  go_wp2
                  go_ret
                  exact ⟨by rw [memErr_bad (by simp [okM, hN.out, hbad.out])]; rfl, (hF3.trans hEa).trans hE4⟩
                · have hce : Hid (cellErr c = 0) := Hid.mk (by simp [cellErr, hok])
                  cases hlv : x.live
                  · by_cases hk0 : c.k = 0
                    · have hk0' : (c.k != 0) = false := by simp [hk0]
                      have hA2 := Lib.hid (all_take_succ' hA.out hXC.out (by simp [cellIn, hok, hk0]))
                      have hlv' := Lib.hid hlv
                      clear hok hk0 hlv
                      go_wp2_with fail
                      refine (hCk.out _).mono ?_
                      rintro e w4 ⟨rfl, hE4⟩
                      rw [hce.out]
                      have z0 := hE4.cell hZ.out
                      have b1 := hE4.cell hB.out
                      rw [hlv'.out] at b1
                      go_wp2
                      go_roundw
                      case rel => exact ⟨j + 1, by omega, by go_num, (hE3.trans hEa).trans hE4, by have h := hA2.out; rw [hlv'.out] at h; exact h⟩
                      case measure => simp [intOf]; omega
                    · have hk0' : (c.k != 0) = true := by simp [hk0]
                      have hbad := Lib.hid (okAl_stop hX.out (next := next) (least := least) (fun h => by have := h.2.2.2.2; rw [all_miss' hXC.out (by simp [cellIn, hok, hlv, hk0])] at this; cases this))
                      have hlv' := Lib.hid hlv
                      clear hok hk0 hlv
                      go_wp2_with fail
                      refine (hCk.out _).mono ?_
                      rintro e w4 ⟨rfl, hE4⟩
                      rw [hce.out]
                      have z0 := hE4.cell hZ.out
                      have b1 := hE4.cell hB.out
                      rw [hlv'.out] at b1
                      go_wp2
                      go_ret
                      exact ⟨by rw [memErr_bad (by simp [okM, hN.out, hbad.out])]; rfl, (hF3.trans hEa).trans hE4⟩
                  · have hA2 := Lib.hid (all_take_succ' hA.out hXC.out (by simp [cellIn, hok, hlv]))
                    have hlv' := Lib.hid hlv
                    clear hok hlv
                    go_wp2_with fail
                    refine (hCk.out _).mono ?_
                    rintro e w4 ⟨rfl, hE4⟩
                    rw [hce.out]
                    have b1 := hE4.cell hB.out
                    rw [hlv'.out] at b1
                    go_wp2
                    go_roundw
                    case rel => exact ⟨j + 1, by omega, by go_num, (hE3.trans hEa).trans hE4, by have h := hA2.out; rw [hlv'.out] at h; exact h⟩
                    case measure => simp [intOf]; omega
              · have hje : j = x.cells.length := by omega
                subst hje
                have hA' := hA.out
                rw [List.take_length] at hA'
                have hG' := hG.out
                have hst := Lib.hid (hN.out.trans (okAl_step hX.out hG'.1 hG'.2.1 hG'.2.2.1 hG'.2.2.2 hA'))
                clear hA' hG'
                go_wp2
                go_roundw
                case rel => exact ⟨k + 1, x.num + 1, by omega, by go_num, rfl, hx2.out, hE2, hst.out⟩
                case measure => simp [intOf]; omega
          · have hbad := Lib.hid (okAl_stop hX.out (next := next) (least := least) (fun h => hg ⟨h.1, h.2.1, h.2.2.1, h.2.2.2.1⟩))
            by_cases q0 : x.num < least
            · have q0' : decide (x.num < least) = true := decide_eq_true q0
              go_wp2
              go_ret
              exact ⟨by rw [memErr_bad (by simp [okM, hN.out, hbad.out])]; rfl, hF.trans ((Ext.refl wr).alloc _)⟩
            · have q0' : decide (x.num < least) = false := decide_eq_false q0
              by_cases q1 : next ≤ x.num
              · have q1' : decide (next ≤ x.num) = true := decide_eq_true q1
                go_wp2
                go_ret
                exact ⟨by rw [memErr_bad (by simp [okM, hN.out, hbad.out])]; rfl, hF.trans ((Ext.refl wr).alloc _)⟩
              · have q1' : decide (next ≤ x.num) = false := decide_eq_false q1
                by_cases q2 : x.cells.length = 0
                · have q2' : ((x.cells.length : Int) == 0) = true := beq_iff_eq.2 (by omega)
                  clear q2
                  go_wp2
                  go_ret
                  exact ⟨by rw [memErr_bad (by simp [okM, hN.out, hbad.out])]; rfl, hF.trans ((Ext.refl wr).alloc _)⟩
                · have q2' : ((x.cells.length : Int) == 0) = false := beq_eq_false_iff_ne.2 (by omega)
                  have q3' : decide ((2 : Int) < (x.cells.length : Int)) = true := decide_eq_true (by omega)
                  clear q2
                  clear hg
                  go_wp2
                  go_ret
                  exact ⟨by rw [memErr_bad (by simp [okM, hN.out, hbad.out])]; rfl, hF.trans ((Ext.refl wr).alloc _)⟩
        · have hkl : k = l.length := by omega
          subst hkl
          go_wp2
          go_ret
          exact ⟨by rw [memErr_ok (by simp [okM, hN.out, okAl, hb'.out, h4])]; rfl, hF⟩
  · have hd : decide ((400 : Int) < (l.length : Int)) = true := decide_eq_true (by omega)
    go_enter Try.func46, Try.ntmps46
    go_wp2
    go_ret
    exact ⟨by rw [memErr_bad (by simp [okM, h4])]; rfl, hE0⟩

set_option maxHeartbeats 1600000 in
theorem ref26_Check {l : List Alloc} {next : Int} {s : Value} {w : World} (hl : Als w s l) (hn : i64B next) :
    Calls Try.prog 51 #[.agg #[s, .int .i64 next]] w fun e w' => e = .returned (.int .i64 (memErr l next)) ∧ Ext w w' := by
  have hE0 := (Ext.refl w).alloc (.cells #[s, .int .i64 next] 24)
  obtain ⟨a, cp, rfl, hlc, hcm, -⟩ := hl.form
  unfold maxLen at hcm
  obtain ⟨hn1, hn2⟩ := hn
  by_cases h4 : l.length ≤ 400
  · have hd : decide ((400 : Int) < (l.length : Int)) = false := decide_eq_false (by omega)
    cases hb : inB next
    · have hb' := Lib.hid hb
      go_enter Try.func51, Try.ntmps51
      go_wp2_with (go_at_call 86; refine (ref26_In _ _).mono ?_; rintro e w' ⟨rfl, rfl⟩)
      go_ret
      exact ⟨by rw [memErr_bad (by simp [okM, hb'.out])]; rfl, hE0⟩
    · have hb' := Lib.hid hb
      have hbnd : 0 ≤ next ∧ next ≤ 1000000 := by simpa [inB] using hb
      have c0 : (w.alloc (.cells #[.slice a l.length cp, .int .i64 next] 24)).cell? ⟨w.heap.size, 0, none⟩ = some (.slice a l.length cp) := by simp
      have c1 : (w.alloc (.cells #[.slice a l.length cp, .int .i64 next] 24)).cell? ⟨w.heap.size, 1, none⟩ = some (.int .i64 next) := by simp
      go_enter Try.func51, Try.ntmps51
      go_wp2_with (go_at_call 86; refine (ref26_In _ _).mono ?_; rintro e w' ⟨rfl, rfl⟩)
      obtain ⟨w1, hw1⟩ : ∃ w1, w.alloc (.cells #[.slice a l.length cp, .int .i64 next] 24) = w1 := ⟨_, rfl⟩
      rw [hw1] at hE0 c0 c1 ⊢
      clear hw1
      go_loopw [3, 4] (fun lv iv wr => ∃ (k : Nat) (last : Int), k ≤ l.length ∧ iv = .int .i64 k ∧ lv = .int .i64 last ∧ (-1 ≤ last ∧ last ≤ 1000000) ∧ Ext w1 wr ∧ Hid (okAl next 0 l = okAl next (last + 1) (l.drop k))) (fun _ iv _ => l.length - (intOf iv).toNat)
      case atStart => exact ⟨0, -1, Nat.zero_le _, rfl, rfl, by omega, Ext.refl _, by simp [Hid]⟩
      case round =>
        obtain ⟨k, last, hk, rfl, rfl, hlast, hE, hN⟩ := hrel
        have hF := hE0.trans hE
        have e0 := hE.cell c0
        have e1 := hE.cell c1
        have hblk : w.heap.size < wr.heap.size := World.block_lt_of_cell? wr _ e0
        by_cases hlt : k < l.length
        · obtain ⟨x, hx⟩ : ∃ x, l[k]? = some x := ⟨l[k], by simp [hlt]⟩
          obtain ⟨b, off, sv, rfl, hbb, d0, d1, d2, hcl⟩ := (hl.ext hF).cell hx
          have hX := Lib.hid hx
          obtain ⟨ca, ccp, rfl, hclc, hccm, -⟩ := hcl.form
          unfold maxLen at hccm
          have hCl := Lib.hid hcl
          clear hx hcl
          by_cases hg : last + 1 ≤ x.num ∧ x.num < next ∧ 1 ≤ x.cells.length ∧ x.cells.length ≤ 2
          · have g0 : decide (x.num ≤ last) = false := decide_eq_false (by omega)
            have g1 : decide (next ≤ x.num) = false := decide_eq_false (by omega)
            have g2 : decide ((x.cells.length : Int) < 1) = false := decide_eq_false (by omega)
            have g3 : decide ((2 : Int) < (x.cells.length : Int)) = false := decide_eq_false (by omega)
            have hx1 : 0 ≤ x.num ∧ x.num ≤ 1000000 := by omega
            have hx2 : Hid (-1 ≤ x.num ∧ x.num ≤ 1000000) := Hid.mk (by omega)
            have hG := Lib.hid hg
            clear hg
            have hF2 := hF.trans ((Ext.refl wr).alloc (.cells #[.int .i64 x.num, .bool x.live, .slice ca x.cells.length ccp] 70))
            have hE2 := hE.trans ((Ext.refl wr).alloc (.cells #[.int .i64 x.num, .bool x.live, .slice ca x.cells.length ccp] 70))
            have b0 : (wr.alloc (.cells #[.int .i64 x.num, .bool x.live, .slice ca x.cells.length ccp] 70)).cell? ⟨wr.heap.size, 0, none⟩ = some (.int .i64 x.num) := by simp
            have b1 : (wr.alloc (.cells #[.int .i64 x.num, .bool x.live, .slice ca x.cells.length ccp] 70)).cell? ⟨wr.heap.size, 1, none⟩ = some (.bool x.live) := by simp
            have b2 : (wr.alloc (.cells #[.int .i64 x.num, .bool x.live, .slice ca x.cells.length ccp] 70)).cell? ⟨wr.heap.size, 2, none⟩ = some (.slice ca x.cells.length ccp) := by simp
            replace hCl := Lib.hid (hCl.out.ext ((Ext.refl wr).alloc (.cells #[.int .i64 x.num, .bool x.live, .slice ca x.cells.length ccp] 70)))
            go_wp2
            obtain ⟨w2, hw2⟩ : ∃ w2, wr.alloc (.cells #[.int .i64 x.num, .bool x.live, .slice ca x.cells.length ccp] 70) = w2 := ⟨_, rfl⟩
            rw [hw2] at hF2 hE2 b0 b1 b2 hCl ⊢
            clear hw2
            go_loopw [6] (fun jv wq => ∃ j : Nat, j ≤ x.cells.length ∧ jv = .int .i64 j ∧ Ext w2 wq ∧ Hid ((x.cells.take j).all (cellIn x.live) = true)) (fun jv _ => x.cells.length - (intOf jv).toNat)
            case atStart => exact ⟨0, Nat.zero_le _, rfl, Ext.refl _, by simp [Hid]⟩
            case round =>
              obtain ⟨j, hj, rfl, hE3, hA⟩ := hrel
              have hF3 := hF2.trans hE3
              replace b0 := hE3.cell b0
              replace b1 := hE3.cell b1
              replace b2 := hE3.cell b2
              replace hE2 := hE2.trans hE3
              have hblk2 := World.block_lt_of_cell? _ _ b0
              by_cases hjl : j < x.cells.length
              · obtain ⟨c, hc⟩ : ∃ c, x.cells[j]? = some c := ⟨x.cells[j], by simp [hjl]⟩
                obtain ⟨cb, coff, rfl, hcb, f0, f1, f2, f3, f4⟩ := (hCl.out.ext hE3).cell hc
                have hXC := Lib.hid hc
                clear hc
                have hCk := Lib.hid (ref26_Cell c)
                unfold Cell.val at hCk
                have hEa := Ext.refl wr
                have z0 := f0
                have hZ := Lib.hid z0
                have hB := Lib.hid b1
                clear z0 b1
                cases hok : c.ok
                · have hce : Hid (c.ok = false) := Hid.mk hok
                  have hbad := Lib.hid (okAl_stop hX.out (next := next) (least := last + 1) (fun h => by have := h.2.2.2.2; rw [all_miss' hXC.out (by simp [cellIn, hok])] at this; cases this))
                  clear hok
                  go_wp2_with fail
                  refine (hCk.out _).mono ?_
                  rintro e w4 ⟨rfl, hE4⟩
                  rw [hce.out]
                  go_wp2
                  go_ret
                  exact ⟨by rw [memErr_bad (by simp [okM, hN.out, hbad.out])]; rfl, (hF3.trans hEa).trans hE4⟩
                · have hce : Hid (c.ok = true) := Hid.mk hok
                  cases hlv : x.live
                  · by_cases hk0 : c.k = 0
                    · have hk0' : (c.k != 0) = false := by simp [hk0]
                      have hA2 := Lib.hid (all_take_succ' hA.out hXC.out (by simp [cellIn, hok, hk0]))
                      have hlv' := Lib.hid hlv
                      clear hok hk0 hlv
                      go_wp2_with fail
                      refine (hCk.out _).mono ?_
                      rintro e w4 ⟨rfl, hE4⟩
                      rw [hce.out]
                      have z0 := hE4.cell hZ.out
                      have b2 := hE4.cell b2
                      have b1 := hE4.cell hB.out
                      rw [hlv'.out] at b1
                      go_wp2
                      go_roundw
                      case rel => exact ⟨j + 1, by omega, by go_num, (hE3.trans hEa).trans hE4, by have h := hA2.out; rw [hlv'.out] at h; exact h⟩
                      case measure => simp [intOf]; omega
                    · have hk0' : (c.k != 0) = true := by simp [hk0]
                      have hbad := Lib.hid (okAl_stop hX.out (next := next) (least := last + 1) (fun h => by have := h.2.2.2.2; rw [all_miss' hXC.out (by simp [cellIn, hok, hlv, hk0])] at this; cases this))
                      have hlv' := Lib.hid hlv
                      clear hok hk0 hlv
                      go_wp2_with fail
                      refine (hCk.out _).mono ?_
                      rintro e w4 ⟨rfl, hE4⟩
                      rw [hce.out]
                      have z0 := hE4.cell hZ.out
                      have b2 := hE4.cell b2
                      have b1 := hE4.cell hB.out
                      rw [hlv'.out] at b1
                      go_wp2
                      go_ret
                      exact ⟨by rw [memErr_bad (by simp [okM, hN.out, hbad.out])]; rfl, (hF3.trans hEa).trans hE4⟩
                  · have hA2 := Lib.hid (all_take_succ' hA.out hXC.out (by simp [cellIn, hok, hlv]))
                    have hlv' := Lib.hid hlv
                    clear hok hlv
                    go_wp2_with fail
                    refine (hCk.out _).mono ?_
                    rintro e w4 ⟨rfl, hE4⟩
                    rw [hce.out]
                    have b2 := hE4.cell b2
                    have b1 := hE4.cell hB.out
                    rw [hlv'.out] at b1
                    go_wp2
                    go_roundw
                    case rel => exact ⟨j + 1, by omega, by go_num, (hE3.trans hEa).trans hE4, by have h := hA2.out; rw [hlv'.out] at h; exact h⟩
                    case measure => simp [intOf]; omega
              · have hje : j = x.cells.length := by omega
                subst hje
                have hA' := hA.out
                rw [List.take_length] at hA'
                have hG' := hG.out
                have hst := Lib.hid (hN.out.trans (okAl_step hX.out hG'.1 hG'.2.1 hG'.2.2.1 hG'.2.2.2 hA'))
                clear hA' hG'
                go_wp2
                go_roundw
                case rel => exact ⟨k + 1, x.num, by omega, by go_num, rfl, hx2.out, hE2, hst.out⟩
                case measure => simp [intOf]; omega
          · have hbad := Lib.hid (okAl_stop hX.out (next := next) (least := last + 1) (fun h => hg ⟨h.1, h.2.1, h.2.2.1, h.2.2.2.1⟩))
            by_cases q0 : x.num ≤ last
            · have q0' : decide (x.num ≤ last) = true := decide_eq_true q0
              go_wp2
              go_ret
              exact ⟨by rw [memErr_bad (by simp [okM, hN.out, hbad.out])]; rfl, hF.trans ((Ext.refl wr).alloc _)⟩
            · have q0' : decide (x.num ≤ last) = false := decide_eq_false q0
              by_cases q1 : next ≤ x.num
              · have q1' : decide (next ≤ x.num) = true := decide_eq_true q1
                go_wp2
                go_ret
                exact ⟨by rw [memErr_bad (by simp [okM, hN.out, hbad.out])]; rfl, hF.trans ((Ext.refl wr).alloc _)⟩
              · have q1' : decide (next ≤ x.num) = false := decide_eq_false q1
                by_cases q2 : x.cells.length = 0
                · have q2' : decide ((x.cells.length : Int) < 1) = true := decide_eq_true (by omega)
                  clear q2
                  go_wp2
                  go_ret
                  exact ⟨by rw [memErr_bad (by simp [okM, hN.out, hbad.out])]; rfl, hF.trans ((Ext.refl wr).alloc _)⟩
                · have q2' : decide ((x.cells.length : Int) < 1) = false := decide_eq_false (by omega)
                  have q3' : decide ((2 : Int) < (x.cells.length : Int)) = true := decide_eq_true (by omega)
                  clear q2
                  clear hg
                  go_wp2
                  go_ret
                  exact ⟨by rw [memErr_bad (by simp [okM, hN.out, hbad.out])]; rfl, hF.trans ((Ext.refl wr).alloc _)⟩
        · have hkl : k = l.length := by omega
          subst hkl
          go_wp2
          go_ret
          exact ⟨by rw [memErr_ok (by simp [okM, hN.out, okAl, hb'.out, h4])]; rfl, hF⟩
  · have hd : decide ((400 : Int) < (l.length : Int)) = true := decide_eq_true (by omega)
    go_enter Try.func51, Try.ntmps51
    go_wp2
    go_ret
    exact ⟨by rw [memErr_bad (by simp [okM, h4])]; rfl, hE0⟩

end Go.Proofs.Ytiikdpfbbcnplaa
