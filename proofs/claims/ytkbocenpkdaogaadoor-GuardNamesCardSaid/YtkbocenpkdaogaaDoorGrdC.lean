/- Contracts: what is held; Enter, Leave and Held, the program's and the reference's. -/
import Derived.Test.YtkbocenpkdaogaaDoorGrdB
import Derived.Test.YtkbocenpkdaogaaDoorItemsD
import Derived.Deep.RegionLaw
namespace Go.Proofs.YtkbocenpkdaogaaDoor
set_option maxRecDepth 100000
open Go.RowKit

/-- A new list of numbers, and a number. -/
def RetNN (w : World) (l : List Int) (n : Int) (en : Ending) (w' : World) : Prop := ∃ v, en = .returned (.tuple #[v, .int .i64 n]) ∧ Nts w' v l ∧ Ext w w'
def RetNs (e : TypeId) (w : World) (l : List Int) (en : Ending) (w' : World) : Prop := ∃ v, en = .returned v ∧ Own w' w.heap.size e 1 v l.length (l.flatMap irow) ∧ Ext w w'

theorem Int.infoE : ∃ i z, Tryd.prog.info? 3 = some i ∧ i.zero = some z ∧ i.size = 1 ∧ z.cells.size = 1 ∧ i.bytes = 8 := by
  have h : (Tryd.prog.info? 3).map (fun i => (i.zero.map (fun z => z.cells.size), i.size, i.bytes)) = some (some 1, 1, 8) := by kernel_rfl
  cases hi : Tryd.prog.info? 3 with
  | none => rw [hi] at h; simp at h
  | some i =>
    rw [hi] at h
    simp only [Option.map_some, Option.some.injEq, Prod.mk.injEq] at h
    obtain ⟨h1, h2, h3⟩ := h
    cases hz : i.zero with
    | none => rw [hz] at h1; simp at h1
    | some z =>
      rw [hz] at h1
      exact ⟨i, z, rfl, hz, h2, by simpa using h1, h3⟩

set_option maxHeartbeats 400000 in
theorem clone_Ints {l : List Int} {v : Value} {w : World} (hl : Nts w v l) (hs : l.length ≤ 1000000) : Calls Tryd.prog 47 #[v] w (RetNs 3 w l) := by
  obtain ⟨i, z, hi, hz, hi3, hz3, hby⟩ := Int.infoE
  obtain ⟨a, cp, rfl, hlc, hcm, hn⟩ := hl.form
  cases a with
  | none =>
    have hcp := hn rfl
    subst hcp
    have hl0 := List.eq_nil_of_length_eq_zero (by omega : l.length = 0)
    subst hl0
    have hnil : ∀ w, (binOp .eql 37 (.slice none 0 0) (.slice none 0 0)).run Tryd.prog w = .ok (.bool true) w := fun w => Lib.run_eql_slice_nil w 37 3 none 0 0 0 0 Tryd.underlying37
    go_enter Tryd.func47, Tryd.ntmps47
    go_wp2
    go_ret
    exact ⟨_, rfl, Own.nil _ _ _ _, Ext.refl _⟩
  | some ad =>
    have hE := (Ext.refl w).alloc (.cells #[] 3)
    have hl' := hl.ext hE
    have hO := Own.made w w.heap.size 3 1 (Nat.le_refl _)
    have hz := Lib.hid hz
    have hi3 := Lib.hid hi3
    have hz3 := Lib.hid hz3
    have hby := Lib.hid hby
    have hi := Lib.hid hi
    have hnil : ∀ w, (binOp .eql 37 (.slice (some ad) l.length cp) (.slice none 0 0)).run Tryd.prog w = .ok (.bool false) w := fun w => Lib.run_eql_slice_nil w 37 3 (some ad) l.length cp 0 0 Tryd.underlying37
    go_enter Tryd.func47, Tryd.ntmps47
    go_wp2_with (at_builtin; refine Hid.out ?_)
    refine Hid.mk ?_
    refine wpList_append_any rfl _ _ 37 37 rfl rfl rfl Tryd.underlying37 Tryd.underlying37 hi.out hz.out hi3.out hz3.out hO hl' (Nts.one l) (by simp [maxLen]; omega) (by rw [hby.out]; omega) hE.size ?_
    intro v' w' hO' hK _ _
    go_wp2
    go_ret
    simp only [Nat.zero_add, List.nil_append] at hO'
    exact ⟨_, rfl, hO', (Below.trans (Below.alloc (Below.refl _ w) (Nat.le_refl _) _) hK.below : Below w.heap.size w w')⟩

theorem callFunc_first1 (args : Array Value) (w : World) : (callFunc 69 args).run Tryd.prog w = .ok (.enter 69 args) w := by kernel_rfl

set_option maxHeartbeats 400000 in
theorem guard_first1 {run : List Int} {v : Value} (B : Nat) (W : World) (hc : W.cell? ⟨B, 0, none⟩ = some v) (hl : Nts W v run) (hs : okFrom 0 run = true) (hlen : run.length ≤ 1000) : PredAt 69 #[.pointer (some ⟨B, 0, none⟩)] W (heldBy run) := by
  intro x w hW
  obtain ⟨p, t, c⟩ := x
  have hcw := hW.cell hc
  have hB := World.block_lt_of_cell? _ _ hcw
  have hE := (Ext.refl w).alloc (.cells #[.int .u8 p, .int .i64 t, .int .i64 c] 23)
  have hBS := Lib.hid (binarySearch c ((hl.ext hW).ext hE) hs hlen)
  obtain ⟨a, cp, rfl, -⟩ := hl.form
  clear hc hW hl hs
  show Calls Tryd.prog 69 #[.agg #[.int .u8 p, .int .i64 t, .int .i64 c], .pointer (some ⟨B, 0, none⟩)] w _
  go_enter Tryd.func69, Tryd.ntmps69
  go_wp2_with fail
  refine hBS.out.mono ?_
  rintro e w1 ⟨i, rfl, rfl⟩
  go_wp2
  go_ret
  exact ⟨rfl, hE⟩

set_option maxHeartbeats 400000 in
theorem indexFunc_items {g : Nat} {cap : Array Value} {p : Item → Bool} {l : List Item} {v : Value} {w : World} (hg : ∀ args w, (callFunc g args).run Tryd.prog w = .ok (.enter g args) w)
    (hp : PredAt g cap w p) (hl : Its w v l) : Calls Tryd.prog 68 #[v, .func (.func g) #[] cap] w fun e w' => e = .returned (.int .i64 (idxOf (l.findIdx? p))) ∧ Ext w w' := by
  obtain ⟨a, cp, rfl, hlc, hcm, -⟩ := hl.form
  unfold maxLen at hcm
  go_enter Tryd.func68, Tryd.ntmps68
  go_wp2
  go_loopw [8] (fun i wr => ∃ k : Nat, k ≤ l.length ∧ i = .int .i64 k ∧ Ext w wr ∧ Hid ((l.take k).any p = false)) (fun i _ => l.length - (intOf i).toNat)
  case atStart => exact ⟨0, Nat.zero_le _, rfl, Ext.refl _, by simp [Hid]⟩
  case round =>
    obtain ⟨k, hk, rfl, hE, hN⟩ := hrel
    by_cases hlt : k < l.length
    · obtain ⟨x, hx⟩ : ∃ x, l[k]? = some x := ⟨l[k], by simp [hlt]⟩
      obtain ⟨b, off, rfl, hb, c0, c1, c2⟩ := (hl.ext hE).cell hx
      have hX := Lib.hid hx
      clear hx
      cases hpx : p x
      all_goals
        have hP := Lib.hid hpx
        clear hpx
        go_wp2_with fail
        refine (hp x wr hE).mono ?_
        rintro e w1 ⟨rfl, hE1⟩
        have hpx := hP.out
        go_wp2
      · go_roundw
        case rel => exact ⟨k + 1, by omega, by go_num, hE.trans hE1, any_take_succ hN.out hX.out hP.out⟩
        case measure => simp [intOf]; omega
      · go_ret
        exact ⟨by rw [findIdx_hit hN.out hX.out hP.out]; rfl, hE.trans hE1⟩
    · have hkl : k = l.length := by omega
      subst hkl
      go_wp2
      go_ret
      have hN' := hN.out
      rw [List.take_length] at hN'
      exact ⟨by rw [findIdx_miss hN']; rfl, hE⟩

set_option maxHeartbeats 400000 in
theorem guard_first {l : List Item} {run : List Int} {v u : Value} {w : World} (hl : Its w v l) (hr : Nts w u run) (hok : okR run = true) :
    Calls Tryd.prog 48 #[v, u] w fun e w' => e = .returned (.int .i64 (idxOf (firstR l run))) ∧ Ext w w' := by
  have hE0 := (Ext.refl w).alloc (.cells #[u] 37)
  have hc : (w.alloc (.cells #[u] 37)).cell? ⟨w.heap.size, 0, none⟩ = some u := by simp
  have hI := Lib.hid (indexFunc_items callFunc_first1 (guard_first1 w.heap.size _ hc (hr.ext hE0) (okR_from hok) (by have := okR_len hok; omega)) (hl.ext hE0))
  have hmf : ∀ (fn : Fn) (first cap : Array Value) (w : World), (Instr.makeFunc fn first cap).run Tryd.prog w = .ok (.func fn first cap) w := fun _ _ _ _ => rfl
  obtain ⟨a, cp, rfl, -⟩ := hl.form
  obtain ⟨a2, cp2, rfl, -⟩ := hr.form
  clear hl hr hc
  go_enter Tryd.func48, Tryd.ntmps48
  go_wp2_with fail
  refine hI.out.mono ?_
  rintro e w1 ⟨rfl, hE1⟩
  go_wp2
  go_ret
  exact ⟨rfl, hE0.trans hE1⟩


theorem enterR_bad {l : List Int} {c : Int} (h : okR l = false) : enterR l c = ([], 8) := by simp [enterR, h]
theorem enterR_low {l : List Int} {c : Int} (h : okR l = true) (hc : c ≤ lastR l ∨ 1000000 < c) : enterR l c = ([], 2) := by simp [enterR, h, hc]
theorem enterR_full {l : List Int} {c : Int} (h : okR l = true) (hc : ¬ (c ≤ lastR l ∨ 1000000 < c)) (hf : l.length = 32) : enterR l c = ([], 18) := by simp [enterR, h, hc, hf]
theorem enterR_ok {l : List Int} {c : Int} (h : okR l = true) (hc : ¬ (c ≤ lastR l ∨ 1000000 < c)) (hf : ¬ l.length = 32) : enterR l c = (l ++ [c], 0) := by simp [enterR, h, hc, hf]
theorem leaveR_bad {l : List Int} (h : okR l = false) : leaveR l = ([], 8) := by simp [leaveR, h]
theorem leaveR_none {l : List Int} (h : okR l = true) (hz : l.length = 0) : leaveR l = ([], 6) := by simp [leaveR, h, hz]
theorem leaveR_ok {l : List Int} (h : okR l = true) (hz : ¬ l.length = 0) : leaveR l = (l.take (l.length - 1), 0) := by simp [leaveR, h]; intro e; exact absurd (by simp [e]) hz

theorem slice_upto_Ints (a : Option Addr) (n cap : Nat) (x : Int) (k : Nat) (hx : x = k) (hk : k ≤ cap) :
    ∀ w, (Instr.slice 37 (.slice a n cap) none (some (.int .i64 x)) none).run Tryd.prog w = .ok (.slice a k cap) w := by
  obtain ⟨i, z, hi, hz, hi3, hz3, hby⟩ := Int.infoE
  exact fun w => run_slice_upto Tryd.underlying37 hi a n cap x k hx hk w

set_option maxHeartbeats 800000 in
theorem guard_Leave {l : List Int} {v : Value} {w : World} (hl : Nts w v l) : Calls Tryd.prog 15 #[v] w (RetNN w (leaveR l).1 (leaveR l).2) := by
  have hL := Lib.hid hl
  obtain ⟨a, cp, rfl, hlc, hcm, -⟩ := hl.form
  unfold maxLen at hcm
  clear hl
  cases hok : okR l
  · have h8 := Lib.hid (runErr_bad hok)
    have hres := Lib.hid (leaveR_bad hok)
    clear hok
    go_enter Tryd.func15, Tryd.ntmps15
    go_wp2_with fail
    refine (guard_Check hL.out).mono ?_
    rintro e w1 ⟨rfl, rfl⟩
    rw [h8.out]
    go_wp2
    go_ret2
    rw [hres.out]
    exact ⟨_, rfl, Nts.nil _, Ext.refl _⟩
  · have h0 := Lib.hid (runErr_ok hok)
    have hlen := okR_len hok
    by_cases hz : l.length = 0
    · have hres := Lib.hid (leaveR_none hok hz)
      have hz' : ((l.length : Int) == 0) = true := beq_iff_eq.2 (by omega)
      clear hok hz
      go_enter Tryd.func15, Tryd.ntmps15
      go_wp2_with fail
      refine (guard_Check hL.out).mono ?_
      rintro e w1 ⟨rfl, rfl⟩
      rw [h0.out]
      go_wp2
      go_ret2
      rw [hres.out]
      exact ⟨_, rfl, Nts.nil _, Ext.refl _⟩
    · have hres := Lib.hid (leaveR_ok hok hz)
      have hz' : ((l.length : Int) == 0) = false := beq_eq_false_iff_ne.2 (by omega)
      have hcut := slice_upto_Ints a l.length cp ((l.length : Int) - 1) (l.length - 1) (by omega) (by omega)
      clear hok
      go_enter Tryd.func15, Tryd.ntmps15
      go_wp2_with fail
      refine (guard_Check hL.out).mono ?_
      rintro e w1 ⟨rfl, rfl⟩
      rw [h0.out]
      go_wp2_with fail
      refine (clone_Ints (hL.out.take (l.length - 1) (by omega)) (by rw [List.length_take]; omega)).mono ?_
      rintro e w1 ⟨v1, rfl, hO, hE⟩
      go_wp2
      go_ret2
      rw [hres.out]
      exact ⟨_, rfl, hO.sl, hE⟩

end Go.Proofs.YtkbocenpkdaogaaDoor
