/- Contracts: All of layer 34, the program's and the reference's. (printed by gen/all34.py) -/
import Derived.Test.YtjfkfibhgilolaaDoorDeaC
import Derived.Test.YtjfkfibhgilolaaDoorReadK
namespace Go.Proofs.YtjfkfibhgilolaaDoor
set_option maxRecDepth 100000
open Go.RowKit

def badK (x : Stk) : Bool := !okK x
def stayK (run : List Int) (x : Stk) : Bool := !freeB x.cells run
def allR34 (l : List Stk) (run : List Int) : Int × Int × Int :=
  if okR run then (if 400 < l.length then (0, 0, 4) else if l.any badK then (0, 0, 8) else match l.findIdx? (stayK run) with | some i => ((i : Int), 2, 0) | none => ((l.length : Int), 0, 0)) else (0, 0, 8)
theorem allR_bad {l : List Stk} {run : List Int} (h : okR run = false) : allR34 l run = (0, 0, 8) := by simp [allR34, h]
theorem allR_many {l : List Stk} {run : List Int} (h : okR run = true) (h2 : 400 < l.length) : allR34 l run = (0, 0, 4) := by simp [allR34, h, h2]
theorem allR_badK {l : List Stk} {run : List Int} (h : okR run = true) (h2 : ¬ 400 < l.length) (h3 : l.any badK = true) : allR34 l run = (0, 0, 8) := by rw [allR34, if_pos h, if_neg h2, if_pos h3]
theorem allR_some {l : List Stk} {run : List Int} {i : Nat} (h : okR run = true) (h2 : ¬ 400 < l.length) (h3 : l.any badK = false) (h4 : l.findIdx? (stayK run) = some i) : allR34 l run = ((i : Int), 2, 0) := by rw [allR34, if_pos h, if_neg h2, if_neg (by simp [h3]), h4]
theorem allR_none {l : List Stk} {run : List Int} (h : okR run = true) (h2 : ¬ 400 < l.length) (h3 : l.any badK = false) (h4 : l.findIdx? (stayK run) = none) : allR34 l run = ((l.length : Int), 0, 0) := by rw [allR34, if_pos h, if_neg h2, if_neg (by simp [h3]), h4]
theorem kIdx_hit {p : Stk → Bool} {l : List Stk} {k : Nat} {x : Stk} (h : (l.take k).any p = false) (hx : l[k]? = some x) (hp : p x = true) : l.findIdx? p = some k := by
  rw [List.findIdx?_eq_some_iff_getElem]
  obtain ⟨hk, rfl⟩ := List.getElem?_eq_some_iff.1 hx
  refine ⟨hk, hp, fun j hj => ?_⟩
  simp only [List.any_eq_false] at h
  have := h l[j] (by rw [List.mem_iff_getElem?]; exact ⟨j, by rw [List.getElem?_take, if_pos hj]; simp⟩)
  simpa using this
theorem kIdx_miss {p : Stk → Bool} {l : List Stk} (h : l.any p = false) : l.findIdx? p = none := by
  rw [List.findIdx?_eq_none_iff]
  simpa [List.any_eq_false] using h

theorem callFunc_all1 (args : Array Value) (w : World) : (callFunc 72 args).run Tryd.prog w = .ok (.enter 72 args) w := by kernel_rfl

/-- The test of the stacks of an allocation by a function value. -/
def PredK (g : Nat) (cap : Array Value) (W : World) (p : Stk → Bool) : Prop :=
  ∀ (x : Stk) (s : Value) (w : World), Ext W w → Sts w s x.cells → Calls Tryd.prog g (#[.agg #[.int .i64 x.num, s]] ++ cap) w fun e w' => e = .returned (.bool (p x)) ∧ Ext w w'

set_option maxHeartbeats 400000 in
theorem dealloc_all1 {run : List Int} {v : Value} (B : Nat) (W : World) (hc : W.cell? ⟨B, 0, none⟩ = some v) (hr : Nts W v run) (hok : okR run = true) : PredK 72 #[.pointer (some ⟨B, 0, none⟩)] W (stayK run) := by
  intro x s w hW hl
  obtain ⟨num, l⟩ := x
  dsimp only at *
  have hE := (Ext.refl w).alloc (.cells #[.int .i64 num, s] 56)
  have d0 : (w.alloc (.cells #[.int .i64 num, s] 56)).cell? ⟨B, 0, none⟩ = some v := hE.cell (hW.cell hc)
  have hF := Lib.hid (dealloc_free (num := num) (hl.ext hE) ((hr.ext hW).ext hE) hok)
  obtain ⟨a, cp, rfl, -⟩ := hl.form
  obtain ⟨a2, cp2, rfl, -⟩ := hr.form
  clear hc hW hl hr hok
  show Calls Tryd.prog 72 #[.agg #[.int .i64 num, .slice a l.length cp], .pointer (some ⟨B, 0, none⟩)] w _
  go_enter Tryd.func72, Tryd.ntmps72
  go_wp2_with fail
  refine hF.out.mono ?_
  rintro e w1 ⟨rfl, hE1⟩
  go_wp2
  go_ret
  exact ⟨rfl, hE.trans hE1⟩

set_option maxHeartbeats 800000 in
theorem indexFunc_stk {g : Nat} {cap : Array Value} {p : Stk → Bool} {l : List Stk} {v : Value} {w : World} (hg : ∀ args w, (callFunc g args).run Tryd.prog w = .ok (.enter g args) w)
    (hp : PredK g cap w p) (hl : Kts w v l) : Calls Tryd.prog 71 #[v, .func (.func g) #[] cap] w fun e w' => (∃ i : Int, e = .returned (.int .i64 i) ∧ Hid ((∃ k : Nat, i = (k : Int) ∧ l.findIdx? p = some k) ∨ (i = -1 ∧ l.findIdx? p = none))) ∧ Ext w w' := by
  obtain ⟨a, cp, rfl, hlc, hcm, -⟩ := hl.form
  unfold maxLen at hcm
  have hL := Lib.hid hl
  clear hl
  go_enter Tryd.func71, Tryd.ntmps71
  go_wp2
  go_loopw [8] (fun i wr => ∃ k : Nat, k ≤ l.length ∧ i = .int .i64 k ∧ Ext w wr ∧ Hid ((l.take k).any p = false)) (fun i _ => l.length - (intOf i).toNat)
  case atStart => exact ⟨0, Nat.zero_le _, rfl, Ext.refl _, by simp [Hid]⟩
  case round =>
    obtain ⟨k, hk, rfl, hE, hN⟩ := hrel
    by_cases hlt : k < l.length
    · obtain ⟨x, hx⟩ : ∃ x, l[k]? = some x := ⟨l[k], by simp [hlt]⟩
      obtain ⟨b, off, sv, rfl, hbb, d0, d1, hcl⟩ := (hL.out.ext hE).cell hx
      have hX := Lib.hid hx
      clear hx
      replace hcl := Lib.hid hcl
      cases hpx : p x
      all_goals
        have hP := Lib.hid hpx
        clear hpx
        go_wp2_with fail
        refine (hp x sv wr hE hcl.out).mono ?_
        rintro e w1 ⟨rfl, hE1⟩
        have hpx := hP.out
        go_wp2
      · go_roundw
        case rel => exact ⟨k + 1, by omega, by go_num, hE.trans hE1, sany_take_succ hN.out hX.out hP.out⟩
        case measure => simp [intOf]; omega
      · go_ret
        exact ⟨⟨_, rfl, .inl ⟨k, rfl, kIdx_hit hN.out hX.out hP.out⟩⟩, hE.trans hE1⟩
    · have hkl : k = l.length := by omega
      subst hkl
      have hN' := hN.out
      rw [List.take_length] at hN'
      have hg := Lib.hid (kIdx_miss hN')
      clear hN'
      go_wp2
      go_ret
      exact ⟨⟨_, rfl, .inr ⟨rfl, hg.out⟩⟩, hE⟩

set_option maxHeartbeats 3200000 in
theorem dealloc_All {l : List Stk} {run : List Int} {s v : Value} {w : World} (hl : Kts w s l) (hr : Nts w v run) :
    Calls Tryd.prog 46 #[s, v] w fun e w' => e = .returned (.tuple #[.int .i64 (allR34 l run).1, .int .u8 (allR34 l run).2.1, .int .i64 (allR34 l run).2.2]) ∧ Ext w w' := by
  have hE0 := (Ext.refl w).alloc (.cells #[v] 37)
  have hl0 := hl.ext hE0
  have hr0 := hr.ext hE0
  obtain ⟨a, cp, rfl, hlc, hcm, -⟩ := hl.form
  obtain ⟨a2, cp2, rfl, -⟩ := hr.form
  unfold maxLen at hcm
  have hL := Lib.hid hl0
  have hR := Lib.hid hr0
  clear hl hr hl0 hr0
  cases hok : okR run
  · have hres := Lib.hid (allR_bad (l := l) hok)
    have he : Hid (runErr run = 8) := Hid.mk (by simp [runErr, hok])
    clear hok
    go_enter Tryd.func46, Tryd.ntmps46
    go_wp2_with fail
    refine (guard_Check hR.out).mono ?_
    rintro e w2 ⟨rfl, rfl⟩
    rw [he.out]
    go_wp2
    go_ret3
    exact ⟨by rw [hres.out] <;> rfl, hE0⟩
  have he : Hid (runErr run = 0) := Hid.mk (by simp [runErr, hok])
  replace hok := Lib.hid hok
  by_cases hmany : 400 < l.length
  · have hres := Lib.hid (allR_many hok.out hmany)
    have h4 : decide (400 < l.length) = true := decide_eq_true hmany
    have h4' : decide ((400 : Int) < (l.length : Int)) = true := decide_eq_true (by omega)
    go_enter Tryd.func46, Tryd.ntmps46
    go_wp2_with fail
    refine (guard_Check hR.out).mono ?_
    rintro e w2 ⟨rfl, rfl⟩
    rw [he.out]
    go_wp2
    go_ret3
    exact ⟨by rw [hres.out] <;> rfl, hE0⟩
  have h4 : decide (400 < l.length) = false := decide_eq_false hmany
  have h4' : decide ((400 : Int) < (l.length : Int)) = false := decide_eq_false (by omega)
  replace hmany := Lib.hid hmany
  go_enter Tryd.func46, Tryd.ntmps46
  go_wp2_with fail
  refine (guard_Check hR.out).mono ?_
  rintro e w2 ⟨rfl, rfl⟩
  rw [he.out]
  go_wp2
  obtain ⟨w1, hw1⟩ : ∃ z, w.alloc (.cells #[.slice a2 run.length cp2] 37) = z := ⟨_, rfl⟩
  have b0 : w1.cell? ⟨w.heap.size, 0, none⟩ = some (.slice a2 run.length cp2) := by rw [← hw1]; simp
  rw [hw1] at hE0 hL hR ⊢
  clear hw1
  go_loopw [22] (fun iv wr => ∃ k : Nat, k ≤ l.length ∧ iv = .int .i64 k ∧ Ext w1 wr ∧ Hid ((l.take k).any badK = false)) (fun iv _ => l.length - (intOf iv).toNat)
  case atStart => exact ⟨0, Nat.zero_le _, rfl, Ext.refl _, by simp [Hid]⟩
  case round =>
    obtain ⟨k, hk, rfl, hE, hN⟩ := hrel
    by_cases hlt : k < l.length
    · obtain ⟨x, hx⟩ : ∃ x, l[k]? = some x := ⟨l[k], by simp [hlt]⟩
      obtain ⟨b, off, sv, rfl, hbb, d0, d1, hcl⟩ := (hL.out.ext hE).cell hx
      have hX := Lib.hid hx
      obtain ⟨ca, ccp, rfl, -⟩ := hcl.form
      obtain ⟨xn, xl⟩ := x
      replace hcl := Lib.hid hcl
      clear hx
      dsimp only at *
      cases hb : okK ⟨xn, xl⟩
      · have hres := Lib.hid (allR_badK hok.out hmany.out (sany_hit hX.out (by simp [badK, hb])))
        have hE8 := Lib.hid (stkErr_bad hb)
        clear hb
        go_wp2_with fail
        refine (stacks_Check (hcl.out.ext ((Ext.refl wr).alloc _))).mono ?_
        rintro e w3 ⟨rfl, hE3⟩
        rw [hE8.out]
        go_wp2
        go_ret3
        exact ⟨by rw [hres.out] <;> rfl, (hE0.trans hE).trans (((Ext.refl wr).alloc _).trans hE3)⟩
      · have hN2 := Lib.hid (sany_take_succ hN.out hX.out (by simp [badK, hb]))
        have hE8 := Lib.hid (stkErr_ok hb)
        clear hb
        go_wp2_with fail
        refine (stacks_Check (hcl.out.ext ((Ext.refl wr).alloc _))).mono ?_
        rintro e w3 ⟨rfl, hE3⟩
        rw [hE8.out]
        go_wp2
        go_roundw
        case rel => exact ⟨k + 1, by omega, by go_num, hE.trans (((Ext.refl wr).alloc _).trans hE3), hN2.out⟩
        case measure => simp [intOf]; omega
    · have hkl : k = l.length := by omega
      subst hkl
      have hlt' : decide ((l.length : Int) < (l.length : Int)) = false := decide_eq_false (by omega)
      have hNN := hN.out
      rw [List.take_length] at hNN
      replace hNN := Lib.hid hNN
      clear hN
      have hI := Lib.hid (indexFunc_stk callFunc_all1 (dealloc_all1 w.heap.size wr (hE.cell b0) (hR.out.ext hE) hok.out) (hL.out.ext hE))
      clear hlt
      go_wp2_with fail
      refine hI.out.mono ?_
      rintro e w3 ⟨⟨i, rfl, hi⟩, hE3⟩
      rcases hi.out with ⟨j, rfl, hj⟩ | ⟨rfl, hj⟩
      · have hres := Lib.hid (allR_some hok.out hmany.out hNN.out hj)
        have hge : decide ((0 : Int) ≤ (j : Int)) = true := decide_eq_true (by omega)
        clear hi hj
        go_wp2
        go_ret3
        exact ⟨by rw [hres.out] <;> rfl, hE0.trans (hE.trans hE3)⟩
      · have hres := Lib.hid (allR_none hok.out hmany.out hNN.out hj)
        clear hi hj
        go_wp2
        go_ret3
        exact ⟨by rw [hres.out] <;> rfl, hE0.trans (hE.trans hE3)⟩


end Go.Proofs.YtjfkfibhgilolaaDoor
