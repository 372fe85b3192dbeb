/- Contracts: Great, At, SameAlloc and Same of the reference of layer 26; find of the program. -/
import Derived.Test.YtiikdpfbbcnplaaCelW2
namespace Go.Proofs.Ytiikdpfbbcnplaa
set_option maxRecDepth 100000
open Go.RowKit

theorem any_take_succ' {α : Type} {p : α → Bool} {l : List α} {k : Nat} {x : α} (h : (l.take k).any p = false) (hx : l[k]? = some x) (hp : p x = false) : (l.take (k + 1)).any p = false := by
  rw [List.take_add_one, hx]
  simp [List.any_append, h, hp]
theorem any_hit {α : Type} {p : α → Bool} {l : List α} {k : Nat} {x : α} (hx : l[k]? = some x) (hp : p x = true) : l.any p = true :=
  List.any_eq_true.2 ⟨x, List.mem_of_getElem? hx, hp⟩
def wide (a : Alloc) : Bool := decide (5 < a.cells.length)
theorem greatM_eq (l : List Alloc) : greatM l = ((l.take 411).any wide || decide (410 < l.length)) := rfl
theorem greatM_hit {l : List Alloc} {k : Nat} {x : Alloc} (hx : l[k]? = some x) (hk : k ≤ 410) (hp : wide x = true) : greatM l = true := by
  rw [greatM_eq, any_hit (k := k) (x := x) (by rw [List.getElem?_take, if_pos (by omega)]; exact hx) hp, Bool.true_or]

set_option maxHeartbeats 800000 in
theorem ref26_Great {l : List Alloc} {next : Int} {s : Value} {w : World} (hl : Als w s l) :
    Calls Try.prog 34 #[.agg #[s, .int .i64 next]] w fun e w' => e = .returned (.bool (greatM l)) ∧ Ext w w' := by
  have hE0 := (Ext.refl w).alloc (.cells #[s, .int .i64 next] 24)
  have hl0 := hl.ext hE0
  obtain ⟨a, cp, rfl, hlc, hcm, -⟩ := hl.form
  unfold maxLen at hcm
  have hW := Lib.hid hl0
  clear hl hl0
  go_enter Try.func34, Try.ntmps34
  go_wp2
  go_loop [3] (fun iv => ∃ k : Nat, k ≤ l.length ∧ k ≤ 411 ∧ iv = .int .i64 k ∧ Hid ((l.take k).any wide = false)) (fun iv => l.length - (intOf iv).toNat)
  case atStart => exact ⟨0, Nat.zero_le _, by omega, rfl, by simp [Hid]⟩
  case round =>
    obtain ⟨k, hk, hk4, rfl, hN⟩ := hrel
    by_cases hlt : k < l.length
    · have hlt' : decide ((k : Int) < (l.length : Int)) = true := decide_eq_true (by omega)
      by_cases h4 : k ≤ 410
      · have h4' : decide ((k : Int) ≤ 410) = true := decide_eq_true (by omega)
        obtain ⟨x, hx⟩ : ∃ x, l[k]? = some x := ⟨l[k], by simp [hlt]⟩
        obtain ⟨b, off, sv, rfl, hbb, d0, d1, d2, hcl⟩ := hW.out.cell hx
        have hX := Lib.hid hx
        obtain ⟨ca, ccp, rfl, hclc, hccm, -⟩ := hcl.form
        clear hx hcl
        by_cases h5 : 5 < x.cells.length
        · have h5' : decide ((5 : Int) < (x.cells.length : Int)) = true := decide_eq_true (by omega)
          have hg := Lib.hid (greatM_hit hX.out h4 (by simp [wide, h5]))
          go_wp2
          go_ret
          exact ⟨by rw [hg.out]; rfl, hE0⟩
        · have h5' : decide ((5 : Int) < (x.cells.length : Int)) = false := decide_eq_false (by omega)
          have hN2 := Lib.hid (any_take_succ' hN.out hX.out (by simp [wide, h5]))
          go_wp2
          go_round
          case rel => exact ⟨k + 1, by omega, by omega, by go_num, hN2.out⟩
          case measure => simp [intOf]; omega
      · have h4' : decide ((k : Int) ≤ 410) = false := decide_eq_false (by omega)
        have h6 : decide ((410 : Int) < (l.length : Int)) = true := decide_eq_true (by omega)
        have hg : Hid (greatM l = true) := Hid.mk (by rw [greatM_eq, decide_eq_true (by omega : 410 < l.length), Bool.or_true])
        go_wp2
        go_ret
        exact ⟨by rw [hg.out]; rfl, hE0⟩
    · have hlt' : decide ((k : Int) < (l.length : Int)) = false := decide_eq_false (by omega)
      have hkl : k = l.length := by omega
      by_cases h6 : 410 < l.length
      · have h6' : decide ((410 : Int) < (l.length : Int)) = true := decide_eq_true (by omega)
        have hg : Hid (greatM l = true) := Hid.mk (by rw [greatM_eq, decide_eq_true h6, Bool.or_true])
        clear hkl
        go_wp2
        go_ret
        exact ⟨by rw [hg.out]; rfl, hE0⟩
      · have h6' : decide ((410 : Int) < (l.length : Int)) = false := decide_eq_false (by omega)
        have hN' := hN.out
        have hg : Hid (greatM l = false) := Hid.mk (by rw [greatM_eq, decide_eq_false h6, Bool.or_false, List.take_of_length_le (by omega)]; rw [hkl, List.take_length] at hN'; exact hN')
        clear hkl hN'
        go_wp2
        go_ret
        exact ⟨by rw [hg.out]; rfl, hE0⟩

def numIs (n : Int) (a : Alloc) : Bool := a.num == n
def ixM : Option Nat → Int
  | none => -1
  | some i => i
def idxM (l : List Alloc) (n : Int) : Int := ixM (atNum l n)
theorem idxM_hit {l : List Alloc} {n : Int} {k : Nat} {x : Alloc} (h : (l.take k).any (numIs n) = false) (hx : l[k]? = some x) (hp : numIs n x = true) : atNum l n = some k := by
  unfold atNum
  rw [List.findIdx?_eq_some_iff_getElem]
  obtain ⟨hk, rfl⟩ := List.getElem?_eq_some_iff.1 hx
  refine ⟨hk, hp, fun j hj => ?_⟩
  simp only [List.any_eq_false] at h
  have := h l[j] (by rw [List.mem_iff_getElem?]; exact ⟨j, by rw [List.getElem?_take, if_pos hj]; simp⟩)
  simpa [numIs] using this
theorem idxM_miss {l : List Alloc} {n : Int} (h : l.any (numIs n) = false) : atNum l n = none := by
  unfold atNum
  rw [List.findIdx?_eq_none_iff]
  simpa [List.any_eq_false, numIs] using h
theorem atNum_lt {l : List Alloc} {n : Int} {i : Nat} (h : atNum l n = some i) : i < l.length ∧ (l.getD i Alloc.zero).num = n := by
  unfold atNum at h
  rw [List.findIdx?_eq_some_iff_getElem] at h
  obtain ⟨hi, hp, _⟩ := h
  refine ⟨hi, ?_⟩
  rw [List.getD_eq_getElem?_getD, List.getElem?_eq_getElem hi]
  simpa using hp
theorem any_take_succ'' {α : Type} {p : α → Bool} {l : List α} {k : Nat} {x : α} (h : (l.take k).any p = false) (hx : l[k]? = some x) (hp : p x = false) : (l.take (k + 1)).any p = false := by
  rw [List.take_add_one, hx]
  simp [List.any_append, h, hp]

set_option maxHeartbeats 800000 in
theorem ref26_At {l : List Alloc} {next : Int} {s : Value} {w : World} (n : Int) (hl : Als w s l) :
    Calls Try.prog 58 #[.agg #[s, .int .i64 next], .int .i64 n] w fun e w' => e = .returned (.int .i64 (idxM l n)) ∧ Ext w w' := by
  have hE0 := (Ext.refl w).alloc (.cells #[s, .int .i64 next] 24)
  have hl0 := hl.ext hE0
  obtain ⟨a, cp, rfl, hlc, hcm, -⟩ := hl.form
  unfold maxLen at hcm
  have hW := Lib.hid hl0
  clear hl hl0
  go_enter Try.func58, Try.ntmps58
  go_wp2
  go_loop [5] (fun iv => ∃ k : Nat, k ≤ l.length ∧ iv = .int .i64 k ∧ Hid ((l.take k).any (numIs n) = false)) (fun iv => l.length - (intOf iv).toNat)
  case atStart => exact ⟨0, Nat.zero_le _, rfl, by simp [Hid]⟩
  case round =>
    obtain ⟨k, hk, rfl, hN⟩ := hrel
    by_cases hlt : k < l.length
    · obtain ⟨x, hx⟩ : ∃ x, l[k]? = some x := ⟨l[k], by simp [hlt]⟩
      obtain ⟨b, off, sv, rfl, hbb, d0, d1, d2, hcl⟩ := hW.out.cell hx
      have hX := Lib.hid hx
      clear hx hcl
      cases h5 : x.num == n
      · have hN2 := Lib.hid (any_take_succ'' hN.out hX.out (p := numIs n) h5)
        go_wp2
        go_round
        case rel => exact ⟨k + 1, by omega, by go_num, hN2.out⟩
        case measure => simp [intOf]; omega
      · have hg := Lib.hid (idxM_hit hN.out hX.out h5)
        go_wp2
        go_ret
        exact ⟨by rw [idxM, hg.out]; rfl, hE0⟩
    · have hkl : k = l.length := by omega
      subst hkl
      have hN' := hN.out
      rw [List.take_length] at hN'
      have hg := Lib.hid (idxM_miss hN')
      clear hN'
      go_wp2
      go_ret
      exact ⟨by rw [idxM, hg.out]; rfl, hE0⟩

theorem callFunc_allocsfind (args : Array Value) (w : World) : (callFunc 95 args).run Try.prog w = .ok (.enter 95 args) w := by kernel_rfl

/-- The test of an allocation by a function value. -/
def PredA (g : Nat) (cap : Array Value) (W : World) (p : Alloc → Bool) : Prop :=
  ∀ (x : Alloc) (s : Value) (w : World), Ext W w → Calls Try.prog g (#[.agg #[.int .i64 x.num, .bool x.live, s]] ++ cap) w fun e w' => e = .returned (.bool (p x)) ∧ Ext w w'

set_option maxHeartbeats 400000 in
theorem allocs_find1 (n : Int) (B : Nat) (W : World) (hc : W.cell? ⟨B, 0, none⟩ = some (.int .i64 n)) : PredA 95 #[.pointer (some ⟨B, 0, none⟩)] W (numIs n) := by
  intro x s w hW
  obtain ⟨num, live, cs⟩ := x
  have hcw := hW.cell hc
  have hB := World.block_lt_of_cell? _ _ hcw
  have hE := (Ext.refl w).alloc (.cells #[.int .i64 num, .bool live, s] 70)
  clear hc hW
  show Calls Try.prog 95 #[.agg #[.int .i64 num, .bool live, s], .pointer (some ⟨B, 0, none⟩)] w _
  go_enter Try.func95, Try.ntmps95
  go_wp2
  go_ret
  exact ⟨rfl, hE⟩

set_option maxHeartbeats 800000 in
theorem indexFunc_alloc {g : Nat} {cap : Array Value} {p : Alloc → Bool} {l : List Alloc} {v : Value} {w : World} (hg : ∀ args w, (callFunc g args).run Try.prog w = .ok (.enter g args) w)
    (hp : PredA g cap w p) (hl : Als w v l) : Calls Try.prog 67 #[v, .func (.func g) #[] cap] w fun e w' => e = .returned (.int .i64 (ixM (l.findIdx? p))) ∧ Ext w w' := by
  obtain ⟨a, cp, rfl, hlc, hcm, -⟩ := hl.form
  unfold maxLen at hcm
  have hL := Lib.hid hl
  clear hl
  go_enter Try.func67, Try.ntmps67
  go_wp2
  go_loopw [8] (fun i wr => ∃ k : Nat, k ≤ l.length ∧ i = .int .i64 k ∧ Ext w wr ∧ Hid ((l.take k).any p = false)) (fun i _ => l.length - (intOf i).toNat)
  case atStart => exact ⟨0, Nat.zero_le _, rfl, Ext.refl _, by simp [Hid]⟩
  case round =>
    obtain ⟨k, hk, rfl, hE, hN⟩ := hrel
    by_cases hlt : k < l.length
    · obtain ⟨x, hx⟩ : ∃ x, l[k]? = some x := ⟨l[k], by simp [hlt]⟩
      obtain ⟨b, off, sv, rfl, hbb, d0, d1, d2, hcl⟩ := (hL.out.ext hE).cell hx
      have hX := Lib.hid hx
      clear hx hcl
      cases hpx : p x
      all_goals
        have hP := Lib.hid hpx
        clear hpx
        go_wp2_with fail
        refine (hp x sv wr hE).mono ?_
        rintro e w1 ⟨rfl, hE1⟩
        have hpx := hP.out
        go_wp2
      · go_roundw
        case rel => exact ⟨k + 1, by omega, by go_num, hE.trans hE1, any_take_succ'' hN.out hX.out hP.out⟩
        case measure => simp [intOf]; omega
      · go_ret
        refine ⟨?_, hE.trans hE1⟩
        have : l.findIdx? p = some k := by
          rw [List.findIdx?_eq_some_iff_getElem]
          obtain ⟨hk, rfl⟩ := List.getElem?_eq_some_iff.1 hX.out
          refine ⟨hk, hP.out, fun j hj => ?_⟩
          have h := hN.out
          simp only [List.any_eq_false] at h
          have := h l[j] (by rw [List.mem_iff_getElem?]; exact ⟨j, by rw [List.getElem?_take, if_pos hj]; simp⟩)
          simpa using this
        rw [this]; rfl
    · have hkl : k = l.length := by omega
      subst hkl
      have hN' := hN.out
      rw [List.take_length] at hN'
      have hg : Hid (l.findIdx? p = none) := Hid.mk (by rw [List.findIdx?_eq_none_iff]; simpa [List.any_eq_false] using hN')
      clear hN'
      go_wp2
      go_ret
      exact ⟨by rw [hg.out]; rfl, hE⟩

set_option maxHeartbeats 400000 in
theorem allocs_find {l : List Alloc} {next : Int} {s : Value} {w : World} (n : Int) (hl : Als w s l) :
    Calls Try.prog 71 #[.agg #[s, .int .i64 next], .int .i64 n] w fun e w' => e = .returned (.int .i64 (idxM l n)) ∧ Ext w w' := by
  have hE0 := ((Ext.refl w).alloc (.cells #[s, .int .i64 next] 24)).alloc (.cells #[.int .i64 n] 3)
  have hc : ((w.alloc (.cells #[s, .int .i64 next] 24)).alloc (.cells #[.int .i64 n] 3)).cell? ⟨w.heap.size + 1, 0, none⟩ = some (.int .i64 n) := by simp
  have hI := Lib.hid (indexFunc_alloc callFunc_allocsfind (allocs_find1 n (w.heap.size + 1) _ hc) (hl.ext hE0))
  have hmf : ∀ (fn : Fn) (first cap : Array Value) (w : World), (Instr.makeFunc fn first cap).run Try.prog w = .ok (.func fn first cap) w := fun _ _ _ _ => rfl
  obtain ⟨a, cp, rfl, -⟩ := hl.form
  clear hl hc
  go_enter Try.func71, Try.ntmps71
  go_wp2_with fail
  refine hI.out.mono ?_
  rintro e w1 ⟨rfl, hE1⟩
  go_wp2
  go_ret
  exact ⟨rfl, hE0.trans hE1⟩

end Go.Proofs.Ytiikdpfbbcnplaa
