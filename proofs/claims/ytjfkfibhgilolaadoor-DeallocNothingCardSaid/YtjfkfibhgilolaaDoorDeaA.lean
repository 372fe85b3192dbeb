/- Contracts: the held items of layer 34: holds, free. (printed by gen/dea34.py) -/
import Derived.Test.YtjfkfibhgilolaaDoorStkD
import Derived.Test.YtjfkfibhgilolaaDoorLaw31B
import Derived.WalkMore
import Derived.Deep.LoopGhost
namespace Go.Proofs.YtjfkfibhgilolaaDoor
set_option maxRecDepth 100000
open Go.RowKit

def freeB (l : List (List Item)) (run : List Int) : Bool := !(l.any fun s => s.any (heldBy run))
def keptL (l : List (List Item)) (run : List Int) : List Item := l.flatMap fun s => s.filter (heldBy run)

/-- The two facts that a search keeps: what stands left of i is less, what stands from j on is not. -/
theorem search_endC {l : List Int} {t : Int} (hs : okFrom 0 l = true) {i : Nat} (hlo : ∀ k x, k < i → l[k]? = some x → x < t) (hhi : ∀ k x, i ≤ k → l[k]? = some x → t ≤ x) : l.contains t = (l[i]? == some t) := by
  cases h : l.contains t
  · cases h2 : (l[i]? == some t)
    · rfl
    · have h3 : l[i]? = some t := by simpa using h2
      have := List.mem_of_getElem? h3
      have h4 : l.contains t = true := by simpa using this
      rw [h] at h4; cases h4
  · have hm : t ∈ l := by simpa using h
    obtain ⟨k, hk⟩ := List.mem_iff_getElem?.1 hm
    rcases Nat.lt_trichotomy k i with h1 | h1 | h1
    · have := hlo k t h1 hk; omega
    · subst h1; simp [hk]
    · have hlt : i < l.length := by have := (List.getElem?_eq_some_iff.1 hk).1; omega
      have h5 : l[i]? = some l[i] := by simp [hlt]
      have := hhi i _ (Nat.le_refl _) h5
      have := okFrom_lt hs h1 h5 hk
      omega

set_option maxHeartbeats 1600000 in
theorem binarySearchC {l : List Int} {v : Value} {w : World} (t : Int) (hl : Nts w v l) (hs : okFrom 0 l = true) (hlen : l.length ≤ 1000) :
    Calls Tryd.prog 89 #[v, .int .i64 t] w (RetIB (hasR l t) w) := by
  obtain ⟨a, cp, rfl, hlc, hcm, -⟩ := hl.form
  unfold maxLen at hcm
  have hL := Lib.hid hl
  have hS := Lib.hid hs
  clear hl hs
  go_enter Tryd.func89, Tryd.ntmps89
  go_wp2
  go_loop [7, 8] (fun iv jv => ∃ i j : Nat, i ≤ j ∧ j ≤ l.length ∧ iv = .int .i64 i ∧ jv = .int .i64 j ∧ Hid ((∀ k x, k < i → l[k]? = some x → x < t) ∧ (∀ k x, j ≤ k → l[k]? = some x → t ≤ x))) (fun iv jv => (intOf jv).toNat - (intOf iv).toNat)
  case atStart => exact ⟨0, l.length, Nat.zero_le _, Nat.le_refl _, rfl, rfl, ⟨fun k x h => by omega, fun k x h hx => by rw [List.getElem?_eq_none h] at hx; cases hx⟩⟩
  case round =>
    obtain ⟨i, j, hij, hj, rfl, rfl, hN⟩ := hrel
    by_cases hlt : i < j
    · obtain ⟨x, hx⟩ : ∃ x, l[(i + j) / 2]? = some x := ⟨l[(i + j) / 2]'(by omega), by simp⟩
      obtain ⟨b, off, rfl, hb, c0⟩ := hL.out.cell hx
      have hi0 : (0 : Int) ≤ ((i : Int) + (j : Int)) / 2 := by omega
      have hi1 : ((i : Int) + (j : Int)) / 2 < (l.length : Int) := by omega
      have hmid : Hid (i ≤ (i + j) / 2 ∧ (i + j) / 2 < j) := Hid.mk (by omega)
      by_cases hxt : x < t
      · have hq : Hid (decide (x < t) = true) := Hid.mk (decide_eq_true hxt)
        have hR : Hid ((∀ k y, k < (i + j) / 2 + 1 → l[k]? = some y → y < t) ∧ (∀ k y, j ≤ k → l[k]? = some y → t ≤ y)) := Hid.mk ⟨fun k y hk hy => by
          rcases Nat.lt_or_eq_of_le (Nat.lt_succ_iff.1 hk) with h1 | h1
          · have := okFrom_lt hS.out h1 hy hx; omega
          · subst h1; rw [hx] at hy; cases hy; exact hxt, hN.out.2⟩
        clear hx hxt
        go_wp2_with fail
        refine (cmp_Less _ _ _).mono ?_
        rintro e w' ⟨rfl, rfl⟩
        rw [hq.out]
        go_wp2
        go_round
        case rel => exact ⟨(i + j) / 2 + 1, j, by have := hmid.out; omega, hj, by congr 1, rfl, hR.out⟩
        case measure => have := hmid.out; simp [intOf]; omega
      · have hq : Hid (decide (x < t) = false) := Hid.mk (decide_eq_false hxt)
        have hR : Hid ((∀ k y, k < i → l[k]? = some y → y < t) ∧ (∀ k y, (i + j) / 2 ≤ k → l[k]? = some y → t ≤ y)) := Hid.mk ⟨hN.out.1, fun k y hk hy => by
          rcases Nat.lt_or_eq_of_le hk with h1 | h1
          · have := okFrom_lt hS.out h1 hx hy; omega
          · subst h1; rw [hx] at hy; cases hy; omega⟩
        clear hx hxt
        go_wp2_with fail
        refine (cmp_Less _ _ _).mono ?_
        rintro e w' ⟨rfl, rfl⟩
        rw [hq.out]
        go_wp2
        go_round
        case rel => exact ⟨i, (i + j) / 2, by have := hmid.out; omega, by have := hmid.out; omega, rfl, by congr 1, hR.out⟩
        case measure => have := hmid.out; simp [intOf]; omega
    · obtain rfl : i = j := by omega
      have hend := search_endC hS.out hN.out.1 hN.out.2
      by_cases hil : i < l.length
      · obtain ⟨x, hx⟩ : ∃ x, l[i]? = some x := ⟨l[i], by simp [hil]⟩
        obtain ⟨b, off, rfl, hb, c0⟩ := hL.out.cell hx
        have hi0 : (0 : Int) ≤ (i : Int) := by omega
        have hi1 : (i : Int) < (l.length : Int) := by omega
        have hd : decide ((i : Int) < (l.length : Int)) = true := decide_eq_true (by omega)
        rw [hx] at hend
        have hend' : Hid (hasR l t = (x == t)) := Hid.mk (by rw [hasR, hend]; rfl)
        clear hx hend
        cases hxt : x == t
        · rw [hxt] at hend'
          go_wp2_with (go_at_call 94; refine (slices_isNaN _ _).mono ?_; rintro e w' ⟨rfl, rfl⟩)
          go_ret2
          exact ⟨_, by rw [hend'.out]; rfl, rfl⟩
        · rw [hxt] at hend'
          go_wp2_with (go_at_call 94; refine (slices_isNaN _ _).mono ?_; rintro e w' ⟨rfl, rfl⟩)
          go_ret2
          exact ⟨_, by rw [hend'.out]; rfl, rfl⟩
      · have hd : decide ((i : Int) < (l.length : Int)) = false := decide_eq_false (by omega)
        rw [List.getElem?_eq_none (by omega)] at hend
        have hend' : Hid (hasR l t = false) := Hid.mk (by rw [hasR, hend]; rfl)
        clear hend
        go_wp2
        go_ret2
        exact ⟨_, by rw [hend'.out]; rfl, rfl⟩

theorem callFunc_holds (args : Array Value) (w : World) : (callFunc 77 args).run Tryd.prog w = .ok (.enter 77 args) w := by kernel_rfl

set_option maxHeartbeats 400000 in
theorem dealloc_holds {run : List Int} {v : Value} {w : World} (x : Item) (hl : Nts w v run) (hok : okR run = true) :
    Calls Tryd.prog 77 #[v, x.val] w fun e w' => e = .returned (.bool (heldBy run x)) ∧ Ext w w' := by
  obtain ⟨p, t, c⟩ := x
  have hE := (Ext.refl w).alloc (.cells #[.int .u8 p, .int .i64 t, .int .i64 c] 23)
  have hBS := Lib.hid (binarySearchC c (hl.ext hE) (okR_from hok) (by have := okR_len hok; omega))
  obtain ⟨a, cp, rfl, -⟩ := hl.form
  clear hl hok
  unfold Item.val
  go_enter Tryd.func77, Tryd.ntmps77
  go_wp2_with fail
  refine hBS.out.mono ?_
  rintro e w1 ⟨i, rfl, rfl⟩
  go_wp2
  go_ret
  exact ⟨rfl, hE⟩

set_option maxHeartbeats 1600000 in
theorem dealloc_free {l : List (List Item)} {run : List Int} {num : Int} {s v : Value} {w : World} (hl : Sts w s l) (hr : Nts w v run) (hok : okR run = true) :
    Calls Tryd.prog 73 #[.agg #[.int .i64 num, s], v] w fun e w' => e = .returned (.bool (freeB l run)) ∧ Ext w w' := by
  have hE0 := (Ext.refl w).alloc (.cells #[.int .i64 num, s] 56)
  have hl0 := hl.ext hE0
  have hr0 := hr.ext hE0
  obtain ⟨a, cp, rfl, hlc, hcm, -⟩ := hl.form
  obtain ⟨a2, cp2, rfl, -⟩ := hr.form
  unfold maxLen at hcm
  have hW := Lib.hid hl0
  have hR := Lib.hid hr0
  replace hok := Lib.hid hok
  clear hl hl0 hr hr0
  go_enter Tryd.func73, Tryd.ntmps73
  go_wp2
  go_step3
  go_wp2
  go_step3
  go_wp2
  obtain ⟨w1, hw1⟩ : ∃ w1, w.alloc (.cells #[.int .i64 num, .slice a l.length cp] 56) = w1 := ⟨_, rfl⟩
  rw [hw1] at hE0 hW hR ⊢
  clear hw1
  go_loopw [6, 16] (fun ov iv wr => ∃ k : Nat, k ≤ l.length ∧ iv = .int .i64 k ∧ ov = .bool true ∧ Ext w1 wr ∧ Hid ((l.take k).any (fun s => s.any (heldBy run)) = false)) (fun _ iv _ => l.length - (intOf iv).toNat)
  case atStart => exact ⟨0, Nat.zero_le _, rfl, rfl, Ext.refl _, by simp [Hid]⟩
  case round =>
    obtain ⟨k, hk, rfl, rfl, hE, hN⟩ := hrel
    by_cases hlt : k < l.length
    · obtain ⟨x, hx⟩ : ∃ x, l[k]? = some x := ⟨l[k], by simp [hlt]⟩
      obtain ⟨b, off, sv, rfl, hbb, d0, hcl⟩ := (hW.out.ext hE).cell hx
      have hX := Lib.hid hx
      obtain ⟨ca, ccp, rfl, hclc, hccm, -⟩ := hcl.form
      unfold maxLen at hccm
      have hC := Lib.hid hcl
      clear hx hbb hcl
      go_wp2
      obtain ⟨w2, hw2⟩ : ∃ w2, wr = w2 := ⟨_, rfl⟩
      have hE2 : Ext w1 w2 := hw2 ▸ hE
      have hC2 : Hid (Its w2 (.slice ca x.length ccp) x) := hw2 ▸ hC
      rw [hw2]
      clear hw2 hC
      go_loopw [6, 22] (fun ov jv wq => ∃ j : Nat, j ≤ x.length ∧ jv = .int .i64 j ∧ ov = .bool true ∧ Ext w2 wq ∧ Hid ((x.take j).any (heldBy run) = false)) (fun _ jv _ => x.length - (intOf jv).toNat)
      case atStart => exact ⟨0, Nat.zero_le _, rfl, rfl, Ext.refl _, by simp [Hid]⟩
      case round =>
        obtain ⟨j, hj, rfl, rfl, hY, hM⟩ := hrel
        by_cases hjl : j < x.length
        · obtain ⟨y, hy⟩ : ∃ y, x[j]? = some y := ⟨x[j], by simp [hjl]⟩
          obtain ⟨b2, off2, rfl, hbb2, c0, c1, c2⟩ := (hC2.out.ext hY).cell hy
          have hYl := Lib.hid hy
          obtain ⟨yp, yt, yc⟩ := y
          have hEa := (Ext.refl wr).alloc (.cells #[.int .u8 yp, .int .i64 yt, .int .i64 yc] 23)
          clear hy hbb2
          cases hh : heldBy run ⟨yp, yt, yc⟩
          · have hh' := Lib.hid hh
            have hM2 := Lib.hid (sany_take_succ hM.out hYl.out hh)
            clear hh
            go_wp2_with fail
            refine (dealloc_holds ⟨yp, yt, yc⟩ (((hR.out.ext hE2).ext hY).ext hEa) hok.out).mono ?_
            rintro e w4 ⟨rfl, hE4⟩
            rw [hh'.out]
            go_wp2
            go_roundw
            case rel => exact ⟨j + 1, by omega, by go_num, rfl, (hY.trans hEa).trans hE4, hM2.out⟩
            case measure => simp [intOf]; omega
          · have hh' := Lib.hid hh
            have hres : Hid (freeB l run = false) := Hid.mk (by unfold freeB; rw [sany_hit hX.out (sany_hit hYl.out hh)]; rfl)
            clear hh
            go_wp2_with fail
            refine (dealloc_holds ⟨yp, yt, yc⟩ (((hR.out.ext hE2).ext hY).ext hEa) hok.out).mono ?_
            rintro e w4 ⟨rfl, hE4⟩
            rw [hh'.out]
            go_wp2
            (try rw [Exit.noGoto_ret])
            go_ret
            exact ⟨by rw [hres.out] <;> rfl, (((hE0.trans hE2).trans hY).trans hEa).trans hE4⟩
        · have hje : j = x.length := by omega
          subst hje
          have hN2 := Lib.hid (sany_take_succ (p := fun s : List Item => s.any (heldBy run)) hN.out hX.out (by have := hM.out; rwa [List.take_length] at this))
          go_wp2
          go_roundw
          case rel => exact ⟨k + 1, by omega, by go_num, rfl, hE2.trans hY, hN2.out⟩
          case measure => simp [intOf]; omega
    · have hkl : k = l.length := by omega
      subst hkl
      have hres : Hid (freeB l run = true) := Hid.mk (by
        unfold freeB
        have := hN.out
        rw [List.take_length] at this
        rw [this]; rfl)
      go_wp2
      (try rw [Exit.noGoto_ret])
      go_ret
      exact ⟨by rw [hres.out] <;> rfl, hE0.trans hE⟩

end Go.Proofs.YtjfkfibhgilolaaDoor
