/- Contracts: the tests of running calls, the search in them, and what compares them. -/
import Derived.Test.YtkbocenpkdaogaaDoorProg
import Derived.Test.YtkbocenpkdaogaaDoorGrdA
import Derived.BigQuiet
import Derived.Deep.QuietTactic
namespace Go.Proofs.YtkbocenpkdaogaaDoor
set_option maxRecDepth 100000
open Go.RowKit

set_option maxHeartbeats 800000 in
theorem guard_Check {l : List Int} {v : Value} {w : World} (hl : Nts w v l) : Calls Tryd.prog 20 #[v] w fun e w' => e = .returned (.int .i64 (runErr l)) ∧ w = w' := by
  obtain ⟨a, cp, rfl, hlc, hcm, -⟩ := hl.form
  unfold maxLen at hcm
  have hL := Lib.hid hl
  clear hl
  by_cases h6 : l.length ≤ 32
  · have hd : decide ((32 : Int) < (l.length : Int)) = false := decide_eq_false (by omega)
    go_enter Tryd.func20, Tryd.ntmps20
    go_wp2
    go_loop [3, 11] (fun lv iv => ∃ (k : Nat) (last : Int), k ≤ l.length ∧ iv = .int .i64 k ∧ lv = .int .i64 last ∧ Hid (okFrom 0 l = okFrom last (l.drop k))) (fun _ iv => l.length - (intOf iv).toNat)
    case atStart => exact ⟨0, 0, Nat.zero_le _, rfl, rfl, by simp [Hid]⟩
    case round =>
      obtain ⟨k, last, hk, rfl, rfl, hN⟩ := hrel
      by_cases hlt : k < l.length
      · obtain ⟨x, hx⟩ : ∃ x, l[k]? = some x := ⟨l[k], by simp [hlt]⟩
        obtain ⟨b, off, rfl, hb, c0⟩ := hL.out.cell hx
        have hst := Lib.hid (hN.out.trans (okFrom_drop hx))
        clear hx
        by_cases g1 : x ≤ last
        · have q1 : decide (x ≤ last) = true := decide_eq_true g1
          have hr : Hid (runErr l = 8) := Hid.mk (runErr_bad (by rw [okR, hst.out]; simp; omega))
          go_wp2
          go_ret
          exact ⟨by rw [hr.out]; rfl, rfl⟩
        · have q1 : decide (x ≤ last) = false := decide_eq_false g1
          by_cases g2 : 1000000 < x
          · have q2 : decide (1000000 < x) = true := decide_eq_true g2
            have hr : Hid (runErr l = 8) := Hid.mk (runErr_bad (by rw [okR, hst.out]; simp; omega))
            go_wp2
            go_ret
            exact ⟨by rw [hr.out]; rfl, rfl⟩
          · have q2 : decide (1000000 < x) = false := decide_eq_false g2
            have hst2 : Hid (okFrom 0 l = okFrom x (l.drop (k + 1))) := Hid.mk (by rw [hst.out, decide_eq_true (by omega), decide_eq_true (by omega)]; rfl)
            go_wp2
            go_round
            case rel => exact ⟨k + 1, x, by omega, by go_num, rfl, hst2.out⟩
            case measure => simp [intOf]; omega
      · have hkl : k = l.length := by omega
        subst hkl
        have hr : Hid (runErr l = 0) := Hid.mk (runErr_ok (by rw [okR, hN.out, List.drop_length]; simp [okFrom, h6]))
        go_wp2
        go_ret
        exact ⟨by rw [hr.out]; rfl, rfl⟩
  · have hd : decide ((32 : Int) < (l.length : Int)) = true := decide_eq_true (by omega)
    have hr : Hid (runErr l = 8) := Hid.mk (runErr_bad (by rw [okR]; simp; omega))
    go_enter Tryd.func20, Tryd.ntmps20
    go_wp2
    go_ret
    exact ⟨by rw [hr.out]; rfl, rfl⟩


theorem cmp_isNaN (n : Int) (w : World) : Calls Tryd.prog 82 #[.int .i64 n] w fun e w' => e = .returned (.bool false) ∧ w = w' := by
  go_enter Tryd.func82, Tryd.ntmps82
  go_wp2
  go_ret
  exact ⟨rfl, rfl⟩
theorem slices_isNaN (n : Int) (w : World) : Calls Tryd.prog 79 #[.int .i64 n] w fun e w' => e = .returned (.bool false) ∧ w = w' := by
  go_enter Tryd.func79, Tryd.ntmps79
  go_wp2
  go_ret
  exact ⟨rfl, rfl⟩
theorem cmp_Less (n m : Int) (w : World) : Calls Tryd.prog 78 #[.int .i64 n, .int .i64 m] w fun e w' => e = .returned (.bool (decide (n < m))) ∧ w = w' := by
  go_enter Tryd.func78, Tryd.ntmps78
  go_wp2_with fail
  refine (cmp_isNaN _ _).mono ?_
  rintro e w' ⟨rfl, rfl⟩
  go_wp2
  go_ret
  exact ⟨rfl, rfl⟩

/-- The two facts that a search keeps: what stands left of i is less, what stands from j on is not. -/
theorem search_end {l : List Int} {t : Int} (hs : okFrom 0 l = true) {i : Nat} (hlo : ∀ k x, k < i → l[k]? = some x → x < t) (hhi : ∀ k x, i ≤ k → l[k]? = some x → t ≤ x) : l.contains t = (l[i]? == some t) := by
  cases h : l.contains t
  · cases h2 : (l[i]? == some t)
    · rfl
    · have h3 : l[i]? = some t := by simpa using h2
      have := List.mem_of_getElem? h3
      have h4 : l.contains t = true := by simpa using this
      rw [h] at h4; cases h4
  · have hm : t ∈ l := by simpa using h
    obtain ⟨k, hk⟩ := List.mem_iff_getElem?.1 hm
    rcases Nat.lt_trichotomy k i with h1 | h1 | h1
    · have := hlo k t h1 hk; omega
    · subst h1; simp [hk]
    · have hlt : i < l.length := by have := (List.getElem?_eq_some_iff.1 hk).1; omega
      have h5 : l[i]? = some l[i] := by simp [hlt]
      have := hhi i _ (Nat.le_refl _) h5
      have := okFrom_lt hs h1 h5 hk
      omega

set_option maxHeartbeats 1600000 in
theorem binarySearch {l : List Int} {v : Value} {w : World} (t : Int) (hl : Nts w v l) (hs : okFrom 0 l = true) (hlen : l.length ≤ 1000) :
    Calls Tryd.prog 70 #[v, .int .i64 t] w (RetIB (hasR l t) w) := by
  obtain ⟨a, cp, rfl, hlc, hcm, -⟩ := hl.form
  unfold maxLen at hcm
  have hL := Lib.hid hl
  have hS := Lib.hid hs
  clear hl hs
  go_enter Tryd.func70, Tryd.ntmps70
  go_wp2
  go_loop [7, 8] (fun iv jv => ∃ i j : Nat, i ≤ j ∧ j ≤ l.length ∧ iv = .int .i64 i ∧ jv = .int .i64 j ∧ Hid ((∀ k x, k < i → l[k]? = some x → x < t) ∧ (∀ k x, j ≤ k → l[k]? = some x → t ≤ x))) (fun iv jv => (intOf jv).toNat - (intOf iv).toNat)
  case atStart => exact ⟨0, l.length, Nat.zero_le _, Nat.le_refl _, rfl, rfl, ⟨fun k x h => by omega, fun k x h hx => by rw [List.getElem?_eq_none h] at hx; cases hx⟩⟩
  case round =>
    obtain ⟨i, j, hij, hj, rfl, rfl, hN⟩ := hrel
    by_cases hlt : i < j
    · obtain ⟨x, hx⟩ : ∃ x, l[(i + j) / 2]? = some x := ⟨l[(i + j) / 2]'(by omega), by simp⟩
      obtain ⟨b, off, rfl, hb, c0⟩ := hL.out.cell hx
      have hi0 : (0 : Int) ≤ ((i : Int) + (j : Int)) / 2 := by omega
      have hi1 : ((i : Int) + (j : Int)) / 2 < (l.length : Int) := by omega
      have hmid : Hid (i ≤ (i + j) / 2 ∧ (i + j) / 2 < j) := Hid.mk (by omega)
      by_cases hxt : x < t
      · have hq : Hid (decide (x < t) = true) := Hid.mk (decide_eq_true hxt)
        have hR : Hid ((∀ k y, k < (i + j) / 2 + 1 → l[k]? = some y → y < t) ∧ (∀ k y, j ≤ k → l[k]? = some y → t ≤ y)) := Hid.mk ⟨fun k y hk hy => by
          rcases Nat.lt_or_eq_of_le (Nat.lt_succ_iff.1 hk) with h1 | h1
          · have := okFrom_lt hS.out h1 hy hx; omega
          · subst h1; rw [hx] at hy; cases hy; exact hxt, hN.out.2⟩
        clear hx hxt
        go_wp2_with fail
        refine (cmp_Less _ _ _).mono ?_
        rintro e w' ⟨rfl, rfl⟩
        rw [hq.out]
        go_wp2
        go_round
        case rel => exact ⟨(i + j) / 2 + 1, j, by have := hmid.out; omega, hj, by congr 1, rfl, hR.out⟩
        case measure => have := hmid.out; simp [intOf]; omega
      · have hq : Hid (decide (x < t) = false) := Hid.mk (decide_eq_false hxt)
        have hR : Hid ((∀ k y, k < i → l[k]? = some y → y < t) ∧ (∀ k y, (i + j) / 2 ≤ k → l[k]? = some y → t ≤ y)) := Hid.mk ⟨hN.out.1, fun k y hk hy => by
          rcases Nat.lt_or_eq_of_le hk with h1 | h1
          · have := okFrom_lt hS.out h1 hx hy; omega
          · subst h1; rw [hx] at hy; cases hy; omega⟩
        clear hx hxt
        go_wp2_with fail
        refine (cmp_Less _ _ _).mono ?_
        rintro e w' ⟨rfl, rfl⟩
        rw [hq.out]
        go_wp2
        go_round
        case rel => exact ⟨i, (i + j) / 2, by have := hmid.out; omega, by have := hmid.out; omega, rfl, by congr 1, hR.out⟩
        case measure => have := hmid.out; simp [intOf]; omega
    · obtain rfl : i = j := by omega
      have hend := search_end hS.out hN.out.1 hN.out.2
      by_cases hil : i < l.length
      · obtain ⟨x, hx⟩ : ∃ x, l[i]? = some x := ⟨l[i], by simp [hil]⟩
        obtain ⟨b, off, rfl, hb, c0⟩ := hL.out.cell hx
        have hi0 : (0 : Int) ≤ (i : Int) := by omega
        have hi1 : (i : Int) < (l.length : Int) := by omega
        have hd : decide ((i : Int) < (l.length : Int)) = true := decide_eq_true (by omega)
        rw [hx] at hend
        have hend' : Hid (hasR l t = (x == t)) := Hid.mk (by rw [hasR, hend]; rfl)
        clear hx hend
        cases hxt : x == t
        · rw [hxt] at hend'
          go_wp2_with (go_at_call 79; refine (slices_isNaN _ _).mono ?_; rintro e w' ⟨rfl, rfl⟩)
          go_ret2
          exact ⟨_, by rw [hend'.out]; rfl, rfl⟩
        · rw [hxt] at hend'
          go_wp2_with (go_at_call 79; refine (slices_isNaN _ _).mono ?_; rintro e w' ⟨rfl, rfl⟩)
          go_ret2
          exact ⟨_, by rw [hend'.out]; rfl, rfl⟩
      · have hd : decide ((i : Int) < (l.length : Int)) = false := decide_eq_false (by omega)
        rw [List.getElem?_eq_none (by omega)] at hend
        have hend' : Hid (hasR l t = false) := Hid.mk (by rw [hasR, hend]; rfl)
        clear hend
        go_wp2
        go_ret2
        exact ⟨_, by rw [hend'.out]; rfl, rfl⟩



end Go.Proofs.YtkbocenpkdaogaaDoor
