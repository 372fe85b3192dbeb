/- Contracts: Leave of the reference; Enter and Held, the program's and the reference's. -/
import Derived.Test.YtkbocenpkdaogaaDoorGrdC
namespace Go.Proofs.YtkbocenpkdaogaaDoor
set_option maxRecDepth 100000
open Go.RowKit


/-- The last number of a list that is not empty. -/
theorem last_is {l : List Int} (h : l.length ≠ 0) : l[l.length - 1]? = some (lastR l) := by
  obtain ⟨x, hx⟩ : ∃ x, l[l.length - 1]? = some x := ⟨l[l.length - 1]'(by omega), by simp⟩
  rw [lastR_get hx]; exact hx
theorem last_low {l : List Int} (hok : okR l = true) : 0 ≤ lastR l ∧ (l.length ≠ 0 → 1 ≤ lastR l) := by
  by_cases h : l.length = 0
  · have : l = [] := List.eq_nil_of_length_eq_zero h
    subst this
    exact ⟨by simp [lastR], fun h' => absurd rfl h'⟩
  · have := okFrom_all (okR_from hok) _ (List.mem_of_getElem? (last_is h))
    omega

set_option maxHeartbeats 1600000 in
theorem guard_Enter {l : List Int} {v : Value} {w : World} (c : Int) (hl : Nts w v l) : Calls Tryd.prog 14 #[v, .int .i64 c] w (RetNN w (enterR l c).1 (enterR l c).2) := by
  have hL := Lib.hid hl
  obtain ⟨a, cp, rfl, hlc, hcm, -⟩ := hl.form
  unfold maxLen at hcm
  clear hl
  cases hok : okR l
  · have h8 := Lib.hid (runErr_bad hok)
    have hres := Lib.hid (enterR_bad (c := c) hok)
    clear hok
    go_enter Tryd.func14, Tryd.ntmps14
    go_wp2_with fail
    refine (guard_Check hL.out).mono ?_
    rintro e w1 ⟨rfl, rfl⟩
    rw [h8.out]
    go_wp2
    go_ret2
    rw [hres.out]
    exact ⟨_, rfl, Nts.nil _, Ext.refl _⟩
  · have h0 := Lib.hid (runErr_ok hok)
    have hlen := okR_len hok
    obtain ⟨last, hlast⟩ : ∃ n, lastR l = n := ⟨_, rfl⟩
    -- the last number, or 0
    have hcase : (decide (0 < l.length) = false ∧ last = 0) ∨ (decide (0 < l.length) = true ∧ ∃ b off, a = some ⟨b, off, none⟩ ∧ w.cell? ⟨b, off + (l.length - 1), none⟩ = some (.int .i64 last) ∧ (0 : Int) ≤ (l.length : Int) - 1 ∧ 1 ≤ (l.length : Int) ∧ 1 ≤ l.length) := by
      by_cases hz : l.length = 0
      · left
        have : l = [] := List.eq_nil_of_length_eq_zero hz
        subst this
        exact ⟨rfl, hlast.symm.trans rfl⟩
      · right
        obtain ⟨b, off, rfl, _, hc⟩ := hL.out.cell (last_is hz)
        rw [hlast] at hc
        exact ⟨decide_eq_true (by omega), b, off, rfl, hc, by omega, by omega, by omega⟩
    by_cases hc : c ≤ last ∨ 1000000 < c
    · have hres := Lib.hid (enterR_low hok (by rw [hlast]; exact hc))
      have hq : decide (c ≤ last) = true ∨ decide (c ≤ last) = false ∧ decide (1000000 < c) = true := by
        by_cases h : c ≤ last
        · exact .inl (decide_eq_true h)
        · exact .inr ⟨decide_eq_false h, decide_eq_true (by omega)⟩
      clear hok hc hlast
      rcases hcase with ⟨g1, rfl⟩ | ⟨g1, b, off, rfl, g2, g3, g4, g5⟩
      all_goals
        rcases hq with q1 | ⟨q1, q2⟩
        all_goals
          go_enter Tryd.func14, Tryd.ntmps14
          go_wp2_with fail
          refine (guard_Check hL.out).mono ?_
          rintro e w1 ⟨rfl, rfl⟩
          rw [h0.out]
          go_wp2
          go_ret2
          rw [hres.out]
          exact ⟨_, rfl, Nts.nil _, Ext.refl _⟩
    · have q1 : decide (c ≤ last) = false := decide_eq_false (by omega)
      have q2 : decide (1000000 < c) = false := decide_eq_false (by omega)
      by_cases hf : l.length = 32
      · have hres := Lib.hid (enterR_full hok (by rw [hlast]; exact hc) hf)
        have q3 : ((l.length : Int) == 32) = true := beq_iff_eq.2 (by omega)
        clear hok hc hlast hf
        rcases hcase with ⟨g1, rfl⟩ | ⟨g1, b, off, rfl, g2, g3, g4, g5⟩
        all_goals
          go_enter Tryd.func14, Tryd.ntmps14
          go_wp2_with fail
          refine (guard_Check hL.out).mono ?_
          rintro e w1 ⟨rfl, rfl⟩
          rw [h0.out]
          go_wp2
          go_ret2
          rw [hres.out]
          exact ⟨_, rfl, Nts.nil _, Ext.refl _⟩
      · have hres := Lib.hid (enterR_ok hok (by rw [hlast]; exact hc) hf)
        have q3 : ((l.length : Int) == 32) = false := beq_eq_false_iff_ne.2 (by omega)
        obtain ⟨i, z, hi, hz, hi3, hz3, hby⟩ := Int.infoE
        have hz := Lib.hid hz; have hi3 := Lib.hid hi3; have hz3 := Lib.hid hz3; have hby := Lib.hid hby; have hi := Lib.hid hi
        clear hok hc hlast hf
        rcases hcase with ⟨g1, rfl⟩ | ⟨g1, b, off, rfl, g2, g3, g4, g5⟩
        all_goals
          go_enter Tryd.func14, Tryd.ntmps14
          go_wp2_with fail
          refine (guard_Check hL.out).mono ?_
          rintro e w1 ⟨rfl, rfl⟩
          rw [h0.out]
          go_wp2_with fail
          refine (clone_Ints hL.out (by omega)).mono ?_
          rintro e w2 ⟨v2, rfl, hO, hE⟩
          have hE2 := (Ext.refl w2).alloc (.cells #[.int .i64 c] 3)
          have hx : Sl (w2.alloc (.cells #[.int .i64 c] 3)) 1 (.slice (some ⟨w2.heap.size, 0, none⟩) 1 1) 1 (irow c) := (Own.lit' (B := 0) (e := 3) (k := 1) w2 #[.int .i64 c] 1 (Nat.zero_le _) (by simp [maxLen]) rfl).sl
          have hO' := Lib.hid (hO.ext hE2)
          have hx' := Lib.hid hx
          have hEs := Lib.hid (hE.trans hE2).size
          clear hO hx
          go_wp2_with (at_builtin; refine Hid.out ?_)
          refine Hid.mk ?_
          refine wpList_append_any rfl _ _ 37 37 rfl rfl rfl Tryd.underlying37 Tryd.underlying37 hi.out hz.out hi3.out hz3.out hO'.out hx'.out (by simp [irow, Value.oneCell']) (by simp [maxLen]; omega) (by rw [hby.out]; omega) hEs.out ?_
          intro v' w' hO3 hK _ _
          go_wp2
          go_ret2
          rw [hres.out]
          refine ⟨_, rfl, ?_, Below.trans (hE.trans hE2) hK.below⟩
          have := hO3.sl
          unfold Nts
          rw [List.length_append, List.flatMap_append]
          exact this

end Go.Proofs.YtkbocenpkdaogaaDoor
