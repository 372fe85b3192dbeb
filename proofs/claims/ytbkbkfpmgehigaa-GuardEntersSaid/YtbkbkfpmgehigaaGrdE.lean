/- Contracts: Enter of the reference; Held, the program's and the reference's. -/
import Derived.Test.YtbkbkfpmgehigaaGrdD
namespace Go.Proofs.Ytbkbkfpmgehigaa
open Go.RowKit

set_option maxHeartbeats 1600000 in
theorem ref31_Enter {l : List Int} {v : Value} {w : World} (c : Int) (hl : Nts w v l) : Calls Try.prog 6 #[v, .int .i64 c] w (RetNN w (enterR l c).1 (enterR l c).2) := by
  have hL := Lib.hid hl
  obtain ⟨a, cp, rfl, hlc, hcm, -⟩ := hl.form
  unfold maxLen at hcm
  clear hl
  cases hok : okR l
  · have h8 := Lib.hid (runErr_bad hok)
    have hres := Lib.hid (enterR_bad (c := c) hok)
    clear hok
    go_enter Try.func6, Try.ntmps6
    go_wp2_with fail
    refine (ref31_Check hL.out).mono ?_
    rintro e w1 ⟨rfl, rfl⟩
    rw [h8.out]
    go_wp2
    go_ret2
    rw [hres.out]
    exact ⟨_, rfl, Nts.nil _, Ext.refl _⟩
  · have h0 := Lib.hid (runErr_ok hok)
    have hlen := okR_len hok
    have hlow := last_low hok
    obtain ⟨last, hlast⟩ : ∃ n, lastR l = n := ⟨_, rfl⟩
    rw [hlast] at hlow
    have hlz : l.length = 0 → last = 0 := fun hz => by
      have : l = [] := List.eq_nil_of_length_eq_zero hz
      subst this
      exact hlast.symm.trans rfl
    have hcase : decide (0 < l.length) = false ∨ (decide (0 < l.length) = true ∧ ∃ b off, a = some ⟨b, off, none⟩ ∧ w.cell? ⟨b, off + (l.length - 1), none⟩ = some (.int .i64 last) ∧ (0 : Int) ≤ (l.length : Int) - 1 ∧ 1 ≤ (l.length : Int) ∧ 1 ≤ l.length) := by
      by_cases hz : l.length = 0
      · exact .inl (decide_eq_false (by omega))
      · right
        obtain ⟨b, off, rfl, _, hc⟩ := hL.out.cell (last_is hz)
        rw [hlast] at hc
        exact ⟨decide_eq_true (by omega), b, off, rfl, hc, by omega, by omega, by omega⟩
    by_cases hc : c ≤ last ∨ 1000000 < c
    · have hres := Lib.hid (enterR_low hok (by rw [hlast]; exact hc))
      by_cases h1 : c < 1
      · have q1 : decide (c < 1) = true := decide_eq_true h1
        clear hok hc hlast hlz hcase hlow
        go_enter Try.func6, Try.ntmps6
        go_wp2_with fail
        refine (ref31_Check hL.out).mono ?_
        rintro e w1 ⟨rfl, rfl⟩
        rw [h0.out]
        go_wp2
        go_ret2
        rw [hres.out]
        exact ⟨_, rfl, Nts.nil _, Ext.refl _⟩
      · have q1 : decide (c < 1) = false := decide_eq_false h1
        by_cases h2 : 1000000 < c
        · have q2 : decide (1000000 < c) = true := decide_eq_true h2
          clear hok hc hlast hlz hcase hlow
          go_enter Try.func6, Try.ntmps6
          go_wp2_with fail
          refine (ref31_Check hL.out).mono ?_
          rintro e w1 ⟨rfl, rfl⟩
          rw [h0.out]
          go_wp2
          go_ret2
          rw [hres.out]
          exact ⟨_, rfl, Nts.nil _, Ext.refl _⟩
        · have q2 : decide (1000000 < c) = false := decide_eq_false h2
          have q3 : decide (c ≤ last) = true := decide_eq_true (by omega)
          rcases hcase with g1 | ⟨g1, b, off, rfl, g2, g3, g4, g5⟩
          · exfalso
            have : l.length = 0 := by simpa using g1
            have := hlz this
            omega
          · clear hok hc hlast hlz hlow
            go_enter Try.func6, Try.ntmps6
            go_wp2_with fail
            refine (ref31_Check hL.out).mono ?_
            rintro e w1 ⟨rfl, rfl⟩
            rw [h0.out]
            go_wp2
            go_ret2
            rw [hres.out]
            exact ⟨_, rfl, Nts.nil _, Ext.refl _⟩
    · have q1 : decide (c < 1) = false := decide_eq_false (by omega)
      have q2 : decide (1000000 < c) = false := decide_eq_false (by omega)
      have q3 : decide (c ≤ last) = false := decide_eq_false (by omega)
      by_cases hf : l.length = 32
      · have hres := Lib.hid (enterR_full hok (by rw [hlast]; exact hc) hf)
        have q4 : ((l.length : Int) == 32) = true := beq_iff_eq.2 (by omega)
        clear hok hc hlast hlz hlow hf
        rcases hcase with g1 | ⟨g1, b, off, rfl, g2, g3, g4, g5⟩
        all_goals
          go_enter Try.func6, Try.ntmps6
          go_wp2_with fail
          refine (ref31_Check hL.out).mono ?_
          rintro e w1 ⟨rfl, rfl⟩
          rw [h0.out]
          go_wp2
          go_ret2
          rw [hres.out]
          exact ⟨_, rfl, Nts.nil _, Ext.refl _⟩
      · have hres := Lib.hid (enterR_ok hok (by rw [hlast]; exact hc) hf)
        have q4 : ((l.length : Int) == 32) = false := beq_eq_false_iff_ne.2 (by omega)
        obtain ⟨i, z, hi, hz, hi3, hz3, hby⟩ := Int.infoE
        have hz := Lib.hid hz; have hi3 := Lib.hid hi3; have hz3 := Lib.hid hz3; have hby := Lib.hid hby; have hi := Lib.hid hi
        have hE := (Ext.refl w).alloc (.cells #[] 3)
        have hO := Own.made w w.heap.size 3 1 (Nat.le_refl _)
        have hx := Lib.hid (hL.out.ext hE)
        clear hok hc hlast hlz hlow hf
        rcases hcase with g1 | ⟨g1, b, off, rfl, g2, g3, g4, g5⟩
        all_goals
          go_enter Try.func6, Try.ntmps6
          go_wp2_with fail
          refine (ref31_Check hL.out).mono ?_
          rintro e w1 ⟨rfl, rfl⟩
          rw [h0.out]
          go_wp2_with (at_builtin; refine Hid.out ?_)
          refine Hid.mk ?_
          refine wpList_append_any rfl _ _ 22 22 rfl rfl rfl Try.underlying22 Try.underlying22 hi.out hz.out hi3.out hz3.out hO hx.out (Nts.one _) (by simp [maxLen]; omega) (by rw [hby.out]; omega) hE.size ?_
          intro v2 w2 hO2 hK2 _ _
          simp only [Nat.zero_add, List.nil_append] at hO2
          have hE2 : Ext w w2 := Below.trans hE hK2.below
          have hE3 := (Ext.refl w2).alloc (.cells #[.int .i64 c] 3)
          have hx3 : Sl (w2.alloc (.cells #[.int .i64 c] 3)) 1 (.slice (some ⟨w2.heap.size, 0, none⟩) 1 1) 1 (irow c) := (Own.lit' (B := 0) (e := 3) (k := 1) w2 #[.int .i64 c] 1 (Nat.zero_le _) (by simp [maxLen]) rfl).sl
          have hO3 := Lib.hid (hO2.ext hE3)
          have hx3' := Lib.hid hx3
          have hEs := Lib.hid (hE2.trans hE3).size
          have hE23 := Lib.hid (hE2.trans hE3)
          clear hO2 hx3 hK2
          go_wp2_with (at_builtin; refine Hid.out ?_)
          refine Hid.mk ?_
          refine wpList_append_any rfl _ _ 22 22 rfl rfl rfl Try.underlying22 Try.underlying22 hi.out hz.out hi3.out hz3.out hO3.out hx3'.out (by simp [irow, Value.oneCell']) (by simp [maxLen]; omega) (by rw [hby.out]; omega) hEs.out ?_
          intro v' w' hO4 hK _ _
          go_wp2
          go_ret2
          rw [hres.out]
          refine ⟨_, rfl, ?_, Below.trans hE23.out hK.below⟩
          have := hO4.sl
          unfold Nts
          rw [List.length_append, List.flatMap_append]
          exact this

theorem heldR_bad {l : List Item} {run : List Int} (h : okR run = false) : heldR l run = (0, 8) := by simp [heldR, h]
theorem heldR_item {l : List Item} {run : List Int} (h : okR run = true) (hi : l.all Item.ok = false) : heldR l run = (0, 8) := by simp [heldR, h, hi]
theorem heldR_none {l : List Item} {run : List Int} (h : okR run = true) (hi : l.all Item.ok = true) (hf : firstR l run = none) : heldR l run = (0, 6) := by simp [heldR, h, hi, hf]
theorem heldR_some {l : List Item} {run : List Int} {i : Nat} (h : okR run = true) (hi : l.all Item.ok = true) (hf : firstR l run = some i) : heldR l run = ((i : Int), 0) := by simp [heldR, h, hi, hf]
theorem chk_one (x : Item) : chk [x] = if x.ok then 0 else 8 := by simp [chk, okS]

set_option maxHeartbeats 1600000 in
theorem guard_Held {l : List Item} {run : List Int} {v u : Value} {w : World} (hl : Its w v l) (hr : Nts w u run) :
    Calls Try.prog 9 #[v, u] w fun e w' => e = .returned (.tuple #[.int .i64 (heldR l run).1, .int .i64 (heldR l run).2]) ∧ Ext w w' := by
  have hL := Lib.hid hl
  have hR := Lib.hid hr
  obtain ⟨a, cp, rfl, hlc, hcm, -⟩ := hl.form
  obtain ⟨a2, cp2, rfl, -⟩ := hr.form
  unfold maxLen at hcm
  clear hl hr
  cases hok : okR run
  · have h8 := Lib.hid (runErr_bad hok)
    have hres := Lib.hid (heldR_bad (l := l) hok)
    clear hok
    go_enter Try.func9, Try.ntmps9
    go_wp2_with fail
    refine (guard_Check hR.out).mono ?_
    rintro e w1 ⟨rfl, rfl⟩
    rw [h8.out]
    go_wp2
    go_ret2
    exact ⟨by rw [hres.out]; rfl, Ext.refl _⟩
  · have h0 := Lib.hid (runErr_ok hok)
    have hok' := Lib.hid hok
    clear hok
    go_enter Try.func9, Try.ntmps9
    go_wp2_with fail
    refine (guard_Check hR.out).mono ?_
    rintro e w1 ⟨rfl, rfl⟩
    rw [h0.out]
    go_wp2
    go_loopw [18] (fun iv wr => ∃ k : Nat, k ≤ l.length ∧ iv = .int .i64 k ∧ Ext w wr ∧ Hid ((l.take k).all Item.ok = true)) (fun iv _ => l.length - (intOf iv).toNat)
    case atStart => exact ⟨0, Nat.zero_le _, rfl, Ext.refl _, by simp [Hid]⟩
    case round =>
      obtain ⟨k, hk, rfl, hE, hN⟩ := hrel
      by_cases hlt : k < l.length
      · obtain ⟨x, hx⟩ : ∃ x, l[k]? = some x := ⟨l[k], by simp [hlt]⟩
        obtain ⟨b, off, rfl, hb, c0, c1, c2⟩ := (hL.out.ext hE).cell hx
        have hX := Lib.hid hx
        clear hx
        have hE2 := ((Ext.refl wr).alloc (.cells #[.int .u8 x.p, .int .i64 x.t, .int .i64 x.c] 41)).alloc (.cells #[.int .u8 x.p, .int .i64 x.t, .int .i64 x.c] 41)
        have hs : Its ((wr.alloc (.cells #[.int .u8 x.p, .int .i64 x.t, .int .i64 x.c] 41)).alloc (.cells #[.int .u8 x.p, .int .i64 x.t, .int .i64 x.c] 41)) (.slice (some ⟨wr.heap.size + 1, 0, none⟩) 1 1) [x] := by
          have := (Own.lit' (B := 0) (e := 41) (k := 3) (wr.alloc (.cells #[.int .u8 x.p, .int .i64 x.t, .int .i64 x.c] 41)) #[.int .u8 x.p, .int .i64 x.t, .int .i64 x.c] 1 (Nat.zero_le _) (by simp [maxLen]) rfl).sl
          rw [World.size_alloc] at this
          exact this
        have hs' := Lib.hid hs
        have hE2' := Lib.hid hE2
        clear hs hE2
        cases hxo : x.ok
        · have h8 : Hid (chk [x] = 8) := Hid.mk (by rw [chk_one, hxo]; rfl)
          have hres := Lib.hid (heldR_item (l := l) hok'.out (all_miss hX.out hxo))
          clear hxo
          go_wp2_with fail
          refine (items_Check hs'.out).mono ?_
          rintro e w4 ⟨rfl, hE4⟩
          rw [h8.out]
          go_wp2
          go_ret2
          exact ⟨by rw [hres.out]; rfl, (hE.trans hE2'.out).trans hE4⟩
        · have h8 : Hid (chk [x] = 0) := Hid.mk (by rw [chk_one, hxo]; rfl)
          have hN2 := Lib.hid (all_take_succ hN.out hX.out hxo)
          clear hxo
          go_wp2_with fail
          refine (items_Check hs'.out).mono ?_
          rintro e w4 ⟨rfl, hE4⟩
          rw [h8.out]
          go_wp2
          go_roundw
          case rel => exact ⟨k + 1, by omega, by go_num, (hE.trans hE2'.out).trans hE4, hN2.out⟩
          case measure => simp [intOf]; omega
      · have hkl : k = l.length := by omega
        subst hkl
        have hN' := hN.out
        rw [List.take_length] at hN'
        cases hf : firstR l run with
        | none =>
          have hres := Lib.hid (heldR_none hok'.out hN' hf)
          have hf' := Lib.hid hf
          clear hN' hf
          go_wp2_with fail
          refine (guard_first (hL.out.ext hE) (hR.out.ext hE) hok'.out).mono ?_
          rintro e w4 ⟨rfl, hE4⟩
          rw [hf'.out, show idxOf none = -1 from rfl]
          go_wp2
          go_ret2
          exact ⟨by rw [hres.out]; rfl, hE.trans hE4⟩
        | some i =>
          have hres := Lib.hid (heldR_some hok'.out hN' hf)
          have hf' := Lib.hid hf
          have hi2 : decide ((i : Int) < 0) = false := decide_eq_false (by omega)
          clear hN' hf
          go_wp2_with fail
          refine (guard_first (hL.out.ext hE) (hR.out.ext hE) hok'.out).mono ?_
          rintro e w4 ⟨rfl, hE4⟩
          rw [hf'.out, show idxOf (some i) = (i : Int) from rfl]
          go_wp2
          go_ret2
          exact ⟨by rw [hres.out]; rfl, hE.trans hE4⟩

set_option maxHeartbeats 1600000 in
theorem ref31_Held {l : List Item} {run : List Int} {v u : Value} {w : World} (hl : Its w v l) (hr : Nts w u run) :
    Calls Try.prog 10 #[v, u] w fun e w' => e = .returned (.tuple #[.int .i64 (heldR l run).1, .int .i64 (heldR l run).2]) ∧ Ext w w' := by
  have hL := Lib.hid hl
  have hR := Lib.hid hr
  obtain ⟨a, cp, rfl, hlc, hcm, -⟩ := hl.form
  obtain ⟨a2, cp2, rfl, -⟩ := hr.form
  unfold maxLen at hcm
  clear hl hr
  cases hok : okR run
  · have h8 := Lib.hid (runErr_bad hok)
    have hres := Lib.hid (heldR_bad (l := l) hok)
    clear hok
    go_enter Try.func10, Try.ntmps10
    go_wp2_with fail
    refine (ref31_Check hR.out).mono ?_
    rintro e w1 ⟨rfl, rfl⟩
    rw [h8.out]
    go_wp2
    go_ret2
    exact ⟨by rw [hres.out]; rfl, Ext.refl _⟩
  · have h0 := Lib.hid (runErr_ok hok)
    have hok' := Lib.hid hok
    clear hok
    go_enter Try.func10, Try.ntmps10
    go_wp2_with fail
    refine (ref31_Check hR.out).mono ?_
    rintro e w1 ⟨rfl, rfl⟩
    rw [h0.out]
    go_wp2
    go_loopw [7] (fun iv wr => ∃ k : Nat, k ≤ l.length ∧ iv = .int .i64 k ∧ Ext w wr ∧ Hid ((l.take k).all Item.ok = true)) (fun iv _ => l.length - (intOf iv).toNat)
    case atStart => exact ⟨0, Nat.zero_le _, rfl, Ext.refl _, by simp [Hid]⟩
    case round =>
      obtain ⟨k, hk, rfl, hE, hN⟩ := hrel
      by_cases hlt : k < l.length
      · obtain ⟨x, hx⟩ : ∃ x, l[k]? = some x := ⟨l[k], by simp [hlt]⟩
        obtain ⟨b, off, rfl, hb, c0, c1, c2⟩ := (hL.out.ext hE).cell hx
        have hX := Lib.hid hx
        clear hx
        have hI := Lib.hid (ref28_Item x)
        unfold Item.val at hI
        cases hxo : x.ok
        · have hres := Lib.hid (heldR_item (l := l) hok'.out (all_miss hX.out hxo))
          have hxo' := Lib.hid hxo
          clear hxo
          go_wp2_with fail
          refine (hI.out _).mono ?_
          rintro e w4 ⟨rfl, hE4⟩
          rw [hxo'.out]
          go_wp2
          go_ret2
          exact ⟨by rw [hres.out]; rfl, hE.trans hE4⟩
        · have hN2 := Lib.hid (all_take_succ hN.out hX.out hxo)
          have hxo' := Lib.hid hxo
          clear hxo
          go_wp2_with fail
          refine (hI.out _).mono ?_
          rintro e w4 ⟨rfl, hE4⟩
          rw [hxo'.out]
          go_wp2
          go_roundw
          case rel => exact ⟨k + 1, by omega, by go_num, hE.trans hE4, hN2.out⟩
          case measure => simp [intOf]; omega
      · have hkl : k = l.length := by omega
        subst hkl
        have hN' := hN.out
        rw [List.take_length] at hN'
        cases hf : firstR l run with
        | none =>
          have hres := Lib.hid (heldR_none hok'.out hN' hf)
          have hf' := Lib.hid hf
          clear hN' hf
          go_wp2_with fail
          refine (ref31_First (hL.out.ext hE) (hR.out.ext hE)).mono ?_
          rintro e w4 ⟨rfl, rfl⟩
          rw [hf'.out, show idxOf none = -1 from rfl]
          go_wp2
          go_ret2
          exact ⟨by rw [hres.out]; rfl, hE⟩
        | some i =>
          have hres := Lib.hid (heldR_some hok'.out hN' hf)
          have hf' := Lib.hid hf
          have hi2 : decide ((i : Int) < 0) = false := decide_eq_false (by omega)
          clear hN' hf
          go_wp2_with fail
          refine (ref31_First (hL.out.ext hE) (hR.out.ext hE)).mono ?_
          rintro e w4 ⟨rfl, rfl⟩
          rw [hf'.out, show idxOf (some i) = (i : Int) from rfl]
          go_wp2
          go_ret2
          exact ⟨by rw [hres.out]; rfl, hE⟩

end Go.Proofs.Ytbkbkfpmgehigaa
