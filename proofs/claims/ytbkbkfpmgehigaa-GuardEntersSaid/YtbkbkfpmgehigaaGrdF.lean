/- Contracts: guard.told, guard.Write, the example of layer 31. -/
import Derived.Test.YtbkbkfpmgehigaaGrdE
import Derived.Test.YtbkbkfpmgehigaaAccD
namespace Go.Proofs.Ytbkbkfpmgehigaa
open Go.RowKit

/-- A slice of items, a reason, and an error. -/
def RetSWN (w : World) (l : List Item) (why n : Int) (en : Ending) (w' : World) : Prop := ∃ v, en = .returned (.tuple #[v, .int .u8 why, .int .i64 n]) ∧ Its w' v l ∧ Ext w w'
def toldR (l gone : List Item) (why e : Int) (run : List Int) : List Item × Int × Int := if e = 0 ∧ why = 0 ∧ (firstR gone run).isSome = true then ([], 2, 0) else (l, why, e)
def write31 (l : List Item) (tag : Int) (run : List Int) : List Item × Int × Int := if okR run then toldR (accL l tag true) (accG l tag true) (accW l tag true) (chk l) run else ([], 0, 8)
theorem toldR_no {l gone : List Item} {why e : Int} {run : List Int} (h : ¬ (e = 0 ∧ why = 0 ∧ (firstR gone run).isSome = true)) : toldR l gone why e run = (l, why, e) := by rw [toldR, if_neg h]
theorem toldR_yes {l gone : List Item} {why e : Int} {run : List Int} (h : e = 0 ∧ why = 0 ∧ (firstR gone run).isSome = true) : toldR l gone why e run = ([], 2, 0) := by rw [toldR, if_pos h]

set_option maxHeartbeats 800000 in
theorem guard_told {l gone : List Item} {run : List Int} {v u r : Value} {w : World} (why e : Int) (hl : Its w v l) (hg : Its w u gone) (hr : Nts w r run) (hok : okR run = true) :
    Calls Try.prog 32 #[v, u, .int .u8 why, .int .i64 e, r] w (RetSWN w (toldR l gone why e run).1 (toldR l gone why e run).2.1 (toldR l gone why e run).2.2) := by
  have hL := Lib.hid hl
  have hG := Lib.hid hg
  have hR := Lib.hid (And.intro hr hok)
  obtain ⟨a, cp, rfl, -⟩ := hl.form
  obtain ⟨a2, cp2, rfl, -⟩ := hg.form
  obtain ⟨a3, cp3, rfl, -⟩ := hr.form
  clear hl hg hr hok
  by_cases he : e = 0
  · have q1 : (e == 0) = true := beq_iff_eq.2 he
    by_cases hw : why = 0
    · have q2 : (why == 0) = true := beq_iff_eq.2 hw
      cases hf : firstR gone run with
      | none =>
        have hix : Hid (idxOf (firstR gone run) = -1) := Hid.mk (by rw [hf]; rfl)
        have hres := Lib.hid (toldR_no (l := l) (gone := gone) (why := why) (e := e) (run := run) (by rw [hf]; simp))
        subst he hw
        clear hf q1 q2
        go_enter Try.func32, Try.ntmps32
        go_wp2_with fail
        refine (guard_first hG.out hR.out.1 hR.out.2).mono ?_
        rintro e w1 ⟨rfl, hE1⟩
        rw [hix.out]
        go_wp2
        refine bodyPost_ret (results_tmp3 rfl _ _ _) rfl ?_
        rw [hres.out]
        exact ⟨_, rfl, hL.out.ext hE1, hE1⟩
      | some i =>
        have hix : Hid (idxOf (firstR gone run) = (i : Int)) := Hid.mk (by rw [hf]; rfl)
        have hres := Lib.hid (toldR_yes (l := l) (gone := gone) (why := why) (e := e) (run := run) ⟨he, hw, by rw [hf]; rfl⟩)
        have hi0 : (0 : Int) ≤ (i : Int) := by omega
        subst he hw
        clear hf q1 q2
        go_enter Try.func32, Try.ntmps32
        go_wp2_with fail
        refine (guard_first hG.out hR.out.1 hR.out.2).mono ?_
        rintro e w1 ⟨rfl, hE1⟩
        rw [hix.out]
        go_wp2
        refine bodyPost_ret (results_tmp3 rfl _ _ _) rfl ?_
        rw [hres.out]
        exact ⟨_, rfl, Its.nil _, hE1⟩
    · have q2 : (why == 0) = false := beq_eq_false_iff_ne.2 hw
      have hres := Lib.hid (toldR_no (l := l) (gone := gone) (why := why) (e := e) (run := run) (fun h => hw h.2.1))
      clear he hw
      go_enter Try.func32, Try.ntmps32
      go_wp2
      refine bodyPost_ret (results_tmp3 rfl _ _ _) rfl ?_
      rw [hres.out]
      exact ⟨_, rfl, hL.out, Ext.refl _⟩
  · have q1 : (e == 0) = false := beq_eq_false_iff_ne.2 he
    have hres := Lib.hid (toldR_no (l := l) (gone := gone) (why := why) (e := e) (run := run) (fun h => he h.1))
    clear he
    go_enter Try.func32, Try.ntmps32
    go_wp2
    refine bodyPost_ret (results_tmp3 rfl _ _ _) rfl ?_
    rw [hres.out]
    exact ⟨_, rfl, hL.out, Ext.refl _⟩

set_option maxHeartbeats 800000 in
theorem guard_Write {l : List Item} {run : List Int} {v r : Value} {w : World} (tag : Int) (hl : Its w v l) (hr : Nts w r run) :
    Calls Try.prog 20 #[v, .int .i64 tag, r] w (RetSWN w (write31 l tag run).1 (write31 l tag run).2.1 (write31 l tag run).2.2) := by
  have hL := Lib.hid hl
  have hR := Lib.hid hr
  obtain ⟨a, cp, rfl, -⟩ := hl.form
  obtain ⟨a3, cp3, rfl, -⟩ := hr.form
  clear hl hr
  cases hok : okR run
  · have h8 := Lib.hid (runErr_bad hok)
    have hres : Hid (write31 l tag run = ([], 0, 8)) := Hid.mk (by simp [write31, hok])
    clear hok
    go_enter Try.func20, Try.ntmps20
    go_wp2_with fail
    refine (guard_Check hR.out).mono ?_
    rintro e w1 ⟨rfl, rfl⟩
    rw [h8.out]
    go_wp2
    refine bodyPost_ret (results_tmp3 rfl _ _ _) rfl ?_
    rw [hres.out]
    exact ⟨_, rfl, Its.nil _, Ext.refl _⟩
  · have h0 := Lib.hid (runErr_ok hok)
    have hO := Lib.hid hok
    have hres : Hid (write31 l tag run = toldR (accL l tag true) (accG l tag true) (accW l tag true) (chk l) run) := Hid.mk (by simp [write31, hok])
    clear hok
    go_enter Try.func20, Try.ntmps20
    go_wp2_with fail
    refine (guard_Check hR.out).mono ?_
    rintro e w1 ⟨rfl, rfl⟩
    rw [h0.out]
    go_wp2_with fail
    refine (access_Write tag hL.out).mono ?_
    rintro e w1 ⟨v1, u1, rfl, hv1, hu1, hE1⟩
    obtain ⟨b1, d1, rfl, -⟩ := hv1.form
    obtain ⟨b2, d2, rfl, -⟩ := hu1.form
    go_wp2_with fail
    refine (guard_told _ _ hv1 hu1 (hR.out.ext hE1) hO.out).mono ?_
    rintro e w2 ⟨v2, rfl, hv2, hE2⟩
    rw [← hres.out] at hv2 ⊢
    obtain ⟨b3, d3, rfl, -⟩ := hv2.form
    go_wp2
    refine bodyPost_ret (results_tmp3 rfl _ _ _) rfl ?_
    exact ⟨_, rfl, hv2, hE1.trans hE2⟩

def exam31 : List Item := [⟨1, 1, 0⟩, ⟨1, 2, 5⟩]
theorem exam31_a : write31 exam31 1 [5] = ([], 2, 0) := by decide
theorem exam31_b : write31 exam31 1 [4] = ([⟨1, 1, 0⟩], 0, 0) := by decide
/-- A literal slice of numbers reads as its numbers. -/
theorem Nts.lit (w : World) (cs : Array Value) (l : List Int) (n b : Nat) (hb : w.heap.size = b) (hn : l.length = n) (hm : n ≤ maxLen) (hc : cs.toList = l.flatMap irow) : Nts (w.alloc (.cells cs 3)) (.slice (some ⟨b, 0, none⟩) n n) l := by
  subst hn hb
  have hs : cs.size = l.length * 1 := by
    have := congrArg List.length hc
    rw [rows_len irow irow_len] at this
    simpa using this
  have := (Own.lit (B := 0) (e := 3) (k := 1) w cs l.length (Nat.zero_le _) hm hs).sl
  rw [hc] at this
  exact this

set_option maxHeartbeats 400000 in
theorem law31_example (w : World) : Calls Try.prog 21 #[] w (RetL 41 w exam31) := by
  have hO := Own.lit (B := w.heap.size) (e := 41) (k := 3) w #[.int .u8 1, .int .i64 1, .int .i64 0, .int .u8 1, .int .i64 2, .int .i64 5] 2 (Nat.le_refl _) (by simp [maxLen]) rfl
  go_enter Try.func21, Try.ntmps21
  go_wp2
  go_ret
  exact ⟨_, rfl, hO, (Ext.refl _).alloc _⟩

set_option maxHeartbeats 1600000 in
set_option maxRecDepth 100000 in
theorem law31_alive (w : World) : Calls Try.prog 14 #[] w fun e w' => e = .returned (.bool true) ∧ Ext w w' := by
  go_enter Try.func14, Try.ntmps14
  go_wp2_with fail
  refine (law31_example _).mono ?_
  rintro e w1 ⟨vx, rfl, hvx, hE1⟩
  have hX : Its w1 vx exam31 := hvx.sl
  clear hvx
  obtain ⟨a1, c1, rfl, -⟩ := hX.form
  go_wp2_with fail
  have hx1 : Ext w1 (w1.alloc (.cells #[.int .i64 5] 3)) := (Ext.refl _).alloc _
  refine (guard_Write (run := [5]) 1 (hX.ext hx1) (Nts.lit _ _ _ _ _ rfl rfl (by simp [maxLen]) rfl)).mono ?_
  rintro e w2 ⟨va, rfl, hva, hE2⟩
  have hF2 := (hE1.trans hx1).trans hE2
  rw [exam31_a] at hva
  rw [exam31_a]
  obtain ⟨a2, c2, rfl, -⟩ := hva.form
  clear hva hX
  dsimp only [List.length_nil]
  go_wp2_with fail
  refine (law31_example _).mono ?_
  rintro e w3 ⟨vy, rfl, hvy, hE3⟩
  have hF3 := hF2.trans hE3
  have hY : Its w3 vy exam31 := hvy.sl
  clear hvy
  obtain ⟨a3, c3, rfl, -⟩ := hY.form
  go_wp2_with fail
  have hx3 : Ext w3 (w3.alloc (.cells #[.int .i64 4] 3)) := (Ext.refl _).alloc _
  refine (guard_Write (run := [4]) 1 (hY.ext hx3) (Nts.lit _ _ _ _ _ rfl rfl (by simp [maxLen]) rfl)).mono ?_
  rintro e w4 ⟨vb, rfl, hvb, hE4⟩
  have hF4 := (hF3.trans hx3).trans hE4
  rw [exam31_b] at hvb
  rw [exam31_b]
  obtain ⟨a4, c4, rfl, -⟩ := hvb.form
  clear hY
  dsimp only
  go_wp2_with fail
  refine (law31_example _).mono ?_
  rintro e w5 ⟨vz, rfl, hvz, hE5⟩
  have hF5 := hF4.trans hE5
  have hZ : Its w5 vz exam31 := hvz.sl
  clear hvz
  obtain ⟨a5, c5, rfl, hc5, -⟩ := hZ.form
  have hz1 := hZ.take 1 (by decide)
  have hc6 : 1 ≤ c5 := Nat.le_trans (by decide) hc5
  have hs1 := slice_upto_Stack a5 exam31 c5 1 1 rfl hc6
  go_wp2_with fail
  refine (ref28_Same_yes (hvb.ext hE5) hz1).mono ?_
  rintro e w6 ⟨rfl, hE6⟩
  go_wp2
  go_ret
  exact ⟨rfl, hF5.trans hE6⟩

end Go.Proofs.Ytbkbkfpmgehigaa
