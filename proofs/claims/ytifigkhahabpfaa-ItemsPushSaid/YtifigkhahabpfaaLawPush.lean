/- The statement ItemsPush: for every stack, item and tag the call returns true. No condition. -/
import Derived.Test.YtifigkhahabpfaaLaw28A
import Derived.Test.YtifigkhahabpfaaClose
namespace Go.Proofs.Ytifigkhahabpfaa
open Go.ChangeShapes Go.WideShapes Go.ChangeAt Go.RowKit

theorem push_ok {l : List Item} {x : Item} (hk : okS l = true) (hx : x.ok = true) (h6 : l.length ≠ 600) : okS (l ++ [x]) = true := by
  simp only [okS, Bool.and_eq_true, decide_eq_true_eq, List.all_append, List.length_append, List.length_singleton, List.all_cons, List.all_nil] at *
  exact ⟨by omega, hk.2, hx, trivial⟩
theorem findAt_congr {l m : List Item} {tag : Int} {write : Bool} (n : Nat) (h : ∀ i, i < n → l[i]? = m[i]?) : lastUpTo (fun i => (l[i]?).any (grants tag write)) n = lastUpTo (fun i => (m[i]?).any (grants tag write)) n := by
  induction n with
  | zero => rfl
  | succ n ih => unfold lastUpTo; rw [ih fun i hi => h i (by omega), h n (by omega)]
theorem findAt_push (l : List Item) (x : Item) (tag : Int) (write : Bool) : findAt (l ++ [x]) tag write = if grants tag write x then some l.length else findAt l tag write := by
  unfold findAt
  rw [List.length_append, List.length_singleton, lastUpTo]
  have h1 : (l ++ [x])[l.length]? = some x := by simp
  rw [h1]
  simp only [Option.any_some]
  split
  · rfl
  · exact findAt_congr _ fun i hi => List.getElem?_append_left hi
theorem finds_push {l : List Item} {x : Item} {write : Bool} (hk : okS (l ++ [x]) = true) (hg : grants x.t write x = true) : findsB (l ++ [x]) x.t write l.length = true := by
  have h : findAt (l ++ [x]) x.t write = some l.length := by rw [findAt_push, if_pos hg]
  unfold findsB
  rw [if_neg (by omega)]
  simp [findErr, findIx, hk, h]
theorem find_push_other {l : List Item} {x : Item} {tag : Int} {write : Bool} (hk : okS l = true) (hk' : okS (l ++ [x]) = true) (hg : grants tag write x = false) : findIx (l ++ [x]) tag write = findIx l tag write ∧ findErr (l ++ [x]) tag write = findErr l tag write := by
  have h : findAt (l ++ [x]) tag write = findAt l tag write := by rw [findAt_push, hg]; rfl
  simp [findErr, findIx, hk, hk', h]

set_option maxRecDepth 100000 in
set_option maxHeartbeats 6400000 in
theorem itemsPush_walk {l : List Item} {v : Value} {w : World} (x : Item) (tag : Int) (hl : Its w v l) :
    Calls Try.prog 6 #[v, x.val, .int .i64 tag] w fun e w' => e = .returned (.bool true) ∧ Ext w w' := by
  obtain ⟨p, t, c⟩ := x
  have hXn := run_neq_item ⟨p, t, c⟩ ⟨p, t, c⟩
  simp only [ne_eq, not_true_eq_false, decide_false] at hXn
  have hF0 := (Ext.refl w).alloc (.cells #[.int .u8 p, .int .i64 t, .int .i64 c] 31)
  have hL := hl.ext hF0
  have c0 : (w.alloc (.cells #[.int .u8 p, .int .i64 t, .int .i64 c] 31)).cell? ⟨w.heap.size, 0, none⟩ = some (.int .u8 p) := by simp
  have c1 : (w.alloc (.cells #[.int .u8 p, .int .i64 t, .int .i64 c] 31)).cell? ⟨w.heap.size, 1, none⟩ = some (.int .i64 t) := by simp
  have c2 : (w.alloc (.cells #[.int .u8 p, .int .i64 t, .int .i64 c] 31)).cell? ⟨w.heap.size, 2, none⟩ = some (.int .i64 c) := by simp
  obtain ⟨a, cp, rfl, hlc, hcm, -⟩ := hl.form
  unfold maxLen at hcm
  unfold Item.val at *
  clear hl
  by_cases hg : 610 < l.length
  · go_enter Try.func6, Try.ntmps6
    go_wp2_with fail
    refine (law28_alive _).mono ?_
    rintro e w1 ⟨rfl, hE1⟩
    have hF1 := hF0.trans hE1
    replace hL := hL.ext hE1
    replace c0 := hE1.cell c0
    replace c1 := hE1.cell c1
    replace c2 := hE1.cell c2
    go_wp2_with fail
    refine (ref28_Great hL).mono ?_
    rintro e w2 ⟨rfl, rfl⟩
    go_wp2
    go_ret
    exact ⟨rfl, hF1⟩
  by_cases hk : okS l = true
  rotate_left
  · have h8 : Hid (chk l = 8) := Hid.mk (by simp [chk, hk])
    go_enter Try.func6, Try.ntmps6
    go_wp2_with fail
    refine (law28_alive _).mono ?_
    rintro e w1 ⟨rfl, hE1⟩
    have hF1 := hF0.trans hE1
    replace hL := hL.ext hE1
    replace c0 := hE1.cell c0
    replace c1 := hE1.cell c1
    replace c2 := hE1.cell c2
    go_wp2_with fail
    refine (ref28_Great hL).mono ?_
    rintro e w2 ⟨rfl, rfl⟩
    go_wp2_with fail
    refine (ref28_Check hL).mono ?_
    rintro e w3 ⟨rfl, hE3⟩
    have hF3 := hF1.trans hE3
    replace hL := hL.ext hE3
    replace c0 := hE3.cell c0
    replace c1 := hE3.cell c1
    replace c2 := hE3.cell c2
    rw [h8.out]
    go_wp2
    go_ret
    exact ⟨rfl, hF3⟩
  have h0 : Hid (chk l = 0) := Hid.mk (by simp [chk, hk])
  by_cases hx : Item.ok ⟨p, t, c⟩ = true
  rotate_left
  · have he : Hid (pushErr l ⟨p, t, c⟩ = 8) := Hid.mk (by simp [pushErr, hk, hx])
    have ho : Hid (pushOf l ⟨p, t, c⟩ = []) := Hid.mk (by unfold pushOf; rw [he.out]; rfl)
    clear hk hx
    go_enter Try.func6, Try.ntmps6
    go_wp2_with fail
    refine (law28_alive _).mono ?_
    rintro e w1 ⟨rfl, hE1⟩
    have hF1 := hF0.trans hE1
    replace hL := hL.ext hE1
    replace c0 := hE1.cell c0
    replace c1 := hE1.cell c1
    replace c2 := hE1.cell c2
    go_wp2_with fail
    refine (ref28_Great hL).mono ?_
    rintro e w2 ⟨rfl, rfl⟩
    go_wp2_with fail
    refine (ref28_Check hL).mono ?_
    rintro e w3 ⟨rfl, hE3⟩
    have hF3 := hF1.trans hE3
    replace hL := hL.ext hE3
    replace c0 := hE3.cell c0
    replace c1 := hE3.cell c1
    replace c2 := hE3.cell c2
    rw [h0.out]
    go_wp2_with fail
    refine (items_Push ⟨p, t, c⟩ hL).mono ?_
    rintro e w4 ⟨va, rfl, hva, hE4⟩
    have hF4 := hF3.trans hE4
    replace hL := hL.ext hE4
    replace c0 := hE4.cell c0
    replace c1 := hE4.cell c1
    replace c2 := hE4.cell c2
    rw [ho.out] at hva
    rw [he.out]
    obtain ⟨aa, ca, rfl, -⟩ := hva.sl.slice_form
    go_wp2
    go_ret
    exact ⟨rfl, hF4⟩
  by_cases h6 : l.length = 600
  · have he : Hid (pushErr l ⟨p, t, c⟩ = 18) := Hid.mk (by simp [pushErr, hk, hx, h6])
    have ho : Hid (pushOf l ⟨p, t, c⟩ = []) := Hid.mk (by unfold pushOf; rw [he.out]; rfl)
    have hb : ((l.length : Int) == 600) = true := by simp; omega
    clear hk hx h6
    go_enter Try.func6, Try.ntmps6
    go_wp2_with fail
    refine (law28_alive _).mono ?_
    rintro e w1 ⟨rfl, hE1⟩
    have hF1 := hF0.trans hE1
    replace hL := hL.ext hE1
    replace c0 := hE1.cell c0
    replace c1 := hE1.cell c1
    replace c2 := hE1.cell c2
    go_wp2_with fail
    refine (ref28_Great hL).mono ?_
    rintro e w2 ⟨rfl, rfl⟩
    go_wp2_with fail
    refine (ref28_Check hL).mono ?_
    rintro e w3 ⟨rfl, hE3⟩
    have hF3 := hF1.trans hE3
    replace hL := hL.ext hE3
    replace c0 := hE3.cell c0
    replace c1 := hE3.cell c1
    replace c2 := hE3.cell c2
    rw [h0.out]
    go_wp2_with fail
    refine (items_Push ⟨p, t, c⟩ hL).mono ?_
    rintro e w4 ⟨va, rfl, hva, hE4⟩
    have hF4 := hF3.trans hE4
    replace hL := hL.ext hE4
    replace c0 := hE4.cell c0
    replace c1 := hE4.cell c1
    replace c2 := hE4.cell c2
    rw [ho.out] at hva
    rw [he.out]
    obtain ⟨aa, ca, rfl, -⟩ := hva.sl.slice_form
    go_wp2
    go_ret
    exact ⟨rfl, hF4⟩
  have he : Hid (pushErr l ⟨p, t, c⟩ = 0) := Hid.mk (by simp [pushErr, hk, hx, h6])
  have ho : Hid (pushOf l ⟨p, t, c⟩ = l ++ [⟨p, t, c⟩]) := Hid.mk (by unfold pushOf; rw [he.out]; rfl)
  have hk2 := push_ok hk hx h6
  have h02 : Hid (chk (l ++ [⟨p, t, c⟩]) = 0) := Hid.mk (by simp [chk, hk2])
  have hfr : Hid (findsB (l ++ [⟨p, t, c⟩]) t false l.length = true) := Hid.mk (finds_push (x := ⟨p, t, c⟩) hk2 (by simp [grants]))
  have hfw : Hid (p ≠ 4 → findsB (l ++ [⟨p, t, c⟩]) t true l.length = true) := Hid.mk (fun h => finds_push (x := ⟨p, t, c⟩) hk2 (by simp [grants, h]))
  have hot : Hid (tag ≠ t → ∀ wr, findIx (l ++ [⟨p, t, c⟩]) tag wr = findIx l tag wr ∧ findErr (l ++ [⟨p, t, c⟩]) tag wr = findErr l tag wr) := Hid.mk (fun h wr => find_push_other hk hk2 (by simp [grants, Ne.symm h]))
  have hl6 : l.length ≤ 600 := by simp [okS] at hk; omega
  clear hk hk2 hx h6 hg
  go_enter Try.func6, Try.ntmps6
  go_wp2_with fail
  refine (law28_alive _).mono ?_
  rintro e w1 ⟨rfl, hE1⟩
  have hF1 := hF0.trans hE1
  replace hL := hL.ext hE1
  replace c0 := hE1.cell c0
  replace c1 := hE1.cell c1
  replace c2 := hE1.cell c2
  go_wp2_with fail
  refine (ref28_Great hL).mono ?_
  rintro e w2 ⟨rfl, rfl⟩
  go_wp2_with fail
  refine (ref28_Check hL).mono ?_
  rintro e w3 ⟨rfl, hE3⟩
  have hF3 := hF1.trans hE3
  replace hL := hL.ext hE3
  replace c0 := hE3.cell c0
  replace c1 := hE3.cell c1
  replace c2 := hE3.cell c2
  rw [h0.out]
  go_wp2_with fail
  refine (items_Push ⟨p, t, c⟩ hL).mono ?_
  rintro e w4 ⟨va, rfl, hva, hE4⟩
  have hF4 := hF3.trans hE4
  replace hL := hL.ext hE4
  replace c0 := hE4.cell c0
  replace c1 := hE4.cell c1
  replace c2 := hE4.cell c2
  rw [ho.out] at hva
  rw [he.out]
  have hT : Its w4 va (l ++ [⟨p, t, c⟩]) := hva.sl
  rw [List.length_append, List.length_singleton] at hva
  obtain ⟨aa, ca, rfl, hca, hcb, -⟩ := hva.sl.slice_form
  obtain ⟨bb, off, rfl, hbb, t0, t1, t2⟩ := hT.cell (i := l.length) (x := ⟨p, t, c⟩) (by simp)
  have hT2 : Its w4 (.slice (some ⟨bb, off, none⟩) l.length ca) l := by have := hT.take l.length (by simp); simpa using this
  have hsl := slice_upto_Stack (some ⟨bb, off, none⟩) (l ++ [⟨p, t, c⟩]) ca (l.length : Int) l.length rfl (by omega)
  rw [List.length_append, List.length_singleton] at hsl
  have hk1 : IntKind.i64.wrap ((l.length : Int) + 1) = (l.length : Int) + 1 := IntWalk.i64_in _ (by omega)
  have hi0 : (0 : Int) ≤ (l.length : Int) := by omega
  have hi1 : (l.length : Int) < (l.length : Int) + 1 := by omega
  have hi2 : (l.length : Int).toNat = l.length := by omega
  unfold maxLen at hcb
  go_wp2_with fail
  have hSk : ∀ w' w'' : World, (w'.cell? ⟨w.heap.size, 0, none⟩ = some (.int .u8 p) ∧ w'.cell? ⟨w.heap.size, 1, none⟩ = some (.int .i64 t) ∧ w'.cell? ⟨w.heap.size, 2, none⟩ = some (.int .i64 c) ∧ w'.cell? ⟨bb, off + l.length * 3, none⟩ = some (.int .u8 p) ∧ w'.cell? ⟨bb, off + l.length * 3 + 1, none⟩ = some (.int .i64 t) ∧ w'.cell? ⟨bb, off + l.length * 3 + 2, none⟩ = some (.int .i64 c) ∧ Ext w4 w') → Ext w' w'' → (w''.cell? ⟨w.heap.size, 0, none⟩ = some (.int .u8 p) ∧ w''.cell? ⟨w.heap.size, 1, none⟩ = some (.int .i64 t) ∧ w''.cell? ⟨w.heap.size, 2, none⟩ = some (.int .i64 c) ∧ w''.cell? ⟨bb, off + l.length * 3, none⟩ = some (.int .u8 p) ∧ w''.cell? ⟨bb, off + l.length * 3 + 1, none⟩ = some (.int .i64 t) ∧ w''.cell? ⟨bb, off + l.length * 3 + 2, none⟩ = some (.int .i64 c) ∧ Ext w4 w'') := by
    rintro w' w'' ⟨k0, k1, k2, k3, k4, k5, kE⟩ h
    exact ⟨h.cell k0, h.cell k1, h.cell k2, h.cell k3, h.cell k4, h.cell k5, Ext.trans kE h⟩
  go_region_held3 (fun w' => (w'.cell? ⟨w.heap.size, 0, none⟩ = some (.int .u8 p) ∧ w'.cell? ⟨w.heap.size, 1, none⟩ = some (.int .i64 t) ∧ w'.cell? ⟨w.heap.size, 2, none⟩ = some (.int .i64 c) ∧ w'.cell? ⟨bb, off + l.length * 3, none⟩ = some (.int .u8 p) ∧ w'.cell? ⟨bb, off + l.length * 3 + 1, none⟩ = some (.int .i64 t) ∧ w'.cell? ⟨bb, off + l.length * 3 + 2, none⟩ = some (.int .i64 c) ∧ Ext w4 w')) (first | assumption | exact ⟨c0, c1, c2, t0, t1, t2, (Ext.refl _).drew⟩ | (refine hSk _ _ (by assumption) ?_; first | assumption | exact (Ext.refl _).alloc _ | exact ((Ext.refl _).alloc _).drew)) (first | (go_at_call 21; refine (ref28_Same_yes (hT2.ext ?_) (hL.ext ?_)).mono ?_; (exact And.right (And.right (And.right (And.right (And.right (And.right (by assumption))))))); (exact And.right (And.right (And.right (And.right (And.right (And.right (by assumption))))))); rintro e wr0 ⟨rfl, hR0⟩) | (go_at_call 22; refine (items_Check (hT.ext ?_)).mono ?_; (exact And.right (And.right (And.right (And.right (And.right (And.right (by assumption))))))); rintro e wr1 ⟨rfl, hR1⟩; rw [h02.out]) | (go_at_call 30; refine (law28_finds t false _ (hT.ext ?_)).mono ?_; (exact And.right (And.right (And.right (And.right (And.right (And.right (by assumption))))))); rintro e wr2 ⟨rfl, hR2⟩; rw [hfr.out]))
  obtain ⟨g0, g1, g2, g3, g4, g5, hRR⟩ := (by assumption : (wr2.cell? ⟨w.heap.size, 0, none⟩ = some (.int .u8 p) ∧ wr2.cell? ⟨w.heap.size, 1, none⟩ = some (.int .i64 t) ∧ wr2.cell? ⟨w.heap.size, 2, none⟩ = some (.int .i64 c) ∧ wr2.cell? ⟨bb, off + l.length * 3, none⟩ = some (.int .u8 p) ∧ wr2.cell? ⟨bb, off + l.length * 3 + 1, none⟩ = some (.int .i64 t) ∧ wr2.cell? ⟨bb, off + l.length * 3 + 2, none⟩ = some (.int .i64 c) ∧ Ext w4 wr2))
  clear c0; have c0 := g0; clear g0
  clear c1; have c1 := g1; clear g1
  clear c2; have c2 := g2; clear g2
  clear t0; have t0 := g3; clear g3
  clear t1; have t1 := g4; clear g4
  clear t2; have t2 := g5; clear g5
  replace hL := hL.ext hRR; replace hT := hT.ext hRR
  have hG0 := hF4.trans hRR
  clear hbb
  by_cases h4 : p = 4
  · have hq : (p != 4) = false := by simp [h4]
    clear h4
    by_cases h5 : tag = t
    · have hq5 : (tag == t) = true := by simp [h5]
      clear h5
      go_wp2
      go_ret
      exact ⟨rfl, hG0⟩
    · have hq5 : (tag == t) = false := by simp [h5]
      have ho5 := Lib.hid (hot.out h5)
      clear h5
      go_wp2_with fail
      refine (items_Find tag false hL).mono ?_
      rintro e w20 ⟨rfl, hE20⟩
      have hF20 := hG0.trans hE20
      replace hL := hL.ext hE20
      replace hT := hT.ext hE20
      go_wp2_with fail
      refine (items_Find tag false hT).mono ?_
      rintro e w21 ⟨rfl, hE21⟩
      have hF21 := hF20.trans hE21
      replace hL := hL.ext hE21
      replace hT := hT.ext hE21
      rw [(ho5.out false).1, (ho5.out false).2]
      go_wp2_with fail
      refine (items_Find tag true hL).mono ?_
      rintro e w22 ⟨rfl, hE22⟩
      have hF22 := hF21.trans hE22
      replace hL := hL.ext hE22
      replace hT := hT.ext hE22
      go_wp2_with fail
      refine (items_Find tag true hT).mono ?_
      rintro e w23 ⟨rfl, hE23⟩
      have hF23 := hF22.trans hE23
      replace hL := hL.ext hE23
      replace hT := hT.ext hE23
      rw [(ho5.out true).1, (ho5.out true).2]
      go_wp2
      go_ret
      exact ⟨rfl, hF23⟩
  · have hq : (p != 4) = true := by simp [h4]
    have hw := Lib.hid (hfw.out h4)
    clear h4
    go_wp2_with fail
    refine (law28_finds t true _ hT).mono ?_
    rintro e w10 ⟨rfl, hE10⟩
    rw [hw.out]
    replace c0 := hE10.cell c0; replace c1 := hE10.cell c1; replace c2 := hE10.cell c2
    replace hL := hL.ext hE10; replace hT := hT.ext hE10
    have hG1 := hG0.trans hE10
    by_cases h5 : tag = t
    · have hq5 : (tag == t) = true := by simp [h5]
      clear h5
      go_wp2
      go_ret
      exact ⟨rfl, hG1⟩
    · have hq5 : (tag == t) = false := by simp [h5]
      have ho5 := Lib.hid (hot.out h5)
      clear h5
      go_wp2_with fail
      refine (items_Find tag false hL).mono ?_
      rintro e w20 ⟨rfl, hE20⟩
      have hF20 := hG1.trans hE20
      replace hL := hL.ext hE20
      replace hT := hT.ext hE20
      go_wp2_with fail
      refine (items_Find tag false hT).mono ?_
      rintro e w21 ⟨rfl, hE21⟩
      have hF21 := hF20.trans hE21
      replace hL := hL.ext hE21
      replace hT := hT.ext hE21
      rw [(ho5.out false).1, (ho5.out false).2]
      go_wp2_with fail
      refine (items_Find tag true hL).mono ?_
      rintro e w22 ⟨rfl, hE22⟩
      have hF22 := hF21.trans hE22
      replace hL := hL.ext hE22
      replace hT := hT.ext hE22
      go_wp2_with fail
      refine (items_Find tag true hT).mono ?_
      rintro e w23 ⟨rfl, hE23⟩
      have hF23 := hF22.trans hE23
      replace hL := hL.ext hE23
      replace hT := hT.ext hE23
      rw [(ho5.out true).1, (ho5.out true).2]
      go_wp2
      go_ret
      exact ⟨rfl, hF23⟩

set_option maxRecDepth 100000 in
theorem itemsPush_lifted (os : Os) (started : os.Started) (H : Type) (enc : TypeId × Value → H) :
    ReturnsInHanded {} Try.checked os 6 .any (Rows.itemsPushSpec.pre6 enc Try.prog Try.f6 Rows.itemsPushRow.domain false) (Rows.itemsPushSpec.post enc Try.prog Try.f6 false true false false) := by
  refine returnsInHanded_of_change (C := Try.checked) Tryown started (by kernel_rfl) Try.func6
    (ChangeSpec.witness6 (enc := enc) (C := Try.checked) false ⟨#[], #[.slice none 0 0, .agg #[.int .u8 0, .int .i64 0, .int .i64 0], .int .i64 0], []⟩ 8 (by kernel_rfl) (by kernel_rfl) (by kernel_rfl) (by kernel_rfl)) ?_
  intro W base args ds gs before hval0 hW _ _
  have hval : ∀ (j : Nat) t v, Try.f6.params[j]? = some t → args[j]? = some v → Value.okWide Try.prog W .any base t v := hval0
  have hW' := hW
  obtain ⟨p, q, hA0, hV, rfl, hfz, hnd⟩ := hW
  have hA : DataW.TrodAll enc Try.prog W 0 (fun _ => true) true Try.f6.params.toList args.toList ds p := hA0
  rw [Try.params6] at hA hval
  obtain ⟨v0, vs0, d0, ds0, p0, q0, hargs, rfl, rfl, h0, r0⟩ := trodAll_cons hA
  obtain ⟨v1, vs1, d1, ds1, p1, q1, rfl, rfl, rfl, h1, r1⟩ := trodAll_cons r0
  obtain ⟨v2, vs2, d2, ds2, p2, q2, rfl, rfl, rfl, h2, r2⟩ := trodAll_cons r1
  obtain ⟨rfl, rfl, rfl⟩ := trodAll_nil r2
  obtain rfl : args = #[v0, v1, v2] := by cases args; simp_all
  obtain ⟨x0, k0, wf0⟩ := open_items Try.underlying23 (hval 0 23 v0 rfl rfl) h0
  obtain ⟨x1, rfl, wf1⟩ := open_item (hval 1 31 v1 rfl rfl) h1
  obtain ⟨x2, rfl, rfl, rfl, wf2⟩ := open_int Try.underlying3 (hval 2 3 v2 rfl rfl) h2
  refine (itemsPush_walk x1 x2 k0).mono fun e W' ⟨he, hb⟩ => ?_
  subst he
  exact ⟨_, rfl, post_law TrylaidOut (tb := 4) rfl Try.underlying4 (by kernel_rfl) rfl (fun ds hd => match ds, hd with | [a0, a1, a2], _ => rfl) hW' hb⟩

theorem itemsPush_holds : Rows.ItemsPushSaid :=
  OpenClaim.holds_of_wide 6 Try.f6 rfl rfl rfl rfl rfl rfl rfl ⟨rfl, rfl, rfl, rfl, rfl⟩ rfl rfl rfl rfl rfl (by kernel_rfl) Try.func6 (by kernel_rfl)
    (of_decide_eq_true (by kernel_rfl)) (by unfold Func.isWrapper; first | (rw [if_pos (by decide +kernel)]; kernel_rfl) | (rw [if_neg (by decide +kernel)]; exact ⟨rfl, rfl⟩))
    (fun os started H enc _ => itemsPush_lifted os started H enc)

end Go.Proofs.Ytifigkhahabpfaa
