/- Contracts: Fresh and Twin of the reference of layer 33, New of the program and of the reference. (printed by gen/stk33.py) -/
import Derived.Test.YtkbocenpkdaogaaDoorStkB
namespace Go.Proofs.YtkbocenpkdaogaaDoor
set_option maxRecDepth 100000
open Go.RowKit

def based (n : Nat) (tag : Int) : List (List Item) := List.replicate n (baseOf tag)
theorem based_succ (n : Nat) (tag : Int) : based n tag ++ [baseOf tag] = based (n + 1) tag := (List.replicate_succ' ..).symm
theorem based_len (n : Nat) (tag : Int) : (based n tag).length = n := List.length_replicate ..


set_option maxHeartbeats 1600000 in
theorem stacks_New_go (num size tag : Int) (w : World) (hnum : 0 ≤ num ∧ num ≤ 1000000) (hs : 1 ≤ size ∧ size ≤ 2) (ht : inB tag = true) :
    Calls Tryd.prog 30 #[.int .i64 num, .int .i64 size, .int .i64 tag] w (RetK w ⟨num, based size.toNat tag⟩ 0) := by
  obtain ⟨ai, az, hai, haz, hai3, haz3, haby⟩ := Stack.infoE
  have hai := Lib.hid hai; have haz := Lib.hid haz; have hai3 := Lib.hid hai3; have haz3 := Lib.hid haz3; have haby := Lib.hid haby
  obtain ⟨N, rfl⟩ : ∃ N : Nat, size = N := ⟨size.toNat, by omega⟩
  rw [Int.toNat_natCast]
  have hN : N ≤ 2 := by omega
  have q1 : decide (num < 0) = false := decide_eq_false (by omega)
  have q2 : decide (1000000 < num) = false := decide_eq_false (by omega)
  have q3 : decide ((N : Int) < 1) = false := decide_eq_false (by omega)
  have q4 : decide ((2 : Int) < (N : Int)) = false := decide_eq_false (by omega)
  have hbe : Hid (baseErr tag = 0) := Hid.mk (by simp [baseErr, ht])
  have hE0 := ((Ext.refl w).alloc (.cells #[.int .i64 0, .slice none 0 0] 56)).alloc (.cells #[.int .i64 num, .slice none 0 0] 56)
  have bR := (Box.new w 56 #[.int .i64 0, .slice none 0 0]).ext ((Ext.refl _).alloc (.cells #[.int .i64 num, .slice none 0 0] 56))
  have bO := Box.new (World.alloc w (.cells #[.int .i64 0, .slice none 0 0] 56)) 56 #[.int .i64 num, .slice none 0 0]
  simp only [World.size_alloc] at bO
  have hH := Lib.hid (And.intro bR bO)
  clear bR bO
  go_enter Tryd.func30, Tryd.ntmps30
  go_wp2
  obtain ⟨w1, hw1⟩ : ∃ w1, (World.alloc (World.alloc w (.cells #[.int .i64 0, .slice none 0 0] 56)) (.cells #[.int .i64 num, .slice none 0 0] 56)) = w1 := ⟨_, rfl⟩
  have hsz1 : w1.heap.size = w.heap.size + 2 := by rw [← hw1]; simp
  rw [hw1] at hE0 hH ⊢
  clear hw1
  have hsz1 := Lib.hid hsz1
  go_loopw [29] (fun iv wr => ∃ (k : Nat) (v : Value) (vs : List Value), k ≤ N ∧ iv = .int .i64 k ∧ Box wr (w.heap.size + 1) 56 #[.int .i64 num, v] ∧ OwnS wr w1.heap.size v vs (based k tag) ∧ ExtBut (· = w.heap.size + 1) w1 wr) (fun iv _ => N - (intOf iv).toNat)
  case atStart => exact ⟨0, _, [], Nat.zero_le _, rfl, hH.out.2, OTb.nil _ _, ExtBut.refl _ _⟩
  case round =>
    obtain ⟨k, v, vs, hk, rfl, bO, hT, hX⟩ := hrel
    have bR := hH.out.1.but hX (by omega)
    have hF : Ext w wr := ExtBut.ext hE0 hX (fun x h => by omega)
    have hlk : (based k tag).length = k := based_len k tag
    have hOv := hT.outer
    rw [hlk] at hOv
    obtain ⟨av, cv, rfl, hcv1, hcv2, -⟩ := hOv.sl.slice_form
    unfold maxLen at hcv2
    have o0 : wr.cell? ⟨w.heap.size + 1, 1, none⟩ = some (.slice av k cv) := bO.cell 1
    have hBl := bO.lt
    by_cases hlt : k < N
    · have hA := Lib.hid (And.intro trivial (And.intro hT (And.intro hX (And.intro hOv (And.intro bO hlk)))))
      clear hT hX hOv bO hlk bR hs hnum ht
      have hlt' : decide ((k : Int) < (N : Int)) = true := decide_eq_true (by omega)
      go_wp2_with fail
      refine (items_Base tag _).mono ?_
      rintro e w4 ⟨sn, rfl, hOn, hE4⟩
      rw [hbe.out]
      have hslt := fun g e => (Own.lt (g := g) hOn) e
      obtain ⟨an, cn, rfl, hcn, hcn2, -⟩ := (Own.sl hOn).slice_form
      have o4 := hE4.cell o0
      have hE6 := hE4.alloc (.cells #[.slice an (baseOf tag).length cn] 31)
      have hS6 : Sl (w4.alloc (.cells #[.slice an (baseOf tag).length cn] 31)) 1 (.slice (some ⟨w4.heap.size, 0, none⟩) 1 1) 1 (srow (.slice an (baseOf tag).length cn) (baseOf tag)) :=
        (Own.lit' (B := 0) (e := 31) (k := 1) w4 #[.slice an (baseOf tag).length cn] 1 (Nat.zero_le _) (by simp [maxLen]) rfl).sl
      have hB := Lib.hid (And.intro hE6 (And.intro hOn (And.intro hslt hE4)))
      have hk6 : k ≤ 1000000 := by omega
      clear hOn hE4 hE6
      go_wp2_with (at_builtin; refine Hid.out ?_)
      refine Hid.mk ?_
      refine wpList_append_any rfl _ _ 54 54 rfl rfl rfl Tryd.underlying54 Tryd.underlying54 hai.out haz.out hai3.out haz3.out (hA.out.2.2.2.1.ext hB.out.1) hS6 (by simp [srow, Value.oneCell']) (by simp [maxLen]; omega) (by rw [haby.out]; omega) (Nat.le_trans hA.out.2.2.1.size hB.out.1.size) ?_
      intro v' w6 hOv hKv hbv _
      have hlk := hA.out.2.2.2.2.2
      have hP : OwnS w6 w1.heap.size v' (vs ++ [.slice an (baseOf tag).length cn]) (based k tag ++ [baseOf tag]) := OwnS.push hA.out.2.1 hB.out.1 ((OwnI.mono hB.out.2.1 (by have := hA.out.2.2.1.size; omega)).ext ((Ext.refl _).alloc _)) (fun g e => (hslt g e).1) (by rw [hlk]; exact hOv) hKv hbv
      have htk : based k tag ++ [baseOf tag] = based (k + 1) tag := based_succ k tag
      rw [htk] at hP
      obtain ⟨av', cv', rfl, -⟩ := hOv.sl.slice_form
      have hvB := fun g e => (hA.out.2.2.2.1.lt (g := g) e).1
      have hvB' := fun g e => (hOv.lt (g := g) e).1
      have hin' := OwnS.inner_lt hP
      have bO6 := (hA.out.2.2.2.2.1.ext hB.out.1).but (ExtBut.of_keeps hKv) (fun h => by have := hvB _ h; have := hsz1.out; omega)
      have hX6 := ((hA.out.2.2.1.trans (ExtBut.of_ext hB.out.1)).trans' (ExtBut.of_keeps hKv) (fun x hx h => by have := hvB _ h; omega)).trans (ExtBut.setCell w6 ⟨w.heap.size + 1, 1, none⟩ (.slice av' (k + 1) cv'))
      have hP7 := OwnS.but hP (ExtBut.setCell w6 ⟨w.heap.size + 1, 1, none⟩ (.slice av' (k + 1) cv')) (fun g e h => by have := hsz1.out; have h' : g = w.heap.size + 1 := h; omega)
      have o6 : w6.cell? ⟨w.heap.size + 1, 1, none⟩ = some (.slice av k cv) := bO6.cell 1
      have of6 := bO6.frozen 1
      have bO7 := bO6.set 1 (.slice av' (k + 1) cv')
      have hR := Lib.hid (And.intro bO7 (And.intro hP7 hX6))
      clear hvB hvB' hin' bO6 hX6 hP7 bO7 hP hOv hKv hbv hlk htk
      go_wp2
      go_roundw
      case rel => exact ⟨k + 1, _, _, by omega, by go_num, hR.out.1, hR.out.2.1, hR.out.2.2⟩
      case measure => simp [intOf]; omega
    · have hkl : k = N := by omega
      subst hkl
      have hlt' : decide ((k : Int) < (k : Int)) = false := decide_eq_false (by omega)
      have o1 : wr.cell? ⟨w.heap.size + 1, 0, none⟩ = some (.int .i64 num) := bO.cell 0
      have r0 : wr.cell? ⟨w.heap.size, 0, none⟩ = some (.int .i64 0) := bR.cell 0
      have r1 : wr.cell? ⟨w.heap.size, 1, none⟩ = some (.slice none 0 0) := bR.cell 1
      have rf0 := bR.frozen 0
      have rf1 := bR.frozen 1
      have hT' := Lib.hid hT
      clear hT hlk hOv
      go_wp2
      have hY := ((ExtBut.setCell wr ⟨w.heap.size, 0, none⟩ (.int .i64 num)).mono (S' := fun b => b = w.heap.size) (fun x _ h => h)).trans ((ExtBut.setCell _ ⟨w.heap.size, 1, none⟩ (.slice av k cv)).mono (S' := fun b => b = w.heap.size) (fun x _ h => h))
      have hsz := hsz1.out
      refine bodyPost_ret (v := .tuple #[.agg #[.int .i64 num, .slice av k cv], .int .i64 0]) (by simp [results, Tryd.f30, go_sem, r0, r1]) rfl ⟨_, vs, rfl, OwnS.mono (B' := w.heap.size) (OwnS.but hT'.out hY (fun g e h => by omega)) (by omega), ExtBut.ext hF hY (fun x h => by omega)⟩

theorem newK_no {num size tag : Int} (h : (inB num && inB tag && decide (1 ≤ size) && decide (size ≤ 2)) = false) : newK num size tag = (Stk.zero, 2) := by simp [newK, h]
theorem newK_yes {num size tag : Int} (h : (inB num && inB tag && decide (1 ≤ size) && decide (size ≤ 2)) = true) : newK num size tag = (⟨num, based size.toNat tag⟩, 0) := by
  have ht : inB tag = true := by
    simp only [Bool.and_eq_true] at h
    exact h.1.1.2
  unfold newK
  rw [if_pos h]
  simp [based, baseOf, ht]

set_option maxHeartbeats 1600000 in
theorem stacks_New (num size tag : Int) (w : World) : Calls Tryd.prog 30 #[.int .i64 num, .int .i64 size, .int .i64 tag] w (RetK w (newK num size tag).1 (newK num size tag).2) := by
  cases hc : inB num && inB tag && decide (1 ≤ size) && decide (size ≤ 2)
  · have hres := Lib.hid (newK_no hc)
    have bR := Box.new w 56 #[.int .i64 0, .slice none 0 0]
    have hE0 : Ext w (w.alloc (.cells #[.int .i64 0, .slice none 0 0] 56)) := (Ext.refl _).alloc _
    have hcase : decide (num < 0) = true ∨ (decide (num < 0) = false ∧ (decide (1000000 < num) = true ∨ (decide (1000000 < num) = false ∧ (decide (size < 1) = true ∨ (decide (size < 1) = false ∧ (decide (2 < size) = true ∨ (decide (2 < size) = false ∧ (size = 1 ∨ size = 2) ∧ inB tag = false))))))) := by
      unfold inB at hc ⊢
      simp only [Bool.and_eq_false_iff, decide_eq_true_eq, decide_eq_false_iff_not] at hc ⊢
      omega
    clear hc
    rcases hcase with q1 | ⟨q1, q2 | ⟨q2, q3 | ⟨q3, q4 | ⟨q4, q5, q6⟩⟩⟩⟩
    iterate 4
      · have b0 : (w.alloc (.cells #[.int .i64 0, .slice none 0 0] 56)).cell? ⟨w.heap.size, 0, none⟩ = some (.int .i64 0) := bR.cell 0
        have b1 : (w.alloc (.cells #[.int .i64 0, .slice none 0 0] 56)).cell? ⟨w.heap.size, 1, none⟩ = some (.slice none 0 0) := bR.cell 1
        have f0 := bR.frozen 0
        have f1 := bR.frozen 1
        clear bR
        go_enter Tryd.func30, Tryd.ntmps30
        go_wp2
        rw [hres.out]
        refine bodyPost_ret (v := .tuple #[.agg #[.int .i64 0, .slice none 0 0], .int .i64 2]) (by simp [results, Tryd.f30, go_sem, b0, b1]) rfl ⟨_, [], rfl, OwnS.nil _ _, ?_⟩
        first | exact hE0 | exact (hE0.setCell (by simp) _).setCell (by simp) _
    have hbe : Hid (baseErr tag = 2) := Hid.mk (by simp [baseErr, q6])
    clear q6
    rcases q5 with rfl | rfl
    all_goals
      have bO := Box.new (w.alloc (.cells #[.int .i64 0, .slice none 0 0] 56)) 56 #[.int .i64 num, .slice none 0 0]
      have bR2 := bR.ext ((Ext.refl _).alloc (.cells #[.int .i64 num, .slice none 0 0] 56))
      have hE1 := hE0.alloc (.cells #[.int .i64 num, .slice none 0 0] 56)
      clear bR bO
      go_enter Tryd.func30, Tryd.ntmps30
      go_wp2
      obtain ⟨w1, hw1⟩ : ∃ w1, (w.alloc (.cells #[.int .i64 0, .slice none 0 0] 56)).alloc (.cells #[.int .i64 num, .slice none 0 0] 56) = w1 := ⟨_, rfl⟩
      rw [hw1] at hE1 bR2 ⊢
      clear hw1
      go_loopw [29] (fun iv wr => iv = .int .i64 0 ∧ wr = w1) (fun _ _ => 0)
      case atStart => exact ⟨rfl, rfl⟩
      case round =>
        obtain ⟨rfl, rfl⟩ := hrel
        go_wp2_with fail
        refine (items_Base tag _).mono ?_
        rintro e w4 ⟨sn, rfl, hOn, hE4⟩
        rw [hbe.out]
        obtain ⟨an, cn, rfl, -⟩ := (Own.sl hOn).slice_form
        have bR4 := bR2.ext hE4
        have b0 : w4.cell? ⟨w.heap.size, 0, none⟩ = some (.int .i64 0) := bR4.cell 0
        have b1 : w4.cell? ⟨w.heap.size, 1, none⟩ = some (.slice none 0 0) := bR4.cell 1
        have f0 := bR4.frozen 0
        have f1 := bR4.frozen 1
        have hF4 := hE1.trans hE4
        clear bR4 hOn
        go_wp2
        rw [hres.out]
        refine bodyPost_ret (v := .tuple #[.agg #[.int .i64 0, .slice none 0 0], .int .i64 2]) (by simp [results, Tryd.f30, go_sem, b0, b1]) rfl ⟨_, [], rfl, OwnS.nil _ _, ?_⟩
        first | exact hF4 | exact (hF4.setCell (by simp) _).setCell (by simp) _
  · rw [newK_yes hc]
    simp only [Bool.and_eq_true, decide_eq_true_eq, inB] at hc
    exact stacks_New_go num size tag w ⟨hc.1.1.1.1, hc.1.1.1.2⟩ ⟨hc.1.2, hc.2⟩ (by simp [inB, hc.1.1.2.1, hc.1.1.2.2])


end Go.Proofs.YtkbocenpkdaogaaDoor
