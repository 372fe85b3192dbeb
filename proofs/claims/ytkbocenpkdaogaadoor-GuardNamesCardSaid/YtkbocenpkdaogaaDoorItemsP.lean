/- Contracts: Push, the program's and the reference's. (printed by gen/push.py) -/
import Derived.Test.YtkbocenpkdaogaaDoorItemsE
namespace Go.Proofs.YtkbocenpkdaogaaDoor
set_option maxRecDepth 100000
open Go.RowKit

def pushErr (l : List Item) (x : Item) : Int := if okS l then (if x.ok then (if l.length = 600 then 18 else 0) else 8) else 8
def pushOf (l : List Item) (x : Item) : List Item := if pushErr l x = 0 then l ++ [x] else []
set_option maxHeartbeats 1600000 in
theorem items_Push_ok {l : List Item} {v : Value} {w : World} (x : Item) (hl : Its w v l) (hk : okS l = true) (hx : x.ok = true) (h6 : l.length ≠ 600) :
    Calls Tryd.prog 45 #[v, x.val] w (RetLN 23 w (l ++ [x]) 0) := by
  have hE0 := (Ext.refl w).alloc (.cells x.row.toArray 23)
  have hC := Lib.hid (items_Check (hl.ext hE0))
  have hI := Lib.hid (items_isItem x)
  have hW := Lib.hid hl
  have h0 : Hid (chk l = 0) := Hid.mk (by simp [chk, hk])
  have hX := Lib.hid hx
  have hb : ((l.length : Int) == 600) = false := by simp; omega
  have hs : l.length ≤ 600 := by simp [okS] at hk; omega
  obtain ⟨a, cp, rfl, hlc, hcm, hnn⟩ := hl.form
  clear hl hk hx h6
  obtain ⟨p, t, c⟩ := x
  unfold Item.val Item.row at *
  go_enter Tryd.func45, Tryd.ntmps45
  go_wp2_with (first | (go_at_call 42; refine hC.out.mono ?_; rintro e w1 ⟨rfl, hE1⟩; rw [h0.out]; have c0 := hE1.cell (p := ⟨w.heap.size, 0, none⟩) (v := .int .u8 p) (by simp); have c1 := hE1.cell (p := ⟨w.heap.size, 1, none⟩) (v := .int .i64 t) (by simp); have c2 := hE1.cell (p := ⟨w.heap.size, 2, none⟩) (v := .int .i64 c) (by simp)) | (go_at_call 66; refine (hI.out _).mono ?_; rintro e w2 ⟨rfl, hE2⟩; rw [hX.out]; have d0 := hE2.cell c0; have d1 := hE2.cell c1; have d2 := hE2.cell c2))
  have hE2' := (hE0.trans hE1).trans hE2
  clear c0 c1 c2
  have hE2s := hE2'.size
  have hz0 : w.heap.size < w2.heap.size := by have := hE1.size; have := hE2.size; simp at *; omega
  have hSk : ∀ w' w'' : World, ((w'.cell? ⟨w.heap.size, 0, none⟩ = some (.int .u8 p) ∧ w'.cell? ⟨w.heap.size, 1, none⟩ = some (.int .i64 t) ∧ w'.cell? ⟨w.heap.size, 2, none⟩ = some (.int .i64 c)) ∧ Ext w2 w') → Below w2.heap.size w' w'' → ((w''.cell? ⟨w.heap.size, 0, none⟩ = some (.int .u8 p) ∧ w''.cell? ⟨w.heap.size, 1, none⟩ = some (.int .i64 t) ∧ w''.cell? ⟨w.heap.size, 2, none⟩ = some (.int .i64 c)) ∧ Ext w2 w'') := by
    rintro w' w'' ⟨⟨h0, h1, h2⟩, h3⟩ h
    have g := fun o => Below.cell h (p := ⟨w.heap.size, o, none⟩) hz0
    exact ⟨⟨(g 0).trans h0, (g 1).trans h1, (g 2).trans h2⟩, Below.trans h3 h⟩
  obtain ⟨i, z, hi, hz, hi3, hz3, hby⟩ := Item.infoE
  have hi' := Lib.hid hi; have hz' := Lib.hid hz; have hi3' := Lib.hid hi3; have hz3' := Lib.hid hz3; have hby' := Lib.hid hby
  clear hi hz hi3 hz3 hby
  go_region_held3 (fun w' => (w'.cell? ⟨w.heap.size, 0, none⟩ = some (.int .u8 p) ∧ w'.cell? ⟨w.heap.size, 1, none⟩ = some (.int .i64 t) ∧ w'.cell? ⟨w.heap.size, 2, none⟩ = some (.int .i64 c)) ∧ Ext w2 w') (first | exact ⟨⟨d0, d1, d2⟩, (Ext.refl _).drew⟩ | (refine hSk _ _ (by assumption) ?_; first | exact hK'.below | exact Below.alloc (Below.refl _ _) (Ext.size (And.right (by assumption))) _ | exact Below.mono (by assumption : Ext _ _) (Ext.size (And.right (by assumption))) | exact Below.mono (by assumption) (Ext.size (And.right (by assumption))))) (first | (go_at_call 52; refine (clone_Stack (l := l) (Its.ext hW.out (hE2'.trans ?_)) (by omega)).mono ?_; (exact And.right (by assumption)); rintro e w3 ⟨v3, rfl, hO, hE3⟩) | (rw [if_pos (by rfl)]; refine wp_append_any (.tmp 19) (.tmp 21) 31 31 rfl rfl rfl (B := w2.heap.size) (e := 23) (n := l.length) (m := 1) (xs := l.flatMap Item.row) (ys := [.int .u8 p, .int .i64 t, .int .i64 c]) Tryd.underlying31 Tryd.underlying31 hi'.out hz'.out hi3'.out hz3'.out ?_ ?_ ?_ ?_ ?_ ?_ ?_; (first | exact (hO.mono (Nat.le_refl _)).ext ((Ext.refl _).alloc _) | exact hO.mono (by simp)); (first | exact (Own.lit (B := 0) (e := 23) (k := 3) _ #[.int .u8 p, .int .i64 t, .int .i64 c] 1 (Nat.zero_le _) (by simp [maxLen]) rfl).sl | exact ((Own.lit (B := 0) (e := 23) (k := 3) _ #[.int .u8 p, .int .i64 t, .int .i64 c] 1 (Nat.zero_le _) (by simp [maxLen]) rfl).sl.ext (Ext.refl _).drew).ext hE3); (simp [Value.oneCell']); (simp [maxLen]; omega); (rw [hby'.out]; omega); (have := hE3.size; simp at *; omega); intro v' w' hO' hK' _ _))
  all_goals
    go_wp2
    go_ret2
    refine ⟨_, rfl, ?_, ?_⟩
    · rw [List.length_append, List.flatMap_append]
      exact hO'.mono hE2s
    · have hX := And.right (by assumption : (w'.cell? ⟨w.heap.size, 0, none⟩ = some (.int .u8 p) ∧ w'.cell? ⟨w.heap.size, 1, none⟩ = some (.int .i64 t) ∧ w'.cell? ⟨w.heap.size, 2, none⟩ = some (.int .i64 c)) ∧ Ext w2 w')
      exact hE2'.trans hX

set_option maxHeartbeats 800000 in
theorem items_Push {l : List Item} {v : Value} {w : World} (x : Item) (hl : Its w v l) :
    Calls Tryd.prog 45 #[v, x.val] w (RetLN 23 w (pushOf l x) (pushErr l x)) := by
  by_cases hk : okS l = true
  · by_cases hx : x.ok = true
    · by_cases h6 : l.length = 600
      · have hE0 := (Ext.refl w).alloc (.cells x.row.toArray 23)
        have hC := Lib.hid (items_Check (hl.ext hE0))
        have hI := Lib.hid (items_isItem x)
        have h0 : Hid (chk l = 0) := Hid.mk (by simp [chk, hk])
        have hX := Lib.hid hx
        have he : Hid (pushErr l x = 18) := Hid.mk (by simp [pushErr, hk, hx, h6])
        have hb : ((l.length : Int) == 600) = true := by simp; omega
        unfold pushOf; rw [he.out]
        obtain ⟨a, cp, rfl, hlc, hcm, hnn⟩ := hl.form
        clear hl hk hx h6 he
        obtain ⟨p, t, c⟩ := x
        unfold Item.val Item.row at *
        go_enter Tryd.func45, Tryd.ntmps45
        go_wp2_with (first | (go_at_call 42; refine hC.out.mono ?_; rintro e w1 ⟨rfl, hE1⟩; rw [h0.out]; have c0 := hE1.cell (p := ⟨w.heap.size, 0, none⟩) (v := .int .u8 p) (by simp); have c1 := hE1.cell (p := ⟨w.heap.size, 1, none⟩) (v := .int .i64 t) (by simp); have c2 := hE1.cell (p := ⟨w.heap.size, 2, none⟩) (v := .int .i64 c) (by simp)) | (go_at_call 66; refine (hI.out _).mono ?_; rintro e w2 ⟨rfl, hE2⟩; rw [hX.out]))
        go_ret2
        exact ⟨_, rfl, Own.nil _ _ _ _, (hE0.trans hE1).trans hE2⟩
      · unfold pushOf
        rw [show pushErr l x = 0 by simp [pushErr, hk, hx, h6]]
        exact items_Push_ok x hl hk hx h6
    · have hE0 := (Ext.refl w).alloc (.cells x.row.toArray 23)
      have hC := Lib.hid (items_Check (hl.ext hE0))
      have hI := Lib.hid (items_isItem x)
      have h0 : Hid (chk l = 0) := Hid.mk (by simp [chk, hk])
      have hX : Hid (x.ok = false) := Hid.mk (by simpa using hx)
      have he : Hid (pushErr l x = 8) := Hid.mk (by simp [pushErr, hk, hx])
      unfold pushOf; rw [he.out]
      obtain ⟨a, cp, rfl, hlc, hcm, hnn⟩ := hl.form
      clear hl hk hx he
      obtain ⟨p, t, c⟩ := x
      unfold Item.val Item.row at *
      go_enter Tryd.func45, Tryd.ntmps45
      go_wp2_with (first | (go_at_call 42; refine hC.out.mono ?_; rintro e w1 ⟨rfl, hE1⟩; rw [h0.out]; have c0 := hE1.cell (p := ⟨w.heap.size, 0, none⟩) (v := .int .u8 p) (by simp); have c1 := hE1.cell (p := ⟨w.heap.size, 1, none⟩) (v := .int .i64 t) (by simp); have c2 := hE1.cell (p := ⟨w.heap.size, 2, none⟩) (v := .int .i64 c) (by simp)) | (go_at_call 66; refine (hI.out _).mono ?_; rintro e w2 ⟨rfl, hE2⟩; rw [hX.out]))
      go_ret2
      exact ⟨_, rfl, Own.nil _ _ _ _, (hE0.trans hE1).trans hE2⟩
  · have hE0 := (Ext.refl w).alloc (.cells x.row.toArray 23)
    have hC := Lib.hid (items_Check (hl.ext hE0))
    have h8 : Hid (chk l = 8) := Hid.mk (by simp [chk, hk])
    have he : Hid (pushErr l x = 8) := Hid.mk (by simp [pushErr, hk])
    unfold pushOf; rw [he.out]
    obtain ⟨a, cp, rfl, hlc, hcm, hnn⟩ := hl.form
    clear hl hk he
    obtain ⟨p, t, c⟩ := x
    unfold Item.val Item.row at *
    go_enter Tryd.func45, Tryd.ntmps45
    go_wp2_with (go_at_call 42; refine hC.out.mono ?_; rintro e w1 ⟨rfl, hE1⟩; rw [h8.out])
    go_ret2
    exact ⟨_, rfl, Own.nil _ _ _ _, hE0.trans hE1⟩



end Go.Proofs.YtkbocenpkdaogaaDoor
