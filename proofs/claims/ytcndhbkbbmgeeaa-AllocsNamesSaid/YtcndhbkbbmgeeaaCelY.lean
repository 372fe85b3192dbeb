/- Contract: full of layer 26: n allocations of one cell each, every other one ended. -/
import Derived.Test.YtcndhbkbbmgeeaaCelW8
import Derived.Deep.RegionLaw
namespace Go.Proofs.Ytcndhbkbbmgeeaa
set_option maxRecDepth 100000
open Go.RowKit

def al26 (i : Nat) : Alloc := ⟨(i : Int), i % 2 == 0, [Cell.zero]⟩
def fullL (n : Nat) : List Alloc := (List.range n).map al26
theorem fullL_next (k : Nat) : fullL k ++ [al26 k] = fullL (k + 1) := by simp [fullL, List.range_succ]
theorem fullL_len (k : Nat) : (fullL k).length = k := by simp [fullL]
theorem zc1_own (W : World) {B : Nat} (hB : B ≤ W.heap.size) (k : Nat) : OwnC (W.alloc (.cells (zcells 1) 48)) B (.slice (some ⟨W.heap.size, 0, none⟩) 1 1) (al26 k) := zcells_own 1 (by decide) W hB

set_option maxRecDepth 100000 in
set_option maxHeartbeats 3200000 in
theorem law26_full (n : Nat) (hn : n ≤ 1000) (w : World) : Calls Try.prog 24 #[.int .i64 (n : Int)] w fun e w' => ∃ s, e = .returned (.agg #[s, .int .i64 (n : Int)]) ∧ Als w' s (fullL n) ∧ Ext w w' := by
  have bR := (Box.new w 52 #[.slice none 0 0, .int .i64 0]).ext ((Ext.refl _).alloc (.cells #[.slice none 0 0, .int .i64 (n : Int)] 52))
  have bM := Box.new (w.alloc (.cells #[.slice none 0 0, .int .i64 0] 52)) 52 #[.slice none 0 0, .int .i64 (n : Int)]
  rw [World.size_alloc] at bM
  have hE0 := ((Ext.refl w).alloc (.cells #[.slice none 0 0, .int .i64 0] 52)).alloc (.cells #[.slice none 0 0, .int .i64 (n : Int)] 52)
  have hsz0 : ((w.alloc (.cells #[.slice none 0 0, .int .i64 0] 52)).alloc (.cells #[.slice none 0 0, .int .i64 (n : Int)] 52)).heap.size = w.heap.size + 2 := by simp
  have hsz0 := Lib.hid hsz0
  obtain ⟨ai, az, hai, haz, hai3, haz3, haby⟩ := Alloc.infoE
  have hai := Lib.hid hai; have haz := Lib.hid haz; have hai3 := Lib.hid hai3; have haz3 := Lib.hid haz3; have haby := Lib.hid haby
  have hmk : ∀ W : World, (Instr.makeSlice 49 (.int .i64 1) (.int .i64 1)).run Try.prog W = .ok (.slice (some ⟨W.heap.size, 0, none⟩) 1 1) (W.alloc (.cells (zcells 1) 48)) := make_Cells 1 (by decide)
  go_enter Try.func24, Try.ntmps24
  go_wp2
  go_loopw [4] (fun iv wr => ∃ (k : Nat) (sv : Value) (vs : List Value), k ≤ n ∧ iv = .int .i64 k ∧ Box wr (w.heap.size + 1) 52 #[sv, .int .i64 (n : Int)] ∧ Box wr w.heap.size 52 #[.slice none 0 0, .int .i64 0] ∧ OM wr (w.heap.size + 2) sv vs (fullL k) ∧ (∃ a c, sv = .slice a k c) ∧ Ext w wr ∧ w.heap.size + 2 ≤ wr.heap.size) (fun iv _ => n - (intOf iv).toNat)
  case atStart => exact ⟨0, _, [], Nat.zero_le _, rfl, bM, bR, OTb.nil _ _, ⟨_, _, rfl⟩, hE0, by rw [hsz0.out]; exact Nat.le_refl _⟩
  case round =>
    obtain ⟨k, sv, vs, hk, rfl, hM, hR, hOM, ⟨a, c, rfl⟩, hX, hsz⟩ := hrel
    clear bR bM hE0
    by_cases hlt : k < n
    · have hlt' : decide ((k : Int) < (n : Int)) = true := decide_eq_true (by omega)
      have m0 : wr.cell? ⟨w.heap.size + 1, 0, none⟩ = some (.slice a k c) := hM.cell 0
      have mf0 := hM.frozen 0
      have hlM := hM.lt
      have hlm2 : w.heap.size < wr.heap.size := by omega
      obtain ⟨r, b, hr, hr2, hb, hr3⟩ : ∃ (r : Int) (b : Bool), Int.tmod (k : Int) 2 = r ∧ (r == 0) = b ∧ (k % 2 == 0) = b ∧ IntKind.i64.wrap r = r := by
        refine ⟨((k % 2 : Nat) : Int), k % 2 == 0, ?_, ?_, rfl, IntWalk.i64_in _ (by omega)⟩
        · rw [Int.tmod_eq_emod_of_nonneg (by omega)]; omega
        · by_cases h : k % 2 = 0
          · rw [h]; rfl
          · have : k % 2 = 1 := by omega
            rw [this]; rfl
      have hb := Lib.hid hb
      have hal : al26 k = ⟨(k : Int), b, [Cell.zero]⟩ := by unfold al26; rw [hb.out]
      have hvB := fun g e => (hOM.outer.lt (g := g) e)
      have hH := Lib.hid (And.intro hM (And.intro hR (And.intro hX (And.intro hOM (And.intro hvB hsz)))))
      have hlen : Hid ((fullL k).length = k) := Hid.mk (fullL_len k)
      have hzo : Sl ((wr.alloc (.cells (zcells 1) 48)).alloc (.cells #[.int .i64 (k : Int), .bool b, .slice (some ⟨wr.heap.size, 0, none⟩) 1 1] 55)) 3 (.slice (some ⟨wr.heap.size + 1, 0, none⟩) 1 1) 1 (arow (.slice (some ⟨wr.heap.size, 0, none⟩) 1 1) (al26 k)) := by
        have := (Own.lit' (B := 0) (e := 55) (k := 3) (wr.alloc (.cells (zcells 1) 48)) #[.int .i64 (k : Int), .bool b, .slice (some ⟨wr.heap.size, 0, none⟩) 1 1] 1 (Nat.zero_le _) (by simp [maxLen]) rfl).sl
        rw [World.size_alloc] at this
        rw [hal]
        exact this
      have hzo := Lib.hid hzo
      have hal := Lib.hid hal
      have hk2 : Hid (k + 1 ≤ 1000) := Hid.mk (by omega)
      clear hM hR hX hOM hvB hsz
      go_wp2
      go_region_law (first | (rw [if_pos (by rfl)]; refine wp_append_any (.tmp 13) (.tmp 20) 50 50 rfl rfl rfl (B := w.heap.size + 2) (e := 55) (n := k) (m := 1) (xs := trows arow vs (fullL k)) (ys := arow (.slice (some ⟨wr.heap.size, 0, none⟩) 1 1) (al26 k)) Try.underlying50 Try.underlying50 hai.out haz.out hai3.out haz3.out ?_ ?_ ?_ ?_ ?_ ?_ ?_; (have := hH.out.2.2.2.1.outer; rw [hlen.out] at this; exact this.ext (((Ext.refl _).alloc _).alloc _).drew); (exact Sl.ext hzo.out (Ext.refl _).drew); (simp [arow, Value.oneCell']); (exact Nat.le_trans hk2.out (by simp [maxLen])); (rw [haby.out]; have := hk2.out; omega); (have := hH.out.2.2.2.2.2; simp; omega); intro v' w' hO' hK' hb' _; obtain ⟨a3, cp3, rfl, -⟩ := hO'.sl.slice_form; have bM' := (hH.out.1.ext (((Ext.refl _).alloc _).alloc _).drew).but (ExtBut.of_keeps hK') (fun h => by have := (hH.out.2.2.2.2.1 _ h).1; omega); have k0 : w'.cell? ⟨w.heap.size + 1, 0, none⟩ = some (.slice a k c) := bM'.cell 0; have kf := bM'.frozen 0))
      all_goals
        have hEx := ((((Ext.refl wr).alloc (.cells (zcells 1) 48)).alloc (.cells #[.int .i64 (k : Int), .bool b, .slice (some ⟨wr.heap.size, 0, none⟩) 1 1] 55)).drew)
        have hzc : OwnC (((wr.alloc (.cells (zcells 1) 48)).alloc (.cells #[.int .i64 (k : Int), .bool b, .slice (some ⟨wr.heap.size, 0, none⟩) 1 1] 55)).drew) (w.heap.size + 2) (.slice (some ⟨wr.heap.size, 0, none⟩) 1 1) (al26 k) := Own.ext (zc1_own wr hH.out.2.2.2.2.2 k) (((Ext.refl _).alloc _).drew)
        have hP := OM.push (a := al26 k) hH.out.2.2.2.1 hEx hzc (fun g e => by have h' : some wr.heap.size = some g := e; cases h'; exact Nat.le_refl _) (by rw [hlen.out]; exact hO') hK' hb'
        rw [fullL_next] at hP
        have hF4 := Ext.trans hH.out.2.2.1 hEx
        have hS4 := ExtBut.of_keeps hK'
        have hvB := hH.out.2.2.2.2.1
        have hin := OM.inner_lt hP
        have hvB' := fun g e => (hO'.lt (g := g) e).1
        have hF5 := ExtBut.ext hF4 hS4 (fun x h => by have := (hvB _ h).1; omega)
        have bR5 := (hH.out.2.1.ext hEx).but hS4 (fun h => by have := (hvB _ h).1; omega)
        have bM6 := bM'.set 0 (.slice a3 (k + 1) cp3)
        have hX6 := ExtBut.setCell w' ⟨w.heap.size + 1, 0, none⟩ (.slice a3 (k + 1) cp3)
        have bR6 := bR5.other (p := ⟨w.heap.size + 1, 0, none⟩) (by simp) (.slice a3 (k + 1) cp3)
        have hP6 := hP.but hX6 (fun g e h => by have h1 := hvB' g e; have h2 : g = w.heap.size + 1 := h; omega) (fun s hs g e h => by have h1 := (hin s hs g e).1; have h2 : g = w.heap.size + 1 := h; omega)
        have hF6 := ExtBut.ext hF5 hX6 (fun x h => by have h2 : x = w.heap.size + 1 := h; omega)
        have hs6 : w.heap.size + 2 ≤ w'.heap.size := Nat.le_trans hH.out.2.2.2.2.2 (Nat.le_trans hEx.size hS4.size)
        clear bM' k0 kf bR5 hEx hzc hK' hb' hO' hF4 hS4
        obtain ⟨w6, hw6⟩ : ∃ w6, w'.setCell ⟨w.heap.size + 1, 0, none⟩ (.slice a3 (k + 1) cp3) = w6 := ⟨_, rfl⟩
        have hs7 : w.heap.size + 2 ≤ w6.heap.size := by rw [← hw6]; simpa using hs6
        rw [hw6] at bM6 bR6 hP6 hF6 ⊢
        clear hw6
        replace hP6 := Lib.hid hP6
        clear hF5 hvB hin hvB' hP
        go_wp2
        go_roundw
        case rel => exact ⟨k + 1, _, _, by omega, by go_num, bM6, bR6, hP6.out, ⟨_, _, rfl⟩, hF6, hs7⟩
        case measure => simp [intOf]; omega
    · have hke : k = n := by omega
      subst hke
      have hlt' : decide ((k : Int) < (k : Int)) = false := decide_eq_false (by omega)
      have m0 : wr.cell? ⟨w.heap.size + 1, 0, none⟩ = some (.slice a k c) := hM.cell 0
      have m1 : wr.cell? ⟨w.heap.size + 1, 1, none⟩ = some (.int .i64 (k : Int)) := hM.cell 1
      have r0 : wr.cell? ⟨w.heap.size, 0, none⟩ = some (.slice none 0 0) := hR.cell 0
      have r1 : wr.cell? ⟨w.heap.size, 1, none⟩ = some (.int .i64 0) := hR.cell 1
      have rf0 := hR.frozen 0
      have rf1 := hR.frozen 1
      have hlM := hM.lt
      have hlR := hR.lt
      have hvB := fun g e => (hOM.outer.lt (g := g) e)
      have hin := OM.inner_lt hOM
      have hH := Lib.hid (And.intro hOM (And.intro hvB hin))
      clear hM hR hOM hvB hin hlt
      go_wp2
      have hX6 := ((ExtBut.setCell wr ⟨w.heap.size, 0, none⟩ (.slice a k c)).trans (ExtBut.setCell _ ⟨w.heap.size, 1, none⟩ (.int .i64 (k : Int))))
      refine bodyPost_ret (v := .agg #[.slice a k c, .int .i64 (k : Int)]) (by simp [results, Try.f24, go_sem, r0, r1]) rfl ⟨_, rfl, (hH.out.1.but hX6 (fun g e h => by have h1 := (hH.out.2.1 g e).1; have h2 : g = w.heap.size := h; omega) (fun s hs g e h => by have h1 := (hH.out.2.2 s hs g e).1; have h2 : g = w.heap.size := h; omega)).read, ExtBut.ext hX hX6 (fun x h => by have h2 : x = w.heap.size := h; omega)⟩

end Go.Proofs.Ytcndhbkbbmgeeaa
