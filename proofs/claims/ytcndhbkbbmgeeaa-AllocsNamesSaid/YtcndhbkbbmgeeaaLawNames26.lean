/- The statement AllocsNames: the call returns true. No condition. (printed by gen/names26.py) -/
import Derived.Test.YtcndhbkbbmgeeaaNamA
import Derived.Test.YtcndhbkbbmgeeaaReadM
import Derived.Test.YtcndhbkbbmgeeaaClose
import Derived.Deep.DeepCutAuto
namespace Go.Proofs.Ytcndhbkbbmgeeaa
set_option maxRecDepth 100000
open Go.ChangeShapes Go.WideShapes Go.ChangeAt Go.RowKit

theorem Sl.of_boxA {w : World} {b k n : Nat} {e : TypeId} {vs : Array Value} (h : Box w b e vs) (hs : vs.size = n * k) (hm : n ≤ maxLen) : Sl w k (.slice (some ⟨b, 0, none⟩) n n) n vs.toList := by
  refine ⟨by simpa using hs, _, _, rfl, Nat.le_refl _, hm, fun h => (by cases h), fun j u hj => ⟨b, 0, rfl, ?_⟩⟩
  rw [Nat.zero_add, h.cell j]
  simpa using hj
set_option maxRecDepth 100000 in
set_option maxHeartbeats 25600000 in
theorem allocsNames_walk {w : World} : Calls Try.prog 5 #[] w fun e w' => e = .returned (.bool true) ∧ Ext w w' := by
  obtain ⟨A, B, C, D, X, Y, hA, hB, hC, hD, dbad, d1, d2, d3, d4, d5, d6, d7, d8, yl⟩ := data26
  replace hA := Lib.hid hA
  replace hB := Lib.hid hB
  replace hC := Lib.hid hC
  replace hD := Lib.hid hD
  replace dbad := Lib.hid dbad
  replace d1 := Lib.hid d1
  replace d2 := Lib.hid d2
  replace d3 := Lib.hid d3
  replace d4 := Lib.hid d4
  replace d5 := Lib.hid d5
  replace d6 := Lib.hid d6
  replace d7 := Lib.hid d7
  replace d8 := Lib.hid d8
  replace yl := Lib.hid yl
  have hmk3 : ∀ W : World, (Instr.makeSlice 49 (.int .i64 3) (.int .i64 3)).run Try.prog W = .ok (.slice (some ⟨W.heap.size, 0, none⟩) 3 3) (W.alloc (.cells (zcells 3) 48)) := make_Cells 3 (by decide)
  go_enter Try.func5, Try.ntmps5
  go_upto_region 2 with fail
  have b1 := Box.new w 48 #[.int .u8 1, .int .i64 5, .int .i64 0, .int .i64 0, .int .i64 0]
  have hsz : Hid ((World.alloc w (.cells #[.int .u8 1, .int .i64 5, .int .i64 0, .int .i64 0, .int .i64 0] 48)).heap.size = w.heap.size + 1) := Hid.mk (by simp)
  have hx0 : Ext w (World.alloc w (.cells #[.int .u8 1, .int .i64 5, .int .i64 0, .int .i64 0, .int .i64 0] 48)) := (Ext.refl _).alloc _
  obtain ⟨w0b, hw0⟩ : ∃ x, World.alloc w (.cells #[.int .u8 1, .int .i64 5, .int .i64 0, .int .i64 0, .int .i64 0] 48) = x := ⟨_, rfl⟩
  rw [hw0] at hsz b1 hx0 ⊢
  clear hw0
  have hF0 := Ext.trans (Ext.refl w) hx0
  obtain ⟨B1, hB1⟩ : ∃ n, w.heap.size = n := ⟨_, rfl⟩
  rw [hB1] at b1 ⊢
  clear hB1
  have hone : Cls w0b (.slice (some ⟨B1, 0, none⟩) 1 1) [⟨1, 5, 0, 0, 0⟩] := Sl.of_boxA b1 rfl (by simp [maxLen])
  clear b1
  refine wp_region_go (L := [Pr.eq (.agg #[.slice none 0 0, .int .i64 (-1)]), Pr.eq (.agg #[.slice none 0 0, .int .i64 1000001]), (PrMem 401 A), Pr.eq (.agg #[.int .i64 0, .bool true, .slice none 0 0]), (PrAls [⟨0, true, []⟩]), (PrMem 1 [⟨0, true, []⟩]), (PrCls [Cell.zero, Cell.zero, Cell.zero]), (PrAlc 0 true [Cell.zero, Cell.zero, Cell.zero]), (PrAls [⟨0, true, [Cell.zero, Cell.zero, Cell.zero]⟩]), (PrMem 1 [⟨0, true, [Cell.zero, Cell.zero, Cell.zero]⟩]), Pr.eq (.slice (some ⟨B1, 0, none⟩) 1 1), Pr.eq (.agg #[.int .i64 0, .bool true, .slice (some ⟨B1, 0, none⟩) 1 1]), (PrAls [⟨0, true, [⟨1, 5, 0, 0, 0⟩]⟩]), (PrMem 0 [⟨0, true, [⟨1, 5, 0, 0, 0⟩]⟩]), Pr.eq (.slice (some ⟨B1, 0, none⟩) 1 1), Pr.eq (.agg #[.int .i64 (-1), .bool true, .slice (some ⟨B1, 0, none⟩) 1 1]), (PrAls [⟨-1, true, [⟨1, 5, 0, 0, 0⟩]⟩]), (PrMem 1 [⟨-1, true, [⟨1, 5, 0, 0, 0⟩]⟩]), Pr.eq (.slice (some ⟨B1, 0, none⟩) 1 1), Pr.eq (.agg #[.int .i64 0, .bool false, .slice (some ⟨B1, 0, none⟩) 1 1]), (PrAls [⟨0, false, [⟨1, 5, 0, 0, 0⟩]⟩]), (PrMem 1 [⟨0, false, [⟨1, 5, 0, 0, 0⟩]⟩]), Pr.eq (.slice (some ⟨B1, 0, none⟩) 1 1), Pr.eq (.agg #[.int .i64 0, .bool true, .slice (some ⟨B1, 0, none⟩) 1 1]), Pr.eq (.slice (some ⟨B1, 0, none⟩) 1 1), Pr.eq (.agg #[.int .i64 0, .bool true, .slice (some ⟨B1, 0, none⟩) 1 1]), (PrAls [⟨0, true, [⟨1, 5, 0, 0, 0⟩]⟩, ⟨0, true, [⟨1, 5, 0, 0, 0⟩]⟩]), (PrMem 2 [⟨0, true, [⟨1, 5, 0, 0, 0⟩]⟩, ⟨0, true, [⟨1, 5, 0, 0, 0⟩]⟩]), (PrTb (bads26 A)), (PrTb (bads26 A))]) (by kernel_rfl) (by kernel_rfl) ?_ ?_
  · refine ⟨?_, ?_, ?_, ?_, ?_, ?_, ?_, ?_, ?_, ?_, ?_, ?_, ?_, ?_, ?_, ?_, ?_, ?_, ?_, ?_, ?_, ?_, ?_, ?_, ?_, ?_, ?_, ?_, ?_, ?_, trivial⟩
    · intro a w hE hd ho
      refine .inl ⟨rfl, ?_⟩
      intro K hK
      have hF : Ext w0b w := Ext.trans ((Ext.refl _).drew) hE
      clear hd ho
      replace hK := Lib.hid hK
      go_simp
      exact hK.out _ _ rfl (Ext.refl _)
    · intro a w hE hd ho
      refine .inl ⟨rfl, ?_⟩
      intro K hK
      have hF : Ext w0b w := Ext.trans ((Ext.refl _).drew) hE
      clear hd ho
      replace hK := Lib.hid hK
      go_simp
      exact hK.out _ _ rfl (Ext.refl _)
    · intro a w hE hd ho
      refine .inl ⟨rfl, ?_⟩
      intro K hK
      have hF : Ext w0b w := Ext.trans ((Ext.refl _).drew) hE
      clear hd ho
      replace hK := Lib.hid hK
      go_simp
      refine (law26_full 401 (by decide) _).mono ?_
      rintro e wz ⟨sx, rfl, hx, hZ⟩
      rw [hA.out] at hx
      go_simp
      exact hK.out _ _ ⟨_, rfl, hx⟩ hZ
    · intro a w hE hd ho
      refine .inl ⟨rfl, ?_⟩
      intro K hK
      have hF : Ext w0b w := Ext.trans ((Ext.refl _).drew) hE
      clear hd ho
      replace hK := Lib.hid hK
      go_simp
      exact hK.out _ _ rfl (Ext.refl _)
    · intro a w hE hd ho
      refine .inl ⟨rfl, ?_⟩
      intro K hK
      have hF : Ext w0b w := Ext.trans ((Ext.refl _).drew) hE
      have e48 : a.eval (.tmp 48) = .agg #[.int .i64 0, .bool true, .slice none 0 0] := hd 3 (by kernel_rfl)
      rw [eval_tmp] at e48
      clear hd ho
      replace hK := Lib.hid hK
      go_simp
      exact hK.out _ _ (Als.lit1 w _ _ _ [] _ (Sl.nil _ _) rfl) ((Ext.refl _).alloc _)
    · intro a w hE hd ho
      refine .inl ⟨rfl, ?_⟩
      intro K hK
      have hF : Ext w0b w := Ext.trans ((Ext.refl _).drew) hE
      have h49 : Als w (a.eval (.tmp 49)) [⟨0, true, []⟩] := hd 4 (by kernel_rfl)
      obtain ⟨xa49, xc49, e49, -⟩ := h49.form
      rw [e49] at h49
      rw [eval_tmp] at e49
      clear hd ho
      replace hK := Lib.hid hK
      go_simp
      exact hK.out _ _ ⟨_, rfl, h49⟩ (Ext.refl _)
    · intro a w hE hd ho
      refine .inl ⟨rfl, ?_⟩
      intro K hK
      have hF : Ext w0b w := Ext.trans ((Ext.refl _).drew) hE
      clear hd ho
      replace hK := Lib.hid hK
      go_simp
      exact hK.out _ _ (zcls3 w) ((Ext.refl _).alloc _)
    · intro a w hE hd ho
      refine .inl ⟨rfl, ?_⟩
      intro K hK
      have hF : Ext w0b w := Ext.trans ((Ext.refl _).drew) hE
      have h51 : Cls w (a.eval (.tmp 51)) [Cell.zero, Cell.zero, Cell.zero] := hd 6 (by kernel_rfl)
      obtain ⟨xa51, xc51, e51, -⟩ := h51.form
      rw [e51] at h51
      rw [eval_tmp] at e51
      clear hd ho
      replace hK := Lib.hid hK
      go_simp
      exact hK.out _ _ ⟨_, rfl, h51⟩ (Ext.refl _)
    · intro a w hE hd ho
      refine .inl ⟨rfl, ?_⟩
      intro K hK
      have hF : Ext w0b w := Ext.trans ((Ext.refl _).drew) hE
      obtain ⟨s52, e52, g52⟩ : ∃ s, a.eval (.tmp 52) = .agg #[.int .i64 0, .bool true, s] ∧ Cls w s [Cell.zero, Cell.zero, Cell.zero] := hd 7 (by kernel_rfl)
      rw [eval_tmp] at e52
      obtain ⟨xa52, xc52, rfl, -⟩ := g52.form
      clear hd ho
      replace hK := Lib.hid hK
      go_simp
      exact hK.out _ _ (Als.lit1 w _ _ _ _ _ g52 rfl) ((Ext.refl _).alloc _)
    · intro a w hE hd ho
      refine .inl ⟨rfl, ?_⟩
      intro K hK
      have hF : Ext w0b w := Ext.trans ((Ext.refl _).drew) hE
      have h53 : Als w (a.eval (.tmp 53)) [⟨0, true, [Cell.zero, Cell.zero, Cell.zero]⟩] := hd 8 (by kernel_rfl)
      obtain ⟨xa53, xc53, e53, -⟩ := h53.form
      rw [e53] at h53
      rw [eval_tmp] at e53
      clear hd ho
      replace hK := Lib.hid hK
      go_simp
      exact hK.out _ _ ⟨_, rfl, h53⟩ (Ext.refl _)
    · intro a w hE hd ho
      refine .inl ⟨rfl, ?_⟩
      intro K hK
      have hF : Ext w0b w := Ext.trans ((Ext.refl _).drew) hE
      have e1 : a.eval (.tmp 1) = .slice (some ⟨B1, 0, none⟩) 1 1 := ho 1 (by kernel_rfl)
      rw [eval_tmp] at e1
      clear hd ho
      replace hK := Lib.hid hK
      go_simp
      exact hK.out _ _ rfl (Ext.refl _)
    · intro a w hE hd ho
      refine .inl ⟨rfl, ?_⟩
      intro K hK
      have hF : Ext w0b w := Ext.trans ((Ext.refl _).drew) hE
      have e55 : a.eval (.tmp 55) = .slice (some ⟨B1, 0, none⟩) 1 1 := hd 10 (by kernel_rfl)
      rw [eval_tmp] at e55
      clear hd ho
      replace hK := Lib.hid hK
      go_simp
      exact hK.out _ _ rfl (Ext.refl _)
    · intro a w hE hd ho
      refine .inl ⟨rfl, ?_⟩
      intro K hK
      have hF : Ext w0b w := Ext.trans ((Ext.refl _).drew) hE
      have e56 : a.eval (.tmp 56) = .agg #[.int .i64 0, .bool true, .slice (some ⟨B1, 0, none⟩) 1 1] := hd 11 (by kernel_rfl)
      rw [eval_tmp] at e56
      clear hd ho
      replace hK := Lib.hid hK
      go_simp
      exact hK.out _ _ (Als.lit1 w _ _ _ _ _ (hone.ext hF) rfl) ((Ext.refl _).alloc _)
    · intro a w hE hd ho
      refine .inl ⟨rfl, ?_⟩
      intro K hK
      have hF : Ext w0b w := Ext.trans ((Ext.refl _).drew) hE
      have h57 : Als w (a.eval (.tmp 57)) [⟨0, true, [⟨1, 5, 0, 0, 0⟩]⟩] := hd 12 (by kernel_rfl)
      obtain ⟨xa57, xc57, e57, -⟩ := h57.form
      rw [e57] at h57
      rw [eval_tmp] at e57
      clear hd ho
      replace hK := Lib.hid hK
      go_simp
      exact hK.out _ _ ⟨_, rfl, h57⟩ (Ext.refl _)
    · intro a w hE hd ho
      refine .inl ⟨rfl, ?_⟩
      intro K hK
      have hF : Ext w0b w := Ext.trans ((Ext.refl _).drew) hE
      have e1 : a.eval (.tmp 1) = .slice (some ⟨B1, 0, none⟩) 1 1 := ho 1 (by kernel_rfl)
      rw [eval_tmp] at e1
      clear hd ho
      replace hK := Lib.hid hK
      go_simp
      exact hK.out _ _ rfl (Ext.refl _)
    · intro a w hE hd ho
      refine .inl ⟨rfl, ?_⟩
      intro K hK
      have hF : Ext w0b w := Ext.trans ((Ext.refl _).drew) hE
      have e59 : a.eval (.tmp 59) = .slice (some ⟨B1, 0, none⟩) 1 1 := hd 14 (by kernel_rfl)
      rw [eval_tmp] at e59
      clear hd ho
      replace hK := Lib.hid hK
      go_simp
      exact hK.out _ _ rfl (Ext.refl _)
    · intro a w hE hd ho
      refine .inl ⟨rfl, ?_⟩
      intro K hK
      have hF : Ext w0b w := Ext.trans ((Ext.refl _).drew) hE
      have e60 : a.eval (.tmp 60) = .agg #[.int .i64 (-1), .bool true, .slice (some ⟨B1, 0, none⟩) 1 1] := hd 15 (by kernel_rfl)
      rw [eval_tmp] at e60
      clear hd ho
      replace hK := Lib.hid hK
      go_simp
      exact hK.out _ _ (Als.lit1 w _ _ _ _ _ (hone.ext hF) rfl) ((Ext.refl _).alloc _)
    · intro a w hE hd ho
      refine .inl ⟨rfl, ?_⟩
      intro K hK
      have hF : Ext w0b w := Ext.trans ((Ext.refl _).drew) hE
      have h61 : Als w (a.eval (.tmp 61)) [⟨-1, true, [⟨1, 5, 0, 0, 0⟩]⟩] := hd 16 (by kernel_rfl)
      obtain ⟨xa61, xc61, e61, -⟩ := h61.form
      rw [e61] at h61
      rw [eval_tmp] at e61
      clear hd ho
      replace hK := Lib.hid hK
      go_simp
      exact hK.out _ _ ⟨_, rfl, h61⟩ (Ext.refl _)
    · intro a w hE hd ho
      refine .inl ⟨rfl, ?_⟩
      intro K hK
      have hF : Ext w0b w := Ext.trans ((Ext.refl _).drew) hE
      have e1 : a.eval (.tmp 1) = .slice (some ⟨B1, 0, none⟩) 1 1 := ho 1 (by kernel_rfl)
      rw [eval_tmp] at e1
      clear hd ho
      replace hK := Lib.hid hK
      go_simp
      exact hK.out _ _ rfl (Ext.refl _)
    · intro a w hE hd ho
      refine .inl ⟨rfl, ?_⟩
      intro K hK
      have hF : Ext w0b w := Ext.trans ((Ext.refl _).drew) hE
      have e63 : a.eval (.tmp 63) = .slice (some ⟨B1, 0, none⟩) 1 1 := hd 18 (by kernel_rfl)
      rw [eval_tmp] at e63
      clear hd ho
      replace hK := Lib.hid hK
      go_simp
      exact hK.out _ _ rfl (Ext.refl _)
    · intro a w hE hd ho
      refine .inl ⟨rfl, ?_⟩
      intro K hK
      have hF : Ext w0b w := Ext.trans ((Ext.refl _).drew) hE
      have e64 : a.eval (.tmp 64) = .agg #[.int .i64 0, .bool false, .slice (some ⟨B1, 0, none⟩) 1 1] := hd 19 (by kernel_rfl)
      rw [eval_tmp] at e64
      clear hd ho
      replace hK := Lib.hid hK
      go_simp
      exact hK.out _ _ (Als.lit1 w _ _ _ _ _ (hone.ext hF) rfl) ((Ext.refl _).alloc _)
    · intro a w hE hd ho
      refine .inl ⟨rfl, ?_⟩
      intro K hK
      have hF : Ext w0b w := Ext.trans ((Ext.refl _).drew) hE
      have h65 : Als w (a.eval (.tmp 65)) [⟨0, false, [⟨1, 5, 0, 0, 0⟩]⟩] := hd 20 (by kernel_rfl)
      obtain ⟨xa65, xc65, e65, -⟩ := h65.form
      rw [e65] at h65
      rw [eval_tmp] at e65
      clear hd ho
      replace hK := Lib.hid hK
      go_simp
      exact hK.out _ _ ⟨_, rfl, h65⟩ (Ext.refl _)
    · intro a w hE hd ho
      refine .inl ⟨rfl, ?_⟩
      intro K hK
      have hF : Ext w0b w := Ext.trans ((Ext.refl _).drew) hE
      have e1 : a.eval (.tmp 1) = .slice (some ⟨B1, 0, none⟩) 1 1 := ho 1 (by kernel_rfl)
      rw [eval_tmp] at e1
      clear hd ho
      replace hK := Lib.hid hK
      go_simp
      exact hK.out _ _ rfl (Ext.refl _)
    · intro a w hE hd ho
      refine .inl ⟨rfl, ?_⟩
      intro K hK
      have hF : Ext w0b w := Ext.trans ((Ext.refl _).drew) hE
      have e67 : a.eval (.tmp 67) = .slice (some ⟨B1, 0, none⟩) 1 1 := hd 22 (by kernel_rfl)
      rw [eval_tmp] at e67
      clear hd ho
      replace hK := Lib.hid hK
      go_simp
      exact hK.out _ _ rfl (Ext.refl _)
    · intro a w hE hd ho
      refine .inl ⟨rfl, ?_⟩
      intro K hK
      have hF : Ext w0b w := Ext.trans ((Ext.refl _).drew) hE
      have e1 : a.eval (.tmp 1) = .slice (some ⟨B1, 0, none⟩) 1 1 := ho 1 (by kernel_rfl)
      rw [eval_tmp] at e1
      clear hd ho
      replace hK := Lib.hid hK
      go_simp
      exact hK.out _ _ rfl (Ext.refl _)
    · intro a w hE hd ho
      refine .inl ⟨rfl, ?_⟩
      intro K hK
      have hF : Ext w0b w := Ext.trans ((Ext.refl _).drew) hE
      have e69 : a.eval (.tmp 69) = .slice (some ⟨B1, 0, none⟩) 1 1 := hd 24 (by kernel_rfl)
      rw [eval_tmp] at e69
      clear hd ho
      replace hK := Lib.hid hK
      go_simp
      exact hK.out _ _ rfl (Ext.refl _)
    · intro a w hE hd ho
      refine .inl ⟨rfl, ?_⟩
      intro K hK
      have hF : Ext w0b w := Ext.trans ((Ext.refl _).drew) hE
      have e68 : a.eval (.tmp 68) = .agg #[.int .i64 0, .bool true, .slice (some ⟨B1, 0, none⟩) 1 1] := hd 23 (by kernel_rfl)
      rw [eval_tmp] at e68
      have e70 : a.eval (.tmp 70) = .agg #[.int .i64 0, .bool true, .slice (some ⟨B1, 0, none⟩) 1 1] := hd 25 (by kernel_rfl)
      rw [eval_tmp] at e70
      clear hd ho
      replace hK := Lib.hid hK
      go_simp
      exact hK.out _ _ (Als.lit2 w _ _ _ _ _ _ _ _ _ (hone.ext hF) (hone.ext hF) rfl) ((Ext.refl _).alloc _)
    · intro a w hE hd ho
      refine .inl ⟨rfl, ?_⟩
      intro K hK
      have hF : Ext w0b w := Ext.trans ((Ext.refl _).drew) hE
      have h71 : Als w (a.eval (.tmp 71)) [⟨0, true, [⟨1, 5, 0, 0, 0⟩]⟩, ⟨0, true, [⟨1, 5, 0, 0, 0⟩]⟩] := hd 26 (by kernel_rfl)
      obtain ⟨xa71, xc71, e71, -⟩ := h71.form
      rw [e71] at h71
      rw [eval_tmp] at e71
      clear hd ho
      replace hK := Lib.hid hK
      go_simp
      exact hK.out _ _ ⟨_, rfl, h71⟩ (Ext.refl _)
    · intro a w hE hd ho
      refine .inl ⟨rfl, ?_⟩
      intro K hK
      have hF : Ext w0b w := Ext.trans ((Ext.refl _).drew) hE
      have e45 : a.eval (.tmp 45) = .agg #[.slice none 0 0, .int .i64 (-1)] := hd 0 (by kernel_rfl)
      rw [eval_tmp] at e45
      have e46 : a.eval (.tmp 46) = .agg #[.slice none 0 0, .int .i64 1000001] := hd 1 (by kernel_rfl)
      rw [eval_tmp] at e46
      obtain ⟨s47, e47, g47⟩ : ∃ s, a.eval (.tmp 47) = .agg #[s, .int .i64 401] ∧ Als w s A := hd 2 (by kernel_rfl)
      rw [eval_tmp] at e47
      obtain ⟨xa47, xc47, rfl, -⟩ := g47.form
      obtain ⟨s50, e50, g50⟩ : ∃ s, a.eval (.tmp 50) = .agg #[s, .int .i64 1] ∧ Als w s [⟨0, true, []⟩] := hd 5 (by kernel_rfl)
      rw [eval_tmp] at e50
      obtain ⟨xa50, xc50, rfl, -⟩ := g50.form
      obtain ⟨s54, e54, g54⟩ : ∃ s, a.eval (.tmp 54) = .agg #[s, .int .i64 1] ∧ Als w s [⟨0, true, [Cell.zero, Cell.zero, Cell.zero]⟩] := hd 9 (by kernel_rfl)
      rw [eval_tmp] at e54
      obtain ⟨xa54, xc54, rfl, -⟩ := g54.form
      obtain ⟨s58, e58, g58⟩ : ∃ s, a.eval (.tmp 58) = .agg #[s, .int .i64 0] ∧ Als w s [⟨0, true, [⟨1, 5, 0, 0, 0⟩]⟩] := hd 13 (by kernel_rfl)
      rw [eval_tmp] at e58
      obtain ⟨xa58, xc58, rfl, -⟩ := g58.form
      obtain ⟨s62, e62, g62⟩ : ∃ s, a.eval (.tmp 62) = .agg #[s, .int .i64 1] ∧ Als w s [⟨-1, true, [⟨1, 5, 0, 0, 0⟩]⟩] := hd 17 (by kernel_rfl)
      rw [eval_tmp] at e62
      obtain ⟨xa62, xc62, rfl, -⟩ := g62.form
      obtain ⟨s66, e66, g66⟩ : ∃ s, a.eval (.tmp 66) = .agg #[s, .int .i64 1] ∧ Als w s [⟨0, false, [⟨1, 5, 0, 0, 0⟩]⟩] := hd 21 (by kernel_rfl)
      rw [eval_tmp] at e66
      obtain ⟨xa66, xc66, rfl, -⟩ := g66.form
      obtain ⟨s72, e72, g72⟩ : ∃ s, a.eval (.tmp 72) = .agg #[s, .int .i64 2] ∧ Als w s [⟨0, true, [⟨1, 5, 0, 0, 0⟩]⟩, ⟨0, true, [⟨1, 5, 0, 0, 0⟩]⟩] := hd 27 (by kernel_rfl)
      rw [eval_tmp] at e72
      obtain ⟨xa72, xc72, rfl, -⟩ := g72.form
      clear hd ho
      replace hK := Lib.hid hK
      go_simp
      exact hK.out _ _ ⟨_, rfl, mtab w _ [.slice none 0 0, .slice none 0 0, _, _, _, _, _, _, _] (bads26 A) ⟨Als.nil _, Als.nil _, g47, g50, g54, g58, g62, g66, g72, trivial⟩ rfl⟩ ((Ext.refl _).alloc _)
    · intro a w hE hd ho
      refine .inl ⟨rfl, ?_⟩
      intro K hK
      have hF : Ext w0b w := Ext.trans ((Ext.refl _).drew) hE
      obtain ⟨tb73, e73, g73⟩ : ∃ B, a.eval (.tmp 73) = .slice (some ⟨B, 0, none⟩) 9 9 ∧ ∀ (i : Nat) (x : Mem), (bads26 A)[i]? = some x → Mrow w B i x := hd 28 (by kernel_rfl)
      rw [eval_tmp] at e73
      clear hd ho
      replace hK := Lib.hid hK
      go_simp
      exact hK.out _ _ ⟨_, rfl, g73⟩ (Ext.refl _)
  · intro vals w hE hv
    have hF : Ext w0b w := Ext.trans ((Ext.refl _).drew) hE
    obtain ⟨TB, e2, hT⟩ : ∃ B, vals 29 = .slice (some ⟨B, 0, none⟩) 9 9 ∧ ∀ (i : Nat) (x : Mem), (bads26 A)[i]? = some x → Mrow w B i x := hv 29 (by decide)
    clear hv hE hone hmk3
    replace hT := Lib.hid hT
    obtain ⟨wy, hwy⟩ : ∃ z, w = z := ⟨_, rfl⟩
    rw [hwy] at hF hT ⊢
    clear hwy
    simp only [putAll]
    go_simp
    try rw [e2]
    clear e2
    go_wp2
    have hF1 := Ext.trans (hF0) hF
    have hall := Lib.hid (bads26_all dbad.out)
    have hbl : Hid ((bads26 A).length = 9) := Hid.mk rfl
    obtain ⟨bd, hbd⟩ : ∃ z, bads26 A = z := ⟨_, rfl⟩
    rw [hbd] at hT hall hbl
    clear hbd
    go_loopw [3] (fun iv wr => ∃ i : Nat, i ≤ 9 ∧ iv = .int .i64 i ∧ Ext wy wr) (fun iv _ => 9 - (intOf iv).toNat)
    case atStart => exact ⟨0, by omega, rfl, Ext.refl _⟩
    case round =>
      obtain ⟨i, hi, rfl, hQ⟩ := hrel
      by_cases hlt : i < 9
      · have hlt' : decide ((i : Int) < 9) = true := decide_eq_true (by omega)
        obtain ⟨x, hx0⟩ : ∃ x, bd[i]? = some x := ⟨bd[i]'(by rw [hbl.out]; exact hlt), by simp⟩
        obtain ⟨e1, e2, e3, e4, e5, e6⟩ := hall.out x (List.mem_of_getElem? hx0)
        obtain ⟨sa, sn, sc, q0, q1, hal⟩ := (hT.out i x hx0).ext hQ
        have e6 : i64B x.next := e6
        obtain ⟨xl, xn⟩ := x
        dsimp only at *
        replace e1 := Lib.hid e1; replace e2 := Lib.hid e2; replace e3 := Lib.hid e3; replace e4 := Lib.hid e4; replace e5 := Lib.hid e5; replace e6 := Lib.hid e6
        have hi0 : (0 : Int) ≤ (i : Int) := by omega
        have hi1 : (i : Int) < 9 := by omega
        clear hx0
        have q0_l := World.block_lt_of_cell? _ _ q0
        have q1_l := World.block_lt_of_cell? _ _ q1
        go_wp2_with fail
        try clear q0_l
        try clear q1_l
        refine (allocs_Add (m := ⟨xl, xn⟩) 0 (hal.ext (by repeat (first | exact Ext.refl _ | apply Ext.alloc | apply Ext.drew))) e6.out).mono ?_
        rintro e w101 ⟨v100, rfl, f100, hZ100⟩
        have hE100 : Ext wr w101 := Ext.trans (by repeat (first | exact Ext.refl _ | apply Ext.alloc | apply Ext.drew)) hZ100
        replace hal := hal.ext hE100
        replace q0 := Ext.cell hE100 q0
        replace q1 := Ext.cell hE100 q1
        have hF100 := Ext.trans (Ext.refl wr) hE100
        rw [e2.out] at f100
        rw [e2.out]
        obtain ⟨v100', rfl, hz100⟩ := FrM.read f100
        obtain ⟨s100, c100, rfl, -⟩ := hz100.form
        clear f100 hz100
        dsimp only [Mem.zero, List.length]
        have q0_l := World.block_lt_of_cell? _ _ q0
        have q1_l := World.block_lt_of_cell? _ _ q1
        go_wp2_with fail
        try clear q0_l
        try clear q1_l
        have bz1 := Box.new w101 52 #[.slice s100 0 c100, .int .i64 0]
        have hsz : Hid ((World.alloc w101 (.cells #[.slice s100 0 c100, .int .i64 0] 52)).heap.size = w101.heap.size + 1) := Hid.mk (by simp)
        have hx101 : Ext w101 (World.alloc w101 (.cells #[.slice s100 0 c100, .int .i64 0] 52)) := (Ext.refl _).alloc _
        obtain ⟨w101b, hw101⟩ : ∃ x, World.alloc w101 (.cells #[.slice s100 0 c100, .int .i64 0] 52) = x := ⟨_, rfl⟩
        rw [hw101] at hsz bz1 hx101 ⊢
        clear hw101
        replace hal := hal.ext hx101
        replace q0 := Ext.cell hx101 q0
        replace q1 := Ext.cell hx101 q1
        have hF101 := Ext.trans (hF100) hx101
        refine (allocs_Get (m := ⟨xl, xn⟩) (-1) (hal.ext (by repeat (first | exact Ext.refl _ | apply Ext.alloc | apply Ext.drew))) e6.out).mono ?_
        rintro e w103 ⟨s101, rfl, hz101, hZ102⟩
        have hE102 : Ext w101b w103 := Ext.trans (by repeat (first | exact Ext.refl _ | apply Ext.alloc | apply Ext.drew)) hZ102
        replace hal := hal.ext hE102
        replace bz1 := bz1.ext hE102
        replace q0 := Ext.cell hE102 q0
        replace q1 := Ext.cell hE102 q1
        have hF102 := Ext.trans (hF101) hE102
        rw [e3.out] at hz101
        rw [e3.out]
        obtain ⟨a101, c101, rfl, -⟩ := Cls.form hz101
        clear hz101
        dsimp only [Alloc.zero, List.length]
        have bz1_0 : World.cell? w103 ⟨w101.heap.size, 0, none⟩ = some (.slice s100 0 c100) := bz1.cell 0
        have bz1_1 : World.cell? w103 ⟨w101.heap.size, 1, none⟩ = some (.int .i64 0) := bz1.cell 1
        have bz1_l := bz1.lt
        have q0_l := World.block_lt_of_cell? _ _ q0
        have q1_l := World.block_lt_of_cell? _ _ q1
        go_wp2_with fail
        try clear q0_l
        try clear q1_l
        clear bz1_0 bz1_1 bz1_l
        have bz2 := Box.new w103 55 #[.int .i64 0, .bool false, .slice a101 0 c101]
        have hsz : Hid ((World.alloc w103 (.cells #[.int .i64 0, .bool false, .slice a101 0 c101] 55)).heap.size = w103.heap.size + 1) := Hid.mk (by simp)
        have hx103 : Ext w103 (World.alloc w103 (.cells #[.int .i64 0, .bool false, .slice a101 0 c101] 55)) := (Ext.refl _).alloc _
        obtain ⟨w103b, hw103⟩ : ∃ x, World.alloc w103 (.cells #[.int .i64 0, .bool false, .slice a101 0 c101] 55) = x := ⟨_, rfl⟩
        rw [hw103] at hsz bz2 hx103 ⊢
        clear hw103
        replace hal := hal.ext hx103
        replace bz1 := bz1.ext hx103
        replace q0 := Ext.cell hx103 q0
        replace q1 := Ext.cell hx103 q1
        have hF103 := Ext.trans (hF102) hx103
        refine (allocs_End (m := ⟨xl, xn⟩) (-1) (hal.ext (by repeat (first | exact Ext.refl _ | apply Ext.alloc | apply Ext.drew))) e6.out).mono ?_
        rintro e w105 ⟨v103, rfl, f103, hZ104⟩
        have hE104 : Ext w103b w105 := Ext.trans (by repeat (first | exact Ext.refl _ | apply Ext.alloc | apply Ext.drew)) hZ104
        replace hal := hal.ext hE104
        replace bz1 := bz1.ext hE104
        replace bz2 := bz2.ext hE104
        replace q0 := Ext.cell hE104 q0
        replace q1 := Ext.cell hE104 q1
        have hF104 := Ext.trans (hF103) hE104
        rw [e4.out] at f103
        rw [e4.out]
        obtain ⟨v103', rfl, hz103⟩ := FrM.read f103
        obtain ⟨s103, c103, rfl, -⟩ := hz103.form
        clear f103 hz103
        dsimp only [Mem.zero, List.length]
        have bz1_0 : World.cell? w105 ⟨w101.heap.size, 0, none⟩ = some (.slice s100 0 c100) := bz1.cell 0
        have bz1_1 : World.cell? w105 ⟨w101.heap.size, 1, none⟩ = some (.int .i64 0) := bz1.cell 1
        have bz1_l := bz1.lt
        have bz2_0 : World.cell? w105 ⟨w103.heap.size, 0, none⟩ = some (.int .i64 0) := bz2.cell 0
        have bz2_1 : World.cell? w105 ⟨w103.heap.size, 1, none⟩ = some (.bool false) := bz2.cell 1
        have bz2_2 : World.cell? w105 ⟨w103.heap.size, 2, none⟩ = some (.slice a101 0 c101) := bz2.cell 2
        have bz2_l := bz2.lt
        have q0_l := World.block_lt_of_cell? _ _ q0
        have q1_l := World.block_lt_of_cell? _ _ q1
        go_wp2_with fail
        try clear q0_l
        try clear q1_l
        clear bz1_0 bz1_1 bz1_l
        clear bz2_0 bz2_1 bz2_2 bz2_l
        have bz3 := Box.new w105 52 #[.slice s103 0 c103, .int .i64 0]
        have hsz : Hid ((World.alloc w105 (.cells #[.slice s103 0 c103, .int .i64 0] 52)).heap.size = w105.heap.size + 1) := Hid.mk (by simp)
        have hx105 : Ext w105 (World.alloc w105 (.cells #[.slice s103 0 c103, .int .i64 0] 52)) := (Ext.refl _).alloc _
        obtain ⟨w105b, hw105⟩ : ∃ x, World.alloc w105 (.cells #[.slice s103 0 c103, .int .i64 0] 52) = x := ⟨_, rfl⟩
        rw [hw105] at hsz bz3 hx105 ⊢
        clear hw105
        replace hal := hal.ext hx105
        replace bz1 := bz1.ext hx105
        replace bz2 := bz2.ext hx105
        replace q0 := Ext.cell hx105 q0
        replace q1 := Ext.cell hx105 q1
        have hF105 := Ext.trans (hF104) hx105
        refine (allocs_Forget (m := ⟨xl, xn⟩) (hal.ext (by repeat (first | exact Ext.refl _ | apply Ext.alloc | apply Ext.drew))) e6.out).mono ?_
        rintro e w107 ⟨v105, rfl, f105, hZ106⟩
        have hE106 : Ext w105b w107 := Ext.trans (by repeat (first | exact Ext.refl _ | apply Ext.alloc | apply Ext.drew)) hZ106
        replace hal := hal.ext hE106
        replace bz1 := bz1.ext hE106
        replace bz2 := bz2.ext hE106
        replace bz3 := bz3.ext hE106
        replace q0 := Ext.cell hE106 q0
        replace q1 := Ext.cell hE106 q1
        have hF106 := Ext.trans (hF105) hE106
        rw [e5.out] at f105
        rw [e5.out]
        obtain ⟨v105', rfl, hz105⟩ := FrM.read f105
        obtain ⟨s105, c105, rfl, -⟩ := hz105.form
        clear f105 hz105
        dsimp only [Mem.zero, List.length]
        have bz1_0 : World.cell? w107 ⟨w101.heap.size, 0, none⟩ = some (.slice s100 0 c100) := bz1.cell 0
        have bz1_1 : World.cell? w107 ⟨w101.heap.size, 1, none⟩ = some (.int .i64 0) := bz1.cell 1
        have bz1_l := bz1.lt
        have bz2_0 : World.cell? w107 ⟨w103.heap.size, 0, none⟩ = some (.int .i64 0) := bz2.cell 0
        have bz2_1 : World.cell? w107 ⟨w103.heap.size, 1, none⟩ = some (.bool false) := bz2.cell 1
        have bz2_2 : World.cell? w107 ⟨w103.heap.size, 2, none⟩ = some (.slice a101 0 c101) := bz2.cell 2
        have bz2_l := bz2.lt
        have bz3_0 : World.cell? w107 ⟨w105.heap.size, 0, none⟩ = some (.slice s103 0 c103) := bz3.cell 0
        have bz3_1 : World.cell? w107 ⟨w105.heap.size, 1, none⟩ = some (.int .i64 0) := bz3.cell 1
        have bz3_l := bz3.lt
        have q0_l := World.block_lt_of_cell? _ _ q0
        have q1_l := World.block_lt_of_cell? _ _ q1
        go_wp2_with fail
        try clear q0_l
        try clear q1_l
        clear bz1_0 bz1_1 bz1_l
        clear bz2_0 bz2_1 bz2_2 bz2_l
        clear bz3_0 bz3_1 bz3_l
        have bz4 := Box.new w107 52 #[.slice s105 0 c105, .int .i64 0]
        have hsz : Hid ((World.alloc w107 (.cells #[.slice s105 0 c105, .int .i64 0] 52)).heap.size = w107.heap.size + 1) := Hid.mk (by simp)
        have hx107 : Ext w107 (World.alloc w107 (.cells #[.slice s105 0 c105, .int .i64 0] 52)) := (Ext.refl _).alloc _
        obtain ⟨w107b, hw107⟩ : ∃ x, World.alloc w107 (.cells #[.slice s105 0 c105, .int .i64 0] 52) = x := ⟨_, rfl⟩
        rw [hw107] at hsz bz4 hx107 ⊢
        clear hw107
        replace hal := hal.ext hx107
        replace bz1 := bz1.ext hx107
        replace bz2 := bz2.ext hx107
        replace bz3 := bz3.ext hx107
        replace q0 := Ext.cell hx107 q0
        replace q1 := Ext.cell hx107 q1
        have hF107 := Ext.trans (hF106) hx107
        refine (allocs_Check (hal.ext (by repeat (first | exact Ext.refl _ | apply Ext.alloc | apply Ext.drew))) e6.out).mono ?_
        rintro e w109 ⟨rfl, hZ108⟩
        have hE108 : Ext w107b w109 := Ext.trans (by repeat (first | exact Ext.refl _ | apply Ext.alloc | apply Ext.drew)) hZ108
        replace hal := hal.ext hE108
        replace bz1 := bz1.ext hE108
        replace bz2 := bz2.ext hE108
        replace bz3 := bz3.ext hE108
        replace bz4 := bz4.ext hE108
        replace q0 := Ext.cell hE108 q0
        replace q1 := Ext.cell hE108 q1
        have hF108 := Ext.trans (hF107) hE108
        rw [e1.out]
        have bz1_0 : World.cell? w109 ⟨w101.heap.size, 0, none⟩ = some (.slice s100 0 c100) := bz1.cell 0
        have bz1_1 : World.cell? w109 ⟨w101.heap.size, 1, none⟩ = some (.int .i64 0) := bz1.cell 1
        have bz1_l := bz1.lt
        have bz2_0 : World.cell? w109 ⟨w103.heap.size, 0, none⟩ = some (.int .i64 0) := bz2.cell 0
        have bz2_1 : World.cell? w109 ⟨w103.heap.size, 1, none⟩ = some (.bool false) := bz2.cell 1
        have bz2_2 : World.cell? w109 ⟨w103.heap.size, 2, none⟩ = some (.slice a101 0 c101) := bz2.cell 2
        have bz2_l := bz2.lt
        have bz3_0 : World.cell? w109 ⟨w105.heap.size, 0, none⟩ = some (.slice s103 0 c103) := bz3.cell 0
        have bz3_1 : World.cell? w109 ⟨w105.heap.size, 1, none⟩ = some (.int .i64 0) := bz3.cell 1
        have bz3_l := bz3.lt
        have bz4_0 : World.cell? w109 ⟨w107.heap.size, 0, none⟩ = some (.slice s105 0 c105) := bz4.cell 0
        have bz4_1 : World.cell? w109 ⟨w107.heap.size, 1, none⟩ = some (.int .i64 0) := bz4.cell 1
        have bz4_l := bz4.lt
        have q0_l := World.block_lt_of_cell? _ _ q0
        have q1_l := World.block_lt_of_cell? _ _ q1
        go_wp2
        go_roundw
        case rel => exact ⟨i + 1, by omega, by go_num, hQ.trans (hF108)⟩
        case measure => simp [intOf]; omega
      · have hie : i = 9 := by omega
        subst hie
        clear hlt hi hT hall hbl
        have hF300 := Ext.trans (hF1) hQ
        go_wp2_with fail
        have bp := Box.new wr 46 #[.int .i64 1000000, .int .i64 2, .int .i64 1000000]
        have hsz : Hid ((World.alloc wr (.cells #[.int .i64 1000000, .int .i64 2, .int .i64 1000000] 46)).heap.size = wr.heap.size + 1) := Hid.mk (by simp)
        have hx301 : Ext wr (World.alloc wr (.cells #[.int .i64 1000000, .int .i64 2, .int .i64 1000000] 46)) := (Ext.refl _).alloc _
        obtain ⟨w301b, hw301⟩ : ∃ x, World.alloc wr (.cells #[.int .i64 1000000, .int .i64 2, .int .i64 1000000] 46) = x := ⟨_, rfl⟩
        rw [hw301] at hsz bp hx301 ⊢
        clear hw301
        have hF301 := Ext.trans (hF300) hx301
        refine (allocs_CheckCell ⟨2, 0, 1000000, 2, 1000000⟩ _).mono ?_
        rintro e w303 ⟨rfl, hZ302⟩
        have hE302 : Ext w301b w303 := Ext.trans (by repeat (first | exact Ext.refl _ | apply Ext.alloc | apply Ext.drew)) hZ302
        replace bp := bp.ext hE302
        have hF302 := Ext.trans (hF301) hE302
        rw [show cellErr ⟨2, 0, 1000000, 2, 1000000⟩ = 0 from by decide]
        have bp_0 : World.cell? w303 ⟨wr.heap.size, 0, none⟩ = some (.int .i64 1000000) := bp.cell 0
        have bp_1 : World.cell? w303 ⟨wr.heap.size, 1, none⟩ = some (.int .i64 2) := bp.cell 1
        have bp_2 : World.cell? w303 ⟨wr.heap.size, 2, none⟩ = some (.int .i64 1000000) := bp.cell 2
        have bp_l := bp.lt
        go_wp2_with fail
        clear bp_0 bp_1 bp_2 bp_l
        refine (allocs_CheckCell ⟨1, -1, 0, 0, 0⟩ _).mono ?_
        rintro e w304 ⟨rfl, hZ303⟩
        have hE303 : Ext w303 w304 := Ext.trans (by repeat (first | exact Ext.refl _ | apply Ext.alloc | apply Ext.drew)) hZ303
        replace bp := bp.ext hE303
        have hF303 := Ext.trans (hF302) hE303
        rw [show cellErr ⟨1, -1, 0, 0, 0⟩ = 0 from by decide]
        have bp_0 : World.cell? w304 ⟨wr.heap.size, 0, none⟩ = some (.int .i64 1000000) := bp.cell 0
        have bp_1 : World.cell? w304 ⟨wr.heap.size, 1, none⟩ = some (.int .i64 2) := bp.cell 1
        have bp_2 : World.cell? w304 ⟨wr.heap.size, 2, none⟩ = some (.int .i64 1000000) := bp.cell 2
        have bp_l := bp.lt
        go_wp2_with fail
        clear bp_0 bp_1 bp_2 bp_l
        refine (allocs_CheckCell ⟨0, 1, 0, 0, 0⟩ _).mono ?_
        rintro e w305 ⟨rfl, hZ304⟩
        have hE304 : Ext w304 w305 := Ext.trans (by repeat (first | exact Ext.refl _ | apply Ext.alloc | apply Ext.drew)) hZ304
        replace bp := bp.ext hE304
        have hF304 := Ext.trans (hF303) hE304
        rw [show cellErr ⟨0, 1, 0, 0, 0⟩ = 8 from by decide]
        have bp_0 : World.cell? w305 ⟨wr.heap.size, 0, none⟩ = some (.int .i64 1000000) := bp.cell 0
        have bp_1 : World.cell? w305 ⟨wr.heap.size, 1, none⟩ = some (.int .i64 2) := bp.cell 1
        have bp_2 : World.cell? w305 ⟨wr.heap.size, 2, none⟩ = some (.int .i64 1000000) := bp.cell 2
        have bp_l := bp.lt
        go_wp2_with fail
        clear bp_0 bp_1 bp_2 bp_l
        refine (allocs_CheckCell ⟨0, 0, 1000000, 2, 1000000⟩ _).mono ?_
        rintro e w306 ⟨rfl, hZ305⟩
        have hE305 : Ext w305 w306 := Ext.trans (by repeat (first | exact Ext.refl _ | apply Ext.alloc | apply Ext.drew)) hZ305
        replace bp := bp.ext hE305
        have hF305 := Ext.trans (hF304) hE305
        rw [show cellErr ⟨0, 0, 1000000, 2, 1000000⟩ = 8 from by decide]
        have bp_0 : World.cell? w306 ⟨wr.heap.size, 0, none⟩ = some (.int .i64 1000000) := bp.cell 0
        have bp_1 : World.cell? w306 ⟨wr.heap.size, 1, none⟩ = some (.int .i64 2) := bp.cell 1
        have bp_2 : World.cell? w306 ⟨wr.heap.size, 2, none⟩ = some (.int .i64 1000000) := bp.cell 2
        have bp_l := bp.lt
        go_wp2_with fail
        clear bp_0 bp_1 bp_2 bp_l
        refine (allocs_CheckCell ⟨3, 0, 0, 0, 0⟩ _).mono ?_
        rintro e w307 ⟨rfl, hZ306⟩
        have hE306 : Ext w306 w307 := Ext.trans (by repeat (first | exact Ext.refl _ | apply Ext.alloc | apply Ext.drew)) hZ306
        replace bp := bp.ext hE306
        have hF306 := Ext.trans (hF305) hE306
        rw [show cellErr ⟨3, 0, 0, 0, 0⟩ = 8 from by decide]
        have bp_0 : World.cell? w307 ⟨wr.heap.size, 0, none⟩ = some (.int .i64 1000000) := bp.cell 0
        have bp_1 : World.cell? w307 ⟨wr.heap.size, 1, none⟩ = some (.int .i64 2) := bp.cell 1
        have bp_2 : World.cell? w307 ⟨wr.heap.size, 2, none⟩ = some (.int .i64 1000000) := bp.cell 2
        have bp_l := bp.lt
        go_wp2_with fail
        clear bp_0 bp_1 bp_2 bp_l
        refine (allocs_CheckCell ⟨2, 1, 0, 0, 0⟩ _).mono ?_
        rintro e w308 ⟨rfl, hZ307⟩
        have hE307 : Ext w307 w308 := Ext.trans (by repeat (first | exact Ext.refl _ | apply Ext.alloc | apply Ext.drew)) hZ307
        replace bp := bp.ext hE307
        have hF307 := Ext.trans (hF306) hE307
        rw [show cellErr ⟨2, 1, 0, 0, 0⟩ = 8 from by decide]
        have bp_0 : World.cell? w308 ⟨wr.heap.size, 0, none⟩ = some (.int .i64 1000000) := bp.cell 0
        have bp_1 : World.cell? w308 ⟨wr.heap.size, 1, none⟩ = some (.int .i64 2) := bp.cell 1
        have bp_2 : World.cell? w308 ⟨wr.heap.size, 2, none⟩ = some (.int .i64 1000000) := bp.cell 2
        have bp_l := bp.lt
        go_wp2_with fail
        clear bp_0 bp_1 bp_2 bp_l
        refine (allocs_CheckCell ⟨1, 0, 1000000, 2, 1000000⟩ _).mono ?_
        rintro e w309 ⟨rfl, hZ308⟩
        have hE308 : Ext w308 w309 := Ext.trans (by repeat (first | exact Ext.refl _ | apply Ext.alloc | apply Ext.drew)) hZ308
        replace bp := bp.ext hE308
        have hF308 := Ext.trans (hF307) hE308
        rw [show cellErr ⟨1, 0, 1000000, 2, 1000000⟩ = 8 from by decide]
        have bp_0 : World.cell? w309 ⟨wr.heap.size, 0, none⟩ = some (.int .i64 1000000) := bp.cell 0
        have bp_1 : World.cell? w309 ⟨wr.heap.size, 1, none⟩ = some (.int .i64 2) := bp.cell 1
        have bp_2 : World.cell? w309 ⟨wr.heap.size, 2, none⟩ = some (.int .i64 1000000) := bp.cell 2
        have bp_l := bp.lt
        go_wp2_with fail
        clear bp_0 bp_1 bp_2 bp_l
        refine (allocs_CheckCell ⟨2, 0, 0, 3, 0⟩ _).mono ?_
        rintro e w310 ⟨rfl, hZ309⟩
        have hE309 : Ext w309 w310 := Ext.trans (by repeat (first | exact Ext.refl _ | apply Ext.alloc | apply Ext.drew)) hZ309
        replace bp := bp.ext hE309
        have hF309 := Ext.trans (hF308) hE309
        rw [show cellErr ⟨2, 0, 0, 3, 0⟩ = 8 from by decide]
        have bp_0 : World.cell? w310 ⟨wr.heap.size, 0, none⟩ = some (.int .i64 1000000) := bp.cell 0
        have bp_1 : World.cell? w310 ⟨wr.heap.size, 1, none⟩ = some (.int .i64 2) := bp.cell 1
        have bp_2 : World.cell? w310 ⟨wr.heap.size, 2, none⟩ = some (.int .i64 1000000) := bp.cell 2
        have bp_l := bp.lt
        go_wp2_with fail
        clear bp_0 bp_1 bp_2 bp_l
        refine (allocs_CheckCell ⟨2, 0, -1, 0, 0⟩ _).mono ?_
        rintro e w311 ⟨rfl, hZ310⟩
        have hE310 : Ext w310 w311 := Ext.trans (by repeat (first | exact Ext.refl _ | apply Ext.alloc | apply Ext.drew)) hZ310
        replace bp := bp.ext hE310
        have hF310 := Ext.trans (hF309) hE310
        rw [show cellErr ⟨2, 0, -1, 0, 0⟩ = 8 from by decide]
        have bp_0 : World.cell? w311 ⟨wr.heap.size, 0, none⟩ = some (.int .i64 1000000) := bp.cell 0
        have bp_1 : World.cell? w311 ⟨wr.heap.size, 1, none⟩ = some (.int .i64 2) := bp.cell 1
        have bp_2 : World.cell? w311 ⟨wr.heap.size, 2, none⟩ = some (.int .i64 1000000) := bp.cell 2
        have bp_l := bp.lt
        go_wp2_with fail
        clear bp_0 bp_1 bp_2 bp_l
        refine (allocs_CheckCell ⟨2, 0, 0, 0, 1000001⟩ _).mono ?_
        rintro e w312 ⟨rfl, hZ311⟩
        have hE311 : Ext w311 w312 := Ext.trans (by repeat (first | exact Ext.refl _ | apply Ext.alloc | apply Ext.drew)) hZ311
        replace bp := bp.ext hE311
        have hF311 := Ext.trans (hF310) hE311
        rw [show cellErr ⟨2, 0, 0, 0, 1000001⟩ = 8 from by decide]
        have bp_0 : World.cell? w312 ⟨wr.heap.size, 0, none⟩ = some (.int .i64 1000000) := bp.cell 0
        have bp_1 : World.cell? w312 ⟨wr.heap.size, 1, none⟩ = some (.int .i64 2) := bp.cell 1
        have bp_2 : World.cell? w312 ⟨wr.heap.size, 2, none⟩ = some (.int .i64 1000000) := bp.cell 2
        have bp_l := bp.lt
        go_wp2_with fail
        clear bp_0 bp_1 bp_2 bp_l
        refine (law26_full 400 (by decide) _).mono ?_
        rintro e w313 ⟨sf312, rfl, hf312, hZ312⟩
        have hE312 : Ext w312 w313 := Ext.trans (by repeat (first | exact Ext.refl _ | apply Ext.alloc | apply Ext.drew)) hZ312
        replace bp := bp.ext hE312
        have hF312 := Ext.trans (hF311) hE312
        rw [hB.out] at hf312
        obtain ⟨af312, cf312, rfl, -⟩ := hf312.form
        clear bp
        go_wp2_with fail
        refine (allocs_Add (m := ⟨B, 400⟩) 1 (hf312.ext (by repeat (first | exact Ext.refl _ | apply Ext.alloc | apply Ext.drew))) (by unfold i64B; (try dsimp only); decide)).mono ?_
        rintro e w314 ⟨v313, rfl, f313, hZ313⟩
        have hE313 : Ext w313 w314 := Ext.trans (by repeat (first | exact Ext.refl _ | apply Ext.alloc | apply Ext.drew)) hZ313
        replace hf312 := hf312.ext hE313
        have hF313 := Ext.trans (hF312) hE313
        rw [d1.out] at f313
        rw [d1.out]
        obtain ⟨v313', rfl, hz313⟩ := FrM.read f313
        obtain ⟨s313, c313, rfl, -⟩ := hz313.form
        clear f313 hz313
        dsimp only [Mem.zero, List.length]
        clear hf312
        go_wp2_with fail
        have bz5 := Box.new w314 52 #[.slice s313 0 c313, .int .i64 0]
        have hsz : Hid ((World.alloc w314 (.cells #[.slice s313 0 c313, .int .i64 0] 52)).heap.size = w314.heap.size + 1) := Hid.mk (by simp)
        have hx314 : Ext w314 (World.alloc w314 (.cells #[.slice s313 0 c313, .int .i64 0] 52)) := (Ext.refl _).alloc _
        obtain ⟨w314b, hw314⟩ : ∃ x, World.alloc w314 (.cells #[.slice s313 0 c313, .int .i64 0] 52) = x := ⟨_, rfl⟩
        rw [hw314] at hsz bz5 hx314 ⊢
        clear hw314
        have hF314 := Ext.trans (hF313) hx314
        refine (law26_full 400 (by decide) _).mono ?_
        rintro e w316 ⟨sf314, rfl, hf314, hZ315⟩
        have hE315 : Ext w314b w316 := Ext.trans (by repeat (first | exact Ext.refl _ | apply Ext.alloc | apply Ext.drew)) hZ315
        replace bz5 := bz5.ext hE315
        have hF315 := Ext.trans (hF314) hE315
        rw [hB.out] at hf314
        obtain ⟨af314, cf314, rfl, -⟩ := hf314.form
        clear bz5
        go_wp2_with fail
        refine (allocs_Add (m := ⟨B, 400⟩) 3 (hf314.ext (by repeat (first | exact Ext.refl _ | apply Ext.alloc | apply Ext.drew))) (by unfold i64B; (try dsimp only); decide)).mono ?_
        rintro e w317 ⟨v316, rfl, f316, hZ316⟩
        have hE316 : Ext w316 w317 := Ext.trans (by repeat (first | exact Ext.refl _ | apply Ext.alloc | apply Ext.drew)) hZ316
        replace hf314 := hf314.ext hE316
        have hF316 := Ext.trans (hF315) hE316
        rw [d2.out] at f316
        rw [d2.out]
        obtain ⟨v316', rfl, hz316⟩ := FrM.read f316
        obtain ⟨s316, c316, rfl, -⟩ := hz316.form
        clear f316 hz316
        dsimp only [Mem.zero, List.length]
        clear hf314
        go_wp2_with fail
        have bz6 := Box.new w317 52 #[.slice s316 0 c316, .int .i64 0]
        have hsz : Hid ((World.alloc w317 (.cells #[.slice s316 0 c316, .int .i64 0] 52)).heap.size = w317.heap.size + 1) := Hid.mk (by simp)
        have hx317 : Ext w317 (World.alloc w317 (.cells #[.slice s316 0 c316, .int .i64 0] 52)) := (Ext.refl _).alloc _
        obtain ⟨w317b, hw317⟩ : ∃ x, World.alloc w317 (.cells #[.slice s316 0 c316, .int .i64 0] 52) = x := ⟨_, rfl⟩
        rw [hw317] at hsz bz6 hx317 ⊢
        clear hw317
        have hF317 := Ext.trans (hF316) hx317
        refine (law26_full 399 (by decide) _).mono ?_
        rintro e w319 ⟨sf317, rfl, hf317, hZ318⟩
        have hE318 : Ext w317b w319 := Ext.trans (by repeat (first | exact Ext.refl _ | apply Ext.alloc | apply Ext.drew)) hZ318
        replace bz6 := bz6.ext hE318
        have hF318 := Ext.trans (hF317) hE318
        rw [hC.out] at hf317
        obtain ⟨af317, cf317, rfl, -⟩ := hf317.form
        clear bz6
        go_wp2_with fail
        refine (allocs_Add (m := ⟨C, 399⟩) 1 (hf317.ext (by repeat (first | exact Ext.refl _ | apply Ext.alloc | apply Ext.drew))) (by unfold i64B; (try dsimp only); decide)).mono ?_
        rintro e w320 ⟨v319, rfl, f319, hZ319⟩
        have hE319 : Ext w319 w320 := Ext.trans (by repeat (first | exact Ext.refl _ | apply Ext.alloc | apply Ext.drew)) hZ319
        replace hf317 := hf317.ext hE319
        have hF319 := Ext.trans (hF318) hE319
        rw [d3.out] at f319
        rw [d3.out]
        obtain ⟨v319', rfl, hz319⟩ := FrM.read f319
        obtain ⟨s319, c319, rfl, -⟩ := hz319.form
        clear f319 hz319
        dsimp only
        clear hf317
        go_wp2_with fail
        have bz7 := Box.new w320 52 #[.slice s319 X.length c319, .int .i64 400]
        have hsz : Hid ((World.alloc w320 (.cells #[.slice s319 X.length c319, .int .i64 400] 52)).heap.size = w320.heap.size + 1) := Hid.mk (by simp)
        have hx320 : Ext w320 (World.alloc w320 (.cells #[.slice s319 X.length c319, .int .i64 400] 52)) := (Ext.refl _).alloc _
        obtain ⟨w320b, hw320⟩ : ∃ x, World.alloc w320 (.cells #[.slice s319 X.length c319, .int .i64 400] 52) = x := ⟨_, rfl⟩
        rw [hw320] at hsz bz7 hx320 ⊢
        clear hw320
        have hF320 := Ext.trans (hF319) hx320
        refine (allocs_Add (m := ⟨[], 1000000⟩) 1 (Als.nil _) (by unfold i64B; (try dsimp only); decide)).mono ?_
        rintro e w322 ⟨v320, rfl, f320, hZ321⟩
        have hE321 : Ext w320b w322 := Ext.trans (by repeat (first | exact Ext.refl _ | apply Ext.alloc | apply Ext.drew)) hZ321
        replace bz7 := bz7.ext hE321
        have hF321 := Ext.trans (hF320) hE321
        rw [an_d] at f320
        rw [an_d]
        obtain ⟨v320', rfl, hz320⟩ := FrM.read f320
        obtain ⟨s320, c320, rfl, -⟩ := hz320.form
        clear f320 hz320
        dsimp only [Mem.zero, List.length]
        clear bz7
        go_wp2_with fail
        have bz8 := Box.new w322 52 #[.slice s320 0 c320, .int .i64 0]
        have hsz : Hid ((World.alloc w322 (.cells #[.slice s320 0 c320, .int .i64 0] 52)).heap.size = w322.heap.size + 1) := Hid.mk (by simp)
        have hx322 : Ext w322 (World.alloc w322 (.cells #[.slice s320 0 c320, .int .i64 0] 52)) := (Ext.refl _).alloc _
        obtain ⟨w322b, hw322⟩ : ∃ x, World.alloc w322 (.cells #[.slice s320 0 c320, .int .i64 0] 52) = x := ⟨_, rfl⟩
        rw [hw322] at hsz bz8 hx322 ⊢
        clear hw322
        have hF322 := Ext.trans (hF321) hx322
        refine (allocs_Add (m := ⟨[], 999999⟩) 2 (Als.nil _) (by unfold i64B; (try dsimp only); decide)).mono ?_
        rintro e w324 ⟨v322, rfl, f322, hZ323⟩
        have hE323 : Ext w322b w324 := Ext.trans (by repeat (first | exact Ext.refl _ | apply Ext.alloc | apply Ext.drew)) hZ323
        replace bz8 := bz8.ext hE323
        have hF323 := Ext.trans (hF322) hE323
        rw [an_e] at f322
        rw [an_e]
        obtain ⟨v322', rfl, hz322⟩ := FrM.read f322
        clear f322
        have hz322 : Als w324 v322' [newAlloc 999999 2] := hz322
        obtain ⟨sl, cl, rfl, -⟩ := hz322.form
        obtain ⟨lb, lo, ls, rfl, -, l0, l1, l2, hcl⟩ := hz322.cell (i := 0) rfl
        obtain ⟨la, lc, rfl, -⟩ := Cls.form hcl
        clear hz322 hcl l0 l1
        simp only [Nat.zero_mul, Nat.add_zero, newAlloc] at l2
        dsimp only [List.length]
        have bz8_0 : World.cell? w324 ⟨w322.heap.size, 0, none⟩ = some (.slice s320 0 c320) := bz8.cell 0
        have bz8_1 : World.cell? w324 ⟨w322.heap.size, 1, none⟩ = some (.int .i64 0) := bz8.cell 1
        have bz8_l := bz8.lt
        have l2_l := World.block_lt_of_cell? _ _ l2
        go_wp2_with fail
        try clear l2_l
        clear bz8_0 bz8_1 bz8_l
        have bL := Box.new w324 52 #[.slice (some ⟨lb, lo, none⟩) 1 cl, .int .i64 1000000]
        have hsz : Hid ((World.alloc w324 (.cells #[.slice (some ⟨lb, lo, none⟩) 1 cl, .int .i64 1000000] 52)).heap.size = w324.heap.size + 1) := Hid.mk (by simp)
        have hx324 : Ext w324 (World.alloc w324 (.cells #[.slice (some ⟨lb, lo, none⟩) 1 cl, .int .i64 1000000] 52)) := (Ext.refl _).alloc _
        obtain ⟨w324b, hw324⟩ : ∃ x, World.alloc w324 (.cells #[.slice (some ⟨lb, lo, none⟩) 1 cl, .int .i64 1000000] 52) = x := ⟨_, rfl⟩
        rw [hw324] at hsz bL hx324 ⊢
        clear hw324
        replace bz8 := bz8.ext hx324
        replace l2 := Ext.cell hx324 l2
        have hF324 := Ext.trans (hF323) hx324
        refine (allocs_Add (m := ⟨[], 0⟩) 0 (Als.nil _) (by unfold i64B; (try dsimp only); decide)).mono ?_
        rintro e w326 ⟨v324, rfl, f324, hZ325⟩
        have hE325 : Ext w324b w326 := Ext.trans (by repeat (first | exact Ext.refl _ | apply Ext.alloc | apply Ext.drew)) hZ325
        replace bz8 := bz8.ext hE325
        replace bL := bL.ext hE325
        replace l2 := Ext.cell hE325 l2
        have hF325 := Ext.trans (hF324) hE325
        rw [an_f] at f324
        rw [an_f]
        obtain ⟨v324', rfl, hz324⟩ := FrM.read f324
        obtain ⟨s324, c324, rfl, -⟩ := hz324.form
        clear f324 hz324
        dsimp only [Mem.zero, List.length]
        clear bz8
        have bL_0 : World.cell? w326 ⟨w324.heap.size, 0, none⟩ = some (.slice (some ⟨lb, lo, none⟩) 1 cl) := bL.cell 0
        have bL_1 : World.cell? w326 ⟨w324.heap.size, 1, none⟩ = some (.int .i64 1000000) := bL.cell 1
        have bL_l := bL.lt
        have l2_l := World.block_lt_of_cell? _ _ l2
        go_wp2_with fail
        try clear l2_l
        clear bL_0 bL_1 bL_l
        have bz9 := Box.new w326 52 #[.slice s324 0 c324, .int .i64 0]
        have hsz : Hid ((World.alloc w326 (.cells #[.slice s324 0 c324, .int .i64 0] 52)).heap.size = w326.heap.size + 1) := Hid.mk (by simp)
        have hx326 : Ext w326 (World.alloc w326 (.cells #[.slice s324 0 c324, .int .i64 0] 52)) := (Ext.refl _).alloc _
        obtain ⟨w326b, hw326⟩ : ∃ x, World.alloc w326 (.cells #[.slice s324 0 c324, .int .i64 0] 52) = x := ⟨_, rfl⟩
        rw [hw326] at hsz bz9 hx326 ⊢
        clear hw326
        replace bL := bL.ext hx326
        replace l2 := Ext.cell hx326 l2
        have hF326 := Ext.trans (hF325) hx326
        refine (law26_full 3 (by decide) _).mono ?_
        rintro e w328 ⟨sf326, rfl, hf326, hZ327⟩
        have hE327 : Ext w326b w328 := Ext.trans (by repeat (first | exact Ext.refl _ | apply Ext.alloc | apply Ext.drew)) hZ327
        replace bL := bL.ext hE327
        replace bz9 := bz9.ext hE327
        replace l2 := Ext.cell hE327 l2
        have hF327 := Ext.trans (hF326) hE327
        rw [hD.out] at hf326
        obtain ⟨af326, cf326, rfl, -⟩ := hf326.form
        clear bz9
        have bL_0 : World.cell? w328 ⟨w324.heap.size, 0, none⟩ = some (.slice (some ⟨lb, lo, none⟩) 1 cl) := bL.cell 0
        have bL_1 : World.cell? w328 ⟨w324.heap.size, 1, none⟩ = some (.int .i64 1000000) := bL.cell 1
        have bL_l := bL.lt
        have l2_l := World.block_lt_of_cell? _ _ l2
        go_wp2_with fail
        try clear l2_l
        clear bL_0 bL_1 bL_l
        refine (allocs_Get (m := ⟨D, 3⟩) 3 (hf326.ext (by repeat (first | exact Ext.refl _ | apply Ext.alloc | apply Ext.drew))) (by unfold i64B; (try dsimp only); decide)).mono ?_
        rintro e w329 ⟨s328, rfl, hz328, hZ328⟩
        have hE328 : Ext w328 w329 := Ext.trans (by repeat (first | exact Ext.refl _ | apply Ext.alloc | apply Ext.drew)) hZ328
        replace bL := bL.ext hE328
        replace hf326 := hf326.ext hE328
        replace l2 := Ext.cell hE328 l2
        have hF328 := Ext.trans (hF327) hE328
        rw [d4.out] at hz328
        rw [d4.out]
        obtain ⟨a328, c328, rfl, -⟩ := Cls.form hz328
        clear hz328
        dsimp only [Alloc.zero, List.length]
        clear hf326
        have bL_0 : World.cell? w329 ⟨w324.heap.size, 0, none⟩ = some (.slice (some ⟨lb, lo, none⟩) 1 cl) := bL.cell 0
        have bL_1 : World.cell? w329 ⟨w324.heap.size, 1, none⟩ = some (.int .i64 1000000) := bL.cell 1
        have bL_l := bL.lt
        have l2_l := World.block_lt_of_cell? _ _ l2
        go_wp2_with fail
        try clear l2_l
        clear bL_0 bL_1 bL_l
        have bz10 := Box.new w329 55 #[.int .i64 0, .bool false, .slice a328 0 c328]
        have hsz : Hid ((World.alloc w329 (.cells #[.int .i64 0, .bool false, .slice a328 0 c328] 55)).heap.size = w329.heap.size + 1) := Hid.mk (by simp)
        have hx329 : Ext w329 (World.alloc w329 (.cells #[.int .i64 0, .bool false, .slice a328 0 c328] 55)) := (Ext.refl _).alloc _
        obtain ⟨w329b, hw329⟩ : ∃ x, World.alloc w329 (.cells #[.int .i64 0, .bool false, .slice a328 0 c328] 55) = x := ⟨_, rfl⟩
        rw [hw329] at hsz bz10 hx329 ⊢
        clear hw329
        replace bL := bL.ext hx329
        replace l2 := Ext.cell hx329 l2
        have hF329 := Ext.trans (hF328) hx329
        refine (law26_full 3 (by decide) _).mono ?_
        rintro e w331 ⟨sf329, rfl, hf329, hZ330⟩
        have hE330 : Ext w329b w331 := Ext.trans (by repeat (first | exact Ext.refl _ | apply Ext.alloc | apply Ext.drew)) hZ330
        replace bL := bL.ext hE330
        replace bz10 := bz10.ext hE330
        replace l2 := Ext.cell hE330 l2
        have hF330 := Ext.trans (hF329) hE330
        rw [hD.out] at hf329
        obtain ⟨af329, cf329, rfl, -⟩ := hf329.form
        clear bz10
        have bL_0 : World.cell? w331 ⟨w324.heap.size, 0, none⟩ = some (.slice (some ⟨lb, lo, none⟩) 1 cl) := bL.cell 0
        have bL_1 : World.cell? w331 ⟨w324.heap.size, 1, none⟩ = some (.int .i64 1000000) := bL.cell 1
        have bL_l := bL.lt
        have l2_l := World.block_lt_of_cell? _ _ l2
        go_wp2_with fail
        try clear l2_l
        clear bL_0 bL_1 bL_l
        refine (allocs_Get (m := ⟨D, 3⟩) 1 (hf329.ext (by repeat (first | exact Ext.refl _ | apply Ext.alloc | apply Ext.drew))) (by unfold i64B; (try dsimp only); decide)).mono ?_
        rintro e w332 ⟨s331, rfl, hz331, hZ331⟩
        have hE331 : Ext w331 w332 := Ext.trans (by repeat (first | exact Ext.refl _ | apply Ext.alloc | apply Ext.drew)) hZ331
        replace bL := bL.ext hE331
        replace hf329 := hf329.ext hE331
        replace l2 := Ext.cell hE331 l2
        have hF331 := Ext.trans (hF330) hE331
        rw [d5.out] at hz331
        rw [d5.out]
        obtain ⟨a331, c331, rfl, -⟩ := Cls.form hz331
        clear hz331
        dsimp only [List.length]
        clear hf329
        have bL_0 : World.cell? w332 ⟨w324.heap.size, 0, none⟩ = some (.slice (some ⟨lb, lo, none⟩) 1 cl) := bL.cell 0
        have bL_1 : World.cell? w332 ⟨w324.heap.size, 1, none⟩ = some (.int .i64 1000000) := bL.cell 1
        have bL_l := bL.lt
        have l2_l := World.block_lt_of_cell? _ _ l2
        go_wp2_with fail
        try clear l2_l
        clear bL_0 bL_1 bL_l
        have bx := Box.new w332 55 #[.int .i64 1, .bool false, .slice a331 1 c331]
        have hsz : Hid ((World.alloc w332 (.cells #[.int .i64 1, .bool false, .slice a331 1 c331] 55)).heap.size = w332.heap.size + 1) := Hid.mk (by simp)
        have hx332 : Ext w332 (World.alloc w332 (.cells #[.int .i64 1, .bool false, .slice a331 1 c331] 55)) := (Ext.refl _).alloc _
        obtain ⟨w332b, hw332⟩ : ∃ x, World.alloc w332 (.cells #[.int .i64 1, .bool false, .slice a331 1 c331] 55) = x := ⟨_, rfl⟩
        rw [hw332] at hsz bx hx332 ⊢
        clear hw332
        replace bL := bL.ext hx332
        replace l2 := Ext.cell hx332 l2
        have hF332 := Ext.trans (hF331) hx332
        refine (law26_full 3 (by decide) _).mono ?_
        rintro e w334 ⟨sf332, rfl, hf332, hZ333⟩
        have hE333 : Ext w332b w334 := Ext.trans (by repeat (first | exact Ext.refl _ | apply Ext.alloc | apply Ext.drew)) hZ333
        replace bL := bL.ext hE333
        replace bx := bx.ext hE333
        replace l2 := Ext.cell hE333 l2
        have hF333 := Ext.trans (hF332) hE333
        rw [hD.out] at hf332
        obtain ⟨af332, cf332, rfl, -⟩ := hf332.form
        have bL_0 : World.cell? w334 ⟨w324.heap.size, 0, none⟩ = some (.slice (some ⟨lb, lo, none⟩) 1 cl) := bL.cell 0
        have bL_1 : World.cell? w334 ⟨w324.heap.size, 1, none⟩ = some (.int .i64 1000000) := bL.cell 1
        have bL_l := bL.lt
        have bx_0 : World.cell? w334 ⟨w332.heap.size, 0, none⟩ = some (.int .i64 1) := bx.cell 0
        have bx_1 : World.cell? w334 ⟨w332.heap.size, 1, none⟩ = some (.bool false) := bx.cell 1
        have bx_2 : World.cell? w334 ⟨w332.heap.size, 2, none⟩ = some (.slice a331 1 c331) := bx.cell 2
        have bx_l := bx.lt
        have l2_l := World.block_lt_of_cell? _ _ l2
        go_wp2_with fail
        try clear l2_l
        clear bL_0 bL_1 bL_l
        clear bx_0 bx_1 bx_2 bx_l
        refine (allocs_End (m := ⟨D, 3⟩) 1 (hf332.ext (by repeat (first | exact Ext.refl _ | apply Ext.alloc | apply Ext.drew))) (by unfold i64B; (try dsimp only); decide)).mono ?_
        rintro e w335 ⟨v334, rfl, f334, hZ334⟩
        have hE334 : Ext w334 w335 := Ext.trans (by repeat (first | exact Ext.refl _ | apply Ext.alloc | apply Ext.drew)) hZ334
        replace bL := bL.ext hE334
        replace bx := bx.ext hE334
        replace hf332 := hf332.ext hE334
        replace l2 := Ext.cell hE334 l2
        have hF334 := Ext.trans (hF333) hE334
        rw [d6.out] at f334
        rw [d6.out]
        obtain ⟨v334', rfl, hz334⟩ := FrM.read f334
        obtain ⟨s334, c334, rfl, -⟩ := hz334.form
        clear f334 hz334
        dsimp only [Mem.zero, List.length]
        clear hf332
        have bL_0 : World.cell? w335 ⟨w324.heap.size, 0, none⟩ = some (.slice (some ⟨lb, lo, none⟩) 1 cl) := bL.cell 0
        have bL_1 : World.cell? w335 ⟨w324.heap.size, 1, none⟩ = some (.int .i64 1000000) := bL.cell 1
        have bL_l := bL.lt
        have bx_0 : World.cell? w335 ⟨w332.heap.size, 0, none⟩ = some (.int .i64 1) := bx.cell 0
        have bx_1 : World.cell? w335 ⟨w332.heap.size, 1, none⟩ = some (.bool false) := bx.cell 1
        have bx_2 : World.cell? w335 ⟨w332.heap.size, 2, none⟩ = some (.slice a331 1 c331) := bx.cell 2
        have bx_l := bx.lt
        have l2_l := World.block_lt_of_cell? _ _ l2
        go_wp2_with fail
        try clear l2_l
        clear bL_0 bL_1 bL_l
        clear bx_0 bx_1 bx_2 bx_l
        have bz11 := Box.new w335 52 #[.slice s334 0 c334, .int .i64 0]
        have hsz : Hid ((World.alloc w335 (.cells #[.slice s334 0 c334, .int .i64 0] 52)).heap.size = w335.heap.size + 1) := Hid.mk (by simp)
        have hx335 : Ext w335 (World.alloc w335 (.cells #[.slice s334 0 c334, .int .i64 0] 52)) := (Ext.refl _).alloc _
        obtain ⟨w335b, hw335⟩ : ∃ x, World.alloc w335 (.cells #[.slice s334 0 c334, .int .i64 0] 52) = x := ⟨_, rfl⟩
        rw [hw335] at hsz bz11 hx335 ⊢
        clear hw335
        replace bL := bL.ext hx335
        replace bx := bx.ext hx335
        replace l2 := Ext.cell hx335 l2
        have hF335 := Ext.trans (hF334) hx335
        refine (law26_full 3 (by decide) _).mono ?_
        rintro e w337 ⟨sf335, rfl, hf335, hZ336⟩
        have hE336 : Ext w335b w337 := Ext.trans (by repeat (first | exact Ext.refl _ | apply Ext.alloc | apply Ext.drew)) hZ336
        replace bL := bL.ext hE336
        replace bx := bx.ext hE336
        replace bz11 := bz11.ext hE336
        replace l2 := Ext.cell hE336 l2
        have hF336 := Ext.trans (hF335) hE336
        rw [hD.out] at hf335
        obtain ⟨af335, cf335, rfl, -⟩ := hf335.form
        clear bz11
        have bL_0 : World.cell? w337 ⟨w324.heap.size, 0, none⟩ = some (.slice (some ⟨lb, lo, none⟩) 1 cl) := bL.cell 0
        have bL_1 : World.cell? w337 ⟨w324.heap.size, 1, none⟩ = some (.int .i64 1000000) := bL.cell 1
        have bL_l := bL.lt
        have bx_0 : World.cell? w337 ⟨w332.heap.size, 0, none⟩ = some (.int .i64 1) := bx.cell 0
        have bx_1 : World.cell? w337 ⟨w332.heap.size, 1, none⟩ = some (.bool false) := bx.cell 1
        have bx_2 : World.cell? w337 ⟨w332.heap.size, 2, none⟩ = some (.slice a331 1 c331) := bx.cell 2
        have bx_l := bx.lt
        have l2_l := World.block_lt_of_cell? _ _ l2
        go_wp2_with fail
        try clear l2_l
        clear bL_0 bL_1 bL_l
        clear bx_0 bx_1 bx_2 bx_l
        refine (allocs_End (m := ⟨D, 3⟩) (-1) (hf335.ext (by repeat (first | exact Ext.refl _ | apply Ext.alloc | apply Ext.drew))) (by unfold i64B; (try dsimp only); decide)).mono ?_
        rintro e w338 ⟨v337, rfl, f337, hZ337⟩
        have hE337 : Ext w337 w338 := Ext.trans (by repeat (first | exact Ext.refl _ | apply Ext.alloc | apply Ext.drew)) hZ337
        replace bL := bL.ext hE337
        replace bx := bx.ext hE337
        replace hf335 := hf335.ext hE337
        replace l2 := Ext.cell hE337 l2
        have hF337 := Ext.trans (hF336) hE337
        rw [d7.out] at f337
        rw [d7.out]
        obtain ⟨v337', rfl, hz337⟩ := FrM.read f337
        obtain ⟨s337, c337, rfl, -⟩ := hz337.form
        clear f337 hz337
        dsimp only [Mem.zero, List.length]
        clear hf335
        have bL_0 : World.cell? w338 ⟨w324.heap.size, 0, none⟩ = some (.slice (some ⟨lb, lo, none⟩) 1 cl) := bL.cell 0
        have bL_1 : World.cell? w338 ⟨w324.heap.size, 1, none⟩ = some (.int .i64 1000000) := bL.cell 1
        have bL_l := bL.lt
        have bx_0 : World.cell? w338 ⟨w332.heap.size, 0, none⟩ = some (.int .i64 1) := bx.cell 0
        have bx_1 : World.cell? w338 ⟨w332.heap.size, 1, none⟩ = some (.bool false) := bx.cell 1
        have bx_2 : World.cell? w338 ⟨w332.heap.size, 2, none⟩ = some (.slice a331 1 c331) := bx.cell 2
        have bx_l := bx.lt
        have l2_l := World.block_lt_of_cell? _ _ l2
        go_wp2_with fail
        try clear l2_l
        clear bL_0 bL_1 bL_l
        clear bx_0 bx_1 bx_2 bx_l
        have bz12 := Box.new w338 52 #[.slice s337 0 c337, .int .i64 0]
        have hsz : Hid ((World.alloc w338 (.cells #[.slice s337 0 c337, .int .i64 0] 52)).heap.size = w338.heap.size + 1) := Hid.mk (by simp)
        have hx338 : Ext w338 (World.alloc w338 (.cells #[.slice s337 0 c337, .int .i64 0] 52)) := (Ext.refl _).alloc _
        obtain ⟨w338b, hw338⟩ : ∃ x, World.alloc w338 (.cells #[.slice s337 0 c337, .int .i64 0] 52) = x := ⟨_, rfl⟩
        rw [hw338] at hsz bz12 hx338 ⊢
        clear hw338
        replace bL := bL.ext hx338
        replace bx := bx.ext hx338
        replace l2 := Ext.cell hx338 l2
        have hF338 := Ext.trans (hF337) hx338
        refine (law26_full 400 (by decide) _).mono ?_
        rintro e w340 ⟨sf338, rfl, hf338, hZ339⟩
        have hE339 : Ext w338b w340 := Ext.trans (by repeat (first | exact Ext.refl _ | apply Ext.alloc | apply Ext.drew)) hZ339
        replace bL := bL.ext hE339
        replace bx := bx.ext hE339
        replace bz12 := bz12.ext hE339
        replace l2 := Ext.cell hE339 l2
        have hF339 := Ext.trans (hF338) hE339
        rw [hB.out] at hf338
        obtain ⟨af338, cf338, rfl, -⟩ := hf338.form
        clear bz12
        have bL_0 : World.cell? w340 ⟨w324.heap.size, 0, none⟩ = some (.slice (some ⟨lb, lo, none⟩) 1 cl) := bL.cell 0
        have bL_1 : World.cell? w340 ⟨w324.heap.size, 1, none⟩ = some (.int .i64 1000000) := bL.cell 1
        have bL_l := bL.lt
        have bx_0 : World.cell? w340 ⟨w332.heap.size, 0, none⟩ = some (.int .i64 1) := bx.cell 0
        have bx_1 : World.cell? w340 ⟨w332.heap.size, 1, none⟩ = some (.bool false) := bx.cell 1
        have bx_2 : World.cell? w340 ⟨w332.heap.size, 2, none⟩ = some (.slice a331 1 c331) := bx.cell 2
        have bx_l := bx.lt
        have l2_l := World.block_lt_of_cell? _ _ l2
        go_wp2_with fail
        try clear l2_l
        clear bL_0 bL_1 bL_l
        clear bx_0 bx_1 bx_2 bx_l
        refine (allocs_Forget (m := ⟨B, 400⟩) (hf338.ext (by repeat (first | exact Ext.refl _ | apply Ext.alloc | apply Ext.drew))) (by unfold i64B; (try dsimp only); decide)).mono ?_
        rintro e w341 ⟨v340, rfl, f340, hZ340⟩
        have hE340 : Ext w340 w341 := Ext.trans (by repeat (first | exact Ext.refl _ | apply Ext.alloc | apply Ext.drew)) hZ340
        replace bL := bL.ext hE340
        replace bx := bx.ext hE340
        replace hf338 := hf338.ext hE340
        replace l2 := Ext.cell hE340 l2
        have hF340 := Ext.trans (hF339) hE340
        rw [d8.out] at f340
        rw [d8.out]
        obtain ⟨v340', rfl, hz340⟩ := FrM.read f340
        obtain ⟨s340, c340, rfl, -⟩ := hz340.form
        clear f340 hz340
        dsimp only
        rw [yl.out]
        clear hf338
        have bL_0 : World.cell? w341 ⟨w324.heap.size, 0, none⟩ = some (.slice (some ⟨lb, lo, none⟩) 1 cl) := bL.cell 0
        have bL_1 : World.cell? w341 ⟨w324.heap.size, 1, none⟩ = some (.int .i64 1000000) := bL.cell 1
        have bL_l := bL.lt
        have bx_0 : World.cell? w341 ⟨w332.heap.size, 0, none⟩ = some (.int .i64 1) := bx.cell 0
        have bx_1 : World.cell? w341 ⟨w332.heap.size, 1, none⟩ = some (.bool false) := bx.cell 1
        have bx_2 : World.cell? w341 ⟨w332.heap.size, 2, none⟩ = some (.slice a331 1 c331) := bx.cell 2
        have bx_l := bx.lt
        have l2_l := World.block_lt_of_cell? _ _ l2
        go_wp2_with fail
        try clear l2_l
        clear bL_0 bL_1 bL_l
        clear bx_0 bx_1 bx_2 bx_l
        have bY := Box.new w341 52 #[.slice s340 200 c340, .int .i64 400]
        have hsz : Hid ((World.alloc w341 (.cells #[.slice s340 200 c340, .int .i64 400] 52)).heap.size = w341.heap.size + 1) := Hid.mk (by simp)
        have hx341 : Ext w341 (World.alloc w341 (.cells #[.slice s340 200 c340, .int .i64 400] 52)) := (Ext.refl _).alloc _
        obtain ⟨w341b, hw341⟩ : ∃ x, World.alloc w341 (.cells #[.slice s340 200 c340, .int .i64 400] 52) = x := ⟨_, rfl⟩
        rw [hw341] at hsz bY hx341 ⊢
        clear hw341
        replace bL := bL.ext hx341
        replace bx := bx.ext hx341
        replace l2 := Ext.cell hx341 l2
        have hF341 := Ext.trans (hF340) hx341
        refine (law26_alive _).mono ?_
        rintro e w343 ⟨rfl, hZ342⟩
        have hE342 : Ext w341b w343 := Ext.trans (by repeat (first | exact Ext.refl _ | apply Ext.alloc | apply Ext.drew)) hZ342
        replace bL := bL.ext hE342
        replace bx := bx.ext hE342
        replace bY := bY.ext hE342
        replace l2 := Ext.cell hE342 l2
        have hF342 := Ext.trans (hF341) hE342
        have bL_0 : World.cell? w343 ⟨w324.heap.size, 0, none⟩ = some (.slice (some ⟨lb, lo, none⟩) 1 cl) := bL.cell 0
        have bL_1 : World.cell? w343 ⟨w324.heap.size, 1, none⟩ = some (.int .i64 1000000) := bL.cell 1
        have bL_l := bL.lt
        have bx_0 : World.cell? w343 ⟨w332.heap.size, 0, none⟩ = some (.int .i64 1) := bx.cell 0
        have bx_1 : World.cell? w343 ⟨w332.heap.size, 1, none⟩ = some (.bool false) := bx.cell 1
        have bx_2 : World.cell? w343 ⟨w332.heap.size, 2, none⟩ = some (.slice a331 1 c331) := bx.cell 2
        have bx_l := bx.lt
        have bY_0 : World.cell? w343 ⟨w341.heap.size, 0, none⟩ = some (.slice s340 200 c340) := bY.cell 0
        have bY_1 : World.cell? w343 ⟨w341.heap.size, 1, none⟩ = some (.int .i64 400) := bY.cell 1
        have bY_l := bY.lt
        have l2_l := World.block_lt_of_cell? _ _ l2
        go_wp2
        go_ret
        exact ⟨rfl, hF342⟩
set_option maxRecDepth 100000 in
theorem allocsNames_lifted (os : Os) (started : os.Started) (H : Type) (enc : TypeId × Value → H) :
    ReturnsInHanded {} Try.checked os 5 .any (Rows.allocsNamesSpec.pre6 enc Try.prog Try.f5 Rows.allocsNamesRow.domain false) (Rows.allocsNamesSpec.post enc Try.prog Try.f5 false true false false) := by
  refine returnsInHanded_of_change (C := Try.checked) Tryown started (by kernel_rfl) Try.func5
    (ChangeSpec.witness6 (enc := enc) (C := Try.checked) false ⟨#[], #[], []⟩ 8 (by kernel_rfl) (by kernel_rfl) (by kernel_rfl) (by kernel_rfl)) ?_
  intro W base args ds gs before hval0 hW _ _
  have hval : ∀ (j : Nat) t v, Try.f5.params[j]? = some t → args[j]? = some v → Value.okWide Try.prog W .any base t v := hval0
  have hW' := hW
  obtain ⟨p, q, hA0, hV, rfl, hfz, hnd⟩ := hW
  have hA : DataW.TrodAll enc Try.prog W 0 (fun _ => true) true Try.f5.params.toList args.toList ds p := hA0
  rw [Try.params5] at hA hval
  obtain ⟨hargs, rfl, rfl⟩ := trodAll_nil hA
  obtain rfl : args = #[] := by cases args; simp_all
  refine (allocsNames_walk).mono fun e W' ⟨he, hb⟩ => ?_
  subst he
  exact ⟨_, rfl, post_law TrylaidOut (tb := 4) rfl Try.underlying4 (by kernel_rfl) rfl (fun ds hd => match ds, hd with | [], _ => rfl) hW' hb⟩

theorem allocsNames_holds : Rows.AllocsNamesSaid :=
  OpenClaim.holds_of_wide 5 Try.f5 rfl rfl rfl rfl rfl rfl rfl ⟨rfl, rfl, rfl, rfl, rfl⟩ rfl rfl rfl rfl rfl (by kernel_rfl) Try.func5 (by kernel_rfl)
    (of_decide_eq_true (by kernel_rfl)) (by unfold Func.isWrapper; first | (rw [if_pos (by decide +kernel)]; kernel_rfl) | (rw [if_neg (by decide +kernel)]; exact ⟨rfl, rfl⟩))
    (fun os started H enc _ => allocsNames_lifted os started H enc)

end Go.Proofs.Ytcndhbkbbmgeeaa
