/- Contracts: Twin of the reference of layer 33. (printed by gen/stk33.py) -/
import Derived.Test.YtoobdejbcgkfdaaDoorStkC
import Derived.Deep.RegionLaw
namespace Go.Proofs.YtoobdejbcgkfdaaDoor
set_option maxRecDepth 100000
open Go.RowKit

set_option maxHeartbeats 1600000 in
theorem ref33_Twin {l : List (List Item)} {num : Int} {s : Value} {w : World} (hl : Sts w s l) (hs : l.length ≤ 1000000 ∧ ∀ x ∈ l, x.length ≤ 1000000) :
    Calls Tryd.prog 46 #[.agg #[.int .i64 num, s]] w (RetSt w ⟨num, l⟩) := by
  obtain ⟨ai, az, hai, haz, hai3, haz3, haby⟩ := Stack.infoE
  have hai := Lib.hid hai; have haz := Lib.hid haz; have hai3 := Lib.hid hai3; have haz3 := Lib.hid haz3; have haby := Lib.hid haby
  have hform := hl.form
  obtain ⟨a, cp, rfl, hlc, hcm, -⟩ := hform
  unfold maxLen at hcm
  have hL := Lib.hid hl
  have hsm := Lib.hid hs.1
  have hE0 := (((Ext.refl w).alloc (.cells #[.int .i64 num, .slice a l.length cp] 70)).alloc (.cells #[.int .i64 0, .slice none 0 0] 70)).alloc (.cells #[.int .i64 num, .slice none 0 0] 70)
  have bM := ((Box.new w 70 #[.int .i64 num, .slice a l.length cp]).ext ((Ext.refl _).alloc (.cells #[.int .i64 0, .slice none 0 0] 70))).ext ((Ext.refl _).alloc (.cells #[.int .i64 num, .slice none 0 0] 70))
  have bR := (Box.new (World.alloc w (.cells #[.int .i64 num, .slice a l.length cp] 70)) 70 #[.int .i64 0, .slice none 0 0]).ext ((Ext.refl _).alloc (.cells #[.int .i64 num, .slice none 0 0] 70))
  have bO := Box.new (World.alloc (World.alloc w (.cells #[.int .i64 num, .slice a l.length cp] 70)) (.cells #[.int .i64 0, .slice none 0 0] 70)) 70 #[.int .i64 num, .slice none 0 0]
  simp only [World.size_alloc] at bR bO
  have hH := Lib.hid (And.intro bM (And.intro bR bO))
  clear bM bR bO hl
  go_enter Tryd.func46, Tryd.ntmps46
  go_wp2
  obtain ⟨w1, hw1⟩ : ∃ w1, (World.alloc (World.alloc (World.alloc w (.cells #[.int .i64 num, .slice a l.length cp] 70)) (.cells #[.int .i64 0, .slice none 0 0] 70)) (.cells #[.int .i64 num, .slice none 0 0] 70)) = w1 := ⟨_, rfl⟩
  have hsz1 : w1.heap.size = w.heap.size + 3 := by rw [← hw1]; simp
  rw [hw1] at hE0 hH ⊢
  clear hw1
  have hsz1 := Lib.hid hsz1
  go_loopw [4] (fun iv wr => ∃ (k : Nat) (v : Value) (vs : List Value), k ≤ l.length ∧ iv = .int .i64 k ∧ Box wr (w.heap.size + 1 + 1) 70 #[.int .i64 num, v] ∧ OwnS wr w1.heap.size v vs (l.take k) ∧ ExtBut (· = w.heap.size + 1 + 1) w1 wr) (fun iv _ => l.length - (intOf iv).toNat)
  case atStart => exact ⟨0, _, [], Nat.zero_le _, rfl, hH.out.2.2, OTb.nil _ _, ExtBut.refl _ _⟩
  case round =>
    obtain ⟨k, v, vs, hk, rfl, bO, hT, hX⟩ := hrel
    have bM := hH.out.1.but hX (by omega)
    have bR := hH.out.2.1.but hX (by omega)
    have hF : Ext w wr := ExtBut.ext hE0 hX (fun x h => by omega)
    have hlk : (l.take k).length = k := by rw [List.length_take]; omega
    have hOv := hT.outer
    rw [hlk] at hOv
    obtain ⟨av, cv, rfl, hcv1, hcv2, -⟩ := hOv.sl.slice_form
    unfold maxLen at hcv2
    have m0 : wr.cell? ⟨w.heap.size, 1, none⟩ = some (.slice a l.length cp) := bM.cell 1
    have o0 : wr.cell? ⟨w.heap.size + 1 + 1, 1, none⟩ = some (.slice av k cv) := bO.cell 1
    have hBl := bO.lt
    by_cases hlt : k < l.length
    · obtain ⟨x, hx⟩ : ∃ x, l[k]? = some x := ⟨l[k], by simp [hlt]⟩
      obtain ⟨b, off, sv, rfl, hbb, d0, hcl⟩ := (hL.out.ext hF).cell hx
      obtain ⟨ca, ccp, rfl, hclc, hccm, -⟩ := hcl.form
      have hxs : x.length ≤ 1000000 := hs.2 x (List.mem_of_getElem? hx)
      have hA := Lib.hid (And.intro hx (And.intro hT (And.intro hX (And.intro hOv (And.intro bO hlk)))))
      clear hx hT hX hOv bO hlk bM bR hs hbb
      go_wp2
      have hk6 : k ≤ 1000000 := by have := hsm.out; omega
      go_wp2
      go_region_law (first | (rw [if_pos (by rfl)]; refine wp_append_any (.tmp 16) (.tmp 23) 68 68 rfl rfl rfl (B := w1.heap.size) (e := 31) (n := k) (m := 1) (xs := trows srow vs (l.take k)) (ys := srow (.slice an x.length cn) x) Tryd.underlying68 Tryd.underlying68 hai.out haz.out hai3.out haz3.out ?_ ?_ ?_ ?_ ?_ ?_ ?_; (first | exact hA.out.2.2.2.1.ext hB.out.1 | exact hA.out.2.2.2.1.ext hB.out.1.drew); (first | exact (Own.lit' (B := 0) (e := 31) (k := 1) w4 #[.slice an x.length cn] 1 (Nat.zero_le _) (by simp [maxLen]) rfl).sl | exact (Own.lit' (B := 0) (e := 31) (k := 1) w4 #[.slice an x.length cn] 1 (Nat.zero_le _) (by simp [maxLen]) rfl).sl.ext (Ext.refl _).drew); (simp [srow, Value.oneCell']); (simp [maxLen]; omega); (rw [haby.out]; omega); (exact Nat.le_trans hA.out.2.2.1.size hB.out.1.size); intro v' w6 hOv hKv hbv _; (obtain ⟨av', cv', rfl, -⟩ := hOv.sl.slice_form); (have hvB := fun g e => (hA.out.2.2.2.1.lt (g := g) e).1); (have bO6 : Box w6 (w.heap.size + 1 + 1) 70 #[.int .i64 num, .slice av k cv] := (hA.out.2.2.2.2.1.ext hB.out.1).but (ExtBut.of_keeps hKv) (fun h => by have := hvB _ h; have := hsz1.out; omega)); (have o6 : w6.cell? ⟨w.heap.size + 1 + 1, 1, none⟩ = some (.slice av k cv) := bO6.cell 1); (have of6 := bO6.frozen 1); (have hC := Lib.hid (And.intro hOv (And.intro hKv (And.intro hbv bO6)))); clear hOv hKv hbv bO6 hvB) | (go_simp; go_at_call 22; refine (ref28_Twin (hcl.ext ?_) hxs).mono ?_; (first | exact (Ext.refl _).drew | exact Ext.refl _); rintro e w4 ⟨sn, rfl, hOn, hE4⟩; (have hE4' : Ext wr w4 := (by first | exact hE4 | exact ((Ext.refl wr).drew).trans hE4)); (have hslt : ∀ g, sn.ownBlock = some g → wr.heap.size ≤ g ∧ g < w4.heap.size := fun g e => (Own.lt (g := g) hOn) e); (have hOn2 : OwnI w4 wr.heap.size sn x := hOn); (obtain ⟨an, cn, rfl, hcn, hcn2, -⟩ := (Own.sl hOn).slice_form); (have o4 := hE4'.cell o0); (have hBl4 : w.heap.size + 1 + 1 < w4.heap.size := Nat.lt_of_lt_of_le hBl hE4'.size); (have hB := Lib.hid (And.intro (hE4'.alloc (.cells #[.slice an x.length cn] 31)) (And.intro hOn2 (And.intro hslt hE4')))); clear hOn hslt hOn2 hE4 hE4'))
      all_goals
        have hOv := hC.out.1
        have hKv : Keeps (w4.alloc (.cells #[.slice an x.length cn] 31)) w6 w1.heap.size (.slice av k cv) := hC.out.2.1
        have hlk := hA.out.2.2.2.2.2
        have hP : OwnS w6 w1.heap.size (.slice av' (k + 1) cv') (vs ++ [.slice an x.length cn]) (l.take k ++ [x]) := OwnS.push hA.out.2.1 hB.out.1 ((OwnI.mono hB.out.2.1 (by have := hA.out.2.2.1.size; omega)).ext ((Ext.refl _).alloc _)) (fun g e => (hB.out.2.2.1 g e).1) (by rw [hlk]; exact hOv) hKv hC.out.2.2.1
        have htk : l.take k ++ [x] = l.take (k + 1) := by rw [List.take_add_one, hA.out.1]; rfl
        rw [htk] at hP
        have hvB := fun g e => (hA.out.2.2.2.1.lt (g := g) e).1
        have hX6 := ((hA.out.2.2.1.trans (ExtBut.of_ext hB.out.1)).trans' (ExtBut.of_keeps hKv) (fun x hx h => by have := hvB _ h; omega)).trans (ExtBut.setCell w6 ⟨w.heap.size + 1 + 1, 1, none⟩ (.slice av' (k + 1) cv'))
        have hP7 := OwnS.but hP (ExtBut.setCell w6 ⟨w.heap.size + 1 + 1, 1, none⟩ (.slice av' (k + 1) cv')) (fun g e h => by have := hsz1.out; have h' : g = w.heap.size + 1 + 1 := h; omega)
        have bO7 := hC.out.2.2.2.set 1 (.slice av' (k + 1) cv')
        have hR := Lib.hid (And.intro bO7 (And.intro hP7 hX6))
        clear hvB hX6 hP7 bO7 hP hOv hKv hlk htk hC o6 of6
        go_wp2
        go_roundw
        case rel => exact ⟨k + 1, _, _, by omega, by go_num, hR.out.1, hR.out.2.1, hR.out.2.2⟩
        case measure => simp [intOf]; omega
    · have hkl : k = l.length := by omega
      subst hkl
      have o1 : wr.cell? ⟨w.heap.size + 1 + 1, 0, none⟩ = some (.int .i64 num) := bO.cell 0
      have r0 : wr.cell? ⟨w.heap.size + 1, 0, none⟩ = some (.int .i64 0) := bR.cell 0
      have r1 : wr.cell? ⟨w.heap.size + 1, 1, none⟩ = some (.slice none 0 0) := bR.cell 1
      have rf0 := bR.frozen 0
      have rf1 := bR.frozen 1
      rw [List.take_length] at hT
      have hT' := Lib.hid hT
      clear hT hlk hOv bM
      go_wp2
      have hY := ((ExtBut.setCell wr ⟨w.heap.size + 1, 0, none⟩ (.int .i64 num)).mono (S' := fun b => b = w.heap.size + 1) (fun x _ h => h)).trans ((ExtBut.setCell _ ⟨w.heap.size + 1, 1, none⟩ (.slice av l.length cv)).mono (S' := fun b => b = w.heap.size + 1) (fun x _ h => h))
      have hsz := hsz1.out
      refine bodyPost_ret (v := .agg #[.int .i64 num, .slice av l.length cv]) (by simp [results, Tryd.f46, go_sem, r0, r1]) rfl ⟨_, vs, rfl, OwnS.mono (B' := w.heap.size) (OwnS.but hT'.out hY (fun g e h => by omega)) (by omega), ExtBut.ext hF hY (fun x h => by omega)⟩

end Go.Proofs.YtoobdejbcgkfdaaDoor
