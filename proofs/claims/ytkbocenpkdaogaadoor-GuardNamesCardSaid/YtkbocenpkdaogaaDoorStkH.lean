/- Contracts: each of layer 33, with a function value. (printed by gen/each33.py) -/
import Derived.Test.YtkbocenpkdaogaaDoorStkG
import Derived.Deep.RegionLaw
namespace Go.Proofs.YtkbocenpkdaogaaDoor
set_option maxRecDepth 100000
open Go.RowKit

/-- An access of a stack by a function value. -/
def PredU (g : Nat) (cap : Array Value) (W : World) (f : List Item → List Item × Int × Int) : Prop :=
  ∀ (x : List Item) (s : Value) (w : World), Ext W w → Its w s x → Calls Tryd.prog g (#[s] ++ cap) w (RetSO w (f x).1 (f x).2.1 (f x).2.2)

set_option maxHeartbeats 3200000 in
theorem stacks_each {gf : Nat} {cap : Array Value} {f : List Item → List Item × Int × Int} {l : List (List Item)} {num : Int} {fa n : Nat} {s : Value} {w : World} (hg : ∀ args w, (callFunc gf args).run Tryd.prog w = .ok (.enter gf args) w) (hp : PredU gf cap w f)
    (hsm : l.length ≤ 2 ∧ ∀ x ∈ l, x.length ≤ 600) (hin : fa < l.length ∧ 1 ≤ n ∧ n ≤ l.length - fa) (hl : Sts w s l) :
    Calls Tryd.prog 55 #[.agg #[.int .i64 num, s], .int .i64 fa, .int .i64 n, .func (.func gf) #[] cap] w (RetKW w (eachR f ⟨num, l⟩ fa n).1 (eachR f ⟨num, l⟩ fa n).2.1 (eachR f ⟨num, l⟩ fa n).2.2) := by
  have hs : l.length ≤ 1000000 ∧ ∀ x ∈ l, x.length ≤ 1000000 := ⟨by omega, fun x hx => by have := hsm.2 x hx; omega⟩
  obtain ⟨ai, az, hai, haz, hai3, haz3, haby⟩ := Stack.infoE
  have hai := Lib.hid hai; have haz := Lib.hid haz; have hai3 := Lib.hid hai3; have haz3 := Lib.hid haz3; have haby := Lib.hid haby
  have hform := hl.form
  obtain ⟨a, cp, rfl, hlc, hcm, -⟩ := hform
  unfold maxLen at hcm
  have hL := Lib.hid hl
  have hsm := Lib.hid hs.1
  have hE0 := (((Ext.refl w).alloc (.cells #[.int .i64 num, .slice a l.length cp] 56)).alloc (.cells #[.int .i64 0, .slice none 0 0] 56)).alloc (.cells #[.int .i64 num, .slice none 0 0] 56)
  have bM := ((Box.new w 56 #[.int .i64 num, .slice a l.length cp]).ext ((Ext.refl _).alloc (.cells #[.int .i64 0, .slice none 0 0] 56))).ext ((Ext.refl _).alloc (.cells #[.int .i64 num, .slice none 0 0] 56))
  have bR := (Box.new (World.alloc w (.cells #[.int .i64 num, .slice a l.length cp] 56)) 56 #[.int .i64 0, .slice none 0 0]).ext ((Ext.refl _).alloc (.cells #[.int .i64 num, .slice none 0 0] 56))
  have bO := Box.new (World.alloc (World.alloc w (.cells #[.int .i64 num, .slice a l.length cp] 56)) (.cells #[.int .i64 0, .slice none 0 0] 56)) 56 #[.int .i64 num, .slice none 0 0]
  simp only [World.size_alloc] at bR bO
  have hH := Lib.hid (And.intro bM (And.intro bR bO))
  clear bM bR bO hl
  go_enter Tryd.func55, Tryd.ntmps55
  go_wp2
  obtain ⟨w1, hw1⟩ : ∃ w1, (World.alloc (World.alloc (World.alloc w (.cells #[.int .i64 num, .slice a l.length cp] 56)) (.cells #[.int .i64 0, .slice none 0 0] 56)) (.cells #[.int .i64 num, .slice none 0 0] 56)) = w1 := ⟨_, rfl⟩
  have hsz1 : w1.heap.size = w.heap.size + 3 := by rw [← hw1]; simp
  rw [hw1] at hE0 hH ⊢
  clear hw1
  have hsz1 := Lib.hid hsz1
  go_loopw [25] (fun iv wr => ∃ (k : Nat) (v : Value) (vs : List Value), k ≤ l.length ∧ iv = .int .i64 k ∧ Box wr (w.heap.size + 1 + 1) 56 #[.int .i64 num, v] ∧ OwnS wr w1.heap.size v vs (l.take k) ∧ ExtBut (· = w.heap.size + 1 + 1) w1 wr) (fun iv _ => l.length - (intOf iv).toNat)
  case atStart => exact ⟨0, _, [], Nat.zero_le _, rfl, hH.out.2.2, OTb.nil _ _, ExtBut.refl _ _⟩
  case round =>
    obtain ⟨k, v, vs, hk, rfl, bO, hT, hX⟩ := hrel
    have bM := hH.out.1.but hX (by omega)
    have bR := hH.out.2.1.but hX (by omega)
    have hF : Ext w wr := ExtBut.ext hE0 hX (fun x h => by omega)
    have hlk : (l.take k).length = k := by rw [List.length_take]; omega
    have hOv := hT.outer
    rw [hlk] at hOv
    obtain ⟨av, cv, rfl, hcv1, hcv2, -⟩ := hOv.sl.slice_form
    unfold maxLen at hcv2
    have m0 : wr.cell? ⟨w.heap.size, 1, none⟩ = some (.slice a l.length cp) := bM.cell 1
    have o0 : wr.cell? ⟨w.heap.size + 1 + 1, 1, none⟩ = some (.slice av k cv) := bO.cell 1
    have hBl := bO.lt
    by_cases hlt : k < l.length
    · obtain ⟨x, hx⟩ : ∃ x, l[k]? = some x := ⟨l[k], by simp [hlt]⟩
      obtain ⟨b, off, sv, rfl, hbb, d0, hcl⟩ := (hL.out.ext hF).cell hx
      obtain ⟨ca, ccp, rfl, hclc, hccm, -⟩ := hcl.form
      have hxs : x.length ≤ 1000000 := hs.2 x (List.mem_of_getElem? hx)
      have hA := Lib.hid (And.intro hx (And.intro hT (And.intro hX (And.intro hOv (And.intro bO hlk)))))
      clear hx hT hX hOv bO hlk bM bR hs hbb
      go_wp2
      have hk6 : k ≤ 1000000 := by have := hsm.out; omega
      go_wp2
      go_region_law (first | (rw [if_pos (by rfl)]; refine wp_append_any (.tmp 30) (.tmp 33) 54 54 rfl rfl rfl (B := w1.heap.size) (e := 31) (n := k) (m := 1) (xs := trows srow vs (l.take k)) (ys := srow (.slice an x.length cn) x) Tryd.underlying54 Tryd.underlying54 hai.out haz.out hai3.out haz3.out ?_ ?_ ?_ ?_ ?_ ?_ ?_; (first | exact hA.out.2.2.2.1.ext hB.out.1 | exact hA.out.2.2.2.1.ext hB.out.1.drew); (first | exact (Own.lit' (B := 0) (e := 31) (k := 1) w4 #[.slice an x.length cn] 1 (Nat.zero_le _) (by simp [maxLen]) rfl).sl | exact (Own.lit' (B := 0) (e := 31) (k := 1) w4 #[.slice an x.length cn] 1 (Nat.zero_le _) (by simp [maxLen]) rfl).sl.ext (Ext.refl _).drew); (simp [srow, Value.oneCell']); (simp [maxLen]; omega); (rw [haby.out]; omega); (exact Nat.le_trans hA.out.2.2.1.size hB.out.1.size); intro v' w6 hOv hKv hbv _; (obtain ⟨av', cv', rfl, -⟩ := hOv.sl.slice_form); (have hvB := fun g e => (hA.out.2.2.2.1.lt (g := g) e).1); (have bO6 : Box w6 (w.heap.size + 1 + 1) 56 #[.int .i64 num, .slice av k cv] := (hA.out.2.2.2.2.1.ext hB.out.1).but (ExtBut.of_keeps hKv) (fun h => by have := hvB _ h; have := hsz1.out; omega)); (have o6 : w6.cell? ⟨w.heap.size + 1 + 1, 1, none⟩ = some (.slice av k cv) := bO6.cell 1); (have of6 := bO6.frozen 1); (have hC := Lib.hid (And.intro hOv (And.intro hKv (And.intro hbv bO6)))); clear hOv hKv hbv bO6 hvB) | (go_simp; go_at_call 52; refine (clone_Stack (hcl.ext ?_) hxs).mono ?_; (first | exact (Ext.refl _).drew | exact Ext.refl _); rintro e w4 ⟨sn, rfl, hOn, hE4⟩; (have hE4' : Ext wr w4 := (by first | exact hE4 | exact ((Ext.refl wr).drew).trans hE4)); (have hslt : ∀ g, sn.ownBlock = some g → wr.heap.size ≤ g ∧ g < w4.heap.size := fun g e => (Own.lt (g := g) hOn) e); (have hOn2 : OwnI w4 wr.heap.size sn x := hOn); (obtain ⟨an, cn, rfl, hcn, hcn2, -⟩ := (Own.sl hOn).slice_form); (have o4 := hE4'.cell o0); (have hBl4 : w.heap.size + 1 + 1 < w4.heap.size := Nat.lt_of_lt_of_le hBl hE4'.size); (have hB := Lib.hid (And.intro (hE4'.alloc (.cells #[.slice an x.length cn] 31)) (And.intro hOn2 (And.intro hslt hE4')))); clear hOn hslt hOn2 hE4 hE4'))
      all_goals
        have hOv := hC.out.1
        have hKv : Keeps (w4.alloc (.cells #[.slice an x.length cn] 31)) w6 w1.heap.size (.slice av k cv) := hC.out.2.1
        have hlk := hA.out.2.2.2.2.2
        have hP : OwnS w6 w1.heap.size (.slice av' (k + 1) cv') (vs ++ [.slice an x.length cn]) (l.take k ++ [x]) := OwnS.push hA.out.2.1 hB.out.1 ((OwnI.mono hB.out.2.1 (by have := hA.out.2.2.1.size; omega)).ext ((Ext.refl _).alloc _)) (fun g e => (hB.out.2.2.1 g e).1) (by rw [hlk]; exact hOv) hKv hC.out.2.2.1
        have htk : l.take k ++ [x] = l.take (k + 1) := by rw [List.take_add_one, hA.out.1]; rfl
        rw [htk] at hP
        have hvB := fun g e => (hA.out.2.2.2.1.lt (g := g) e).1
        have hX6 := ((hA.out.2.2.1.trans (ExtBut.of_ext hB.out.1)).trans' (ExtBut.of_keeps hKv) (fun x hx h => by have := hvB _ h; omega)).trans (ExtBut.setCell w6 ⟨w.heap.size + 1 + 1, 1, none⟩ (.slice av' (k + 1) cv'))
        have hP7 := OwnS.but hP (ExtBut.setCell w6 ⟨w.heap.size + 1 + 1, 1, none⟩ (.slice av' (k + 1) cv')) (fun g e h => by have := hsz1.out; have h' : g = w.heap.size + 1 + 1 := h; omega)
        have bO7 := hC.out.2.2.2.set 1 (.slice av' (k + 1) cv')
        have hR := Lib.hid (And.intro bO7 (And.intro hP7 hX6))
        clear hvB hX6 hP7 bO7 hP hOv hKv hlk htk hC o6 of6
        go_wp2
        go_roundw
        case rel => exact ⟨k + 1, _, _, by omega, by go_num, hR.out.1, hR.out.2.1, hR.out.2.2⟩
        case measure => simp [intOf]; omega
    · have hkl : k = l.length := by omega
      subst hkl
      have hkk : decide ((l.length : Int) < (l.length : Int)) = false := decide_eq_false (by omega)
      rw [List.take_length] at hT
      obtain ⟨g, cg, hform, hcg, hcg2, hg1, hg2⟩ := Own.form hT.outer (show 0 < l.length by omega)
      cases hform
      have hst := Lib.hid (And.intro bM (And.intro bR (And.intro bO (And.intro hT hX))))
      have hL0 := hL
      clear bM bR bO hT hX hOv hlk hlt hs
      go_wp2
      clear m0 o0 hBl
      obtain ⟨w3, hw3⟩ : ∃ z, wr = z := ⟨_, rfl⟩
      rw [hw3] at hst hF hg2 ⊢
      clear hw3
      go_loopw [14, 38] (fun fv iv wr => ∃ (i : Nat) (why : Int) (out : List (List Item)) (vs : List Value), i ≤ n ∧ iv = .int .i64 i ∧ fv = .int .u8 why ∧ out.length = l.length ∧ OwnS wr w1.heap.size (.slice (some ⟨g, 0, none⟩) l.length cv) vs out ∧ ExtBut (· = g) w3 wr ∧ Hid (eachR f ⟨num, l⟩ fa n = eachGo f num l (n - i) (fa + i) out why)) (fun _ iv _ => n - (intOf iv).toNat)
      case atStart => exact ⟨0, 0, l, _, Nat.zero_le _, rfl, rfl, rfl, hst.out.2.2.2.1, ExtBut.refl _ _, Hid.mk rfl⟩
      case round =>
        obtain ⟨i, why, out, vs, hi, rfl, rfl, hol, hO, hX, hN⟩ := hrel
        have hz1 := hsz1.out
        have bM := hst.out.1.but hX (by omega)
        have bR := hst.out.2.1.but hX (by omega)
        have bO := hst.out.2.2.1.but hX (by omega)
        have hF4 : Ext w wr := ExtBut.ext hF hX (fun x h => by omega)
        have m1 : wr.cell? ⟨w.heap.size, 1, none⟩ = some (.slice a l.length cp) := bM.cell 1
        by_cases hlt : i < n
        · have hlt' : decide (i < n) = true := decide_eq_true hlt
          obtain ⟨j, hj⟩ : ∃ j, j = fa + i := ⟨_, rfl⟩
          have hwr : IntKind.i64.wrap ((fa : Int) + (i : Int)) = (fa : Int) + (i : Int) := IntWalk.i64_in _ (by omega)
          obtain ⟨x, hx⟩ : ∃ x, l[j]? = some x := ⟨l[j]'(by omega), by simp [show j < l.length by omega]⟩
          obtain ⟨b, off, sv, rfl, hbb, d0, hcl⟩ := (hL0.out.ext hF4).cell hx
          have hX0 := Lib.hid hx
          have d0' : wr.cell? ⟨b, off + (fa + i), none⟩ = some sv := by rw [← hj]; exact d0
          have hjl' : fa + i < l.length := by omega
          obtain ⟨ca, ccp, rfl, -⟩ := hcl.form
          obtain ⟨⟨s2, v2, e2⟩, hf⟩ : ∃ z, f x = z := ⟨_, rfl⟩
          replace hf := Lib.hid hf
          have hC := Lib.hid hcl
          have hA := Lib.hid (And.intro hO (And.intro hX (And.intro bO bR)))
          have hjl : j < l.length := by omega
          have hstep : n - i = (n - (i + 1)) + 1 := by omega
          rw [hstep, ← hj] at hN
          clear hx hcl hbb hO hX bM bR bO hstep
          by_cases he : e2 = 0
          · subst he
            go_wp2_with fail
            refine (hp x _ wr hF4 hC.out).mono ?_
            rintro e wn ⟨vo, rfl, hvo, hB⟩
            rw [hf.out] at hvo ⊢
            obtain ⟨bo, co, rfl, -⟩ := hvo.its.form
            dsimp only at hvo ⊢
            replace hvo := Lib.hid hvo
            have bO5 := hA.out.2.2.1.ext hB
            have o1 : wn.cell? ⟨w.heap.size + 1 + 1, 1, none⟩ = some (.slice (some ⟨g, 0, none⟩) l.length cv) := bO5.cell 1
            have hOo := hA.out.1.outer
            rw [hol] at hOo
            have hfr := (Own.ext hOo hB).frozen j
            have hgl : g < wn.heap.size := by have := hB.size; have := hA.out.2.1.size; omega
            obtain ⟨y, hy⟩ : ∃ y, out[j]? = some y := ⟨out[j]'(by omega), by simp [show j < out.length by omega]⟩
            obtain ⟨b', off', sv', hbe, hb', c0, -⟩ := (hA.out.1.sts.ext hB).cell hy
            cases hbe
            rw [Nat.zero_add] at c0
            have hO5 : OwnS (wn.setCell ⟨g, j, none⟩ (.slice bo s2.length co)) w1.heap.size (.slice (some ⟨g, 0, none⟩) l.length cv) (vs.set j (.slice bo s2.length co)) (out.set j s2) := by
              have h := OwnS.set (show OwnS wr w1.heap.size (.slice (some ⟨g, 0, none⟩) out.length cv) vs out by rw [hol]; exact hA.out.1) hB (OwnI.mono hvo.out (by have := hA.out.2.1.size; omega)) (fun b e => (Own.lt hvo.out e).1) (show j < out.length by omega)
              rw [List.length_set, hol] at h
              exact h
            have hX5 := (hA.out.2.1.trans (ExtBut.of_ext hB)).trans (ExtBut.setCell wn ⟨g, j, none⟩ (.slice bo s2.length co))
            have hN2 : eachR f ⟨num, l⟩ fa n = eachGo f num l (n - (i + 1)) (fa + (i + 1)) (out.set j s2) (if why = 0 then v2 else why) := by
              rw [hN.out, eachGo_ok hX0.out hf.out, show fa + (i + 1) = j + 1 by omega]
            have hZ := Lib.hid (And.intro hO5 (And.intro hX5 hN2))
            clear hOo hb' hy hO5 hX5 hN2 bO5
            have hfr' : wn.frozen? ⟨g, fa + i, none⟩ = false := by rw [← hj]; exact hfr
            have c0' : wn.cell? ⟨g, fa + i, none⟩ = some sv' := by rw [← hj]; exact c0
            have hji : (fa : Int) + (i : Int) = (j : Int) := by omega
            have hi0 : (0 : Int) ≤ (fa : Int) + (i : Int) := by omega
            have hi1 : (fa : Int) + (i : Int) < (l.length : Int) := by omega
            have hi2 : ((fa : Int) + (i : Int)).toNat = fa + i := by omega
            rw [hj] at hZ
            clear hji
            by_cases hwy : why = 0
            · subst hwy
              go_wp2
              go_roundw
              case rel => exact ⟨i + 1, v2, _, _, by omega, by go_num, rfl, by simp [hol], hZ.out.1, hZ.out.2.1, Hid.mk hZ.out.2.2⟩
              case measure => simp [intOf]; omega
            · have hw1 : (why == 0) = false := by simp [hwy]
              go_wp2
              go_roundw
              case rel => exact ⟨i + 1, why, _, _, by omega, by go_num, rfl, by simp [hol], hZ.out.1, hZ.out.2.1, Hid.mk (by rw [hZ.out.2.2, if_neg hwy])⟩
              case measure => simp [intOf]; omega
          · have he1 : (e2 != 0) = true := by simp [he]
            have hres : Hid (eachR f ⟨num, l⟩ fa n = (Stk.zero, 0, e2)) := Hid.mk (by rw [hN.out, eachGo_bad hX0.out hf.out he])
            go_wp2_with fail
            refine (hp x _ wr hF4 hC.out).mono ?_
            rintro e wn ⟨vo, rfl, hvo, hB⟩
            rw [hf.out] at hvo ⊢
            obtain ⟨bo, co, rfl, -⟩ := hvo.its.form
            dsimp only at hvo ⊢
            have bR5 := hA.out.2.2.2.ext hB
            have r0 : wn.cell? ⟨w.heap.size + 1, 0, none⟩ = some (.int .i64 0) := bR5.cell 0
            have r1 : wn.cell? ⟨w.heap.size + 1, 1, none⟩ = some (.slice none 0 0) := bR5.cell 1
            have rf0 := bR5.frozen 0
            have rf1 := bR5.frozen 1
            have hF5 := hF4.trans hB
            clear bR5
            go_wp2
            rw [hres.out]
            refine bodyPost_ret (v := .tuple #[.agg #[.int .i64 0, .slice none 0 0], .int .u8 0, .int .i64 e2]) (by simp [results, Tryd.f55, go_sem, r0, r1]) rfl ⟨_, [], rfl, OwnS.nil _ _, ?_⟩
            first | exact hF5 | exact (hF5.setCell (by simp) _).setCell (by simp) _
        · have hlt' : decide (i < n) = false := decide_eq_false hlt
          have hm0 : n - i = 0 := by omega
          rw [hm0] at hN
          have r0 : wr.cell? ⟨w.heap.size + 1, 0, none⟩ = some (.int .i64 0) := bR.cell 0
          have r1 : wr.cell? ⟨w.heap.size + 1, 1, none⟩ = some (.slice none 0 0) := bR.cell 1
          have rf0 := bR.frozen 0
          have rf1 := bR.frozen 1
          have o0 : wr.cell? ⟨w.heap.size + 1 + 1, 0, none⟩ = some (.int .i64 num) := bO.cell 0
          have o1 : wr.cell? ⟨w.heap.size + 1 + 1, 1, none⟩ = some (.slice (some ⟨g, 0, none⟩) l.length cv) := bO.cell 1
          have hO' := Lib.hid hO
          clear hO hm0 hlt bM bR bO
          by_cases hwy : why = 0
          · subst hwy
            have hres : Hid (eachR f ⟨num, l⟩ fa n = (⟨num, out⟩, 0, 0)) := Hid.mk (by rw [hN.out, eachGo_end])
            go_wp2
            rw [hres.out]
            have hY := ((ExtBut.setCell wr ⟨w.heap.size + 1, 0, none⟩ (.int .i64 num)).mono (S' := fun b => b = w.heap.size + 1) (fun x _ h => h)).trans ((ExtBut.setCell _ ⟨w.heap.size + 1, 1, none⟩ (.slice (some ⟨g, 0, none⟩) l.length cv)).mono (S' := fun b => b = w.heap.size + 1) (fun x _ h => h))
            refine bodyPost_ret (v := .tuple #[.agg #[.int .i64 num, .slice (some ⟨g, 0, none⟩) l.length cv], .int .u8 0, .int .i64 0]) (by simp [results, Tryd.f55, go_sem, r0, r1]) rfl ⟨_, vs, rfl, OwnS.mono (B' := w.heap.size) (OwnS.but hO'.out hY (fun g e h => by omega)) (by omega), ExtBut.ext hF4 hY (fun x h => by omega)⟩
          · have hw1 : (why != 0) = true := by simp [hwy]
            have hres : Hid (eachR f ⟨num, l⟩ fa n = (Stk.zero, why, 0)) := Hid.mk (by rw [hN.out, eachGo_why hwy])
            clear hwy
            go_wp2
            rw [hres.out]
            refine bodyPost_ret (v := .tuple #[.agg #[.int .i64 0, .slice none 0 0], .int .u8 why, .int .i64 0]) (by simp [results, Tryd.f55, go_sem, r0, r1]) rfl ⟨_, [], rfl, OwnS.nil _ _, ?_⟩
            first | exact hF4 | exact (hF4.setCell (by simp) _).setCell (by simp) _

end Go.Proofs.YtkbocenpkdaogaaDoor
