/- Contracts: Twin of the reference of layer 26. -/
import Derived.Test.YtiikdpfbbcnplaaCelW6
namespace Go.Proofs.Ytiikdpfbbcnplaa
set_option maxRecDepth 100000
open Go.RowKit

set_option maxHeartbeats 1600000 in
theorem ref26_Twin {l : List Alloc} {next : Int} {s : Value} {w : World} (hl : Als w s l) (hs : small l) :
    Calls Try.prog 36 #[.agg #[s, .int .i64 next]] w (RetMem w l next) := by
  obtain ⟨ci, cz, hci, hcz, hci3, hcz3, hcby⟩ := Cell.infoE
  obtain ⟨ai, az, hai, haz, hai3, haz3, haby⟩ := Alloc.infoE
  have hci := Lib.hid hci; have hcz := Lib.hid hcz; have hci3 := Lib.hid hci3; have hcz3 := Lib.hid hcz3; have hcby := Lib.hid hcby
  have hai := Lib.hid hai; have haz := Lib.hid haz; have hai3 := Lib.hid hai3; have haz3 := Lib.hid haz3; have haby := Lib.hid haby
  have hE0 := (((Ext.refl w).alloc (.cells #[s, .int .i64 next] 24)).alloc (.cells #[.slice none 0 0, .int .i64 0] 24)).alloc (.cells #[.slice none 0 0, .int .i64 next] 24)
  have hform := hl.form
  obtain ⟨a, cp, rfl, hlc, hcm, -⟩ := hform
  unfold maxLen at hcm
  have hL := Lib.hid hl
  have hsm := Lib.hid hs.1
  have bM := ((Box.new w 24 #[.slice a l.length cp, .int .i64 next]).ext ((Ext.refl _).alloc (.cells #[.slice none 0 0, .int .i64 0] 24))).ext ((Ext.refl _).alloc (.cells #[.slice none 0 0, .int .i64 next] 24))
  have bR := (Box.new (w.alloc (.cells #[.slice a l.length cp, .int .i64 next] 24)) 24 #[.slice none 0 0, .int .i64 0]).ext ((Ext.refl _).alloc (.cells #[.slice none 0 0, .int .i64 next] 24))
  have bO := Box.new ((w.alloc (.cells #[.slice a l.length cp, .int .i64 next] 24)).alloc (.cells #[.slice none 0 0, .int .i64 0] 24)) 24 #[.slice none 0 0, .int .i64 next]
  simp only [World.size_alloc] at bR bO
  have hH := Lib.hid (And.intro bM (And.intro bR bO))
  clear bM bR bO hl
  go_enter Try.func36, Try.ntmps36
  go_wp2
  obtain ⟨w1, hw1⟩ : ∃ w1, ((w.alloc (.cells #[.slice a l.length cp, .int .i64 next] 24)).alloc (.cells #[.slice none 0 0, .int .i64 0] 24)).alloc (.cells #[.slice none 0 0, .int .i64 next] 24) = w1 := ⟨_, rfl⟩
  have hsz1 : w1.heap.size = w.heap.size + 3 := by rw [← hw1]; simp
  rw [hw1] at hE0 hH ⊢
  clear hw1
  have hsz1 := Lib.hid hsz1
  go_loopw [4] (fun iv wr => ∃ (k : Nat) (v : Value) (vs : List Value), k ≤ l.length ∧ iv = .int .i64 k ∧ Box wr (w.heap.size + 1 + 1) 24 #[v, .int .i64 next] ∧ OM wr w1.heap.size v vs (l.take k) ∧ ExtBut (· = w.heap.size + 1 + 1) w1 wr) (fun iv _ => l.length - (intOf iv).toNat)
  case atStart => exact ⟨0, _, [], Nat.zero_le _, rfl, hH.out.2.2, OTb.nil _ _, ExtBut.refl _ _⟩
  case round =>
    obtain ⟨k, v, vs, hk, rfl, bO, hT, hX⟩ := hrel
    have bM := hH.out.1.but hX (by omega)
    have bR := hH.out.2.1.but hX (by omega)
    have hF : Ext w wr := ExtBut.ext hE0 hX (fun x h => by omega)
    have hlk : (l.take k).length = k := by rw [List.length_take]; omega
    have hOv := hT.outer
    rw [hlk] at hOv
    obtain ⟨av, cv, rfl, hcv1, hcv2, -⟩ := hOv.sl.slice_form
    unfold maxLen at hcv2
    have m0 : wr.cell? ⟨w.heap.size, 0, none⟩ = some (.slice a l.length cp) := bM.cell 0
    have o0 : wr.cell? ⟨w.heap.size + 1 + 1, 0, none⟩ = some (.slice av k cv) := bO.cell 0
    have hBl := bO.lt
    by_cases hlt : k < l.length
    · obtain ⟨x, hx⟩ : ∃ x, l[k]? = some x := ⟨l[k], by simp [hlt]⟩
      obtain ⟨b, off, sv, rfl, hbb, d0, d1, d2, hcl⟩ := (hL.out.ext hF).cell hx
      obtain ⟨ca, ccp, rfl, hclc, hccm, -⟩ := hcl.form
      have hxs : x.cells.length ≤ 1000000 := hs.2 x (List.mem_of_getElem? hx)
      have hE3 := ((Ext.refl wr).alloc (.cells #[.int .i64 x.num, .bool x.live, .slice ca x.cells.length ccp] 70)).alloc (.cells #[] 29)
      have bX := (Box.new wr 70 #[.int .i64 x.num, .bool x.live, .slice ca x.cells.length ccp]).ext ((Ext.refl _).alloc (.cells #[] 29))
      have hOn := Own.made' (wr.alloc (.cells #[.int .i64 x.num, .bool x.live, .slice ca x.cells.length ccp] 70)) (wr.heap.size + 1) 29 5 (by simp)
      rw [World.size_alloc] at hOn
      have hA := Lib.hid (And.intro (hcl.ext hE3) (And.intro bX (And.intro hOn (And.intro hx (And.intro hT (And.intro hX (And.intro hOv (And.intro bO hlk))))))))
      clear hcl bX hOn hx hT hX hOv bO hlk bM bR hs
      go_wp2_with (at_builtin; refine Hid.out ?_)
      refine Hid.mk ?_
      refine wpList_append_any rfl _ _ 35 35 rfl rfl rfl Try.underlying35 Try.underlying35 hci.out hcz.out hci3.out hcz3.out hA.out.2.2.1 hA.out.1 (Cell.one x.cells) (by simp [maxLen]; omega) (by rw [hcby.out]; omega) (by simp) ?_
      intro sn w4 hOn hKn _ _
      simp only [Nat.zero_add, List.nil_append] at hOn
      have hX4 := ExtBut.of_keeps hKn
      have hE4 : Ext wr w4 := ExtBut.ext hE3 hX4 (fun y h => by have h' : some (wr.heap.size + 1) = some y := h; cases h'; omega)
      have bX4 := hA.out.2.1.but hX4 (fun h => by have h' : some (wr.heap.size + 1) = some wr.heap.size := h; simp at h')
      have hslt := fun g e => hOn.lt (g := g) e
      obtain ⟨an, cn, rfl, hcn, hcn2, -⟩ := hOn.sl.slice_form
      have hE5 := Ext.setCell hE4 (p := ⟨wr.heap.size, 2, none⟩) (Nat.le_refl _) (.slice an x.cells.length cn)
      have bX5 := bX4.set 2 (.slice an x.cells.length cn)
      have hO5 := ExtBut.own hOn (ExtBut.setCell w4 ⟨wr.heap.size, 2, none⟩ (.slice an x.cells.length cn)) (fun g e h => by have := (hslt g e).1; have h' : g = wr.heap.size := h; omega)
      have x0 : w4.cell? ⟨wr.heap.size, 0, none⟩ = some (.int .i64 x.num) := bX4.cell 0
      have x1 : w4.cell? ⟨wr.heap.size, 1, none⟩ = some (.bool x.live) := bX4.cell 1
      have x2 : w4.cell? ⟨wr.heap.size, 2, none⟩ = some (.slice ca x.cells.length ccp) := bX4.cell 2
      have xf := bX4.frozen 2
      have hBx := bX4.lt
      have o4 := hE4.cell o0
      have hE6 := hE5.alloc (.cells #[.int .i64 x.num, .bool x.live, .slice an x.cells.length cn] 70)
      have hB := Lib.hid (And.intro hE6 (And.intro hO5 (And.intro hslt (And.intro bX5 hE4))))
      clear hOn hKn hX4 hE4 bX4 hE5 bX5 hO5 hE6
      go_wp2_with (at_builtin; refine Hid.out ?_)
      refine Hid.mk ?_
      have hS6 : Sl ((w4.setCell ⟨wr.heap.size, 2, none⟩ (.slice an x.cells.length cn)).alloc (.cells #[.int .i64 x.num, .bool x.live, .slice an x.cells.length cn] 70)) 3 (.slice (some ⟨w4.heap.size, 0, none⟩) 1 1) 1 (arow (.slice an x.cells.length cn) x) := by
        have := (Own.lit' (B := 0) (e := 70) (k := 3) (w4.setCell ⟨wr.heap.size, 2, none⟩ (.slice an x.cells.length cn)) #[.int .i64 x.num, .bool x.live, .slice an x.cells.length cn] 1 (Nat.zero_le _) (by simp [maxLen]) rfl).sl
        rw [World.size_setCell] at this
        exact this
      have hk6 : k ≤ 1000000 := by have := hsm.out; omega
      refine wpList_append_any rfl _ _ 22 22 rfl rfl rfl Try.underlying22 Try.underlying22 hai.out haz.out hai3.out haz3.out (hA.out.2.2.2.2.2.2.1.ext hB.out.1) hS6 (by simp [arow, Value.oneCell']) (by simp [maxLen]; omega) (by rw [haby.out]; omega) (Nat.le_trans hA.out.2.2.2.2.2.1.size hB.out.1.size) ?_
      intro v' w6 hOv hKv hbv _
      have hlk := hA.out.2.2.2.2.2.2.2.2
      have hP : OM w6 w1.heap.size v' (vs ++ [.slice an x.cells.length cn]) (l.take k ++ [x]) := OM.push hA.out.2.2.2.2.1 hB.out.1 (OwnC.mono (OwnC.ext hB.out.2.1 ((Ext.refl _).alloc _)) (by have := hA.out.2.2.2.2.2.1.size; omega)) (fun g e => by have := (hslt g e).1; omega) (by rw [hlk]; exact hOv) hKv hbv
      have htk : l.take k ++ [x] = l.take (k + 1) := by rw [List.take_add_one, hA.out.2.2.2.1]; rfl
      rw [htk] at hP
      obtain ⟨av', cv', rfl, -⟩ := hOv.sl.slice_form
      have hvB := fun g e => (hA.out.2.2.2.2.2.2.1.lt (g := g) e).1
      have hvB' := fun g e => (hOv.lt (g := g) e).1
      have hin' := OM.inner_lt hP
      have bO6 := (hA.out.2.2.2.2.2.2.2.1.ext hB.out.1).but (ExtBut.of_keeps hKv) (fun h => by have := hvB _ h; have := hsz1.out; omega)
      have hX6 := ((hA.out.2.2.2.2.2.1.trans (ExtBut.of_ext hB.out.1)).trans' (ExtBut.of_keeps hKv) (fun x hx h => by have := hvB _ h; omega)).trans (ExtBut.setCell w6 ⟨w.heap.size + 1 + 1, 0, none⟩ (.slice av' (k + 1) cv'))
      have hP7 := OM.but hP (ExtBut.setCell w6 ⟨w.heap.size + 1 + 1, 0, none⟩ (.slice av' (k + 1) cv')) (fun g e h => by have := hvB' g e; have := hsz1.out; have h' : g = w.heap.size + 1 + 1 := h; omega) (fun s hs g e h => by have := (hin' s hs g e).1; have := hsz1.out; have h' : g = w.heap.size + 1 + 1 := h; omega)
      have o6 : w6.cell? ⟨w.heap.size + 1 + 1, 0, none⟩ = some (.slice av k cv) := bO6.cell 0
      have of6 := bO6.frozen 0
      have bO7 := bO6.set 0 (.slice av' (k + 1) cv')
      have hR := Lib.hid (And.intro bO7 (And.intro hP7 hX6))
      clear hvB hvB' hin' bO6 hX6 hP7 bO7 hP hOv hKv hbv hlk htk
      go_wp2
      go_roundw
      case rel => exact ⟨k + 1, _, _, by omega, by go_num, hR.out.1, hR.out.2.1, hR.out.2.2⟩
      case measure => simp [intOf]; omega
    · have hkl : k = l.length := by omega
      subst hkl
      have o1 : wr.cell? ⟨w.heap.size + 1 + 1, 1, none⟩ = some (.int .i64 next) := bO.cell 1
      have r0 : wr.cell? ⟨w.heap.size + 1, 0, none⟩ = some (.slice none 0 0) := bR.cell 0
      have r1 : wr.cell? ⟨w.heap.size + 1, 1, none⟩ = some (.int .i64 0) := bR.cell 1
      have rf0 := bR.frozen 0
      have rf1 := bR.frozen 1
      rw [List.take_length] at hT
      have hT' := Lib.hid hT
      clear hT hlk hOv bM
      go_wp2
      have hY := ((ExtBut.setCell wr ⟨w.heap.size + 1, 0, none⟩ (.slice av l.length cv)).mono (S' := fun b => b = w.heap.size + 1) (fun x _ h => h)).trans ((ExtBut.setCell _ ⟨w.heap.size + 1, 1, none⟩ (.int .i64 next)).mono (S' := fun b => b = w.heap.size + 1) (fun x _ h => h))
      have hsz := hsz1.out
      refine bodyPost_ret (v := .agg #[.slice av l.length cv, .int .i64 next]) (by simp [results, Try.f36, go_sem, r0, r1]) rfl ⟨_, vs, rfl, OM.mono (B' := w.heap.size) (OM.but hT'.out hY (fun g e h => by have := (hT'.out.outer.lt e).1; omega) (fun s hs g e h => by have := (OM.inner_lt hT'.out s hs g e).1; omega)) (by omega), ExtBut.ext hF hY (fun x h => by omega)⟩

end Go.Proofs.Ytiikdpfbbcnplaa
