/- Contracts: End of the program and of the reference. -/
import Derived.Test.YtiikdpfbbcnplaaCelWA
namespace Go.Proofs.Ytiikdpfbbcnplaa
set_option maxRecDepth 100000
open Go.RowKit

set_option maxRecDepth 100000 in
set_option maxHeartbeats 3200000 in
theorem allocs_End {m : Mem} {s : Value} {w : World} (n : Int) (hl : Als w s m.al) (hn : i64B m.next) :
    Calls Try.prog 33 #[.agg #[s, .int .i64 m.next], .int .i64 n] w (RetME w (endR m n).1 (endR m n).2) := by
  have hE0 := ((Ext.refl w).alloc (.cells #[s, .int .i64 m.next] 24)).alloc (.cells #[.slice none 0 0, .int .i64 0] 24)
  obtain ⟨a, cp, rfl, hlc, hcm, -⟩ := hl.form
  unfold maxLen at hcm
  have bM := (Box.new w 24 #[.slice a m.al.length cp, .int .i64 m.next]).ext ((Ext.refl _).alloc (.cells #[.slice none 0 0, .int .i64 0] 24))
  have bR := Box.new (w.alloc (.cells #[.slice a m.al.length cp, .int .i64 m.next] 24)) 24 #[.slice none 0 0, .int .i64 0]
  rw [World.size_alloc] at bR
  have hCk := Lib.hid (allocs_Check (hl.ext hE0) hn)
  have hL := Lib.hid hl
  cases hok : m.ok
  · have hce : Hid (memErr m.al m.next = 8) := Hid.mk (memErr_bad hok)
    have hres := Lib.hid (endR_bad (n := n) hok)
    clear hok hl
    go_enter Try.func33, Try.ntmps33
    go_wp2_with fail
    refine hCk.out.mono ?_
    rintro e w1 ⟨rfl, hE1⟩
    rw [hce.out]
    have bR1 := bR.ext hE1
    have r0 : w1.cell? ⟨w.heap.size + 1, 0, none⟩ = some (.slice none 0 0) := bR1.cell 0
    have r1 : w1.cell? ⟨w.heap.size + 1, 1, none⟩ = some (.int .i64 0) := bR1.cell 1
    have rf0 := bR1.frozen 0
    have rf1 := bR1.frozen 1
    have hF1 := hE0.trans hE1
    clear bM bR bR1
    go_wp2
    rw [hres.out]
    refine bodyPost_ret (v := .tuple #[.agg #[.slice none 0 0, .int .i64 0], .int .i64 8]) (by simp [results, Try.f33, go_sem, r0, r1]) rfl ⟨_, rfl, FrM.zero _ _, (hF1.setCell (by simp) _).setCell (by simp) _⟩
  · have hce : Hid (memErr m.al m.next = 0) := Hid.mk (memErr_ok hok)
    have hsm := small_of_ok hok
    cases hat : atNum m.al n with
    | none =>
      have hix := Lib.hid (idxM_none hat)
      have hres := Lib.hid (endR_none hok hat)
      clear hok hl hat
      go_enter Try.func33, Try.ntmps33
      go_wp2_with fail
      refine hCk.out.mono ?_
      rintro e w1 ⟨rfl, hE1⟩
      rw [hce.out]
      have hF1 := hE0.trans hE1
      have bM1 := bM.ext hE1
      have m0 : w1.cell? ⟨w.heap.size, 0, none⟩ = some (.slice a m.al.length cp) := bM1.cell 0
      have m1 : w1.cell? ⟨w.heap.size, 1, none⟩ = some (.int .i64 m.next) := bM1.cell 1
      go_wp2_with fail
      refine (allocs_find n (hL.out.ext hF1)).mono ?_
      rintro e w2 ⟨rfl, hE2⟩
      rw [hix.out]
      have hF2 := hF1.trans hE2
      have bR2 := (bR.ext hE1).ext hE2
      have r0 : w2.cell? ⟨w.heap.size + 1, 0, none⟩ = some (.slice none 0 0) := bR2.cell 0
      have r1 : w2.cell? ⟨w.heap.size + 1, 1, none⟩ = some (.int .i64 0) := bR2.cell 1
      have rf0 := bR2.frozen 0
      have rf1 := bR2.frozen 1
      clear bM bR bR2 bM1 m0 m1
      go_wp2
      rw [hres.out]
      refine bodyPost_ret (v := .tuple #[.agg #[.slice none 0 0, .int .i64 0], .int .i64 6]) (by simp [results, Try.f33, go_sem, r0, r1]) rfl ⟨_, rfl, FrM.zero _ _, (hF2.setCell (by simp) _).setCell (by simp) _⟩
    | some i =>
      have hil := (atNum_lt hat).1
      obtain ⟨x, hx⟩ : ∃ x, m.al[i]? = some x := ⟨m.al[i], by simp [hil]⟩
      have hix := Lib.hid (idxM_some hat)
      have hX := Lib.hid hx
      have hi2 : decide ((i : Int) < 0) = false := decide_eq_false (by omega)
      have hi0 : (0 : Int) ≤ (i : Int) := by omega
      have hi1 : (i : Int) < (m.al.length : Int) := by omega
      cases hlv : x.live
      · have hres := Lib.hid (endR_dead hok hat hx hlv)
        have hlv' := Lib.hid hlv
        clear hok hl hat hx hlv
        go_enter Try.func33, Try.ntmps33
        go_wp2_with fail
        refine hCk.out.mono ?_
        rintro e w1 ⟨rfl, hE1⟩
        rw [hce.out]
        have hF1 := hE0.trans hE1
        have bM1 := bM.ext hE1
        have m0 : w1.cell? ⟨w.heap.size, 0, none⟩ = some (.slice a m.al.length cp) := bM1.cell 0
        have m1 : w1.cell? ⟨w.heap.size, 1, none⟩ = some (.int .i64 m.next) := bM1.cell 1
        go_wp2_with fail
        refine (allocs_find n (hL.out.ext hF1)).mono ?_
        rintro e w2 ⟨rfl, hE2⟩
        rw [hix.out]
        have hF2 := hF1.trans hE2
        have bM2 := bM1.ext hE2
        have bR2 := (bR.ext hE1).ext hE2
        clear m0 m1
        have m0 : w2.cell? ⟨w.heap.size, 0, none⟩ = some (.slice a m.al.length cp) := bM2.cell 0
        have r0 : w2.cell? ⟨w.heap.size + 1, 0, none⟩ = some (.slice none 0 0) := bR2.cell 0
        have r1 : w2.cell? ⟨w.heap.size + 1, 1, none⟩ = some (.int .i64 0) := bR2.cell 1
        have rf0 := bR2.frozen 0
        have rf1 := bR2.frozen 1
        obtain ⟨b, off, sv, rfl, hbb, d0, d1, d2, -⟩ := (hL.out.ext hF2).cell hX.out
        rw [hlv'.out] at d1
        clear bM bR bR2 bM1 bM2
        go_wp2
        rw [hres.out]
        refine bodyPost_ret (v := .tuple #[.agg #[.slice none 0 0, .int .i64 0], .int .i64 6]) (by simp [results, Try.f33, go_sem, r0, r1]) rfl ⟨_, rfl, FrM.zero _ _, (hF2.setCell (by simp) _).setCell (by simp) _⟩
      · have hres := Lib.hid (endR_live hok hat hx hlv)
        have hlv' := Lib.hid hlv
        clear hok hl hat hx hlv
        go_enter Try.func33, Try.ntmps33
        go_wp2_with fail
        refine hCk.out.mono ?_
        rintro e w1 ⟨rfl, hE1⟩
        rw [hce.out]
        have hF1 := hE0.trans hE1
        have bM1 := bM.ext hE1
        have m0 : w1.cell? ⟨w.heap.size, 0, none⟩ = some (.slice a m.al.length cp) := bM1.cell 0
        have m1 : w1.cell? ⟨w.heap.size, 1, none⟩ = some (.int .i64 m.next) := bM1.cell 1
        go_wp2_with fail
        refine (allocs_find n (hL.out.ext hF1)).mono ?_
        rintro e w2 ⟨rfl, hE2⟩
        rw [hix.out]
        have hF2 := hF1.trans hE2
        have bM2 := bM1.ext hE2
        clear m0 m1
        have m0 : w2.cell? ⟨w.heap.size, 0, none⟩ = some (.slice a m.al.length cp) := bM2.cell 0
        have m1 : w2.cell? ⟨w.heap.size, 1, none⟩ = some (.int .i64 m.next) := bM2.cell 1
        obtain ⟨b, off, sv, rfl, hbb, d0, d1, d2, -⟩ := (hL.out.ext hF2).cell hX.out
        rw [hlv'.out] at d1
        go_wp2_with fail
        refine (allocs_clone (hL.out.ext hF2) hsm).mono ?_
        rintro e w3 ⟨v, vs, rfl, hOM, hE3⟩
        have hF3 := hF2.trans hE3
        have hv := hOM.outer.sl.slice_form
        obtain ⟨a2, cp2, rfl, hlc2, hcm2, -⟩ := hv
        unfold maxLen at hcm2
        obtain ⟨g, sv', rfl, hg1, hg2, hvi, hown, ⟨f0, f1, f2⟩, hfr, hsb⟩ := OM.cell hOM hX.out
        rw [hlv'.out] at f1
        have hvf := hown.read.form
        obtain ⟨ca, ccp, rfl, -⟩ := hvf
        have bM3 := bM2.ext hE3
        have bR3 := ((bR.ext hE1).ext hE2).ext hE3
        have hw2 : w.heap.size + 1 < w2.heap.size := ((bR.ext hE1).ext hE2).lt
        have k0 : w3.cell? ⟨w.heap.size, 0, none⟩ = some (.slice (some ⟨b, off, none⟩) m.al.length cp) := bM3.cell 0
        have k1 : w3.cell? ⟨w.heap.size, 1, none⟩ = some (.int .i64 m.next) := bM3.cell 1
        have kf0 := bM3.frozen 0
        have kf1 := bM3.frozen 1
        have fr1 := hfr (i * 3 + 1)
        have hg0 : g ≠ w.heap.size := by omega
        have hg0' : w.heap.size ≠ g := by omega
        obtain ⟨ci, cz, hci, hcz, hczz⟩ := Cell.infoZ
        have hXa : ExtBut (fun b => b = w.heap.size ∨ b = g) w3 (((w3.setCell ⟨w.heap.size, 0, none⟩ (.slice (some ⟨g, 0, none⟩) m.al.length cp2)).setCell ⟨w.heap.size, 1, none⟩ (.int .i64 m.next)).setCell ⟨g, i * 3 + 1, none⟩ (.bool false)) :=
          (((ExtBut.setCell w3 ⟨w.heap.size, 0, none⟩ (.slice (some ⟨g, 0, none⟩) m.al.length cp2)).mono (fun x _ h => .inl h)).trans ((ExtBut.setCell _ ⟨w.heap.size, 1, none⟩ (.int .i64 m.next)).mono (fun x _ h => .inl h))).trans ((ExtBut.setCell _ ⟨g, i * 3 + 1, none⟩ (.bool false)).mono (fun x _ h => .inr h))
        have hXb : ExtBut (fun b => b = w.heap.size) w3 ((w3.setCell ⟨w.heap.size, 0, none⟩ (.slice (some ⟨g, 0, none⟩) m.al.length cp2)).setCell ⟨w.heap.size, 1, none⟩ (.int .i64 m.next)) :=
          (ExtBut.setCell w3 ⟨w.heap.size, 0, none⟩ (.slice (some ⟨g, 0, none⟩) m.al.length cp2)).trans (ExtBut.setCell _ ⟨w.heap.size, 1, none⟩ (.int .i64 m.next))
        have hOu := (ExtBut.own hOM.outer hXb (fun b' e h => by have h' : some g = some b' := e; cases h'; omega)).set (i * 3 + 1) (.bool false)
        rw [trows_set arow arow_len hvi hX.out (by omega : 1 < 3) (show arow _ (ended x) = (arow _ x).set 1 (.bool false) from rfl)] at hOu
        have hownA := OwnC.keep hown hXa (fun b' e h => by have := hsb b' e; omega)
        obtain ⟨w5, hr5, hO5, hX5⟩ := run_clear_own (P := Try.prog) (ty := 0) (t := 35) (k := 5) (n := x.cells.length) Try.underlying35 hci hcz (by rw [hczz]; rfl) (by rw [hczz, zcells_zero]; exact zcells_one _) hownA
        rw [hczz, zcells_zero] at hO5
        have hOu5 := ExtBut.own hOu hX5 (fun b' e h => by have h' : some g = some b' := e; cases h'; exact (hsb _ h).2.2 rfl)
        have bM5 := ((bM3.set 0 (.slice (some ⟨g, 0, none⟩) m.al.length cp2)).set 1 (.int .i64 m.next)).other (p := ⟨g, i * 3 + 1, none⟩) hg0 (.bool false)
        have bM5 := bM5.but hX5 (fun h => by have := hsb _ h; omega)
        have bR5 := (bR3.but hXa (by omega)).but hX5 (fun h => by have := hsb _ h; omega)
        have hX35 : ExtBut (fun b => b = w.heap.size ∨ b = g ∨ (Value.slice ca x.cells.length ccp).ownBlock = some b) w3 w5 := (hXa.mono (fun x _ h => by rcases h with h | h; exact .inl h; exact .inr (.inl h))).trans (hX5.mono (fun x _ h => .inr (.inr h)))
        have hF5 : Ext w w5 := ExtBut.ext hF3 hX35 (fun b' h => by rcases h with h | h | h; omega; omega; (have := hsb _ h; omega))
        have p0 : w5.cell? ⟨w.heap.size, 0, none⟩ = some (.slice (some ⟨g, 0, none⟩) m.al.length cp2) := bM5.cell 0
        have p1 : w5.cell? ⟨w.heap.size, 1, none⟩ = some (.int .i64 m.next) := bM5.cell 1
        have r0 : w5.cell? ⟨w.heap.size + 1, 0, none⟩ = some (.slice none 0 0) := bR5.cell 0
        have r1 : w5.cell? ⟨w.heap.size + 1, 1, none⟩ = some (.int .i64 0) := bR5.cell 1
        have rf0 := bR5.frozen 0
        have rf1 := bR5.frozen 1
        have hH := Lib.hid (And.intro hOM (And.intro hOu5 (And.intro hO5 (And.intro hX35 (And.intro hsb (And.intro hvi hF5))))))
        clear bM bR bM1 bM2 bM3 bR3 m0 m1 hOM hown hsb hfr d0 d1 d2 hXa hXb hOu hownA hO5 hX5 hOu5 bM5 bR5 hX35 hF5
        go_wp2
        rw [hres.out]
        obtain ⟨hOM, hOu5, hO5, hX35, hsb, hvi, hF5⟩ := hH.out
        have hXr := ((ExtBut.setCell w5 ⟨w.heap.size + 1, 0, none⟩ (.slice (some ⟨g, 0, none⟩) m.al.length cp2)).mono (S' := fun b => b = w.heap.size + 1) (fun x _ h => h)).trans ((ExtBut.setCell _ ⟨w.heap.size + 1, 1, none⟩ (.int .i64 m.next)).mono (S' := fun b => b = w.heap.size + 1) (fun x _ h => h))
        have hX37 := (hX35.mono (S' := fun b => b = w.heap.size ∨ b = w.heap.size + 1 ∨ b = g ∨ (Value.slice ca x.cells.length ccp).ownBlock = some b) (fun y _ h => by rcases h with h | h | h; exact .inl h; exact .inr (.inr (.inl h)); exact .inr (.inr (.inr h)))).trans (hXr.mono (fun y _ h => .inr (.inl h)))
        refine bodyPost_ret (v := .tuple #[.agg #[.slice (some ⟨g, 0, none⟩) m.al.length cp2, .int .i64 m.next], .int .i64 0]) (by simp [results, Try.f33, go_sem, r0, r1]) rfl ⟨_, rfl, fun w'' h2 => ⟨_, rfl, ?_⟩, ExtBut.ext hF5 hXr (fun y h => by omega)⟩
        have hgw : w.heap.size ≤ g := by omega
        refine Als.of_put hOM hil (ExtBut.own (ExtBut.own hOu5 hXr (fun b' e h => by have h' : some g = some b' := e; cases h'; omega)) h2 (fun b' e h => by have h' : some g = some b' := e; cases h'; omega)) ((hX37.mono (S' := fun b => (b = w.heap.size ∨ b = w.heap.size + 1 ∨ b = g ∨ (Value.slice ca x.cells.length ccp).ownBlock = some b) ∨ b < w.heap.size) (fun _ _ h => .inl h)).trans (h2.mono (fun _ _ h => .inr h))) (fun j s1 hne hj g' hg' h => ?_) ?_
        · have h1 := OM.inner_lt hOM s1 (List.mem_of_getElem? hj) g' hg'
          have h3 := hOM.far s1 (List.mem_of_getElem? hj) g' hg'
          rcases h with (h | h | h | h) | h
          · omega
          · omega
          · exact h3 (by rw [h]; rfl)
          · exact OM.apart' hOM hvi h j s1 hne hj g' hg' rfl
          · omega
        · have h3 := (ExtBut.own (ExtBut.own hO5 hXr (fun b' e h => by have := hsb b' e; omega)) h2 (fun b' e h => by have := hsb b' e; omega)).sl
          show Sl _ 5 _ (List.replicate x.cells.length Cell.zero).length _
          rw [List.length_replicate]
          exact h3

set_option maxRecDepth 100000 in
set_option maxHeartbeats 3200000 in
theorem ref26_Ended {l : List Alloc} {next : Int} {s : Value} {w : World} {i : Nat} {x : Alloc} (hx : l[i]? = some x) (hl : Als w s l) (hs : small l) :
    Calls Try.prog 60 #[.agg #[s, .int .i64 next], .int .i64 i] w fun e w' => ∃ v, e = .returned v ∧ FrM w w' v ⟨l.set i (ended x), next⟩ ∧ Ext w w' := by
  have hE0 := ((Ext.refl w).alloc (.cells #[s, .int .i64 next] 24)).alloc (.cells #[.slice none 0 0, .int .i64 0] 24)
  obtain ⟨a, cp, rfl, hlc, hcm, -⟩ := hl.form
  unfold maxLen at hcm
  have bR := Box.new (w.alloc (.cells #[.slice a l.length cp, .int .i64 next] 24)) 24 #[.slice none 0 0, .int .i64 0]
  rw [World.size_alloc] at bR
  have hT := Lib.hid (ref26_Twin (next := next) (hl.ext hE0) hs)
  have hX := Lib.hid hx
  have hil : i < l.length := (List.getElem?_eq_some_iff.1 hx).1
  have hl6 : l.length ≤ 1000000 := hs.1
  have hxs : x.cells.length ≤ 1000000 := hs.2 x (List.mem_of_getElem? hx)
  have hi0 : (0 : Int) ≤ (i : Int) := by omega
  have hi1 : (i : Int) < (l.length : Int) := by omega
  have hmk := make_Cells x.cells.length hxs
  clear hl hx hs
  go_enter Try.func60, Try.ntmps60
  go_wp2_with fail
  refine hT.out.mono ?_
  rintro e w3 ⟨v, vs, rfl, hOM, hE3⟩
  have hF3 := hE0.trans hE3
  have hv := hOM.outer.sl.slice_form
  obtain ⟨a2, cp2, rfl, hlc2, hcm2, -⟩ := hv
  unfold maxLen at hcm2
  obtain ⟨g, sv', rfl, hg1, hg2, hvi, hown, ⟨f0, f1, f2⟩, hfr, hsb⟩ := OM.cell hOM hX.out
  simp only [World.size_alloc] at hg1 hsb
  have hvf := hown.read.form
  obtain ⟨ca, ccp, rfl, -⟩ := hvf
  have bR3 := bR.ext hE3
  have fr1 := hfr (i * 3 + 1)
  have fr2 := hfr (i * 3 + 2)
  have hgo : g ≠ w3.heap.size := by omega
  have hgo' : w3.heap.size ≠ g := by omega
  have hsz3 := bR3.lt
  have hro : w.heap.size + 1 ≠ w3.heap.size := by omega
  have hrg : w.heap.size + 1 ≠ g := by omega
  have r0 : w3.cell? ⟨w.heap.size + 1, 0, none⟩ = some (.slice none 0 0) := bR3.cell 0
  have r1 : w3.cell? ⟨w.heap.size + 1, 1, none⟩ = some (.int .i64 0) := bR3.cell 1
  have rf0 := bR3.frozen 0
  have rf1 := bR3.frozen 1
  have hH := Lib.hid (And.intro hOM (And.intro hown (And.intro hsb (And.intro hvi hF3))))
  have bR3 := Lib.hid bR3
  clear hOM hown hsb bR
  go_wp2
  go_region
  obtain ⟨hOM, hown, hsb, hvi, hF3⟩ := hH.out
  have hO1 := (hOM.outer.set (i * 3 + 1) (.bool false)).set (i * 3 + 2) (.slice (some ⟨w3.heap.size + 1, 0, none⟩) x.cells.length x.cells.length)
  rw [trows_set arow arow_len hvi hX.out (by omega : 1 < 3) (show arow _ ⟨x.num, false, x.cells⟩ = (arow _ x).set 1 (.bool false) from rfl), trows_set arow arow_len (s := .slice ca x.cells.length ccp) (a := ⟨x.num, false, x.cells⟩) (by rw [List.getElem?_set_self (List.getElem?_eq_some_iff.1 hvi).1]) (by rw [List.getElem?_set_self hil]) (by omega : 2 < 3) (show arow (.slice (some ⟨w3.heap.size + 1, 0, none⟩) x.cells.length x.cells.length) (ended x) = (arow _ (⟨x.num, false, x.cells⟩ : Alloc)).set 2 (.slice (some ⟨w3.heap.size + 1, 0, none⟩) x.cells.length x.cells.length) from rfl), List.set_set, List.set_set] at hO1
  have hXr : ExtBut (fun b => b = g) w3 ((w3.setCell ⟨g, i * 3 + 1, none⟩ (.bool false)).setCell ⟨g, i * 3 + 2, none⟩ (.slice (some ⟨w3.heap.size + 1, 0, none⟩) x.cells.length x.cells.length)) :=
    (ExtBut.setCell w3 ⟨g, i * 3 + 1, none⟩ (.bool false)).trans (ExtBut.setCell _ ⟨g, i * 3 + 2, none⟩ (.slice (some ⟨w3.heap.size + 1, 0, none⟩) x.cells.length x.cells.length))
  have bR7 := bR3.out.but hXr hrg
  obtain ⟨w7, hw7⟩ : ∃ w7, (w3.setCell ⟨g, i * 3 + 1, none⟩ (.bool false)).setCell ⟨g, i * 3 + 2, none⟩ (.slice (some ⟨w3.heap.size + 1, 0, none⟩) x.cells.length x.cells.length) = w7 := ⟨_, rfl⟩
  have hs7 : w7.heap.size = w3.heap.size := by rw [← hw7]; simp
  rw [hw7] at hXr hO1 bR7 ⊢
  have hE8 := (((Ext.refl w7).alloc (.cells #[.slice (some ⟨g, 0, none⟩) l.length cp2, .int .i64 next] 24)).alloc (.cells (zcells x.cells.length) 29)).drew
  have bO8 := ((Box.new w7 24 #[.slice (some ⟨g, 0, none⟩) l.length cp2, .int .i64 next]).ext ((Ext.refl _).alloc (.cells (zcells x.cells.length) 29))).ext (Ext.refl _).drew
  have bR8 := bR7.ext hE8
  have hz := Own.ext (zcells_own x.cells.length hxs (w7.alloc (.cells #[.slice (some ⟨g, 0, none⟩) l.length cp2, .int .i64 next] 24)) (B := w3.heap.size + 1) (by simp [hs7])) (Ext.refl _).drew
  rw [World.size_alloc] at hz
  have hO8 := hO1.ext hE8
  have hX8 := hXr.trans (ExtBut.of_ext hE8)
  have hF8 := (ExtBut.ext hF3 hXr (fun y h => by omega)).trans hE8
  obtain ⟨w8, hw8⟩ : ∃ w8, ((w7.alloc (.cells #[.slice (some ⟨g, 0, none⟩) l.length cp2, .int .i64 next] 24)).alloc (.cells (zcells x.cells.length) 29)).drew = w8 := ⟨_, rfl⟩
  rw [hw8] at bO8 bR8 hz hO8 hX8 hF8 ⊢
  rw [hs7] at bO8 hz
  have p0 : w8.cell? ⟨w3.heap.size, 0, none⟩ = some (.slice (some ⟨g, 0, none⟩) l.length cp2) := bO8.cell 0
  have p1 : w8.cell? ⟨w3.heap.size, 1, none⟩ = some (.int .i64 next) := bO8.cell 1
  have q0 : w8.cell? ⟨w.heap.size + 1, 0, none⟩ = some (.slice none 0 0) := bR8.cell 0
  have q1 : w8.cell? ⟨w.heap.size + 1, 1, none⟩ = some (.int .i64 0) := bR8.cell 1
  have qf0 := bR8.frozen 0
  have qf1 := bR8.frozen 1
  have hK := Lib.hid (And.intro hOM (And.intro hO8 (And.intro hX8 (And.intro hF8 (And.intro hz hvi)))))
  clear hOM hown hsb hvi hF3 hO1 hXr bR7 hE8 bO8 bR8 hz hO8 hX8 hF8 hw8 hw7 hs7
  go_wp2
  obtain ⟨hOM, hO8, hX8, hF8, hz, hvi⟩ := hK.out
  have hXr := ((ExtBut.setCell w8 ⟨w.heap.size + 1, 0, none⟩ (.slice (some ⟨g, 0, none⟩) l.length cp2)).mono (S' := fun b => b = w.heap.size + 1) (fun y _ h => h)).trans ((ExtBut.setCell _ ⟨w.heap.size + 1, 1, none⟩ (.int .i64 next)).mono (S' := fun b => b = w.heap.size + 1) (fun y _ h => h))
  refine bodyPost_ret (v := .agg #[.slice (some ⟨g, 0, none⟩) l.length cp2, .int .i64 next]) (by simp [results, Try.f60, go_sem, q0, q1]) rfl ⟨_, rfl, fun w'' h2 => ⟨_, rfl, ?_⟩, ExtBut.ext hF8 hXr (fun y h => by omega)⟩
  refine Als.of_put (S := fun b => (b = g ∨ b = w.heap.size + 1) ∨ b < w.heap.size) hOM hil (ExtBut.own (ExtBut.own hO8 hXr (fun b' e h => by have h' : some g = some b' := e; cases h'; exact hrg h.symm)) h2 (fun b' e h => by have h' : some g = some b' := e; cases h'; omega)) (((hX8.mono (fun y _ h => .inl (.inl h))).trans (hXr.mono (fun y _ h => .inl (.inr h)))).trans (h2.mono (fun _ _ h => .inr h))) (fun j s1 hne hj g' hg' h => ?_) (ExtBut.own (ExtBut.own hz hXr (fun b' e h => by have := (hz.lt e).1; omega)) h2 (fun b' e h => by have := (hz.lt e).1; omega)).sl
  have h1 := OM.inner_lt hOM s1 (List.mem_of_getElem? hj) g' hg'
  simp only [World.size_alloc] at h1
  have h3 := hOM.far s1 (List.mem_of_getElem? hj) g' hg'
  rcases h with (h | h) | h
  · exact h3 (by rw [h]; rfl)
  · omega
  · omega


end Go.Proofs.Ytiikdpfbbcnplaa
