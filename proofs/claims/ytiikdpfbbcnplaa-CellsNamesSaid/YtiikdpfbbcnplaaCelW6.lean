/- Contracts: clone of a memory. -/
import Derived.Test.YtiikdpfbbcnplaaCelW5
namespace Go.Proofs.Ytiikdpfbbcnplaa
set_option maxRecDepth 100000
open Go.RowKit

/-- A slice of cells that the call owns. -/
def OwnC (w : World) (B : Nat) (s : Value) (a : Alloc) : Prop := Own w B 29 5 s a.cells.length (a.cells.flatMap Cell.row)
theorem OwnC.read {w : World} {B : Nat} {s : Value} {a : Alloc} (h : OwnC w B s a) : Cls w s a.cells := Own.sl h
theorem OwnC.keep {w w' : World} {S : Nat → Prop} {B : Nat} {s : Value} {a : Alloc} (h : OwnC w B s a) (hE : ExtBut S w w') (hS : ∀ g, s.ownBlock = some g → ¬ S g) : OwnC w' B s a := ExtBut.own h hE hS
abbrev OM (w : World) (B : Nat) (v : Value) (vs : List Value) (l : List Alloc) : Prop := OTb arow 70 3 OwnC w B v vs l
/-- A memory whose slices the call owns. -/
def RetMem (w : World) (l : List Alloc) (next : Int) (en : Ending) (w' : World) : Prop := ∃ v vs, en = .returned (.agg #[v, .int .i64 next]) ∧ OM w' w.heap.size v vs l ∧ Ext w w'
theorem OM.read {w : World} {B : Nat} {v : Value} {vs : List Value} {l : List Alloc} (h : OM w B v vs l) : Als w v l := ⟨vs, h.inner.mono fun _ _ h => OwnC.read h, h.outer.sl⟩

theorem OwnC.lt {w : World} {B : Nat} {s : Value} {a : Alloc} (h : OwnC w B s a) : ∀ g, s.ownBlock = some g → B ≤ g ∧ g < w.heap.size := fun _ hg => Own.lt h hg
theorem OwnC.mono {w : World} {B B' : Nat} {s : Value} {a : Alloc} (h : OwnC w B s a) (hB : B' ≤ B) : OwnC w B' s a := Own.mono h hB
theorem OwnC.ext {w w' : World} {B : Nat} {s : Value} {a : Alloc} (h : OwnC w B s a) (hE : Ext w w') : OwnC w' B s a := Own.ext h hE
theorem Cls.one' {w : World} {v : Value} {l : List Cell} (h : Cls w v l) : v.oneCell' = true := by
  obtain ⟨a, cap, rfl, _⟩ := h.form
  rfl
theorem All2.oneCells {w : World} {vs : List Value} {l : List Alloc} (hin : All2 (fun s a => Cls w s a.cells) vs l) : ∀ s ∈ vs, s.oneCell' = true := fun s hs => by
  obtain ⟨i, hi⟩ := List.mem_iff_getElem?.1 hs
  obtain ⟨x, _, hc⟩ := hin.get' hi
  exact hc.one'

section
variable {w w' wx : World} {B B' : Nat} {v v' s : Value} {vs : List Value} {l : List Alloc} {a : Alloc} {S : Nat → Prop}
theorem OM.inner_lt (h : OM w B v vs l) : ∀ s ∈ vs, ∀ g, s.ownBlock = some g → B ≤ g ∧ g < w.heap.size := OTb.inner_lt (RO := OwnC) (fun h => OwnC.lt h) h
theorem OM.but (h : OM w B v vs l) (hE : ExtBut S w w') (hv : ∀ g, v.ownBlock = some g → ¬ S g) (hs : ∀ s ∈ vs, ∀ g, s.ownBlock = some g → ¬ S g) : OM w' B v vs l := OTb.but (RO := OwnC) (fun h => OwnC.keep h) h hE hv hs
theorem OM.ext (h : OM w B v vs l) (hE : Ext w w') : OM w' B v vs l := OTb.ext (RO := OwnC) (fun h => OwnC.keep h) h hE
theorem OM.mono (h : OM w B v vs l) (hB : B' ≤ B) : OM w B' v vs l := OTb.mono (RO := OwnC) (fun h => OwnC.mono h) h hB
theorem OM.push (h : OM w B v vs l) (hE : Ext w wx) (hR : OwnC wx B s a) (hs : ∀ g, s.ownBlock = some g → w.heap.size ≤ g) (hO : Own w' B 70 3 v' (l.length + 1) (trows arow vs l ++ arow s a)) (hK : Keeps wx w' B v)
    (hb : v'.ownBlock = v.ownBlock ∨ ∃ g, v'.ownBlock = some g ∧ wx.heap.size ≤ g) : OM w' B v' (vs ++ [s]) (l ++ [a]) := OTb.push (RO := OwnC) (fun h => OwnC.keep h) (fun h => OwnC.lt h) h hE hR hs hO hK hb
end

theorem OM.cell {w : World} {B : Nat} {a : Option Addr} {n cap : Nat} {vs : List Value} {l : List Alloc} (h : OM w B (.slice a n cap) vs l) {i : Nat} {x : Alloc} (hx : l[i]? = some x) :
    ∃ g s, a = some ⟨g, 0, none⟩ ∧ B ≤ g ∧ g < w.heap.size ∧ vs[i]? = some s ∧ OwnC w B s x ∧ (w.cell? ⟨g, i * 3, none⟩ = some (.int .i64 x.num) ∧ w.cell? ⟨g, i * 3 + 1, none⟩ = some (.bool x.live) ∧ w.cell? ⟨g, i * 3 + 2, none⟩ = some s) ∧ (∀ j, w.frozen? ⟨g, j, none⟩ = false) ∧ (∀ b, s.ownBlock = some b → B ≤ b ∧ b < w.heap.size ∧ b ≠ g) := by
  have hi : i < l.length := (List.getElem?_eq_some_iff.1 hx).1
  obtain ⟨s, hs, hc⟩ := h.inner.get hx
  obtain ⟨g, cp, e, hnc, hcm, hg1, hg2⟩ := h.outer.form (by omega)
  simp only [Value.slice.injEq] at e
  obtain ⟨rfl, rfl, rfl⟩ := e
  have t : ∀ j, j < 3 → w.cell? ⟨g, i * 3 + j, none⟩ = (arow s x)[j]? := fun j hj => (h.outer.cellAt (i * 3 + j) (by omega)).trans (trows_get arow arow_len hs hx hj)
  exact ⟨g, s, rfl, hg1, hg2, hs, hc, ⟨t 0 (by omega), t 1 (by omega), t 2 (by omega)⟩, fun j => h.outer.frozen j, fun b e => ⟨(OwnC.lt hc b e).1, (OwnC.lt hc b e).2, fun e2 => h.far s (List.mem_of_getElem? hs) b e (by rw [e2]; rfl)⟩⟩

def small (l : List Alloc) : Prop := l.length ≤ 1000000 ∧ ∀ a ∈ l, a.cells.length ≤ 1000000

set_option maxHeartbeats 1600000 in
theorem allocs_clone {l : List Alloc} {next : Int} {s : Value} {w : World} (hl : Als w s l) (hs : small l) :
    Calls Try.prog 72 #[.agg #[s, .int .i64 next]] w (RetMem w l next) := by
  obtain ⟨vs0, hin, hout⟩ := hl
  have hE0 := ((Ext.refl w).alloc (.cells #[s, .int .i64 next] 24)).alloc (.cells #[.slice none 0 0, .int .i64 0] 24)
  obtain ⟨a, cp, rfl, hlc, hcm, -⟩ := hout.slice_form
  unfold maxLen at hcm
  have h1 : ∀ u ∈ trows arow vs0 l, u.oneCell' = true := arow_one vs0 l fun s hs => by
    obtain ⟨i, hi⟩ := List.mem_iff_getElem?.1 hs
    obtain ⟨x, _, hc⟩ := hin.get' hi
    obtain ⟨a, cap, rfl, _⟩ := hc.form
    rfl
  have hC := Lib.hid (clone_Allocs (hout.ext hE0) h1 hs.1)
  have bM := Lib.hid ((Box.new w 24 #[.slice a l.length cp, .int .i64 next]).ext ((Ext.refl _).alloc (.cells #[.slice none 0 0, .int .i64 0] 24)))
  have bR := Lib.hid (Box.new (w.alloc (.cells #[.slice a l.length cp, .int .i64 next] 24)) 24 #[.slice none 0 0, .int .i64 0])
  rw [World.size_alloc] at bR
  go_enter Try.func72, Try.ntmps72
  go_wp2_with fail
  refine hC.out.mono ?_
  rintro e w2 ⟨v, rfl, hO, hE2⟩
  replace bM := bM.out.ext hE2
  replace bR := bR.out.ext hE2
  have hE2' := hE0.trans hE2
  by_cases hz : l.length = 0
  · have hl0 : l = [] := List.eq_nil_of_length_eq_zero hz
    subst hl0
    have hv0 : vs0 = [] := List.eq_nil_of_length_eq_zero (by simpa using hin.length)
    subst hv0
    have hg : ∀ g, v.ownBlock = some g → w.heap.size + 2 ≤ g := fun g e => by have := (hO.lt e).1; simpa using this
    obtain ⟨a2, cp2, rfl, hlc2, hcm2, -⟩ := hO.sl.slice_form
    have c0 : w2.cell? ⟨w.heap.size, 0, none⟩ = some (.slice a 0 cp) := bM.cell 0
    have f0 := bM.frozen 0
    have c1 : w2.cell? ⟨w.heap.size, 1, none⟩ = some (.int .i64 next) := bM.cell 1
    have r0 : w2.cell? ⟨w.heap.size + 1, 0, none⟩ = some (.slice none 0 0) := bR.cell 0
    have r1 : w2.cell? ⟨w.heap.size + 1, 1, none⟩ = some (.int .i64 0) := bR.cell 1
    have rf0 := bR.frozen 0
    have rf1 := bR.frozen 1
    have hO2 := Lib.hid hO
    have hg2 := Lib.hid hg
    clear hO hg
    go_wp2
    go_loopw [11] (fun iv wr => iv = .int .i64 0 ∧ wr = w2.setCell ⟨w.heap.size, 0, none⟩ (.slice a2 0 cp2)) (fun _ _ => 0)
    case atStart => exact ⟨rfl, rfl⟩
    case round =>
      obtain ⟨rfl, rfl⟩ := hrel
      go_wp2
      have hX := ((ExtBut.setCell w2 ⟨w.heap.size, 0, none⟩ (.slice a2 0 cp2)).mono (S' := fun b => b < w.heap.size + 2 ∧ w.heap.size ≤ b) (fun x _ h => by simp at h; omega)).trans (((ExtBut.setCell (w2.setCell ⟨w.heap.size, 0, none⟩ (.slice a2 0 cp2)) ⟨w.heap.size + 1, 0, none⟩ (.slice a2 0 cp2)).mono (S' := fun b => b < w.heap.size + 2 ∧ w.heap.size ≤ b) (fun x _ h => by simp at h; omega)).trans ((ExtBut.setCell _ ⟨w.heap.size + 1, 1, none⟩ (.int .i64 next)).mono (S' := fun b => b < w.heap.size + 2 ∧ w.heap.size ≤ b) (fun x _ h => by simp at h; omega)))
      refine bodyPost_ret (v := .agg #[.slice a2 0 cp2, .int .i64 next]) (by simp [results, Try.f72, go_sem, r0, r1]) rfl ⟨_, [], rfl, ⟨?_, trivial, fun i j a b _ h => by simp at h, fun s h => by cases h⟩, ExtBut.ext hE2' hX (fun x h => h.2)⟩
      exact ExtBut.own (hO2.out.mono (by simp; omega)) hX (fun g e h => by have := hg2.out g e; omega)
  · obtain ⟨g, cp2, rfl, hlc2, hcm2, hg1, hg2⟩ := hO.form (by omega)
    unfold maxLen at hcm2
    simp only [World.size_alloc] at hg1
    have c0 := bM.cell 0
    have f0 := bM.frozen 0
    have hlen0 : vs0.length = l.length := hin.length
    have hO1 := ExtBut.own (hO.mono (B' := w.heap.size) (by simp; omega)) (ExtBut.setCell w2 ⟨w.heap.size, 0, none⟩ (.slice (some ⟨g, 0, none⟩) l.length cp2)) (fun g' e h => by simp [Value.ownBlock] at e; simp at h; omega)
    have hE1 := ExtBut.ext hE2' (ExtBut.setCell w2 ⟨w.heap.size, 0, none⟩ (.slice (some ⟨g, 0, none⟩) l.length cp2)) (fun x h => by simp at h; omega)
    have bM1 := bM.set 0 (.slice (some ⟨g, 0, none⟩) l.length cp2)
    have bR1 := bR.other (p := ⟨w.heap.size, 0, none⟩) (by simp) (.slice (some ⟨g, 0, none⟩) l.length cp2)
    have hHid := Lib.hid (And.intro hlen0 (And.intro hO1 (And.intro hE1 (And.intro bM1 bR1))))
    clear hlen0 hO1 hE1 bM1 bR1 hO
    go_wp2
    obtain ⟨hlen0, hO1, hE1, bM1, bR1⟩ := hHid.out
    clear hHid
    obtain ⟨w1, hw1⟩ : ∃ w1, w2.setCell ⟨w.heap.size, 0, none⟩ (.slice (some ⟨g, 0, none⟩) l.length cp2) = w1 := ⟨_, rfl⟩
    have hsz : w1.heap.size = w2.heap.size := by rw [← hw1]; simp
    rw [hw1] at hO1 hE1 bM1 bR1 ⊢
    clear hw1
    have hI0 := CInv.start (RO := OwnC) hlen0 hO1 hE1
    have hgl := (hO1.lt rfl).2
    have hH := Lib.hid (And.intro hlen0 (And.intro hI0 (And.intro bM1 bR1)))
    clear hlen0 hO1 hI0 bM1 bR1 c0 f0 bM bR hsz
    go_loopw [11] (fun iv wr => ∃ k : Nat, k ≤ l.length ∧ iv = .int .i64 k ∧ CInv arow 70 3 OwnC w w1 wr g cp2 vs0 l k) (fun iv _ => l.length - (intOf iv).toNat)
    case atStart => exact ⟨0, Nat.zero_le _, rfl, hH.out.2.1⟩
    case round =>
      obtain ⟨k, hk, rfl, hI⟩ := hrel
      have bM := hH.out.2.2.1.but hI.keep (by intro h; omega)
      have bR := hH.out.2.2.2.but hI.keep (by intro h; omega)
      have c0 : wr.cell? ⟨w.heap.size, 0, none⟩ = some (.slice (some ⟨g, 0, none⟩) l.length cp2) := bM.cell 0
      by_cases hlt : k < l.length
      · obtain ⟨x, hx⟩ : ∃ x, l[k]? = some x := ⟨l[k], by simp [hlt]⟩
        obtain ⟨sv, hsv⟩ : ∃ sv, vs0[k]? = some sv := by have := hH.out.1; exact ⟨vs0[k], by simp⟩
        obtain ⟨vs, hvl, hOw, hin1, hap, hold⟩ := hI.vs
        have hvk := (hold k (Nat.le_refl _)).trans hsv
        have d2 : wr.cell? ⟨g, k * 3 + 2, none⟩ = some sv := (hOw.cellAt (k * 3 + 2) (by omega)).trans ((trows_get arow arow_len hvk hx (by omega : 2 < 3)).trans rfl)
        have fr := hOw.frozen (k * 3 + 2)
        have hcl : Cls wr sv x.cells := ((All2.iff.1 hin).2 k sv x hsv hx).ext hI.ext
        have hi0 : (0 : Int) ≤ (k : Int) := by omega
        have hi1 : (k : Int) < (l.length : Int) := by omega
        have hCl := Lib.hid (fun (w' : World) (h : Ext wr w') => clone_Cells (hcl.ext h) (Cell.one x.cells) (hs.2 x (List.mem_of_getElem? hx)))
        have hOw' := Lib.hid hOw
        have hHH := Lib.hid (And.intro hI (And.intro hx (And.intro hsv hin)))
        clear hvl hin1 hOw hap hold hvk hcl hI hx hsv hin hs hout h1
        go_wp2
        go_region_with (first | (go_at_call 31; refine (hCl.out _ ?_).mono ?_; (exact (Ext.refl _).drew); rintro e w4 ⟨sn, rfl, hOn, hEn⟩; obtain ⟨an, cn, rfl, -⟩ := hOn.sl.slice_form; have hO4 := hOw'.out.ext ((Ext.refl wr).drew.trans hEn); have c4 := hEn.cell (show wr.drew.cell? ⟨w.heap.size, 0, none⟩ = some (.slice (some ⟨g, 0, none⟩) l.length cp2) by simpa using c0); have d4 := hEn.cell (show wr.drew.cell? ⟨g, k * 3 + 2, none⟩ = some sv by simpa using d2); have f4 := hO4.frozen (k * 3 + 2)))
        all_goals
          have hEw : Ext wr w4 := (Ext.refl wr).drew.trans hEn
          have hge : w.heap.size ≤ wr.heap.size := hHH.out.1.ext.size
          have hst := Lib.hid (CInv.step (RO := OwnC) (j := 2) arow_len OwnC.keep hHH.out.1 hHH.out.2.1 hHH.out.2.2.1 (by omega) rfl hEw (Own.mono hOn (by simpa using hge)) (fun b e => by have := hOn.lt e; simpa using this))
          clear hO4 hOn
          go_wp2
          go_roundw
          case rel => exact ⟨k + 1, by omega, by go_num, hst.out⟩
          case measure => simp [intOf]; omega
      · have hkl : k = l.length := by omega
        subst hkl
        have c1 : wr.cell? ⟨w.heap.size, 1, none⟩ = some (.int .i64 next) := bM.cell 1
        have r0 : wr.cell? ⟨w.heap.size + 1, 0, none⟩ = some (.slice none 0 0) := bR.cell 0
        have r1 : wr.cell? ⟨w.heap.size + 1, 1, none⟩ = some (.int .i64 0) := bR.cell 1
        have rf0 := bR.frozen 0
        have rf1 := bR.frozen 1
        have hF := Lib.hid (And.intro hI.finish hI.keep.size)
        clear hI
        go_wp2
        obtain ⟨⟨vs, hT, hE, hfar⟩, hsz⟩ := hF.out
        have hsz1 := bR.lt
        have hX := ((ExtBut.setCell wr ⟨w.heap.size + 1, 0, none⟩ (.slice (some ⟨g, 0, none⟩) l.length cp2)).mono (S' := fun b => b = w.heap.size + 1) (fun x _ h => h)).trans ((ExtBut.setCell _ ⟨w.heap.size + 1, 1, none⟩ (.int .i64 next)).mono (S' := fun b => b = w.heap.size + 1) (fun x _ h => h))
        refine bodyPost_ret (v := .agg #[.slice (some ⟨g, 0, none⟩) l.length cp2, .int .i64 next]) (by simp [results, Try.f72, go_sem, r0, r1]) rfl ⟨_, vs, rfl, hT.but OwnC.keep hX (fun g' e h => by simp [Value.ownBlock] at e; omega) (fun s hs b e h => by have := hfar s hs b e; have := hH.out.2.2.2.lt; omega), ExtBut.ext hE hX (fun x h => by omega)⟩

end Go.Proofs.Ytiikdpfbbcnplaa
