/- The statement AllocsOnce: for every memory and steps the call returns true. No condition. -/
import Derived.Test.YtcklnoefheanlaaOth26
import Derived.Test.YtcklnoefheanlaaReadM
import Derived.Test.YtcklnoefheanlaaClose
import Derived.Test.YtcklnoefheanlaaGrdA
import Derived.Test.YtcklnoefheanlaaReadI
namespace Go.Proofs.Ytcklnoefheanlaa
open Go.ChangeShapes Go.WideShapes Go.ChangeAt Go.RowKit

theorem endR_cases1 {m : Mem} (h : m.ok = true) (n : Int) : (∃ i x, m.al[i]? = some x ∧ x.num = n ∧ endR m n = (⟨m.al.set i (ended x), m.next⟩, 0)) ∨ endR m n = (Mem.zero, 6) := by
  cases hat : atNum m.al n with
  | none => exact .inr (endR_none h hat)
  | some i =>
    obtain ⟨hi, hp, _⟩ := List.findIdx?_eq_some_iff_getElem.1 hat
    have hx : m.al[i]? = some m.al[i] := by simp [hi]
    cases hlv : m.al[i].live
    · exact .inr (endR_dead h hat hx hlv)
    · exact .inl ⟨i, m.al[i], hx, by simpa using hp, endR_live h hat hx hlv⟩

theorem okAl_least1 {next least least' : Int} {l : List Alloc} (hle : least' ≤ least) (h : okAl next least l = true) : okAl next least' l = true := by
  cases l with
  | nil => rfl
  | cons a l =>
    simp only [okAl, Bool.and_eq_true, decide_eq_true_eq] at h ⊢
    exact ⟨⟨⟨⟨⟨by omega, h.1.1.1.1.2⟩, h.1.1.1.2⟩, h.1.1.2⟩, h.1.2⟩, h.2⟩
theorem okAl_filter1 {next : Int} : ∀ (l : List Alloc) (least : Int), okAl next least l = true → okAl next least (l.filter (·.live)) = true
  | [], _, _ => rfl
  | a :: l, least, h => by
    have h0 := h
    simp only [okAl, Bool.and_eq_true, decide_eq_true_eq] at h
    have ih := okAl_filter1 l _ h.2
    cases hl : a.live
    · rw [List.filter_cons_of_neg (by simp [hl])]
      exact okAl_least1 (by omega) ih
    · rw [List.filter_cons_of_pos (by simp [hl])]
      simp only [okAl, Bool.and_eq_true, decide_eq_true_eq]
      exact ⟨h.1, ih⟩
theorem ok_filter1 {m : Mem} (h : m.ok = true) : (⟨m.al.filter (·.live), m.next⟩ : Mem).ok = true := by
  unfold Mem.ok okM at h ⊢
  simp only [Bool.and_eq_true, decide_eq_true_eq] at h ⊢
  exact ⟨⟨Nat.le_trans (List.length_filter_le _ _) h.1.1, h.1.2⟩, okAl_filter1 _ _ h.2⟩
/-- s reads as l, whatever becomes of the block B. -/
def FrB (B : Nat) (w : World) (s : Value) (l : List Alloc) : Prop := ∀ w'' : World, ExtBut (fun b => b = B) w w'' → Als w'' s l
theorem FrB.read {B : Nat} {w : World} {s : Value} {l : List Alloc} (h : FrB B w s l) : Als w s l := h w (ExtBut.refl _ _)
theorem FrB.ext {B : Nat} {w w' : World} {s : Value} {l : List Alloc} (h : FrB B w s l) (hE : Ext w w') : FrB B w' s l := fun w'' h2 => h w'' ((ExtBut.of_ext hE).trans h2)
theorem FrB.but {B : Nat} {w w' : World} {s : Value} {l : List Alloc} (h : FrB B w s l) (hE : ExtBut (fun b => b = B) w w') : FrB B w' s l := fun w'' h2 => h w'' (hE.trans h2)
theorem FrB.of_fr {B : Nat} {w w' : World} {s : Value} {m : Mem} (h : FrM w w' (.agg #[s, .int .i64 m.next]) m) (hB : B < w.heap.size) : FrB B w' s m.al := fun w'' h2 => by
  obtain ⟨s', e, hs⟩ := h w'' (h2.mono fun b _ hb => by show b < w.heap.size; have : b = B := hb; omega)
  simp at e
  subst e
  exact hs
theorem FrB.of_als {w w' : World} {s : Value} {l : List Alloc} (h : Als w s l) (hE : Ext w w') : FrB w.heap.size w' s l := fun w'' h2 => h.ext (ExtBut.ext hE h2 fun x hx => by have : x = w.heap.size := hx; omega)
/-- What holds in the loop: the memory at hand lies in its box, and is valid. -/
def OInv (w w' : World) (M : Mem) (s : Value) : Prop := Box w' w.heap.size 31 #[s, .int .i64 M.next] ∧ FrB w.heap.size w' s M.al ∧ M.ok = true ∧ Ext w w'
theorem OInv.ext {w w' w2 : World} {M : Mem} {s : Value} (h : OInv w w' M s) (hE : Ext w' w2) : OInv w w2 M s := ⟨h.1.ext hE, h.2.1.ext hE, h.2.2.1, h.2.2.2.trans hE⟩
theorem OInv.store {w w2 : World} {M M' : Mem} {s s' : Value} (h : OInv w w2 M s) (hf : FrB w.heap.size w2 s' M'.al) (hok : M'.ok = true) :
    OInv w ((w2.setCell ⟨w.heap.size, 0, none⟩ s').setCell ⟨w.heap.size, 1, none⟩ (.int .i64 M'.next)) M' s' := by
  have hX : ExtBut (fun b => b = w.heap.size) w2 ((w2.setCell ⟨w.heap.size, 0, none⟩ s').setCell ⟨w.heap.size, 1, none⟩ (.int .i64 M'.next)) := (ExtBut.setCell w2 ⟨w.heap.size, 0, none⟩ s').trans (ExtBut.setCell _ ⟨w.heap.size, 1, none⟩ _)
  refine ⟨?_, hf.but hX, hok, ExtBut.ext h.2.2.2 hX fun x hx => by have : x = w.heap.size := hx; omega⟩
  simpa using (h.1.set 0 s').set 1 (.int .i64 M'.next)
theorem at_is {l : List Alloc} {next r : Int} {s : Value} {w : World} (n : Int) (h : idxM l n = r) (hl : Als w s l) :
    Calls Try.prog 42 #[.agg #[s, .int .i64 next], .int .i64 n] w fun e w' => e = .returned (.int .i64 r) ∧ Ext w w' := h ▸ ref26_At n hl
theorem idx_old {m : Mem} (h : m.ok = true) : idxM m.al m.next = -1 := idxM_none (by
  unfold atNum
  rw [List.findIdx?_eq_none_iff]
  intro x hx
  obtain ⟨i, hi⟩ := List.mem_iff_getElem?.1 hx
  have := (okAl_at (ok_al h) hi).2
  simp
  omega)
theorem idx_new {m : Mem} {k : Nat} (h : m.ok = true) (hf : ¬ (m.al.length = 400 ∨ m.next = 1000000)) (hk : 1 ≤ k ∧ k ≤ 2) : idxM (m.al ++ [newAlloc m.next k]) m.next = (m.al.length : Int) :=
  idxM_some (atNum_at (x := newAlloc m.next k) (ok_al (ok_push h hf hk)) (i := m.al.length) (by simp))

set_option maxRecDepth 100000 in
set_option maxHeartbeats 6400000 in
theorem allocsOnce_great {m : Mem} {l : List Int} {s v : Value} {w : World} (hl : Als w s m.al) (_ : i64B m.next) (hs : Nts w v l) (hg : greatM m.al = true) :
    Calls Try.prog 8 #[.agg #[s, .int .i64 m.next], v] w fun e w' => e = .returned (.bool true) ∧ Ext w w' := by
  have hF := (Ext.refl w).alloc (.cells #[s, .int .i64 m.next] 31)
  have bM := Box.new w 31 #[s, .int .i64 m.next]
  have hL := hl.ext hF
  obtain ⟨a, cp, rfl, hlc, hcm, -⟩ := hl.form
  obtain ⟨a0, cp0, rfl, hlc0, hcm0, -⟩ := hs.form
  unfold maxLen at hcm hcm0
  have hl := Lib.hid hl
  have hs := Lib.hid hs
  have hg' := Lib.hid hg
  clear hg
  go_enter Try.func8, Try.ntmps8
  have bM_0 : World.cell? (World.alloc w (.cells #[.slice a m.al.length cp, .int .i64 m.next] 31)) ⟨w.heap.size, 0, none⟩ = some (.slice a m.al.length cp) := bM.cell 0
  have bM_1 : World.cell? (World.alloc w (.cells #[.slice a m.al.length cp, .int .i64 m.next] 31)) ⟨w.heap.size, 1, none⟩ = some (.int .i64 m.next) := bM.cell 1
  have bM_l := bM.lt
  go_wp2_with fail
  clear bM_0 bM_1 bM_l
  refine (law26_alive _).mono ?_
  rintro e w1 ⟨rfl, hE0⟩
  replace bM := bM.ext hE0
  replace hL := hL.ext hE0
  have hF0 := Ext.trans (hF) hE0
  have bM_0 : World.cell? w1 ⟨w.heap.size, 0, none⟩ = some (.slice a m.al.length cp) := bM.cell 0
  have bM_1 : World.cell? w1 ⟨w.heap.size, 1, none⟩ = some (.int .i64 m.next) := bM.cell 1
  have bM_l := bM.lt
  go_wp2_with fail
  clear bM_0 bM_1 bM_l
  refine (ref26_Great hL).mono ?_
  rintro e w2 ⟨rfl, hE1⟩
  replace bM := bM.ext hE1
  replace hL := hL.ext hE1
  have hF1 := Ext.trans (hF0) hE1
  rw [hg'.out]
  go_wp2
  go_ret
  exact ⟨rfl, hF1⟩

set_option maxRecDepth 100000 in
set_option maxHeartbeats 6400000 in
theorem allocsOnce_bad {m : Mem} {l : List Int} {s v : Value} {w : World} (hl : Als w s m.al) (hn : i64B m.next) (hs : Nts w v l) (hg : greatM m.al = false) (hok : m.ok = false) :
    Calls Try.prog 8 #[.agg #[s, .int .i64 m.next], v] w fun e w' => e = .returned (.bool true) ∧ Ext w w' := by
  have hF := (Ext.refl w).alloc (.cells #[s, .int .i64 m.next] 31)
  have bM := Box.new w 31 #[s, .int .i64 m.next]
  have hL := hl.ext hF
  obtain ⟨a, cp, rfl, hlc, hcm, -⟩ := hl.form
  obtain ⟨a0, cp0, rfl, hlc0, hcm0, -⟩ := hs.form
  unfold maxLen at hcm hcm0
  have hl := Lib.hid hl
  have hs := Lib.hid hs
  have hg' := Lib.hid hg
  have hme := Lib.hid (memErr_bad hok)
  clear hg hok
  go_enter Try.func8, Try.ntmps8
  have bM_0 : World.cell? (World.alloc w (.cells #[.slice a m.al.length cp, .int .i64 m.next] 31)) ⟨w.heap.size, 0, none⟩ = some (.slice a m.al.length cp) := bM.cell 0
  have bM_1 : World.cell? (World.alloc w (.cells #[.slice a m.al.length cp, .int .i64 m.next] 31)) ⟨w.heap.size, 1, none⟩ = some (.int .i64 m.next) := bM.cell 1
  have bM_l := bM.lt
  go_wp2_with fail
  clear bM_0 bM_1 bM_l
  refine (law26_alive _).mono ?_
  rintro e w1 ⟨rfl, hE0⟩
  replace bM := bM.ext hE0
  replace hL := hL.ext hE0
  have hF0 := Ext.trans (hF) hE0
  have bM_0 : World.cell? w1 ⟨w.heap.size, 0, none⟩ = some (.slice a m.al.length cp) := bM.cell 0
  have bM_1 : World.cell? w1 ⟨w.heap.size, 1, none⟩ = some (.int .i64 m.next) := bM.cell 1
  have bM_l := bM.lt
  go_wp2_with fail
  clear bM_0 bM_1 bM_l
  refine (ref26_Great hL).mono ?_
  rintro e w2 ⟨rfl, hE1⟩
  replace bM := bM.ext hE1
  replace hL := hL.ext hE1
  have hF1 := Ext.trans (hF0) hE1
  rw [hg'.out]
  have bM_0 : World.cell? w2 ⟨w.heap.size, 0, none⟩ = some (.slice a m.al.length cp) := bM.cell 0
  have bM_1 : World.cell? w2 ⟨w.heap.size, 1, none⟩ = some (.int .i64 m.next) := bM.cell 1
  have bM_l := bM.lt
  go_wp2_with fail
  clear bM_0 bM_1 bM_l
  refine (ref26_Check hL hn).mono ?_
  rintro e w3 ⟨rfl, hE2⟩
  replace bM := bM.ext hE2
  replace hL := hL.ext hE2
  have hF2 := Ext.trans (hF1) hE2
  rw [hme.out]
  go_wp2
  go_ret
  exact ⟨rfl, hF2⟩

set_option maxRecDepth 100000 in
set_option maxHeartbeats 6400000 in
theorem allocsOnce_long {m : Mem} {l : List Int} {s v : Value} {w : World} (hl : Als w s m.al) (hn : i64B m.next) (hs : Nts w v l) (hg : greatM m.al = false) (hok : m.ok = true) (hlen : 20 < l.length) :
    Calls Try.prog 8 #[.agg #[s, .int .i64 m.next], v] w fun e w' => e = .returned (.bool true) ∧ Ext w w' := by
  have hF := (Ext.refl w).alloc (.cells #[s, .int .i64 m.next] 31)
  have bM := Box.new w 31 #[s, .int .i64 m.next]
  have hL := hl.ext hF
  obtain ⟨a, cp, rfl, hlc, hcm, -⟩ := hl.form
  obtain ⟨a0, cp0, rfl, hlc0, hcm0, -⟩ := hs.form
  unfold maxLen at hcm hcm0
  have hl := Lib.hid hl
  have hs := Lib.hid hs
  have hg' := Lib.hid hg
  have hme := Lib.hid (memErr_ok hok)
  have q20 : decide ((20 : Int) < (l.length : Int)) = true := decide_eq_true (by omega)
  clear hg hok
  go_enter Try.func8, Try.ntmps8
  have bM_0 : World.cell? (World.alloc w (.cells #[.slice a m.al.length cp, .int .i64 m.next] 31)) ⟨w.heap.size, 0, none⟩ = some (.slice a m.al.length cp) := bM.cell 0
  have bM_1 : World.cell? (World.alloc w (.cells #[.slice a m.al.length cp, .int .i64 m.next] 31)) ⟨w.heap.size, 1, none⟩ = some (.int .i64 m.next) := bM.cell 1
  have bM_l := bM.lt
  go_wp2_with fail
  clear bM_0 bM_1 bM_l
  refine (law26_alive _).mono ?_
  rintro e w1 ⟨rfl, hE0⟩
  replace bM := bM.ext hE0
  replace hL := hL.ext hE0
  have hF0 := Ext.trans (hF) hE0
  have bM_0 : World.cell? w1 ⟨w.heap.size, 0, none⟩ = some (.slice a m.al.length cp) := bM.cell 0
  have bM_1 : World.cell? w1 ⟨w.heap.size, 1, none⟩ = some (.int .i64 m.next) := bM.cell 1
  have bM_l := bM.lt
  go_wp2_with fail
  clear bM_0 bM_1 bM_l
  refine (ref26_Great hL).mono ?_
  rintro e w2 ⟨rfl, hE1⟩
  replace bM := bM.ext hE1
  replace hL := hL.ext hE1
  have hF1 := Ext.trans (hF0) hE1
  rw [hg'.out]
  have bM_0 : World.cell? w2 ⟨w.heap.size, 0, none⟩ = some (.slice a m.al.length cp) := bM.cell 0
  have bM_1 : World.cell? w2 ⟨w.heap.size, 1, none⟩ = some (.int .i64 m.next) := bM.cell 1
  have bM_l := bM.lt
  go_wp2_with fail
  clear bM_0 bM_1 bM_l
  refine (ref26_Check hL hn).mono ?_
  rintro e w3 ⟨rfl, hE2⟩
  replace bM := bM.ext hE2
  replace hL := hL.ext hE2
  have hF2 := Ext.trans (hF1) hE2
  rw [hme.out]
  go_wp2
  go_ret
  exact ⟨rfl, hF2⟩

set_option maxRecDepth 100000 in
set_option maxHeartbeats 6400000 in
theorem allocsOnce_loop {m : Mem} {l : List Int} {s v : Value} {w : World} (hl : Als w s m.al) (hn : i64B m.next) (hs : Nts w v l) (hg : greatM m.al = false) (hok : m.ok = true) (hlen : ¬ 20 < l.length) :
    Calls Try.prog 8 #[.agg #[s, .int .i64 m.next], v] w fun e w' => e = .returned (.bool true) ∧ Ext w w' := by
  have hF := (Ext.refl w).alloc (.cells #[s, .int .i64 m.next] 31)
  have bM := Box.new w 31 #[s, .int .i64 m.next]
  have hL := hl.ext hF
  obtain ⟨a, cp, rfl, hlc, hcm, -⟩ := hl.form
  obtain ⟨a0, cp0, rfl, hlc0, hcm0, -⟩ := hs.form
  unfold maxLen at hcm hcm0
  have hl := Lib.hid hl
  have hs := Lib.hid hs
  have hg' := Lib.hid hg
  have hme := Lib.hid (memErr_ok hok)
  have hok := Lib.hid hok
  have q20 : decide ((20 : Int) < (l.length : Int)) = false := decide_eq_false (by omega)
  clear hg
  go_enter Try.func8, Try.ntmps8
  have bM_0 : World.cell? (World.alloc w (.cells #[.slice a m.al.length cp, .int .i64 m.next] 31)) ⟨w.heap.size, 0, none⟩ = some (.slice a m.al.length cp) := bM.cell 0
  have bM_1 : World.cell? (World.alloc w (.cells #[.slice a m.al.length cp, .int .i64 m.next] 31)) ⟨w.heap.size, 1, none⟩ = some (.int .i64 m.next) := bM.cell 1
  have bM_l := bM.lt
  go_wp2_with fail
  clear bM_0 bM_1 bM_l
  refine (law26_alive _).mono ?_
  rintro e w1 ⟨rfl, hE0⟩
  replace bM := bM.ext hE0
  replace hL := hL.ext hE0
  have hF0 := Ext.trans (hF) hE0
  have bM_0 : World.cell? w1 ⟨w.heap.size, 0, none⟩ = some (.slice a m.al.length cp) := bM.cell 0
  have bM_1 : World.cell? w1 ⟨w.heap.size, 1, none⟩ = some (.int .i64 m.next) := bM.cell 1
  have bM_l := bM.lt
  go_wp2_with fail
  clear bM_0 bM_1 bM_l
  refine (ref26_Great hL).mono ?_
  rintro e w2 ⟨rfl, hE1⟩
  replace bM := bM.ext hE1
  replace hL := hL.ext hE1
  have hF1 := Ext.trans (hF0) hE1
  rw [hg'.out]
  have bM_0 : World.cell? w2 ⟨w.heap.size, 0, none⟩ = some (.slice a m.al.length cp) := bM.cell 0
  have bM_1 : World.cell? w2 ⟨w.heap.size, 1, none⟩ = some (.int .i64 m.next) := bM.cell 1
  have bM_l := bM.lt
  go_wp2_with fail
  clear bM_0 bM_1 bM_l
  refine (ref26_Check hL hn).mono ?_
  rintro e w3 ⟨rfl, hE2⟩
  replace bM := bM.ext hE2
  replace hL := hL.ext hE2
  have hF2 := Ext.trans (hF1) hE2
  rw [hme.out]
  have bM_0 : World.cell? w3 ⟨w.heap.size, 0, none⟩ = some (.slice a m.al.length cp) := bM.cell 0
  have bM_1 : World.cell? w3 ⟨w.heap.size, 1, none⟩ = some (.int .i64 m.next) := bM.cell 1
  have bM_l := bM.lt
  go_wp2
  clear bM_0 bM_1 bM_l
  have hI0 : Hid (OInv w w3 m (.slice a m.al.length cp)) := Hid.mk ⟨bM, FrB.of_als hl.out hF2, hok.out, hF2⟩
  clear bM hL
  go_loopw [6, 7] (fun lv iv wr => ∃ (k : Nat) (M : Mem) (s : Value), k ≤ l.length ∧ iv = .int .i64 k ∧ lv = .int .i64 (M.next - 1) ∧ Hid (OInv w wr M s)) (fun _ iv _ => l.length - (intOf iv).toNat)
  case atStart => exact ⟨0, m, _, Nat.zero_le _, rfl, (by obtain ⟨_, hb2, hb3⟩ := ok_bounds hok.out; refine congrArg (Value.int .i64) ?_; unfold wrap64; omega), hI0⟩
  case round =>
    obtain ⟨k, M, s, hk, rfl, rfl, hO0⟩ := hrel
    have hO := hO0.out
    clear hO0
    have bM := hO.1
    have bM0l := bM.lt
    have hL := hO.2.1.read
    obtain ⟨a, cp, rfl, hlc, hcm, -⟩ := hL.form
    unfold maxLen at hcm
    obtain ⟨hb1, hb2, hb3⟩ := ok_bounds hO.2.2.1
    have hn : i64B M.next := by unfold i64B; omega
    by_cases hlt : k < l.length
    · obtain ⟨x, hx⟩ : ∃ x, l[k]? = some x := ⟨l[k], by simp [hlt]⟩
      obtain ⟨b, off, rfl, _, c0⟩ := (hs.out.ext hO.2.2.2).cell hx
      have hi0 : (0 : Int) ≤ (k : Int) := by omega
      have hi1 : (k : Int) < (l.length : Int) := by omega
      clear hx
      by_cases h0 : x = 0
      · subst h0
        by_cases hf : M.al.length = 400 ∨ M.next = 1000000
        · have ha := Lib.hid (addR_full (size := 1) hO.2.2.1 (by omega) hf)
          have q3 : ((M.al.length : Int) == 400) = true ∨ ((M.al.length : Int) == 400) = false ∧ (M.next == 1000000) = true := by
            by_cases h4 : M.al.length = 400
            · exact .inl (beq_iff_eq.2 (by omega))
            · exact .inr ⟨beq_eq_false_iff_ne.2 (by omega), beq_iff_eq.2 (by omega)⟩
          clear hf
          rcases q3 with q3 | ⟨q3, q4⟩
          all_goals
            have bM_0 : World.cell? wr ⟨w.heap.size, 0, none⟩ = some (.slice a M.al.length cp) := bM.cell 0
            have bM_1 : World.cell? wr ⟨w.heap.size, 1, none⟩ = some (.int .i64 M.next) := bM.cell 1
            have bM_l := bM.lt
            go_wp2_with fail
            clear bM_0 bM_1 bM_l
            refine (allocs_Add 1 hL hn).mono ?_
            rintro e w1 ⟨qx, rfl, fx, hE0⟩
            replace bM := bM.ext hE0
            replace hL := hL.ext hE0
            replace hO := hO.ext hE0
            have hF0 := Ext.trans ((Ext.refl _)) hE0
            rw [ha.out] at fx
            rw [ha.out]
            obtain ⟨qx', rfl, zx⟩ := fx.read
            obtain ⟨sx, cx, rfl, -⟩ := zx.form1 0 rfl
            clear fx zx
            dsimp only [Mem.zero]
            replace hO := Lib.hid hO
            have bM_0 : World.cell? w1 ⟨w.heap.size, 0, none⟩ = some (.slice a M.al.length cp) := bM.cell 0
            have bM_1 : World.cell? w1 ⟨w.heap.size, 1, none⟩ = some (.int .i64 M.next) := bM.cell 1
            have bM_l := bM.lt
            go_wp2
            go_ret
            exact ⟨rfl, hO.out.2.2.2.alloc _⟩
        · have ha0 : addR M 1 = (⟨M.al ++ [newAlloc M.next 1], M.next + 1⟩, M.next, 0) := addR_yes hO.2.2.1 (by omega) hf
          have hok2 := ok_push (k := 1) hO.2.2.1 hf (by omega)
          have hix1 := Lib.hid (idx_old hO.2.2.1)
          have hix2 := idx_new (k := 1) hO.2.2.1 hf (by omega)
          obtain ⟨NL, hNL⟩ : ∃ L, M.al ++ [newAlloc M.next 1] = L := ⟨_, rfl⟩
          obtain ⟨NX, hNX⟩ : ∃ x, M.next + 1 = x := ⟨_, rfl⟩
          rw [hNL] at ha0 hok2 hix2
          rw [hNX] at ha0 hok2
          have hnx : i64B NX := by unfold i64B; omega
          have hlast : Hid (M.next = NX - 1) := Hid.mk (by omega)
          have ha := Lib.hid ha0; have hok2 := Lib.hid hok2; have hix2 := Lib.hid hix2
          have hme2 := Lib.hid (memErr_ok hok2.out)
          have qn : decide (M.next ≤ M.next - 1) = false := decide_eq_false (by omega)
          clear ha0 hNL hNX hf
          have bM_0 : World.cell? wr ⟨w.heap.size, 0, none⟩ = some (.slice a M.al.length cp) := bM.cell 0
          have bM_1 : World.cell? wr ⟨w.heap.size, 1, none⟩ = some (.int .i64 M.next) := bM.cell 1
          have bM_l := bM.lt
          go_wp2_with fail
          clear bM_0 bM_1 bM_l
          refine (allocs_Add 1 hL hn).mono ?_
          rintro e w1 ⟨qa, rfl, fa, hE0⟩
          replace bM := bM.ext hE0
          replace hL := hL.ext hE0
          replace hO := hO.ext hE0
          have hF0 := Ext.trans ((Ext.refl _)) hE0
          rw [ha.out] at fa
          rw [ha.out]
          obtain ⟨qa', rfl, hAa⟩ := fa.read
          obtain ⟨sa, ca, rfl, -⟩ := hAa.form
          dsimp only
          have hAf := FrB.of_fr fa bM0l
          clear fa
          have bM_0 : World.cell? w1 ⟨w.heap.size, 0, none⟩ = some (.slice a M.al.length cp) := bM.cell 0
          have bM_1 : World.cell? w1 ⟨w.heap.size, 1, none⟩ = some (.int .i64 M.next) := bM.cell 1
          have bM_l := bM.lt
          go_wp2
          clear bM_0 bM_1 bM_l
          have bA := Box.new w1 31 #[.slice sa NL.length ca, .int .i64 NX]
          have hx1 : Ext w1 (World.alloc w1 (.cells #[.slice sa NL.length ca, .int .i64 NX] 31)) := (Ext.refl _).alloc _
          obtain ⟨w1b, hw1⟩ : ∃ x, World.alloc w1 (.cells #[.slice sa NL.length ca, .int .i64 NX] 31) = x := ⟨_, rfl⟩
          rw [hw1] at bA hx1 ⊢
          clear hw1
          replace bM := bM.ext hx1
          replace hL := hL.ext hx1
          replace hO := hO.ext hx1
          replace hAa := hAa.ext hx1
          replace hAf := hAf.ext hx1
          have hF1 := Ext.trans (hF0) hx1
          have bM_0 : World.cell? w1b ⟨w.heap.size, 0, none⟩ = some (.slice a M.al.length cp) := bM.cell 0
          have bM_1 : World.cell? w1b ⟨w.heap.size, 1, none⟩ = some (.int .i64 M.next) := bM.cell 1
          have bM_l := bM.lt
          have bA_0 : World.cell? w1b ⟨w1.heap.size, 0, none⟩ = some (.slice sa NL.length ca) := bA.cell 0
          have bA_1 : World.cell? w1b ⟨w1.heap.size, 1, none⟩ = some (.int .i64 NX) := bA.cell 1
          have bA_l := bA.lt
          have hSk : ∀ w' w'' : World, (w'.cell? ⟨w.heap.size, 0, none⟩ = some (.slice a M.al.length cp) ∧ w'.cell? ⟨w.heap.size, 1, none⟩ = some (.int .i64 M.next) ∧ w'.cell? ⟨w1.heap.size, 0, none⟩ = some (.slice sa NL.length ca) ∧ w'.cell? ⟨w1.heap.size, 1, none⟩ = some (.int .i64 NX) ∧ Ext w1b w') → Ext w' w'' → (w''.cell? ⟨w.heap.size, 0, none⟩ = some (.slice a M.al.length cp) ∧ w''.cell? ⟨w.heap.size, 1, none⟩ = some (.int .i64 M.next) ∧ w''.cell? ⟨w1.heap.size, 0, none⟩ = some (.slice sa NL.length ca) ∧ w''.cell? ⟨w1.heap.size, 1, none⟩ = some (.int .i64 NX) ∧ Ext w1b w'') := by
            rintro w' w'' ⟨k0, k1, k2, k3, kE⟩ h
            exact ⟨h.cell k0, h.cell k1, h.cell k2, h.cell k3, Ext.trans kE h⟩
          go_region_held3 (fun w' => (w'.cell? ⟨w.heap.size, 0, none⟩ = some (.slice a M.al.length cp) ∧ w'.cell? ⟨w.heap.size, 1, none⟩ = some (.int .i64 M.next) ∧ w'.cell? ⟨w1.heap.size, 0, none⟩ = some (.slice sa NL.length ca) ∧ w'.cell? ⟨w1.heap.size, 1, none⟩ = some (.int .i64 NX) ∧ Ext w1b w')) (first | assumption | exact ⟨bM_0, bM_1, bA_0, bA_1, (Ext.refl _).drew⟩ | (refine hSk _ _ (by assumption) ?_; first | assumption | exact (Ext.refl _).alloc _ | exact ((Ext.refl _).alloc _).drew)) (first | (go_at_call 42; (with_reducible refine (at_is M.next hix1.out (Als.ext hL ?_)).mono ?_); (exact And.right (And.right (And.right (And.right (by assumption))))); rintro e wr0 ⟨rfl, hR0⟩) | (go_at_call 42; (with_reducible refine (at_is M.next hix2.out (Als.ext hAa ?_)).mono ?_); (exact And.right (And.right (And.right (And.right (by assumption))))); rintro e wr1 ⟨rfl, hR1⟩))
          have hRR : Ext w1b wr1 := And.right (And.right (And.right (And.right ((by assumption : (World.cell? wr1 ⟨w.heap.size, 0, none⟩ = some (.slice a M.al.length cp) ∧ World.cell? wr1 ⟨w.heap.size, 1, none⟩ = some (.int .i64 M.next) ∧ World.cell? wr1 ⟨w1.heap.size, 0, none⟩ = some (.slice sa NL.length ca) ∧ World.cell? wr1 ⟨w1.heap.size, 1, none⟩ = some (.int .i64 NX) ∧ Ext w1b wr1))))))
          replace bM := bM.ext hRR
          replace hL := hL.ext hRR
          replace hO := hO.ext hRR
          replace hAa := hAa.ext hRR
          replace hAf := hAf.ext hRR
          replace bA := bA.ext hRR
          have hF2 := Ext.trans (hF1) hRR
          clear bM_0 bM_1 bM_l
          clear bA_0 bA_1 bA_l
          have fz0 := bM.frozen 0
          have fz1 := bM.frozen 1
          have bM_0 : World.cell? wr1 ⟨w.heap.size, 0, none⟩ = some (.slice a M.al.length cp) := bM.cell 0
          have bM_1 : World.cell? wr1 ⟨w.heap.size, 1, none⟩ = some (.int .i64 M.next) := bM.cell 1
          have bM_l := bM.lt
          have bA_0 : World.cell? wr1 ⟨w1.heap.size, 0, none⟩ = some (.slice sa NL.length ca) := bA.cell 0
          have bA_1 : World.cell? wr1 ⟨w1.heap.size, 1, none⟩ = some (.int .i64 NX) := bA.cell 1
          have bA_l := bA.lt
          go_wp2_with fail
          clear bM_0 bM_1 bM_l
          clear bA_0 bA_1 bA_l
          have hO2 := OInv.store (M' := ⟨NL, NX⟩) hO (hAf) hok2.out
          refine (allocs_Check hO2.2.1.read hnx).mono ?_
          rintro e w90 ⟨rfl, hE90⟩
          rw [hme2.out]
          replace hO2 := hO2.ext hE90
          have bZ := hO2.1
          have bZ_0 := bZ.cell 0
          have bZ_1 := bZ.cell 1
          have bZ_l := bZ.lt
          simp only [List.getElem?_toArray, List.getElem?_cons_zero, List.getElem?_cons_succ] at bZ_0 bZ_1
          clear fz0 fz1
          go_wp2_with fail
          refine (ref26_Check hO2.2.1.read hnx).mono ?_
          rintro e w91 ⟨rfl, hE91⟩
          rw [hme2.out]
          replace hO2 := Lib.hid (hO2.ext hE91)
          clear bZ bZ_0 bZ_1 bZ_l bM hL hO
          go_wp2
          go_roundw
          case rel => exact ⟨k + 1, _, _, by omega, by go_num, (by rw [hlast.out]), hO2⟩
          case measure => simp [intOf]; omega
      · by_cases h1 : x = 1
        · subst h1
          by_cases hf : M.al.length = 400 ∨ M.next = 1000000
          · have ha := Lib.hid (addR_full (size := 2) hO.2.2.1 (by omega) hf)
            have q3 : ((M.al.length : Int) == 400) = true ∨ ((M.al.length : Int) == 400) = false ∧ (M.next == 1000000) = true := by
              by_cases h4 : M.al.length = 400
              · exact .inl (beq_iff_eq.2 (by omega))
              · exact .inr ⟨beq_eq_false_iff_ne.2 (by omega), beq_iff_eq.2 (by omega)⟩
            clear hf
            rcases q3 with q3 | ⟨q3, q4⟩
            all_goals
              have bM_0 : World.cell? wr ⟨w.heap.size, 0, none⟩ = some (.slice a M.al.length cp) := bM.cell 0
              have bM_1 : World.cell? wr ⟨w.heap.size, 1, none⟩ = some (.int .i64 M.next) := bM.cell 1
              have bM_l := bM.lt
              go_wp2_with fail
              clear bM_0 bM_1 bM_l
              refine (allocs_Add 2 hL hn).mono ?_
              rintro e w1 ⟨qx, rfl, fx, hE0⟩
              replace bM := bM.ext hE0
              replace hL := hL.ext hE0
              replace hO := hO.ext hE0
              have hF0 := Ext.trans ((Ext.refl _)) hE0
              rw [ha.out] at fx
              rw [ha.out]
              obtain ⟨qx', rfl, zx⟩ := fx.read
              obtain ⟨sx, cx, rfl, -⟩ := zx.form1 0 rfl
              clear fx zx
              dsimp only [Mem.zero]
              replace hO := Lib.hid hO
              have bM_0 : World.cell? w1 ⟨w.heap.size, 0, none⟩ = some (.slice a M.al.length cp) := bM.cell 0
              have bM_1 : World.cell? w1 ⟨w.heap.size, 1, none⟩ = some (.int .i64 M.next) := bM.cell 1
              have bM_l := bM.lt
              go_wp2
              go_ret
              exact ⟨rfl, hO.out.2.2.2.alloc _⟩
          · have ha0 : addR M 2 = (⟨M.al ++ [newAlloc M.next 2], M.next + 1⟩, M.next, 0) := addR_yes hO.2.2.1 (by omega) hf
            have hok2 := ok_push (k := 2) hO.2.2.1 hf (by omega)
            have hix1 := Lib.hid (idx_old hO.2.2.1)
            have hix2 := idx_new (k := 2) hO.2.2.1 hf (by omega)
            obtain ⟨NL, hNL⟩ : ∃ L, M.al ++ [newAlloc M.next 2] = L := ⟨_, rfl⟩
            obtain ⟨NX, hNX⟩ : ∃ x, M.next + 1 = x := ⟨_, rfl⟩
            rw [hNL] at ha0 hok2 hix2
            rw [hNX] at ha0 hok2
            have hnx : i64B NX := by unfold i64B; omega
            have hlast : Hid (M.next = NX - 1) := Hid.mk (by omega)
            have ha := Lib.hid ha0; have hok2 := Lib.hid hok2; have hix2 := Lib.hid hix2
            have hme2 := Lib.hid (memErr_ok hok2.out)
            have qn : decide (M.next ≤ M.next - 1) = false := decide_eq_false (by omega)
            clear ha0 hNL hNX hf
            have bM_0 : World.cell? wr ⟨w.heap.size, 0, none⟩ = some (.slice a M.al.length cp) := bM.cell 0
            have bM_1 : World.cell? wr ⟨w.heap.size, 1, none⟩ = some (.int .i64 M.next) := bM.cell 1
            have bM_l := bM.lt
            go_wp2_with fail
            clear bM_0 bM_1 bM_l
            refine (allocs_Add 2 hL hn).mono ?_
            rintro e w1 ⟨qa, rfl, fa, hE0⟩
            replace bM := bM.ext hE0
            replace hL := hL.ext hE0
            replace hO := hO.ext hE0
            have hF0 := Ext.trans ((Ext.refl _)) hE0
            rw [ha.out] at fa
            rw [ha.out]
            obtain ⟨qa', rfl, hAa⟩ := fa.read
            obtain ⟨sa, ca, rfl, -⟩ := hAa.form
            dsimp only
            have hAf := FrB.of_fr fa bM0l
            clear fa
            have bM_0 : World.cell? w1 ⟨w.heap.size, 0, none⟩ = some (.slice a M.al.length cp) := bM.cell 0
            have bM_1 : World.cell? w1 ⟨w.heap.size, 1, none⟩ = some (.int .i64 M.next) := bM.cell 1
            have bM_l := bM.lt
            go_wp2
            clear bM_0 bM_1 bM_l
            have bA := Box.new w1 31 #[.slice sa NL.length ca, .int .i64 NX]
            have hx1 : Ext w1 (World.alloc w1 (.cells #[.slice sa NL.length ca, .int .i64 NX] 31)) := (Ext.refl _).alloc _
            obtain ⟨w1b, hw1⟩ : ∃ x, World.alloc w1 (.cells #[.slice sa NL.length ca, .int .i64 NX] 31) = x := ⟨_, rfl⟩
            rw [hw1] at bA hx1 ⊢
            clear hw1
            replace bM := bM.ext hx1
            replace hL := hL.ext hx1
            replace hO := hO.ext hx1
            replace hAa := hAa.ext hx1
            replace hAf := hAf.ext hx1
            have hF1 := Ext.trans (hF0) hx1
            have bM_0 : World.cell? w1b ⟨w.heap.size, 0, none⟩ = some (.slice a M.al.length cp) := bM.cell 0
            have bM_1 : World.cell? w1b ⟨w.heap.size, 1, none⟩ = some (.int .i64 M.next) := bM.cell 1
            have bM_l := bM.lt
            have bA_0 : World.cell? w1b ⟨w1.heap.size, 0, none⟩ = some (.slice sa NL.length ca) := bA.cell 0
            have bA_1 : World.cell? w1b ⟨w1.heap.size, 1, none⟩ = some (.int .i64 NX) := bA.cell 1
            have bA_l := bA.lt
            have hSk : ∀ w' w'' : World, (w'.cell? ⟨w.heap.size, 0, none⟩ = some (.slice a M.al.length cp) ∧ w'.cell? ⟨w.heap.size, 1, none⟩ = some (.int .i64 M.next) ∧ w'.cell? ⟨w1.heap.size, 0, none⟩ = some (.slice sa NL.length ca) ∧ w'.cell? ⟨w1.heap.size, 1, none⟩ = some (.int .i64 NX) ∧ Ext w1b w') → Ext w' w'' → (w''.cell? ⟨w.heap.size, 0, none⟩ = some (.slice a M.al.length cp) ∧ w''.cell? ⟨w.heap.size, 1, none⟩ = some (.int .i64 M.next) ∧ w''.cell? ⟨w1.heap.size, 0, none⟩ = some (.slice sa NL.length ca) ∧ w''.cell? ⟨w1.heap.size, 1, none⟩ = some (.int .i64 NX) ∧ Ext w1b w'') := by
              rintro w' w'' ⟨k0, k1, k2, k3, kE⟩ h
              exact ⟨h.cell k0, h.cell k1, h.cell k2, h.cell k3, Ext.trans kE h⟩
            go_region_held3 (fun w' => (w'.cell? ⟨w.heap.size, 0, none⟩ = some (.slice a M.al.length cp) ∧ w'.cell? ⟨w.heap.size, 1, none⟩ = some (.int .i64 M.next) ∧ w'.cell? ⟨w1.heap.size, 0, none⟩ = some (.slice sa NL.length ca) ∧ w'.cell? ⟨w1.heap.size, 1, none⟩ = some (.int .i64 NX) ∧ Ext w1b w')) (first | assumption | exact ⟨bM_0, bM_1, bA_0, bA_1, (Ext.refl _).drew⟩ | (refine hSk _ _ (by assumption) ?_; first | assumption | exact (Ext.refl _).alloc _ | exact ((Ext.refl _).alloc _).drew)) (first | (go_at_call 42; (with_reducible refine (at_is M.next hix1.out (Als.ext hL ?_)).mono ?_); (exact And.right (And.right (And.right (And.right (by assumption))))); rintro e wr0 ⟨rfl, hR0⟩) | (go_at_call 42; (with_reducible refine (at_is M.next hix2.out (Als.ext hAa ?_)).mono ?_); (exact And.right (And.right (And.right (And.right (by assumption))))); rintro e wr1 ⟨rfl, hR1⟩))
            have hRR : Ext w1b wr1 := And.right (And.right (And.right (And.right ((by assumption : (World.cell? wr1 ⟨w.heap.size, 0, none⟩ = some (.slice a M.al.length cp) ∧ World.cell? wr1 ⟨w.heap.size, 1, none⟩ = some (.int .i64 M.next) ∧ World.cell? wr1 ⟨w1.heap.size, 0, none⟩ = some (.slice sa NL.length ca) ∧ World.cell? wr1 ⟨w1.heap.size, 1, none⟩ = some (.int .i64 NX) ∧ Ext w1b wr1))))))
            replace bM := bM.ext hRR
            replace hL := hL.ext hRR
            replace hO := hO.ext hRR
            replace hAa := hAa.ext hRR
            replace hAf := hAf.ext hRR
            replace bA := bA.ext hRR
            have hF2 := Ext.trans (hF1) hRR
            clear bM_0 bM_1 bM_l
            clear bA_0 bA_1 bA_l
            have fz0 := bM.frozen 0
            have fz1 := bM.frozen 1
            have bM_0 : World.cell? wr1 ⟨w.heap.size, 0, none⟩ = some (.slice a M.al.length cp) := bM.cell 0
            have bM_1 : World.cell? wr1 ⟨w.heap.size, 1, none⟩ = some (.int .i64 M.next) := bM.cell 1
            have bM_l := bM.lt
            have bA_0 : World.cell? wr1 ⟨w1.heap.size, 0, none⟩ = some (.slice sa NL.length ca) := bA.cell 0
            have bA_1 : World.cell? wr1 ⟨w1.heap.size, 1, none⟩ = some (.int .i64 NX) := bA.cell 1
            have bA_l := bA.lt
            go_wp2_with fail
            clear bM_0 bM_1 bM_l
            clear bA_0 bA_1 bA_l
            have hO2 := OInv.store (M' := ⟨NL, NX⟩) hO (hAf) hok2.out
            refine (allocs_Check hO2.2.1.read hnx).mono ?_
            rintro e w90 ⟨rfl, hE90⟩
            rw [hme2.out]
            replace hO2 := hO2.ext hE90
            have bZ := hO2.1
            have bZ_0 := bZ.cell 0
            have bZ_1 := bZ.cell 1
            have bZ_l := bZ.lt
            simp only [List.getElem?_toArray, List.getElem?_cons_zero, List.getElem?_cons_succ] at bZ_0 bZ_1
            clear fz0 fz1
            go_wp2_with fail
            refine (ref26_Check hO2.2.1.read hnx).mono ?_
            rintro e w91 ⟨rfl, hE91⟩
            rw [hme2.out]
            replace hO2 := Lib.hid (hO2.ext hE91)
            clear bZ bZ_0 bZ_1 bZ_l bM hL hO
            go_wp2
            go_roundw
            case rel => exact ⟨k + 1, _, _, by omega, by go_num, (by rw [hlast.out]), hO2⟩
            case measure => simp [intOf]; omega
        · have q0 : (x == 0) = false := beq_eq_false_iff_ne.2 h0
          have q1 : (x == 1) = false := beq_eq_false_iff_ne.2 h1
          by_cases h2 : x = 2
          · subst h2
            have ha0 := forgetR_ok hO.2.2.1
            have hok2 := ok_filter1 hO.2.2.1
            obtain ⟨FL, hFL⟩ : ∃ L, M.al.filter (·.live) = L := ⟨_, rfl⟩
            rw [hFL] at ha0 hok2
            have ha := Lib.hid ha0; have hok2 := Lib.hid hok2
            have hme2 := Lib.hid (memErr_ok hok2.out)
            clear ha0 hFL
            have bM_0 : World.cell? wr ⟨w.heap.size, 0, none⟩ = some (.slice a M.al.length cp) := bM.cell 0
            have bM_1 : World.cell? wr ⟨w.heap.size, 1, none⟩ = some (.int .i64 M.next) := bM.cell 1
            have bM_l := bM.lt
            go_wp2_with fail
            clear bM_0 bM_1 bM_l
            refine (allocs_Forget hL hn).mono ?_
            rintro e w1 ⟨qa, rfl, fa, hE0⟩
            replace bM := bM.ext hE0
            replace hL := hL.ext hE0
            replace hO := hO.ext hE0
            have hF0 := Ext.trans ((Ext.refl _)) hE0
            rw [ha.out] at fa
            rw [ha.out]
            obtain ⟨qa', rfl, hAa⟩ := fa.read
            obtain ⟨sa, ca, rfl, -⟩ := hAa.form
            dsimp only
            have hAf := FrB.of_fr fa bM0l
            clear fa hAa
            have bM_0 : World.cell? w1 ⟨w.heap.size, 0, none⟩ = some (.slice a M.al.length cp) := bM.cell 0
            have bM_1 : World.cell? w1 ⟨w.heap.size, 1, none⟩ = some (.int .i64 M.next) := bM.cell 1
            have bM_l := bM.lt
            clear bM_0 bM_1 bM_l
            have fz0 := bM.frozen 0
            have fz1 := bM.frozen 1
            have bM_0 : World.cell? w1 ⟨w.heap.size, 0, none⟩ = some (.slice a M.al.length cp) := bM.cell 0
            have bM_1 : World.cell? w1 ⟨w.heap.size, 1, none⟩ = some (.int .i64 M.next) := bM.cell 1
            have bM_l := bM.lt
            go_wp2_with fail
            clear bM_0 bM_1 bM_l
            have hO2 := (OInv.store (M' := ⟨FL, M.next⟩) hO hAf hok2.out).ext ((Ext.refl _).alloc (.cells #[.slice sa FL.length ca, .int .i64 M.next] 31))
            refine (allocs_Check hO2.2.1.read hn).mono ?_
            rintro e w90 ⟨rfl, hE90⟩
            rw [hme2.out]
            replace hO2 := hO2.ext hE90
            have bZ := hO2.1
            have bZ_0 := bZ.cell 0
            have bZ_1 := bZ.cell 1
            have bZ_l := bZ.lt
            simp only [List.getElem?_toArray, List.getElem?_cons_zero, List.getElem?_cons_succ] at bZ_0 bZ_1
            clear fz0 fz1
            go_wp2_with fail
            refine (ref26_Check hO2.2.1.read hn).mono ?_
            rintro e w91 ⟨rfl, hE91⟩
            rw [hme2.out]
            replace hO2 := Lib.hid (hO2.ext hE91)
            clear bZ bZ_0 bZ_1 bZ_l bM hL hO
            go_wp2
            go_roundw
            case rel => exact ⟨k + 1, ⟨FL, M.next⟩, _, by omega, by go_num, rfl, hO2⟩
            case measure => simp [intOf]; omega
          · have q2 : (x == 2) = false := beq_eq_false_iff_ne.2 h2
            clear h0 h1 h2
            rcases endR_cases1 hO.2.2.1 x with ⟨i, y, hy, hyn, he0⟩ | he0
            · have hok2 := ok_ended hO.2.2.1 hy
              obtain ⟨XL, hXL⟩ : ∃ L, M.al.set i (ended y) = L := ⟨_, rfl⟩
              rw [hXL] at he0 hok2
              have he := Lib.hid he0
              have hok2 := Lib.hid hok2
              have hme2 := Lib.hid (memErr_ok hok2.out)
              clear he0 hXL hy hyn
              have bM_0 : World.cell? wr ⟨w.heap.size, 0, none⟩ = some (.slice a M.al.length cp) := bM.cell 0
              have bM_1 : World.cell? wr ⟨w.heap.size, 1, none⟩ = some (.int .i64 M.next) := bM.cell 1
              have bM_l := bM.lt
              go_wp2_with fail
              clear bM_0 bM_1 bM_l
              refine (allocs_End x hL hn).mono ?_
              rintro e w1 ⟨qa, rfl, fa, hE0⟩
              replace bM := bM.ext hE0
              replace hL := hL.ext hE0
              replace hO := hO.ext hE0
              have hF0 := Ext.trans ((Ext.refl _)) hE0
              rw [he.out] at fa
              rw [he.out]
              obtain ⟨qa', rfl, hAa⟩ := fa.read
              obtain ⟨sa, ca, rfl, -⟩ := hAa.form
              dsimp only
              have hAf := FrB.of_fr fa bM0l
              clear fa hAa
              have bM_0 : World.cell? w1 ⟨w.heap.size, 0, none⟩ = some (.slice a M.al.length cp) := bM.cell 0
              have bM_1 : World.cell? w1 ⟨w.heap.size, 1, none⟩ = some (.int .i64 M.next) := bM.cell 1
              have bM_l := bM.lt
              clear bM_0 bM_1 bM_l
              have fz0 := bM.frozen 0
              have fz1 := bM.frozen 1
              have bM_0 : World.cell? w1 ⟨w.heap.size, 0, none⟩ = some (.slice a M.al.length cp) := bM.cell 0
              have bM_1 : World.cell? w1 ⟨w.heap.size, 1, none⟩ = some (.int .i64 M.next) := bM.cell 1
              have bM_l := bM.lt
              go_wp2_with fail
              clear bM_0 bM_1 bM_l
              have hO2 := (OInv.store (M' := ⟨XL, M.next⟩) hO hAf hok2.out).ext ((Ext.refl _).alloc (.cells #[.slice sa XL.length ca, .int .i64 M.next] 31))
              refine (allocs_Check hO2.2.1.read hn).mono ?_
              rintro e w90 ⟨rfl, hE90⟩
              rw [hme2.out]
              replace hO2 := hO2.ext hE90
              have bZ := hO2.1
              have bZ_0 := bZ.cell 0
              have bZ_1 := bZ.cell 1
              have bZ_l := bZ.lt
              simp only [List.getElem?_toArray, List.getElem?_cons_zero, List.getElem?_cons_succ] at bZ_0 bZ_1
              clear fz0 fz1
              go_wp2_with fail
              refine (ref26_Check hO2.2.1.read hn).mono ?_
              rintro e w91 ⟨rfl, hE91⟩
              rw [hme2.out]
              replace hO2 := Lib.hid (hO2.ext hE91)
              clear bZ bZ_0 bZ_1 bZ_l bM hL hO
              go_wp2
              go_roundw
              case rel => exact ⟨k + 1, ⟨XL, M.next⟩, _, by omega, by go_num, rfl, hO2⟩
              case measure => simp [intOf]; omega
            · have he := Lib.hid he0
              clear he0
              have bM_0 : World.cell? wr ⟨w.heap.size, 0, none⟩ = some (.slice a M.al.length cp) := bM.cell 0
              have bM_1 : World.cell? wr ⟨w.heap.size, 1, none⟩ = some (.int .i64 M.next) := bM.cell 1
              have bM_l := bM.lt
              go_wp2_with fail
              clear bM_0 bM_1 bM_l
              refine (allocs_End x hL hn).mono ?_
              rintro e w1 ⟨qx, rfl, fx, hE0⟩
              replace bM := bM.ext hE0
              replace hL := hL.ext hE0
              replace hO := hO.ext hE0
              have hF0 := Ext.trans ((Ext.refl _)) hE0
              rw [he.out] at fx
              rw [he.out]
              obtain ⟨qx', rfl, zx⟩ := fx.read
              obtain ⟨sx, cx, rfl, -⟩ := zx.form1 0 rfl
              clear fx zx
              dsimp only [Mem.zero]
              have hO2 := Lib.hid (hO.ext ((Ext.refl _).alloc (.cells #[.slice sx 0 cx, .int .i64 0] 31)))
              clear bM hL hO
              go_wp2
              go_roundw
              case rel => exact ⟨k + 1, _, _, by omega, by go_num, rfl, hO2⟩
              case measure => simp [intOf]; omega
    · have hkl : k = l.length := by omega
      subst hkl
      have hF := hO.2.2.2
      clear bM hL hO
      go_wp2
      go_ret
      exact ⟨rfl, hF⟩

theorem allocsOnce_walk {m : Mem} {l : List Int} {s v : Value} {w : World} (hl : Als w s m.al) (hn : i64B m.next) (hs : Nts w v l) :
    Calls Try.prog 8 #[.agg #[s, .int .i64 m.next], v] w fun e w' => e = .returned (.bool true) ∧ Ext w w' := by
  cases hg : greatM m.al
  · cases hok : m.ok
    · exact allocsOnce_bad hl hn hs hg hok
    · by_cases hlen : 20 < l.length
      · exact allocsOnce_long hl hn hs hg hok hlen
      · exact allocsOnce_loop hl hn hs hg hok hlen
  · exact allocsOnce_great hl hn hs hg

set_option maxRecDepth 100000 in
theorem allocsOnce_lifted (os : Os) (started : os.Started) (H : Type) (enc : TypeId × Value → H) :
    ReturnsInHanded {} Try.checked os 8 .any (Rows.allocsOnceSpec.pre6 enc Try.prog Try.f8 Rows.allocsOnceRow.domain false) (Rows.allocsOnceSpec.post enc Try.prog Try.f8 false true false false) := by
  refine returnsInHanded_of_change (C := Try.checked) Tryown started (by kernel_rfl) Try.func8
    (ChangeSpec.witness6 (enc := enc) (C := Try.checked) false ⟨#[], #[.agg #[.slice none 0 0, .int .i64 0], .slice none 0 0], []⟩ 8 (by kernel_rfl) (by kernel_rfl) (by kernel_rfl) (by kernel_rfl)) ?_
  intro W base args ds gs before hval0 hW _ _
  have hval : ∀ (j : Nat) t v, Try.f8.params[j]? = some t → args[j]? = some v → Value.okWide Try.prog W .any base t v := hval0
  have hW' := hW
  obtain ⟨p, q, hA0, hV, rfl, hfz, hnd⟩ := hW
  have hA : DataW.TrodAll enc Try.prog W 0 (fun _ => true) true Try.f8.params.toList args.toList ds p := hA0
  rw [Try.params8] at hA hval
  obtain ⟨v0, vs0, d0, ds0, p0, q0, hargs, rfl, rfl, h0, r0⟩ := trodAll_cons hA
  obtain ⟨v1, vs1, d1, ds1, p1, q1, rfl, rfl, rfl, h1, r1⟩ := trodAll_cons r0
  obtain ⟨rfl, rfl, rfl⟩ := trodAll_nil r1
  obtain rfl : args = #[v0, v1] := by cases args; simp_all
  obtain ⟨x0, u0, rfl, k0, wf0⟩ := open_mem (hval 0 31 v0 rfl rfl) h0
  obtain ⟨x1, k1, wf1⟩ := open_ints' Try.underlying74 (hval 1 74 v1 rfl rfl) h1
  refine (allocsOnce_walk k0 wf0.1 k1).mono fun e W' ⟨he, hb⟩ => ?_
  subst he
  exact ⟨_, rfl, post_law TrylaidOut (tb := 4) rfl Try.underlying4 (by kernel_rfl) rfl (fun ds hd => match ds, hd with | [a0, a1], _ => rfl) hW' hb⟩

theorem allocsOnce_holds : Rows.AllocsOnceSaid :=
  OpenClaim.holds_of_wide 8 Try.f8 rfl rfl rfl rfl rfl rfl rfl ⟨rfl, rfl, rfl, rfl, rfl⟩ rfl rfl rfl rfl rfl (by kernel_rfl) Try.func8 (by kernel_rfl)
    (of_decide_eq_true (by kernel_rfl)) (by unfold Func.isWrapper; first | (rw [if_pos (by decide +kernel)]; kernel_rfl) | (rw [if_neg (by decide +kernel)]; exact ⟨rfl, rfl⟩))
    (fun os started H enc _ => allocsOnce_lifted os started H enc)

end Go.Proofs.Ytcklnoefheanlaa
