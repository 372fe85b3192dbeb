/- Contracts: Add of the program and of the reference. -/
import Derived.Test.YtiikdpfbbcnplaaCelW7
import Derived.Deep.RegionLaw
import Derived.RegionTactic
namespace Go.Proofs.Ytiikdpfbbcnplaa
set_option maxRecDepth 100000
open Go.RowKit

/-- v reads as m, whatever becomes of the blocks that were there before w. -/
def FrM (w w' : World) (v : Value) (m : Mem) : Prop := ∀ w'' : World, ExtBut (fun b => b < w.heap.size) w' w'' → RdM w'' v m
theorem FrM.read {w w' : World} {v : Value} {m : Mem} (h : FrM w w' v m) : RdM w' v m := h w' (ExtBut.refl _ _)
theorem FrM.ext {w w' w2 : World} {v : Value} {m : Mem} (h : FrM w w' v m) (hE : Ext w' w2) : FrM w w2 v m := fun w'' h2 => h w'' ((ExtBut.of_ext hE).trans h2)
theorem FrM.but {w w' w2 : World} {v : Value} {m : Mem} {S : Nat → Prop} (h : FrM w w' v m) (hE : ExtBut S w' w2) (hS : ∀ b, S b → b < w.heap.size) : FrM w w2 v m := fun w'' h2 => h w'' ((hE.mono fun b _ hb => hS b hb).trans h2)
theorem FrM.mono {w0 w w' : World} {v : Value} {m : Mem} (h : FrM w w' v m) (hw : w0.heap.size ≤ w.heap.size) : FrM w0 w' v m := fun w'' h2 => h w'' (h2.mono fun _ _ hb => Nat.lt_of_lt_of_le hb hw)
theorem FrM.zero (w w' : World) : FrM w w' (.agg #[.slice none 0 0, .int .i64 0]) Mem.zero := fun w'' _ => RdM.zero w''
theorem FrM.of_OM {w w' : World} {B : Nat} {v : Value} {vs : List Value} {l : List Alloc} {next : Int} (h : OM w' B v vs l) (hB : w.heap.size ≤ B) : FrM w w' (.agg #[v, .int .i64 next]) ⟨l, next⟩ := fun w'' h2 =>
  ⟨_, rfl, OM.read (OM.but h h2 (fun g e hl => by have := (h.outer.lt e).1; omega) (fun s hs g e hl => by have := (OM.inner_lt h s hs g e).1; omega))⟩
/-- A memory, a number, and an error. -/
def RetMN (w : World) (m : Mem) (n err : Int) (en : Ending) (w' : World) : Prop := ∃ v, en = .returned (.tuple #[v, .int .i64 n, .int .i64 err]) ∧ FrM w w' v m ∧ Ext w w'
/-- A memory and an error. -/
def RetME (w : World) (m : Mem) (err : Int) (en : Ending) (w' : World) : Prop := ∃ v, en = .returned (.tuple #[v, .int .i64 err]) ∧ FrM w w' v m ∧ Ext w w'

theorem small_of_ok {m : Mem} (h : m.ok = true) : small m.al := by
  unfold Mem.ok okM at h
  simp only [Bool.and_eq_true, decide_eq_true_eq] at h
  refine ⟨by omega, ?_⟩
  have hgo : ∀ (l : List Alloc) (least : Int), okAl m.next least l = true → ∀ a ∈ l, a.cells.length ≤ 1000000 := by
    intro l
    induction l with
    | nil => intro _ _ a ha; cases ha
    | cons x l ih =>
      intro least h a ha
      simp only [okAl, Bool.and_eq_true, decide_eq_true_eq] at h
      rcases List.mem_cons.1 ha with rfl | ha
      · omega
      · exact ih _ h.2 a ha
  exact hgo m.al 0 h.2
theorem ok_bounds {m : Mem} (h : m.ok = true) : m.al.length ≤ 400 ∧ 0 ≤ m.next ∧ m.next ≤ 1000000 := by
  unfold Mem.ok okM inB at h
  simp only [Bool.and_eq_true, decide_eq_true_eq] at h
  omega
theorem addR_bad {m : Mem} {size : Int} (h : m.ok = false) : addR m size = (Mem.zero, 0, 8) := by simp [addR, h]
theorem addR_arg {m : Mem} {size : Int} (h : m.ok = true) (hs : size < 1 ∨ 2 < size) : addR m size = (Mem.zero, 0, 2) := by simp [addR, h, hs]
theorem addR_full {m : Mem} {size : Int} (h : m.ok = true) (hs : ¬ (size < 1 ∨ 2 < size)) (hf : m.al.length = 400 ∨ m.next = 1000000) : addR m size = (Mem.zero, 0, 18) := by simp [addR, h, hs, hf]
theorem addR_yes {m : Mem} {size : Int} (h : m.ok = true) (hs : ¬ (size < 1 ∨ 2 < size)) (hf : ¬ (m.al.length = 400 ∨ m.next = 1000000)) : addR m size = (⟨m.al ++ [newAlloc m.next size.toNat], m.next + 1⟩, m.next, 0) := by simp [addR, h, hs, hf]

set_option maxHeartbeats 1600000 in
theorem allocs_Add {m : Mem} {s : Value} {w : World} (size : Int) (hl : Als w s m.al) (hn : i64B m.next) :
    Calls Try.prog 38 #[.agg #[s, .int .i64 m.next], .int .i64 size] w (RetMN w (addR m size).1 (addR m size).2.1 (addR m size).2.2) := by
  have hE0 := ((Ext.refl w).alloc (.cells #[s, .int .i64 m.next] 24)).alloc (.cells #[.slice none 0 0, .int .i64 0] 24)
  obtain ⟨a, cp, rfl, hlc, hcm, -⟩ := hl.form
  have bM := (Box.new w 24 #[.slice a m.al.length cp, .int .i64 m.next]).ext ((Ext.refl _).alloc (.cells #[.slice none 0 0, .int .i64 0] 24))
  have bR := Box.new (w.alloc (.cells #[.slice a m.al.length cp, .int .i64 m.next] 24)) 24 #[.slice none 0 0, .int .i64 0]
  rw [World.size_alloc] at bR
  have hCk := Lib.hid (allocs_Check (hl.ext hE0) hn)
  have hL := Lib.hid hl
  cases hok : m.ok
  · have hce : Hid (memErr m.al m.next = 8) := Hid.mk (memErr_bad hok)
    have hres := Lib.hid (addR_bad (size := size) hok)
    clear hok hl
    go_enter Try.func38, Try.ntmps38
    go_wp2_with fail
    refine hCk.out.mono ?_
    rintro e w1 ⟨rfl, hE1⟩
    rw [hce.out]
    have bR1 := bR.ext hE1
    have r0 : w1.cell? ⟨w.heap.size + 1, 0, none⟩ = some (.slice none 0 0) := bR1.cell 0
    have r1 : w1.cell? ⟨w.heap.size + 1, 1, none⟩ = some (.int .i64 0) := bR1.cell 1
    have rf0 := bR1.frozen 0
    have rf1 := bR1.frozen 1
    have hF1 := hE0.trans hE1
    clear bM bR bR1
    go_wp2
    rw [hres.out]
    refine bodyPost_ret (v := .tuple #[.agg #[.slice none 0 0, .int .i64 0], .int .i64 0, .int .i64 8]) (by simp [results, Try.f38, go_sem, r0, r1]) rfl ⟨_, rfl, FrM.zero _ _, (hF1.setCell (by simp) _).setCell (by simp) _⟩
  · have hce : Hid (memErr m.al m.next = 0) := Hid.mk (memErr_ok hok)
    have hsm := small_of_ok hok
    obtain ⟨hb1, hb2, hb3⟩ := ok_bounds hok
    by_cases hs : size < 1 ∨ 2 < size
    · have hres := Lib.hid (addR_arg hok hs)
      clear hok hl
      rcases hs with hs | hs
      · have q1 : decide (size < 1) = true := decide_eq_true hs
        go_enter Try.func38, Try.ntmps38
        go_wp2_with fail
        refine hCk.out.mono ?_
        rintro e w1 ⟨rfl, hE1⟩
        rw [hce.out]
        have bR1 := bR.ext hE1
        have r0 : w1.cell? ⟨w.heap.size + 1, 0, none⟩ = some (.slice none 0 0) := bR1.cell 0
        have r1 : w1.cell? ⟨w.heap.size + 1, 1, none⟩ = some (.int .i64 0) := bR1.cell 1
        have rf0 := bR1.frozen 0
        have rf1 := bR1.frozen 1
        have hF1 := hE0.trans hE1
        clear bM bR bR1
        go_wp2
        rw [hres.out]
        refine bodyPost_ret (v := .tuple #[.agg #[.slice none 0 0, .int .i64 0], .int .i64 0, .int .i64 2]) (by simp [results, Try.f38, go_sem, r0, r1]) rfl ⟨_, rfl, FrM.zero _ _, (hF1.setCell (by simp) _).setCell (by simp) _⟩
      · have q1 : decide (size < 1) = false := decide_eq_false (by omega)
        have q2 : decide (2 < size) = true := decide_eq_true hs
        go_enter Try.func38, Try.ntmps38
        go_wp2_with fail
        refine hCk.out.mono ?_
        rintro e w1 ⟨rfl, hE1⟩
        rw [hce.out]
        have bR1 := bR.ext hE1
        have r0 : w1.cell? ⟨w.heap.size + 1, 0, none⟩ = some (.slice none 0 0) := bR1.cell 0
        have r1 : w1.cell? ⟨w.heap.size + 1, 1, none⟩ = some (.int .i64 0) := bR1.cell 1
        have rf0 := bR1.frozen 0
        have rf1 := bR1.frozen 1
        have hF1 := hE0.trans hE1
        clear bM bR bR1
        go_wp2
        rw [hres.out]
        refine bodyPost_ret (v := .tuple #[.agg #[.slice none 0 0, .int .i64 0], .int .i64 0, .int .i64 2]) (by simp [results, Try.f38, go_sem, r0, r1]) rfl ⟨_, rfl, FrM.zero _ _, (hF1.setCell (by simp) _).setCell (by simp) _⟩
    · have q1 : decide (size < 1) = false := decide_eq_false (by omega)
      have q2 : decide (2 < size) = false := decide_eq_false (by omega)
      by_cases hf : m.al.length = 400 ∨ m.next = 1000000
      · have hres := Lib.hid (addR_full hok hs hf)
        clear hok hl
        have q3 : ((m.al.length : Int) == 400) = true ∨ ((m.al.length : Int) == 400) = false ∧ (m.next == 1000000) = true := by
          rcases hf with h | h
          · exact .inl (beq_iff_eq.2 (by omega))
          · by_cases h4 : m.al.length = 400
            · exact .inl (beq_iff_eq.2 (by omega))
            · exact .inr ⟨beq_eq_false_iff_ne.2 (by omega), beq_iff_eq.2 h⟩
        clear hf hs
        rcases q3 with q3 | ⟨q3, q4⟩
        all_goals
          go_enter Try.func38, Try.ntmps38
          go_wp2_with fail
          refine hCk.out.mono ?_
          rintro e w1 ⟨rfl, hE1⟩
          rw [hce.out]
          have bR1 := bR.ext hE1
          have bM1 := bM.ext hE1
          have m0 : w1.cell? ⟨w.heap.size, 0, none⟩ = some (.slice a m.al.length cp) := bM1.cell 0
          have m1 : w1.cell? ⟨w.heap.size, 1, none⟩ = some (.int .i64 m.next) := bM1.cell 1
          have r0 : w1.cell? ⟨w.heap.size + 1, 0, none⟩ = some (.slice none 0 0) := bR1.cell 0
          have r1 : w1.cell? ⟨w.heap.size + 1, 1, none⟩ = some (.int .i64 0) := bR1.cell 1
          have rf0 := bR1.frozen 0
          have rf1 := bR1.frozen 1
          have hF1 := hE0.trans hE1
          clear bM bR bR1 bM1
          go_wp2
          rw [hres.out]
          refine bodyPost_ret (v := .tuple #[.agg #[.slice none 0 0, .int .i64 0], .int .i64 0, .int .i64 18]) (by simp [results, Try.f38, go_sem, r0, r1]) rfl ⟨_, rfl, FrM.zero _ _, (hF1.setCell (by simp) _).setCell (by simp) _⟩
      · have hres := Lib.hid (addR_yes hok hs hf)
        have q3 : ((m.al.length : Int) == 400) = false := beq_eq_false_iff_ne.2 (by omega)
        have q4 : (m.next == 1000000) = false := beq_eq_false_iff_ne.2 (by omega)
        have hl4 : m.al.length ≤ 1000000 := by omega
        obtain ⟨n, rfl⟩ : ∃ n : Nat, size = (n : Int) := ⟨size.toNat, by omega⟩
        have hn12 : 1 ≤ n ∧ n ≤ 2 := by omega
        have hmk := make_Cells n (by omega)
        obtain ⟨ai, az, hai, haz, hai3, haz3, haby⟩ := Alloc.infoE
        have hai' := Lib.hid hai; have haz' := Lib.hid haz; have hai3' := Lib.hid hai3; have haz3' := Lib.hid haz3; have haby' := Lib.hid haby
        clear hok hl hf hs hai haz hai3 haz3 haby
        · skip
          go_enter Try.func38, Try.ntmps38
          go_wp2_with fail
          refine hCk.out.mono ?_
          rintro e w1 ⟨rfl, hE1⟩
          rw [hce.out]
          have bR1 := bR.ext hE1
          have bM1 := bM.ext hE1
          have m0 : w1.cell? ⟨w.heap.size, 0, none⟩ = some (.slice a m.al.length cp) := bM1.cell 0
          have m1 : w1.cell? ⟨w.heap.size, 1, none⟩ = some (.int .i64 m.next) := bM1.cell 1
          have hF1 := hE0.trans hE1
          go_wp2_with fail
          refine (allocs_clone (hL.out.ext hF1) hsm).mono ?_
          rintro e w2 ⟨v, vs, rfl, hOM, hE2⟩
          have hF2 := hF1.trans hE2
          have hO := hOM.outer
          have hvB := fun g e => (hO.lt (g := g) e)
          obtain ⟨a2, cp2, rfl, hlc2, hcm2, -⟩ := hO.sl.slice_form
          unfold maxLen at hcm2
          have bR2 := bR1.ext hE2
          have bM2 := bM1.ext hE2
          have mf0 := bM2.frozen 0
          have mf1 := bM2.frozen 1
          have m0' : w2.cell? ⟨w.heap.size, 0, none⟩ = some (.slice a m.al.length cp) := bM2.cell 0
          have m1' : w2.cell? ⟨w.heap.size, 1, none⟩ = some (.int .i64 m.next) := bM2.cell 1
          clear m0 m1
          go_wp2
          have hK3 : ExtBut (fun b => b = w.heap.size) w2 ((w2.setCell ⟨w.heap.size, 0, none⟩ (.slice a2 m.al.length cp2)).setCell ⟨w.heap.size, 1, none⟩ (.int .i64 m.next)) := (ExtBut.setCell w2 ⟨w.heap.size, 0, none⟩ (.slice a2 m.al.length cp2)).trans (ExtBut.setCell _ ⟨w.heap.size, 1, none⟩ (.int .i64 m.next))
          have hw1 : w.heap.size + 1 < w1.heap.size := bR1.lt
          have bM3 := (bM2.set 0 (.slice a2 m.al.length cp2)).set 1 (.int .i64 m.next)
          have bR3 := bR2.but hK3 (by omega)
          have hF3 := ExtBut.ext hF2 hK3 (fun x h => by omega)
          have hOM3 := hOM.but hK3 (fun g e h => by have := (hvB g e).1; omega) (fun s hs g e h => by have := (hOM.inner_lt s hs g e).1; omega)
          obtain ⟨w3, hw3⟩ : ∃ w3, (w2.setCell ⟨w.heap.size, 0, none⟩ (.slice a2 m.al.length cp2)).setCell ⟨w.heap.size, 1, none⟩ (.int .i64 m.next) = w3 := ⟨_, rfl⟩
          have hs3 : w2.heap.size ≤ w3.heap.size := by rw [← hw3]; simp
          have hs13 : w1.heap.size ≤ w3.heap.size := Nat.le_trans hE2.size hs3
          rw [hw3] at bM3 bR3 hF3 hOM3 ⊢
          have n0 : w3.cell? ⟨w.heap.size, 0, none⟩ = some (.slice a2 m.al.length cp2) := bM3.cell 0
          have n1 : w3.cell? ⟨w.heap.size, 1, none⟩ = some (.int .i64 m.next) := bM3.cell 1
          have nf0 := bM3.frozen 0
          have nf1 := bM3.frozen 1
          have hH := Lib.hid (And.intro bM3 (And.intro bR3 (And.intro hF3 (And.intro hOM3 (And.intro hvB hw1)))))
          have hlt3 : w.heap.size < w3.heap.size := bM3.lt
          clear hw3 hK3 bM bR bR1 bM1 bR2 bM2 bM3 bR3 hOM hO hF2 hF1 hvB mf0 mf1 m0' m1' hF3 hOM3 hE2 hE1
          have hzo : ∀ w' : World, Ext w3 w' → Sl ((w'.alloc (.cells (zcells n) 29)).alloc (.cells #[.int .i64 m.next, .bool true, .slice (some ⟨w'.heap.size, 0, none⟩) n n] 70)) 3 (.slice (some ⟨w'.heap.size + 1, 0, none⟩) 1 1) 1 (arow (.slice (some ⟨w'.heap.size, 0, none⟩) n n) (newAlloc m.next n)) := fun w' _ => by
            have := (Own.lit' (B := 0) (e := 70) (k := 3) (w'.alloc (.cells (zcells n) 29)) #[.int .i64 m.next, .bool true, .slice (some ⟨w'.heap.size, 0, none⟩) n n] 1 (Nat.zero_le _) (by simp [maxLen]) rfl).sl
            rw [World.size_alloc] at this
            exact this
          have hzo := Lib.hid hzo
          go_region_law (first | (rw [if_pos (by rfl)]; refine wp_append_any (.tmp 37) (.tmp 42) 22 22 rfl rfl rfl (B := w1.heap.size) (e := 70) (n := m.al.length) (m := 1) (xs := trows arow vs m.al) (ys := arow (.slice (some ⟨w3.heap.size, 0, none⟩) n n) (newAlloc m.next n)) Try.underlying22 Try.underlying22 hai'.out haz'.out hai3'.out haz3'.out (hH.out.2.2.2.1.outer.ext (((Ext.refl _).alloc _).alloc _).drew) ?_ ?_ ?_ ?_ ?_ ?_; (exact Sl.ext (hzo.out _ (Ext.refl _)) (Ext.refl _).drew); (simp [arow, Value.oneCell']); (simp [maxLen]; omega); (rw [haby'.out]; omega); (simp; omega); intro v' w' hO' hK' hb' _; obtain ⟨a3, cp3, rfl, -⟩ := hO'.sl.slice_form; have bM' := (hH.out.1.ext (((Ext.refl _).alloc _).alloc _).drew).but (ExtBut.of_keeps hK') (fun h => by have := (hH.out.2.2.2.2.1 _ h).1; have := hH.out.2.2.2.2.2; omega); have k0 : w'.cell? ⟨w.heap.size, 0, none⟩ = some (.slice a2 m.al.length cp2) := bM'.cell 0; have kf := bM'.frozen 0))
          all_goals
            have hEx := ((((Ext.refl w3).alloc (.cells (zcells n) 29)).alloc (.cells #[.int .i64 m.next, .bool true, .slice (some ⟨w3.heap.size, 0, none⟩) n n] 70)).drew)
            have hzc : OwnC (((w3.alloc (.cells (zcells n) 29)).alloc (.cells #[.int .i64 m.next, .bool true, .slice (some ⟨w3.heap.size, 0, none⟩) n n] 70)).drew) w1.heap.size (.slice (some ⟨w3.heap.size, 0, none⟩) n n) (newAlloc m.next n) := Own.ext (zcells_own n (by omega) w3 hs13) (((Ext.refl _).alloc _).drew)
            have hP := OM.push hH.out.2.2.2.1 hEx hzc (fun g e => by have h' : some w3.heap.size = some g := e; cases h'; exact Nat.le_refl _) hO' hK' hb'
            have hF4 := Ext.trans hH.out.2.2.1 hEx
            have hS4 := ExtBut.of_keeps hK'
            have hvB := hH.out.2.2.2.2.1
            have hin := OM.inner_lt hP
            have hvB' := fun g e => (hO'.lt (g := g) e).1
            have hF5 := ExtBut.ext hF4 hS4 (fun x h => by have := (hvB _ h).1; omega)
            have bR5 := (hH.out.2.1.ext hEx).but hS4 (fun h => by have := (hvB _ h).1; omega)
            have bM6 := bM'.set 0 (.slice a3 (m.al.length + 1) cp3)
            have hX6 : ExtBut (fun b => b = w.heap.size ∨ b = w.heap.size + 1) w' (w'.setCell ⟨w.heap.size, 0, none⟩ (.slice a3 (m.al.length + 1) cp3)) := (ExtBut.setCell w' ⟨w.heap.size, 0, none⟩ (.slice a3 (m.al.length + 1) cp3)).mono (fun x _ h => .inl h)
            have bR6 := bR5.other (p := ⟨w.heap.size, 0, none⟩) (by simp) (.slice a3 (m.al.length + 1) cp3)
            clear bM' k0 kf bR5 hEx hzc hK' hb' hO' hF4 hS4
            obtain ⟨w6, hw6⟩ : ∃ w6, w'.setCell ⟨w.heap.size, 0, none⟩ (.slice a3 (m.al.length + 1) cp3) = w6 := ⟨_, rfl⟩
            rw [hw6] at bM6 bR6 hX6 ⊢
            clear hw6
            have e0 : w6.cell? ⟨w.heap.size, 0, none⟩ = some (.slice a3 (m.al.length + 1) cp3) := bM6.cell 0
            have e1 : w6.cell? ⟨w.heap.size, 1, none⟩ = some (.int .i64 m.next) := bM6.cell 1
            have ef1 := bM6.frozen 1
            have r0 : w6.cell? ⟨w.heap.size + 1, 0, none⟩ = some (.slice none 0 0) := bR6.cell 0
            have r1 : w6.cell? ⟨w.heap.size + 1, 1, none⟩ = some (.int .i64 0) := bR6.cell 1
            have rf0 := bR6.frozen 0
            have rf1 := bR6.frozen 1
            have hlt6 := bM6.lt
            have hA := Lib.hid (And.intro hP (And.intro hF5 (And.intro hX6 (And.intro hin hvB'))))
            clear hP hF5 hX6 hin hvB' bM6 bR6 hvB
            go_wp2
            rw [hres.out, Int.toNat_natCast]
            obtain ⟨hP, hF5, hX6, hin, hvB'⟩ := hA.out
            have hX7 := ((hX6.trans ((ExtBut.setCell w6 ⟨w.heap.size, 1, none⟩ (.int .i64 (m.next + 1))).mono (S' := fun b => b = w.heap.size ∨ b = w.heap.size + 1) (fun x _ h => .inl h))).trans ((ExtBut.setCell _ ⟨w.heap.size + 1, 0, none⟩ (.slice a3 (m.al.length + 1) cp3)).mono (S' := fun b => b = w.heap.size ∨ b = w.heap.size + 1) (fun x _ h => .inr h))).trans ((ExtBut.setCell _ ⟨w.heap.size + 1, 1, none⟩ (.int .i64 (m.next + 1))).mono (S' := fun b => b = w.heap.size ∨ b = w.heap.size + 1) (fun x _ h => .inr h))
            refine bodyPost_ret (v := .tuple #[.agg #[.slice a3 (m.al.length + 1) cp3, .int .i64 (m.next + 1)], .int .i64 m.next, .int .i64 0]) (by simp [results, Try.f38, go_sem, r0, r1]) rfl ⟨_, rfl, FrM.of_OM (OM.but hP hX7 (fun g e h => by have := hvB' g e; omega) (fun s hs g e h => by have := (hin s hs g e).1; omega)) (by omega), ExtBut.ext hF5 hX7 (fun x h => by omega)⟩

set_option maxHeartbeats 1600000 in
theorem ref26_Add {m : Mem} {s : Value} {w : World} (size : Int) (hl : Als w s m.al) (hn : i64B m.next) :
    Calls Try.prog 41 #[.agg #[s, .int .i64 m.next], .int .i64 size] w (RetMN w (addR m size).1 (addR m size).2.1 (addR m size).2.2) := by
  have hE0 := ((Ext.refl w).alloc (.cells #[s, .int .i64 m.next] 24)).alloc (.cells #[.slice none 0 0, .int .i64 0] 24)
  obtain ⟨a, cp, rfl, hlc, hcm, -⟩ := hl.form
  have bM := (Box.new w 24 #[.slice a m.al.length cp, .int .i64 m.next]).ext ((Ext.refl _).alloc (.cells #[.slice none 0 0, .int .i64 0] 24))
  have bR := Box.new (w.alloc (.cells #[.slice a m.al.length cp, .int .i64 m.next] 24)) 24 #[.slice none 0 0, .int .i64 0]
  rw [World.size_alloc] at bR
  have hCk := Lib.hid (ref26_Check (hl.ext hE0) hn)
  have hL := Lib.hid hl
  cases hok : m.ok
  · have hce : Hid (memErr m.al m.next = 8) := Hid.mk (memErr_bad hok)
    have hres := Lib.hid (addR_bad (size := size) hok)
    clear hok hl
    go_enter Try.func41, Try.ntmps41
    go_wp2_with fail
    refine hCk.out.mono ?_
    rintro e w1 ⟨rfl, hE1⟩
    rw [hce.out]
    have bR1 := bR.ext hE1
    have r0 : w1.cell? ⟨w.heap.size + 1, 0, none⟩ = some (.slice none 0 0) := bR1.cell 0
    have r1 : w1.cell? ⟨w.heap.size + 1, 1, none⟩ = some (.int .i64 0) := bR1.cell 1
    have rf0 := bR1.frozen 0
    have rf1 := bR1.frozen 1
    have hF1 := hE0.trans hE1
    clear bM bR bR1
    go_wp2
    rw [hres.out]
    refine bodyPost_ret (v := .tuple #[.agg #[.slice none 0 0, .int .i64 0], .int .i64 0, .int .i64 8]) (by simp [results, Try.f41, go_sem, r0, r1]) rfl ⟨_, rfl, FrM.zero _ _, (hF1.setCell (by simp) _).setCell (by simp) _⟩
  · have hce : Hid (memErr m.al m.next = 0) := Hid.mk (memErr_ok hok)
    have hsm := small_of_ok hok
    obtain ⟨hb1, hb2, hb3⟩ := ok_bounds hok
    by_cases hs : size < 1 ∨ 2 < size
    · have hres := Lib.hid (addR_arg hok hs)
      clear hok hl
      rcases hs with hs | hs
      · have q1 : decide (size < 1) = true := decide_eq_true hs
        go_enter Try.func41, Try.ntmps41
        go_wp2_with fail
        refine hCk.out.mono ?_
        rintro e w1 ⟨rfl, hE1⟩
        rw [hce.out]
        have bR1 := bR.ext hE1
        have r0 : w1.cell? ⟨w.heap.size + 1, 0, none⟩ = some (.slice none 0 0) := bR1.cell 0
        have r1 : w1.cell? ⟨w.heap.size + 1, 1, none⟩ = some (.int .i64 0) := bR1.cell 1
        have rf0 := bR1.frozen 0
        have rf1 := bR1.frozen 1
        have hF1 := hE0.trans hE1
        clear bM bR bR1
        go_wp2
        rw [hres.out]
        refine bodyPost_ret (v := .tuple #[.agg #[.slice none 0 0, .int .i64 0], .int .i64 0, .int .i64 2]) (by simp [results, Try.f41, go_sem, r0, r1]) rfl ⟨_, rfl, FrM.zero _ _, (hF1.setCell (by simp) _).setCell (by simp) _⟩
      · have q1 : decide (size < 1) = false := decide_eq_false (by omega)
        have q2 : decide (2 < size) = true := decide_eq_true hs
        go_enter Try.func41, Try.ntmps41
        go_wp2_with fail
        refine hCk.out.mono ?_
        rintro e w1 ⟨rfl, hE1⟩
        rw [hce.out]
        have bR1 := bR.ext hE1
        have r0 : w1.cell? ⟨w.heap.size + 1, 0, none⟩ = some (.slice none 0 0) := bR1.cell 0
        have r1 : w1.cell? ⟨w.heap.size + 1, 1, none⟩ = some (.int .i64 0) := bR1.cell 1
        have rf0 := bR1.frozen 0
        have rf1 := bR1.frozen 1
        have hF1 := hE0.trans hE1
        clear bM bR bR1
        go_wp2
        rw [hres.out]
        refine bodyPost_ret (v := .tuple #[.agg #[.slice none 0 0, .int .i64 0], .int .i64 0, .int .i64 2]) (by simp [results, Try.f41, go_sem, r0, r1]) rfl ⟨_, rfl, FrM.zero _ _, (hF1.setCell (by simp) _).setCell (by simp) _⟩
    · have q1 : decide (size < 1) = false := decide_eq_false (by omega)
      have q2 : decide (2 < size) = false := decide_eq_false (by omega)
      by_cases hf : m.al.length = 400 ∨ m.next = 1000000
      · have hres := Lib.hid (addR_full hok hs hf)
        clear hok hl
        have q3 : ((m.al.length : Int) == 400) = true ∨ ((m.al.length : Int) == 400) = false ∧ (m.next == 1000000) = true := by
          rcases hf with h | h
          · exact .inl (beq_iff_eq.2 (by omega))
          · by_cases h4 : m.al.length = 400
            · exact .inl (beq_iff_eq.2 (by omega))
            · exact .inr ⟨beq_eq_false_iff_ne.2 (by omega), beq_iff_eq.2 h⟩
        clear hf hs
        rcases q3 with q3 | ⟨q3, q4⟩
        all_goals
          go_enter Try.func41, Try.ntmps41
          go_wp2_with fail
          refine hCk.out.mono ?_
          rintro e w1 ⟨rfl, hE1⟩
          rw [hce.out]
          have bR1 := bR.ext hE1
          have bM1 := bM.ext hE1
          have m0 : w1.cell? ⟨w.heap.size, 0, none⟩ = some (.slice a m.al.length cp) := bM1.cell 0
          have m1 : w1.cell? ⟨w.heap.size, 1, none⟩ = some (.int .i64 m.next) := bM1.cell 1
          have r0 : w1.cell? ⟨w.heap.size + 1, 0, none⟩ = some (.slice none 0 0) := bR1.cell 0
          have r1 : w1.cell? ⟨w.heap.size + 1, 1, none⟩ = some (.int .i64 0) := bR1.cell 1
          have rf0 := bR1.frozen 0
          have rf1 := bR1.frozen 1
          have hF1 := hE0.trans hE1
          clear bM bR bR1 bM1
          go_wp2
          rw [hres.out]
          refine bodyPost_ret (v := .tuple #[.agg #[.slice none 0 0, .int .i64 0], .int .i64 0, .int .i64 18]) (by simp [results, Try.f41, go_sem, r0, r1]) rfl ⟨_, rfl, FrM.zero _ _, (hF1.setCell (by simp) _).setCell (by simp) _⟩
      · have hres := Lib.hid (addR_yes hok hs hf)
        have q3 : ((m.al.length : Int) == 400) = false := beq_eq_false_iff_ne.2 (by omega)
        have q4 : (m.next == 1000000) = false := beq_eq_false_iff_ne.2 (by omega)
        have hl4 : m.al.length ≤ 1000000 := by omega
        obtain ⟨n, rfl⟩ : ∃ n : Nat, size = (n : Int) := ⟨size.toNat, by omega⟩
        have hn12 : 1 ≤ n ∧ n ≤ 2 := by omega
        have hmk := make_Cells n (by omega)
        obtain ⟨ai, az, hai, haz, hai3, haz3, haby⟩ := Alloc.infoE
        have hai' := Lib.hid hai; have haz' := Lib.hid haz; have hai3' := Lib.hid hai3; have haz3' := Lib.hid haz3; have haby' := Lib.hid haby
        clear hok hl hf hs hai haz hai3 haz3 haby
        · skip
          go_enter Try.func41, Try.ntmps41
          go_wp2_with fail
          refine hCk.out.mono ?_
          rintro e w1 ⟨rfl, hE1⟩
          rw [hce.out]
          have bR1 := bR.ext hE1
          have bM1 := bM.ext hE1
          have m0 : w1.cell? ⟨w.heap.size, 0, none⟩ = some (.slice a m.al.length cp) := bM1.cell 0
          have m1 : w1.cell? ⟨w.heap.size, 1, none⟩ = some (.int .i64 m.next) := bM1.cell 1
          have hF1 := hE0.trans hE1
          go_wp2_with fail
          refine (ref26_Twin (hL.out.ext hF1) hsm).mono ?_
          rintro e w2 ⟨v, vs, rfl, hOM, hE2⟩
          have hF2 := hF1.trans hE2
          have hO := hOM.outer
          have hvB := fun g e => (hO.lt (g := g) e)
          obtain ⟨a2, cp2, rfl, hlc2, hcm2, -⟩ := hO.sl.slice_form
          unfold maxLen at hcm2
          have bR2 := bR1.ext hE2
          have hfar := Lib.hid (fun s hs g e => (OM.inner_lt hOM s hs g e).2)
          have bM2 := bM1.ext hE2
          go_wp2
          have bO3 := Box.new w2 24 #[.slice a2 m.al.length cp2, .int .i64 m.next]
          have hw1 : w.heap.size + 1 < w1.heap.size := bR1.lt
          have bM3 := bM2.ext ((Ext.refl w2).alloc (.cells #[.slice a2 m.al.length cp2, .int .i64 m.next] 24))
          have bR3 := bR2.ext ((Ext.refl w2).alloc (.cells #[.slice a2 m.al.length cp2, .int .i64 m.next] 24))
          have hF3 := hF2.trans ((Ext.refl w2).alloc (.cells #[.slice a2 m.al.length cp2, .int .i64 m.next] 24))
          have hOM3 := OM.ext hOM ((Ext.refl w2).alloc (.cells #[.slice a2 m.al.length cp2, .int .i64 m.next] 24))
          obtain ⟨w3, hw3⟩ : ∃ w3, w2.alloc (.cells #[.slice a2 m.al.length cp2, .int .i64 m.next] 24) = w3 := ⟨_, rfl⟩
          have hs3 : w2.heap.size + 1 ≤ w3.heap.size := by rw [← hw3]; simp
          have hs12 : w1.heap.size ≤ w2.heap.size := hE2.size
          rw [hw3] at bO3 bM3 bR3 hF3 hOM3 ⊢
          have n0 : w3.cell? ⟨w2.heap.size, 0, none⟩ = some (.slice a2 m.al.length cp2) := bO3.cell 0
          have n1 : w3.cell? ⟨w.heap.size, 1, none⟩ = some (.int .i64 m.next) := bM3.cell 1
          have nf0 := bO3.frozen 0
          have hgb : ∀ g, (Value.slice a2 m.al.length cp2).ownBlock = some g → w1.heap.size ≤ g ∧ g < w2.heap.size := fun g e => hvB g e
          have hH := Lib.hid (And.intro bM3 (And.intro bR3 (And.intro hF3 (And.intro hOM3 (And.intro hgb (And.intro hw1 bO3))))))
          have hlt3 : w.heap.size < w3.heap.size := bM3.lt
          have hlt3' : w2.heap.size < w3.heap.size := bO3.lt
          have hzo : ∀ w' : World, Ext w3 w' → Sl ((w'.alloc (.cells (zcells n) 29)).alloc (.cells #[.int .i64 m.next, .bool true, .slice (some ⟨w'.heap.size, 0, none⟩) n n] 70)) 3 (.slice (some ⟨w'.heap.size + 1, 0, none⟩) 1 1) 1 (arow (.slice (some ⟨w'.heap.size, 0, none⟩) n n) (newAlloc m.next n)) := fun w' _ => by
            have := (Own.lit' (B := 0) (e := 70) (k := 3) (w'.alloc (.cells (zcells n) 29)) #[.int .i64 m.next, .bool true, .slice (some ⟨w'.heap.size, 0, none⟩) n n] 1 (Nat.zero_le _) (by simp [maxLen]) rfl).sl
            rw [World.size_alloc] at this
            exact this
          have hzo := Lib.hid hzo
          clear hw3 bM bR bR1 bM1 bR2 bM2 bM3 bR3 bO3 hOM hO hF2 hF1 hvB hgb hF3 hOM3 hE2 hE1
          go_region_law (first | (rw [if_pos (by rfl)]; refine wp_append_any (.tmp 35) (.tmp 41) 22 22 rfl rfl rfl (B := w1.heap.size) (e := 70) (n := m.al.length) (m := 1) (xs := trows arow vs m.al) (ys := arow (.slice (some ⟨w3.heap.size, 0, none⟩) n n) (newAlloc m.next n)) Try.underlying22 Try.underlying22 hai'.out haz'.out hai3'.out haz3'.out (hH.out.2.2.2.1.outer.ext (((Ext.refl _).alloc _).alloc _).drew) ?_ ?_ ?_ ?_ ?_ ?_; (exact Sl.ext (hzo.out _ (Ext.refl _)) (Ext.refl _).drew); (simp [arow, Value.oneCell']); (simp [maxLen]; omega); (rw [haby'.out]; omega); (simp; omega); intro v' w' hO' hK' hb' _; obtain ⟨a3, cp3, rfl, -⟩ := hO'.sl.slice_form; have bO' := (hH.out.2.2.2.2.2.2.ext (((Ext.refl _).alloc _).alloc _).drew).but (ExtBut.of_keeps hK') (fun h => by have := (hH.out.2.2.2.2.1 _ h).2; omega); have bM' := (hH.out.1.ext (((Ext.refl _).alloc _).alloc _).drew).but (ExtBut.of_keeps hK') (fun h => by have := (hH.out.2.2.2.2.1 _ h).1; have := hH.out.2.2.2.2.2.1; omega); have k0 : w'.cell? ⟨w2.heap.size, 0, none⟩ = some (.slice a2 m.al.length cp2) := bO'.cell 0; have kf := bO'.frozen 0))
          all_goals
            have hEx := ((((Ext.refl w3).alloc (.cells (zcells n) 29)).alloc (.cells #[.int .i64 m.next, .bool true, .slice (some ⟨w3.heap.size, 0, none⟩) n n] 70)).drew)
            have hzc : OwnC (((w3.alloc (.cells (zcells n) 29)).alloc (.cells #[.int .i64 m.next, .bool true, .slice (some ⟨w3.heap.size, 0, none⟩) n n] 70)).drew) w1.heap.size (.slice (some ⟨w3.heap.size, 0, none⟩) n n) (newAlloc m.next n) := Own.ext (zcells_own n (by omega) w3 (by omega)) (((Ext.refl _).alloc _).drew)
            have hP := OM.push hH.out.2.2.2.1 hEx hzc (fun g e => by have h' : some w3.heap.size = some g := e; cases h'; exact Nat.le_refl _) hO' hK' hb'
            have hF4 := Ext.trans hH.out.2.2.1 hEx
            have hS4 := ExtBut.of_keeps hK'
            have hvB := hH.out.2.2.2.2.1
            have hin := OM.inner_lt hP
            have hvB' : ∀ g, (Value.slice a3 (m.al.length + 1) cp3).ownBlock = some g → w1.heap.size ≤ g ∧ g ≠ w2.heap.size := fun g e => ⟨(hO'.lt e).1, by
              rcases hb' with hb | ⟨g', hb, hge⟩
              · rw [hb] at e; have := (hvB g e).2; omega
              · rw [hb] at e; cases e; simp at hge; omega⟩
            have hin' : ∀ s ∈ vs ++ [.slice (some ⟨w3.heap.size, 0, none⟩) n n], ∀ g, s.ownBlock = some g → w1.heap.size ≤ g ∧ g ≠ w2.heap.size := fun s hs g e => ⟨(hin s hs g e).1, by
              rcases List.mem_append.1 hs with h1 | h1
              · have := hH.out.2.2.2.2.2.1; have := hfar.out s h1 g e; omega
              · simp at h1; subst h1; have h' : some w3.heap.size = some g := e; cases h'; omega⟩
            have hF5 := ExtBut.ext hF4 hS4 (fun x h => by have := (hvB _ h).1; omega)
            have bR5 := (hH.out.2.1.ext hEx).but hS4 (fun h => by have := (hvB _ h).1; omega)
            have bO6 := bO'.set 0 (.slice a3 (m.al.length + 1) cp3)
            have hX6 : ExtBut (fun b => b = w2.heap.size ∨ b = w.heap.size + 1) w' (w'.setCell ⟨w2.heap.size, 0, none⟩ (.slice a3 (m.al.length + 1) cp3)) := (ExtBut.setCell w' ⟨w2.heap.size, 0, none⟩ (.slice a3 (m.al.length + 1) cp3)).mono (fun x _ h => .inl h)
            have bR6 := bR5.other (p := ⟨w2.heap.size, 0, none⟩) (by simp; omega) (.slice a3 (m.al.length + 1) cp3)
            have bM6 := bM'.other (p := ⟨w2.heap.size, 0, none⟩) (by simp; omega) (.slice a3 (m.al.length + 1) cp3)
            clear bM' bO' k0 kf bR5 hEx hzc hK' hb' hO' hF4 hS4 hin
            obtain ⟨w6, hw6⟩ : ∃ w6, w'.setCell ⟨w2.heap.size, 0, none⟩ (.slice a3 (m.al.length + 1) cp3) = w6 := ⟨_, rfl⟩
            rw [hw6] at bM6 bR6 bO6 hX6 ⊢
            clear hw6
            have e0 : w6.cell? ⟨w2.heap.size, 0, none⟩ = some (.slice a3 (m.al.length + 1) cp3) := bO6.cell 0
            have e1 : w6.cell? ⟨w2.heap.size, 1, none⟩ = some (.int .i64 m.next) := bO6.cell 1
            have em : w6.cell? ⟨w.heap.size, 1, none⟩ = some (.int .i64 m.next) := bM6.cell 1
            have ef1 := bO6.frozen 1
            have r0 : w6.cell? ⟨w.heap.size + 1, 0, none⟩ = some (.slice none 0 0) := bR6.cell 0
            have r1 : w6.cell? ⟨w.heap.size + 1, 1, none⟩ = some (.int .i64 0) := bR6.cell 1
            have rf0 := bR6.frozen 0
            have rf1 := bR6.frozen 1
            have hlt6 := bM6.lt
            have hne1 : w.heap.size ≠ w2.heap.size := by omega
            have hne2 : w.heap.size + 1 ≠ w2.heap.size := by omega
            have hne3 : w2.heap.size ≠ w.heap.size := by omega
            have hne4 : w2.heap.size ≠ w.heap.size + 1 := by omega
            have hA := Lib.hid (And.intro hP (And.intro hF5 (And.intro hX6 (And.intro hin' hvB'))))
            clear hP hF5 hX6 hin' hvB' bM6 bR6 bO6 hvB
            go_wp2
            go_region
            all_goals
              go_wp2
              rw [hres.out, Int.toNat_natCast]
              obtain ⟨hP, hF5, hX6, hin, hvB'⟩ := hA.out
              have hX7 := (((hX6.trans ((ExtBut.setCell w6 ⟨w2.heap.size, 1, none⟩ (.int .i64 (m.next + 1))).mono (S' := fun b => b = w2.heap.size ∨ b = w.heap.size + 1) (fun x _ h => .inl h))).trans ((ExtBut.setCell _ ⟨w.heap.size + 1, 0, none⟩ (.slice a3 (m.al.length + 1) cp3)).mono (S' := fun b => b = w2.heap.size ∨ b = w.heap.size + 1) (fun x _ h => .inr h))).trans ((ExtBut.setCell _ ⟨w.heap.size + 1, 1, none⟩ (.int .i64 (m.next + 1))).mono (S' := fun b => b = w2.heap.size ∨ b = w.heap.size + 1) (fun x _ h => .inr h))).trans (ExtBut.of_ext (Ext.refl _).drew)
              refine bodyPost_ret (v := .tuple #[.agg #[.slice a3 (m.al.length + 1) cp3, .int .i64 (m.next + 1)], .int .i64 m.next, .int .i64 0]) (by simp [results, Try.f41, go_sem, r0, r1]) rfl ⟨_, rfl, FrM.of_OM (OM.but hP hX7 (fun g e h => by have := hvB' g e; omega) (fun s hs g e h => by have := hin s hs g e; omega)) (by omega), ExtBut.ext hF5 hX7 (fun x h => by omega)⟩


end Go.Proofs.Ytiikdpfbbcnplaa
