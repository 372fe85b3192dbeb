/- The statement AllocsOthers: for every memory, size and number the call returns true. No condition. -/
import Derived.Test.YtcklnoefheanlaaOth26
import Derived.Test.YtcklnoefheanlaaReadM
import Derived.Test.YtcklnoefheanlaaClose
namespace Go.Proofs.Ytcklnoefheanlaa
open Go.ChangeShapes Go.WideShapes Go.ChangeAt Go.RowKit

theorem Cls.form1 {w : World} {v : Value} {l : List Cell} (h : Cls w v l) (n : Nat) (e : l.length = n) : ∃ a cap, v = .slice a n cap ∧ n ≤ cap ∧ cap ≤ maxLen ∧ (a = none → cap = 0) := e ▸ h.form
theorem addR_cases {m : Mem} (h : m.ok = true) (size : Int) : (∃ k : Nat, size = (k : Int) ∧ (1 ≤ k ∧ k ≤ 2) ∧ ¬ (m.al.length = 400 ∨ m.next = 1000000) ∧ addR m size = (⟨m.al ++ [newAlloc m.next k], m.next + 1⟩, m.next, 0)) ∨ (∃ A n e, addR m size = (A, n, e) ∧ e ≠ 0) := by
  by_cases hs : size < 1 ∨ 2 < size
  · exact .inr ⟨_, _, _, addR_arg h hs, by decide⟩
  · by_cases hf : m.al.length = 400 ∨ m.next = 1000000
    · exact .inr ⟨_, _, _, addR_full h hs hf, by decide⟩
    · exact .inl ⟨size.toNat, by omega, by omega, hf, addR_yes h hs hf⟩
theorem endR_cases {m : Mem} (h : m.ok = true) (n : Int) : (∃ i x, m.al[i]? = some x ∧ x.num = n ∧ endR m n = (⟨m.al.set i (ended x), m.next⟩, 0)) ∨ endR m n = (Mem.zero, 6) := by
  cases hat : atNum m.al n with
  | none => exact .inr (endR_none h hat)
  | some i =>
    obtain ⟨hi, hp, _⟩ := List.findIdx?_eq_some_iff_getElem.1 hat
    have hx : m.al[i]? = some m.al[i] := by simp [hi]
    cases hlv : m.al[i].live
    · exact .inr (endR_dead h hat hx hlv)
    · exact .inl ⟨i, m.al[i], hx, by simpa using hp, endR_live h hat hx hlv⟩

set_option maxRecDepth 100000 in
set_option maxHeartbeats 6400000 in
theorem allocsOthers_great {m : Mem} {s : Value} {w : World} (size n : Int) (hl : Als w s m.al) (hn : i64B m.next) (hg : greatM m.al = true) :
    Calls Try.prog 11 #[.agg #[s, .int .i64 m.next], .int .i64 size, .int .i64 n] w fun e w' => e = .returned (.bool true) ∧ Ext w w' := by
  have hF := (Ext.refl w).alloc (.cells #[s, .int .i64 m.next] 31)
  have bM := Box.new w 31 #[s, .int .i64 m.next]
  have hL := hl.ext hF
  obtain ⟨a, cp, rfl, hlc, hcm, -⟩ := hl.form
  unfold maxLen at hcm
  clear hl
  have hg' := Lib.hid hg
  clear hg
  go_enter Try.func11, Try.ntmps11
  have bM_0 : World.cell? (World.alloc w (.cells #[.slice a m.al.length cp, .int .i64 m.next] 31)) ⟨w.heap.size, 0, none⟩ = some (.slice a m.al.length cp) := bM.cell 0
  have bM_1 : World.cell? (World.alloc w (.cells #[.slice a m.al.length cp, .int .i64 m.next] 31)) ⟨w.heap.size, 1, none⟩ = some (.int .i64 m.next) := bM.cell 1
  have bM_l := bM.lt
  go_wp2_with fail
  clear bM_0 bM_1 bM_l
  refine (law26_alive _).mono ?_
  rintro e w1 ⟨rfl, hE0⟩
  replace bM := bM.ext hE0
  replace hL := hL.ext hE0
  have hF0 := Ext.trans (hF) hE0
  have bM_0 : World.cell? w1 ⟨w.heap.size, 0, none⟩ = some (.slice a m.al.length cp) := bM.cell 0
  have bM_1 : World.cell? w1 ⟨w.heap.size, 1, none⟩ = some (.int .i64 m.next) := bM.cell 1
  have bM_l := bM.lt
  go_wp2_with fail
  clear bM_0 bM_1 bM_l
  refine (ref26_Great hL).mono ?_
  rintro e w2 ⟨rfl, hE1⟩
  replace bM := bM.ext hE1
  replace hL := hL.ext hE1
  have hF1 := Ext.trans (hF0) hE1
  rw [hg'.out]
  go_wp2
  go_ret
  exact ⟨rfl, hF1⟩

set_option maxRecDepth 100000 in
set_option maxHeartbeats 6400000 in
theorem allocsOthers_bad {m : Mem} {s : Value} {w : World} (size n : Int) (hl : Als w s m.al) (hn : i64B m.next) (hg : greatM m.al = false) (hok : m.ok = false) :
    Calls Try.prog 11 #[.agg #[s, .int .i64 m.next], .int .i64 size, .int .i64 n] w fun e w' => e = .returned (.bool true) ∧ Ext w w' := by
  have hF := (Ext.refl w).alloc (.cells #[s, .int .i64 m.next] 31)
  have bM := Box.new w 31 #[s, .int .i64 m.next]
  have hL := hl.ext hF
  obtain ⟨a, cp, rfl, hlc, hcm, -⟩ := hl.form
  unfold maxLen at hcm
  clear hl
  have hg' := Lib.hid hg
  have hme := Lib.hid (memErr_bad hok)
  clear hg hok
  go_enter Try.func11, Try.ntmps11
  have bM_0 : World.cell? (World.alloc w (.cells #[.slice a m.al.length cp, .int .i64 m.next] 31)) ⟨w.heap.size, 0, none⟩ = some (.slice a m.al.length cp) := bM.cell 0
  have bM_1 : World.cell? (World.alloc w (.cells #[.slice a m.al.length cp, .int .i64 m.next] 31)) ⟨w.heap.size, 1, none⟩ = some (.int .i64 m.next) := bM.cell 1
  have bM_l := bM.lt
  go_wp2_with fail
  clear bM_0 bM_1 bM_l
  refine (law26_alive _).mono ?_
  rintro e w1 ⟨rfl, hE0⟩
  replace bM := bM.ext hE0
  replace hL := hL.ext hE0
  have hF0 := Ext.trans (hF) hE0
  have bM_0 : World.cell? w1 ⟨w.heap.size, 0, none⟩ = some (.slice a m.al.length cp) := bM.cell 0
  have bM_1 : World.cell? w1 ⟨w.heap.size, 1, none⟩ = some (.int .i64 m.next) := bM.cell 1
  have bM_l := bM.lt
  go_wp2_with fail
  clear bM_0 bM_1 bM_l
  refine (ref26_Great hL).mono ?_
  rintro e w2 ⟨rfl, hE1⟩
  replace bM := bM.ext hE1
  replace hL := hL.ext hE1
  have hF1 := Ext.trans (hF0) hE1
  rw [hg'.out]
  have bM_0 : World.cell? w2 ⟨w.heap.size, 0, none⟩ = some (.slice a m.al.length cp) := bM.cell 0
  have bM_1 : World.cell? w2 ⟨w.heap.size, 1, none⟩ = some (.int .i64 m.next) := bM.cell 1
  have bM_l := bM.lt
  go_wp2_with fail
  clear bM_0 bM_1 bM_l
  refine (ref26_Check hL hn).mono ?_
  rintro e w3 ⟨rfl, hE2⟩
  replace bM := bM.ext hE2
  replace hL := hL.ext hE2
  have hF2 := Ext.trans (hF1) hE2
  rw [hme.out]
  go_wp2
  go_ret
  exact ⟨rfl, hF2⟩

set_option maxRecDepth 100000 in
set_option maxHeartbeats 6400000 in
theorem allocsOthers_no_fail {m : Mem} {s : Value} {w : World} (size n : Int) (hl : Als w s m.al) (hn : i64B m.next) (hg : greatM m.al = false) (hok : m.ok = true) (ha : ∃ A k e, addR m size = (A, k, e) ∧ e ≠ 0) (he0 : endR m n = (Mem.zero, 6)) :
    Calls Try.prog 11 #[.agg #[s, .int .i64 m.next], .int .i64 size, .int .i64 n] w fun e w' => e = .returned (.bool true) ∧ Ext w w' := by
  have hF := (Ext.refl w).alloc (.cells #[s, .int .i64 m.next] 31)
  have bM := Box.new w 31 #[s, .int .i64 m.next]
  have hL := hl.ext hF
  obtain ⟨a, cp, rfl, hlc, hcm, -⟩ := hl.form
  unfold maxLen at hcm
  clear hl
  have hg' := Lib.hid hg
  have hme := Lib.hid (memErr_ok hok)
  have he := Lib.hid he0
  clear he0
  obtain ⟨AM, ak, ae, ha0, hae⟩ := ha
  have hae1 : (ae == 0) = false := beq_eq_false_iff_ne.2 hae
  have ha := Lib.hid ha0
  clear hg hok ha0 hae
  go_enter Try.func11, Try.ntmps11
  have bM_0 : World.cell? (World.alloc w (.cells #[.slice a m.al.length cp, .int .i64 m.next] 31)) ⟨w.heap.size, 0, none⟩ = some (.slice a m.al.length cp) := bM.cell 0
  have bM_1 : World.cell? (World.alloc w (.cells #[.slice a m.al.length cp, .int .i64 m.next] 31)) ⟨w.heap.size, 1, none⟩ = some (.int .i64 m.next) := bM.cell 1
  have bM_l := bM.lt
  go_wp2_with fail
  clear bM_0 bM_1 bM_l
  refine (law26_alive _).mono ?_
  rintro e w1 ⟨rfl, hE0⟩
  replace bM := bM.ext hE0
  replace hL := hL.ext hE0
  have hF0 := Ext.trans (hF) hE0
  have bM_0 : World.cell? w1 ⟨w.heap.size, 0, none⟩ = some (.slice a m.al.length cp) := bM.cell 0
  have bM_1 : World.cell? w1 ⟨w.heap.size, 1, none⟩ = some (.int .i64 m.next) := bM.cell 1
  have bM_l := bM.lt
  go_wp2_with fail
  clear bM_0 bM_1 bM_l
  refine (ref26_Great hL).mono ?_
  rintro e w2 ⟨rfl, hE1⟩
  replace bM := bM.ext hE1
  replace hL := hL.ext hE1
  have hF1 := Ext.trans (hF0) hE1
  rw [hg'.out]
  have bM_0 : World.cell? w2 ⟨w.heap.size, 0, none⟩ = some (.slice a m.al.length cp) := bM.cell 0
  have bM_1 : World.cell? w2 ⟨w.heap.size, 1, none⟩ = some (.int .i64 m.next) := bM.cell 1
  have bM_l := bM.lt
  go_wp2_with fail
  clear bM_0 bM_1 bM_l
  refine (ref26_Check hL hn).mono ?_
  rintro e w3 ⟨rfl, hE2⟩
  replace bM := bM.ext hE2
  replace hL := hL.ext hE2
  have hF2 := Ext.trans (hF1) hE2
  rw [hme.out]
  have bM_0 : World.cell? w3 ⟨w.heap.size, 0, none⟩ = some (.slice a m.al.length cp) := bM.cell 0
  have bM_1 : World.cell? w3 ⟨w.heap.size, 1, none⟩ = some (.int .i64 m.next) := bM.cell 1
  have bM_l := bM.lt
  go_wp2_with fail
  clear bM_0 bM_1 bM_l
  refine (allocs_Add size hL hn).mono ?_
  rintro e w4 ⟨qa, rfl, fa, hE3⟩
  replace bM := bM.ext hE3
  replace hL := hL.ext hE3
  have hF3 := Ext.trans (hF2) hE3
  rw [ha.out] at fa
  rw [ha.out]
  obtain ⟨qa', rfl, hAa⟩ := fa.read
  obtain ⟨sa, ca, rfl, -⟩ := hAa.form
  clear fa hAa
  dsimp only
  have bM_0 : World.cell? w4 ⟨w.heap.size, 0, none⟩ = some (.slice a m.al.length cp) := bM.cell 0
  have bM_1 : World.cell? w4 ⟨w.heap.size, 1, none⟩ = some (.int .i64 m.next) := bM.cell 1
  have bM_l := bM.lt
  go_wp2_with fail
  clear bM_0 bM_1 bM_l
  have bA := Box.new w4 31 #[.slice sa AM.al.length ca, .int .i64 AM.next]
  have hx4 : Ext w4 (World.alloc w4 (.cells #[.slice sa AM.al.length ca, .int .i64 AM.next] 31)) := (Ext.refl _).alloc _
  obtain ⟨w4b, hw4⟩ : ∃ x, World.alloc w4 (.cells #[.slice sa AM.al.length ca, .int .i64 AM.next] 31) = x := ⟨_, rfl⟩
  rw [hw4] at bA hx4 ⊢
  clear hw4
  replace bM := bM.ext hx4
  replace hL := hL.ext hx4
  have hF4 := Ext.trans (hF3) hx4
  refine (allocs_End n hL hn).mono ?_
  rintro e w6 ⟨qx, rfl, fx, hE5⟩
  replace bM := bM.ext hE5
  replace hL := hL.ext hE5
  replace bA := bA.ext hE5
  have hF5 := Ext.trans (hF4) hE5
  rw [he.out] at fx
  rw [he.out]
  obtain ⟨qx', rfl, zx⟩ := fx.read
  obtain ⟨sx, cx, rfl, -⟩ := zx.form1 0 rfl
  clear fx zx
  dsimp only [Mem.zero]
  go_wp2
  go_ret
  exact ⟨rfl, hF5.alloc _⟩

set_option maxRecDepth 100000 in
set_option maxHeartbeats 6400000 in
theorem allocsOthers_yes_fail {m : Mem} {s : Value} {w : World} (size n : Int) (hl : Als w s m.al) (hn : i64B m.next) (hg : greatM m.al = false) (hok : m.ok = true) (ha : ∃ k : Nat, size = (k : Int) ∧ (1 ≤ k ∧ k ≤ 2) ∧ ¬ (m.al.length = 400 ∨ m.next = 1000000) ∧ addR m size = (⟨m.al ++ [newAlloc m.next k], m.next + 1⟩, m.next, 0)) (he0 : endR m n = (Mem.zero, 6)) :
    Calls Try.prog 11 #[.agg #[s, .int .i64 m.next], .int .i64 size, .int .i64 n] w fun e w' => e = .returned (.bool true) ∧ Ext w w' := by
  have hF := (Ext.refl w).alloc (.cells #[s, .int .i64 m.next] 31)
  have bM := Box.new w 31 #[s, .int .i64 m.next]
  have hL := hl.ext hF
  obtain ⟨a, cp, rfl, hlc, hcm, -⟩ := hl.form
  unfold maxLen at hcm
  clear hl
  have hg' := Lib.hid hg
  have hme := Lib.hid (memErr_ok hok)
  have he := Lib.hid he0
  clear he0
  obtain ⟨k, rfl, hk, hf, ha0⟩ := ha
  obtain ⟨hb1, hb2, hb3⟩ := ok_bounds hok
  have hgp0 := get_push hok hf hk
  have hKa0 := kept_push hok hf hk m.next
  obtain ⟨NX, hNX⟩ : ∃ x, m.next + 1 = x := ⟨_, rfl⟩
  have hnx : i64B NX := by unfold i64B; omega
  obtain ⟨NA, hNA⟩ : ∃ x, newAlloc m.next k = x := ⟨_, rfl⟩
  obtain ⟨NL, hNL⟩ : ∃ x, m.al ++ [NA] = x := ⟨_, rfl⟩
  rw [hNX, hNA, hNL] at hgp0 hKa0 ha0
  have hN1 : NA.num = m.next := by rw [← hNA]; rfl
  have hN2 : NA.live = true := by rw [← hNA]; rfl
  have hN3 : NA.cells = List.replicate k Cell.zero := by rw [← hNA]; rfl
  have hN4 : NA.cells.length = k := by rw [hN3]; simp
  have hzo0 : ∀ w' : World, Cls (w'.alloc (.cells (zcells k) 25)) (.slice (some ⟨w'.heap.size, 0, none⟩) k k) NA.cells := fun w' => by
    have h := (zcells_own k (by omega) w' (Nat.zero_le _)).sl
    rw [hN3]
    exact h
  have hmk := make_Cells k (by omega)
  have ha := Lib.hid ha0; have hgp := Lib.hid hgp0; have hKa := Lib.hid hKa0; have hzo := Lib.hid hzo0; have hN := Lib.hid (And.intro hN1 hN2)
  have hN4 := Lib.hid hN4
  clear hg hok ha0 hgp0 hKa0 hzo0 hN1 hN2 hN3 hNX hNA hNL hf hb1 hb2 hb3
  go_enter Try.func11, Try.ntmps11
  have bM_0 : World.cell? (World.alloc w (.cells #[.slice a m.al.length cp, .int .i64 m.next] 31)) ⟨w.heap.size, 0, none⟩ = some (.slice a m.al.length cp) := bM.cell 0
  have bM_1 : World.cell? (World.alloc w (.cells #[.slice a m.al.length cp, .int .i64 m.next] 31)) ⟨w.heap.size, 1, none⟩ = some (.int .i64 m.next) := bM.cell 1
  have bM_l := bM.lt
  go_wp2_with fail
  clear bM_0 bM_1 bM_l
  refine (law26_alive _).mono ?_
  rintro e w1 ⟨rfl, hE0⟩
  replace bM := bM.ext hE0
  replace hL := hL.ext hE0
  have hF0 := Ext.trans (hF) hE0
  have bM_0 : World.cell? w1 ⟨w.heap.size, 0, none⟩ = some (.slice a m.al.length cp) := bM.cell 0
  have bM_1 : World.cell? w1 ⟨w.heap.size, 1, none⟩ = some (.int .i64 m.next) := bM.cell 1
  have bM_l := bM.lt
  go_wp2_with fail
  clear bM_0 bM_1 bM_l
  refine (ref26_Great hL).mono ?_
  rintro e w2 ⟨rfl, hE1⟩
  replace bM := bM.ext hE1
  replace hL := hL.ext hE1
  have hF1 := Ext.trans (hF0) hE1
  rw [hg'.out]
  have bM_0 : World.cell? w2 ⟨w.heap.size, 0, none⟩ = some (.slice a m.al.length cp) := bM.cell 0
  have bM_1 : World.cell? w2 ⟨w.heap.size, 1, none⟩ = some (.int .i64 m.next) := bM.cell 1
  have bM_l := bM.lt
  go_wp2_with fail
  clear bM_0 bM_1 bM_l
  refine (ref26_Check hL hn).mono ?_
  rintro e w3 ⟨rfl, hE2⟩
  replace bM := bM.ext hE2
  replace hL := hL.ext hE2
  have hF2 := Ext.trans (hF1) hE2
  rw [hme.out]
  have bM_0 : World.cell? w3 ⟨w.heap.size, 0, none⟩ = some (.slice a m.al.length cp) := bM.cell 0
  have bM_1 : World.cell? w3 ⟨w.heap.size, 1, none⟩ = some (.int .i64 m.next) := bM.cell 1
  have bM_l := bM.lt
  go_wp2_with fail
  clear bM_0 bM_1 bM_l
  refine (allocs_Add (k : Int) hL hn).mono ?_
  rintro e w4 ⟨qa, rfl, fa, hE3⟩
  replace bM := bM.ext hE3
  replace hL := hL.ext hE3
  have hF3 := Ext.trans (hF2) hE3
  rw [ha.out] at fa
  rw [ha.out]
  obtain ⟨qa', rfl, hAa⟩ := fa.read
  obtain ⟨sa, ca, rfl, -⟩ := hAa.form
  clear fa
  dsimp only
  have bM_0 : World.cell? w4 ⟨w.heap.size, 0, none⟩ = some (.slice a m.al.length cp) := bM.cell 0
  have bM_1 : World.cell? w4 ⟨w.heap.size, 1, none⟩ = some (.int .i64 m.next) := bM.cell 1
  have bM_l := bM.lt
  go_wp2_with fail
  clear bM_0 bM_1 bM_l
  have bA := Box.new w4 31 #[.slice sa NL.length ca, .int .i64 NX]
  have hx4 : Ext w4 (World.alloc w4 (.cells #[.slice sa NL.length ca, .int .i64 NX] 31)) := (Ext.refl _).alloc _
  obtain ⟨w4b, hw4⟩ : ∃ x, World.alloc w4 (.cells #[.slice sa NL.length ca, .int .i64 NX] 31) = x := ⟨_, rfl⟩
  rw [hw4] at bA hx4 ⊢
  clear hw4
  replace bM := bM.ext hx4
  replace hL := hL.ext hx4
  replace hAa := hAa.ext hx4
  have hF4 := Ext.trans (hF3) hx4
  refine (allocs_Get (m := ⟨NL, NX⟩) m.next hAa hnx).mono ?_
  rintro e w6 ⟨va, rfl, hga, hE5⟩
  replace bM := bM.ext hE5
  replace hL := hL.ext hE5
  replace hAa := hAa.ext hE5
  replace bA := bA.ext hE5
  have hF5 := Ext.trans (hF4) hE5
  rw [hgp.out] at hga
  rw [hgp.out]
  obtain ⟨ga, gca, rfl, -⟩ := hga.form1 k hN4.out
  dsimp only
  rw [hN.out.1, hN.out.2]
  have bM_0 : World.cell? w6 ⟨w.heap.size, 0, none⟩ = some (.slice a m.al.length cp) := bM.cell 0
  have bM_1 : World.cell? w6 ⟨w.heap.size, 1, none⟩ = some (.int .i64 m.next) := bM.cell 1
  have bM_l := bM.lt
  have bA_0 : World.cell? w6 ⟨w4.heap.size, 0, none⟩ = some (.slice sa NL.length ca) := bA.cell 0
  have bA_1 : World.cell? w6 ⟨w4.heap.size, 1, none⟩ = some (.int .i64 NX) := bA.cell 1
  have bA_l := bA.lt
  go_wp2
  clear bM_0 bM_1 bM_l
  clear bA_0 bA_1 bA_l
  have bG := Box.new w6 28 #[.int .i64 m.next, .bool true, .slice ga k gca]
  have hx6 : Ext w6 (World.alloc w6 (.cells #[.int .i64 m.next, .bool true, .slice ga k gca] 28)) := (Ext.refl _).alloc _
  obtain ⟨w6b, hw6⟩ : ∃ x, World.alloc w6 (.cells #[.int .i64 m.next, .bool true, .slice ga k gca] 28) = x := ⟨_, rfl⟩
  rw [hw6] at bG hx6 ⊢
  clear hw6
  replace bM := bM.ext hx6
  replace hL := hL.ext hx6
  replace hAa := hAa.ext hx6
  replace bA := bA.ext hx6
  replace hga := hga.ext hx6
  have hF6 := Ext.trans (hF5) hx6
  have bM_0 : World.cell? w6b ⟨w.heap.size, 0, none⟩ = some (.slice a m.al.length cp) := bM.cell 0
  have bM_1 : World.cell? w6b ⟨w.heap.size, 1, none⟩ = some (.int .i64 m.next) := bM.cell 1
  have bM_l := bM.lt
  have bA_0 : World.cell? w6b ⟨w4.heap.size, 0, none⟩ = some (.slice sa NL.length ca) := bA.cell 0
  have bA_1 : World.cell? w6b ⟨w4.heap.size, 1, none⟩ = some (.int .i64 NX) := bA.cell 1
  have bA_l := bA.lt
  have bG_0 : World.cell? w6b ⟨w6.heap.size, 0, none⟩ = some (.int .i64 m.next) := bG.cell 0
  have bG_1 : World.cell? w6b ⟨w6.heap.size, 1, none⟩ = some (.bool true) := bG.cell 1
  have bG_2 : World.cell? w6b ⟨w6.heap.size, 2, none⟩ = some (.slice ga k gca) := bG.cell 2
  have bG_l := bG.lt
  have hSk : ∀ w' w'' : World, (w'.cell? ⟨w.heap.size, 0, none⟩ = some (.slice a m.al.length cp) ∧ w'.cell? ⟨w.heap.size, 1, none⟩ = some (.int .i64 m.next) ∧ w'.cell? ⟨w4.heap.size, 0, none⟩ = some (.slice sa NL.length ca) ∧ w'.cell? ⟨w4.heap.size, 1, none⟩ = some (.int .i64 NX) ∧ w'.cell? ⟨w6.heap.size, 0, none⟩ = some (.int .i64 m.next) ∧ w'.cell? ⟨w6.heap.size, 1, none⟩ = some (.bool true) ∧ w'.cell? ⟨w6.heap.size, 2, none⟩ = some (.slice ga k gca) ∧ Ext w6b w') → Ext w' w'' → (w''.cell? ⟨w.heap.size, 0, none⟩ = some (.slice a m.al.length cp) ∧ w''.cell? ⟨w.heap.size, 1, none⟩ = some (.int .i64 m.next) ∧ w''.cell? ⟨w4.heap.size, 0, none⟩ = some (.slice sa NL.length ca) ∧ w''.cell? ⟨w4.heap.size, 1, none⟩ = some (.int .i64 NX) ∧ w''.cell? ⟨w6.heap.size, 0, none⟩ = some (.int .i64 m.next) ∧ w''.cell? ⟨w6.heap.size, 1, none⟩ = some (.bool true) ∧ w''.cell? ⟨w6.heap.size, 2, none⟩ = some (.slice ga k gca) ∧ Ext w6b w'') := by
    rintro w' w'' ⟨k0, k1, k2, k3, k4, k5, k6, kE⟩ h
    exact ⟨h.cell k0, h.cell k1, h.cell k2, h.cell k3, h.cell k4, h.cell k5, h.cell k6, Ext.trans kE h⟩
  go_region_held3 (fun w' => (w'.cell? ⟨w.heap.size, 0, none⟩ = some (.slice a m.al.length cp) ∧ w'.cell? ⟨w.heap.size, 1, none⟩ = some (.int .i64 m.next) ∧ w'.cell? ⟨w4.heap.size, 0, none⟩ = some (.slice sa NL.length ca) ∧ w'.cell? ⟨w4.heap.size, 1, none⟩ = some (.int .i64 NX) ∧ w'.cell? ⟨w6.heap.size, 0, none⟩ = some (.int .i64 m.next) ∧ w'.cell? ⟨w6.heap.size, 1, none⟩ = some (.bool true) ∧ w'.cell? ⟨w6.heap.size, 2, none⟩ = some (.slice ga k gca) ∧ Ext w6b w')) (first | assumption | exact ⟨bM_0, bM_1, bA_0, bA_1, bG_0, bG_1, bG_2, (Ext.refl _).drew⟩ | (refine hSk _ _ (by assumption) ?_; first | assumption | exact (Ext.refl _).alloc _ | exact ((Ext.refl _).alloc _).drew)) (first | (go_at_call 35; refine (ref26_SameAlloc (cs := NA.cells) (hga.ext ?_) ?_).mono ?_; (exact And.right (And.right (And.right (And.right (And.right (And.right (And.right (by assumption)))))))); (repeat (first | exact hzo.out _ | refine Cls.ext ?_ (Ext.refl _).drew | refine Cls.ext ?_ ((Ext.refl _).alloc _) | refine Cls.ext ?_ (by assumption))); rintro e wr0 ⟨rfl, hR0⟩) | (go_at_call 44; refine (law26_others (m := m) (x := ⟨NL, NX⟩) m.next (hL.ext ?_) (hAa.ext ?_) hnx hKa.out).mono ?_; (exact And.right (And.right (And.right (And.right (And.right (And.right (And.right (by assumption)))))))); (exact And.right (And.right (And.right (And.right (And.right (And.right (And.right (by assumption)))))))); rintro e wr1 ⟨rfl, hR1⟩))
  have hRR : Ext w6b wr1 := And.right (And.right (And.right (And.right (And.right (And.right (And.right ((by assumption : (World.cell? wr1 ⟨w.heap.size, 0, none⟩ = some (.slice a m.al.length cp) ∧ World.cell? wr1 ⟨w.heap.size, 1, none⟩ = some (.int .i64 m.next) ∧ World.cell? wr1 ⟨w4.heap.size, 0, none⟩ = some (.slice sa NL.length ca) ∧ World.cell? wr1 ⟨w4.heap.size, 1, none⟩ = some (.int .i64 NX) ∧ World.cell? wr1 ⟨w6.heap.size, 0, none⟩ = some (.int .i64 m.next) ∧ World.cell? wr1 ⟨w6.heap.size, 1, none⟩ = some (.bool true) ∧ World.cell? wr1 ⟨w6.heap.size, 2, none⟩ = some (.slice ga k gca) ∧ Ext w6b wr1)))))))))
  replace bM := bM.ext hRR
  replace hL := hL.ext hRR
  replace hAa := hAa.ext hRR
  replace bA := bA.ext hRR
  replace hga := hga.ext hRR
  replace bG := bG.ext hRR
  have hF7 := Ext.trans (hF6) hRR
  clear bM_0 bM_1 bM_l
  clear bA_0 bA_1 bA_l
  clear bG_0 bG_1 bG_2 bG_l
  have bM_0 : World.cell? wr1 ⟨w.heap.size, 0, none⟩ = some (.slice a m.al.length cp) := bM.cell 0
  have bM_1 : World.cell? wr1 ⟨w.heap.size, 1, none⟩ = some (.int .i64 m.next) := bM.cell 1
  have bM_l := bM.lt
  have bA_0 : World.cell? wr1 ⟨w4.heap.size, 0, none⟩ = some (.slice sa NL.length ca) := bA.cell 0
  have bA_1 : World.cell? wr1 ⟨w4.heap.size, 1, none⟩ = some (.int .i64 NX) := bA.cell 1
  have bA_l := bA.lt
  have bG_0 : World.cell? wr1 ⟨w6.heap.size, 0, none⟩ = some (.int .i64 m.next) := bG.cell 0
  have bG_1 : World.cell? wr1 ⟨w6.heap.size, 1, none⟩ = some (.bool true) := bG.cell 1
  have bG_2 : World.cell? wr1 ⟨w6.heap.size, 2, none⟩ = some (.slice ga k gca) := bG.cell 2
  have bG_l := bG.lt
  go_wp2_with fail
  clear bM_0 bM_1 bM_l
  clear bA_0 bA_1 bA_l
  clear bG_0 bG_1 bG_2 bG_l
  refine (allocs_End n hL hn).mono ?_
  rintro e w9 ⟨qx, rfl, fx, hE8⟩
  replace bM := bM.ext hE8
  replace hL := hL.ext hE8
  replace hAa := hAa.ext hE8
  replace bA := bA.ext hE8
  replace hga := hga.ext hE8
  replace bG := bG.ext hE8
  have hF8 := Ext.trans (hF7) hE8
  rw [he.out] at fx
  rw [he.out]
  obtain ⟨qx', rfl, zx⟩ := fx.read
  obtain ⟨sx, cx, rfl, -⟩ := zx.form1 0 rfl
  clear fx zx
  dsimp only [Mem.zero]
  go_wp2
  go_ret
  exact ⟨rfl, hF8.alloc _⟩

set_option maxRecDepth 100000 in
set_option maxHeartbeats 6400000 in
theorem allocsOthers_no_ok {m : Mem} {s : Value} {w : World} (size n : Int) (hl : Als w s m.al) (hn : i64B m.next) (hg : greatM m.al = false) (hok : m.ok = true) (ha : ∃ A k e, addR m size = (A, k, e) ∧ e ≠ 0) (hy : ∃ i x, m.al[i]? = some x ∧ x.num = n ∧ endR m n = (⟨m.al.set i (ended x), m.next⟩, 0)) :
    Calls Try.prog 11 #[.agg #[s, .int .i64 m.next], .int .i64 size, .int .i64 n] w fun e w' => e = .returned (.bool true) ∧ Ext w w' := by
  have hF := (Ext.refl w).alloc (.cells #[s, .int .i64 m.next] 31)
  have bM := Box.new w 31 #[s, .int .i64 m.next]
  have hL := hl.ext hF
  obtain ⟨a, cp, rfl, hlc, hcm, -⟩ := hl.form
  unfold maxLen at hcm
  clear hl
  have hg' := Lib.hid hg
  have hme := Lib.hid (memErr_ok hok)
  obtain ⟨i, y, hy, hyn, he0⟩ := hy
  have hge0 := get_ended hok hy
  have hee0 := end_ended hok hy
  have hKe0 := kept_ended hok hy
  rw [hyn] at hge0 hee0 hKe0
  obtain ⟨XL, hXL⟩ : ∃ L, m.al.set i (ended y) = L := ⟨_, rfl⟩
  rw [hXL] at he0 hge0 hee0 hKe0
  have hYl0 : (ended y).live = false := rfl
  obtain ⟨Y, hY⟩ : ∃ Y, ended y = Y := ⟨_, rfl⟩
  rw [hY] at hge0 hYl0
  have he := Lib.hid he0; have hge := Lib.hid hge0; have hee := Lib.hid hee0; have hKe := Lib.hid hKe0; have hYl := Lib.hid hYl0
  clear he0 hge0 hee0 hKe0 hYl0 hXL hY hy hyn
  obtain ⟨AM, ak, ae, ha0, hae⟩ := ha
  have hae1 : (ae == 0) = false := beq_eq_false_iff_ne.2 hae
  have ha := Lib.hid ha0
  clear hg hok ha0 hae
  go_enter Try.func11, Try.ntmps11
  have bM_0 : World.cell? (World.alloc w (.cells #[.slice a m.al.length cp, .int .i64 m.next] 31)) ⟨w.heap.size, 0, none⟩ = some (.slice a m.al.length cp) := bM.cell 0
  have bM_1 : World.cell? (World.alloc w (.cells #[.slice a m.al.length cp, .int .i64 m.next] 31)) ⟨w.heap.size, 1, none⟩ = some (.int .i64 m.next) := bM.cell 1
  have bM_l := bM.lt
  go_wp2_with fail
  clear bM_0 bM_1 bM_l
  refine (law26_alive _).mono ?_
  rintro e w1 ⟨rfl, hE0⟩
  replace bM := bM.ext hE0
  replace hL := hL.ext hE0
  have hF0 := Ext.trans (hF) hE0
  have bM_0 : World.cell? w1 ⟨w.heap.size, 0, none⟩ = some (.slice a m.al.length cp) := bM.cell 0
  have bM_1 : World.cell? w1 ⟨w.heap.size, 1, none⟩ = some (.int .i64 m.next) := bM.cell 1
  have bM_l := bM.lt
  go_wp2_with fail
  clear bM_0 bM_1 bM_l
  refine (ref26_Great hL).mono ?_
  rintro e w2 ⟨rfl, hE1⟩
  replace bM := bM.ext hE1
  replace hL := hL.ext hE1
  have hF1 := Ext.trans (hF0) hE1
  rw [hg'.out]
  have bM_0 : World.cell? w2 ⟨w.heap.size, 0, none⟩ = some (.slice a m.al.length cp) := bM.cell 0
  have bM_1 : World.cell? w2 ⟨w.heap.size, 1, none⟩ = some (.int .i64 m.next) := bM.cell 1
  have bM_l := bM.lt
  go_wp2_with fail
  clear bM_0 bM_1 bM_l
  refine (ref26_Check hL hn).mono ?_
  rintro e w3 ⟨rfl, hE2⟩
  replace bM := bM.ext hE2
  replace hL := hL.ext hE2
  have hF2 := Ext.trans (hF1) hE2
  rw [hme.out]
  have bM_0 : World.cell? w3 ⟨w.heap.size, 0, none⟩ = some (.slice a m.al.length cp) := bM.cell 0
  have bM_1 : World.cell? w3 ⟨w.heap.size, 1, none⟩ = some (.int .i64 m.next) := bM.cell 1
  have bM_l := bM.lt
  go_wp2_with fail
  clear bM_0 bM_1 bM_l
  refine (allocs_Add size hL hn).mono ?_
  rintro e w4 ⟨qa, rfl, fa, hE3⟩
  replace bM := bM.ext hE3
  replace hL := hL.ext hE3
  have hF3 := Ext.trans (hF2) hE3
  rw [ha.out] at fa
  rw [ha.out]
  obtain ⟨qa', rfl, hAa⟩ := fa.read
  obtain ⟨sa, ca, rfl, -⟩ := hAa.form
  clear fa hAa
  dsimp only
  have bM_0 : World.cell? w4 ⟨w.heap.size, 0, none⟩ = some (.slice a m.al.length cp) := bM.cell 0
  have bM_1 : World.cell? w4 ⟨w.heap.size, 1, none⟩ = some (.int .i64 m.next) := bM.cell 1
  have bM_l := bM.lt
  go_wp2_with fail
  clear bM_0 bM_1 bM_l
  have bA := Box.new w4 31 #[.slice sa AM.al.length ca, .int .i64 AM.next]
  have hx4 : Ext w4 (World.alloc w4 (.cells #[.slice sa AM.al.length ca, .int .i64 AM.next] 31)) := (Ext.refl _).alloc _
  obtain ⟨w4b, hw4⟩ : ∃ x, World.alloc w4 (.cells #[.slice sa AM.al.length ca, .int .i64 AM.next] 31) = x := ⟨_, rfl⟩
  rw [hw4] at bA hx4 ⊢
  clear hw4
  replace bM := bM.ext hx4
  replace hL := hL.ext hx4
  have hF4 := Ext.trans (hF3) hx4
  refine (allocs_End n hL hn).mono ?_
  rintro e w6 ⟨qx, rfl, fx, hE5⟩
  replace bM := bM.ext hE5
  replace hL := hL.ext hE5
  replace bA := bA.ext hE5
  have hF5 := Ext.trans (hF4) hE5
  rw [he.out] at fx
  rw [he.out]
  obtain ⟨qx', rfl, hx⟩ := fx.read
  obtain ⟨sx, cx, rfl, -⟩ := hx.form
  clear fx
  dsimp only
  have bM_0 : World.cell? w6 ⟨w.heap.size, 0, none⟩ = some (.slice a m.al.length cp) := bM.cell 0
  have bM_1 : World.cell? w6 ⟨w.heap.size, 1, none⟩ = some (.int .i64 m.next) := bM.cell 1
  have bM_l := bM.lt
  have bA_0 : World.cell? w6 ⟨w4.heap.size, 0, none⟩ = some (.slice sa AM.al.length ca) := bA.cell 0
  have bA_1 : World.cell? w6 ⟨w4.heap.size, 1, none⟩ = some (.int .i64 AM.next) := bA.cell 1
  have bA_l := bA.lt
  go_wp2_with fail
  clear bM_0 bM_1 bM_l
  clear bA_0 bA_1 bA_l
  have bX := Box.new w6 31 #[.slice sx XL.length cx, .int .i64 m.next]
  have hx6 : Ext w6 (World.alloc w6 (.cells #[.slice sx XL.length cx, .int .i64 m.next] 31)) := (Ext.refl _).alloc _
  obtain ⟨w6b, hw6⟩ : ∃ x, World.alloc w6 (.cells #[.slice sx XL.length cx, .int .i64 m.next] 31) = x := ⟨_, rfl⟩
  rw [hw6] at bX hx6 ⊢
  clear hw6
  replace bM := bM.ext hx6
  replace hL := hL.ext hx6
  replace bA := bA.ext hx6
  replace hx := hx.ext hx6
  have hF6 := Ext.trans (hF5) hx6
  refine (allocs_Get (m := ⟨XL, m.next⟩) n hx hn).mono ?_
  rintro e w8 ⟨vy, rfl, hgy, hE7⟩
  replace bM := bM.ext hE7
  replace hL := hL.ext hE7
  replace bA := bA.ext hE7
  replace hx := hx.ext hE7
  replace bX := bX.ext hE7
  have hF7 := Ext.trans (hF6) hE7
  rw [hge.out] at hgy
  rw [hge.out]
  obtain ⟨gy, gcy, rfl, -⟩ := hgy.form
  dsimp only
  rw [hYl.out]
  clear hgy
  have bM_0 : World.cell? w8 ⟨w.heap.size, 0, none⟩ = some (.slice a m.al.length cp) := bM.cell 0
  have bM_1 : World.cell? w8 ⟨w.heap.size, 1, none⟩ = some (.int .i64 m.next) := bM.cell 1
  have bM_l := bM.lt
  have bA_0 : World.cell? w8 ⟨w4.heap.size, 0, none⟩ = some (.slice sa AM.al.length ca) := bA.cell 0
  have bA_1 : World.cell? w8 ⟨w4.heap.size, 1, none⟩ = some (.int .i64 AM.next) := bA.cell 1
  have bA_l := bA.lt
  have bX_0 : World.cell? w8 ⟨w6.heap.size, 0, none⟩ = some (.slice sx XL.length cx) := bX.cell 0
  have bX_1 : World.cell? w8 ⟨w6.heap.size, 1, none⟩ = some (.int .i64 m.next) := bX.cell 1
  have bX_l := bX.lt
  go_wp2_with fail
  clear bM_0 bM_1 bM_l
  clear bA_0 bA_1 bA_l
  clear bX_0 bX_1 bX_l
  have bY := Box.new w8 28 #[.int .i64 Y.num, .bool false, .slice gy Y.cells.length gcy]
  have hx8 : Ext w8 (World.alloc w8 (.cells #[.int .i64 Y.num, .bool false, .slice gy Y.cells.length gcy] 28)) := (Ext.refl _).alloc _
  obtain ⟨w8b, hw8⟩ : ∃ x, World.alloc w8 (.cells #[.int .i64 Y.num, .bool false, .slice gy Y.cells.length gcy] 28) = x := ⟨_, rfl⟩
  rw [hw8] at bY hx8 ⊢
  clear hw8
  replace bM := bM.ext hx8
  replace hL := hL.ext hx8
  replace bA := bA.ext hx8
  replace hx := hx.ext hx8
  replace bX := bX.ext hx8
  have hF8 := Ext.trans (hF7) hx8
  refine (allocs_End (m := ⟨XL, m.next⟩) n hx hn).mono ?_
  rintro e w10 ⟨qz, rfl, fz, hE9⟩
  replace bM := bM.ext hE9
  replace hL := hL.ext hE9
  replace bA := bA.ext hE9
  replace hx := hx.ext hE9
  replace bX := bX.ext hE9
  replace bY := bY.ext hE9
  have hF9 := Ext.trans (hF8) hE9
  rw [hee.out] at fz
  rw [hee.out]
  obtain ⟨qz', rfl, zz⟩ := fz.read
  obtain ⟨sz, cz, rfl, -⟩ := zz.form1 0 rfl
  clear fz zz
  dsimp only [Mem.zero]
  have bM_0 : World.cell? w10 ⟨w.heap.size, 0, none⟩ = some (.slice a m.al.length cp) := bM.cell 0
  have bM_1 : World.cell? w10 ⟨w.heap.size, 1, none⟩ = some (.int .i64 m.next) := bM.cell 1
  have bM_l := bM.lt
  have bA_0 : World.cell? w10 ⟨w4.heap.size, 0, none⟩ = some (.slice sa AM.al.length ca) := bA.cell 0
  have bA_1 : World.cell? w10 ⟨w4.heap.size, 1, none⟩ = some (.int .i64 AM.next) := bA.cell 1
  have bA_l := bA.lt
  have bX_0 : World.cell? w10 ⟨w6.heap.size, 0, none⟩ = some (.slice sx XL.length cx) := bX.cell 0
  have bX_1 : World.cell? w10 ⟨w6.heap.size, 1, none⟩ = some (.int .i64 m.next) := bX.cell 1
  have bX_l := bX.lt
  have bY_0 : World.cell? w10 ⟨w8.heap.size, 0, none⟩ = some (.int .i64 Y.num) := bY.cell 0
  have bY_1 : World.cell? w10 ⟨w8.heap.size, 1, none⟩ = some (.bool false) := bY.cell 1
  have bY_2 : World.cell? w10 ⟨w8.heap.size, 2, none⟩ = some (.slice gy Y.cells.length gcy) := bY.cell 2
  have bY_l := bY.lt
  go_wp2_with fail
  clear bM_0 bM_1 bM_l
  clear bA_0 bA_1 bA_l
  clear bX_0 bX_1 bX_l
  clear bY_0 bY_1 bY_2 bY_l
  have bZ := Box.new w10 31 #[.slice sz 0 cz, .int .i64 0]
  have hx10 : Ext w10 (World.alloc w10 (.cells #[.slice sz 0 cz, .int .i64 0] 31)) := (Ext.refl _).alloc _
  obtain ⟨w10b, hw10⟩ : ∃ x, World.alloc w10 (.cells #[.slice sz 0 cz, .int .i64 0] 31) = x := ⟨_, rfl⟩
  rw [hw10] at bZ hx10 ⊢
  clear hw10
  replace bM := bM.ext hx10
  replace hL := hL.ext hx10
  replace bA := bA.ext hx10
  replace hx := hx.ext hx10
  replace bX := bX.ext hx10
  replace bY := bY.ext hx10
  have hF10 := Ext.trans (hF9) hx10
  refine (law26_others (m := m) (x := ⟨XL, m.next⟩) n hL hx hn hKe.out).mono ?_
  rintro e w12 ⟨rfl, hE11⟩
  replace bM := bM.ext hE11
  replace hL := hL.ext hE11
  replace bA := bA.ext hE11
  replace hx := hx.ext hE11
  replace bX := bX.ext hE11
  replace bY := bY.ext hE11
  replace bZ := bZ.ext hE11
  have hF11 := Ext.trans (hF10) hE11
  go_wp2
  go_ret
  exact ⟨rfl, hF11⟩

set_option maxRecDepth 100000 in
set_option maxHeartbeats 6400000 in
theorem allocsOthers_yes_ok {m : Mem} {s : Value} {w : World} (size n : Int) (hl : Als w s m.al) (hn : i64B m.next) (hg : greatM m.al = false) (hok : m.ok = true) (ha : ∃ k : Nat, size = (k : Int) ∧ (1 ≤ k ∧ k ≤ 2) ∧ ¬ (m.al.length = 400 ∨ m.next = 1000000) ∧ addR m size = (⟨m.al ++ [newAlloc m.next k], m.next + 1⟩, m.next, 0)) (hy : ∃ i x, m.al[i]? = some x ∧ x.num = n ∧ endR m n = (⟨m.al.set i (ended x), m.next⟩, 0)) :
    Calls Try.prog 11 #[.agg #[s, .int .i64 m.next], .int .i64 size, .int .i64 n] w fun e w' => e = .returned (.bool true) ∧ Ext w w' := by
  have hF := (Ext.refl w).alloc (.cells #[s, .int .i64 m.next] 31)
  have bM := Box.new w 31 #[s, .int .i64 m.next]
  have hL := hl.ext hF
  obtain ⟨a, cp, rfl, hlc, hcm, -⟩ := hl.form
  unfold maxLen at hcm
  clear hl
  have hg' := Lib.hid hg
  have hme := Lib.hid (memErr_ok hok)
  obtain ⟨i, y, hy, hyn, he0⟩ := hy
  have hge0 := get_ended hok hy
  have hee0 := end_ended hok hy
  have hKe0 := kept_ended hok hy
  rw [hyn] at hge0 hee0 hKe0
  obtain ⟨XL, hXL⟩ : ∃ L, m.al.set i (ended y) = L := ⟨_, rfl⟩
  rw [hXL] at he0 hge0 hee0 hKe0
  have hYl0 : (ended y).live = false := rfl
  obtain ⟨Y, hY⟩ : ∃ Y, ended y = Y := ⟨_, rfl⟩
  rw [hY] at hge0 hYl0
  have he := Lib.hid he0; have hge := Lib.hid hge0; have hee := Lib.hid hee0; have hKe := Lib.hid hKe0; have hYl := Lib.hid hYl0
  clear he0 hge0 hee0 hKe0 hYl0 hXL hY hy hyn
  obtain ⟨k, rfl, hk, hf, ha0⟩ := ha
  obtain ⟨hb1, hb2, hb3⟩ := ok_bounds hok
  have hgp0 := get_push hok hf hk
  have hKa0 := kept_push hok hf hk m.next
  obtain ⟨NX, hNX⟩ : ∃ x, m.next + 1 = x := ⟨_, rfl⟩
  have hnx : i64B NX := by unfold i64B; omega
  obtain ⟨NA, hNA⟩ : ∃ x, newAlloc m.next k = x := ⟨_, rfl⟩
  obtain ⟨NL, hNL⟩ : ∃ x, m.al ++ [NA] = x := ⟨_, rfl⟩
  rw [hNX, hNA, hNL] at hgp0 hKa0 ha0
  have hN1 : NA.num = m.next := by rw [← hNA]; rfl
  have hN2 : NA.live = true := by rw [← hNA]; rfl
  have hN3 : NA.cells = List.replicate k Cell.zero := by rw [← hNA]; rfl
  have hN4 : NA.cells.length = k := by rw [hN3]; simp
  have hzo0 : ∀ w' : World, Cls (w'.alloc (.cells (zcells k) 25)) (.slice (some ⟨w'.heap.size, 0, none⟩) k k) NA.cells := fun w' => by
    have h := (zcells_own k (by omega) w' (Nat.zero_le _)).sl
    rw [hN3]
    exact h
  have hmk := make_Cells k (by omega)
  have ha := Lib.hid ha0; have hgp := Lib.hid hgp0; have hKa := Lib.hid hKa0; have hzo := Lib.hid hzo0; have hN := Lib.hid (And.intro hN1 hN2)
  have hN4 := Lib.hid hN4
  clear hg hok ha0 hgp0 hKa0 hzo0 hN1 hN2 hN3 hNX hNA hNL hf hb1 hb2 hb3
  go_enter Try.func11, Try.ntmps11
  have bM_0 : World.cell? (World.alloc w (.cells #[.slice a m.al.length cp, .int .i64 m.next] 31)) ⟨w.heap.size, 0, none⟩ = some (.slice a m.al.length cp) := bM.cell 0
  have bM_1 : World.cell? (World.alloc w (.cells #[.slice a m.al.length cp, .int .i64 m.next] 31)) ⟨w.heap.size, 1, none⟩ = some (.int .i64 m.next) := bM.cell 1
  have bM_l := bM.lt
  go_wp2_with fail
  clear bM_0 bM_1 bM_l
  refine (law26_alive _).mono ?_
  rintro e w1 ⟨rfl, hE0⟩
  replace bM := bM.ext hE0
  replace hL := hL.ext hE0
  have hF0 := Ext.trans (hF) hE0
  have bM_0 : World.cell? w1 ⟨w.heap.size, 0, none⟩ = some (.slice a m.al.length cp) := bM.cell 0
  have bM_1 : World.cell? w1 ⟨w.heap.size, 1, none⟩ = some (.int .i64 m.next) := bM.cell 1
  have bM_l := bM.lt
  go_wp2_with fail
  clear bM_0 bM_1 bM_l
  refine (ref26_Great hL).mono ?_
  rintro e w2 ⟨rfl, hE1⟩
  replace bM := bM.ext hE1
  replace hL := hL.ext hE1
  have hF1 := Ext.trans (hF0) hE1
  rw [hg'.out]
  have bM_0 : World.cell? w2 ⟨w.heap.size, 0, none⟩ = some (.slice a m.al.length cp) := bM.cell 0
  have bM_1 : World.cell? w2 ⟨w.heap.size, 1, none⟩ = some (.int .i64 m.next) := bM.cell 1
  have bM_l := bM.lt
  go_wp2_with fail
  clear bM_0 bM_1 bM_l
  refine (ref26_Check hL hn).mono ?_
  rintro e w3 ⟨rfl, hE2⟩
  replace bM := bM.ext hE2
  replace hL := hL.ext hE2
  have hF2 := Ext.trans (hF1) hE2
  rw [hme.out]
  have bM_0 : World.cell? w3 ⟨w.heap.size, 0, none⟩ = some (.slice a m.al.length cp) := bM.cell 0
  have bM_1 : World.cell? w3 ⟨w.heap.size, 1, none⟩ = some (.int .i64 m.next) := bM.cell 1
  have bM_l := bM.lt
  go_wp2_with fail
  clear bM_0 bM_1 bM_l
  refine (allocs_Add (k : Int) hL hn).mono ?_
  rintro e w4 ⟨qa, rfl, fa, hE3⟩
  replace bM := bM.ext hE3
  replace hL := hL.ext hE3
  have hF3 := Ext.trans (hF2) hE3
  rw [ha.out] at fa
  rw [ha.out]
  obtain ⟨qa', rfl, hAa⟩ := fa.read
  obtain ⟨sa, ca, rfl, -⟩ := hAa.form
  clear fa
  dsimp only
  have bM_0 : World.cell? w4 ⟨w.heap.size, 0, none⟩ = some (.slice a m.al.length cp) := bM.cell 0
  have bM_1 : World.cell? w4 ⟨w.heap.size, 1, none⟩ = some (.int .i64 m.next) := bM.cell 1
  have bM_l := bM.lt
  go_wp2_with fail
  clear bM_0 bM_1 bM_l
  have bA := Box.new w4 31 #[.slice sa NL.length ca, .int .i64 NX]
  have hx4 : Ext w4 (World.alloc w4 (.cells #[.slice sa NL.length ca, .int .i64 NX] 31)) := (Ext.refl _).alloc _
  obtain ⟨w4b, hw4⟩ : ∃ x, World.alloc w4 (.cells #[.slice sa NL.length ca, .int .i64 NX] 31) = x := ⟨_, rfl⟩
  rw [hw4] at bA hx4 ⊢
  clear hw4
  replace bM := bM.ext hx4
  replace hL := hL.ext hx4
  replace hAa := hAa.ext hx4
  have hF4 := Ext.trans (hF3) hx4
  refine (allocs_Get (m := ⟨NL, NX⟩) m.next hAa hnx).mono ?_
  rintro e w6 ⟨va, rfl, hga, hE5⟩
  replace bM := bM.ext hE5
  replace hL := hL.ext hE5
  replace hAa := hAa.ext hE5
  replace bA := bA.ext hE5
  have hF5 := Ext.trans (hF4) hE5
  rw [hgp.out] at hga
  rw [hgp.out]
  obtain ⟨ga, gca, rfl, -⟩ := hga.form1 k hN4.out
  dsimp only
  rw [hN.out.1, hN.out.2]
  have bM_0 : World.cell? w6 ⟨w.heap.size, 0, none⟩ = some (.slice a m.al.length cp) := bM.cell 0
  have bM_1 : World.cell? w6 ⟨w.heap.size, 1, none⟩ = some (.int .i64 m.next) := bM.cell 1
  have bM_l := bM.lt
  have bA_0 : World.cell? w6 ⟨w4.heap.size, 0, none⟩ = some (.slice sa NL.length ca) := bA.cell 0
  have bA_1 : World.cell? w6 ⟨w4.heap.size, 1, none⟩ = some (.int .i64 NX) := bA.cell 1
  have bA_l := bA.lt
  go_wp2
  clear bM_0 bM_1 bM_l
  clear bA_0 bA_1 bA_l
  have bG := Box.new w6 28 #[.int .i64 m.next, .bool true, .slice ga k gca]
  have hx6 : Ext w6 (World.alloc w6 (.cells #[.int .i64 m.next, .bool true, .slice ga k gca] 28)) := (Ext.refl _).alloc _
  obtain ⟨w6b, hw6⟩ : ∃ x, World.alloc w6 (.cells #[.int .i64 m.next, .bool true, .slice ga k gca] 28) = x := ⟨_, rfl⟩
  rw [hw6] at bG hx6 ⊢
  clear hw6
  replace bM := bM.ext hx6
  replace hL := hL.ext hx6
  replace hAa := hAa.ext hx6
  replace bA := bA.ext hx6
  replace hga := hga.ext hx6
  have hF6 := Ext.trans (hF5) hx6
  have bM_0 : World.cell? w6b ⟨w.heap.size, 0, none⟩ = some (.slice a m.al.length cp) := bM.cell 0
  have bM_1 : World.cell? w6b ⟨w.heap.size, 1, none⟩ = some (.int .i64 m.next) := bM.cell 1
  have bM_l := bM.lt
  have bA_0 : World.cell? w6b ⟨w4.heap.size, 0, none⟩ = some (.slice sa NL.length ca) := bA.cell 0
  have bA_1 : World.cell? w6b ⟨w4.heap.size, 1, none⟩ = some (.int .i64 NX) := bA.cell 1
  have bA_l := bA.lt
  have bG_0 : World.cell? w6b ⟨w6.heap.size, 0, none⟩ = some (.int .i64 m.next) := bG.cell 0
  have bG_1 : World.cell? w6b ⟨w6.heap.size, 1, none⟩ = some (.bool true) := bG.cell 1
  have bG_2 : World.cell? w6b ⟨w6.heap.size, 2, none⟩ = some (.slice ga k gca) := bG.cell 2
  have bG_l := bG.lt
  have hSk : ∀ w' w'' : World, (w'.cell? ⟨w.heap.size, 0, none⟩ = some (.slice a m.al.length cp) ∧ w'.cell? ⟨w.heap.size, 1, none⟩ = some (.int .i64 m.next) ∧ w'.cell? ⟨w4.heap.size, 0, none⟩ = some (.slice sa NL.length ca) ∧ w'.cell? ⟨w4.heap.size, 1, none⟩ = some (.int .i64 NX) ∧ w'.cell? ⟨w6.heap.size, 0, none⟩ = some (.int .i64 m.next) ∧ w'.cell? ⟨w6.heap.size, 1, none⟩ = some (.bool true) ∧ w'.cell? ⟨w6.heap.size, 2, none⟩ = some (.slice ga k gca) ∧ Ext w6b w') → Ext w' w'' → (w''.cell? ⟨w.heap.size, 0, none⟩ = some (.slice a m.al.length cp) ∧ w''.cell? ⟨w.heap.size, 1, none⟩ = some (.int .i64 m.next) ∧ w''.cell? ⟨w4.heap.size, 0, none⟩ = some (.slice sa NL.length ca) ∧ w''.cell? ⟨w4.heap.size, 1, none⟩ = some (.int .i64 NX) ∧ w''.cell? ⟨w6.heap.size, 0, none⟩ = some (.int .i64 m.next) ∧ w''.cell? ⟨w6.heap.size, 1, none⟩ = some (.bool true) ∧ w''.cell? ⟨w6.heap.size, 2, none⟩ = some (.slice ga k gca) ∧ Ext w6b w'') := by
    rintro w' w'' ⟨k0, k1, k2, k3, k4, k5, k6, kE⟩ h
    exact ⟨h.cell k0, h.cell k1, h.cell k2, h.cell k3, h.cell k4, h.cell k5, h.cell k6, Ext.trans kE h⟩
  go_region_held3 (fun w' => (w'.cell? ⟨w.heap.size, 0, none⟩ = some (.slice a m.al.length cp) ∧ w'.cell? ⟨w.heap.size, 1, none⟩ = some (.int .i64 m.next) ∧ w'.cell? ⟨w4.heap.size, 0, none⟩ = some (.slice sa NL.length ca) ∧ w'.cell? ⟨w4.heap.size, 1, none⟩ = some (.int .i64 NX) ∧ w'.cell? ⟨w6.heap.size, 0, none⟩ = some (.int .i64 m.next) ∧ w'.cell? ⟨w6.heap.size, 1, none⟩ = some (.bool true) ∧ w'.cell? ⟨w6.heap.size, 2, none⟩ = some (.slice ga k gca) ∧ Ext w6b w')) (first | assumption | exact ⟨bM_0, bM_1, bA_0, bA_1, bG_0, bG_1, bG_2, (Ext.refl _).drew⟩ | (refine hSk _ _ (by assumption) ?_; first | assumption | exact (Ext.refl _).alloc _ | exact ((Ext.refl _).alloc _).drew)) (first | (go_at_call 35; refine (ref26_SameAlloc (cs := NA.cells) (hga.ext ?_) ?_).mono ?_; (exact And.right (And.right (And.right (And.right (And.right (And.right (And.right (by assumption)))))))); (repeat (first | exact hzo.out _ | refine Cls.ext ?_ (Ext.refl _).drew | refine Cls.ext ?_ ((Ext.refl _).alloc _) | refine Cls.ext ?_ (by assumption))); rintro e wr0 ⟨rfl, hR0⟩) | (go_at_call 44; refine (law26_others (m := m) (x := ⟨NL, NX⟩) m.next (hL.ext ?_) (hAa.ext ?_) hnx hKa.out).mono ?_; (exact And.right (And.right (And.right (And.right (And.right (And.right (And.right (by assumption)))))))); (exact And.right (And.right (And.right (And.right (And.right (And.right (And.right (by assumption)))))))); rintro e wr1 ⟨rfl, hR1⟩))
  have hRR : Ext w6b wr1 := And.right (And.right (And.right (And.right (And.right (And.right (And.right ((by assumption : (World.cell? wr1 ⟨w.heap.size, 0, none⟩ = some (.slice a m.al.length cp) ∧ World.cell? wr1 ⟨w.heap.size, 1, none⟩ = some (.int .i64 m.next) ∧ World.cell? wr1 ⟨w4.heap.size, 0, none⟩ = some (.slice sa NL.length ca) ∧ World.cell? wr1 ⟨w4.heap.size, 1, none⟩ = some (.int .i64 NX) ∧ World.cell? wr1 ⟨w6.heap.size, 0, none⟩ = some (.int .i64 m.next) ∧ World.cell? wr1 ⟨w6.heap.size, 1, none⟩ = some (.bool true) ∧ World.cell? wr1 ⟨w6.heap.size, 2, none⟩ = some (.slice ga k gca) ∧ Ext w6b wr1)))))))))
  replace bM := bM.ext hRR
  replace hL := hL.ext hRR
  replace hAa := hAa.ext hRR
  replace bA := bA.ext hRR
  replace hga := hga.ext hRR
  replace bG := bG.ext hRR
  have hF7 := Ext.trans (hF6) hRR
  clear bM_0 bM_1 bM_l
  clear bA_0 bA_1 bA_l
  clear bG_0 bG_1 bG_2 bG_l
  have bM_0 : World.cell? wr1 ⟨w.heap.size, 0, none⟩ = some (.slice a m.al.length cp) := bM.cell 0
  have bM_1 : World.cell? wr1 ⟨w.heap.size, 1, none⟩ = some (.int .i64 m.next) := bM.cell 1
  have bM_l := bM.lt
  have bA_0 : World.cell? wr1 ⟨w4.heap.size, 0, none⟩ = some (.slice sa NL.length ca) := bA.cell 0
  have bA_1 : World.cell? wr1 ⟨w4.heap.size, 1, none⟩ = some (.int .i64 NX) := bA.cell 1
  have bA_l := bA.lt
  have bG_0 : World.cell? wr1 ⟨w6.heap.size, 0, none⟩ = some (.int .i64 m.next) := bG.cell 0
  have bG_1 : World.cell? wr1 ⟨w6.heap.size, 1, none⟩ = some (.bool true) := bG.cell 1
  have bG_2 : World.cell? wr1 ⟨w6.heap.size, 2, none⟩ = some (.slice ga k gca) := bG.cell 2
  have bG_l := bG.lt
  go_wp2_with fail
  clear bM_0 bM_1 bM_l
  clear bA_0 bA_1 bA_l
  clear bG_0 bG_1 bG_2 bG_l
  refine (allocs_End n hL hn).mono ?_
  rintro e w9 ⟨qx, rfl, fx, hE8⟩
  replace bM := bM.ext hE8
  replace hL := hL.ext hE8
  replace hAa := hAa.ext hE8
  replace bA := bA.ext hE8
  replace hga := hga.ext hE8
  replace bG := bG.ext hE8
  have hF8 := Ext.trans (hF7) hE8
  rw [he.out] at fx
  rw [he.out]
  obtain ⟨qx', rfl, hx⟩ := fx.read
  obtain ⟨sx, cx, rfl, -⟩ := hx.form
  clear fx
  dsimp only
  have bM_0 : World.cell? w9 ⟨w.heap.size, 0, none⟩ = some (.slice a m.al.length cp) := bM.cell 0
  have bM_1 : World.cell? w9 ⟨w.heap.size, 1, none⟩ = some (.int .i64 m.next) := bM.cell 1
  have bM_l := bM.lt
  have bA_0 : World.cell? w9 ⟨w4.heap.size, 0, none⟩ = some (.slice sa NL.length ca) := bA.cell 0
  have bA_1 : World.cell? w9 ⟨w4.heap.size, 1, none⟩ = some (.int .i64 NX) := bA.cell 1
  have bA_l := bA.lt
  have bG_0 : World.cell? w9 ⟨w6.heap.size, 0, none⟩ = some (.int .i64 m.next) := bG.cell 0
  have bG_1 : World.cell? w9 ⟨w6.heap.size, 1, none⟩ = some (.bool true) := bG.cell 1
  have bG_2 : World.cell? w9 ⟨w6.heap.size, 2, none⟩ = some (.slice ga k gca) := bG.cell 2
  have bG_l := bG.lt
  go_wp2_with fail
  clear bM_0 bM_1 bM_l
  clear bA_0 bA_1 bA_l
  clear bG_0 bG_1 bG_2 bG_l
  have bX := Box.new w9 31 #[.slice sx XL.length cx, .int .i64 m.next]
  have hx9 : Ext w9 (World.alloc w9 (.cells #[.slice sx XL.length cx, .int .i64 m.next] 31)) := (Ext.refl _).alloc _
  obtain ⟨w9b, hw9⟩ : ∃ x, World.alloc w9 (.cells #[.slice sx XL.length cx, .int .i64 m.next] 31) = x := ⟨_, rfl⟩
  rw [hw9] at bX hx9 ⊢
  clear hw9
  replace bM := bM.ext hx9
  replace hL := hL.ext hx9
  replace hAa := hAa.ext hx9
  replace bA := bA.ext hx9
  replace hga := hga.ext hx9
  replace bG := bG.ext hx9
  replace hx := hx.ext hx9
  have hF9 := Ext.trans (hF8) hx9
  refine (allocs_Get (m := ⟨XL, m.next⟩) n hx hn).mono ?_
  rintro e w11 ⟨vy, rfl, hgy, hE10⟩
  replace bM := bM.ext hE10
  replace hL := hL.ext hE10
  replace hAa := hAa.ext hE10
  replace bA := bA.ext hE10
  replace hga := hga.ext hE10
  replace bG := bG.ext hE10
  replace hx := hx.ext hE10
  replace bX := bX.ext hE10
  have hF10 := Ext.trans (hF9) hE10
  rw [hge.out] at hgy
  rw [hge.out]
  obtain ⟨gy, gcy, rfl, -⟩ := hgy.form
  dsimp only
  rw [hYl.out]
  clear hgy
  have bM_0 : World.cell? w11 ⟨w.heap.size, 0, none⟩ = some (.slice a m.al.length cp) := bM.cell 0
  have bM_1 : World.cell? w11 ⟨w.heap.size, 1, none⟩ = some (.int .i64 m.next) := bM.cell 1
  have bM_l := bM.lt
  have bA_0 : World.cell? w11 ⟨w4.heap.size, 0, none⟩ = some (.slice sa NL.length ca) := bA.cell 0
  have bA_1 : World.cell? w11 ⟨w4.heap.size, 1, none⟩ = some (.int .i64 NX) := bA.cell 1
  have bA_l := bA.lt
  have bG_0 : World.cell? w11 ⟨w6.heap.size, 0, none⟩ = some (.int .i64 m.next) := bG.cell 0
  have bG_1 : World.cell? w11 ⟨w6.heap.size, 1, none⟩ = some (.bool true) := bG.cell 1
  have bG_2 : World.cell? w11 ⟨w6.heap.size, 2, none⟩ = some (.slice ga k gca) := bG.cell 2
  have bG_l := bG.lt
  have bX_0 : World.cell? w11 ⟨w9.heap.size, 0, none⟩ = some (.slice sx XL.length cx) := bX.cell 0
  have bX_1 : World.cell? w11 ⟨w9.heap.size, 1, none⟩ = some (.int .i64 m.next) := bX.cell 1
  have bX_l := bX.lt
  go_wp2_with fail
  clear bM_0 bM_1 bM_l
  clear bA_0 bA_1 bA_l
  clear bG_0 bG_1 bG_2 bG_l
  clear bX_0 bX_1 bX_l
  have bY := Box.new w11 28 #[.int .i64 Y.num, .bool false, .slice gy Y.cells.length gcy]
  have hx11 : Ext w11 (World.alloc w11 (.cells #[.int .i64 Y.num, .bool false, .slice gy Y.cells.length gcy] 28)) := (Ext.refl _).alloc _
  obtain ⟨w11b, hw11⟩ : ∃ x, World.alloc w11 (.cells #[.int .i64 Y.num, .bool false, .slice gy Y.cells.length gcy] 28) = x := ⟨_, rfl⟩
  rw [hw11] at bY hx11 ⊢
  clear hw11
  replace bM := bM.ext hx11
  replace hL := hL.ext hx11
  replace hAa := hAa.ext hx11
  replace bA := bA.ext hx11
  replace hga := hga.ext hx11
  replace bG := bG.ext hx11
  replace hx := hx.ext hx11
  replace bX := bX.ext hx11
  have hF11 := Ext.trans (hF10) hx11
  refine (allocs_End (m := ⟨XL, m.next⟩) n hx hn).mono ?_
  rintro e w13 ⟨qz, rfl, fz, hE12⟩
  replace bM := bM.ext hE12
  replace hL := hL.ext hE12
  replace hAa := hAa.ext hE12
  replace bA := bA.ext hE12
  replace hga := hga.ext hE12
  replace bG := bG.ext hE12
  replace hx := hx.ext hE12
  replace bX := bX.ext hE12
  replace bY := bY.ext hE12
  have hF12 := Ext.trans (hF11) hE12
  rw [hee.out] at fz
  rw [hee.out]
  obtain ⟨qz', rfl, zz⟩ := fz.read
  obtain ⟨sz, cz, rfl, -⟩ := zz.form1 0 rfl
  clear fz zz
  dsimp only [Mem.zero]
  have bM_0 : World.cell? w13 ⟨w.heap.size, 0, none⟩ = some (.slice a m.al.length cp) := bM.cell 0
  have bM_1 : World.cell? w13 ⟨w.heap.size, 1, none⟩ = some (.int .i64 m.next) := bM.cell 1
  have bM_l := bM.lt
  have bA_0 : World.cell? w13 ⟨w4.heap.size, 0, none⟩ = some (.slice sa NL.length ca) := bA.cell 0
  have bA_1 : World.cell? w13 ⟨w4.heap.size, 1, none⟩ = some (.int .i64 NX) := bA.cell 1
  have bA_l := bA.lt
  have bG_0 : World.cell? w13 ⟨w6.heap.size, 0, none⟩ = some (.int .i64 m.next) := bG.cell 0
  have bG_1 : World.cell? w13 ⟨w6.heap.size, 1, none⟩ = some (.bool true) := bG.cell 1
  have bG_2 : World.cell? w13 ⟨w6.heap.size, 2, none⟩ = some (.slice ga k gca) := bG.cell 2
  have bG_l := bG.lt
  have bX_0 : World.cell? w13 ⟨w9.heap.size, 0, none⟩ = some (.slice sx XL.length cx) := bX.cell 0
  have bX_1 : World.cell? w13 ⟨w9.heap.size, 1, none⟩ = some (.int .i64 m.next) := bX.cell 1
  have bX_l := bX.lt
  have bY_0 : World.cell? w13 ⟨w11.heap.size, 0, none⟩ = some (.int .i64 Y.num) := bY.cell 0
  have bY_1 : World.cell? w13 ⟨w11.heap.size, 1, none⟩ = some (.bool false) := bY.cell 1
  have bY_2 : World.cell? w13 ⟨w11.heap.size, 2, none⟩ = some (.slice gy Y.cells.length gcy) := bY.cell 2
  have bY_l := bY.lt
  go_wp2_with fail
  clear bM_0 bM_1 bM_l
  clear bA_0 bA_1 bA_l
  clear bG_0 bG_1 bG_2 bG_l
  clear bX_0 bX_1 bX_l
  clear bY_0 bY_1 bY_2 bY_l
  have bZ := Box.new w13 31 #[.slice sz 0 cz, .int .i64 0]
  have hx13 : Ext w13 (World.alloc w13 (.cells #[.slice sz 0 cz, .int .i64 0] 31)) := (Ext.refl _).alloc _
  obtain ⟨w13b, hw13⟩ : ∃ x, World.alloc w13 (.cells #[.slice sz 0 cz, .int .i64 0] 31) = x := ⟨_, rfl⟩
  rw [hw13] at bZ hx13 ⊢
  clear hw13
  replace bM := bM.ext hx13
  replace hL := hL.ext hx13
  replace hAa := hAa.ext hx13
  replace bA := bA.ext hx13
  replace hga := hga.ext hx13
  replace bG := bG.ext hx13
  replace hx := hx.ext hx13
  replace bX := bX.ext hx13
  replace bY := bY.ext hx13
  have hF13 := Ext.trans (hF12) hx13
  refine (law26_others (m := m) (x := ⟨XL, m.next⟩) n hL hx hn hKe.out).mono ?_
  rintro e w15 ⟨rfl, hE14⟩
  replace bM := bM.ext hE14
  replace hL := hL.ext hE14
  replace hAa := hAa.ext hE14
  replace bA := bA.ext hE14
  replace hga := hga.ext hE14
  replace bG := bG.ext hE14
  replace hx := hx.ext hE14
  replace bX := bX.ext hE14
  replace bY := bY.ext hE14
  replace bZ := bZ.ext hE14
  have hF14 := Ext.trans (hF13) hE14
  go_wp2
  go_ret
  exact ⟨rfl, hF14⟩

theorem allocsOthers_walk {m : Mem} {s : Value} {w : World} (size n : Int) (hl : Als w s m.al) (hn : i64B m.next) :
    Calls Try.prog 11 #[.agg #[s, .int .i64 m.next], .int .i64 size, .int .i64 n] w fun e w' => e = .returned (.bool true) ∧ Ext w w' := by
  cases hg : greatM m.al
  · cases hok : m.ok
    · exact allocsOthers_bad size n hl hn hg hok
    · rcases addR_cases hok size with ha | ha <;> rcases endR_cases hok n with he | he
      · exact allocsOthers_yes_ok size n hl hn hg hok ha he
      · exact allocsOthers_yes_fail size n hl hn hg hok ha he
      · exact allocsOthers_no_ok size n hl hn hg hok ha he
      · exact allocsOthers_no_fail size n hl hn hg hok ha he
  · exact allocsOthers_great size n hl hn hg

set_option maxRecDepth 100000 in
theorem allocsOthers_lifted (os : Os) (started : os.Started) (H : Type) (enc : TypeId × Value → H) :
    ReturnsInHanded {} Try.checked os 11 .any (Rows.allocsOthersSpec.pre6 enc Try.prog Try.f11 Rows.allocsOthersRow.domain false) (Rows.allocsOthersSpec.post enc Try.prog Try.f11 false true false false) := by
  refine returnsInHanded_of_change (C := Try.checked) Tryown started (by kernel_rfl) Try.func11
    (ChangeSpec.witness6 (enc := enc) (C := Try.checked) false ⟨#[], #[.agg #[.slice none 0 0, .int .i64 0], .int .i64 0, .int .i64 0], []⟩ 8 (by kernel_rfl) (by kernel_rfl) (by kernel_rfl) (by kernel_rfl)) ?_
  intro W base args ds gs before hval0 hW _ _
  have hval : ∀ (j : Nat) t v, Try.f11.params[j]? = some t → args[j]? = some v → Value.okWide Try.prog W .any base t v := hval0
  have hW' := hW
  obtain ⟨p, q, hA0, hV, rfl, hfz, hnd⟩ := hW
  have hA : DataW.TrodAll enc Try.prog W 0 (fun _ => true) true Try.f11.params.toList args.toList ds p := hA0
  rw [Try.params11] at hA hval
  obtain ⟨v0, vs0, d0, ds0, p0, q0, hargs, rfl, rfl, h0, r0⟩ := trodAll_cons hA
  obtain ⟨v1, vs1, d1, ds1, p1, q1, rfl, rfl, rfl, h1, r1⟩ := trodAll_cons r0
  obtain ⟨v2, vs2, d2, ds2, p2, q2, rfl, rfl, rfl, h2, r2⟩ := trodAll_cons r1
  obtain ⟨rfl, rfl, rfl⟩ := trodAll_nil r2
  obtain rfl : args = #[v0, v1, v2] := by cases args; simp_all
  obtain ⟨x0, u0, rfl, k0, wf0⟩ := open_mem (hval 0 31 v0 rfl rfl) h0
  obtain ⟨x1, rfl, rfl, rfl, wf1⟩ := open_int Try.underlying3 (hval 1 3 v1 rfl rfl) h1
  obtain ⟨x2, rfl, rfl, rfl, wf2⟩ := open_int Try.underlying3 (hval 2 3 v2 rfl rfl) h2
  refine (allocsOthers_walk x1 x2 k0 wf0.1).mono fun e W' ⟨he, hb⟩ => ?_
  subst he
  exact ⟨_, rfl, post_law TrylaidOut (tb := 4) rfl Try.underlying4 (by kernel_rfl) rfl (fun ds hd => match ds, hd with | [a0, a1, a2], _ => rfl) hW' hb⟩

theorem allocsOthers_holds : Rows.AllocsOthersSaid :=
  OpenClaim.holds_of_wide 11 Try.f11 rfl rfl rfl rfl rfl rfl rfl ⟨rfl, rfl, rfl, rfl, rfl⟩ rfl rfl rfl rfl rfl (by kernel_rfl) Try.func11 (by kernel_rfl)
    (of_decide_eq_true (by kernel_rfl)) (by unfold Func.isWrapper; first | (rw [if_pos (by decide +kernel)]; kernel_rfl) | (rw [if_neg (by decide +kernel)]; exact ⟨rfl, rfl⟩))
    (fun os started H enc _ => allocsOthers_lifted os started H enc)

end Go.Proofs.Ytcklnoefheanlaa
