/- Contract: others of the statements of layer 26; what Add and End leave as it is. -/
import Derived.Test.YtcklnoefheanlaaAlive26
import Derived.BigQuiet
namespace Go.Proofs.Ytcklnoefheanlaa
open Go.RowKit

theorem okAl_at {next least : Int} {l : List Alloc} (h : okAl next least l = true) {i : Nat} {x : Alloc} (hx : l[i]? = some x) : least ≤ x.num ∧ x.num < next := by
  induction l generalizing least i with
  | nil => simp at hx
  | cons a l ih =>
    simp only [okAl, Bool.and_eq_true, decide_eq_true_eq] at h
    cases i with
    | zero =>
      simp only [List.getElem?_cons_zero, Option.some.injEq] at hx
      subst hx
      omega
    | succ i =>
      have := ih h.2 (i := i) (by simpa using hx)
      omega
theorem okAl_lt {next least : Int} {l : List Alloc} (h : okAl next least l = true) {i j : Nat} {x y : Alloc} (hij : i < j) (hx : l[i]? = some x) (hy : l[j]? = some y) : x.num < y.num := by
  induction l generalizing least i j with
  | nil => simp at hx
  | cons a l ih =>
    simp only [okAl, Bool.and_eq_true, decide_eq_true_eq] at h
    cases j with
    | zero => omega
    | succ j =>
      cases i with
      | zero =>
        simp only [List.getElem?_cons_zero, Option.some.injEq] at hx
        subst hx
        have := okAl_at h.2 (i := j) (by simpa using hy)
        omega
      | succ i => exact ih h.2 (i := i) (j := j) (by omega) (by simpa using hx) (by simpa using hy)
theorem atNum_at {next least : Int} {l : List Alloc} (h : okAl next least l = true) {i : Nat} {x : Alloc} (hx : l[i]? = some x) : atNum l x.num = some i := by
  obtain ⟨hi, e⟩ := List.getElem?_eq_some_iff.1 hx
  unfold atNum
  rw [List.findIdx?_eq_some_iff_getElem]
  refine ⟨hi, by rw [e]; simp, fun j hj hb => ?_⟩
  have := okAl_lt h (i := j) (j := i) hj (List.getElem?_eq_getElem (by omega)) hx
  simp at hb
  omega
theorem ok_al {m : Mem} (h : m.ok = true) : okAl m.next 0 m.al = true := by
  unfold Mem.ok okM at h
  simp only [Bool.and_eq_true] at h
  exact h.2
theorem getR_at {m : Mem} (h : m.ok = true) {i : Nat} {x : Alloc} (hx : m.al[i]? = some x) : getR m x.num = (x, 0) := getR_some h (atNum_at (ok_al h) hx) hx
theorem okAl_push {next least : Int} {l : List Alloc} {k : Nat} (h : okAl next least l = true) (hle : least ≤ next) (hk : 1 ≤ k ∧ k ≤ 2) : okAl (next + 1) least (l ++ [newAlloc next k]) = true := by
  induction l generalizing least with
  | nil =>
    have hc : (newAlloc next k).cells.all (fun c => c.ok && ((newAlloc next k).live || c.k == 0)) = true := by
      simp only [newAlloc, List.all_eq_true]
      intro c hc
      rw [List.eq_of_mem_replicate hc]
      rfl
    simp only [List.nil_append, okAl, hc, Bool.and_true, Bool.and_eq_true, decide_eq_true_eq]
    simp [newAlloc]
    omega
  | cons a l ih =>
    rw [List.cons_append]
    simp only [okAl, Bool.and_eq_true, decide_eq_true_eq] at h ⊢
    exact ⟨⟨⟨⟨⟨h.1.1.1.1.1, by omega⟩, h.1.1.1.2⟩, h.1.1.2⟩, h.1.2⟩, ih h.2 (by omega)⟩
theorem ok_push {m : Mem} {k : Nat} (h : m.ok = true) (hf : ¬ (m.al.length = 400 ∨ m.next = 1000000)) (hk : 1 ≤ k ∧ k ≤ 2) : (⟨m.al ++ [newAlloc m.next k], m.next + 1⟩ : Mem).ok = true := by
  obtain ⟨h1, h2, h3⟩ := ok_bounds h
  have h4 := okAl_push (ok_al h) h2 hk
  unfold Mem.ok okM inB
  simp only [Bool.and_eq_true, decide_eq_true_eq]
  refine ⟨⟨?_, by omega⟩, h4⟩
  simp
  omega
theorem okAl_set {next least : Int} {l : List Alloc} {i : Nat} {x : Alloc} (h : okAl next least l = true) (hx : l[i]? = some x) : okAl next least (l.set i (ended x)) = true := by
  induction l generalizing least i with
  | nil => simp at hx
  | cons a l ih =>
    simp only [okAl, Bool.and_eq_true, decide_eq_true_eq] at h
    cases i with
    | zero =>
      simp only [List.getElem?_cons_zero, Option.some.injEq] at hx
      subst hx
      have hc : (ended a).cells.all (fun c => c.ok && ((ended a).live || c.k == 0)) = true := by
        simp only [ended, List.all_eq_true]
        intro c hc
        rw [List.eq_of_mem_replicate hc]
        rfl
      rw [List.set_cons_zero]
      simp only [okAl, hc, Bool.and_true, Bool.and_eq_true, decide_eq_true_eq]
      refine ⟨⟨⟨⟨h.1.1.1.1.1, h.1.1.1.1.2⟩, ?_⟩, ?_⟩, h.2⟩
      · simpa [ended] using h.1.1.1.2
      · simpa [ended] using h.1.1.2
    | succ i =>
      rw [List.set_cons_succ]
      simp only [okAl, Bool.and_eq_true, decide_eq_true_eq]
      exact ⟨h.1, ih h.2 (by simpa using hx)⟩
theorem ok_ended {m : Mem} {i : Nat} {x : Alloc} (h : m.ok = true) (hx : m.al[i]? = some x) : (⟨m.al.set i (ended x), m.next⟩ : Mem).ok = true := by
  have h4 := okAl_set (ok_al h) hx
  unfold Mem.ok okM at h ⊢
  simp only [Bool.and_eq_true, decide_eq_true_eq] at h ⊢
  exact ⟨⟨by simpa using h.1.1, h.1.2⟩, h4⟩

/-- All allocations of m, but the one with the number n, are in x as they are. -/
def AllKept (m x : Mem) (n : Int) : Prop := ∀ (i : Nat) (a : Alloc), m.al[i]? = some a → a.num ≠ n → getR x a.num = (a, 0)
theorem kept_push {m : Mem} {k : Nat} (h : m.ok = true) (hf : ¬ (m.al.length = 400 ∨ m.next = 1000000)) (hk : 1 ≤ k ∧ k ≤ 2) (n : Int) : AllKept m ⟨m.al ++ [newAlloc m.next k], m.next + 1⟩ n := by
  intro i a ha _
  exact getR_at (ok_push h hf hk) (i := i) (by rw [List.getElem?_append_left (List.getElem?_eq_some_iff.1 ha).1]; exact ha)
theorem get_push {m : Mem} {k : Nat} (h : m.ok = true) (hf : ¬ (m.al.length = 400 ∨ m.next = 1000000)) (hk : 1 ≤ k ∧ k ≤ 2) : getR ⟨m.al ++ [newAlloc m.next k], m.next + 1⟩ m.next = (newAlloc m.next k, 0) :=
  getR_at (x := newAlloc m.next k) (ok_push h hf hk) (i := m.al.length) (by simp)
theorem kept_ended {m : Mem} {i : Nat} {x : Alloc} (h : m.ok = true) (hx : m.al[i]? = some x) : AllKept m ⟨m.al.set i (ended x), m.next⟩ x.num := by
  intro j a ha hne
  exact getR_at (ok_ended h hx) (i := j) (by
    have : i ≠ j := by
      intro e
      subst e
      rw [hx] at ha
      cases ha
      exact hne rfl
    rw [List.getElem?_set_ne this]
    exact ha)
theorem get_ended {m : Mem} {i : Nat} {x : Alloc} (h : m.ok = true) (hx : m.al[i]? = some x) : getR ⟨m.al.set i (ended x), m.next⟩ x.num = (ended x, 0) :=
  getR_at (x := ended x) (ok_ended h hx) (i := i) (by rw [List.getElem?_set_self (List.getElem?_eq_some_iff.1 hx).1])
theorem end_ended {m : Mem} {i : Nat} {x : Alloc} (h : m.ok = true) (hx : m.al[i]? = some x) : endR ⟨m.al.set i (ended x), m.next⟩ x.num = (Mem.zero, 6) := by
  have h1 : (m.al.set i (ended x))[i]? = some (ended x) := by rw [List.getElem?_set_self (List.getElem?_eq_some_iff.1 hx).1]
  exact endR_dead (m := ⟨m.al.set i (ended x), m.next⟩) (i := i) (ok_ended h hx) (atNum_at (x := ended x) (ok_al (ok_ended h hx)) h1) h1 rfl

set_option maxRecDepth 100000 in
set_option maxHeartbeats 3200000 in
theorem law26_others {m x : Mem} {s u : Value} {w : World} (n : Int) (hl : Als w s m.al) (hx : Als w u x.al) (hn : i64B x.next) (hK : AllKept m x n) :
    Calls Try.prog 44 #[.agg #[s, .int .i64 m.next], .agg #[u, .int .i64 x.next], .int .i64 n] w fun e w' => e = .returned (.bool true) ∧ Ext w w' := by
  have hE0 := ((Ext.refl w).alloc (.cells #[s, .int .i64 m.next] 31)).alloc (.cells #[u, .int .i64 x.next] 31)
  have bM := (Box.new w 31 #[s, .int .i64 m.next]).ext ((Ext.refl _).alloc (.cells #[u, .int .i64 x.next] 31))
  have bX := Box.new (w.alloc (.cells #[s, .int .i64 m.next] 31)) 31 #[u, .int .i64 x.next]
  rw [World.size_alloc] at bX
  have hS := hl.ext hE0
  have hU := hx.ext hE0
  obtain ⟨a, cp, rfl, hlc, hcm, -⟩ := hl.form
  obtain ⟨a2, cp2, rfl, hlc2, hcm2, -⟩ := hx.form
  unfold maxLen at hcm hcm2
  clear hl hx
  have hA := Lib.hid (And.intro bM (And.intro bX (And.intro hS (And.intro hU hE0))))
  clear bM bX hS hU
  have hK := Lib.hid hK
  go_enter Try.func44, Try.ntmps44
  go_wp2
  go_loopw [7] (fun iv wr => ∃ k : Nat, k ≤ m.al.length ∧ iv = .int .i64 k ∧ Ext ((w.alloc (.cells #[.slice a m.al.length cp, .int .i64 m.next] 31)).alloc (.cells #[.slice a2 x.al.length cp2, .int .i64 x.next] 31)) wr) (fun iv _ => m.al.length - (intOf iv).toNat)
  case atStart => exact ⟨0, Nat.zero_le _, rfl, Ext.refl _⟩
  case round =>
    obtain ⟨k, hk, rfl, hE⟩ := hrel
    have bM := hA.out.1.ext hE
    have bX := hA.out.2.1.ext hE
    have hS := hA.out.2.2.1.ext hE
    have hU := hA.out.2.2.2.1.ext hE
    have m0 : wr.cell? ⟨w.heap.size, 0, none⟩ = some (.slice a m.al.length cp) := bM.cell 0
    by_cases hlt : k < m.al.length
    · obtain ⟨y, hy⟩ : ∃ y, m.al[k]? = some y := ⟨m.al[k], by simp [hlt]⟩
      obtain ⟨b, off, sv, rfl, hbb, c0, c1, c2, hc⟩ := hS.cell hy
      have hi0 : (0 : Int) ≤ (k : Int) := by omega
      have hi1 : (k : Int) < (m.al.length : Int) := by omega
      obtain ⟨⟨G, ge⟩, hG⟩ : ∃ A, getR x y.num = A := ⟨_, rfl⟩
      have x0 : wr.cell? ⟨w.heap.size + 1, 0, none⟩ = some (.slice a2 x.al.length cp2) := bX.cell 0
      have x1 : wr.cell? ⟨w.heap.size + 1, 1, none⟩ = some (.int .i64 x.next) := bX.cell 1
      have hkey : ((y.num == n) = true ∧ (y.num != n) = false) ∨ ((y.num == n) = false ∧ (y.num != n) = true) ∧ G = y ∧ ge = 0 := by
        by_cases e : y.num = n
        · exact .inl ⟨beq_iff_eq.2 e, by simp [e]⟩
        · have h := hK.out k y hy e
          rw [hG] at h
          cases h
          exact .inr ⟨⟨beq_eq_false_iff_ne.2 e, by simp [e]⟩, rfl, rfl⟩
      have hG := Lib.hid hG
      have hC := Lib.hid hc
      have hM := Lib.hid bM
      have hS := Lib.hid hS
      clear hy hc bX bM
      go_wp2_with fail
      refine (allocs_Get (m := x) y.num hU hn).mono ?_
      rintro e w3 ⟨sg, rfl, hg, hE3⟩
      rw [hG.out] at hg
      rw [hG.out]
      obtain ⟨ga, gc, rfl, -⟩ := hg.form
      replace m0 := hE3.cell m0
      replace c0 := hE3.cell c0
      replace c1 := hE3.cell c1
      replace c2 := hE3.cell c2
      have hbb3 := Nat.lt_of_lt_of_le hbb hE3.size
      have hM3 := ((hM.out).ext hE3).lt
      clear x0 x1 hU hS
      have hx3 : Ext w3 (World.alloc w3 (.cells #[.int .i64 G.num, .bool G.live, .slice ga G.cells.length gc] 28)) := (Ext.refl _).alloc _
      rcases hkey with ⟨q, q2⟩ | ⟨⟨q, q2⟩, rfl, rfl⟩
      · clear hg
        go_wp2
        go_quiet (fail)
        go_wp2
        go_roundw
        case rel => exact ⟨k + 1, by omega, by go_num, ((hE.trans hE3).trans hx3).drewN _⟩
        case measure => simp [intOf]; omega
      · have hg := Lib.hid (hg.ext hx3)
        have hC2 := Lib.hid ((hC.out.ext hE3).ext hx3)
        go_wp2
        obtain ⟨w4, hw4⟩ : ∃ z, World.alloc w3 (.cells #[.int .i64 G.num, .bool G.live, .slice ga G.cells.length gc] 28) = z := ⟨_, rfl⟩
        have bG := Box.new w3 28 #[.int .i64 G.num, .bool G.live, .slice ga G.cells.length gc]
        rw [hw4] at hx3 hg hC2 bG ⊢
        clear hw4
        have m0 := hx3.cell m0
        have c0 := hx3.cell c0
        have c1 := hx3.cell c1
        have c2 := hx3.cell c2
        have g0 : w4.cell? ⟨w3.heap.size, 0, none⟩ = some (.int .i64 G.num) := bG.cell 0
        have g1 : w4.cell? ⟨w3.heap.size, 1, none⟩ = some (.bool G.live) := bG.cell 1
        have g2 : w4.cell? ⟨w3.heap.size, 2, none⟩ = some (.slice ga G.cells.length gc) := bG.cell 2
        clear bG
        have hSk : ∀ w' w'' : World, (w'.cell? ⟨w.heap.size, 0, none⟩ = some (.slice (some ⟨b, off, none⟩) m.al.length cp) ∧ w'.cell? ⟨b, off + k * 3, none⟩ = some (.int .i64 G.num) ∧ w'.cell? ⟨b, off + k * 3 + 1, none⟩ = some (.bool G.live) ∧ w'.cell? ⟨b, off + k * 3 + 2, none⟩ = some (sv) ∧ w'.cell? ⟨w3.heap.size, 0, none⟩ = some (.int .i64 G.num) ∧ w'.cell? ⟨w3.heap.size, 1, none⟩ = some (.bool G.live) ∧ w'.cell? ⟨w3.heap.size, 2, none⟩ = some (.slice ga G.cells.length gc) ∧ Ext w4 w') → Ext w' w'' → (w''.cell? ⟨w.heap.size, 0, none⟩ = some (.slice (some ⟨b, off, none⟩) m.al.length cp) ∧ w''.cell? ⟨b, off + k * 3, none⟩ = some (.int .i64 G.num) ∧ w''.cell? ⟨b, off + k * 3 + 1, none⟩ = some (.bool G.live) ∧ w''.cell? ⟨b, off + k * 3 + 2, none⟩ = some (sv) ∧ w''.cell? ⟨w3.heap.size, 0, none⟩ = some (.int .i64 G.num) ∧ w''.cell? ⟨w3.heap.size, 1, none⟩ = some (.bool G.live) ∧ w''.cell? ⟨w3.heap.size, 2, none⟩ = some (.slice ga G.cells.length gc) ∧ Ext w4 w'') := by
          rintro w' w'' ⟨k0, k1, k2, k3, k4, k5, k6, kE⟩ h
          exact ⟨h.cell k0, h.cell k1, h.cell k2, h.cell k3, h.cell k4, h.cell k5, h.cell k6, Ext.trans kE h⟩
        go_region_held3 (fun w' => (w'.cell? ⟨w.heap.size, 0, none⟩ = some (.slice (some ⟨b, off, none⟩) m.al.length cp) ∧ w'.cell? ⟨b, off + k * 3, none⟩ = some (.int .i64 G.num) ∧ w'.cell? ⟨b, off + k * 3 + 1, none⟩ = some (.bool G.live) ∧ w'.cell? ⟨b, off + k * 3 + 2, none⟩ = some (sv) ∧ w'.cell? ⟨w3.heap.size, 0, none⟩ = some (.int .i64 G.num) ∧ w'.cell? ⟨w3.heap.size, 1, none⟩ = some (.bool G.live) ∧ w'.cell? ⟨w3.heap.size, 2, none⟩ = some (.slice ga G.cells.length gc) ∧ Ext w4 w')) (first | assumption | exact ⟨m0, c0, c1, c2, g0, g1, g2, (Ext.refl _).drew⟩ | (refine hSk _ _ (by assumption) ?_; first | assumption | exact (Ext.refl _).alloc _ | exact ((Ext.refl _).alloc _).drew)) (first | (go_at_call 35; refine (ref26_SameAlloc (hg.out.ext ?_) (hC2.out.ext ?_)).mono ?_; (exact And.right (And.right (And.right (And.right (And.right (And.right (And.right (by assumption)))))))); (exact And.right (And.right (And.right (And.right (And.right (And.right (And.right (by assumption)))))))); rintro e wr0 ⟨rfl, hR0⟩))
        have hRR := And.right (And.right (And.right (And.right (And.right (And.right (And.right ((by assumption : (World.cell? _ ⟨w.heap.size, 0, none⟩ = some (.slice (some ⟨b, off, none⟩) m.al.length cp) ∧ World.cell? _ ⟨b, off + k * 3, none⟩ = some (.int .i64 G.num) ∧ World.cell? _ ⟨b, off + k * 3 + 1, none⟩ = some (.bool G.live) ∧ World.cell? _ ⟨b, off + k * 3 + 2, none⟩ = some (sv) ∧ World.cell? _ ⟨w3.heap.size, 0, none⟩ = some (.int .i64 G.num) ∧ World.cell? _ ⟨w3.heap.size, 1, none⟩ = some (.bool G.live) ∧ World.cell? _ ⟨w3.heap.size, 2, none⟩ = some (.slice ga G.cells.length gc) ∧ Ext w4 _)))))))))
        go_wp2
        go_roundw
        case rel => exact ⟨k + 1, by omega, by go_num, ((hE.trans hE3).trans hx3).trans hRR⟩
        case measure => simp [intOf]; omega
    · have hkl : k = m.al.length := by omega
      subst hkl
      have hF := hA.out.2.2.2.2.trans hE
      clear bM bX hS hU
      go_wp2
      go_ret
      exact ⟨rfl, hF⟩
end Go.Proofs.Ytcklnoefheanlaa
