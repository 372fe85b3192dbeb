/- Contract: others of the statements of layer 26; what Add and End leave as it is. -/
import Derived.Test.YtiikdpfbbcnplaaAlive26
import Derived.BigQuiet
namespace Go.Proofs.Ytiikdpfbbcnplaa
set_option maxRecDepth 100000
open Go.RowKit

theorem okAl_at {next least : Int} {l : List Alloc} (h : okAl next least l = true) {i : Nat} {x : Alloc} (hx : l[i]? = some x) : least ≤ x.num ∧ x.num < next := by
  induction l generalizing least i with
  | nil => simp at hx
  | cons a l ih =>
    simp only [okAl, Bool.and_eq_true, decide_eq_true_eq] at h
    cases i with
    | zero =>
      simp only [List.getElem?_cons_zero, Option.some.injEq] at hx
      subst hx
      omega
    | succ i =>
      have := ih h.2 (i := i) (by simpa using hx)
      omega
theorem okAl_lt {next least : Int} {l : List Alloc} (h : okAl next least l = true) {i j : Nat} {x y : Alloc} (hij : i < j) (hx : l[i]? = some x) (hy : l[j]? = some y) : x.num < y.num := by
  induction l generalizing least i j with
  | nil => simp at hx
  | cons a l ih =>
    simp only [okAl, Bool.and_eq_true, decide_eq_true_eq] at h
    cases j with
    | zero => omega
    | succ j =>
      cases i with
      | zero =>
        simp only [List.getElem?_cons_zero, Option.some.injEq] at hx
        subst hx
        have := okAl_at h.2 (i := j) (by simpa using hy)
        omega
      | succ i => exact ih h.2 (i := i) (j := j) (by omega) (by simpa using hx) (by simpa using hy)
theorem atNum_at {next least : Int} {l : List Alloc} (h : okAl next least l = true) {i : Nat} {x : Alloc} (hx : l[i]? = some x) : atNum l x.num = some i := by
  obtain ⟨hi, e⟩ := List.getElem?_eq_some_iff.1 hx
  unfold atNum
  rw [List.findIdx?_eq_some_iff_getElem]
  refine ⟨hi, by rw [e]; simp, fun j hj hb => ?_⟩
  have := okAl_lt h (i := j) (j := i) hj (List.getElem?_eq_getElem (by omega)) hx
  simp at hb
  omega
theorem ok_al {m : Mem} (h : m.ok = true) : okAl m.next 0 m.al = true := by
  unfold Mem.ok okM at h
  simp only [Bool.and_eq_true] at h
  exact h.2
theorem getR_at {m : Mem} (h : m.ok = true) {i : Nat} {x : Alloc} (hx : m.al[i]? = some x) : getR m x.num = (x, 0) := getR_some h (atNum_at (ok_al h) hx) hx
theorem okAl_push {next least : Int} {l : List Alloc} {k : Nat} (h : okAl next least l = true) (hle : least ≤ next) (hk : 1 ≤ k ∧ k ≤ 2) : okAl (next + 1) least (l ++ [newAlloc next k]) = true := by
  induction l generalizing least with
  | nil =>
    have hc : (newAlloc next k).cells.all (fun c => c.ok && ((newAlloc next k).live || c.k == 0)) = true := by
      simp only [newAlloc, List.all_eq_true]
      intro c hc
      rw [List.eq_of_mem_replicate hc]
      rfl
    simp only [List.nil_append, okAl, hc, Bool.and_true, Bool.and_eq_true, decide_eq_true_eq]
    simp [newAlloc]
    omega
  | cons a l ih =>
    rw [List.cons_append]
    simp only [okAl, Bool.and_eq_true, decide_eq_true_eq] at h ⊢
    exact ⟨⟨⟨⟨⟨h.1.1.1.1.1, by omega⟩, h.1.1.1.2⟩, h.1.1.2⟩, h.1.2⟩, ih h.2 (by omega)⟩
theorem ok_push {m : Mem} {k : Nat} (h : m.ok = true) (hf : ¬ (m.al.length = 400 ∨ m.next = 1000000)) (hk : 1 ≤ k ∧ k ≤ 2) : (⟨m.al ++ [newAlloc m.next k], m.next + 1⟩ : Mem).ok = true := by
  obtain ⟨h1, h2, h3⟩ := ok_bounds h
  have h4 := okAl_push (ok_al h) h2 hk
  unfold Mem.ok okM inB
  simp only [Bool.and_eq_true, decide_eq_true_eq]
  refine ⟨⟨?_, by omega⟩, h4⟩
  simp
  omega
theorem okAl_set {next least : Int} {l : List Alloc} {i : Nat} {x : Alloc} (h : okAl next least l = true) (hx : l[i]? = some x) : okAl next least (l.set i (ended x)) = true := by
  induction l generalizing least i with
  | nil => simp at hx
  | cons a l ih =>
    simp only [okAl, Bool.and_eq_true, decide_eq_true_eq] at h
    cases i with
    | zero =>
      simp only [List.getElem?_cons_zero, Option.some.injEq] at hx
      subst hx
      have hc : (ended a).cells.all (fun c => c.ok && ((ended a).live || c.k == 0)) = true := by
        simp only [ended, List.all_eq_true]
        intro c hc
        rw [List.eq_of_mem_replicate hc]
        rfl
      rw [List.set_cons_zero]
      simp only [okAl, hc, Bool.and_true, Bool.and_eq_true, decide_eq_true_eq]
      refine ⟨⟨⟨⟨h.1.1.1.1.1, h.1.1.1.1.2⟩, ?_⟩, ?_⟩, h.2⟩
      · simpa [ended] using h.1.1.1.2
      · simpa [ended] using h.1.1.2
    | succ i =>
      rw [List.set_cons_succ]
      simp only [okAl, Bool.and_eq_true, decide_eq_true_eq]
      exact ⟨h.1, ih h.2 (by simpa using hx)⟩
theorem ok_ended {m : Mem} {i : Nat} {x : Alloc} (h : m.ok = true) (hx : m.al[i]? = some x) : (⟨m.al.set i (ended x), m.next⟩ : Mem).ok = true := by
  have h4 := okAl_set (ok_al h) hx
  unfold Mem.ok okM at h ⊢
  simp only [Bool.and_eq_true, decide_eq_true_eq] at h ⊢
  exact ⟨⟨by simpa using h.1.1, h.1.2⟩, h4⟩

/-- All allocations of m, but the one with the number n, are in x as they are. -/
def AllKept (m x : Mem) (n : Int) : Prop := ∀ (i : Nat) (a : Alloc), m.al[i]? = some a → a.num ≠ n → getR x a.num = (a, 0)
theorem kept_push {m : Mem} {k : Nat} (h : m.ok = true) (hf : ¬ (m.al.length = 400 ∨ m.next = 1000000)) (hk : 1 ≤ k ∧ k ≤ 2) (n : Int) : AllKept m ⟨m.al ++ [newAlloc m.next k], m.next + 1⟩ n := by
  intro i a ha _
  exact getR_at (ok_push h hf hk) (i := i) (by rw [List.getElem?_append_left (List.getElem?_eq_some_iff.1 ha).1]; exact ha)
theorem get_push {m : Mem} {k : Nat} (h : m.ok = true) (hf : ¬ (m.al.length = 400 ∨ m.next = 1000000)) (hk : 1 ≤ k ∧ k ≤ 2) : getR ⟨m.al ++ [newAlloc m.next k], m.next + 1⟩ m.next = (newAlloc m.next k, 0) :=
  getR_at (x := newAlloc m.next k) (ok_push h hf hk) (i := m.al.length) (by simp)
theorem kept_ended {m : Mem} {i : Nat} {x : Alloc} (h : m.ok = true) (hx : m.al[i]? = some x) : AllKept m ⟨m.al.set i (ended x), m.next⟩ x.num := by
  intro j a ha hne
  exact getR_at (ok_ended h hx) (i := j) (by
    have : i ≠ j := by
      intro e
      subst e
      rw [hx] at ha
      cases ha
      exact hne rfl
    rw [List.getElem?_set_ne this]
    exact ha)
theorem get_ended {m : Mem} {i : Nat} {x : Alloc} (h : m.ok = true) (hx : m.al[i]? = some x) : getR ⟨m.al.set i (ended x), m.next⟩ x.num = (ended x, 0) :=
  getR_at (x := ended x) (ok_ended h hx) (i := i) (by rw [List.getElem?_set_self (List.getElem?_eq_some_iff.1 hx).1])
theorem end_ended {m : Mem} {i : Nat} {x : Alloc} (h : m.ok = true) (hx : m.al[i]? = some x) : endR ⟨m.al.set i (ended x), m.next⟩ x.num = (Mem.zero, 6) := by
  have h1 : (m.al.set i (ended x))[i]? = some (ended x) := by rw [List.getElem?_set_self (List.getElem?_eq_some_iff.1 hx).1]
  exact endR_dead (m := ⟨m.al.set i (ended x), m.next⟩) (i := i) (ok_ended h hx) (atNum_at (x := ended x) (ok_al (ok_ended h hx)) h1) h1 rfl

end Go.Proofs.Ytiikdpfbbcnplaa
