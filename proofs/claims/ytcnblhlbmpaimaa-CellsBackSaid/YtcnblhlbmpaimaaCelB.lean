/- Plain laws of what was stored and is loaded (layer 27); no program in sight. -/
import Derived.Test.YtcnblhlbmpaimaaCelR
namespace Go.Proofs.Ytcnblhlbmpaimaa
set_option maxRecDepth 100000
open Go.RowKit

/-- What a store of one cell leaves: all that the statement CellsBack asks. -/
theorem back_law {m A : Mem} {p : Ptr} {c : Cell} (h : storeR m p [c] = (A, 0, 0)) :
    A.ok = true ∧ A.next = m.next ∧ ∃ i x, m.al[i]? = some x ∧ atNum m.al p.a = some i ∧ m.ok = true ∧ 0 ≤ p.o ∧ p.o + 1 ≤ (x.cells.length : Int) ∧ A.al = m.al.set i (putCells x p.o.toNat [c]) ∧ c.ok = true ∧ x.live = true ∧ askR m p 1 = (some i, 0) := by
  rcases storeR_cases m p [c] with ⟨e, h1, he⟩ | ⟨h1, -⟩ | ⟨j, x, hA, hx, hv, hok, h1⟩
  · rw [h] at h1
    simp only [Prod.mk.injEq] at h1
    exact absurd h1.2.2.symm he
  · rw [h] at h1
    simp only [Prod.mk.injEq] at h1
    exact absurd h1.2.1 (by decide)
  · rw [h] at h1
    simp only [Prod.mk.injEq] at h1
    obtain ⟨rfl, -⟩ := h1
    obtain ⟨-, hm, -, -, -, -, h4, x', hx', h5, h6⟩ := askR_inv hA
    obtain rfl : x = x' := by rw [hx] at hx'; exact Option.some.inj hx'
    have h6 : p.o + ((1 : Nat) : Int) ≤ (x.cells.length : Int) := h6
    refine ⟨ok_put hm hx hv (by simp only [List.length_singleton]; omega) hok, rfl, j, x, hx, h4, hm, h5, by omega, rfl, by simpa using hok, hv, hA⟩

theorem back_again {m A B : Mem} {p : Ptr} {c d : Cell} {w f : Int} (h : storeR m p [c] = (A, 0, 0)) (h2 : storeR A p [d] = (B, w, f)) : f ≠ 0 ∨ (f = 0 ∧ w = 0 ∧ storeR m p [d] = (B, 0, 0)) := by
  obtain ⟨hAok, hAn, i, x, hx, hat, hm, h5, h6, hAl, hc, hv, hA⟩ := back_law h
  have hAe : A = ⟨m.al.set i (putCells x p.o.toNat [c]), m.next⟩ := by cases A; simp only at hAl hAn; rw [hAl, hAn]
  have ho : p.o.toNat + [c].length ≤ x.cells.length := by simp only [List.length_singleton]; omega
  have hask : askR A p ([d].length : Nat) = (some i, 0) := by rw [hAe]; exact (askR_put hm hx hv ho (by simpa using hc) p 1).trans hA
  cases hd : d.ok
  · rw [storeR_bad (by rw [hask]) (by simpa using hd)] at h2
    simp only [Prod.mk.injEq] at h2
    exact .inl (by rw [← h2.2.2]; decide)
  · have hy : A.al[i]? = some (putCells x p.o.toNat [c]) := by rw [hAl]; exact set_put hx
    have s2 := storeR_yes hask (by simpa using hd) hy hv
    have s3 := storeR_yes (m := m) (p := p) (l := [d]) hA (by simpa using hd) hx hv
    rw [s2] at h2
    simp only [Prod.mk.injEq] at h2
    refine .inr ⟨h2.2.2.symm, h2.2.1.symm, ?_⟩
    rw [s3, ← h2.1, hAl, hAn, List.set_set, put_put (l' := [d]) ho rfl]

theorem back_load {m A : Mem} {p : Ptr} {c x' : Cell} {u g : Int} (h : storeR m p [c] = (A, 0, 0)) (h2 : load1R A p = (x', u, g)) : g = 0 ∧ ((c.k = 0 ∧ u = 4) ∨ (c.k ≠ 0 ∧ u = 0 ∧ x' = c)) := by
  obtain ⟨hAok, hAn, i, x, hx, hat, hm, h5, h6, hAl, hc, hv, hA⟩ := back_law h
  have hAe : A = ⟨m.al.set i (putCells x p.o.toNat [c]), m.next⟩ := by cases A; simp only at hAl hAn; rw [hAl, hAn]
  have ho : p.o.toNat + [c].length ≤ x.cells.length := by simp only [List.length_singleton]; omega
  have hask : askR A p 1 = (some i, 0) := by rw [hAe]; exact (askR_put hm hx hv ho (by simpa using hc) p 1).trans hA
  have hy : A.al[i]? = some (putCells x p.o.toNat [c]) := by rw [hAl]; exact set_put hx
  have hr : rangeR A p 1 = [c] := (rangeR_live hask hy hv).trans (cut_put ho)
  have hz : (c == Cell.zero) = (c.k == 0) := by
    have hcut := cut_put (x := x) (l := [c]) ho
    have : (putCells x p.o.toNat [c]).cells[p.o.toNat]? = some c := by
      have h1 := cutOf_get (x := putCells x p.o.toNat [c]) (o := p.o.toNat) (n := 1) (k := 0) (by decide)
      rw [show cutOf (putCells x p.o.toNat [c]) p.o.toNat 1 = [c] from hcut] at h1
      simpa using h1.symm
    exact ok_unset hAok hy this
  rw [load1R, loadR, if_pos (by rw [hask]), hr] at h2
  by_cases hk : c.k = 0
  · have : (c == Cell.zero) = true := by rw [hz]; simpa using hk
    simp [this] at h2
    exact ⟨h2.2.2.symm, .inl ⟨hk, h2.2.1.symm⟩⟩
  · have : (c == Cell.zero) = false := by rw [hz]; simpa using hk
    simp [this] at h2
    exact ⟨h2.2.2.symm, .inr ⟨hk, h2.2.1.symm, h2.1.symm⟩⟩

/-- All other cells stay as they are. -/
theorem back_cells {m A : Mem} {p : Ptr} {c : Cell} (h : storeR m p [c] = (A, 0, 0)) : A.al.length = m.al.length ∧ ∀ (j : Nat) (a : Alloc), m.al[j]? = some a →
    ∃ b, A.al[j]? = some b ∧ b.num = a.num ∧ b.live = a.live ∧ b.cells.length = a.cells.length ∧ ∀ (k : Nat) (e : Cell), a.cells[k]? = some e → b.cells[k]? = some (if a.num = p.a ∧ (k : Int) = p.o then c else e) := by
  obtain ⟨hAok, hAn, i, x, hx, hat, hm, h5, h6, hAl, hc, hv, hA⟩ := back_law h
  have ho : p.o.toNat + [c].length ≤ x.cells.length := by simp only [List.length_singleton]; omega
  refine ⟨by rw [hAl, List.length_set], fun j a ha => ?_⟩
  have hokA : okAl m.next 0 m.al = true := by
    unfold Mem.ok okM at hm
    simp only [Bool.and_eq_true] at hm
    exact hm.2
  by_cases hij : i = j
  · subst hij
    obtain rfl : x = a := by rw [hx] at ha; exact Option.some.inj ha
    have hnum : x.num = p.a := by
      have := (atNum_lt hat).2
      rw [List.getD_eq_getElem?_getD, hx] at this
      exact this
    refine ⟨putCells x p.o.toNat [c], by rw [hAl]; exact set_put hx, rfl, rfl, put_len ho, fun k e he => ?_⟩
    have hk := (List.getElem?_eq_some_iff.1 he).1
    have h1 : (x.cells.take p.o.toNat).length = p.o.toNat := by rw [List.length_take]; simp only [List.length_singleton] at ho; omega
    show (x.cells.take p.o.toNat ++ [c] ++ x.cells.drop (p.o.toNat + [c].length))[k]? = _
    simp only [List.length_singleton] at ho ⊢
    rw [List.append_assoc]
    by_cases hko : (k : Int) = p.o
    · rw [if_pos ⟨hnum, hko⟩, List.getElem?_append_right (by omega), h1, show k - p.o.toNat = 0 by omega]
      rfl
    · rw [if_neg (fun hh => hko hh.2)]
      by_cases hlt : k < p.o.toNat
      · rw [List.getElem?_append_left (by omega), List.getElem?_take, if_pos hlt, he]
      · rw [List.getElem?_append_right (by omega), h1, List.getElem?_append_right (by simp only [List.length_singleton]; omega), List.getElem?_drop, List.length_singleton, show p.o.toNat + 1 + (k - p.o.toNat - 1) = k by omega, he]
  · refine ⟨a, by rw [hAl, List.getElem?_set_ne hij, ha], rfl, rfl, rfl, fun k e he => ?_⟩
    rw [if_neg (fun hh => ?_), he]
    have h1 := atNum_at hokA ha
    rw [hh.1, hat] at h1
    exact hij (Option.some.inj h1)

end Go.Proofs.Ytcnblhlbmpaimaa
