/- Plain laws of ranges of cells (layer 27); no program in sight. -/
import Derived.Test.YtiikdpfbbcnplaaCelP
import Derived.Test.YtiikdpfbbcnplaaTab
namespace Go.Proofs.Ytiikdpfbbcnplaa
set_option maxRecDepth 100000
open Go.RowKit

theorem Box.own {w : World} {B : Nat} {e : TypeId} {cs : Array Value} {n k : Nat} (h : Box w B e cs) (hm : n ≤ maxLen) (hs : cs.size = n * k) : Own w 0 e k (.slice (some ⟨B, 0, none⟩) n n) n cs.toList :=
  ⟨by simpa using hs, .inr ⟨B, n, cs, rfl, Nat.zero_le _, h, Nat.le_refl _, hm, hs, List.take_of_length_le (by rw [Array.length_toList, hs]; exact Nat.le_refl _)⟩⟩
theorem Cls.of_box {w : World} {B : Nat} {c d : Cell} {e : TypeId} (h : Box w B e #[.int .u8 c.k, .int .i64 c.n, .int .i64 c.a, .int .i64 c.o, .int .i64 c.t, .int .u8 d.k, .int .i64 d.n, .int .i64 d.a, .int .i64 d.o, .int .i64 d.t]) : Cls w (.slice (some ⟨B, 0, none⟩) 2 2) [c, d] :=
  (Box.own (k := 5) (n := 2) h (by decide) rfl).sl

theorem load1R_fst {m : Mem} {p : Ptr} {L : List Cell} {y e : Int} (h : loadR m p 1 = (L, y, e)) : load1R m p = (L.headD Cell.zero, y, e) := by rw [load1R, h]
theorem cut_two {x : Alloc} {o : Nat} (h : o + 2 ≤ x.cells.length) : ∃ c d, cutOf x o 2 = [c, d] ∧ cutOf x o 1 = [c] ∧ cutOf x (o + 1) 1 = [d] := by
  have h1 : x.cells.drop o = x.cells[o] :: x.cells.drop (o + 1) := List.drop_eq_getElem_cons (by omega)
  have h2 : x.cells.drop (o + 1) = x.cells[o + 1] :: x.cells.drop (o + 1 + 1) := List.drop_eq_getElem_cons (by omega)
  refine ⟨x.cells[o], x.cells[o + 1], ?_, ?_, ?_⟩
  · rw [cutOf, h1, h2]; rfl
  · rw [cutOf, h1]; rfl
  · rw [cutOf, h2]; rfl

/-- A range of two is loaded cell by cell. -/
theorem range_law {m : Mem} {a o t : Int} {L : List Cell} {c d : Cell} {why err y1 e1 y2 e2 : Int} (h0 : 0 ≤ o) (hL : loadR m ⟨a, o, t⟩ 2 = (L, why, err)) (hc : load1R m ⟨a, o, t⟩ = (c, y1, e1)) (hd : load1R m ⟨a, o + 1, t⟩ = (d, y2, e2)) :
    (err ≠ 0 ∧ e1 ≠ 0) ∨ (err ≠ 0 ∧ e1 = 0 ∧ e2 ≠ 0) ∨ (err = 0 ∧ e1 = 0 ∧ e2 = 0 ∧ ((y1 = 0 ∧ y2 = 0 ∧ why = 0 ∧ L = [c, d]) ∨ (y1 = 0 ∧ y2 ≠ 0 ∧ why = y2 ∧ L = []) ∨ (y1 ≠ 0 ∧ why = y1 ∧ L = []))) := by
  have bad : ∀ E : Int, E ≠ 0 → (∀ n : Int, 1 ≤ n → n ≤ 2 → ∀ q, 0 ≤ q → (askR m ⟨a, q, t⟩ n).2 = E) → (err ≠ 0 ∧ e1 ≠ 0) := by
    intro E hE hA
    have h1 := loadR_err (hA 2 (by omega) (by omega) o h0) hE
    have h2 := load1R_fst (loadR_err (hA 1 (by omega) (by omega) o h0) hE)
    rw [hL] at h1
    rw [hc] at h2
    simp only [Prod.mk.injEq] at h1 h2
    rw [h1.2.2, h2.2.2]
    exact ⟨hE, hE⟩
  have gone : (∀ q n : Int, 1 ≤ n → n ≤ 2 → o ≤ q → q + n ≤ o + 2 → (askR m ⟨a, q, t⟩ n).2 = 0 ∧ rangeR m ⟨a, q, t⟩ n = []) → (err = 0 ∧ e1 = 0 ∧ e2 = 0 ∧ y1 ≠ 0 ∧ why = y1 ∧ L = []) := by
    intro hA
    have h1 := loadR_gone (hA o 2 (by omega) (by omega) (by omega) (by omega)).1 (hA o 2 (by omega) (by omega) (by omega) (by omega)).2
    have h2 := load1R_fst (loadR_gone (hA o 1 (by omega) (by omega) (by omega) (by omega)).1 (hA o 1 (by omega) (by omega) (by omega) (by omega)).2)
    have h3 := load1R_fst (loadR_gone (hA (o + 1) 1 (by omega) (by omega) (by omega) (by omega)).1 (hA (o + 1) 1 (by omega) (by omega) (by omega) (by omega)).2)
    rw [hL] at h1
    rw [hc] at h2
    rw [hd] at h3
    simp only [Prod.mk.injEq] at h1 h2 h3
    obtain ⟨rfl, rfl, rfl⟩ := h1
    obtain ⟨-, rfl, rfl⟩ := h2
    obtain ⟨-, rfl, rfl⟩ := h3
    exact ⟨rfl, rfl, rfl, by decide, rfl, rfl⟩
  by_cases hok : m.ok = true
  · by_cases harg : a < 0 ∨ m.next ≤ a
    · exact .inl (bad 2 (by decide) fun n h1 h2 q hq => by unfold askR; rw [if_pos hok, if_pos (by rcases harg with h | h <;> simp only <;> omega)])
    · have hneg : ∀ n : Int, 1 ≤ n → n ≤ 2 → ¬ (a < 0 ∨ m.next ≤ a ∨ n < 1 ∨ 2 < n) := fun n h1 h2 => by omega
      cases hi : atNum m.al a with
      | none =>
        have hA : ∀ q n : Int, 1 ≤ n → n ≤ 2 → askR m ⟨a, q, t⟩ n = (none, 0) := fun q n h1 h2 => by
          unfold askR
          rw [if_pos hok, if_neg (hneg n h1 h2), hi]
        obtain ⟨g1, g2, g3, g4⟩ := gone fun q n h1 h2 _ _ => ⟨by rw [hA q n h1 h2], rangeR_none (hA q n h1 h2)⟩
        exact .inr (.inr ⟨g1, g2, g3, .inr (.inr g4)⟩)
      | some i =>
        have hlt := (atNum_lt hi).1
        have hx : m.al[i]? = some m.al[i] := List.getElem?_eq_getElem hlt
        have hg : m.al.getD i Alloc.zero = m.al[i] := by rw [List.getD_eq_getElem?_getD, hx]; rfl
        generalize hxe : m.al[i] = x at hx hg
        have hA : ∀ q n : Int, 1 ≤ n → n ≤ 2 → askR m ⟨a, q, t⟩ n = if q < 0 ∨ (x.cells.length : Int) - n < q then (none, 6) else (some i, 0) := fun q n h1 h2 => by
          unfold askR
          rw [if_pos hok, if_neg (hneg n h1 h2), hi]
          show (if q < 0 ∨ ((m.al.getD i Alloc.zero).cells.length : Int) - n < q then _ else _) = _
          rw [hg]
        by_cases hr : (x.cells.length : Int) - 2 < o
        · have h1 := loadR_err (m := m) (p := ⟨a, o, t⟩) (n := 2) (err := 6) (by rw [hA o 2 (by omega) (by omega), if_pos (.inr hr)]) (by decide)
          have h2 := load1R_fst (loadR_err (m := m) (p := ⟨a, o + 1, t⟩) (n := 1) (err := 6) (by rw [hA (o + 1) 1 (by omega) (by omega), if_pos (.inr (by omega))]) (by decide))
          rw [hL] at h1
          rw [hd] at h2
          simp only [Prod.mk.injEq] at h1 h2
          by_cases he : e1 = 0
          · exact .inr (.inl ⟨by rw [h1.2.2]; decide, he, by rw [h2.2.2]; decide⟩)
          · exact .inl ⟨by rw [h1.2.2]; decide, he⟩
        · have hS : ∀ q n : Int, 1 ≤ n → n ≤ 2 → o ≤ q → q + n ≤ o + 2 → askR m ⟨a, q, t⟩ n = (some i, 0) := fun q n h1 h2 h3 h4 => by
            rw [hA q n h1 h2, if_neg (by omega)]
          cases hv : x.live
          · obtain ⟨g1, g2, g3, g4⟩ := gone fun q n h1 h2 h3 h4 => ⟨by rw [hS q n h1 h2 h3 h4], rangeR_dead (hS q n h1 h2 h3 h4) hx hv⟩
            exact .inr (.inr ⟨g1, g2, g3, .inr (.inr g4)⟩)
          · have hR : ∀ q n : Int, 1 ≤ n → n ≤ 2 → o ≤ q → q + n ≤ o + 2 → rangeR m ⟨a, q, t⟩ n = cutOf x q.toNat n.toNat := fun q n h1 h2 h3 h4 => rangeR_live (hS q n h1 h2 h3 h4) hx hv
            obtain ⟨c', d', k1, k2, k3⟩ := cut_two (x := x) (o := o.toNat) (by omega)
            have r1 : rangeR m ⟨a, o, t⟩ 2 = [c', d'] := (hR o 2 (by omega) (by omega) (by omega) (by omega)).trans k1
            have r2 : rangeR m ⟨a, o, t⟩ 1 = [c'] := (hR o 1 (by omega) (by omega) (by omega) (by omega)).trans k2
            have r3 : rangeR m ⟨a, o + 1, t⟩ 1 = [d'] := (hR (o + 1) 1 (by omega) (by omega) (by omega) (by omega)).trans (by rw [show (o + 1).toNat = o.toNat + 1 by omega]; exact k3)
            have a1 : (askR m ⟨a, o, t⟩ 2).2 = 0 := by rw [hS o 2 (by omega) (by omega) (by omega) (by omega)]
            have a2 : (askR m ⟨a, o, t⟩ 1).2 = 0 := by rw [hS o 1 (by omega) (by omega) (by omega) (by omega)]
            have a3 : (askR m ⟨a, o + 1, t⟩ 1).2 = 0 := by rw [hS (o + 1) 1 (by omega) (by omega) (by omega) (by omega)]
            rw [loadR, if_pos a1, r1] at hL
            rw [load1R, loadR, if_pos a2, r2] at hc
            rw [load1R, loadR, if_pos a3, r3] at hd
            refine .inr (.inr ?_)
            cases z1 : (c' == Cell.zero) <;> cases z2 : (d' == Cell.zero) <;> simp [z1, z2] at hL hc hd
            · obtain ⟨rfl, rfl, rfl⟩ := hL; obtain ⟨rfl, rfl, rfl⟩ := hc; obtain ⟨rfl, rfl, rfl⟩ := hd
              exact ⟨rfl, rfl, rfl, .inl ⟨rfl, rfl, rfl, rfl⟩⟩
            · obtain ⟨rfl, rfl, rfl⟩ := hL; obtain ⟨rfl, rfl, rfl⟩ := hc; obtain ⟨rfl, rfl, rfl⟩ := hd
              exact ⟨rfl, rfl, rfl, .inr (.inl ⟨rfl, by decide, rfl, rfl⟩)⟩
            · obtain ⟨rfl, rfl, rfl⟩ := hL; obtain ⟨rfl, rfl, rfl⟩ := hc; obtain ⟨rfl, rfl, rfl⟩ := hd
              exact ⟨rfl, rfl, rfl, .inr (.inr ⟨by decide, rfl, rfl⟩)⟩
            · obtain ⟨rfl, rfl, rfl⟩ := hL; obtain ⟨rfl, rfl, rfl⟩ := hc; obtain ⟨rfl, rfl, rfl⟩ := hd
              exact ⟨rfl, rfl, rfl, .inr (.inr ⟨by decide, rfl, rfl⟩)⟩
  · exact .inl (bad 8 (by decide) fun n _ _ q _ => by unfold askR; rw [if_neg hok])

/-- A range of two is stored cell by cell. -/
theorem stores_law {m X : Mem} {a o t : Int} {c d : Cell} {i h : Int} (hs : storeR m ⟨a, o, t⟩ [c, d] = (X, i, h)) :
    (h ≠ 0 ∧ X = Mem.zero) ∨ (h = 0 ∧ i = 3 ∧ X = Mem.zero) ∨ (h = 0 ∧ i = 0 ∧ ∃ Y, storeR m ⟨a, o, t⟩ [c] = (Y, 0, 0) ∧ Y.next = m.next ∧ storeR Y ⟨a, o + 1, t⟩ [d] = (X, 0, 0)) := by
  rcases storeR_cases m ⟨a, o, t⟩ [c, d] with ⟨e, h1, he⟩ | ⟨h1, -⟩ | ⟨j, x, hA, hx, hv, hok, h1⟩
  · rw [hs] at h1
    simp only [Prod.mk.injEq] at h1
    exact .inl ⟨by rw [h1.2.2]; exact he, h1.1⟩
  · rw [hs] at h1
    simp only [Prod.mk.injEq] at h1
    exact .inr (.inl ⟨h1.2.2, h1.2.1, h1.1⟩)
  · rw [hs] at h1
    simp only [Prod.mk.injEq] at h1
    obtain ⟨rfl, rfl, rfl⟩ := h1
    refine .inr (.inr ⟨rfl, rfl, ?_⟩)
    obtain ⟨-, hm, h2, h3, -, -, h4, x', hx', h5, h6⟩ := askR_inv hA
    obtain rfl : x = x' := by rw [hx] at hx'; exact Option.some.inj hx'
    have h5 : 0 ≤ o := h5
    have h6 : o + ((2 : Nat) : Int) ≤ (x.cells.length : Int) := h6
    have hcd : c.ok = true ∧ d.ok = true := by simpa using hok
    have hA1 : ∀ M : Mem, M.ok = true → M.next = m.next → atNum M.al a = some j → (M.al.getD j Alloc.zero).cells.length = x.cells.length → ∀ q : Int, o ≤ q → q ≤ o + 1 → askR M ⟨a, q, t⟩ 1 = (some j, 0) := by
      intro M k1 k2 k3 k4 q k5 k6
      unfold askR
      have h2 : 0 ≤ a := h2
      have h3 : a < m.next := h3
      rw [if_pos k1, if_neg (by simp only [k2]; omega)]
      show (match atNum M.al a with | none => _ | some i => _) = _
      rw [k3]
      show (if q < 0 ∨ ((M.al.getD j Alloc.zero).cells.length : Int) - 1 < q then ((none, 6) : Option Nat × Int) else (some j, 0)) = _
      rw [k4, if_neg (by omega)]
    have hg : m.al.getD j Alloc.zero = x := by rw [List.getD_eq_getElem?_getD, hx]; rfl
    have s1 := storeR_yes (p := ⟨a, o, t⟩) (l := [c]) (hA1 m hm rfl h4 (by rw [hg]) o (Int.le_refl _) (by omega)) (by simpa using hcd.1) hx hv
    refine ⟨_, s1, rfl, ?_⟩
    have ho1 : o.toNat + [c].length ≤ x.cells.length := by simp only [List.length_singleton]; omega
    have hy := set_put (y := putCells x o.toNat [c]) hx
    have hgy : (m.al.set j (putCells x o.toNat [c])).getD j Alloc.zero = putCells x o.toNat [c] := by rw [List.getD_eq_getElem?_getD, hy]; rfl
    have s2 := storeR_yes (m := ⟨m.al.set j (putCells x o.toNat [c]), m.next⟩) (p := ⟨a, o + 1, t⟩) (l := [d])
      (hA1 _ (ok_put hm hx hv ho1 (by simpa using hcd.1)) rfl ((atNum_put (y := putCells x o.toNat [c]) hx rfl _).trans h4) (by show ((m.al.set j _).getD j _).cells.length = _; rw [hgy, put_len ho1]) (o + 1) (by omega) (Int.le_refl _)) (by simpa using hcd.2) hy hv
    rw [s2]
    show ((⟨(m.al.set j (putCells x o.toNat [c])).set j (putCells (putCells x o.toNat [c]) (o + 1).toNat [d]), m.next⟩ : Mem), (0 : Int), (0 : Int)) = (⟨m.al.set j (putCells x o.toNat [c, d]), m.next⟩, 0, 0)
    rw [List.set_set, show (o + 1).toNat = o.toNat + 1 by omega, put_two (by omega)]

end Go.Proofs.Ytiikdpfbbcnplaa
