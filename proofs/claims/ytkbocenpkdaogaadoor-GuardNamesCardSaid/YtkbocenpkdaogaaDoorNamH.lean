/- What the calls of GuardNames give; an append that must make a new array. (printed by gen/names31.py) -/
import Derived.Test.YtkbocenpkdaogaaDoorNamP
import Derived.Test.YtkbocenpkdaogaaDoorNamR
import Derived.Test.YtkbocenpkdaogaaDoorLaw31A
import Derived.Test.YtkbocenpkdaogaaDoorRegInw
import Derived.Deep.RegionLawGrows
namespace Go.Proofs.YtkbocenpkdaogaaDoor
set_option maxRecDepth 100000
open Go.RowKit

/-- append to a slice without room: a new array; all else is as it was. -/
theorem wp_append_full {P : Program} {w : World} {o : Oper} {a : Act} {K : Act → World → Prop} {Q : Exit → Act → World → Prop} (hg : o.guard = none) (s x : Operand) (t : TypeId)
    (hop : o.op = .call { callee := .builtin .append, args := #[s, x], argTypes := #[t, t] }) {e : TypeId} {i : TypeInfo} {z : Value} {k bytes : Nat} (h1 : P.underlying t = some (.slice e)) (h2 : P.info? e = some i) (h3 : i.zero = some z) (h4 : i.size = k) (h5 : i.bytes = bytes) (h6 : z.cells.size = k) (h7 : 0 < k)
    {ao ad : Option Addr} {n m c : Nat} {olds news : List Value} (hs : a.eval s = .slice ao n n) (ho : Sl w k (.slice ao n n) n olds) (hn0 : 0 < n) (hx : a.eval x = .slice ad m c) (hy : Sl w k (.slice ad m c) m news) (hm : 0 < m) (h1c : ∀ u ∈ news, u.oneCell' = true) (b1 : n + m ≤ maxLen) (b2 : (n + m) * bytes ≤ 140737488355328)
    (hK : ∀ v' w', Own w' w.heap.size e k v' (n + m) (olds ++ news) → Ext w w' → K (a.put o.dst v') w') : o.wp P a w K Q := by
  obtain ⟨b, off, rfl, -, hc⟩ := Sl.at ho h7 hn0
  obtain ⟨b', off', rfl, -, hc'⟩ := Sl.at hy h7 hm
  have hadd : ∀ (b off j : Nat), (⟨b, off, none⟩ : Addr).add j = ⟨b, off + j, none⟩ := fun b off j => by unfold Addr.add; split <;> simp_all
  have := step_append_grows (P := P) (ops := #[]) (o := o) (a := a) (w := w) (K := K) (Q := Q) (E := True) hg s x t hop e i z k bytes h1 h2 h3 h4 h5 h6 h7 (some ⟨b, off, none⟩) n n olds hs (fun h => by cases h) ho.len (fun b2 hb2 j u hj => by cases hb2; rw [hadd]; exact hc j u hj) ⟨b', off', none⟩ m c news hx hy.len (fun j u hj => by rw [hadd]; exact hc' j u hj) h1c (by omega) b1 b2 (fun v' w' g1 g2 => hK v' w' g1 (Ext.of_grown g2))
  rw [if_pos (by simp [Region.wanted, hg])] at this
  exact this
theorem slice_full4 (b off : Nat) : ∀ w, (Instr.slice 31 (.slice (some ⟨b, off, none⟩) 4 4) none (some (.int .i64 4)) (some (.int .i64 4))).run Tryd.prog w = .ok (.slice (some ⟨b, off, none⟩) 4 4) w := by
  intro w
  obtain ⟨i, z, hi, hz, hi3, hz3, hby⟩ := Item.infoE
  simp [Instr.slice, run_underlying Tryd.underlying31, Instr.sliceBounds, Instr.sliceBound, asIntOf, sizeOf, typeInfo, hi]
  rfl
def PrN (l : List Int) : Pr := ⟨fun v w => Nts w v l, fun _ _ _ h he => Nts.ext h he⟩
def PrRes (y e : Int) : Pr := ⟨fun v _ => ∃ u, v = .tuple #[u, .int .u8 y, .int .i64 e], fun _ _ _ h _ => h⟩
def ExC (w : World) (g : Nat) : Prop := w.cell? ⟨g, 3, none⟩ = some (.int .u8 1) ∧ w.cell? ⟨g, 4, none⟩ = some (.int .i64 2) ∧ w.cell? ⟨g, 5, none⟩ = some (.int .i64 5)
theorem ExC.ext {w w' : World} {g : Nat} (h : ExC w g) (he : Ext w w') : ExC w' g := ⟨he.cell h.1, he.cell h.2.1, he.cell h.2.2⟩
def PrEx : Pr := ⟨fun v w => ∃ g c, v = .slice (some ⟨g, 0, none⟩) 2 c ∧ ExC w g, fun _ _ _ ⟨g, c, h1, h2⟩ he => ⟨g, c, h1, h2.ext he⟩⟩
def PrEp : Pr := ⟨fun v w => ∃ g, v = .pointer (some ⟨g, 3, none⟩) ∧ ExC w g, fun _ _ _ ⟨g, h1, h2⟩ he => ⟨g, h1, h2.ext he⟩⟩
theorem exC_of {w : World} {B : Nat} {v : Value} (h : Own w B 23 3 v ex31.length (ex31.flatMap Item.row)) : ∃ g c, v = .slice (some ⟨g, 0, none⟩) 2 c ∧ ExC w g := by
  obtain ⟨g, c, rfl, -, -, -, -⟩ := Own.form h (by decide)
  exact ⟨g, c, rfl, (Own.cellAt h 3 (by decide)).trans rfl, (Own.cellAt h 4 (by decide)).trans rfl, (Own.cellAt h 5 (by decide)).trans rfl⟩
def fl31 (k : Nat) : List Int := (List.range k).map (fun j : Nat => (j : Int) + 1) ++ List.replicate (33 - k) 0
theorem fl31_len {k : Nat} (h : k ≤ 33) : (fl31 k).length = 33 := by simp [fl31]; omega
theorem fl31_set {k : Nat} (h : k < 33) : (fl31 k).set k ((k : Int) + 1) = fl31 (k + 1) := by
  unfold fl31
  obtain ⟨m, hm⟩ : ∃ m, 33 - k = m + 1 := ⟨32 - k, by omega⟩
  have e2 : 33 - (k + 1) = m := by omega
  rw [List.set_append_right _ _ (by simp), hm, e2, List.length_map, List.length_range, Nat.sub_self, List.replicate_succ, List.set_cons_zero, List.range_succ, List.map_append]
  simp
def many31 : List Int := (List.range 33).map (fun j : Nat => (j : Int) + 1)
theorem fl31_end : fl31 33 = many31 := by simp [fl31, many31]
def bad31 (l : List Int) : Prop := runErr l = 8 ∧ enterR l (-1) = ([], 8) ∧ leaveR l = ([], 8) ∧ heldR [⟨0, 0, 0⟩] l = (0, 8) ∧ useR [⟨0, 0, 0⟩] 1 false l = ([], 0, 8) ∧ useR [⟨0, 0, 0⟩] 1 true l = ([], 0, 8) ∧ tagR [⟨0, 0, 0⟩] 9 1 ⟨0, 0, 0⟩ l = ([], 0, 8)
instance (l : List Int) : Decidable (bad31 l) := by unfold bad31; infer_instance
def S31 : List Item := [⟨1, 1, 0⟩, ⟨4, 2, 5⟩, ⟨2, 3, 5⟩, ⟨3, 4, 5⟩]
theorem bads31_0 : bad31 [0] := by decide +kernel
theorem bads31_1 : bad31 [-1] := by decide +kernel
theorem bads31_2 : bad31 [1000001] := by decide +kernel
theorem bads31_3 : bad31 [2, 2] := by decide +kernel
theorem bads31_4 : bad31 [3, 2] := by decide +kernel
theorem data31 : ∃ M M32 M31 C : List Int, many31 = M ∧ M.length = 33 ∧ M.take 32 = M32 ∧ M.take 31 = M31 ∧ M.take 1 = [1] ∧ bad31 M ∧ enterR M32 33 = ([], 18) ∧ enterR M32 32 = ([], 2) ∧ enterR M31 1000000 = (C, 0) ∧ C.length = 32 ∧ C[31]? = some 1000000 ∧ runErr M32 = 0 :=
  ⟨_, _, _, (many31.take 31) ++ [1000000], rfl, by decide +kernel, rfl, rfl, by decide +kernel, by decide +kernel, by decide +kernel, by decide +kernel, by decide +kernel, by decide +kernel, by decide +kernel, by decide +kernel⟩
theorem gu_e : enterR [] 0 = ([], 2) := by decide +kernel
theorem gu_f : enterR [] 1000001 = ([], 2) := by decide +kernel
theorem gu_g : leaveR [] = ([], 6) := by decide +kernel
theorem gu_h : leaveR [1] = ([], 0) := by decide +kernel
theorem gu_j : heldR [⟨1, 0, 0⟩, ⟨9, 0, 0⟩] [] = (0, 8) := by decide +kernel
theorem gu_k : heldR [⟨1, 0, 0⟩, ⟨2, 0, 4⟩] [3] = (0, 6) := by decide +kernel
theorem gu_l : heldR [⟨1, 0, 0⟩, ⟨2, 0, 4⟩, ⟨2, 0, 3⟩] [3, 4] = (1, 0) := by decide +kernel
theorem gu_m : heldR [] [] = (0, 6) := by decide +kernel
theorem gu_p : useR S31 1 false [5] = (S31, 0, 0) := by decide +kernel
theorem gu_r : tagR S31 2 1 ⟨0, 6, 0⟩ [5] = ([], 2, 0) := by decide +kernel
theorem gu_u : useR (S31 ++ [⟨1, 2, 5⟩]) 1 false [5] = ([], 2, 0) := by decide +kernel
theorem gu_w : useR S31 9 false [5] = ([], 1, 0) := by decide +kernel
theorem gu_y : useR S31 4 true [5] = (S31, 0, 0) := by decide +kernel

end Go.Proofs.YtkbocenpkdaogaaDoor
