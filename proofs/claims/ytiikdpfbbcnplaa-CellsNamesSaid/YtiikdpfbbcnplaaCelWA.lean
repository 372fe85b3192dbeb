/- clear: a slice that the call owns. -/
import Derived.Test.YtiikdpfbbcnplaaCelW9
namespace Go.Proofs.Ytiikdpfbbcnplaa
set_option maxRecDepth 100000
open Go.RowKit

theorem run_clear_own {P : Program} {w : World} {B : Nat} {t ty e : TypeId} {i : TypeInfo} {z : Value} {k : Nat} {v : Value} {n : Nat} {xs : List Value}
    (ht : P.underlying t = some (.slice e)) (hi : P.info? e = some i) (hz : i.zero = some z) (hzk : z.cells.size = k) (h1 : ∀ u ∈ (Builtin.zeroCells z.cells n).toList, u.oneCell' = true) (hown : Own w B e k v n xs) :
    ∃ w', (Builtin.clear_ #[t] ty #[v]).run P w = .ok (.tuple #[]) w' ∧ Own w' B e k v n (Builtin.zeroCells z.cells n).toList ∧ ExtBut (fun b => v.ownBlock = some b) w w' := by
  have hlen : (Builtin.zeroCells z.cells n).toList.length = n * k := by rw [Array.length_toList, size_zeroCells, hzk]
  by_cases hn : n = 0
  · subst hn
    have hnil : (Builtin.zeroCells z.cells 0).toList = [] := List.eq_nil_of_length_eq_zero (by rw [hlen]; simp)
    have hxs : xs = [] := List.eq_nil_of_length_eq_zero (by simpa using hown.1)
    subst hxs
    rw [hnil]
    refine ⟨w, ?_, hown, ExtBut.refl _ _⟩
    obtain ⟨a, cap, rfl, -⟩ := hown.sl.slice_form
    cases a <;> simp [Builtin.clear_, run_underlying ht]
  · rcases hown.2 with ⟨_, h0⟩ | ⟨g, cap, cur, rfl, hbg, hg, hnc, hcm, hcs, htake⟩
    · exact absurd h0 hn
    · have hfit : n * k ≤ cur.size := by rw [hcs]; exact Nat.mul_le_mul_right _ hnc
      have hst := run_storeCells_at P g 0 e (Builtin.zeroCells z.cells n).toList 0 cur w hg (by simpa [hlen] using hfit) h1
      simp only [Nat.add_zero, Nat.zero_add] at hst
      obtain ⟨n', rfl⟩ : ∃ n', n = n' + 1 := ⟨n - 1, by omega⟩
      refine ⟨w.setRow g ((Builtin.zeroCells z.cells (n' + 1)).toList ++ cur.toList.drop ((n' + 1) * k)).toArray, ?_, ⟨hlen, .inr ⟨g, cap, _, rfl, hbg, setRow_heap w g cur _ e _ hg, hnc, hcm, ?_, ?_⟩⟩, ⟨rfl, rfl, rfl, by simp, fun b hb hne => setRow_other w g b _ (fun e => hne (by rw [e]; rfl))⟩⟩
      · have hst' := hst
        rw [hlen] at hst'
        simp [Builtin.clear_, run_underlying ht, zeroValue, typeInfo, hi, hz, hst']
      · simp only [List.size_toArray, List.length_append, List.length_drop, Array.length_toList]
        rw [← Array.length_toList, hlen]
        omega
      · rw [← hlen]
        exact List.take_left

theorem wpList_clear_own {P : Program} {w : World} {ops : Array Oper} {rest : List Oper} {o : Oper} {a : Act} {Q : Exit → Act → World → Prop} (hgd : o.guard = none) (x : Operand) (t : TypeId)
    (ho : o.op = .call { callee := .builtin .clear, args := #[x], argTypes := #[t] })
    {v : Value} (hx : a.eval x = v) {B : Nat} {e : TypeId} {i : TypeInfo} {z : Value} {k : Nat} {n : Nat} {xs : List Value}
    (ht : P.underlying t = some (.slice e)) (hi : P.info? e = some i) (hz : i.zero = some z) (hzk : z.cells.size = k) (h1 : ∀ u ∈ (Builtin.zeroCells z.cells n).toList, u.oneCell' = true) (hown : Own w B e k v n xs)
    (h : ∀ w', Own w' B e k v n (Builtin.zeroCells z.cells n).toList → ExtBut (fun b => v.ownBlock = some b) w w' → wpList P ops Q rest (a.put o.dst (.tuple #[])) w') : wpList P ops Q (o :: rest) a w := by
  obtain ⟨w', hr, h2, h3⟩ := run_clear_own (P := P) (ty := o.type) ht hi hz hzk h1 hown
  refine wpList_plain hgd fun _ hK => ?_
  unfold Oper.wp execOp
  simp only [ho, resolve, invoke, builtin, Sem.run_bind, Sem.run_pure, Result.andThen_ok, List.map_toArray, List.map_cons, List.map_nil, hx, hr]
  exact hK _ _ (h w' h2 h3)

/-- One row of an owned memory was turned. -/
theorem Als.of_put {w w5 : World} {B B' : Nat} {v s' : Value} {vs : List Value} {l : List Alloc} {i : Nat} {y : Alloc} {S : Nat → Prop} (h : OM w B v vs l) (hil : i < l.length)
    (hO : Own w5 B' 70 3 v l.length (trows arow (vs.set i s') (l.set i y))) (hX : ExtBut S w w5) (hS : ∀ (j : Nat) (s1 : Value), j ≠ i → vs[j]? = some s1 → ∀ g, s1.ownBlock = some g → ¬ S g) (hc : Cls w5 s' y.cells) : Als w5 v (l.set i y) := by
  have hl := (All2.iff.1 h.inner).1
  refine ⟨vs.set i s', All2.iff.2 ⟨by simpa using hl, fun j a b ha hb => ?_⟩, by rw [List.length_set]; exact hO.sl⟩
  by_cases e : i = j
  · subst e
    rw [List.getElem?_set_self (by omega)] at ha hb
    cases ha
    cases hb
    exact hc
  · rw [List.getElem?_set_ne e] at ha hb
    exact ExtBut.sl (OwnC.read ((All2.iff.1 h.inner).2 j a b ha hb)) hX (hS j a (fun e' => e e'.symm) ha)
theorem OM.apart' {w : World} {B : Nat} {v s : Value} {vs : List Value} {l : List Alloc} (h : OM w B v vs l) {i : Nat} (hi : vs[i]? = some s) {b : Nat} (hb : s.ownBlock = some b) :
    ∀ (j : Nat) (s1 : Value), j ≠ i → vs[j]? = some s1 → ∀ g, s1.ownBlock = some g → g ≠ b := fun j s1 hne hj g hg e => h.apart j i s1 s hne hj hi g hg (by rw [hb, e])

theorem Cell.infoZ : ∃ i z, Try.prog.info? 29 = some i ∧ i.zero = some z ∧ z.cells = #[.int .u8 0, .int .i64 0, .int .i64 0, .int .i64 0, .int .i64 0] := by
  have h : (Try.prog.info? 29).map (fun i => i.zero.map (fun z => z.cells)) = some (some #[.int .u8 0, .int .i64 0, .int .i64 0, .int .i64 0, .int .i64 0]) := by kernel_rfl
  cases hi : Try.prog.info? 29 with
  | none => rw [hi] at h; simp at h
  | some i =>
    rw [hi] at h
    cases hz : i.zero with
    | none => simp [hz] at h
    | some z => exact ⟨i, z, rfl, hz, by simpa [hz] using h⟩
theorem zcells_zero (n : Nat) : Builtin.zeroCells #[.int .u8 0, .int .i64 0, .int .i64 0, .int .i64 0, .int .i64 0] n = zcells n := zcells_made n
theorem zcells_one (n : Nat) : ∀ u ∈ (zcells n).toList, u.oneCell' = true := Cell.one _
end Go.Proofs.Ytiikdpfbbcnplaa
