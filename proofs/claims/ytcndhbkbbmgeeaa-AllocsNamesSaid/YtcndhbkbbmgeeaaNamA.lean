/- Literal memories; what the calls of AllocsNames give. (printed by gen/names26.py) -/
import Derived.Test.YtcndhbkbbmgeeaaCelY
import Derived.Test.YtcndhbkbbmgeeaaCelWD
import Derived.Test.YtcndhbkbbmgeeaaCelWB
import Derived.Test.YtcndhbkbbmgeeaaCelW9
import Derived.Test.YtcndhbkbbmgeeaaAlive26
import Derived.Test.YtcndhbkbbmgeeaaNamC
import Derived.Test.YtcndhbkbbmgeeaaRegInw
namespace Go.Proofs.Ytcndhbkbbmgeeaa
set_option maxRecDepth 100000
open Go.RowKit

theorem Als.litn (w : World) (cs : Array Value) (vs : List Value) (l : List Alloc) (n b : Nat) (hv : All2 (fun s (x : Alloc) => Cls w s x.cells) vs l) (hb : w.heap.size = b) (hn : l.length = n) (hm : n ≤ maxLen) (hc : cs.toList = trows arow vs l) : Als (w.alloc (.cells cs 55)) (.slice (some ⟨b, 0, none⟩) n n) l := by
  subst hn hb
  have hs : cs.size = l.length * 3 := by
    have := congrArg List.length hc
    rw [trows_len arow arow_len hv.length] at this
    simpa using this
  have := (Own.lit' (B := 0) (e := 55) (k := 3) w cs l.length (Nat.zero_le _) hm hs).sl
  rw [hc] at this
  exact ⟨vs, All2.mono (fun _ _ h => Cls.ext h ((Ext.refl w).alloc _)) hv, this⟩
theorem Als.lit1 (w : World) (num : Int) (live : Bool) (s : Value) (l : List Cell) (b : Nat) (h : Cls w s l) (hb : w.heap.size = b) : Als (w.alloc (.cells #[.int .i64 num, .bool live, s] 55)) (.slice (some ⟨b, 0, none⟩) 1 1) [⟨num, live, l⟩] :=
  Als.litn w _ [s] _ 1 b ⟨h, trivial⟩ hb rfl (by simp [maxLen]) rfl
theorem Als.lit2 (w : World) (num num' : Int) (live live' : Bool) (s s' : Value) (l l' : List Cell) (b : Nat) (h : Cls w s l) (h' : Cls w s' l') (hb : w.heap.size = b) : Als (w.alloc (.cells #[.int .i64 num, .bool live, s, .int .i64 num', .bool live', s'] 55)) (.slice (some ⟨b, 0, none⟩) 2 2) [⟨num, live, l⟩, ⟨num', live', l'⟩] :=
  Als.litn w _ [s, s'] _ 2 b ⟨h, h', trivial⟩ hb rfl (by simp [maxLen]) rfl
theorem zcls3 (w : World) : Cls (w.alloc (.cells (zcells 3) 48)) (.slice (some ⟨w.heap.size, 0, none⟩) 3 3) [Cell.zero, Cell.zero, Cell.zero] := (zcells_own 3 (by decide) w (Nat.zero_le _)).sl
def PrMem (n : Int) (l : List Alloc) : Pr := ⟨fun v w => ∃ s, v = .agg #[s, .int .i64 n] ∧ Als w s l, fun _ _ _ ⟨s, h1, h2⟩ he => ⟨s, h1, h2.ext he⟩⟩
def PrAls (l : List Alloc) : Pr := ⟨fun v w => Als w v l, fun _ _ _ h he => h.ext he⟩
def PrCls (l : List Cell) : Pr := ⟨fun v w => Cls w v l, fun _ _ _ h he => Cls.ext h he⟩
def PrAlc (n : Int) (b : Bool) (l : List Cell) : Pr := ⟨fun v w => ∃ s, v = .agg #[.int .i64 n, .bool b, s] ∧ Cls w s l, fun _ _ _ ⟨s, h1, h2⟩ he => ⟨s, h1, Cls.ext h2 he⟩⟩
def Mrow (w : World) (B i : Nat) (x : Mem) : Prop := ∃ a n c, w.cell? ⟨B, i * 2, none⟩ = some (.slice a n c) ∧ w.cell? ⟨B, i * 2 + 1, none⟩ = some (.int .i64 x.next) ∧ Als w (.slice a n c) x.al
theorem Mrow.ext {w w' : World} {B i : Nat} {x : Mem} (h : Mrow w B i x) (he : Ext w w') : Mrow w' B i x := by
  obtain ⟨a, n, c, h1, h2, h3⟩ := h
  exact ⟨a, n, c, he.cell h1, he.cell h2, h3.ext he⟩
def PrTb (L : List Mem) : Pr := ⟨fun v w => ∃ B, v = .slice (some ⟨B, 0, none⟩) 9 9 ∧ ∀ (i : Nat) (x : Mem), L[i]? = some x → Mrow w B i x, fun _ _ _ ⟨B, h1, h2⟩ he => ⟨B, h1, fun i x hx => (h2 i x hx).ext he⟩⟩
def mrow (s : Value) (m : Mem) : List Value := [s, .int .i64 m.next]
theorem mrow_len (s : Value) (m : Mem) : (mrow s m).length = 2 := rfl
theorem mtab (w : World) (cs : Array Value) (vs : List Value) (L : List Mem) (hv : All2 (fun s (x : Mem) => Als w s x.al) vs L) (hc : cs.toList = trows mrow vs L) : ∀ (i : Nat) (x : Mem), L[i]? = some x → Mrow (w.alloc (.cells cs 52)) w.heap.size i x := by
  intro i x hx
  obtain ⟨s, hs, hA⟩ := hv.get hx
  have hb := Box.new w 52 cs
  have t : ∀ j, j < 2 → (w.alloc (.cells cs 52)).cell? ⟨w.heap.size, i * 2 + j, none⟩ = (mrow s x)[j]? := fun j hj => by
    rw [hb.cell, ← Array.getElem?_toList, hc]
    exact trows_get mrow mrow_len hs hx hj
  obtain ⟨a, c, rfl, -⟩ := hA.form
  exact ⟨a, _, c, t 0 (by omega), t 1 (by omega), hA.ext ((Ext.refl w).alloc _)⟩
def bad26 (m : Mem) : Prop := memErr m.al m.next = 8 ∧ addR m 0 = (Mem.zero, 0, 8) ∧ getR m (-1) = (Alloc.zero, 8) ∧ endR m (-1) = (Mem.zero, 8) ∧ forgetR m = (Mem.zero, 8) ∧ (-9223372036854775808 ≤ m.next ∧ m.next ≤ 9223372036854775807)
instance (m : Mem) : Decidable (bad26 m) := by unfold bad26; infer_instance
def bads26 (A : List Alloc) : List Mem := [⟨[], -1⟩, ⟨[], 1000001⟩, ⟨A, 401⟩, ⟨[⟨0, true, []⟩], 1⟩, ⟨[⟨0, true, [Cell.zero, Cell.zero, Cell.zero]⟩], 1⟩, ⟨[⟨0, true, [⟨1, 5, 0, 0, 0⟩]⟩], 0⟩, ⟨[⟨-1, true, [⟨1, 5, 0, 0, 0⟩]⟩], 1⟩, ⟨[⟨0, false, [⟨1, 5, 0, 0, 0⟩]⟩], 1⟩, ⟨[⟨0, true, [⟨1, 5, 0, 0, 0⟩]⟩, ⟨0, true, [⟨1, 5, 0, 0, 0⟩]⟩], 2⟩]
theorem bads26_all {A : List Alloc} (h : bad26 ⟨A, 401⟩) : ∀ x ∈ bads26 A, bad26 x := by
  have h1 : ∀ x ∈ ([⟨[], -1⟩, ⟨[], 1000001⟩, ⟨[⟨0, true, []⟩], 1⟩, ⟨[⟨0, true, [Cell.zero, Cell.zero, Cell.zero]⟩], 1⟩, ⟨[⟨0, true, [⟨1, 5, 0, 0, 0⟩]⟩], 0⟩, ⟨[⟨-1, true, [⟨1, 5, 0, 0, 0⟩]⟩], 1⟩, ⟨[⟨0, false, [⟨1, 5, 0, 0, 0⟩]⟩], 1⟩, ⟨[⟨0, true, [⟨1, 5, 0, 0, 0⟩]⟩, ⟨0, true, [⟨1, 5, 0, 0, 0⟩]⟩], 2⟩] : List Mem), bad26 x := by decide +kernel
  intro x hx
  by_cases e : x = ⟨A, 401⟩
  · rw [e]; exact h
  · apply h1
    simp only [bads26, List.mem_cons, List.not_mem_nil, or_false] at hx ⊢
    rcases hx with hx | hx | hx | hx | hx | hx | hx | hx | hx <;> first | exact absurd hx e | (simp [hx])
theorem data26 : ∃ A B C D X Y : List Alloc, fullL 401 = A ∧ fullL 400 = B ∧ fullL 399 = C ∧ fullL 3 = D ∧ bad26 ⟨A, 401⟩ ∧ addR ⟨B, 400⟩ 1 = (Mem.zero, 0, 18) ∧ addR ⟨B, 400⟩ 3 = (Mem.zero, 0, 2) ∧ addR ⟨C, 399⟩ 1 = (⟨X, 400⟩, 399, 0) ∧
    getR ⟨D, 3⟩ 3 = (Alloc.zero, 6) ∧ getR ⟨D, 3⟩ 1 = (⟨1, false, [Cell.zero]⟩, 0) ∧ endR ⟨D, 3⟩ 1 = (Mem.zero, 6) ∧ endR ⟨D, 3⟩ (-1) = (Mem.zero, 6) ∧ forgetR ⟨B, 400⟩ = (⟨Y, 400⟩, 0) ∧ Y.length = 200 :=
  ⟨_, _, _, _, fullL 399 ++ [newAlloc 399 1], (forgetR ⟨fullL 400, 400⟩).1.al, rfl, rfl, rfl, rfl, by decide +kernel, by decide +kernel, by decide +kernel, by decide +kernel, by decide +kernel, by decide +kernel, by decide +kernel, by decide +kernel, by decide +kernel, by decide +kernel⟩
theorem an_d : addR ⟨[], 1000000⟩ 1 = (Mem.zero, 0, 18) := by decide +kernel
theorem an_e : addR ⟨[], 999999⟩ 2 = (⟨[newAlloc 999999 2], 1000000⟩, 999999, 0) := by decide +kernel
theorem an_f : addR ⟨[], 0⟩ 0 = (Mem.zero, 0, 2) := by decide +kernel

end Go.Proofs.Ytcndhbkbbmgeeaa
