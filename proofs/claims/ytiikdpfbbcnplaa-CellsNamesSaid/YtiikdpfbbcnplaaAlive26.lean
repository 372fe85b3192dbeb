/- The example of layer 26. -/
import Derived.Test.YtiikdpfbbcnplaaCelWD
namespace Go.Proofs.Ytiikdpfbbcnplaa
set_option maxRecDepth 100000
open Go.RowKit

theorem Als.form1 {w : World} {v : Value} {l : List Alloc} (h : Als w v l) (n : Nat) (e : l.length = n) : ∃ a cap, v = .slice a n cap ∧ n ≤ cap ∧ cap ≤ maxLen ∧ (a = none → cap = 0) := e ▸ h.form
theorem ex26_1 : addR ⟨[], 0⟩ 2 = (⟨[newAlloc 0 2], 1⟩, 0, 0) := by rfl
theorem ex26_2 : addR ⟨[newAlloc 0 2], 1⟩ 1 = (⟨[newAlloc 0 2, newAlloc 1 1], 2⟩, 1, 0) := by rfl
theorem ex26_3 : endR ⟨[newAlloc 0 2, newAlloc 1 1], 2⟩ 0 = (⟨[ended (newAlloc 0 2), newAlloc 1 1], 2⟩, 0) := by rfl
theorem ex26_4 : forgetR ⟨[ended (newAlloc 0 2), newAlloc 1 1], 2⟩ = (⟨[newAlloc 1 1], 2⟩, 0) := by rfl
theorem ex26_5 : addR ⟨[newAlloc 1 1], 2⟩ 1 = (⟨[newAlloc 1 1, newAlloc 2 1], 3⟩, 2, 0) := by rfl

end Go.Proofs.Ytiikdpfbbcnplaa
