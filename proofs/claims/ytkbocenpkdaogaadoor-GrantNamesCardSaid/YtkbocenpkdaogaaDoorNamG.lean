/- What the calls of GrantNames give; no program's function in sight. (printed by gen/names30.py) -/
import Derived.Test.YtkbocenpkdaogaaDoorLaw30A
import Derived.Test.YtkbocenpkdaogaaDoorNamK
namespace Go.Proofs.YtkbocenpkdaogaaDoor
set_option maxRecDepth 100000
open Go.RowKit

def full30 (j : Nat) : List Item := ⟨1, 1, 0⟩ :: List.replicate j ⟨4, 2, 0⟩
theorem full30_next (j : Nat) : full30 j ++ [⟨4, 2, 0⟩] = full30 (j + 1) := by simp [full30, List.replicate_succ']
theorem full30_len (j : Nat) : (full30 j).length = j + 1 := by simp [full30]
theorem gn_0 : retagR [⟨1, 1, 0⟩] 0 1 ⟨0, 7, 3⟩ = ([], [], 0, 2) := by decide +kernel
theorem gn_1 : retagR [⟨1, 1, 0⟩] 1 1 ⟨0, 7, 3⟩ = ([⟨1, 1, 0⟩, ⟨4, 7, 3⟩], [], 0, 0) := by decide +kernel
theorem gn_2 : retagR [⟨1, 1, 0⟩] 2 1 ⟨0, 7, 3⟩ = ([⟨1, 1, 0⟩, ⟨1, 7, 3⟩], [], 0, 0) := by decide +kernel
theorem gn_3 : retagR [⟨1, 1, 0⟩] 3 1 ⟨0, 7, 3⟩ = ([⟨1, 1, 0⟩, ⟨2, 7, 3⟩], [], 0, 0) := by decide +kernel
theorem gn_4 : retagR [⟨1, 1, 0⟩] 4 1 ⟨0, 7, 3⟩ = ([⟨1, 1, 0⟩, ⟨3, 7, 3⟩], [], 0, 0) := by decide +kernel
theorem gn_5 : retagR [⟨1, 1, 0⟩] 5 1 ⟨0, 7, 3⟩ = ([], [], 0, 2) := by decide +kernel
theorem gn_a : retagR [⟨0, 0, 0⟩] 9 1 ⟨1, 0, 0⟩ = ([], [], 0, 8) := by decide +kernel
theorem gn_b : retagR [] 1 1 ⟨1, 0, 0⟩ = ([], [], 0, 2) := by decide +kernel
theorem gn_c : retagR [] 1 1 ⟨0, -1, 0⟩ = ([], [], 0, 2) := by decide +kernel
theorem gn_d : retagR [] 1 1 ⟨0, 0, 1000001⟩ = ([], [], 0, 2) := by decide +kernel
theorem gn_e : retagR [] 1 1 ⟨0, 0, 0⟩ = ([], [], 1, 0) := by decide +kernel
theorem data30 : ∃ F G : List Item, full30 599 = F ∧ F.length = 600 ∧ retagR F 1 2 ⟨0, 3, 0⟩ = ([], [], 0, 18) ∧ retagR F 1 3 ⟨0, 3, 0⟩ = ([], [], 1, 0) ∧ retagR F 2 1 ⟨0, 1000000, 1000000⟩ = ([⟨1, 1, 0⟩, ⟨1, 1000000, 1000000⟩], G, 0, 0) ∧ G.length = 599 :=
  ⟨_, List.replicate 599 ⟨4, 2, 0⟩, rfl, by decide +kernel, by decide +kernel, by decide +kernel, by decide +kernel, by decide +kernel⟩

end Go.Proofs.YtkbocenpkdaogaaDoor
