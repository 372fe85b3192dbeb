/- Contracts: layer 30, the program's and the reference's. -/
import Derived.Test.YtebocgnbcokogaaGraA
import Derived.Test.YtebocgnbcokogaaAccD
import Derived.Test.YtebocgnbcokogaaItemsP
namespace Go.Proofs.Ytebocgnbcokogaa
set_option maxRecDepth 100000
open Go.RowKit

def u8B (k : Int) : Prop := 0 ≤ k ∧ k ≤ 255


theorem kind_yes {k : Int} (h : kindOk k = true) : k = 1 ∨ k = 2 ∨ k = 3 ∨ k = 4 := by
  unfold kindOk at h
  simp only [Bool.and_eq_true, decide_eq_true_eq] at h
  omega
theorem kind_no {k : Int} (h : kindOk k = false) (hk : u8B k) : k = 0 ∨ 5 ≤ k := by
  unfold kindOk at h
  obtain ⟨h1, h2⟩ := hk
  rcases Bool.and_eq_false_iff.1 h with h | h <;> simp only [decide_eq_false_iff_not] at h <;> omega
theorem kindErr_yes {k : Int} (h : kindOk k = true) : kindErr k = 0 := by simp [kindErr, h]
theorem kindErr_no {k : Int} (h : kindOk k = false) : kindErr k = 2 := by simp [kindErr, h]






def writesR (k : Int) : Bool := kindOk k && writesOf k
theorem writesR_eq (k : Int) : writesR k = writesOf k := by
  unfold writesR writesOf kindOk
  by_cases h2 : k = 2
  · subst h2; rfl
  · by_cases h4 : k = 4
    · subst h4; rfl
    · simp [h2, h4]



end Go.Proofs.Ytebocgnbcokogaa
