/- What the operations of a literal table of stacks leave. (printed by gen/names33.py) -/
import Derived.Test.YtkbocenpkdaogaaDoorNamK
import Derived.Test.YtkbocenpkdaogaaDoorRegInv
namespace Go.Proofs.YtkbocenpkdaogaaDoor
set_option maxRecDepth 100000
open Go.RowKit

def PrS (l : List (List Item)) : Pr := ⟨fun v w => Sts w v l, fun _ _ _ h he => Sts.ext h he⟩
def PrI (l : List Item) : Pr := ⟨fun v w => Its w v l, fun _ _ _ h he => Its.ext h he⟩
def PrT (l : List Stk) : Pr := ⟨fun v w => Kts w v l, fun _ _ _ h he => Kts.ext h he⟩
def PrK (n : Int) (l : List (List Item)) : Pr := ⟨fun v w => ∃ s, v = .agg #[.int .i64 n, s] ∧ Sts w s l, fun _ _ _ ⟨s, h1, h2⟩ he => ⟨s, h1, Sts.ext h2 he⟩⟩
theorem sts_made1 (w : World) : Sts (w.alloc (.cells #[.slice none 0 0] 31)) (.slice (some ⟨w.heap.size, 0, none⟩) 1 1) [[]] := Sts.lit1 w _ _ _ _ (Its.nil _) rfl
theorem sts_made3 (w : World) : Sts (w.alloc (.cells #[.slice none 0 0, .slice none 0 0, .slice none 0 0] 31)) (.slice (some ⟨w.heap.size, 0, none⟩) 3 3) [[], [], []] := Sts.lit3 w _ _ _ _ _ _ _ _ (Its.nil _) (Its.nil _) (Its.nil _) rfl

end Go.Proofs.YtkbocenpkdaogaaDoor
