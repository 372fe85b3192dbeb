/- Several texts in one: CelW1. -/
import Derived.Test.YtoanoodfacmieaaDoorProg
import Derived.Test.YtoanoodfacmieaaDoorQ02
import Derived.BigQuiet
import Derived.Deep.QuietTactic
/- Contracts: the tests of cells, the program's and the reference's. -/
namespace Go.Proofs.YtoanoodfacmieaaDoor
set_option maxRecDepth 100000
open Go.RowKit
set_option maxHeartbeats 400000 in
theorem allocs_in (n : Int) (w : World) : Calls Tryd.prog 73 #[.int .i64 n] w fun e w'=>e = .returned (.bool (inB n))∧w=w':=by
 by_cases h0 : 0≤n <;> by_cases h1 : n≤1000000
 all_goals
  go_enter Tryd.func73,Tryd.ntmps73
  go_wp2
  go_ret
  exact ⟨by simp [inB, *],rfl⟩
set_option maxHeartbeats 1600000 in
theorem allocs_CheckCell (c : Cell) (w : World) : Calls Tryd.prog 53 #[c.val] w fun e w'=>e = .returned (.int .i64 (cellErr c))∧Ext w w':=by
 obtain ⟨k,n,a,o,t⟩:=c
 unfold Cell.val
 by_cases h0 : k=0
 ·subst h0
  go_enter Tryd.func53,Tryd.ntmps53
  go_wp2
  all_goals (go_ret;exact ⟨by simp [cellErr,Cell.ok,Cell.noP, *] <;> (first | omega | (simp_all;done) | (simp_all;omega)),(Ext.refl _).alloc _⟩)
 ·by_cases h1 : k=1
  ·subst h1
   go_enter Tryd.func53,Tryd.ntmps53
   go_wp2
   all_goals (go_ret;exact ⟨by simp [cellErr,Cell.ok,Cell.noP, *] <;> (first | omega | (simp_all;done) | (simp_all;omega)),(Ext.refl _).alloc _⟩)
  ·by_cases h2 : k=2
   ·subst h2
    cases ha : inB a <;> cases ht : inB t
    all_goals
     go_enter Tryd.func53,Tryd.ntmps53
     go_wp2_with (go_at_call 73;refine (allocs_in _ _).mono ?_;rintro e w' ⟨rfl,rfl⟩)
     all_goals (go_ret;exact ⟨by simp [cellErr,Cell.ok,Cell.noP, *] <;> (first | omega | (simp_all;done) | (simp_all;omega)),(Ext.refl _).alloc _⟩)
   ·go_enter Tryd.func53,Tryd.ntmps53
    go_wp2
    all_goals (go_ret;exact ⟨by simp [cellErr,Cell.ok,Cell.noP, *] <;> (first | omega | (simp_all;done) | (simp_all;omega)),(Ext.refl _).alloc _⟩)
end Go.Proofs.YtoanoodfacmieaaDoor
