/- Several texts in one: CelW1. -/
import Derived.Test.YtnplphcnagooeaaGreatDoorProg
import Derived.Test.YtnplphcnagooeaaGreatDoorQ01
import Derived.BigQuiet
import Derived.Deep.QuietTactic
/- Contracts: the tests of cells, the program's and the reference's. -/
namespace Go.Proofs.YtnplphcnagooeaaGreatDoor
set_option maxRecDepth 100000
open Go.RowKit
set_option maxHeartbeats 400000 in
theorem allocs_in (n : Int) (w : World) : Calls Tryz.prog 108 #[.int .i64 n] w fun e w'=>e = .returned (.bool (inB n))∧w=w':=by
 by_cases h0 : 0≤n <;> by_cases h1 : n≤1000000
 all_goals
  go_enter Tryz.func108,Tryz.ntmps108
  go_wp2
  go_ret
  exact ⟨by simp [inB, *],rfl⟩
set_option maxHeartbeats 400000 in
theorem ref26_In (n : Int) (w : World) : Calls Tryz.prog 103 #[.int .i64 n] w fun e w'=>e = .returned (.bool (inB n))∧w=w':=by
 by_cases h0 : 0≤n <;> by_cases h1 : n≤1000000
 all_goals
  go_enter Tryz.func103,Tryz.ntmps103
  go_wp2
  go_ret
  exact ⟨by simp [inB, *],rfl⟩
set_option maxHeartbeats 1600000 in
theorem allocs_CheckCell (c : Cell) (w : World) : Calls Tryz.prog 64 #[c.val] w fun e w'=>e = .returned (.int .i64 (cellErr c))∧Ext w w':=by
 obtain ⟨k,n,a,o,t⟩:=c
 unfold Cell.val
 by_cases h0 : k=0
 ·subst h0
  go_enter Tryz.func64,Tryz.ntmps64
  go_wp2
  all_goals (go_ret;exact ⟨by simp [cellErr,Cell.ok,Cell.noP, *] <;> (first | omega | (simp_all;done) | (simp_all;omega)),(Ext.refl _).alloc _⟩)
 ·by_cases h1 : k=1
  ·subst h1
   go_enter Tryz.func64,Tryz.ntmps64
   go_wp2
   all_goals (go_ret;exact ⟨by simp [cellErr,Cell.ok,Cell.noP, *] <;> (first | omega | (simp_all;done) | (simp_all;omega)),(Ext.refl _).alloc _⟩)
  ·by_cases h2 : k=2
   ·subst h2
    cases ha : inB a <;> cases ht : inB t
    all_goals
     go_enter Tryz.func64,Tryz.ntmps64
     go_wp2_with (go_at_call 108;refine (allocs_in _ _).mono ?_;rintro e w' ⟨rfl,rfl⟩)
     all_goals (go_ret;exact ⟨by simp [cellErr,Cell.ok,Cell.noP, *] <;> (first | omega | (simp_all;done) | (simp_all;omega)),(Ext.refl _).alloc _⟩)
   ·go_enter Tryz.func64,Tryz.ntmps64
    go_wp2
    all_goals (go_ret;exact ⟨by simp [cellErr,Cell.ok,Cell.noP, *] <;> (first | omega | (simp_all;done) | (simp_all;omega)),(Ext.refl _).alloc _⟩)
set_option maxHeartbeats 1600000 in
theorem ref26_Cell (c : Cell) (w : World) : Calls Tryz.prog 98 #[c.val] w fun e w'=>e = .returned (.bool c.ok)∧Ext w w':=by
 obtain ⟨k,n,a,o,t⟩:=c
 unfold Cell.val
 by_cases h0 : k=0
 ·subst h0
  go_enter Tryz.func98,Tryz.ntmps98
  go_wp2
  all_goals (go_ret;exact ⟨by simp [cellErr,Cell.ok,Cell.noP, *] <;> (first | omega | (simp_all;done) | (simp_all;omega)),(Ext.refl _).alloc _⟩)
 ·by_cases h1 : k=1
  ·subst h1
   go_enter Tryz.func98,Tryz.ntmps98
   go_wp2
   all_goals (go_ret;exact ⟨by simp [cellErr,Cell.ok,Cell.noP, *] <;> (first | omega | (simp_all;done) | (simp_all;omega)),(Ext.refl _).alloc _⟩)
  ·by_cases h2 : k=2
   ·subst h2
    cases ha : inB a <;> cases ht : inB t
    all_goals
     go_enter Tryz.func98,Tryz.ntmps98
     go_wp2_with (go_at_call 103;refine (ref26_In _ _).mono ?_;rintro e w' ⟨rfl,rfl⟩)
     all_goals (go_ret;exact ⟨by simp [cellErr,Cell.ok,Cell.noP, *] <;> (first | omega | (simp_all;done) | (simp_all;omega)),(Ext.refl _).alloc _⟩)
   ·go_enter Tryz.func98,Tryz.ntmps98
    go_wp2
    all_goals (go_ret;exact ⟨by simp [cellErr,Cell.ok,Cell.noP, *] <;> (first | omega | (simp_all;done) | (simp_all;omega)),(Ext.refl _).alloc _⟩)
end Go.Proofs.YtnplphcnagooeaaGreatDoor
