/- Several texts in one: MonW. -/
import Derived.Test.YtoanoodfacmieaaDoorQ02
/- Contracts: slices.Index and slices.Contains of integers. -/
namespace Go.Proofs.YtoanoodfacmieaaDoor
set_option maxRecDepth 100000
open Go.RowKit
set_option maxHeartbeats 800000 in
theorem index_int {l : List Int} {v : Value} {w : World} (t : Int) (hl : Nts w v l) : Calls Tryd.prog 59 #[v,.int .i64 t] w fun e w' => ∃ i : Int,e = .returned (.int .i64 i)∧decide (0≤i)=hasR l t∧w=w':=by
 obtain ⟨a,cp,rfl,hlc,hcm,-⟩:=hl.form
 unfold maxLen at hcm
 have hL:=Lib.hid hl
 clear hl
 go_enter Tryd.func59,Tryd.ntmps59
 go_wp2
 go_loop [8] (fun iv => ∃ k : Nat,k≤l.length∧iv = .int .i64 k∧Hid ((l.take k).contains t=false)) (fun iv=>l.length - (intOf iv).toNat)
 case atStart=>exact ⟨0,Nat.zero_le _,rfl,by simp [Hid]⟩
 case round =>
  obtain ⟨k,hk,rfl,hN⟩:=hrel
  by_cases hlt : k < l.length
  ·obtain ⟨x,hx⟩ : ∃ x,l[k]? = some x:=⟨l[k],by simp [hlt]⟩
   obtain ⟨b,off,rfl,hb,c0⟩:=hL.out.cell hx
   have hX:=Lib.hid hx
   clear hx
   cases hxt : t == x
   ·have hN2 : Hid ((l.take (k+1)).contains t=false):=Hid.mk (by
     rw [List.take_add_one,hX.out]
     have h1:=hN.out
     simp only [List.contains_eq_mem,decide_eq_false_iff_not] at h1 ⊢
     simp only [Option.toList_some,List.mem_append,List.mem_singleton,not_or]
     exact ⟨h1,fun e=>by rw [e] at hxt;simp at hxt⟩)
    go_wp2
    go_round
    case rel=>exact ⟨k+1,by omega,by go_num,hN2.out⟩
    case measure=>simp [intOf];omega
   ·have hr : Hid (hasR l t=true):=Hid.mk (by
     rw [hasR]
     have h1:=List.mem_of_getElem? hX.out
     have h2 : t=x:=by simpa using hxt
     subst h2
     simpa using h1)
    go_wp2
    go_ret
    exact ⟨_,rfl,by rw [hr.out];simp,rfl⟩
  ·have hkl : k=l.length:=by omega
   subst hkl
   have hr : Hid (hasR l t=false):=Hid.mk (by have:=hN.out;rw [List.take_length] at this;exact this)
   clear hN
   go_wp2
   go_ret
   exact ⟨_,rfl,by rw [hr.out];simp,rfl⟩
set_option maxHeartbeats 400000 in
theorem contains_int {l : List Int} {v : Value} {w : World} (t : Int) (hl : Nts w v l) : Calls Tryd.prog 26 #[v,.int .i64 t] w fun e w'=>e = .returned (.bool (hasR l t))∧w=w':=by
 have hC:=Lib.hid (index_int t hl)
 obtain ⟨a,cp,rfl,-⟩:=hl.form
 clear hl
 go_enter Tryd.func26,Tryd.ntmps26
 go_wp2_with fail
 refine hC.out.mono ?_
 rintro e w' ⟨i,rfl,hi,rfl⟩
 replace hi:=Lib.hid hi
 go_wp2
 go_ret
 exact ⟨by rw [← hi.out];rfl,rfl⟩
end Go.Proofs.YtoanoodfacmieaaDoor
