/- Several texts in one: Close, Law35A, StkE, StkF, StkG, StkH. -/
import Derived.Test.YtnplphcnagooeaaGreatDoorQ01
import Derived.Test.YtnplphcnagooeaaGreatDoorQ09
import Derived.Test.YtnplphcnagooeaaGreatDoorQ08
import Derived.Test.YtnplphcnagooeaaGreatDoorQ07
import Derived.Deep.RegionLaw
/- How a statement is closed: a call that returns true and only makes memory leaves every argument aas it read. -/
namespace Go.Proofs.YtnplphcnagooeaaGreatDoor
set_option maxRecDepth 100000
open Go.ChangeShapes Go.WideShapes Go.ChangeAt Go.RowKit
theorem Tryzown : ownKnob Tryz.prog.godebug=none:=by kernel_rfl
theorem TryzlaidOut : laidOutB Tryz.prog=true:=by kernel_rfl
section
variable {H : Type} {enc : TypeId × Value→H} {P : Program}
theorem trodAll_stays (hl : laidOutB P=true) {W W' : World} (hb : Below W.heap.size W W') : ∀ (ts : List TypeId) (vs : List Value) (ds : List (DataW H)) (ps : List MemPlace),(∀ t ∈ ts,P.readableRec t=true∧t < P.types.size)→(∀ x ∈ ps,x.block < W.heap.size) →
  DataW.TrodAll enc P W 0 (fun _=>true) true ts vs ds ps→DataW.TrodAll enc P W' 0 (fun b=>decide (b < W.heap.size)) true ts vs ds ps
 | [],[],[],ps,_,_,h=>h
 | t :: ts,v :: vs,d :: ds,ps,hr,hlt,h=>by
  obtain ⟨p,q,h1,h2,rfl⟩:=h
  refine ⟨p,q,Below.trod hl (hr t (by simp)).1 (hr t (by simp)).2 h1 hb (fun x hx=>hlt x (by simp [hx])),trodAll_stays hl hb ts vs ds q (fun t ht=>hr t (by simp [ht])) (fun x hx=>hlt x (by simp [hx])) h2,rfl⟩
 | [],_ :: _,_,_,_,_,h=>h.elim
 | [],[],_ :: _,_,_,_,h=>h.elim
 | _ :: _,[],_,_,_,_,h=>h.elim
 | _ :: _,_ :: _,[],_,_,_,h=>h.elim
theorem trodAll_len {W : World} : ∀ (ts : List TypeId) (vs : List Value) (ds : List (DataW H)) (ps : List MemPlace),DataW.TrodAll enc P W 0 (fun _=>true) true ts vs ds ps→ds.length=ts.length
 | [],[],[],_,_=>rfl
 | _ :: ts,_ :: vs,_ :: ds,_,h=>by
  obtain ⟨p,q,_,h2,_⟩:=h
  simp [trodAll_len ts vs ds q h2]
 | [],_ :: _,_,_,h=>h.elim
 | [],[],_ :: _,_,h=>h.elim
 | _ :: _,[],_,_,h=>h.elim
 | _ :: _,_ :: _,[],_,h=>h.elim
theorem post_law (hl : laidOutB P=true) {f : Func} {s : ChangeSpec} {tb : TypeId} (hres : f.resultTypes=#[tb]) (htb : P.underlying tb=some .bool) (hrd : f.params.toList.all (fun t=>P.readableRec t && decide (t < P.types.size))=true) (hv : s.vars=[])
  (hs : ∀ ds : List (DataW H),ds.length=f.params.size→s.fn H ds = { results:=[.lit (.bool true)],args:=ds,vars:=[] }) {fresh handsOn : Bool} {W W' : World} {args : Array Value} {ds gs : List (DataW H)} {before : List MemPlace}
  (hW : DataW.Whole enc P f.params.toList s.vars false W args.toList ds gs before) (hb : Below W.heap.size W W') :
  s.post enc P f false fresh handsOn false W args (.bool true) W':=by
 have hW':=hW
 have hlt:=hW.lt
 obtain ⟨p,q,hA,hV,rfl,hz,hn⟩:=hW
 rw [hv] at hV
 have hgs : gs=[]:=by cases gs <;> simp_all [DataW.TrodVars]
 subst hgs
 have hq : q=[]:=hV
 subst hq
 have hlen:=trodAll_len _ _ _ _ hA
 have hfn:=hs ds (by simpa using hlen)
 refine ⟨ds,[],p ++ [],[],p,[],hW',?_,?_,?_,Below.frame hb _,fun h=>by cases h⟩
 ·rw [List.append_nil,hfn,hres]
  exact trodAll_mk1 (shut_bool htb true)
 ·rw [List.append_nil,hfn]
  refine trodAll_stays hl hb _ _ _ _ (fun t ht => ?_) (fun x hx=>hlt x (by simp [hx])) hA
  have:=List.all_eq_true.1 hrd t ht
  simpa using this
 ·rw [List.append_nil,hfn,hv]
  rfl
end
end Go.Proofs.YtnplphcnagooeaaGreatDoor

/- What the statements of layer 35 share. (printed by gen/law35a.py) -/
namespace Go.Proofs.YtnplphcnagooeaaGreatDoor
set_option maxRecDepth 100000
open Go.RowKit
theorem notGreat.small {m : Mon} (h : notGreat m) : small m.mem.al∧(m.stks.length≤1000000 ∧ ∀ x ∈ m.stks,x.cells.length≤1000000 ∧ ∀ s ∈ x.cells,s.length≤1000000)∧m.run.length≤1000000:=by
 obtain ⟨h1,h2,h3,h4⟩:=h
 refine ⟨?_,⟨by omega,fun x hx => ?_⟩,by omega⟩
 ·unfold greatM at h1
  simp only [Bool.or_eq_false_iff,decide_eq_false_iff_not] at h1
  refine ⟨by omega,fun a ha => ?_⟩
  have h5:=List.any_eq_false.1 h1.1 a (by rw [List.take_of_length_le (by omega)];exact ha)
  simp at h5
  omega
 ·have h5:=greatK_small (h4 x hx)
  exact ⟨by omega,fun s hs=>by have:=h5.2 s hs;omega⟩
theorem rd_m {w : World} {m : Mon} {sa ss sr : Value} (hA : Als w sa m.mem.al) (hK : Kts w ss m.stks) (hR : Nts w sr m.run) : RdMon w (.agg #[sa,.int .i64 m.mem.next,ss,sr,.int .i64 m.tag,.int .i64 m.call]) m:=⟨_,_,_,rfl,hA,hK,hR⟩
theorem rd_parts {w : World} {m : Mon} {sa ss sr : Value} (h : Als w sa m.mem.al∧Kts w ss m.stks∧Nts w sr m.run) : RdMon w (.agg #[sa,.int .i64 m.mem.next,ss,sr,.int .i64 m.tag,.int .i64 m.call]) m:=⟨_,_,_,rfl,h.1,h.2.1,h.2.2⟩
end Go.Proofs.YtnplphcnagooeaaGreatDoor

/- Contracts: asked of layer 33, the program's and the reference's. (printed by gen/use33.py) -/
namespace Go.Proofs.YtnplphcnagooeaaGreatDoor
set_option maxRecDepth 100000
open Go.RowKit
def inR33 (x : Stk) (a n : Int) : Prop:=0≤a∧a < x.cells.length∧1≤n∧n≤x.cells.length - a
instance (x : Stk) (a n : Int) : Decidable (inR33 x a n):=by unfold inR33;infer_instance
def ask33 (x : Stk) (a n : Int) (run : List Int) : Int:=if okR run then (if okK x then (if inR33 x a n then 0 else 6) else 8) else 8
theorem ask33_cases (x : Stk) (a n : Int) (run : List Int) : ask33 x a n run=8∨ask33 x a n run=6∨(ask33 x a n run=0∧okR run=true∧okK x=true∧inR33 x a n):=by
 unfold ask33
 cases okR run
 ·simp
 ·cases okK x
  ·simp
  ·by_cases h : inR33 x a n <;> simp [h]
set_option maxHeartbeats 1600000 in
theorem stacks_asked {l : List (List Item)} {num a n : Int} {run : List Int} {s v : Value} {w : World} (hl : Sts w s l) (hr : Nts w v run) :
  Calls Tryz.prog 84 #[.agg #[.int .i64 num,s],.int .i64 a,.int .i64 n,v] w fun e w'=>e = .returned (.int .i64 (ask33 ⟨num,l⟩ a n run))∧Ext w w':=by
 have hE0:=(Ext.refl w).alloc (.cells #[.int .i64 num,s] 68)
 have hl0:=hl.ext hE0
 have hr0:=hr.ext hE0
 obtain ⟨p,cp,rfl,hlc,hcm,-⟩:=hl.form
 obtain ⟨a2,cp2,rfl,-⟩:=hr.form
 unfold maxLen at hcm
 have bM:=Box.new w 68 #[.int .i64 num,.slice p l.length cp]
 clear hl hr
 cases hok : okR run
 ·have h8:=Lib.hid (runErr_bad hok)
  have hres : Hid (ask33 ⟨num,l⟩ a n run=8):=Hid.mk (by simp [ask33,hok])
  clear hok
  go_enter Tryz.func84,Tryz.ntmps84
  go_wp2_with fail
  refine (guard_Check hr0).mono ?_
  rintro e w1 ⟨rfl,rfl⟩
  rw [h8.out]
  go_wp2
  go_ret
  exact ⟨by rw [hres.out] <;> rfl,hE0⟩
 have h0:=Lib.hid (runErr_ok hok)
 cases hkk : okK ⟨num,l⟩
 ·have h8:=Lib.hid (stkErr_bad hkk)
  have hres : Hid (ask33 ⟨num,l⟩ a n run=8):=Hid.mk (by simp [ask33,hok,hkk])
  clear hok hkk
  go_enter Tryz.func84,Tryz.ntmps84
  go_wp2_with fail
  refine (guard_Check hr0).mono ?_
  rintro e w1 ⟨rfl,rfl⟩
  rw [h0.out]
  go_wp2_with fail
  refine (stacks_Check hl0).mono ?_
  rintro e w2 ⟨rfl,hE2⟩
  rw [h8.out]
  go_wp2
  go_ret
  exact ⟨by rw [hres.out] <;> rfl,hE0.trans hE2⟩
 have hk0:=Lib.hid (stkErr_ok hkk)
 have hres : Hid (ask33 ⟨num,l⟩ a n run=if inR33 ⟨num,l⟩ a n then 0 else 6):=Hid.mk (by rw [ask33,if_pos hok,if_pos hkk])
 clear hok hkk
 by_cases hin : 0≤a∧a < l.length
 ·have hw1 : IntKind.i64.wrap ((l.length : Int) - a)=(l.length : Int) - a:=IntWalk.i64_in _ (by omega)
  have g1 : decide (a < 0)=false:=decide_eq_false (by omega)
  have g2 : decide ((l.length : Int)≤a)=false:=decide_eq_false (by omega)
  by_cases hn1 : n < 1
  ·have g3 : decide (n < 1)=true:=decide_eq_true hn1
   have hf : Hid ((if inR33 ⟨num,l⟩ a n then (0 : Int) else 6)=6):=Hid.mk (if_neg (by unfold inR33;dsimp only;omega))
   go_enter Tryz.func84,Tryz.ntmps84
   go_wp2_with fail
   refine (guard_Check hr0).mono ?_
   rintro e w1 ⟨rfl,rfl⟩
   rw [h0.out]
   go_wp2_with fail
   refine (stacks_Check hl0).mono ?_
   rintro e w2 ⟨rfl,hE2⟩
   rw [hk0.out]
   have m1 : World.cell? w2 ⟨w.heap.size,1,none⟩=some (.slice p l.length cp):=(bM.ext hE2).cell 1
   go_wp2
   go_ret
   exact ⟨by rw [hres.out,hf.out] <;> rfl,hE0.trans hE2⟩
  have g3 : decide (n < 1)=false:=decide_eq_false hn1
  by_cases hn2 : (l.length : Int) - a < n
  ·have g4 : decide ((l.length : Int) - a < n)=true:=decide_eq_true hn2
   have hf : Hid ((if inR33 ⟨num,l⟩ a n then (0 : Int) else 6)=6):=Hid.mk (if_neg (by unfold inR33;dsimp only;omega))
   go_enter Tryz.func84,Tryz.ntmps84
   go_wp2_with fail
   refine (guard_Check hr0).mono ?_
   rintro e w1 ⟨rfl,rfl⟩
   rw [h0.out]
   go_wp2_with fail
   refine (stacks_Check hl0).mono ?_
   rintro e w2 ⟨rfl,hE2⟩
   rw [hk0.out]
   have m1 : World.cell? w2 ⟨w.heap.size,1,none⟩=some (.slice p l.length cp):=(bM.ext hE2).cell 1
   go_wp2
   go_ret
   exact ⟨by rw [hres.out,hf.out] <;> rfl,hE0.trans hE2⟩
  ·have g4 : decide ((l.length : Int) - a < n)=false:=decide_eq_false hn2
   have hf : Hid ((if inR33 ⟨num,l⟩ a n then (0 : Int) else 6)=0):=Hid.mk (if_pos (by unfold inR33;dsimp only;omega))
   go_enter Tryz.func84,Tryz.ntmps84
   go_wp2_with fail
   refine (guard_Check hr0).mono ?_
   rintro e w1 ⟨rfl,rfl⟩
   rw [h0.out]
   go_wp2_with fail
   refine (stacks_Check hl0).mono ?_
   rintro e w2 ⟨rfl,hE2⟩
   rw [hk0.out]
   have m1 : World.cell? w2 ⟨w.heap.size,1,none⟩=some (.slice p l.length cp):=(bM.ext hE2).cell 1
   go_wp2
   go_ret
   exact ⟨by rw [hres.out,hf.out] <;> rfl,hE0.trans hE2⟩
 ·have hf : Hid ((if inR33 ⟨num,l⟩ a n then (0 : Int) else 6)=6):=Hid.mk (if_neg (by unfold inR33;dsimp only;omega))
  rcases Int.lt_or_le a 0 with ha | ha
  ·have g1 : decide (a < 0)=true:=decide_eq_true ha
   go_enter Tryz.func84,Tryz.ntmps84
   go_wp2_with fail
   refine (guard_Check hr0).mono ?_
   rintro e w1 ⟨rfl,rfl⟩
   rw [h0.out]
   go_wp2_with fail
   refine (stacks_Check hl0).mono ?_
   rintro e w2 ⟨rfl,hE2⟩
   rw [hk0.out]
   have m1 : World.cell? w2 ⟨w.heap.size,1,none⟩=some (.slice p l.length cp):=(bM.ext hE2).cell 1
   go_wp2
   go_ret
   exact ⟨by rw [hres.out,hf.out] <;> rfl,hE0.trans hE2⟩
  ·have g1 : decide (a < 0)=false:=decide_eq_false (by omega)
   have g2 : decide ((l.length : Int)≤a)=true:=decide_eq_true (by omega)
   go_enter Tryz.func84,Tryz.ntmps84
   go_wp2_with fail
   refine (guard_Check hr0).mono ?_
   rintro e w1 ⟨rfl,rfl⟩
   rw [h0.out]
   go_wp2_with fail
   refine (stacks_Check hl0).mono ?_
   rintro e w2 ⟨rfl,hE2⟩
   rw [hk0.out]
   have m1 : World.cell? w2 ⟨w.heap.size,1,none⟩=some (.slice p l.length cp):=(bM.ext hE2).cell 1
   go_wp2
   go_ret
   exact ⟨by rw [hres.out,hf.out] <;> rfl,hE0.trans hE2⟩
set_option maxHeartbeats 1600000 in
theorem ref33_asked {l : List (List Item)} {num a n : Int} {run : List Int} {s v : Value} {w : World} (hl : Sts w s l) (hr : Nts w v run) :
  Calls Tryz.prog 94 #[.agg #[.int .i64 num,s],.int .i64 a,.int .i64 n,v] w fun e w'=>e = .returned (.int .i64 (ask33 ⟨num,l⟩ a n run))∧Ext w w':=by
 have hE0:=(Ext.refl w).alloc (.cells #[.int .i64 num,s] 68)
 have hl0:=hl.ext hE0
 have hr0:=hr.ext hE0
 obtain ⟨p,cp,rfl,hlc,hcm,-⟩:=hl.form
 obtain ⟨a2,cp2,rfl,-⟩:=hr.form
 unfold maxLen at hcm
 have bM:=Box.new w 68 #[.int .i64 num,.slice p l.length cp]
 clear hl hr
 cases hok : okR run
 ·have h8:=Lib.hid (runErr_bad hok)
  have hres : Hid (ask33 ⟨num,l⟩ a n run=8):=Hid.mk (by simp [ask33,hok])
  clear hok
  go_enter Tryz.func94,Tryz.ntmps94
  go_wp2_with fail
  refine (ref31_Check hr0).mono ?_
  rintro e w1 ⟨rfl,rfl⟩
  rw [h8.out]
  go_wp2
  go_ret
  exact ⟨by rw [hres.out] <;> rfl,hE0⟩
 have h0:=Lib.hid (runErr_ok hok)
 cases hkk : okK ⟨num,l⟩
 ·have h8:=Lib.hid (stkErr_bad hkk)
  have hres : Hid (ask33 ⟨num,l⟩ a n run=8):=Hid.mk (by simp [ask33,hok,hkk])
  clear hok hkk
  go_enter Tryz.func94,Tryz.ntmps94
  go_wp2_with fail
  refine (ref31_Check hr0).mono ?_
  rintro e w1 ⟨rfl,rfl⟩
  rw [h0.out]
  go_wp2_with fail
  refine (ref33_Check hl0).mono ?_
  rintro e w2 ⟨rfl,hE2⟩
  rw [h8.out]
  go_wp2
  go_ret
  exact ⟨by rw [hres.out] <;> rfl,hE0.trans hE2⟩
 have hk0:=Lib.hid (stkErr_ok hkk)
 have hres : Hid (ask33 ⟨num,l⟩ a n run=if inR33 ⟨num,l⟩ a n then 0 else 6):=Hid.mk (by rw [ask33,if_pos hok,if_pos hkk])
 clear hok hkk
 by_cases hin : 0≤a∧a < l.length
 ·have hw1 : IntKind.i64.wrap ((l.length : Int) - a)=(l.length : Int) - a:=IntWalk.i64_in _ (by omega)
  have g1 : decide (a < 0)=false:=decide_eq_false (by omega)
  have g2 : decide ((l.length : Int)≤a)=false:=decide_eq_false (by omega)
  by_cases hn1 : n < 1
  ·have g3 : decide (n < 1)=true:=decide_eq_true hn1
   have hf : Hid ((if inR33 ⟨num,l⟩ a n then (0 : Int) else 6)=6):=Hid.mk (if_neg (by unfold inR33;dsimp only;omega))
   go_enter Tryz.func94,Tryz.ntmps94
   go_wp2_with fail
   refine (ref31_Check hr0).mono ?_
   rintro e w1 ⟨rfl,rfl⟩
   rw [h0.out]
   go_wp2_with fail
   refine (ref33_Check hl0).mono ?_
   rintro e w2 ⟨rfl,hE2⟩
   rw [hk0.out]
   have m1 : World.cell? w2 ⟨w.heap.size,1,none⟩=some (.slice p l.length cp):=(bM.ext hE2).cell 1
   go_wp2
   go_ret
   exact ⟨by rw [hres.out,hf.out] <;> rfl,hE0.trans hE2⟩
  have g3 : decide (n < 1)=false:=decide_eq_false hn1
  by_cases hn2 : (l.length : Int) - a < n
  ·have g4 : decide ((l.length : Int) - a < n)=true:=decide_eq_true hn2
   have hf : Hid ((if inR33 ⟨num,l⟩ a n then (0 : Int) else 6)=6):=Hid.mk (if_neg (by unfold inR33;dsimp only;omega))
   go_enter Tryz.func94,Tryz.ntmps94
   go_wp2_with fail
   refine (ref31_Check hr0).mono ?_
   rintro e w1 ⟨rfl,rfl⟩
   rw [h0.out]
   go_wp2_with fail
   refine (ref33_Check hl0).mono ?_
   rintro e w2 ⟨rfl,hE2⟩
   rw [hk0.out]
   have m1 : World.cell? w2 ⟨w.heap.size,1,none⟩=some (.slice p l.length cp):=(bM.ext hE2).cell 1
   go_wp2
   go_ret
   exact ⟨by rw [hres.out,hf.out] <;> rfl,hE0.trans hE2⟩
  ·have g4 : decide ((l.length : Int) - a < n)=false:=decide_eq_false hn2
   have hf : Hid ((if inR33 ⟨num,l⟩ a n then (0 : Int) else 6)=0):=Hid.mk (if_pos (by unfold inR33;dsimp only;omega))
   go_enter Tryz.func94,Tryz.ntmps94
   go_wp2_with fail
   refine (ref31_Check hr0).mono ?_
   rintro e w1 ⟨rfl,rfl⟩
   rw [h0.out]
   go_wp2_with fail
   refine (ref33_Check hl0).mono ?_
   rintro e w2 ⟨rfl,hE2⟩
   rw [hk0.out]
   have m1 : World.cell? w2 ⟨w.heap.size,1,none⟩=some (.slice p l.length cp):=(bM.ext hE2).cell 1
   go_wp2
   go_ret
   exact ⟨by rw [hres.out,hf.out] <;> rfl,hE0.trans hE2⟩
 ·have hf : Hid ((if inR33 ⟨num,l⟩ a n then (0 : Int) else 6)=6):=Hid.mk (if_neg (by unfold inR33;dsimp only;omega))
  rcases Int.lt_or_le a 0 with ha | ha
  ·have g1 : decide (a < 0)=true:=decide_eq_true ha
   go_enter Tryz.func94,Tryz.ntmps94
   go_wp2_with fail
   refine (ref31_Check hr0).mono ?_
   rintro e w1 ⟨rfl,rfl⟩
   rw [h0.out]
   go_wp2_with fail
   refine (ref33_Check hl0).mono ?_
   rintro e w2 ⟨rfl,hE2⟩
   rw [hk0.out]
   have m1 : World.cell? w2 ⟨w.heap.size,1,none⟩=some (.slice p l.length cp):=(bM.ext hE2).cell 1
   go_wp2
   go_ret
   exact ⟨by rw [hres.out,hf.out] <;> rfl,hE0.trans hE2⟩
  ·have g1 : decide (a < 0)=false:=decide_eq_false (by omega)
   have g2 : decide ((l.length : Int)≤a)=true:=decide_eq_true (by omega)
   go_enter Tryz.func94,Tryz.ntmps94
   go_wp2_with fail
   refine (ref31_Check hr0).mono ?_
   rintro e w1 ⟨rfl,rfl⟩
   rw [h0.out]
   go_wp2_with fail
   refine (ref33_Check hl0).mono ?_
   rintro e w2 ⟨rfl,hE2⟩
   rw [hk0.out]
   have m1 : World.cell? w2 ⟨w.heap.size,1,none⟩=some (.slice p l.length cp):=(bM.ext hE2).cell 1
   go_wp2
   go_ret
   exact ⟨by rw [hres.out,hf.out] <;> rfl,hE0.trans hE2⟩
end Go.Proofs.YtnplphcnagooeaaGreatDoor

/- A stack of the call's own stacks is set; what an access of a range gives; no program in sight. -/
namespace Go.Proofs.YtnplphcnagooeaaGreatDoor
set_option maxRecDepth 100000
open Go.RowKit
theorem trows_srow : ∀ {vs : List Value} {l : List (List Item)},vs.length=l.length→trows srow vs l=vs
 | [],[],_=>rfl
 | v :: vs,a :: l,h=>by
  have ih:=trows_srow (vs:=vs) (l:=l) (by simpa using h)
  unfold trows at ih ⊢
  simp only [List.zip_cons_cons,List.flatMap_cons,srow] at ih ⊢
  rw [ih]
  rfl
theorem OwnS.set {w wx : World} {B g cap : Nat} {vs : List Value} {l : List (List Item)} {s : Value} {a : List Item} {j : Nat} (h : OwnS w B (.slice (some ⟨g,0,none⟩) l.length cap) vs l) (hE : Ext w wx) (hR : OwnI wx B s a)
  (hs : ∀ b,s.ownBlock=some b→w.heap.size≤b) (hj : j < l.length) : OwnS (wx.setCell ⟨g,j,none⟩ s) B (.slice (some ⟨g,0,none⟩) (l.set j a).length cap) (vs.set j s) (l.set j a):=by
 have hl:=(All2.iff.1 h.inner).1
 have hO:=(h.outer.ext hE).set j s
 have hg:=(Own.lt h.outer (g:=g) rfl).2
 have hS : ExtBut (· = g) wx (wx.setCell ⟨g,j,none⟩ s):=ExtBut.setCell wx ⟨g,j,none⟩ s
 have hold : ∀ x ∈ vs,∀ b,x.ownBlock=some b→B≤b∧b < w.heap.size:=h.inner_lt
 rw [trows_srow hl] at hO
 refine ⟨?_,?_,?_,?_⟩
 ·rw [List.length_set,trows_srow (by simpa using hl)]
  exact hO
 ·refine All2.iff.2 ⟨by simpa using hl,fun i x y hx hy => ?_⟩
  by_cases e : i=j
  ·subst e
   rw [List.getElem?_set_self (by omega)] at hx hy
   cases hx
   cases hy
   exact OwnI.keep hR hS (fun b e1 e2=>by have:=hs b e1;have e2' : b=g:=e2;omega)
  ·rw [List.getElem?_set_ne (fun e'=>e e'.symm)] at hx hy
   refine OwnI.keep (OwnI.keep ((All2.iff.1 h.inner).2 i x y hx hy) (ExtBut.of_ext (S:=fun _=>False) hE) (fun _ _ h=>h)) hS (fun b e1 e2 => ?_)
   have e2' : b=g:=e2
   subst e2'
   exact h.far x (List.mem_of_getElem? hx) b e1 rfl
 ·intro i k x y hne hx hy b ex ey
  by_cases e1 : i=j
  ·subst e1
   rw [List.getElem?_set_self (by omega)] at hx
   cases hx
   rw [List.getElem?_set_ne hne] at hy
   have:=(hold y (List.mem_of_getElem? hy) b ey).2
   have:=hs b ex
   omega
  ·rw [List.getElem?_set_ne (fun e'=>e1 e'.symm)] at hx
   by_cases e2 : k=j
   ·subst e2
    rw [List.getElem?_set_self (by omega)] at hy
    cases hy
    have:=(hold x (List.mem_of_getElem? hx) b ex).2
    have:=hs b ey
    omega
   ·rw [List.getElem?_set_ne (fun e'=>e2 e'.symm)] at hy
    exact h.apart i k x y hne hx hy b ex ey
 ·intro x hx b e1 e2
  cases e2
  rcases List.mem_or_eq_of_mem_set hx with h1 | rfl
  ·exact h.far x h1 _ e1 rfl
  ·have : w.heap.size≤g:=hs _ e1
   omega
def eachGo (f : List Item→List Item × Int × Int) (num : Int) (cells : List (List Item)) : Nat→Nat→List (List Item)→Int→Stk × Int × Int
 | 0,_,out,why=>if why=0 then (⟨num,out⟩,0,0) else (Stk.zero,why,0)
 | m+1,j,out,why=>if (f (cells.getD j [])).2.2=0 then eachGo f num cells m (j+1) (out.set j (f (cells.getD j [])).1) (if why=0 then (f (cells.getD j [])).2.1 else why) else (Stk.zero,0,(f (cells.getD j [])).2.2)
theorem eachGo_end {f : List Item→List Item × Int × Int} {num : Int} {cells out : List (List Item)} {j : Nat} : eachGo f num cells 0 j out 0=(⟨num,out⟩,0,0):=rfl
theorem eachGo_why {f : List Item→List Item × Int × Int} {num why : Int} {cells out : List (List Item)} {j : Nat} (h : why≠0) : eachGo f num cells 0 j out why=(Stk.zero,why,0):=if_neg h
theorem eachGo_bad {f : List Item→List Item × Int × Int} {num why : Int} {cells out : List (List Item)} {m j : Nat} {x s : List Item} {v e : Int} (hx : cells[j]? = some x) (hf : f x=(s,v,e)) (he : e≠0) :
  eachGo f num cells (m+1) j out why=(Stk.zero,0,e):=by
 have h : cells.getD j []=x:=by rw [List.getD_eq_getElem?_getD,hx];rfl
 rw [eachGo,h,hf,if_neg he]
theorem eachGo_ok {f : List Item→List Item × Int × Int} {num why : Int} {cells out : List (List Item)} {m j : Nat} {x s : List Item} {v : Int} (hx : cells[j]? = some x) (hf : f x=(s,v,0)) :
  eachGo f num cells (m+1) j out why=eachGo f num cells m (j+1) (out.set j s) (if why=0 then v else why):=by
 have h : cells.getD j []=x:=by rw [List.getD_eq_getElem?_getD,hx];rfl
 rw [eachGo,h,hf,if_pos rfl]
def eachR (f : List Item→List Item × Int × Int) (x : Stk) (a n : Nat) : Stk × Int × Int:=eachGo f x.num x.cells n a x.cells 0
end Go.Proofs.YtnplphcnagooeaaGreatDoor

/- Contracts: one and ranged of the reference of layer 33. (printed by gen/ranged33.py) -/
namespace Go.Proofs.YtnplphcnagooeaaGreatDoor
set_option maxRecDepth 100000
open Go.RowKit
def oneR (kind tag : Int) (it : Item) (run : List Int) (l : List Item) : List Item × Int × Int:=if kind=0 then useR l tag false run else if kind=9 then useR l tag true run else tagR l kind tag it run
theorem oneR_read {tag : Int} {it : Item} {run : List Int} {l : List Item} : oneR 0 tag it run l=useR l tag false run:=rfl
theorem oneR_write {tag : Int} {it : Item} {run : List Int} {l : List Item} : oneR 9 tag it run l=useR l tag true run:=rfl
theorem oneR_tag {kind tag : Int} {it : Item} {run : List Int} {l : List Item} (h0 : kind≠0) (h9 : kind≠9) : oneR kind tag it run l=tagR l kind tag it run:=by rw [oneR,if_neg h0,if_neg h9]
set_option maxHeartbeats 800000 in
theorem ref33_one {l : List Item} {run : List Int} {kind : Int} {v r : Value} {w : World} (hk : u8B kind) (tag : Int) (it : Item) (hl : Its w v l) (hr : Nts w r run) :
  Calls Tryz.prog 118 #[v,.int .u8 kind,.int .i64 tag,it.val,r] w (RetSO w (oneR kind tag it run l).1 (oneR kind tag it run l).2.1 (oneR kind tag it run l).2.2):=by
 obtain ⟨p,t,c⟩:=it
 have hE0:=(Ext.refl w).alloc (.cells #[.int .u8 p,.int .i64 t,.int .i64 c] 70)
 have bI:=Box.new w 70 #[.int .u8 p,.int .i64 t,.int .i64 c]
 have i0 : World.cell? (w.alloc (.cells #[.int .u8 p,.int .i64 t,.int .i64 c] 70)) ⟨w.heap.size,0,none⟩=some (.int .u8 p):=bI.cell 0
 have i1 : World.cell? (w.alloc (.cells #[.int .u8 p,.int .i64 t,.int .i64 c] 70)) ⟨w.heap.size,1,none⟩=some (.int .i64 t):=bI.cell 1
 have i2 : World.cell? (w.alloc (.cells #[.int .u8 p,.int .i64 t,.int .i64 c] 70)) ⟨w.heap.size,2,none⟩=some (.int .i64 c):=bI.cell 2
 have hL:=Lib.hid (hl.ext hE0)
 have hR:=Lib.hid (hr.ext hE0)
 obtain ⟨a,cp,rfl,-⟩:=hl.form
 obtain ⟨a3,cp3,rfl,-⟩:=hr.form
 clear hl hr bI
 unfold Item.val
 by_cases h0 : kind=0
 ·subst h0
  rw [oneR_read]
  go_enter Tryz.func118,Tryz.ntmps118
  go_wp2_with fail
  refine (ref31_ReadO tag hL.out hR.out).mono ?_
  rintro e w2 ⟨v2,rfl,hv2,hE2⟩
  obtain ⟨b3,d3,rfl,-⟩:=hv2.its.form
  go_wp2
  refine bodyPost_ret (results_tmp3 rfl _ _ _) rfl ?_
  exact ⟨_,rfl,OwnI.mono hv2 hE0.size,hE0.trans hE2⟩
 by_cases h9 : kind=9
 ·subst h9
  rw [oneR_write]
  go_enter Tryz.func118,Tryz.ntmps118
  go_wp2_with fail
  refine (ref31_WriteO tag hL.out hR.out).mono ?_
  rintro e w2 ⟨v2,rfl,hv2,hE2⟩
  obtain ⟨b3,d3,rfl,-⟩:=hv2.its.form
  go_wp2
  refine bodyPost_ret (results_tmp3 rfl _ _ _) rfl ?_
  exact ⟨_,rfl,OwnI.mono hv2 hE0.size,hE0.trans hE2⟩
 ·have k0 : (kind == 0)=false:=by simp [h0]
  have k9 : (kind == 9)=false:=by simp [h9]
  rw [oneR_tag h0 h9]
  replace hk:=Lib.hid hk
  clear h0 h9
  go_enter Tryz.func118,Tryz.ntmps118
  go_wp2_with fail
  refine (ref31_RetagO hk.out tag ⟨p,t,c⟩ hL.out hR.out).mono ?_
  rintro e w2 ⟨v2,rfl,hv2,hE2⟩
  obtain ⟨b3,d3,rfl,-⟩:=hv2.its.form
  go_wp2
  refine bodyPost_ret (results_tmp3 rfl _ _ _) rfl ?_
  exact ⟨_,rfl,OwnI.mono hv2 hE0.size,hE0.trans hE2⟩
set_option maxHeartbeats 3200000 in
theorem ref33_ranged {l : List (List Item)} {num kind : Int} {a n : Nat} {run : List Int} {s v : Value} {w : World} (hk : u8B kind) (tag : Int) (it : Item) (hsm : l.length≤2 ∧ ∀ x ∈ l,x.length≤600) (hin : a < l.length∧1≤n∧n≤l.length - a) (hl : Sts w s l) (hr : Nts w v run) :
  Calls Tryz.prog 95 #[.agg #[.int .i64 num,s],.int .i64 a,.int .i64 n,.int .u8 kind,.int .i64 tag,it.val,v] w (RetKW w (eachR (oneR kind tag it run) ⟨num,l⟩ a n).1 (eachR (oneR kind tag it run) ⟨num,l⟩ a n).2.1 (eachR (oneR kind tag it run) ⟨num,l⟩ a n).2.2):=by
 obtain ⟨p,t,c⟩:=it
 obtain ⟨q,cp,rfl,hlc,hcm,-⟩:=hl.form
 obtain ⟨a3,cp3,rfl,-⟩:=hr.form
 unfold maxLen at hcm
 have hE0 : Ext w (World.alloc (World.alloc (World.alloc w (.cells #[.int .i64 num,.slice q l.length cp] 68)) (.cells #[.int .u8 p,.int .i64 t,.int .i64 c] 70)) (.cells #[.int .i64 0,.slice none 0 0] 68)):=(((Ext.refl w).alloc _).alloc _).alloc _
 have bM:=((Box.new w 68 #[.int .i64 num,.slice q l.length cp]).ext ((Ext.refl _).alloc (.cells #[.int .u8 p,.int .i64 t,.int .i64 c] 70))).ext ((Ext.refl _).alloc (.cells #[.int .i64 0,.slice none 0 0] 68))
 have bI:=(Box.new (World.alloc w (.cells #[.int .i64 num,.slice q l.length cp] 68)) 70 #[.int .u8 p,.int .i64 t,.int .i64 c]).ext ((Ext.refl _).alloc (.cells #[.int .i64 0,.slice none 0 0] 68))
 have bR:=Box.new (World.alloc (World.alloc w (.cells #[.int .i64 num,.slice q l.length cp] 68)) (.cells #[.int .u8 p,.int .i64 t,.int .i64 c] 70)) 68 #[.int .i64 0,.slice none 0 0]
 simp only [World.size_alloc] at bI bR
 have hL:=Lib.hid (hl.ext hE0)
 have hR:=Lib.hid (hr.ext hE0)
 have hL0:=Lib.hid hl
 have hR0:=Lib.hid hr
 clear hl hr
 have m0 : World.cell? (World.alloc (World.alloc (World.alloc w (.cells #[.int .i64 num,.slice q l.length cp] 68)) (.cells #[.int .u8 p,.int .i64 t,.int .i64 c] 70)) (.cells #[.int .i64 0,.slice none 0 0] 68)) ⟨w.heap.size,0,none⟩=some (.int .i64 num):=bM.cell 0
 have m1 : World.cell? (World.alloc (World.alloc (World.alloc w (.cells #[.int .i64 num,.slice q l.length cp] 68)) (.cells #[.int .u8 p,.int .i64 t,.int .i64 c] 70)) (.cells #[.int .i64 0,.slice none 0 0] 68)) ⟨w.heap.size,1,none⟩=some (.slice q l.length cp):=bM.cell 1
 have hH:=Lib.hid (And.intro bM (And.intro bI bR))
 clear bM bI bR
 unfold Item.val
 replace hk:=Lib.hid hk
 go_enter Tryz.func95,Tryz.ntmps95
 go_wp2_with fail
 obtain ⟨w1,hw1⟩ : ∃ z,(World.alloc (World.alloc (World.alloc w (.cells #[.int .i64 num,.slice q l.length cp] 68)) (.cells #[.int .u8 p,.int .i64 t,.int .i64 c] 70)) (.cells #[.int .i64 0,.slice none 0 0] 68))=z:=⟨_,rfl⟩
 have hsz1 : w1.heap.size=w.heap.size+3:=by rw [← hw1];simp
 rw [hw1] at hE0 hH hL hR ⊢
 clear hw1 m0 m1
 refine (ref33_Twin hL.out ⟨by omega,fun x hx=>by have:=hsm.2 x hx;omega⟩).mono ?_
 rintro e w2 ⟨vt,vs0,rfl,hT,hE2⟩
 replace hT : OwnS w2 w1.heap.size vt vs0 l:=hT
 obtain ⟨g,cg,rfl,hcg,hcg2,hg1,hg2⟩:=Own.form hT.outer (show 0 < l.length by omega)
 dsimp only
 have bO:=Box.new w2 68 #[.int .i64 num,.slice (some ⟨g,0,none⟩) l.length cg]
 have hEo:=(Ext.refl w2).alloc (.cells #[.int .i64 num,.slice (some ⟨g,0,none⟩) l.length cg] 68)
 go_wp2
 obtain ⟨w3,hw3⟩ : ∃ z,World.alloc w2 (.cells #[.int .i64 num,.slice (some ⟨g,0,none⟩) l.length cg] 68)=z:=⟨_,rfl⟩
 have hsz3 : w3.heap.size=w2.heap.size+1:=by rw [← hw3];simp
 rw [hw3] at bO hEo ⊢
 clear hw3
 have hT3:=hT.ext hEo
 have hE3:=(hE0.trans hE2).trans hEo
 have hH3:=Lib.hid (And.intro ((hH.out.1.ext hE2).ext hEo) (And.intro ((hH.out.2.1.ext hE2).ext hEo) ((hH.out.2.2.ext hE2).ext hEo)))
 have hsz2:=hE2.size
 replace bO:=Lib.hid bO
 clear hT hH hL hR hE2 hEo
 unfold maxLen at hcg2
 have hwr : IntKind.i64.wrap ((a : Int)+(n : Int))=(a : Int)+(n : Int):=IntWalk.i64_in _ (by omega)
 go_loopw [18,19] (fun fv iv wr => ∃ (j : Nat) (why : Int) (out : List (List Item)) (vs : List Value),a≤j∧j≤a+n∧iv = .int .i64 j∧fv = .int .u8 why∧out.length=l.length∧OwnS wr w1.heap.size (.slice (some ⟨g,0,none⟩) l.length cg) vs out∧ExtBut (· = g) w3 wr∧Hid (eachR (oneR kind tag ⟨p,t,c⟩ run) ⟨num,l⟩ a n=eachGo (oneR kind tag ⟨p,t,c⟩ run) num l (a+n - j) j out why)) (fun _ iv _=>a+n - (intOf iv).toNat)
 case atStart=>exact ⟨a,0,l,vs0,Nat.le_refl _,by omega,rfl,rfl,rfl,hT3,ExtBut.refl _ _,Hid.mk (by rw [show a+n - a=n by omega];rfl)⟩
 case round =>
  obtain ⟨j,why,out,vs,hj1,hj2,rfl,rfl,hol,hO,hX,hN⟩:=hrel
  have bM:=hH3.out.1.but hX (by omega)
  have bI:=hH3.out.2.1.but hX (by omega)
  have bR:=hH3.out.2.2.but hX (by omega)
  have bO4:=bO.out.but hX (by omega)
  have hF : Ext w wr:=ExtBut.ext hE3 hX (fun x h=>by omega)
  have m0 : wr.cell? ⟨w.heap.size,0,none⟩=some (.int .i64 num):=bM.cell 0
  have m1 : wr.cell? ⟨w.heap.size,1,none⟩=some (.slice q l.length cp):=bM.cell 1
  have i0 : wr.cell? ⟨w.heap.size+1,0,none⟩=some (.int .u8 p):=bI.cell 0
  have i1 : wr.cell? ⟨w.heap.size+1,1,none⟩=some (.int .i64 t):=bI.cell 1
  have i2 : wr.cell? ⟨w.heap.size+1,2,none⟩=some (.int .i64 c):=bI.cell 2
  by_cases hlt : j < a+n
  ·have hlt' : decide ((j : Int) < (a : Int)+(n : Int))=true:=decide_eq_true (by omega)
   obtain ⟨x,hx⟩ : ∃ x,l[j]? = some x:=⟨l[j],by simp [show j < l.length by omega]⟩
   obtain ⟨b,off,sv,rfl,hbb,d0,hcl⟩:=(hL0.out.ext hF).cell hx
   have hX0:=Lib.hid hx
   obtain ⟨ca,ccp,rfl,-⟩:=hcl.form
   have hC:=Lib.hid hcl
   have hR2:=Lib.hid (hR0.out.ext hF)
   obtain ⟨⟨s2,v2,e2⟩,hf⟩ : ∃ z,oneR kind tag ⟨p,t,c⟩ run x=z:=⟨_,rfl⟩
   replace hf:=Lib.hid hf
   have hA:=Lib.hid (And.intro hO (And.intro hX (And.intro bO4 bR)))
   have hjl : j < l.length:=by omega
   clear hx hcl hbb hO hX bM bI bR bO4
   by_cases he : e2=0
   ·subst he
    go_wp2
    have hSk : ∀ w' w'' : World,(w'.cell? ⟨w.heap.size,0,none⟩=some (.int .i64 num)∧w'.cell? ⟨w.heap.size,1,none⟩=some (.slice (some ⟨b,off,none⟩) l.length cp)∧w'.cell? ⟨w.heap.size+1,0,none⟩=some (.int .u8 p)∧w'.cell? ⟨w.heap.size+1,1,none⟩=some (.int .i64 t)∧w'.cell? ⟨w.heap.size+1,2,none⟩=some (.int .i64 c)∧w'.cell? ⟨b,off+j,none⟩=some (.slice ca x.length ccp)∧Ext wr w')→Ext w' w''→(w''.cell? ⟨w.heap.size,0,none⟩=some (.int .i64 num)∧w''.cell? ⟨w.heap.size,1,none⟩=some (.slice (some ⟨b,off,none⟩) l.length cp)∧w''.cell? ⟨w.heap.size+1,0,none⟩=some (.int .u8 p)∧w''.cell? ⟨w.heap.size+1,1,none⟩=some (.int .i64 t)∧w''.cell? ⟨w.heap.size+1,2,none⟩=some (.int .i64 c)∧w''.cell? ⟨b,off+j,none⟩=some (.slice ca x.length ccp)∧Ext wr w''):=by
     rintro w' w'' ⟨k0,k1,k2,k3,k4,k5,kE⟩ h
     exact ⟨h.cell k0,h.cell k1,h.cell k2,h.cell k3,h.cell k4,h.cell k5,Ext.trans kE h⟩
    go_region_held3 (fun w'=>(w'.cell? ⟨w.heap.size,0,none⟩=some (.int .i64 num)∧w'.cell? ⟨w.heap.size,1,none⟩=some (.slice (some ⟨b,off,none⟩) l.length cp)∧w'.cell? ⟨w.heap.size+1,0,none⟩=some (.int .u8 p)∧w'.cell? ⟨w.heap.size+1,1,none⟩=some (.int .i64 t)∧w'.cell? ⟨w.heap.size+1,2,none⟩=some (.int .i64 c)∧w'.cell? ⟨b,off+j,none⟩=some (.slice ca x.length ccp)∧Ext wr w')) (first | assumption | exact ⟨m0,m1,i0,i1,i2,d0,(Ext.refl _).drew⟩ | (refine hSk _ _ (by assumption) ?_;first | assumption | exact (Ext.refl _).alloc _ | exact ((Ext.refl _).alloc _).drew)) (first | (go_at_call 118;refine (ref33_one hk.out tag ⟨p,t,c⟩ (hC.out.ext ?_) (hR2.out.ext ?_)).mono ?_;(exact And.right (And.right (And.right (And.right (And.right (And.right (by assumption)))))));(exact And.right (And.right (And.right (And.right (And.right (And.right (by assumption)))))));rintro e wn ⟨vo,rfl,hvo,hR0⟩;(have hB : Ext wr wn:=(by refine Ext.trans ?_ hR0;exact And.right (And.right (And.right (And.right (And.right (And.right (by assumption))))))));(have hvo2 : OwnI wn wr.heap.size vo (oneR kind tag ⟨p,t,c⟩ run x).1:=OwnI.mono hvo (Ext.size (a:=wr) (by exact And.right (And.right (And.right (And.right (And.right (And.right (by assumption)))))))));(obtain ⟨bo,co,rfl,-⟩:=hvo2.its.form);(replace hvo2:=Lib.hid hvo2);clear hvo;(rw [hf.out] at hvo2 ⊢);dsimp only at hvo2 ⊢))
    all_goals
     have bO5:=hA.out.2.2.1.ext hB
     have o1 : wn.cell? ⟨w2.heap.size,1,none⟩=some (.slice (some ⟨g,0,none⟩) l.length cg):=bO5.cell 1
     have hOo:=hA.out.1.outer
     rw [hol] at hOo
     have hfr:=(Own.ext hOo hB).frozen j
     have hgl : g < wn.heap.size:=by have:=hB.size;have:=hA.out.2.1.size;omega
     obtain ⟨y,hy⟩ : ∃ y,out[j]? = some y:=⟨out[j]'(by omega),by simp [show j < out.length by omega]⟩
     obtain ⟨b',off',sv',hbe,hb',c0,-⟩:=(hA.out.1.sts.ext hB).cell hy
     cases hbe
     rw [Nat.zero_add] at c0
     have hO5 : OwnS (wn.setCell ⟨g,j,none⟩ (.slice bo s2.length co)) w1.heap.size (.slice (some ⟨g,0,none⟩) l.length cg) (vs.set j (.slice bo s2.length co)) (out.set j s2):=by
      have h:=OwnS.set (show OwnS wr w1.heap.size (.slice (some ⟨g,0,none⟩) out.length cg) vs out by rw [hol];exact hA.out.1) hB (OwnI.mono hvo2.out (by have:=hA.out.2.1.size;omega)) (fun b e=>(Own.lt hvo2.out e).1) (show j < out.length by omega)
      rw [List.length_set,hol] at h
      exact h
     have hX5:=(hA.out.2.1.trans (ExtBut.of_ext hB)).trans (ExtBut.setCell wn ⟨g,j,none⟩ (.slice bo s2.length co))
     have hN2 : eachR (oneR kind tag ⟨p,t,c⟩ run) ⟨num,l⟩ a n=eachGo (oneR kind tag ⟨p,t,c⟩ run) num l (a+n - (j+1)) (j+1) (out.set j s2) (if why=0 then v2 else why):=by
      rw [hN.out,show a+n - j=(a+n - (j+1))+1 by omega,eachGo_ok hX0.out hf.out]
     have hZ:=Lib.hid (And.intro hO5 (And.intro hX5 hN2))
     clear hOo hb' hy hO5 hX5 hN2 bO5
     by_cases hwy : why=0
     ·subst hwy
      go_wp2
      go_roundw
      case rel=>exact ⟨j+1,v2,_,_,by omega,by omega,by go_num,rfl,by simp [hol],hZ.out.1,hZ.out.2.1,Hid.mk hZ.out.2.2⟩
      case measure=>simp [intOf];omega
     ·have hw1 : (why == 0)=false:=by simp [hwy]
      go_wp2
      go_roundw
      case rel=>exact ⟨j+1,why,_,_,by omega,by omega,by go_num,rfl,by simp [hol],hZ.out.1,hZ.out.2.1,Hid.mk (by rw [hZ.out.2.2,if_neg hwy])⟩
      case measure=>simp [intOf];omega
   ·have he1 : (e2 != 0)=true:=by simp [he]
    have hres : Hid (eachR (oneR kind tag ⟨p,t,c⟩ run) ⟨num,l⟩ a n=(Stk.zero,0,e2)):=Hid.mk (by rw [hN.out,show a+n - j=(a+n - (j+1))+1 by omega,eachGo_bad hX0.out hf.out he])
    go_wp2
    have hSk : ∀ w' w'' : World,(w'.cell? ⟨w.heap.size,0,none⟩=some (.int .i64 num)∧w'.cell? ⟨w.heap.size,1,none⟩=some (.slice (some ⟨b,off,none⟩) l.length cp)∧w'.cell? ⟨w.heap.size+1,0,none⟩=some (.int .u8 p)∧w'.cell? ⟨w.heap.size+1,1,none⟩=some (.int .i64 t)∧w'.cell? ⟨w.heap.size+1,2,none⟩=some (.int .i64 c)∧w'.cell? ⟨b,off+j,none⟩=some (.slice ca x.length ccp)∧Ext wr w')→Ext w' w''→(w''.cell? ⟨w.heap.size,0,none⟩=some (.int .i64 num)∧w''.cell? ⟨w.heap.size,1,none⟩=some (.slice (some ⟨b,off,none⟩) l.length cp)∧w''.cell? ⟨w.heap.size+1,0,none⟩=some (.int .u8 p)∧w''.cell? ⟨w.heap.size+1,1,none⟩=some (.int .i64 t)∧w''.cell? ⟨w.heap.size+1,2,none⟩=some (.int .i64 c)∧w''.cell? ⟨b,off+j,none⟩=some (.slice ca x.length ccp)∧Ext wr w''):=by
     rintro w' w'' ⟨k0,k1,k2,k3,k4,k5,kE⟩ h
     exact ⟨h.cell k0,h.cell k1,h.cell k2,h.cell k3,h.cell k4,h.cell k5,Ext.trans kE h⟩
    go_region_held3 (fun w'=>(w'.cell? ⟨w.heap.size,0,none⟩=some (.int .i64 num)∧w'.cell? ⟨w.heap.size,1,none⟩=some (.slice (some ⟨b,off,none⟩) l.length cp)∧w'.cell? ⟨w.heap.size+1,0,none⟩=some (.int .u8 p)∧w'.cell? ⟨w.heap.size+1,1,none⟩=some (.int .i64 t)∧w'.cell? ⟨w.heap.size+1,2,none⟩=some (.int .i64 c)∧w'.cell? ⟨b,off+j,none⟩=some (.slice ca x.length ccp)∧Ext wr w')) (first | assumption | exact ⟨m0,m1,i0,i1,i2,d0,(Ext.refl _).drew⟩ | (refine hSk _ _ (by assumption) ?_;first | assumption | exact (Ext.refl _).alloc _ | exact ((Ext.refl _).alloc _).drew)) (first | (go_at_call 118;refine (ref33_one hk.out tag ⟨p,t,c⟩ (hC.out.ext ?_) (hR2.out.ext ?_)).mono ?_;(exact And.right (And.right (And.right (And.right (And.right (And.right (by assumption)))))));(exact And.right (And.right (And.right (And.right (And.right (And.right (by assumption)))))));rintro e wn ⟨vo,rfl,hvo,hR0⟩;(have hB : Ext wr wn:=(by refine Ext.trans ?_ hR0;exact And.right (And.right (And.right (And.right (And.right (And.right (by assumption))))))));(have hvo2 : OwnI wn wr.heap.size vo (oneR kind tag ⟨p,t,c⟩ run x).1:=OwnI.mono hvo (Ext.size (a:=wr) (by exact And.right (And.right (And.right (And.right (And.right (And.right (by assumption)))))))));(obtain ⟨bo,co,rfl,-⟩:=hvo2.its.form);(replace hvo2:=Lib.hid hvo2);clear hvo;(rw [hf.out] at hvo2 ⊢);dsimp only at hvo2 ⊢))
    all_goals
     have bR5:=hA.out.2.2.2.ext hB
     have r0 : wn.cell? ⟨w.heap.size+1+1,0,none⟩=some (.int .i64 0):=bR5.cell 0
     have r1 : wn.cell? ⟨w.heap.size+1+1,1,none⟩=some (.slice none 0 0):=bR5.cell 1
     have rf0:=bR5.frozen 0
     have rf1:=bR5.frozen 1
     have hF5:=hF.trans hB
     clear bR5
     go_wp2
     rw [hres.out]
     refine bodyPost_ret (v := .tuple #[.agg #[.int .i64 0,.slice none 0 0],.int .u8 0,.int .i64 e2]) (by simp [results,Tryz.f95,go_sem,r0,r1]) rfl ⟨_,[],rfl,OwnS.nil _ _,?_⟩
     first | exact hF5 | exact (hF5.setCell (by simp;omega) _).setCell (by simp;omega) _
  ·have hlt' : decide ((j : Int) < (a : Int)+(n : Int))=false:=decide_eq_false (by omega)
   have hja : j=a+n:=by omega
   have hm0 : a+n - j=0:=by omega
   rw [hm0] at hN
   have r0 : wr.cell? ⟨w.heap.size+1+1,0,none⟩=some (.int .i64 0):=bR.cell 0
   have r1 : wr.cell? ⟨w.heap.size+1+1,1,none⟩=some (.slice none 0 0):=bR.cell 1
   have rf0:=bR.frozen 0
   have rf1:=bR.frozen 1
   have o0 : wr.cell? ⟨w2.heap.size,0,none⟩=some (.int .i64 num):=bO4.cell 0
   have o1 : wr.cell? ⟨w2.heap.size,1,none⟩=some (.slice (some ⟨g,0,none⟩) l.length cg):=bO4.cell 1
   have hO':=Lib.hid hO
   clear hO hm0 hlt bM bI bR bO4
   by_cases hwy : why=0
   ·subst hwy
    have hres : Hid (eachR (oneR kind tag ⟨p,t,c⟩ run) ⟨num,l⟩ a n=(⟨num,out⟩,0,0)):=Hid.mk (by rw [hN.out,eachGo_end])
    go_wp2
    rw [hres.out]
    have hY:=((ExtBut.setCell wr ⟨w.heap.size+1+1,0,none⟩ (.int .i64 num)).mono (S':=fun b=>b=w.heap.size+1+1) (fun x _ h=>h)).trans ((ExtBut.setCell _ ⟨w.heap.size+1+1,1,none⟩ (.slice (some ⟨g,0,none⟩) l.length cg)).mono (S':=fun b=>b=w.heap.size+1+1) (fun x _ h=>h))
    refine bodyPost_ret (v := .tuple #[.agg #[.int .i64 num,.slice (some ⟨g,0,none⟩) l.length cg],.int .u8 0,.int .i64 0]) (by simp [results,Tryz.f95,go_sem,r0,r1]) rfl ⟨_,vs,rfl,OwnS.mono (B':=w.heap.size) (OwnS.but hO'.out hY (fun g e h=>by omega)) (by omega),ExtBut.ext hF hY (fun x h=>by omega)⟩
   ·have hw1 : (why != 0)=true:=by simp [hwy]
    have hres : Hid (eachR (oneR kind tag ⟨p,t,c⟩ run) ⟨num,l⟩ a n=(Stk.zero,why,0)):=Hid.mk (by rw [hN.out,eachGo_why hwy])
    clear hwy
    go_wp2
    rw [hres.out]
    refine bodyPost_ret (v := .tuple #[.agg #[.int .i64 0,.slice none 0 0],.int .u8 why,.int .i64 0]) (by simp [results,Tryz.f95,go_sem,r0,r1]) rfl ⟨_,[],rfl,OwnS.nil _ _,?_⟩
    first | exact hF | exact (hF.setCell (by simp;omega) _).setCell (by simp;omega) _
end Go.Proofs.YtnplphcnagooeaaGreatDoor

/- Contracts: each of layer 33, with a function value. (printed by gen/each33.py) -/
namespace Go.Proofs.YtnplphcnagooeaaGreatDoor
set_option maxRecDepth 100000
open Go.RowKit
def PredU (g : Nat) (cap : Array Value) (W : World) (f : List Item→List Item × Int × Int) : Prop :=
 ∀ (x : List Item) (s : Value) (w : World),Ext W w→Its w s x→Calls Tryz.prog g (#[s] ++ cap) w (RetSO w (f x).1 (f x).2.1 (f x).2.2)
set_option maxHeartbeats 3200000 in
theorem stacks_each {gf : Nat} {cap : Array Value} {f : List Item→List Item × Int × Int} {l : List (List Item)} {num : Int} {fa n : Nat} {s : Value} {w : World} (hg : ∀ args w,(callFunc gf args).run Tryz.prog w = .ok (.enter gf args) w) (hp : PredU gf cap w f)
  (hsm : l.length≤2 ∧ ∀ x ∈ l,x.length≤600) (hin : fa < l.length∧1≤n∧n≤l.length - fa) (hl : Sts w s l) :
  Calls Tryz.prog 85 #[.agg #[.int .i64 num,s],.int .i64 fa,.int .i64 n,.func (.func gf) #[] cap] w (RetKW w (eachR f ⟨num,l⟩ fa n).1 (eachR f ⟨num,l⟩ fa n).2.1 (eachR f ⟨num,l⟩ fa n).2.2):=by
 have hs : l.length≤1000000 ∧ ∀ x ∈ l,x.length≤1000000:=⟨by omega,fun x hx=>by have:=hsm.2 x hx;omega⟩
 obtain ⟨ai,az,hai,haz,hai3,haz3,haby⟩:=Stack.infoE
 have hai:=Lib.hid hai;have haz:=Lib.hid haz;have hai3:=Lib.hid hai3;have haz3:=Lib.hid haz3;have haby:=Lib.hid haby
 have hform:=hl.form
 obtain ⟨a,cp,rfl,hlc,hcm,-⟩:=hform
 unfold maxLen at hcm
 have hL:=Lib.hid hl
 have hsm:=Lib.hid hs.1
 have hE0:=(((Ext.refl w).alloc (.cells #[.int .i64 num,.slice a l.length cp] 68)).alloc (.cells #[.int .i64 0,.slice none 0 0] 68)).alloc (.cells #[.int .i64 num,.slice none 0 0] 68)
 have bM:=((Box.new w 68 #[.int .i64 num,.slice a l.length cp]).ext ((Ext.refl _).alloc (.cells #[.int .i64 0,.slice none 0 0] 68))).ext ((Ext.refl _).alloc (.cells #[.int .i64 num,.slice none 0 0] 68))
 have bR:=(Box.new (World.alloc w (.cells #[.int .i64 num,.slice a l.length cp] 68)) 68 #[.int .i64 0,.slice none 0 0]).ext ((Ext.refl _).alloc (.cells #[.int .i64 num,.slice none 0 0] 68))
 have bO:=Box.new (World.alloc (World.alloc w (.cells #[.int .i64 num,.slice a l.length cp] 68)) (.cells #[.int .i64 0,.slice none 0 0] 68)) 68 #[.int .i64 num,.slice none 0 0]
 simp only [World.size_alloc] at bR bO
 have hH:=Lib.hid (And.intro bM (And.intro bR bO))
 clear bM bR bO hl
 go_enter Tryz.func85,Tryz.ntmps85
 go_wp2
 obtain ⟨w1,hw1⟩ : ∃ w1,(World.alloc (World.alloc (World.alloc w (.cells #[.int .i64 num,.slice a l.length cp] 68)) (.cells #[.int .i64 0,.slice none 0 0] 68)) (.cells #[.int .i64 num,.slice none 0 0] 68))=w1:=⟨_,rfl⟩
 have hsz1 : w1.heap.size=w.heap.size+3:=by rw [← hw1];simp
 rw [hw1] at hE0 hH ⊢
 clear hw1
 have hsz1:=Lib.hid hsz1
 go_loopw [25] (fun iv wr => ∃ (k : Nat) (v : Value) (vs : List Value),k≤l.length∧iv = .int .i64 k∧Box wr (w.heap.size+1+1) 68 #[.int .i64 num,v]∧OwnS wr w1.heap.size v vs (l.take k)∧ExtBut (· = w.heap.size+1+1) w1 wr) (fun iv _=>l.length - (intOf iv).toNat)
 case atStart=>exact ⟨0,_,[],Nat.zero_le _,rfl,hH.out.2.2,OTb.nil _ _,ExtBut.refl _ _⟩
 case round =>
  obtain ⟨k,v,vs,hk,rfl,bO,hT,hX⟩:=hrel
  have bM:=hH.out.1.but hX (by omega)
  have bR:=hH.out.2.1.but hX (by omega)
  have hF : Ext w wr:=ExtBut.ext hE0 hX (fun x h=>by omega)
  have hlk : (l.take k).length=k:=by rw [List.length_take];omega
  have hOv:=hT.outer
  rw [hlk] at hOv
  obtain ⟨av,cv,rfl,hcv1,hcv2,-⟩:=hOv.sl.slice_form
  unfold maxLen at hcv2
  have m0 : wr.cell? ⟨w.heap.size,1,none⟩=some (.slice a l.length cp):=bM.cell 1
  have o0 : wr.cell? ⟨w.heap.size+1+1,1,none⟩=some (.slice av k cv):=bO.cell 1
  have hBl:=bO.lt
  by_cases hlt : k < l.length
  ·obtain ⟨x,hx⟩ : ∃ x,l[k]? = some x:=⟨l[k],by simp [hlt]⟩
   obtain ⟨b,off,sv,rfl,hbb,d0,hcl⟩:=(hL.out.ext hF).cell hx
   obtain ⟨ca,ccp,rfl,hclc,hccm,-⟩:=hcl.form
   have hxs : x.length≤1000000:=hs.2 x (List.mem_of_getElem? hx)
   have hA:=Lib.hid (And.intro hx (And.intro hT (And.intro hX (And.intro hOv (And.intro bO hlk)))))
   clear hx hT hX hOv bO hlk bM bR hs hbb
   go_wp2
   have hk6 : k≤1000000:=by have:=hsm.out;omega
   go_wp2
   go_region_law (first | (rw [if_pos (by rfl)];refine wp_append_any (.tmp 30) (.tmp 33) 66 66 rfl rfl rfl (B:=w1.heap.size) (e:=72) (n:=k) (m:=1) (xs:=trows srow vs (l.take k)) (ys:=srow (.slice an x.length cn) x) Tryz.underlying66 Tryz.underlying66 hai.out haz.out hai3.out haz3.out ?_ ?_ ?_ ?_ ?_ ?_ ?_;(first | exact hA.out.2.2.2.1.ext hB.out.1 | exact hA.out.2.2.2.1.ext hB.out.1.drew);(first | exact (Own.lit' (B:=0) (e:=72) (k:=1) w4 #[.slice an x.length cn] 1 (Nat.zero_le _) (by simp [maxLen]) rfl).sl | exact (Own.lit' (B:=0) (e:=72) (k:=1) w4 #[.slice an x.length cn] 1 (Nat.zero_le _) (by simp [maxLen]) rfl).sl.ext (Ext.refl _).drew);(simp [srow,Value.oneCell']);(simp [maxLen];omega);(rw [haby.out];omega);(exact Nat.le_trans hA.out.2.2.1.size hB.out.1.size);intro v' w6 hOv hKv hbv _;(obtain ⟨av',cv',rfl,-⟩:=hOv.sl.slice_form);(have hvB:=fun g e=>(hA.out.2.2.2.1.lt (g:=g) e).1);(have bO6 : Box w6 (w.heap.size+1+1) 68 #[.int .i64 num,.slice av k cv]:=(hA.out.2.2.2.2.1.ext hB.out.1).but (ExtBut.of_keeps hKv) (fun h=>by have:=hvB _ h;have:=hsz1.out;omega));(have o6 : w6.cell? ⟨w.heap.size+1+1,1,none⟩=some (.slice av k cv):=bO6.cell 1);(have of6:=bO6.frozen 1);(have hC:=Lib.hid (And.intro hOv (And.intro hKv (And.intro hbv bO6))));clear hOv hKv hbv bO6 hvB) | (go_simp;go_at_call 91;refine (clone_Stack (hcl.ext ?_) hxs).mono ?_;(first | exact (Ext.refl _).drew | exact Ext.refl _);rintro e w4 ⟨sn,rfl,hOn,hE4⟩;(have hE4' : Ext wr w4:=(by first | exact hE4 | exact ((Ext.refl wr).drew).trans hE4));(have hslt : ∀ g,sn.ownBlock=some g→wr.heap.size≤g∧g < w4.heap.size:=fun g e=>(Own.lt (g:=g) hOn) e);(have hOn2 : OwnI w4 wr.heap.size sn x:=hOn);(obtain ⟨an,cn,rfl,hcn,hcn2,-⟩:=(Own.sl hOn).slice_form);(have o4:=hE4'.cell o0);(have hBl4 : w.heap.size+1+1 < w4.heap.size:=Nat.lt_of_lt_of_le hBl hE4'.size);(have hB:=Lib.hid (And.intro (hE4'.alloc (.cells #[.slice an x.length cn] 72)) (And.intro hOn2 (And.intro hslt hE4'))));clear hOn hslt hOn2 hE4 hE4'))
   all_goals
    have hOv:=hC.out.1
    have hKv : Keeps (w4.alloc (.cells #[.slice an x.length cn] 72)) w6 w1.heap.size (.slice av k cv):=hC.out.2.1
    have hlk:=hA.out.2.2.2.2.2
    have hP : OwnS w6 w1.heap.size (.slice av' (k+1) cv') (vs ++ [.slice an x.length cn]) (l.take k ++ [x]):=OwnS.push hA.out.2.1 hB.out.1 ((OwnI.mono hB.out.2.1 (by have:=hA.out.2.2.1.size;omega)).ext ((Ext.refl _).alloc _)) (fun g e=>(hB.out.2.2.1 g e).1) (by rw [hlk];exact hOv) hKv hC.out.2.2.1
    have htk : l.take k ++ [x]=l.take (k+1):=by rw [List.take_add_one,hA.out.1];rfl
    rw [htk] at hP
    have hvB:=fun g e=>(hA.out.2.2.2.1.lt (g:=g) e).1
    have hX6:=((hA.out.2.2.1.trans (ExtBut.of_ext hB.out.1)).trans' (ExtBut.of_keeps hKv) (fun x hx h=>by have:=hvB _ h;omega)).trans (ExtBut.setCell w6 ⟨w.heap.size+1+1,1,none⟩ (.slice av' (k+1) cv'))
    have hP7:=OwnS.but hP (ExtBut.setCell w6 ⟨w.heap.size+1+1,1,none⟩ (.slice av' (k+1) cv')) (fun g e h=>by have:=hsz1.out;have h' : g=w.heap.size+1+1:=h;omega)
    have bO7:=hC.out.2.2.2.set 1 (.slice av' (k+1) cv')
    have hR:=Lib.hid (And.intro bO7 (And.intro hP7 hX6))
    clear hvB hX6 hP7 bO7 hP hOv hKv hlk htk hC o6 of6
    go_wp2
    go_roundw
    case rel=>exact ⟨k+1,_,_,by omega,by go_num,hR.out.1,hR.out.2.1,hR.out.2.2⟩
    case measure=>simp [intOf];omega
  ·have hkl : k=l.length:=by omega
   subst hkl
   have hkk : decide ((l.length : Int) < (l.length : Int))=false:=decide_eq_false (by omega)
   rw [List.take_length] at hT
   obtain ⟨g,cg,hform,hcg,hcg2,hg1,hg2⟩:=Own.form hT.outer (show 0 < l.length by omega)
   cases hform
   have hst:=Lib.hid (And.intro bM (And.intro bR (And.intro bO (And.intro hT hX))))
   have hL0:=hL
   clear bM bR bO hT hX hOv hlk hlt hs
   go_wp2
   clear m0 o0 hBl
   obtain ⟨w3,hw3⟩ : ∃ z,wr=z:=⟨_,rfl⟩
   rw [hw3] at hst hF hg2 ⊢
   clear hw3
   go_loopw [14,38] (fun fv iv wr => ∃ (i : Nat) (why : Int) (out : List (List Item)) (vs : List Value),i≤n∧iv = .int .i64 i∧fv = .int .u8 why∧out.length=l.length∧OwnS wr w1.heap.size (.slice (some ⟨g,0,none⟩) l.length cv) vs out∧ExtBut (· = g) w3 wr∧Hid (eachR f ⟨num,l⟩ fa n=eachGo f num l (n - i) (fa+i) out why)) (fun _ iv _=>n - (intOf iv).toNat)
   case atStart=>exact ⟨0,0,l,_,Nat.zero_le _,rfl,rfl,rfl,hst.out.2.2.2.1,ExtBut.refl _ _,Hid.mk rfl⟩
   case round =>
    obtain ⟨i,why,out,vs,hi,rfl,rfl,hol,hO,hX,hN⟩:=hrel
    have hz1:=hsz1.out
    have bM:=hst.out.1.but hX (by omega)
    have bR:=hst.out.2.1.but hX (by omega)
    have bO:=hst.out.2.2.1.but hX (by omega)
    have hF4 : Ext w wr:=ExtBut.ext hF hX (fun x h=>by omega)
    have m1 : wr.cell? ⟨w.heap.size,1,none⟩=some (.slice a l.length cp):=bM.cell 1
    by_cases hlt : i < n
    ·have hlt' : decide (i < n)=true:=decide_eq_true hlt
     obtain ⟨j,hj⟩ : ∃ j,j=fa+i:=⟨_,rfl⟩
     have hwr : IntKind.i64.wrap ((fa : Int)+(i : Int))=(fa : Int)+(i : Int):=IntWalk.i64_in _ (by omega)
     obtain ⟨x,hx⟩ : ∃ x,l[j]? = some x:=⟨l[j]'(by omega),by simp [show j < l.length by omega]⟩
     obtain ⟨b,off,sv,rfl,hbb,d0,hcl⟩:=(hL0.out.ext hF4).cell hx
     have hX0:=Lib.hid hx
     have d0' : wr.cell? ⟨b,off+(fa+i),none⟩=some sv:=by rw [← hj];exact d0
     have hjl' : fa+i < l.length:=by omega
     obtain ⟨ca,ccp,rfl,-⟩:=hcl.form
     obtain ⟨⟨s2,v2,e2⟩,hf⟩ : ∃ z,f x=z:=⟨_,rfl⟩
     replace hf:=Lib.hid hf
     have hC:=Lib.hid hcl
     have hA:=Lib.hid (And.intro hO (And.intro hX (And.intro bO bR)))
     have hjl : j < l.length:=by omega
     have hstep : n - i=(n - (i+1))+1:=by omega
     rw [hstep,← hj] at hN
     clear hx hcl hbb hO hX bM bR bO hstep
     by_cases he : e2=0
     ·subst he
      go_wp2_with fail
      refine (hp x _ wr hF4 hC.out).mono ?_
      rintro e wn ⟨vo,rfl,hvo,hB⟩
      rw [hf.out] at hvo ⊢
      obtain ⟨bo,co,rfl,-⟩:=hvo.its.form
      dsimp only at hvo ⊢
      replace hvo:=Lib.hid hvo
      have bO5:=hA.out.2.2.1.ext hB
      have o1 : wn.cell? ⟨w.heap.size+1+1,1,none⟩=some (.slice (some ⟨g,0,none⟩) l.length cv):=bO5.cell 1
      have hOo:=hA.out.1.outer
      rw [hol] at hOo
      have hfr:=(Own.ext hOo hB).frozen j
      have hgl : g < wn.heap.size:=by have:=hB.size;have:=hA.out.2.1.size;omega
      obtain ⟨y,hy⟩ : ∃ y,out[j]? = some y:=⟨out[j]'(by omega),by simp [show j < out.length by omega]⟩
      obtain ⟨b',off',sv',hbe,hb',c0,-⟩:=(hA.out.1.sts.ext hB).cell hy
      cases hbe
      rw [Nat.zero_add] at c0
      have hO5 : OwnS (wn.setCell ⟨g,j,none⟩ (.slice bo s2.length co)) w1.heap.size (.slice (some ⟨g,0,none⟩) l.length cv) (vs.set j (.slice bo s2.length co)) (out.set j s2):=by
       have h:=OwnS.set (show OwnS wr w1.heap.size (.slice (some ⟨g,0,none⟩) out.length cv) vs out by rw [hol];exact hA.out.1) hB (OwnI.mono hvo.out (by have:=hA.out.2.1.size;omega)) (fun b e=>(Own.lt hvo.out e).1) (show j < out.length by omega)
       rw [List.length_set,hol] at h
       exact h
      have hX5:=(hA.out.2.1.trans (ExtBut.of_ext hB)).trans (ExtBut.setCell wn ⟨g,j,none⟩ (.slice bo s2.length co))
      have hN2 : eachR f ⟨num,l⟩ fa n=eachGo f num l (n - (i+1)) (fa+(i+1)) (out.set j s2) (if why=0 then v2 else why):=by
       rw [hN.out,eachGo_ok hX0.out hf.out,show fa+(i+1)=j+1 by omega]
      have hZ:=Lib.hid (And.intro hO5 (And.intro hX5 hN2))
      clear hOo hb' hy hO5 hX5 hN2 bO5
      have hfr' : wn.frozen? ⟨g,fa+i,none⟩=false:=by rw [← hj];exact hfr
      have c0' : wn.cell? ⟨g,fa+i,none⟩=some sv':=by rw [← hj];exact c0
      have hji : (fa : Int)+(i : Int)=(j : Int):=by omega
      have hi0 : (0 : Int)≤(fa : Int)+(i : Int):=by omega
      have hi1 : (fa : Int)+(i : Int) < (l.length : Int):=by omega
      have hi2 : ((fa : Int)+(i : Int)).toNat=fa+i:=by omega
      rw [hj] at hZ
      clear hji
      by_cases hwy : why=0
      ·subst hwy
       go_wp2
       go_roundw
       case rel=>exact ⟨i+1,v2,_,_,by omega,by go_num,rfl,by simp [hol],hZ.out.1,hZ.out.2.1,Hid.mk hZ.out.2.2⟩
       case measure=>simp [intOf];omega
      ·have hw1 : (why == 0)=false:=by simp [hwy]
       go_wp2
       go_roundw
       case rel=>exact ⟨i+1,why,_,_,by omega,by go_num,rfl,by simp [hol],hZ.out.1,hZ.out.2.1,Hid.mk (by rw [hZ.out.2.2,if_neg hwy])⟩
       case measure=>simp [intOf];omega
     ·have he1 : (e2 != 0)=true:=by simp [he]
      have hres : Hid (eachR f ⟨num,l⟩ fa n=(Stk.zero,0,e2)):=Hid.mk (by rw [hN.out,eachGo_bad hX0.out hf.out he])
      go_wp2_with fail
      refine (hp x _ wr hF4 hC.out).mono ?_
      rintro e wn ⟨vo,rfl,hvo,hB⟩
      rw [hf.out] at hvo ⊢
      obtain ⟨bo,co,rfl,-⟩:=hvo.its.form
      dsimp only at hvo ⊢
      have bR5:=hA.out.2.2.2.ext hB
      have r0 : wn.cell? ⟨w.heap.size+1,0,none⟩=some (.int .i64 0):=bR5.cell 0
      have r1 : wn.cell? ⟨w.heap.size+1,1,none⟩=some (.slice none 0 0):=bR5.cell 1
      have rf0:=bR5.frozen 0
      have rf1:=bR5.frozen 1
      have hF5:=hF4.trans hB
      clear bR5
      go_wp2
      rw [hres.out]
      refine bodyPost_ret (v := .tuple #[.agg #[.int .i64 0,.slice none 0 0],.int .u8 0,.int .i64 e2]) (by simp [results,Tryz.f85,go_sem,r0,r1]) rfl ⟨_,[],rfl,OwnS.nil _ _,?_⟩
      first | exact hF5 | exact (hF5.setCell (by simp) _).setCell (by simp) _
    ·have hlt' : decide (i < n)=false:=decide_eq_false hlt
     have hm0 : n - i=0:=by omega
     rw [hm0] at hN
     have r0 : wr.cell? ⟨w.heap.size+1,0,none⟩=some (.int .i64 0):=bR.cell 0
     have r1 : wr.cell? ⟨w.heap.size+1,1,none⟩=some (.slice none 0 0):=bR.cell 1
     have rf0:=bR.frozen 0
     have rf1:=bR.frozen 1
     have o0 : wr.cell? ⟨w.heap.size+1+1,0,none⟩=some (.int .i64 num):=bO.cell 0
     have o1 : wr.cell? ⟨w.heap.size+1+1,1,none⟩=some (.slice (some ⟨g,0,none⟩) l.length cv):=bO.cell 1
     have hO':=Lib.hid hO
     clear hO hm0 hlt bM bR bO
     by_cases hwy : why=0
     ·subst hwy
      have hres : Hid (eachR f ⟨num,l⟩ fa n=(⟨num,out⟩,0,0)):=Hid.mk (by rw [hN.out,eachGo_end])
      go_wp2
      rw [hres.out]
      have hY:=((ExtBut.setCell wr ⟨w.heap.size+1,0,none⟩ (.int .i64 num)).mono (S':=fun b=>b=w.heap.size+1) (fun x _ h=>h)).trans ((ExtBut.setCell _ ⟨w.heap.size+1,1,none⟩ (.slice (some ⟨g,0,none⟩) l.length cv)).mono (S':=fun b=>b=w.heap.size+1) (fun x _ h=>h))
      refine bodyPost_ret (v := .tuple #[.agg #[.int .i64 num,.slice (some ⟨g,0,none⟩) l.length cv],.int .u8 0,.int .i64 0]) (by simp [results,Tryz.f85,go_sem,r0,r1]) rfl ⟨_,vs,rfl,OwnS.mono (B':=w.heap.size) (OwnS.but hO'.out hY (fun g e h=>by omega)) (by omega),ExtBut.ext hF4 hY (fun x h=>by omega)⟩
     ·have hw1 : (why != 0)=true:=by simp [hwy]
      have hres : Hid (eachR f ⟨num,l⟩ fa n=(Stk.zero,why,0)):=Hid.mk (by rw [hN.out,eachGo_why hwy])
      clear hwy
      go_wp2
      rw [hres.out]
      refine bodyPost_ret (v := .tuple #[.agg #[.int .i64 0,.slice none 0 0],.int .u8 why,.int .i64 0]) (by simp [results,Tryz.f85,go_sem,r0,r1]) rfl ⟨_,[],rfl,OwnS.nil _ _,?_⟩
      first | exact hF4 | exact (hF4.setCell (by simp) _).setCell (by simp) _
end Go.Proofs.YtnplphcnagooeaaGreatDoor
