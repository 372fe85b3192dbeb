/- Several texts in one: CelWB, CelWC, CelWD, CelX1, CelX2, CelX3, Alive26, Oth26. -/
import Derived.Test.YtoanoodfacmieaaGreatDoorQ08
import Derived.BigQuiet
/- Contracts: End of the program and of the reference. -/
namespace Go.Proofs.YtoanoodfacmieaaGreatDoor
set_option maxRecDepth 100000
open Go.RowKit
set_option maxRecDepth 100000 in
set_option maxHeartbeats 3200000 in
theorem allocs_End {m : Mem} {s : Value} {w : World} (n : Int) (hl : Als w s m.al) (hn : i64B m.next) :
  Calls Tryz.prog 17 #[.agg #[s,.int .i64 m.next],.int .i64 n] w (RetME w (endR m n).1 (endR m n).2):=by
 have hE0:=((Ext.refl w).alloc (.cells #[s,.int .i64 m.next] 26)).alloc (.cells #[.slice none 0 0,.int .i64 0] 26)
 obtain ⟨a,cp,rfl,hlc,hcm,-⟩:=hl.form
 unfold maxLen at hcm
 have bM:=(Box.new w 26 #[.slice a m.al.length cp,.int .i64 m.next]).ext ((Ext.refl _).alloc (.cells #[.slice none 0 0,.int .i64 0] 26))
 have bR:=Box.new (w.alloc (.cells #[.slice a m.al.length cp,.int .i64 m.next] 26)) 26 #[.slice none 0 0,.int .i64 0]
 rw [World.size_alloc] at bR
 have hCk:=Lib.hid (allocs_Check (hl.ext hE0) hn)
 have hL:=Lib.hid hl
 cases hok : m.ok
 ·have hce : Hid (memErr m.al m.next=8):=Hid.mk (memErr_bad hok)
  have hres:=Lib.hid (endR_bad (n:=n) hok)
  clear hok hl
  go_enter Tryz.func17,Tryz.ntmps17
  go_wp2_with fail
  refine hCk.out.mono ?_
  rintro e w1 ⟨rfl,hE1⟩
  rw [hce.out]
  have bR1:=bR.ext hE1
  have r0 : w1.cell? ⟨w.heap.size+1,0,none⟩=some (.slice none 0 0):=bR1.cell 0
  have r1 : w1.cell? ⟨w.heap.size+1,1,none⟩=some (.int .i64 0):=bR1.cell 1
  have rf0:=bR1.frozen 0
  have rf1:=bR1.frozen 1
  have hF1:=hE0.trans hE1
  clear bM bR bR1
  go_wp2
  rw [hres.out]
  refine bodyPost_ret (v := .tuple #[.agg #[.slice none 0 0,.int .i64 0],.int .i64 8]) (by simp [results,Tryz.f17,go_sem,r0,r1]) rfl ⟨_,rfl,FrM.zero _ _,(hF1.setCell (by simp) _).setCell (by simp) _⟩
 ·have hce : Hid (memErr m.al m.next=0):=Hid.mk (memErr_ok hok)
  have hsm:=small_of_ok hok
  cases hat : atNum m.al n with
  | none =>
   have hix:=Lib.hid (idxM_none hat)
   have hres:=Lib.hid (endR_none hok hat)
   clear hok hl hat
   go_enter Tryz.func17,Tryz.ntmps17
   go_wp2_with fail
   refine hCk.out.mono ?_
   rintro e w1 ⟨rfl,hE1⟩
   rw [hce.out]
   have hF1:=hE0.trans hE1
   have bM1:=bM.ext hE1
   have m0 : w1.cell? ⟨w.heap.size,0,none⟩=some (.slice a m.al.length cp):=bM1.cell 0
   have m1 : w1.cell? ⟨w.heap.size,1,none⟩=some (.int .i64 m.next):=bM1.cell 1
   go_wp2_with fail
   refine (allocs_find n (hL.out.ext hF1)).mono ?_
   rintro e w2 ⟨rfl,hE2⟩
   rw [hix.out]
   have hF2:=hF1.trans hE2
   have bR2:=(bR.ext hE1).ext hE2
   have r0 : w2.cell? ⟨w.heap.size+1,0,none⟩=some (.slice none 0 0):=bR2.cell 0
   have r1 : w2.cell? ⟨w.heap.size+1,1,none⟩=some (.int .i64 0):=bR2.cell 1
   have rf0:=bR2.frozen 0
   have rf1:=bR2.frozen 1
   clear bM bR bR2 bM1 m0 m1
   go_wp2
   rw [hres.out]
   refine bodyPost_ret (v := .tuple #[.agg #[.slice none 0 0,.int .i64 0],.int .i64 6]) (by simp [results,Tryz.f17,go_sem,r0,r1]) rfl ⟨_,rfl,FrM.zero _ _,(hF2.setCell (by simp) _).setCell (by simp) _⟩
  | some i =>
   have hil:=(atNum_lt hat).1
   obtain ⟨x,hx⟩ : ∃ x,m.al[i]? = some x:=⟨m.al[i],by simp [hil]⟩
   have hix:=Lib.hid (idxM_some hat)
   have hX:=Lib.hid hx
   have hi2 : decide ((i : Int) < 0)=false:=decide_eq_false (by omega)
   have hi0 : (0 : Int)≤(i : Int):=by omega
   have hi1 : (i : Int) < (m.al.length : Int):=by omega
   cases hlv : x.live
   ·have hres:=Lib.hid (endR_dead hok hat hx hlv)
    have hlv':=Lib.hid hlv
    clear hok hl hat hx hlv
    go_enter Tryz.func17,Tryz.ntmps17
    go_wp2_with fail
    refine hCk.out.mono ?_
    rintro e w1 ⟨rfl,hE1⟩
    rw [hce.out]
    have hF1:=hE0.trans hE1
    have bM1:=bM.ext hE1
    have m0 : w1.cell? ⟨w.heap.size,0,none⟩=some (.slice a m.al.length cp):=bM1.cell 0
    have m1 : w1.cell? ⟨w.heap.size,1,none⟩=some (.int .i64 m.next):=bM1.cell 1
    go_wp2_with fail
    refine (allocs_find n (hL.out.ext hF1)).mono ?_
    rintro e w2 ⟨rfl,hE2⟩
    rw [hix.out]
    have hF2:=hF1.trans hE2
    have bM2:=bM1.ext hE2
    have bR2:=(bR.ext hE1).ext hE2
    clear m0 m1
    have m0 : w2.cell? ⟨w.heap.size,0,none⟩=some (.slice a m.al.length cp):=bM2.cell 0
    have r0 : w2.cell? ⟨w.heap.size+1,0,none⟩=some (.slice none 0 0):=bR2.cell 0
    have r1 : w2.cell? ⟨w.heap.size+1,1,none⟩=some (.int .i64 0):=bR2.cell 1
    have rf0:=bR2.frozen 0
    have rf1:=bR2.frozen 1
    obtain ⟨b,off,sv,rfl,hbb,d0,d1,d2,-⟩:=(hL.out.ext hF2).cell hX.out
    rw [hlv'.out] at d1
    clear bM bR bR2 bM1 bM2
    go_wp2
    rw [hres.out]
    refine bodyPost_ret (v := .tuple #[.agg #[.slice none 0 0,.int .i64 0],.int .i64 6]) (by simp [results,Tryz.f17,go_sem,r0,r1]) rfl ⟨_,rfl,FrM.zero _ _,(hF2.setCell (by simp) _).setCell (by simp) _⟩
   ·have hres:=Lib.hid (endR_live hok hat hx hlv)
    have hlv':=Lib.hid hlv
    clear hok hl hat hx hlv
    go_enter Tryz.func17,Tryz.ntmps17
    go_wp2_with fail
    refine hCk.out.mono ?_
    rintro e w1 ⟨rfl,hE1⟩
    rw [hce.out]
    have hF1:=hE0.trans hE1
    have bM1:=bM.ext hE1
    have m0 : w1.cell? ⟨w.heap.size,0,none⟩=some (.slice a m.al.length cp):=bM1.cell 0
    have m1 : w1.cell? ⟨w.heap.size,1,none⟩=some (.int .i64 m.next):=bM1.cell 1
    go_wp2_with fail
    refine (allocs_find n (hL.out.ext hF1)).mono ?_
    rintro e w2 ⟨rfl,hE2⟩
    rw [hix.out]
    have hF2:=hF1.trans hE2
    have bM2:=bM1.ext hE2
    clear m0 m1
    have m0 : w2.cell? ⟨w.heap.size,0,none⟩=some (.slice a m.al.length cp):=bM2.cell 0
    have m1 : w2.cell? ⟨w.heap.size,1,none⟩=some (.int .i64 m.next):=bM2.cell 1
    obtain ⟨b,off,sv,rfl,hbb,d0,d1,d2,-⟩:=(hL.out.ext hF2).cell hX.out
    rw [hlv'.out] at d1
    go_wp2_with fail
    refine (allocs_clone (hL.out.ext hF2) hsm).mono ?_
    rintro e w3 ⟨v,vs,rfl,hOM,hE3⟩
    have hF3:=hF2.trans hE3
    have hv:=hOM.outer.sl.slice_form
    obtain ⟨a2,cp2,rfl,hlc2,hcm2,-⟩:=hv
    unfold maxLen at hcm2
    obtain ⟨g,sv',rfl,hg1,hg2,hvi,hown,⟨f0,f1,f2⟩,hfr,hsb⟩:=OM.cell hOM hX.out
    rw [hlv'.out] at f1
    have hvf:=hown.read.form
    obtain ⟨ca,ccp,rfl,-⟩:=hvf
    have bM3:=bM2.ext hE3
    have bR3:=((bR.ext hE1).ext hE2).ext hE3
    have hw2 : w.heap.size+1 < w2.heap.size:=((bR.ext hE1).ext hE2).lt
    have k0 : w3.cell? ⟨w.heap.size,0,none⟩=some (.slice (some ⟨b,off,none⟩) m.al.length cp):=bM3.cell 0
    have k1 : w3.cell? ⟨w.heap.size,1,none⟩=some (.int .i64 m.next):=bM3.cell 1
    have kf0:=bM3.frozen 0
    have kf1:=bM3.frozen 1
    have fr1:=hfr (i * 3+1)
    have hg0 : g≠w.heap.size:=by omega
    have hg0' : w.heap.size≠g:=by omega
    obtain ⟨ci,cz,hci,hcz,hczz⟩:=Cell.infoZ
    have hXa : ExtBut (fun b=>b=w.heap.size∨b=g) w3 (((w3.setCell ⟨w.heap.size,0,none⟩ (.slice (some ⟨g,0,none⟩) m.al.length cp2)).setCell ⟨w.heap.size,1,none⟩ (.int .i64 m.next)).setCell ⟨g,i * 3+1,none⟩ (.bool false)) :=
     (((ExtBut.setCell w3 ⟨w.heap.size,0,none⟩ (.slice (some ⟨g,0,none⟩) m.al.length cp2)).mono (fun x _ h => .inl h)).trans ((ExtBut.setCell _ ⟨w.heap.size,1,none⟩ (.int .i64 m.next)).mono (fun x _ h => .inl h))).trans ((ExtBut.setCell _ ⟨g,i * 3+1,none⟩ (.bool false)).mono (fun x _ h => .inr h))
    have hXb : ExtBut (fun b=>b=w.heap.size) w3 ((w3.setCell ⟨w.heap.size,0,none⟩ (.slice (some ⟨g,0,none⟩) m.al.length cp2)).setCell ⟨w.heap.size,1,none⟩ (.int .i64 m.next)) :=
     (ExtBut.setCell w3 ⟨w.heap.size,0,none⟩ (.slice (some ⟨g,0,none⟩) m.al.length cp2)).trans (ExtBut.setCell _ ⟨w.heap.size,1,none⟩ (.int .i64 m.next))
    have hOu:=(ExtBut.own hOM.outer hXb (fun b' e h=>by have h' : some g=some b':=e;cases h';omega)).set (i * 3+1) (.bool false)
    rw [trows_set arow arow_len hvi hX.out (by omega : 1 < 3) (show arow _ (ended x)=(arow _ x).set 1 (.bool false) from rfl)] at hOu
    have hownA:=OwnC.keep hown hXa (fun b' e h=>by have:=hsb b' e;omega)
    obtain ⟨w5,hr5,hO5,hX5⟩:=run_clear_own (P:=Tryz.prog) (ty:=0) (t:=39) (k:=5) (n:=x.cells.length) Tryz.underlying39 hci hcz (by rw [hczz];rfl) (by rw [hczz,zcells_zero];exact zcells_one _) hownA
    rw [hczz,zcells_zero] at hO5
    have hOu5:=ExtBut.own hOu hX5 (fun b' e h=>by have h' : some g=some b':=e;cases h';exact (hsb _ h).2.2 rfl)
    have bM5:=((bM3.set 0 (.slice (some ⟨g,0,none⟩) m.al.length cp2)).set 1 (.int .i64 m.next)).other (p:=⟨g,i * 3+1,none⟩) hg0 (.bool false)
    have bM5:=bM5.but hX5 (fun h=>by have:=hsb _ h;omega)
    have bR5:=(bR3.but hXa (by omega)).but hX5 (fun h=>by have:=hsb _ h;omega)
    have hX35 : ExtBut (fun b=>b=w.heap.size∨b=g∨(Value.slice ca x.cells.length ccp).ownBlock=some b) w3 w5:=(hXa.mono (fun x _ h=>by rcases h with h | h;exact .inl h;exact .inr (.inl h))).trans (hX5.mono (fun x _ h => .inr (.inr h)))
    have hF5 : Ext w w5:=ExtBut.ext hF3 hX35 (fun b' h=>by rcases h with h | h | h;omega;omega;(have:=hsb _ h;omega))
    have p0 : w5.cell? ⟨w.heap.size,0,none⟩=some (.slice (some ⟨g,0,none⟩) m.al.length cp2):=bM5.cell 0
    have p1 : w5.cell? ⟨w.heap.size,1,none⟩=some (.int .i64 m.next):=bM5.cell 1
    have r0 : w5.cell? ⟨w.heap.size+1,0,none⟩=some (.slice none 0 0):=bR5.cell 0
    have r1 : w5.cell? ⟨w.heap.size+1,1,none⟩=some (.int .i64 0):=bR5.cell 1
    have rf0:=bR5.frozen 0
    have rf1:=bR5.frozen 1
    have hH:=Lib.hid (And.intro hOM (And.intro hOu5 (And.intro hO5 (And.intro hX35 (And.intro hsb (And.intro hvi hF5))))))
    clear bM bR bM1 bM2 bM3 bR3 m0 m1 hOM hown hsb hfr d0 d1 d2 hXa hXb hOu hownA hO5 hX5 hOu5 bM5 bR5 hX35 hF5
    go_wp2
    rw [hres.out]
    obtain ⟨hOM,hOu5,hO5,hX35,hsb,hvi,hF5⟩:=hH.out
    have hXr:=((ExtBut.setCell w5 ⟨w.heap.size+1,0,none⟩ (.slice (some ⟨g,0,none⟩) m.al.length cp2)).mono (S':=fun b=>b=w.heap.size+1) (fun x _ h=>h)).trans ((ExtBut.setCell _ ⟨w.heap.size+1,1,none⟩ (.int .i64 m.next)).mono (S':=fun b=>b=w.heap.size+1) (fun x _ h=>h))
    have hX37:=(hX35.mono (S':=fun b=>b=w.heap.size∨b=w.heap.size+1∨b=g∨(Value.slice ca x.cells.length ccp).ownBlock=some b) (fun y _ h=>by rcases h with h | h | h;exact .inl h;exact .inr (.inr (.inl h));exact .inr (.inr (.inr h)))).trans (hXr.mono (fun y _ h => .inr (.inl h)))
    refine bodyPost_ret (v := .tuple #[.agg #[.slice (some ⟨g,0,none⟩) m.al.length cp2,.int .i64 m.next],.int .i64 0]) (by simp [results,Tryz.f17,go_sem,r0,r1]) rfl ⟨_,rfl,fun w'' h2=>⟨_,rfl,?_⟩,ExtBut.ext hF5 hXr (fun y h=>by omega)⟩
    have hgw : w.heap.size≤g:=by omega
    refine Als.of_put hOM hil (ExtBut.own (ExtBut.own hOu5 hXr (fun b' e h=>by have h' : some g=some b':=e;cases h';omega)) h2 (fun b' e h=>by have h' : some g=some b':=e;cases h';omega)) ((hX37.mono (S':=fun b=>(b=w.heap.size∨b=w.heap.size+1∨b=g∨(Value.slice ca x.cells.length ccp).ownBlock=some b)∨b < w.heap.size) (fun _ _ h => .inl h)).trans (h2.mono (fun _ _ h => .inr h))) (fun j s1 hne hj g' hg' h => ?_) ?_
    ·have h1:=OM.inner_lt hOM s1 (List.mem_of_getElem? hj) g' hg'
     have h3:=hOM.far s1 (List.mem_of_getElem? hj) g' hg'
     rcases h with (h | h | h | h) | h
     ·omega
     ·omega
     ·exact h3 (by rw [h];rfl)
     ·exact OM.apart' hOM hvi h j s1 hne hj g' hg' rfl
     ·omega
    ·have h3:=(ExtBut.own (ExtBut.own hO5 hXr (fun b' e h=>by have:=hsb b' e;omega)) h2 (fun b' e h=>by have:=hsb b' e;omega)).sl
     show Sl _ 5 _ (List.replicate x.cells.length Cell.zero).length _
     rw [List.length_replicate]
     exact h3
end Go.Proofs.YtoanoodfacmieaaGreatDoor

/- In place: append within an owned row, and the filter that Forget is. -/
namespace Go.Proofs.YtoanoodfacmieaaGreatDoor
set_option maxRecDepth 100000
open Go.RowKit
theorem run_append_fit {P : Program} {w : World} {B : Nat} {t tx ty e e' : TypeId} {i : TypeInfo} {k : Nat} {g n cap j m : Nat} {x : Value} {xs ys : List Value}
  (ht : P.underlying t=some (.slice e)) (htx : P.underlying tx=some (.slice e')) (hi : P.info? e=some i) (hik : i.size=k)
  (hown : Own w B e k (.slice (some ⟨g,0,none⟩) n cap) n xs) (hx : Sl w k x m ys) (h1 : ∀ u ∈ ys,u.oneCell'=true) (hj : j+m≤n) :
  ∃ w',(Builtin.append_ #[t,tx] ty #[.slice (some ⟨g,0,none⟩) j cap,x]).run P w = .ok (.slice (some ⟨g,0,none⟩) (j+m) cap) w' ∧
   Own w' B e k (.slice (some ⟨g,0,none⟩) n cap) n (xs.take (j * k) ++ ys ++ xs.drop ((j+m) * k))∧ExtBut (fun b=>b=g) w w':=by
 subst hik
 have hsrc:=hx.src htx h1
 rcases hown.2 with ⟨h,_⟩ | ⟨g',cap',cur,hv,hbg,hg,hnc,hcm,hcs,htake⟩
 ·cases h
 simp only [Value.slice.injEq,Option.some.injEq,Addr.mk.injEq,and_true,true_and] at hv
 obtain ⟨rfl,rfl⟩:=hv
 have hm1 : (j+m) * i.size≤n * i.size:=Nat.mul_le_mul_right _ hj
 have hm2 : n * i.size≤cap * i.size:=Nat.mul_le_mul_right _ hnc
 have hm3 : (j+m) * i.size=j * i.size+m * i.size:=Nat.add_mul _ _ _
 have hys : ys.length=m * i.size:=hx.len
 have hfit : j * i.size+ys.length≤cur.size:=by rw [hys,hcs];omega
 have hst:=run_storeCells_at P g (j * i.size) e ys 0 cur w hg (by simpa using hfit) h1
 simp only [Nat.add_zero] at hst
 have hroom : j+m≤cap:=by omega
 have hr : (Builtin.append_ #[t,tx] ty #[.slice (some ⟨g,0,none⟩) j cap,x]).run P w =
   .ok (.slice (some ⟨g,0,none⟩) (j+m) cap) (w.setRow g (cur.toList.take (j * i.size) ++ ys ++ cur.toList.drop (j * i.size+ys.length)).toArray):=by
  rcases hsrc.kind with ⟨e',hk⟩ | hk <;> simp [Builtin.append_,run_underlying ht,run_underlying hk,sizeOf,typeInfo,hi,hsrc.len,hroom,hsrc.cells,Addr.add_lit,hst]
 have hxl : xs.length=n * i.size:=hown.1
 refine ⟨_,hr,⟨?_,.inr ⟨g,cap,_,rfl,hbg,setRow_heap w g cur _ e _ hg,hnc,hcm,?_,?_⟩⟩,⟨rfl,rfl,rfl,by simp,fun b hb hne=>setRow_other w g b _ hne⟩⟩
 ·simp only [List.length_append,List.length_take,List.length_drop,hys,hxl]
  omega
 ·simp only [List.size_toArray,List.length_append,List.length_take,List.length_drop,Array.length_toList]
  omega
 ·have hle : j * i.size≤n * i.size:=by omega
  rw [← htake,List.take_append,List.take_of_length_le (by simp only [List.length_append,List.length_take,Array.length_toList,hys];omega)]
  congr 1
  ·congr 1
   rw [List.take_take,Nat.min_eq_left hle]
  ·rw [List.drop_take,hys,hm3,show (cur.toList.take (j * i.size) ++ ys).length=j * i.size+m * i.size by simp only [List.length_append,List.length_take,Array.length_toList,hys];omega,Nat.sub_add_eq]
theorem wpList_append_run {P : Program} {w : World} {ops : Array Oper} {rest : List Oper} {o : Oper} {a : Act} {Q : Exit→Act→World→Prop} (hgd : o.guard=none) (s x : Operand) (t tx ty : TypeId)
  (ho : o.op = .call { callee := .builtin .append,args:=#[s,x],argTypes:=#[t,tx] }) (hty : o.type=ty) {v u v' : Value} {w' : World} (hs : a.eval s=v) (hu : a.eval x=u)
  (hr : (Builtin.append_ #[t,tx] ty #[v,u]).run P w = .ok v' w') (h : wpList P ops Q rest (a.put o.dst v') w') : wpList P ops Q (o :: rest) a w:=by
 subst hty
 refine wpList_plain hgd fun _ hK => ?_
 unfold Oper.wp execOp
 simp only [ho,resolve,invoke,builtin,Sem.run_bind,Sem.run_pure,Result.andThen_ok,List.map_toArray,List.map_cons,List.map_nil,hs,hu,hr]
 exact hK _ _ h
theorem run_slice_full {P : Program} {t e : TypeId} {i : TypeInfo} (ht : P.underlying t=some (.slice e)) (hi : P.info? e=some i) (a : Option Addr) (n cap : Nat) (k : Nat) (hk : k≤cap) (w : World) :
  (Instr.slice t (.slice a n cap) none (some (.int .i64 (k : Int))) (some (.int .i64 (k : Int)))).run P w = .ok (.slice a k k) w:=by
 simp [Instr.slice,run_underlying ht,Instr.sliceBounds,Instr.sliceBound,asIntOf,hk,sizeOf,typeInfo,hi]
 cases a with
 | none=>simp
 | some a=>simp [Addr.add]
section
variable (vs : List Value) (l : List Alloc)
def zf (k : Nat) : List (Value × Alloc):=((vs.zip l).take k).filter (fun p=>p.2.live)
def zrows (z : List (Value × Alloc)) : List Value:=z.flatMap fun p=>arow p.1 p.2
variable {vs l}
theorem zf_zero : zf vs l 0=[]:=by simp [zf]
theorem zf_le (k : Nat) : (zf vs l k).length≤k:=Nat.le_trans (List.length_filter_le _ _) (List.length_take_le _ _)
theorem zf_yes {k : Nat} {s : Value} {x : Alloc} (hs : vs[k]? = some s) (hx : l[k]? = some x) (h : x.live=true) : zf vs l (k+1)=zf vs l k ++ [(s,x)]:=by
 have hz : (vs.zip l)[k]? = some (s,x):=by rw [List.getElem?_zip_eq_some];exact ⟨hs,hx⟩
 rw [zf,List.take_add_one,hz,List.filter_append]
 simp [zf,h]
theorem zf_no {k : Nat} {s : Value} {x : Alloc} (hs : vs[k]? = some s) (hx : l[k]? = some x) (h : x.live=false) : zf vs l (k+1)=zf vs l k:=by
 have hz : (vs.zip l)[k]? = some (s,x):=by rw [List.getElem?_zip_eq_some];exact ⟨hs,hx⟩
 rw [zf,List.take_add_one,hz,List.filter_append]
 simp [zf,h]
theorem zf_snd (hl : vs.length=l.length) : (zf vs l l.length).map Prod.snd=l.filter (·.live):=by
 have h1 : (vs.zip l).take l.length=vs.zip l:=List.take_of_length_le (by rw [List.length_zip];omega)
 have h2 : (vs.zip l).map Prod.snd=l:=by rw [← List.unzip_snd,List.unzip_zip_right (by omega)]
 rw [zf,h1]
 conv=>rhs;rw [← h2]
 rw [List.filter_map]
 rfl
theorem zf_rows (z : List (Value × Alloc)) : trows arow (z.map Prod.fst) (z.map Prod.snd)=zrows z:=by
 unfold trows zrows
 congr 1
 induction z with
 | nil=>rfl
 | cons p z ih=>simp [ih]
end
structure FInv (B : Nat) (w3 wr : World) (g cp : Nat) (vs : List Value) (l : List Alloc) (k : Nat) : Prop where
 ys : ∃ ys,Own wr B 76 3 (.slice (some ⟨g,0,none⟩) l.length cp) l.length ys∧ys.take ((zf vs l k).length * 3)=zrows (zf vs l k)∧ys.drop (k * 3)=(trows arow vs l).drop (k * 3)
 keep : ExtBut (fun b=>b=g) w3 wr
theorem FInv.start {B : Nat} {w3 : World} {g cp : Nat} {vs : List Value} {l : List Alloc} (hO : Own w3 B 76 3 (.slice (some ⟨g,0,none⟩) l.length cp) l.length (trows arow vs l)) : FInv B w3 w3 g cp vs l 0 :=
 ⟨⟨_,hO,by simp [zf_zero,zrows],rfl⟩,ExtBut.refl _ _⟩
theorem FInv.skip {B : Nat} {w3 wr w' : World} {g cp : Nat} {vs : List Value} {l : List Alloc} {k : Nat} {s : Value} {x : Alloc} (h : FInv B w3 wr g cp vs l k) (hs : vs[k]? = some s) (hx : l[k]? = some x) (hl : x.live=false) (hE : Ext wr w') : FInv B w3 w' g cp vs l (k+1):=by
 obtain ⟨⟨ys,h1,h2,h3⟩,h4⟩:=h
 refine ⟨⟨ys,h1.ext hE,by rw [zf_no hs hx hl];exact h2,?_⟩,h4.trans (ExtBut.of_ext hE)⟩
 rw [Nat.add_mul,← List.drop_drop,← List.drop_drop,h3]
theorem FInv.cells {B : Nat} {w3 wr : World} {g cp : Nat} {vs : List Value} {l : List Alloc} {k : Nat} {s : Value} {x : Alloc} (h : FInv B w3 wr g cp vs l k) (hs : vs[k]? = some s) (hx : l[k]? = some x) :
  wr.cell? ⟨g,k * 3,none⟩=some (.int .i64 x.num)∧wr.cell? ⟨g,k * 3+1,none⟩=some (.bool x.live)∧wr.cell? ⟨g,k * 3+2,none⟩=some s:=by
 obtain ⟨⟨ys,h1,h2,h3⟩,h4⟩:=h
 have hk : k < l.length:=(List.getElem?_eq_some_iff.1 hx).1
 have t : ∀ j,j < 3→wr.cell? ⟨g,k * 3+j,none⟩=(arow s x)[j]? := fun j hj=>by
  rw [h1.cellAt (k * 3+j) (by omega)]
  have e1 : ys[k * 3+j]? = (ys.drop (k * 3))[j]? := by rw [List.getElem?_drop]
  have e2 : (trows arow vs l)[k * 3+j]? = ((trows arow vs l).drop (k * 3))[j]? := by rw [List.getElem?_drop]
  rw [e1,h3,← e2]
  exact trows_get arow arow_len hs hx hj
 exact ⟨t 0 (by omega),t 1 (by omega),t 2 (by omega)⟩
set_option maxRecDepth 100000 in
theorem FInv.take {B : Nat} {w3 wr wx : World} {g cp : Nat} {vs : List Value} {l : List Alloc} {k : Nat} {s v : Value} {x : Alloc} (h : FInv B w3 wr g cp vs l k) (hs : vs[k]? = some s) (hx : l[k]? = some x) (hl : x.live=true) (hE : Ext wr wx)
  (hv : Sl wx 3 v 1 (arow s x)) (hs1 : s.oneCell'=true) : ∃ w',(Builtin.append_ #[24,24] 24 #[.slice (some ⟨g,0,none⟩) (zf vs l k).length cp,v]).run Tryz.prog wx = .ok (.slice (some ⟨g,0,none⟩) ((zf vs l k).length+1) cp) w'∧FInv B w3 w' g cp vs l (k+1)∧ExtBut (fun b=>b=g) wx w':=by
 obtain ⟨⟨ys,h1,h2,h3⟩,h4⟩:=h
 obtain ⟨i,z,hi,hz,hi3,hz3,hby⟩:=Alloc.infoE
 have hk : k < l.length:=(List.getElem?_eq_some_iff.1 hx).1
 have hle:=zf_le (vs:=vs) (l:=l) k
 have hyl : ys.length=l.length * 3:=h1.1
 obtain ⟨w',hr,hO,hX⟩:=run_append_fit (P:=Tryz.prog) (ty:=24) (j:=(zf vs l k).length) Tryz.underlying24 Tryz.underlying24 hi hi3 (h1.ext hE) hv (by intro u hu;simp only [arow,List.mem_cons,List.not_mem_nil,or_false] at hu;rcases hu with rfl | rfl | rfl;rfl;rfl;exact hs1) (by omega)
 refine ⟨w',hr,⟨⟨_,hO,?_,?_⟩,(h4.trans (ExtBut.of_ext hE)).trans hX⟩,hX⟩
 ·rw [zf_yes hs hx hl,List.length_append,List.length_singleton,zrows,List.flatMap_append,← zrows,← h2,List.take_append,List.take_of_length_le (by simp [arow_len];omega)]
  simp [arow_len,List.length_take]
  left
  omega
 ·rw [List.drop_append,List.drop_of_length_le (by simp [arow_len,List.length_take];omega),List.nil_append]
  have e : (List.take ((zf vs l k).length * 3) ys ++ arow s x).length=(zf vs l k).length * 3+3:=by simp [arow_len,List.length_take];omega
  rw [e,List.drop_drop,show ((zf vs l k).length+1) * 3+((k+1) * 3 - ((zf vs l k).length * 3+3))=k * 3+3 by omega,← List.drop_drop,h3,List.drop_drop]
  congr 1
  omega
theorem Sl.tight {w : World} {k : Nat} {a : Option Addr} {n cap : Nat} {xs : List Value} (h : Sl w k (.slice a n cap) n xs) (hk : n≤maxLen) (hx : a=none→n=0) : Sl w k (.slice a n n) n xs:=by
 obtain ⟨h1,a',cap',e,h3,h4,h5,h6⟩:=h
 simp only [Value.slice.injEq] at e
 obtain ⟨rfl,_,rfl⟩:=e
 exact ⟨h1,a,n,rfl,Nat.le_refl _,hk,hx,h6⟩
theorem FInv.read {B : Nat} {w3 wr w7 : World} {g cp : Nat} {vs : List Value} {l : List Alloc} {S : Nat→Prop} (h : FInv B w3 wr g cp vs l l.length) (hOM : OM w3 B (.slice (some ⟨g,0,none⟩) l.length cp) vs l) (hg : B≤g) (hX : ExtBut S wr w7) (hS : ∀ b,S b→b < B) :
  Als w7 (.slice (some ⟨g,0,none⟩) (zf vs l l.length).length (zf vs l l.length).length) (l.filter (·.live)):=by
 obtain ⟨⟨ys,h1,h2,h3⟩,h4⟩:=h
 have hl:=(All2.iff.1 hOM.inner).1
 have hle:=zf_le (vs:=vs) (l:=l) l.length
 have e1:=zf_snd hl
 refine ⟨(zf vs l l.length).map Prod.fst,?_,?_⟩
 ·rw [← e1]
  refine All2.map _ _ _ fun p hp => ?_
  have hp2:=List.mem_of_mem_take (List.mem_filter.1 hp).1
  obtain ⟨i,hi⟩:=List.mem_iff_getElem?.1 hp2
  rw [List.getElem?_zip_eq_some] at hi
  have hr:=(All2.iff.1 hOM.inner).2 i _ _ hi.1 hi.2
  have h5:=OM.inner_lt hOM p.1 (List.mem_of_getElem? hi.1)
  have h6:=hOM.far p.1 (List.mem_of_getElem? hi.1)
  exact ExtBut.sl (ExtBut.sl (OwnC.read hr) h4 (fun b e hb=>h6 b e (by rw [hb];rfl))) hX (fun b e hb=>by have:=(h5 b e).1;have:=hS b hb;omega)
 ·have h7:=(ExtBut.own h1 hX (fun b e hb=>by have h' : some g=some b:=e;cases h';have:=hS _ hb;omega)).sl
  have h8:=h7.take (zf vs l l.length).length (by omega)
  rw [h2,← zf_rows,e1] at h8
  rw [← e1,List.length_map,e1]
  obtain ⟨_,_,_,_,hcm,_⟩:=h7
  exact h8.tight (by rcases h1.2 with ⟨h,_⟩ | ⟨_,_,_,hv,_,_,hnc,hcm',_⟩;cases h;simp only [Value.slice.injEq] at hv;omega) (fun e=>by cases e)
end Go.Proofs.YtoanoodfacmieaaGreatDoor

/- Contracts: Forget of the program and of the reference. -/
namespace Go.Proofs.YtoanoodfacmieaaGreatDoor
set_option maxRecDepth 100000
open Go.RowKit
theorem forgetR_bad {m : Mem} (h : m.ok=false) : forgetR m=(Mem.zero,8):=by simp [forgetR,h]
theorem forgetR_ok {m : Mem} (h : m.ok=true) : forgetR m=(⟨m.al.filter (·.live),m.next⟩,0):=by simp [forgetR,h]
set_option maxRecDepth 100000 in
set_option maxHeartbeats 3200000 in
theorem allocs_Forget {m : Mem} {s : Value} {w : World} (hl : Als w s m.al) (hn : i64B m.next) :
  Calls Tryz.prog 19 #[.agg #[s,.int .i64 m.next]] w (RetME w (forgetR m).1 (forgetR m).2):=by
 have hE0:=((Ext.refl w).alloc (.cells #[s,.int .i64 m.next] 26)).alloc (.cells #[.slice none 0 0,.int .i64 0] 26)
 obtain ⟨a,cp,rfl,hlc,hcm,-⟩:=hl.form
 unfold maxLen at hcm
 have bM:=(Box.new w 26 #[.slice a m.al.length cp,.int .i64 m.next]).ext ((Ext.refl _).alloc (.cells #[.slice none 0 0,.int .i64 0] 26))
 have bR:=Box.new (w.alloc (.cells #[.slice a m.al.length cp,.int .i64 m.next] 26)) 26 #[.slice none 0 0,.int .i64 0]
 rw [World.size_alloc] at bR
 have hCk:=Lib.hid (allocs_Check (hl.ext hE0) hn)
 have hL:=Lib.hid hl
 cases hok : m.ok
 ·have hce : Hid (memErr m.al m.next=8):=Hid.mk (memErr_bad hok)
  have hres:=Lib.hid (forgetR_bad hok)
  clear hok hl
  go_enter Tryz.func19,Tryz.ntmps19
  go_wp2_with fail
  refine hCk.out.mono ?_
  rintro e w1 ⟨rfl,hE1⟩
  rw [hce.out]
  have bR1:=bR.ext hE1
  have r0 : w1.cell? ⟨w.heap.size+1,0,none⟩=some (.slice none 0 0):=bR1.cell 0
  have r1 : w1.cell? ⟨w.heap.size+1,1,none⟩=some (.int .i64 0):=bR1.cell 1
  have rf0:=bR1.frozen 0
  have rf1:=bR1.frozen 1
  have hF1:=hE0.trans hE1
  clear bM bR bR1
  go_wp2
  rw [hres.out]
  refine bodyPost_ret (v := .tuple #[.agg #[.slice none 0 0,.int .i64 0],.int .i64 8]) (by simp [results,Tryz.f19,go_sem,r0,r1]) rfl ⟨_,rfl,FrM.zero _ _,(hF1.setCell (by simp) _).setCell (by simp) _⟩
 ·have hce : Hid (memErr m.al m.next=0):=Hid.mk (memErr_ok hok)
  have hsm:=small_of_ok hok
  have hl4:=(ok_bounds hok).1
  have hres:=Lib.hid (forgetR_ok hok)
  clear hok hl
  go_enter Tryz.func19,Tryz.ntmps19
  go_wp2_with fail
  refine hCk.out.mono ?_
  rintro e w1 ⟨rfl,hE1⟩
  rw [hce.out]
  have hF1:=hE0.trans hE1
  have bM1:=bM.ext hE1
  have m0 : w1.cell? ⟨w.heap.size,0,none⟩=some (.slice a m.al.length cp):=bM1.cell 0
  have m1 : w1.cell? ⟨w.heap.size,1,none⟩=some (.int .i64 m.next):=bM1.cell 1
  go_wp2_with fail
  refine (allocs_clone (hL.out.ext hF1) hsm).mono ?_
  rintro e w2 ⟨v,vs,rfl,hOM,hE2⟩
  have hF2:=hF1.trans hE2
  have hw1 : w.heap.size+1 < w1.heap.size:=(bR.ext hE1).lt
  have hvB : ∀ g,v.ownBlock=some g→w1.heap.size≤g:=fun g e=>(hOM.outer.lt e).1
  have bM2:=bM1.ext hE2
  have bR2:=(bR.ext hE1).ext hE2
  have hv:=hOM.outer.sl.slice_form
  obtain ⟨a2,cp2,rfl,hlc2,hcm2,-⟩:=hv
  unfold maxLen at hcm2
  have k0 : w2.cell? ⟨w.heap.size,0,none⟩=some (.slice a m.al.length cp):=bM2.cell 0
  have k1 : w2.cell? ⟨w.heap.size,1,none⟩=some (.int .i64 m.next):=bM2.cell 1
  have kf0:=bM2.frozen 0
  have kf1:=bM2.frozen 1
  have hX3 : ExtBut (fun b=>b=w.heap.size) w2 ((w2.setCell ⟨w.heap.size,0,none⟩ (.slice a2 m.al.length cp2)).setCell ⟨w.heap.size,1,none⟩ (.int .i64 m.next)):=(ExtBut.setCell w2 ⟨w.heap.size,0,none⟩ (.slice a2 m.al.length cp2)).trans (ExtBut.setCell _ ⟨w.heap.size,1,none⟩ (.int .i64 m.next))
  have bM3:=(bM2.set 0 (.slice a2 m.al.length cp2)).set 1 (.int .i64 m.next)
  have bR3:=bR2.but hX3 (by omega)
  have hF3:=ExtBut.ext hF2 hX3 (fun x h=>by omega)
  have hOM3:=OM.but hOM hX3 (fun g e h=>by have:=hvB g e;omega) (fun s hs g e h=>by have:=(OM.inner_lt hOM s hs g e).1;omega)
  have hcut:=run_slice_upto (P:=Tryz.prog) Tryz.underlying24 (Classical.choose_spec (Classical.choose_spec Alloc.infoE)).1 a2 m.al.length cp2 0 0 rfl (Nat.zero_le _)
  have hH:=Lib.hid (And.intro bM3 (And.intro bR3 (And.intro hF3 (And.intro hOM3 (And.intro hvB hw1)))))
  clear bM bR bM1 bM2 bR2 bM3 bR3 hOM hOM3 hF3 hX3 m0 m1 hvB
  go_wp2
  obtain ⟨w3,hw3⟩ : ∃ w3,(w2.setCell ⟨w.heap.size,0,none⟩ (.slice a2 m.al.length cp2)).setCell ⟨w.heap.size,1,none⟩ (.int .i64 m.next)=w3:=⟨_,rfl⟩
  rw [hw3] at hH ⊢
  clear hw3 hcut
  by_cases hz : m.al.length=0
  ·have hnil : m.al=[]:=List.eq_nil_of_length_eq_zero hz
   rw [hz] at hH ⊢
   have hnil':=Lib.hid hnil
   clear hz hnil hlc hlc2 hl4
   go_loopw [5,22] (fun lv iv wr=>lv = .slice a2 0 cp2∧iv = .int .i64 0∧wr=w3) (fun _ _ _=>0)
   case atStart=>exact ⟨rfl,rfl,rfl⟩
   case round =>
    obtain ⟨rfl,rfl,rfl⟩:=hrel
    obtain ⟨bM3,bR3,hF3,hOM3,hvB,-⟩:=hH.out
    have n0 : wr.cell? ⟨w.heap.size,0,none⟩=some (.slice a2 0 cp2):=bM3.cell 0
    have n1 : wr.cell? ⟨w.heap.size,1,none⟩=some (.int .i64 m.next):=bM3.cell 1
    have nf0:=bM3.frozen 0
    have r0 : wr.cell? ⟨w.heap.size+1,0,none⟩=some (.slice none 0 0):=bR3.cell 0
    have r1 : wr.cell? ⟨w.heap.size+1,1,none⟩=some (.int .i64 0):=bR3.cell 1
    have rf0:=bR3.frozen 0
    have rf1:=bR3.frozen 1
    have hfull:=run_slice_full (P:=Tryz.prog) Tryz.underlying24 (Classical.choose_spec (Classical.choose_spec Alloc.infoE)).1 a2 0 cp2 0 (Nat.zero_le _)
    have hF3':=Lib.hid hF3
    clear bM3 bR3 hF3 hOM3 hvB
    go_wp2
    rw [hres.out]
    have hX7:=((((ExtBut.setCell wr ⟨w.heap.size,0,none⟩ (.slice a2 0 0)).mono (S':=fun b=>b=w.heap.size∨b=w.heap.size+1) (fun x _ h => .inl h))).trans ((ExtBut.setCell _ ⟨w.heap.size+1,0,none⟩ (.slice a2 0 0)).mono (S':=fun b=>b=w.heap.size∨b=w.heap.size+1) (fun x _ h => .inr h))).trans ((ExtBut.setCell _ ⟨w.heap.size+1,1,none⟩ (.int .i64 m.next)).mono (S':=fun b=>b=w.heap.size∨b=w.heap.size+1) (fun x _ h => .inr h))
    refine bodyPost_ret (v := .tuple #[.agg #[.slice a2 0 0,.int .i64 m.next],.int .i64 0]) (by simp [results,Tryz.f19,go_sem,r0,r1]) rfl ⟨_,rfl,fun w'' _=>⟨_,rfl,?_⟩,ExtBut.ext hF3'.out hX7 (fun x h=>by omega)⟩
    rw [hnil'.out]
    exact ⟨[],trivial,⟨by simp [trows],a2,0,rfl,Nat.le_refl _,by simp [maxLen],fun _=>rfl,fun j u h=>by simp [trows] at h⟩⟩
  ·obtain ⟨bM3,bR3,hF3,hOM3,hvB,hw1'⟩:=hH.out
   obtain ⟨g,cpx,e,-,-,hg1,hg2⟩:=hOM3.outer.form (by omega)
   simp only [Value.slice.injEq] at e
   obtain ⟨rfl,-,rfl⟩:=e
   have hgm : g≠w.heap.size:=by omega
   have hvs:=(All2.iff.1 hOM3.inner).1
   have hI0:=FInv.start hOM3.outer
   have hA:=Lib.hid (And.intro bM3 (And.intro bR3 (And.intro hF3 (And.intro hOM3 (And.intro hvs hI0)))))
   clear bM3 bR3 hF3 hOM3 hvB hvs hI0
   go_loopw [5,22] (fun lv iv wr => ∃ k : Nat,k≤m.al.length∧lv = .slice (some ⟨g,0,none⟩) (zf vs m.al k).length cp2∧iv = .int .i64 k∧FInv w1.heap.size w3 wr g cp2 vs m.al k) (fun _ iv _=>m.al.length - (intOf iv).toNat)
   case atStart=>exact ⟨0,Nat.zero_le _,by rw [zf_zero];rfl,rfl,hA.out.2.2.2.2.2⟩
   case round =>
    obtain ⟨k,hk,rfl,rfl,hI⟩:=hrel
    have hzl:=zf_le (vs:=vs) (l:=m.al) k
    obtain ⟨j,hj⟩ : ∃ j,(zf vs m.al k).length=j:=⟨_,rfl⟩
    have hbM : Box wr w.heap.size 26 _:=hA.out.1.but hI.keep (fun h=>hgm h.symm)
    have hbR : Box wr (w.heap.size+1) 26 _:=hA.out.2.1.but hI.keep (fun h=>by omega)
    have hsz:=hbM.lt
    by_cases hlt : k < m.al.length
    ·obtain ⟨x,hx⟩ : ∃ x,m.al[k]? = some x:=⟨m.al[k],by simp [hlt]⟩
     obtain ⟨sv,hsv⟩ : ∃ sv,vs[k]? = some sv:=by have:=hA.out.2.2.2.2.1;exact ⟨vs[k],by simp⟩
     obtain ⟨c0,c1,c2⟩:=hI.cells hsv hx
     have hso : sv.oneCell'=true:=(OwnC.read ((All2.iff.1 hA.out.2.2.2.1.inner).2 k sv x hsv hx)).one'
     obtain ⟨ca,ccp,rfl⟩ : ∃ ca ccp,sv = .slice ca x.cells.length ccp:=by
      obtain ⟨p,q,h,-⟩:=(OwnC.read ((All2.iff.1 hA.out.2.2.2.1.inner).2 k sv x hsv hx)).form
      exact ⟨p,q,h⟩
     have hgl : g < wr.heap.size:=World.block_lt_of_cell? wr _ c0
     cases hlv : x.live
     ·rw [hlv] at c1
      have hN:=Lib.hid (hI.skip hsv hx hlv ((Ext.refl wr).alloc (.cells #[.int .i64 x.num,.bool false,.slice ca x.cells.length ccp] 76)))
      have hzz:=Lib.hid (zf_no (vs:=vs) (l:=m.al) hsv hx hlv)
      have hj':=Lib.hid hj
      rw [hj]
      clear hI hbM hbR hsv hx hlv hj
      go_wp2
      go_roundw
      case rel=>exact ⟨k+1,by omega,by rw [hzz.out,hj'.out],by go_num,hN.out⟩
      case measure=>simp [intOf];omega
     ·rw [hlv] at c1
      have hE : Ext wr ((wr.alloc (.cells #[.int .i64 x.num,.bool true,.slice ca x.cells.length ccp] 76)).alloc (.cells #[.int .i64 x.num,.bool true,.slice ca x.cells.length ccp] 76)):=((Ext.refl wr).alloc _).alloc _
      have hv1 : Sl ((wr.alloc (.cells #[.int .i64 x.num,.bool true,.slice ca x.cells.length ccp] 76)).alloc (.cells #[.int .i64 x.num,.bool true,.slice ca x.cells.length ccp] 76)) 3 (.slice (some ⟨wr.heap.size+1,0,none⟩) 1 1) 1 (arow (.slice ca x.cells.length ccp) x):=by
       have:=(Own.lit' (B:=0) (e:=76) (k:=3) (wr.alloc (.cells #[.int .i64 x.num,.bool true,.slice ca x.cells.length ccp] 76)) #[.int .i64 x.num,.bool true,.slice ca x.cells.length ccp] 1 (Nat.zero_le _) (by simp [maxLen]) rfl).sl
       rw [World.size_alloc] at this
       rw [arow,hlv]
       exact this
      obtain ⟨w6,hr6,hI6,hX6⟩:=hI.take hsv hx hlv hE hv1 hso
      have hzz:=zf_yes (vs:=vs) (l:=m.al) hsv hx hlv
      have hzl2 : Hid ((zf vs m.al (k+1)).length=j+1):=Hid.mk (by rw [hzz,List.length_append,hj];rfl)
      rw [hj] at hr6 ⊢
      have hN:=Lib.hid (And.intro hr6 hI6)
      clear hI hbM hbR hsv hx hlv hj hr6 hI6 hzz hE hv1 hX6
      go_wp2_with (at_builtin;refine Hid.out ?_)
      refine Hid.mk ?_
      refine wpList_append_run rfl _ _ 24 24 24 rfl rfl rfl rfl hN.out.1 ?_
      go_wp2
      go_roundw
      case rel=>exact ⟨k+1,by omega,by rw [hzl2.out],by go_num,hN.out.2⟩
      case measure=>simp [intOf];omega
    ·have hkl : k=m.al.length:=by omega
     subst hkl
     have n0 : wr.cell? ⟨w.heap.size,0,none⟩=some (.slice (some ⟨g,0,none⟩) m.al.length cp2):=hbM.cell 0
     have n1 : wr.cell? ⟨w.heap.size,1,none⟩=some (.int .i64 m.next):=hbM.cell 1
     have nf0:=hbM.frozen 0
     have r0 : wr.cell? ⟨w.heap.size+1,0,none⟩=some (.slice none 0 0):=hbR.cell 0
     have r1 : wr.cell? ⟨w.heap.size+1,1,none⟩=some (.int .i64 0):=hbR.cell 1
     have rf0:=hbR.frozen 0
     have rf1:=hbR.frozen 1
     have hfull:=run_slice_full (P:=Tryz.prog) Tryz.underlying24 (Classical.choose_spec (Classical.choose_spec Alloc.infoE)).1 (some ⟨g,0,none⟩) j cp2 j (by omega)
     have hj':=Lib.hid hj
     have hj6 : j≤9223372036854775807:=by omega
     have hI':=Lib.hid hI
     rw [hj]
     clear hI hbM hbR hj
     go_wp2
     rw [hres.out]
     have hX7:=((((ExtBut.setCell wr ⟨w.heap.size,0,none⟩ (.slice (some ⟨g,0,none⟩) j j)).mono (S':=fun b=>b=w.heap.size∨b=w.heap.size+1) (fun x _ h => .inl h))).trans ((ExtBut.setCell _ ⟨w.heap.size+1,0,none⟩ (.slice (some ⟨g,0,none⟩) j j)).mono (S':=fun b=>b=w.heap.size∨b=w.heap.size+1) (fun x _ h => .inr h))).trans ((ExtBut.setCell _ ⟨w.heap.size+1,1,none⟩ (.int .i64 m.next)).mono (S':=fun b=>b=w.heap.size∨b=w.heap.size+1) (fun x _ h => .inr h))
     have hF4:=ExtBut.ext hA.out.2.2.1 hI'.out.keep (fun x h=>by omega)
     refine bodyPost_ret (v := .tuple #[.agg #[.slice (some ⟨g,0,none⟩) j j,.int .i64 m.next],.int .i64 0]) (by simp [results,Tryz.f19,go_sem,r0,r1]) rfl ⟨_,rfl,fun w'' h2=>⟨_,rfl,?_⟩,ExtBut.ext hF4 hX7 (fun x h=>by omega)⟩
     have h9:=FInv.read (S:=fun b=>(b=w.heap.size∨b=w.heap.size+1)∨b < w.heap.size) hI'.out hA.out.2.2.2.1 hg1 ((hX7.mono (fun x _ h => .inl h)).trans (h2.mono (fun x _ h => .inr h))) (fun b h=>by omega)
     rw [hj'.out] at h9
     exact h9
end Go.Proofs.YtoanoodfacmieaaGreatDoor

/- Contracts: find of the program, Asked of the reference of layer 27. -/
namespace Go.Proofs.YtoanoodfacmieaaGreatDoor
set_option maxRecDepth 100000
open Go.RowKit
def cutV (s : Value) (o n : Nat) : Value :=
 match s with
 | .slice a _ cap => .slice (if cap=o then a else a.map (·.add (o * 5))) n (cap - o)
 | v=>v
def findV (m : Mem) (vs : List Value) (p : Ptr) (n : Int) : Value :=
 match (askR m p n).1 with
 | none => .slice none 0 0
 | some i=>if (m.al.getD i Alloc.zero).live then cutV (vs.getD i (.slice none 0 0)) p.o.toNat n.toNat else .slice none 0 0
theorem Cls.cut {w : World} {s : Value} {l : List Cell} (h : Cls w s l) (o n : Nat) (hn : o+n≤l.length) : Cls w (cutV s o n) ((l.drop o).take n):=by
 obtain ⟨a,cap,rfl,hc,-⟩:=h.form
 have h1:=Sl.drop h o (by omega)
 rw [rows_drop Cell.row Cell.row_len] at h1
 have h2:=Sl.take h1 n (by omega)
 rw [rows_take Cell.row Cell.row_len] at h2
 unfold Cls cutV
 rw [List.length_take,List.length_drop,Nat.min_eq_left (by omega)]
 exact h2
theorem askR_bad {m : Mem} {p : Ptr} {n : Int} (h : m.ok=false) : askR m p n=(none,8):=by simp [askR,h]
theorem askR_arg {m : Mem} {p : Ptr} {n : Int} (h : m.ok=true) (ha : p.a < 0∨m.next≤p.a∨n < 1∨2 < n) : askR m p n=(none,2):=by simp [askR,h,ha]
theorem askR_none {m : Mem} {p : Ptr} {n : Int} (h : m.ok=true) (ha : ¬ (p.a < 0∨m.next≤p.a∨n < 1∨2 < n)) (hi : atNum m.al p.a=none) : askR m p n=(none,0):=by simp [askR,h,ha,hi]
theorem askR_off {m : Mem} {p : Ptr} {n : Int} {i : Nat} {x : Alloc} (h : m.ok=true) (ha : ¬ (p.a < 0∨m.next≤p.a∨n < 1∨2 < n)) (hi : atNum m.al p.a=some i) (hx : m.al[i]? = some x) (ho : p.o < 0∨(x.cells.length : Int) - n < p.o) : askR m p n=(none,6):=by
 simp [askR,h,ha,hi,List.getD_eq_getElem?_getD,hx,ho]
theorem askR_yes {m : Mem} {p : Ptr} {n : Int} {i : Nat} {x : Alloc} (h : m.ok=true) (ha : ¬ (p.a < 0∨m.next≤p.a∨n < 1∨2 < n)) (hi : atNum m.al p.a=some i) (hx : m.al[i]? = some x) (ho : ¬ (p.o < 0∨(x.cells.length : Int) - n < p.o)) : askR m p n=(some i,0):=by
 simp [askR,h,ha,hi,List.getD_eq_getElem?_getD,hx,ho]
theorem run_slice_mid {P : Program} {t e : TypeId} {i : TypeInfo} (ht : P.underlying t=some (.slice e)) (hi : P.info? e=some i) (h5 : i.size=5) (a : Option Addr) (n cap : Nat) (x y : Int) (o k : Nat) (hx : x=o) (hy : y=(o+k : Nat)) (hk : o+k≤cap) (w : World) :
  (Instr.slice t (.slice a n cap) (some (.int .i64 x)) (some (.int .i64 y)) none).run P w = .ok (cutV (.slice a n cap) o k) w:=by
 subst hx hy
 have h2 : (0 : Int)≤(o : Int)+(k : Int)∧(o : Int)+(k : Int)≤(cap : Int):=by omega
 have h3 : ((o : Int)+(k : Int)).toNat=o+k:=by omega
 simp [Instr.slice,run_underlying ht,Instr.sliceBounds,Instr.sliceBound,asIntOf,h2,h3,sizeOf,typeInfo,hi,h5,cutV]
theorem callFunc_cellsfind (args : Array Value) (w : World) : (callFunc 65 args).run Tryz.prog w = .ok (.enter 65 args) w:=by kernel_rfl
set_option maxHeartbeats 400000 in
theorem cells_find1 (n : Int) (B : Nat) (W : World) (hc : W.cell? ⟨B,0,none⟩=some (.int .i64 n)) : PredA 65 #[.pointer (some ⟨B,0,none⟩)] W (numIs n):=by
 intro x s w hW
 obtain ⟨num,live,cs⟩:=x
 have hcw:=hW.cell hc
 have hB:=World.block_lt_of_cell? _ _ hcw
 have hE:=(Ext.refl w).alloc (.cells #[.int .i64 num,.bool live,s] 76)
 clear hc hW
 show Calls Tryz.prog 65 #[.agg #[.int .i64 num,.bool live,s],.pointer (some ⟨B,0,none⟩)] w _
 go_enter Tryz.func65,Tryz.ntmps65
 go_wp2
 go_ret
 exact ⟨rfl,hE⟩
def RetVE (w : World) (v : Value) (err : Int) (en : Ending) (w' : World) : Prop:=en = .returned (.tuple #[v,.int .i64 err])∧Ext w w'
set_option maxRecDepth 100000 in
set_option maxHeartbeats 3200000 in
theorem cells_find {m : Mem} {vs : List Value} {s : Value} {w : World} (p : Ptr) (n : Int) (hin : All2 (fun s a=>Cls w s a.cells) vs m.al) (hout : Sl w 3 s m.al.length (trows arow vs m.al)) (hn : i64B m.next) :
  Calls Tryz.prog 29 #[.agg #[s,.int .i64 m.next],p.val,.int .i64 n] w (RetVE w (findV m vs p n) (askR m p n).2):=by
 have hl : Als w s m.al:=⟨vs,hin,hout⟩
 obtain ⟨pa,po,pt⟩:=p
 have hE0:=((Ext.refl w).alloc (.cells #[s,.int .i64 m.next] 26)).alloc (.cells #[.int .i64 pa,.int .i64 po,.int .i64 pt] 35)
 obtain ⟨a,cp,rfl,hlc,hcm,-⟩:=hl.form
 unfold maxLen at hcm
 have bM:=(Box.new w 26 #[.slice a m.al.length cp,.int .i64 m.next]).ext ((Ext.refl _).alloc (.cells #[.int .i64 pa,.int .i64 po,.int .i64 pt] 35))
 have bP:=Box.new (w.alloc (.cells #[.slice a m.al.length cp,.int .i64 m.next] 26)) 35 #[.int .i64 pa,.int .i64 po,.int .i64 pt]
 rw [World.size_alloc] at bP
 have hCk:=Lib.hid (allocs_Check (hl.ext hE0) hn)
 have hL:=Lib.hid hl
 have hmf : ∀ (fn : Fn) (first cap : Array Value) (w : World),(Instr.makeFunc fn first cap).run Tryz.prog w = .ok (.func fn first cap) w:=fun _ _ _ _=>rfl
 unfold Ptr.val
 cases hok : m.ok
 ·have hce : Hid (memErr m.al m.next=8):=Hid.mk (memErr_bad hok)
  have hres : Hid (findV m vs ⟨pa,po,pt⟩ n = .slice none 0 0∧(askR m ⟨pa,po,pt⟩ n).2=8):=Hid.mk (by simp [findV,askR_bad hok])
  clear hok hl hin hout
  go_enter Tryz.func29,Tryz.ntmps29
  go_wp2_with fail
  refine hCk.out.mono ?_
  rintro e w1 ⟨rfl,hE1⟩
  rw [hce.out]
  go_wp2
  go_ret2
  rw [hres.out.1,hres.out.2]
  exact ⟨rfl,hE0.trans hE1⟩
 ·have hce : Hid (memErr m.al m.next=0):=Hid.mk (memErr_ok hok)
  have hbn:=ok_bounds hok
  by_cases harg : pa < 0∨m.next≤pa∨n < 1∨2 < n
  ·have hres : Hid (findV m vs ⟨pa,po,pt⟩ n = .slice none 0 0∧(askR m ⟨pa,po,pt⟩ n).2=2):=Hid.mk (by simp [findV,askR_arg (p:=⟨pa,po,pt⟩) hok harg])
   have q : decide (pa < 0)=true∨decide (pa < 0)=false∧decide (m.next≤pa)=true∨decide (pa < 0)=false∧decide (m.next≤pa)=false∧decide (n < 1)=true∨decide (pa < 0)=false∧decide (m.next≤pa)=false∧decide (n < 1)=false∧decide (2 < n)=true:=by
    by_cases h1 : pa < 0
    ·exact .inl (decide_eq_true h1)
    ·by_cases h2 : m.next≤pa
     ·exact .inr (.inl ⟨decide_eq_false h1,decide_eq_true h2⟩)
     ·by_cases h3 : n < 1
      ·exact .inr (.inr (.inl ⟨decide_eq_false h1,decide_eq_false h2,decide_eq_true h3⟩))
      ·exact .inr (.inr (.inr ⟨decide_eq_false h1,decide_eq_false h2,decide_eq_false h3,decide_eq_true (by omega)⟩))
   clear hok hl hin hout harg
   rcases q with q1 | ⟨q1,q2⟩ | ⟨q1,q2,q3⟩ | ⟨q1,q2,q3,q4⟩
   all_goals
    go_enter Tryz.func29,Tryz.ntmps29
    go_wp2_with fail
    refine hCk.out.mono ?_
    rintro e w1 ⟨rfl,hE1⟩
    rw [hce.out]
    have m1 : w1.cell? ⟨w.heap.size,1,none⟩=some (.int .i64 m.next):=(bM.ext hE1).cell 1
    have p0 : w1.cell? ⟨w.heap.size+1,0,none⟩=some (.int .i64 pa):=(bP.ext hE1).cell 0
    go_wp2
    go_ret2
    rw [hres.out.1,hres.out.2]
    exact ⟨rfl,hE0.trans hE1⟩
  ·have q1 : decide (pa < 0)=false:=decide_eq_false (by omega)
   have q2 : decide (m.next≤pa)=false:=decide_eq_false (by omega)
   have q3 : decide (n < 1)=false:=decide_eq_false (by omega)
   have q4 : decide (2 < n)=false:=decide_eq_false (by omega)
   have hn2 : 1≤n∧n≤2:=by omega
   cases hat : atNum m.al pa with
   | none =>
    have hix : Hid (ixM (m.al.findIdx? (numIs pa)) = -1):=Hid.mk (idxM_none hat)
    have hres : Hid (findV m vs ⟨pa,po,pt⟩ n = .slice none 0 0∧(askR m ⟨pa,po,pt⟩ n).2=0):=Hid.mk (by simp [findV,askR_none (p:=⟨pa,po,pt⟩) hok harg hat])
    clear hok hl hin hout harg hat
    go_enter Tryz.func29,Tryz.ntmps29
    go_wp2_with fail
    refine hCk.out.mono ?_
    rintro e w1 ⟨rfl,hE1⟩
    rw [hce.out]
    have hF1:=hE0.trans hE1
    have m0 : w1.cell? ⟨w.heap.size,0,none⟩=some (.slice a m.al.length cp):=(bM.ext hE1).cell 0
    have m1 : w1.cell? ⟨w.heap.size,1,none⟩=some (.int .i64 m.next):=(bM.ext hE1).cell 1
    have p0 : w1.cell? ⟨w.heap.size+1,0,none⟩=some (.int .i64 pa):=(bP.ext hE1).cell 0
    go_wp2_with fail
    refine (indexFunc_alloc callFunc_cellsfind (cells_find1 pa (w.heap.size+1) w1 p0) (hL.out.ext hF1)).mono ?_
    rintro e w2 ⟨rfl,hE2⟩
    rw [hix.out]
    go_wp2
    go_ret2
    rw [hres.out.1,hres.out.2]
    exact ⟨rfl,hF1.trans hE2⟩
   | some i =>
    have hix : Hid (ixM (m.al.findIdx? (numIs pa))=(i : Int)):=Hid.mk (idxM_some hat)
    have hil:=(atNum_lt hat).1
    obtain ⟨x,hx⟩ : ∃ x,m.al[i]? = some x:=⟨m.al[i],by simp [hil]⟩
    have hi2 : decide ((i : Int) < 0)=false:=decide_eq_false (by omega)
    have hi0 : (0 : Int)≤(i : Int):=by omega
    have hi1 : (i : Int) < (m.al.length : Int):=by omega
    obtain ⟨sv,hsv,hcl⟩:=hin.get hx
    obtain ⟨b,off,e,hbb,hcell⟩:=Sl.at hout (by omega) (by omega : 0 < m.al.length)
    subst e
    obtain ⟨ca,ccp,rfl,hcl1,hcl2,-⟩:=hcl.form
    unfold maxLen at hcl2
    have d : ∀ j u,(arow (.slice ca x.cells.length ccp) x)[j]? = some u→w.cell? ⟨b,off+(i * 3+j),none⟩=some u:=fun j u hj=>hcell _ u ((trows_get arow arow_len hsv hx (by have:=(List.getElem?_eq_some_iff.1 hj).1;simpa [arow_len] using this)).trans hj)
    have d0 : w.cell? ⟨b,off+i * 3,none⟩=some (.int .i64 x.num):=d 0 _ rfl
    have d1 : w.cell? ⟨b,off+i * 3+1,none⟩=some (.bool x.live):=d 1 _ rfl
    have d2 : w.cell? ⟨b,off+i * 3+2,none⟩=some (.slice ca x.cells.length ccp):=d 2 _ rfl
    have hx2 : x.cells.length≤1000000:=(small_of_ok hok).2 x (List.mem_of_getElem? hx)
    have hvd : vs.getD i (.slice none 0 0) = .slice ca x.cells.length ccp:=by rw [List.getD_eq_getElem?_getD,hsv];rfl
    by_cases ho : po < 0∨(x.cells.length : Int) - n < po
    ·have hres : Hid (findV m vs ⟨pa,po,pt⟩ n = .slice none 0 0∧(askR m ⟨pa,po,pt⟩ n).2=6):=Hid.mk (by simp [findV,askR_off (p:=⟨pa,po,pt⟩) hok harg hat hx ho])
     have q5 : decide (po < 0)=true∨decide (po < 0)=false∧decide ((x.cells.length : Int) - n < po)=true:=by
      by_cases h : po < 0
      ·exact .inl (decide_eq_true h)
      ·exact .inr ⟨decide_eq_false h,decide_eq_true (by omega)⟩
     have hH:=Lib.hid (And.intro d0 (And.intro d1 d2))
     clear hok hl hin hout harg hat hx hsv hcl hcell d d0 d1 d2 ho hvd
     rcases q5 with q5 | ⟨q5,q6⟩
     all_goals
      go_enter Tryz.func29,Tryz.ntmps29
      go_wp2_with fail
      refine hCk.out.mono ?_
      rintro e w1 ⟨rfl,hE1⟩
      rw [hce.out]
      have hF1:=hE0.trans hE1
      have m0 : w1.cell? ⟨w.heap.size,0,none⟩=some (.slice (some ⟨b,off,none⟩) m.al.length cp):=(bM.ext hE1).cell 0
      have m1 : w1.cell? ⟨w.heap.size,1,none⟩=some (.int .i64 m.next):=(bM.ext hE1).cell 1
      have p0 : w1.cell? ⟨w.heap.size+1,0,none⟩=some (.int .i64 pa):=(bP.ext hE1).cell 0
      go_wp2_with fail
      refine (indexFunc_alloc callFunc_cellsfind (cells_find1 pa (w.heap.size+1) w1 p0) (hL.out.ext hF1)).mono ?_
      rintro e w2 ⟨rfl,hE2⟩
      rw [hix.out]
      have hF2:=hF1.trans hE2
      have n0:=hE2.cell m0
      have o1 : w2.cell? ⟨w.heap.size+1,1,none⟩=some (.int .i64 po):=((bP.ext hE1).ext hE2).cell 1
      have ol:=((bP.ext hE1).ext hE2).lt
      have e0:=hF2.cell hH.out.1
      have e1:=hF2.cell hH.out.2.1
      have e2:=hF2.cell hH.out.2.2
      clear m0 m1 p0
      go_wp2
      go_ret2
      rw [hres.out.1,hres.out.2]
      exact ⟨rfl,hF2.alloc _⟩
    ·have q5 : decide (po < 0)=false:=decide_eq_false (by omega)
     have q6 : decide ((x.cells.length : Int) - n < po)=false:=decide_eq_false (by omega)
     have hask:=askR_yes (p:=⟨pa,po,pt⟩) hok harg hat hx ho
     have hgd : m.al.getD i Alloc.zero=x:=by rw [List.getD_eq_getElem?_getD,hx];rfl
     obtain ⟨o,rfl⟩ : ∃ o : Nat,po=(o : Int):=⟨po.toNat,by omega⟩
     obtain ⟨k,rfl⟩ : ∃ k : Nat,n=(k : Int):=⟨n.toNat,by omega⟩
     have hok2 : o+k≤x.cells.length:=by omega
     obtain ⟨ci,cz,hci,hcz,hci3,hcz3,hcby⟩:=Cell.infoE
     have hcut:=run_slice_mid (P:=Tryz.prog) Tryz.underlying39 hci hci3 ca x.cells.length ccp (o : Int) ((o : Int)+(k : Int)) o k rfl (by omega) (by omega)
     obtain ⟨cv,hcv⟩ : ∃ cv,cutV (.slice ca x.cells.length ccp) o k=cv:=⟨_,rfl⟩
     rw [hcv] at hcut
     have hres : Hid (findV m vs ⟨pa,o,pt⟩ k=(if x.live then cv else .slice none 0 0)∧(askR m ⟨pa,o,pt⟩ k).2=0):=Hid.mk (by
      refine ⟨?_,by rw [hask]⟩
      unfold findV
      rw [hask]
      show (if (m.al.getD i Alloc.zero).live=true then cutV (vs.getD i (.slice none 0 0)) (Int.toNat (o : Int)) (Int.toNat (k : Int)) else _)=_
      rw [hgd,hvd,Int.toNat_natCast,Int.toNat_natCast,hcv])
     have hsb : 0≤(o : Int):=by omega
     have hsb2 : (o : Int)+(k : Int)≤2000000:=by omega
     have hH:=Lib.hid (And.intro d0 (And.intro d1 d2))
     clear hok hl hin hout harg hat hx hsv hcl hcell d d0 d1 d2 ho hvd hask hgd hci hcz hci3 hcz3 hcby hcv
     cases hlv : x.live
     all_goals
      have hlv':=Lib.hid hlv
      rw [hlv] at hres
      clear hlv
      go_enter Tryz.func29,Tryz.ntmps29
      go_wp2_with fail
      refine hCk.out.mono ?_
      rintro e w1 ⟨rfl,hE1⟩
      rw [hce.out]
      have hF1:=hE0.trans hE1
      have m0 : w1.cell? ⟨w.heap.size,0,none⟩=some (.slice (some ⟨b,off,none⟩) m.al.length cp):=(bM.ext hE1).cell 0
      have m1 : w1.cell? ⟨w.heap.size,1,none⟩=some (.int .i64 m.next):=(bM.ext hE1).cell 1
      have p0 : w1.cell? ⟨w.heap.size+1,0,none⟩=some (.int .i64 pa):=(bP.ext hE1).cell 0
      go_wp2_with fail
      refine (indexFunc_alloc callFunc_cellsfind (cells_find1 pa (w.heap.size+1) w1 p0) (hL.out.ext hF1)).mono ?_
      rintro e w2 ⟨rfl,hE2⟩
      rw [hix.out]
      have hF2:=hF1.trans hE2
      have n0:=hE2.cell m0
      have o1 : w2.cell? ⟨w.heap.size+1,1,none⟩=some (.int .i64 (o : Int)):=((bP.ext hE1).ext hE2).cell 1
      have ol:=((bP.ext hE1).ext hE2).lt
      have e0:=hF2.cell hH.out.1
      have e1:=hF2.cell hH.out.2.1
      rw [hlv'.out] at e1
      have e2:=hF2.cell hH.out.2.2
      clear m0 m1 p0
      go_wp2
      go_ret2
      rw [hres.out.1,hres.out.2]
      exact ⟨rfl,hF2.alloc _⟩
end Go.Proofs.YtoanoodfacmieaaGreatDoor

/- Contracts: Asked of the reference of layer 27. -/
namespace Go.Proofs.YtoanoodfacmieaaGreatDoor
set_option maxRecDepth 100000
open Go.RowKit
end Go.Proofs.YtoanoodfacmieaaGreatDoor

/- Contracts: LoadAll and Load of layer 27, the program's and the reference's. -/
namespace Go.Proofs.YtoanoodfacmieaaGreatDoor
set_option maxRecDepth 100000
open Go.RowKit
theorem loadR_err {m : Mem} {p : Ptr} {n err : Int} (h : (askR m p n).2=err) (he : err≠0) : loadR m p n=([],0,err):=by
 subst h
 rw [loadR,if_neg he]
theorem rangeR_none {m : Mem} {p : Ptr} {n e : Int} (h : askR m p n=(none,e)) : rangeR m p n=[]:=by rw [rangeR,h]
theorem rangeR_dead {m : Mem} {p : Ptr} {n e : Int} {i : Nat} {x : Alloc} (h : askR m p n=(some i,e)) (hx : m.al[i]? = some x) (hl : x.live=false) : rangeR m p n=[]:=by
 have hg : m.al.getD i Alloc.zero=x:=by rw [List.getD_eq_getElem?_getD,hx];rfl
 rw [rangeR,h]
 show (if (m.al.getD i Alloc.zero).live=true then _ else _)=_
 rw [hg,hl]
 rfl
theorem rangeR_live {m : Mem} {p : Ptr} {n e : Int} {i : Nat} {x : Alloc} (h : askR m p n=(some i,e)) (hx : m.al[i]? = some x) (hl : x.live=true) : rangeR m p n=cutOf x p.o.toNat n.toNat:=by
 have hg : m.al.getD i Alloc.zero=x:=by rw [List.getD_eq_getElem?_getD,hx];rfl
 rw [rangeR,h]
 show (if (m.al.getD i Alloc.zero).live=true then cutOf (m.al.getD i Alloc.zero) _ _ else _)=_
 rw [hg,hl]
 rfl
theorem loadR_gone {m : Mem} {p : Ptr} {n : Int} (h : (askR m p n).2=0) (hr : rangeR m p n=[]) : loadR m p n=([],3,0):=by
 rw [loadR,if_pos h,if_pos hr]
theorem loadR_unset {m : Mem} {p : Ptr} {n : Int} (h : (askR m p n).2=0) (hr : rangeR m p n≠[]) (hz : (rangeR m p n).any (· == Cell.zero)=true) : loadR m p n=([],4,0):=by
 rw [loadR,if_pos h,if_neg hr,if_pos hz]
theorem loadR_yes {m : Mem} {p : Ptr} {n : Int} (h : (askR m p n).2=0) (hr : rangeR m p n≠[]) (hz : (rangeR m p n).any (· == Cell.zero)=false) : loadR m p n=(rangeR m p n,0,0):=by
 rw [loadR,if_pos h,if_neg hr,hz]
 rfl
theorem askR_inv {m : Mem} {p : Ptr} {n e : Int} {i : Nat} (h : askR m p n=(some i,e)) :
  e=0∧m.ok=true∧0≤p.a∧p.a < m.next∧1≤n∧n≤2∧atNum m.al p.a=some i ∧ ∃ x,m.al[i]? = some x∧0≤p.o∧p.o+n≤(x.cells.length : Int):=by
 unfold askR at h
 split at h
 ·rename_i hok
  split at h
  ·cases h
  ·rename_i harg
   split at h
   ·cases h
   ·rename_i j hj
    split at h
    ·cases h
    ·rename_i ho
     simp only [Prod.mk.injEq,Option.some.injEq] at h
     obtain ⟨rfl,rfl⟩:=h
     have hlt:=(atNum_lt hj).1
     have hg : m.al.getD j Alloc.zero=m.al[j]:=by rw [List.getD_eq_getElem?_getD,List.getElem?_eq_getElem hlt];rfl
     rw [hg] at ho
     exact ⟨rfl,hok,by omega,by omega,by omega,by omega,hj,m.al[j],List.getElem?_eq_getElem hlt,by omega,by omega⟩
 ·cases h
theorem cutOf_len {x : Alloc} {o n : Nat} (h : o+n≤x.cells.length) : (cutOf x o n).length=n:=by
 rw [cutOf,List.length_take,List.length_drop]
 omega
def RetOC (w : World) (l : List Cell) (why err : Int) (en : Ending) (w' : World) : Prop :=
 ∃ v,en = .returned (.tuple #[v,.int .u8 why,.int .i64 err])∧Own w' w.heap.size 37 5 v l.length (l.flatMap Cell.row)∧Ext w w'
set_option maxHeartbeats 3200000 in
theorem run_eql_cells (x y : Cell) (w : World) : (binOp .eql 37 x.val y.val).run Tryz.prog w = .ok (.bool (decide (x=y))) w:=by
 obtain ⟨k,n,a,o,t⟩:=x
 obtain ⟨k',n',a',o',t'⟩:=y
 unfold Cell.val
 go_simp
 by_cases h1 : k=k' <;> by_cases h2 : n=n' <;> by_cases h3 : a=a' <;> by_cases h4 : o=o' <;> by_cases h5 : t=t' <;> simp [h1,h2,h3,h4,h5]
theorem run_eql_zero (x : Cell) (w : World) : (binOp .eql 37 Cell.zero.val x.val).run Tryz.prog w = .ok (.bool (x == Cell.zero)) w:=by
 have e : (x == Cell.zero)=decide (Cell.zero=x):=by
  rw [Bool.eq_iff_iff,beq_iff_eq,decide_eq_true_iff]
  exact eq_comm
 rw [run_eql_cells,e]
set_option maxHeartbeats 800000 in
theorem index_zero {l : List Cell} {v : Value} {w : World} (hl : Cls w v l) :
  Calls Tryz.prog 68 #[v,Cell.zero.val] w fun e w'=>e = .returned (.int .i64 (ixM (l.findIdx? (· == Cell.zero))))∧Ext w w':=by
 have hE0:=(Ext.refl w).alloc (.cells #[.int .u8 0,.int .i64 0,.int .i64 0,.int .i64 0,.int .i64 0] 37)
 have hL:=Lib.hid (hl.ext hE0)
 obtain ⟨a,cp,rfl,hlc,hcm,-⟩:=hl.form
 unfold maxLen at hcm
 have hB:=Box.new w 37 #[.int .u8 0,.int .i64 0,.int .i64 0,.int .i64 0,.int .i64 0]
 clear hl
 rw [show Cell.zero.val = .agg #[.int .u8 0,.int .i64 0,.int .i64 0,.int .i64 0,.int .i64 0] from rfl]
 go_enter Tryz.func68,Tryz.ntmps68
 go_wp2
 obtain ⟨w1,hw1⟩ : ∃ w1,w.alloc (.cells #[.int .u8 0,.int .i64 0,.int .i64 0,.int .i64 0,.int .i64 0] 37)=w1:=⟨_,rfl⟩
 rw [hw1] at hE0 hL hB ⊢
 clear hw1
 go_loopw [8] (fun i wr => ∃ k : Nat,k≤l.length∧i = .int .i64 k∧Ext w1 wr∧Hid ((l.take k).any (· == Cell.zero)=false)) (fun i _=>l.length - (intOf i).toNat)
 case atStart=>exact ⟨0,Nat.zero_le _,rfl,Ext.refl _,by simp [Hid]⟩
 case round =>
  obtain ⟨k,hk,rfl,hE,hN⟩:=hrel
  have z0 : wr.cell? ⟨w.heap.size,0,none⟩=some (.int .u8 0):=(hB.ext hE).cell 0
  have z1 : wr.cell? ⟨w.heap.size,1,none⟩=some (.int .i64 0):=(hB.ext hE).cell 1
  have z2 : wr.cell? ⟨w.heap.size,2,none⟩=some (.int .i64 0):=(hB.ext hE).cell 2
  have z3 : wr.cell? ⟨w.heap.size,3,none⟩=some (.int .i64 0):=(hB.ext hE).cell 3
  have z4 : wr.cell? ⟨w.heap.size,4,none⟩=some (.int .i64 0):=(hB.ext hE).cell 4
  by_cases hlt : k < l.length
  ·obtain ⟨x,hx⟩ : ∃ x,l[k]? = some x:=⟨l[k],by simp [hlt]⟩
   obtain ⟨b,off,rfl,hbb,c0,c1,c2,c3,c4⟩:=(hL.out.ext hE).cell hx
   have hX:=Lib.hid hx
   clear hx
   have hi0 : (0 : Int)≤(k : Int):=by omega
   have hi1 : (k : Int) < (l.length : Int):=by omega
   have hn:=run_eql_zero x
   unfold Cell.val Cell.zero at hn
   cases hpx : x == Cell.zero
   all_goals
    have hP:=Lib.hid hpx
    rw [show (x == ({ k:=0,n:=0,a:=0,o:=0,t:=0 } : Cell))=_ from hpx] at hn
    clear hpx
    go_wp2
    go_quiet (fail)
    go_wp2
   ·go_roundw
    case rel=>exact ⟨k+1,by omega,by go_num,hE.drewN _,any_take_succ'' hN.out hX.out hP.out⟩
    case measure=>simp [intOf];omega
   ·go_ret
    refine ⟨?_,hE0.trans (hE.drewN _)⟩
    have : l.findIdx? (· == Cell.zero)=some k:=by
     rw [List.findIdx?_eq_some_iff_getElem]
     obtain ⟨hk,rfl⟩:=List.getElem?_eq_some_iff.1 hX.out
     refine ⟨hk,hP.out,fun j hj => ?_⟩
     have h:=hN.out
     simp only [List.any_eq_false] at h
     have:=h l[j] (by rw [List.mem_iff_getElem?];exact ⟨j,by rw [List.getElem?_take,if_pos hj];simp⟩)
     simpa using this
    rw [this];rfl
  ·have hkl : k=l.length:=by omega
   subst hkl
   have hN':=hN.out
   rw [List.take_length] at hN'
   have hg : Hid (l.findIdx? (· == Cell.zero)=none):=Hid.mk (by rw [List.findIdx?_eq_none_iff];simpa [List.any_eq_false] using hN')
   clear hN' z0 z1 z2 z3 z4
   go_wp2
   go_ret
   exact ⟨by rw [hg.out];rfl,hE0.trans hE⟩
theorem ixM_any {l : List Cell} : decide (0≤ixM (l.findIdx? (· == Cell.zero)))=l.any (· == Cell.zero):=by
 cases h : l.findIdx? (· == Cell.zero) with
 | none =>
  have h' : l.any (· == Cell.zero)=false:=by rw [List.findIdx?_eq_none_iff] at h;simpa [List.any_eq_false] using h
  rw [h'];simp [ixM]
 | some i =>
  have h' : l.any (· == Cell.zero)=true:=by
   rw [List.findIdx?_eq_some_iff_getElem] at h
   obtain ⟨hi,hp,_⟩:=h
   rw [List.any_eq_true]
   exact ⟨l[i],List.getElem_mem _,hp⟩
  rw [h'];simp [ixM]
set_option maxHeartbeats 400000 in
theorem contains_zero {l : List Cell} {v : Value} {w : World} (hl : Cls w v l) :
  Calls Tryz.prog 33 #[v,Cell.zero.val] w fun e w'=>e = .returned (.bool (l.any (· == Cell.zero)))∧Ext w w':=by
 have hE0:=(Ext.refl w).alloc (.cells #[.int .u8 0,.int .i64 0,.int .i64 0,.int .i64 0,.int .i64 0] 37)
 have hC:=Lib.hid (index_zero (hl.ext hE0))
 have hA:=Lib.hid (ixM_any (l:=l))
 obtain ⟨a,cp,rfl,-⟩:=hl.form
 unfold Cell.val Cell.zero at *
 clear hl
 go_enter Tryz.func33,Tryz.ntmps33
 go_wp2_with fail
 refine hC.out.mono ?_
 rintro e w' ⟨rfl,hE'⟩
 go_wp2
 go_ret
 exact ⟨by rw [← hA.out];rfl,hE0.trans hE'⟩
theorem findV_read {m : Mem} {vs : List Value} {w : World} (p : Ptr) (n : Int) (hin : All2 (fun s a=>Cls w s a.cells) vs m.al) : Cls w (findV m vs p n) (rangeR m p n):=by
 unfold findV rangeR
 cases h : (askR m p n).1 with
 | none=>exact Cls.nil w
 | some i =>
  obtain ⟨-,-,-,-,h1,h2,-,x,hx,h3,h4⟩:=askR_inv (e:=(askR m p n).2) (by rw [← h])
  obtain ⟨s,hs,hc⟩:=hin.get hx
  have hg : m.al.getD i Alloc.zero=x:=by rw [List.getD_eq_getElem?_getD,hx];rfl
  have hv : vs.getD i (.slice none 0 0)=s:=by rw [List.getD_eq_getElem?_getD,hs];rfl
  show Cls w (if (m.al.getD i Alloc.zero).live=true then cutV (vs.getD i (.slice none 0 0)) p.o.toNat n.toNat else _) (if (m.al.getD i Alloc.zero).live=true then cutOf (m.al.getD i Alloc.zero) p.o.toNat n.toNat else [])
  rw [hg,hv]
  cases x.live
  ·exact Cls.nil w
  ·exact hc.cut _ _ (by omega)
theorem rangeR_small {m : Mem} {p : Ptr} {n : Int} : (rangeR m p n).length≤2:=by
 unfold rangeR
 cases h : (askR m p n).1 with
 | none=>simp
 | some i =>
  obtain ⟨-,-,-,-,h1,h2,-,x,hx,h3,h4⟩:=askR_inv (e:=(askR m p n).2) (by rw [← h])
  show (if (m.al.getD i Alloc.zero).live=true then cutOf (m.al.getD i Alloc.zero) p.o.toNat n.toNat else []).length≤2
  split
  ·rw [cutOf,List.length_take];omega
  ·simp
set_option maxRecDepth 100000 in
set_option maxHeartbeats 1600000 in
theorem cells_LoadAll {m : Mem} {s : Value} {w : World} (p : Ptr) (n : Int) (hl : Als w s m.al) (hn : i64B m.next) :
  Calls Tryz.prog 12 #[.agg #[s,.int .i64 m.next],p.val,.int .i64 n] w (RetOC w (loadR m p n).1 (loadR m p n).2.1 (loadR m p n).2.2):=by
 obtain ⟨vs,hin,hout⟩:=hl
 have hE0:=((Ext.refl w).alloc (.cells #[s,.int .i64 m.next] 26)).alloc (.cells #[.int .i64 p.a,.int .i64 p.o,.int .i64 p.t] 35)
 have hin0 : All2 (fun u a=>Cls ((w.alloc (.cells #[s,.int .i64 m.next] 26)).alloc (.cells #[.int .i64 p.a,.int .i64 p.o,.int .i64 p.t] 35)) u a.cells) vs m.al:=hin.mono fun _ _ h=>Cls.ext h hE0
 have hC:=Lib.hid (cells_find p n hin0 (hout.ext hE0) hn)
 have hR:=Lib.hid (findV_read p n hin0)
 obtain ⟨a,cp,rfl,-⟩:=hout.slice_form
 obtain ⟨fv,hfv⟩ : ∃ fv,findV m vs p n=fv:=⟨_,rfl⟩
 rw [hfv] at hC hR
 obtain ⟨err,herr⟩ : ∃ err,(askR m p n).2=err:=⟨_,rfl⟩
 rw [herr] at hC
 have hsm:=Lib.hid (rangeR_small (m:=m) (p:=p) (n:=n))
 clear hfv hin hin0 hout
 by_cases he : err=0
 ·subst he
  by_cases hr : rangeR m p n=[]
  ·have hres:=Lib.hid (loadR_gone herr hr)
   have hR0:=hR.out
   rw [hr] at hR0
   obtain ⟨ra,rc,rfl,-⟩:=hR0.form
   clear hR hR0 hr herr
   unfold Ptr.val at *
   go_enter Tryz.func12,Tryz.ntmps12
   go_wp2_with fail
   refine hC.out.mono ?_
   rintro e w1 ⟨rfl,hE1⟩
   dsimp only [List.length_nil]
   go_wp2
   go_ret3
   rw [hres.out]
   exact ⟨_,rfl,Own.nil _ _ _ _,hE0.trans hE1⟩
  ·have hlen : 0 < (rangeR m p n).length:=List.length_pos_iff.2 hr
   have hld : ((rangeR m p n).length == 0)=false:=by simp;exact hr
   obtain ⟨ra,rc,hre,-⟩:=hR.out.form
   have hld' : (((rangeR m p n).length : Int) == 0)=false:=by simp;exact hr
   subst hre
   cases hz : (rangeR m p n).any (· == Cell.zero)
   ·have hres:=Lib.hid (loadR_yes herr hr hz)
    have hz':=Lib.hid hz
    obtain ⟨L,hL⟩ : ∃ L,rangeR m p n=L:=⟨_,rfl⟩
    rw [hL] at hR hz' hsm hres hC hlen hld hld'
    clear hr herr hz hL
    unfold Ptr.val at *
    go_enter Tryz.func12,Tryz.ntmps12
    go_wp2_with fail
    refine hC.out.mono ?_
    rintro e w1 ⟨rfl,hE1⟩
    go_wp2_with fail
    refine (contains_zero (hR.out.ext hE1)).mono ?_
    rintro e w2 ⟨rfl,hE2⟩
    rw [hz'.out]
    go_wp2_with fail
    refine (clone_Cells ((hR.out.ext hE1).ext hE2) (Cell.one L) (Nat.le_trans hsm.out (by omega))).mono ?_
    rintro e w3 ⟨v,rfl,hO,hE3⟩
    have hF:=(hE0.trans hE1).trans hE2
    obtain ⟨va,vc,rfl,-⟩:=hO.sl.slice_form
    go_wp2
    go_ret3
    rw [hres.out]
    exact ⟨_,rfl,hO.mono hF.size,hF.trans hE3⟩
   ·have hres:=Lib.hid (loadR_unset herr hr hz)
    have hz':=Lib.hid hz
    obtain ⟨L,hL⟩ : ∃ L,rangeR m p n=L:=⟨_,rfl⟩
    rw [hL] at hR hz' hsm hC hlen hld hld'
    clear hr herr hz hL
    unfold Ptr.val at *
    go_enter Tryz.func12,Tryz.ntmps12
    go_wp2_with fail
    refine hC.out.mono ?_
    rintro e w1 ⟨rfl,hE1⟩
    go_wp2_with fail
    refine (contains_zero (hR.out.ext hE1)).mono ?_
    rintro e w2 ⟨rfl,hE2⟩
    rw [hz'.out]
    go_wp2
    go_ret3
    rw [hres.out]
    exact ⟨_,rfl,Own.nil _ _ _ _,(hE0.trans hE1).trans hE2⟩
 ·have hres:=Lib.hid (loadR_err herr he)
  have q : (err != 0)=true:=by simp [he]
  have q' : (err == 0)=false:=by simp [he]
  obtain ⟨ra,rc,hre,-⟩:=hR.out.form
  subst hre
  clear hR he herr
  unfold Ptr.val at *
  go_enter Tryz.func12,Tryz.ntmps12
  go_wp2_with fail
  refine hC.out.mono ?_
  rintro e w1 ⟨rfl,hE1⟩
  go_wp2
  go_ret3
  rw [hres.out]
  exact ⟨_,rfl,Own.nil _ _ _ _,hE0.trans hE1⟩
end Go.Proofs.YtoanoodfacmieaaGreatDoor

/- The example of layer 26. -/
namespace Go.Proofs.YtoanoodfacmieaaGreatDoor
set_option maxRecDepth 100000
open Go.RowKit
end Go.Proofs.YtoanoodfacmieaaGreatDoor

/- Contract: others of the statements of layer 26; what Add and End leave aas it is. -/
namespace Go.Proofs.YtoanoodfacmieaaGreatDoor
set_option maxRecDepth 100000
open Go.RowKit
theorem ok_al {m : Mem} (h : m.ok=true) : okAl m.next 0 m.al=true:=by
 unfold Mem.ok okM at h
 simp only [Bool.and_eq_true] at h
 exact h.2
theorem okAl_push {next least : Int} {l : List Alloc} {k : Nat} (h : okAl next least l=true) (hle : least≤next) (hk : 1≤k∧k≤2) : okAl (next+1) least (l ++ [newAlloc next k])=true:=by
 induction l generalizing least with
 | nil =>
  have hc : (newAlloc next k).cells.all (fun c=>c.ok && ((newAlloc next k).live || c.k == 0))=true:=by
   simp only [newAlloc,List.all_eq_true]
   intro c hc
   rw [List.eq_of_mem_replicate hc]
   rfl
  simp only [List.nil_append,okAl,hc,Bool.and_true,Bool.and_eq_true,decide_eq_true_eq]
  simp [newAlloc]
  omega
 | cons a l ih =>
  rw [List.cons_append]
  simp only [okAl,Bool.and_eq_true,decide_eq_true_eq] at h ⊢
  exact ⟨⟨⟨⟨⟨h.1.1.1.1.1,by omega⟩,h.1.1.1.2⟩,h.1.1.2⟩,h.1.2⟩,ih h.2 (by omega)⟩
theorem ok_push {m : Mem} {k : Nat} (h : m.ok=true) (hf : ¬ (m.al.length=400∨m.next=1000000)) (hk : 1≤k∧k≤2) : (⟨m.al ++ [newAlloc m.next k],m.next+1⟩ : Mem).ok=true:=by
 obtain ⟨h1,h2,h3⟩:=ok_bounds h
 have h4:=okAl_push (ok_al h) h2 hk
 unfold Mem.ok okM inB
 simp only [Bool.and_eq_true,decide_eq_true_eq]
 refine ⟨⟨?_,by omega⟩,h4⟩
 simp
 omega
theorem okAl_set {next least : Int} {l : List Alloc} {i : Nat} {x : Alloc} (h : okAl next least l=true) (hx : l[i]? = some x) : okAl next least (l.set i (ended x))=true:=by
 induction l generalizing least i with
 | nil=>simp at hx
 | cons a l ih =>
  simp only [okAl,Bool.and_eq_true,decide_eq_true_eq] at h
  cases i with
  | zero =>
   simp only [List.getElem?_cons_zero,Option.some.injEq] at hx
   subst hx
   have hc : (ended a).cells.all (fun c=>c.ok && ((ended a).live || c.k == 0))=true:=by
    simp only [ended,List.all_eq_true]
    intro c hc
    rw [List.eq_of_mem_replicate hc]
    rfl
   rw [List.set_cons_zero]
   simp only [okAl,hc,Bool.and_true,Bool.and_eq_true,decide_eq_true_eq]
   refine ⟨⟨⟨⟨h.1.1.1.1.1,h.1.1.1.1.2⟩,?_⟩,?_⟩,h.2⟩
   ·simpa [ended] using h.1.1.1.2
   ·simpa [ended] using h.1.1.2
  | succ i =>
   rw [List.set_cons_succ]
   simp only [okAl,Bool.and_eq_true,decide_eq_true_eq]
   exact ⟨h.1,ih h.2 (by simpa using hx)⟩
theorem ok_ended {m : Mem} {i : Nat} {x : Alloc} (h : m.ok=true) (hx : m.al[i]? = some x) : (⟨m.al.set i (ended x),m.next⟩ : Mem).ok=true:=by
 have h4:=okAl_set (ok_al h) hx
 unfold Mem.ok okM at h ⊢
 simp only [Bool.and_eq_true,decide_eq_true_eq] at h ⊢
 exact ⟨⟨by simpa using h.1.1,h.1.2⟩,h4⟩
end Go.Proofs.YtoanoodfacmieaaGreatDoor
