/- Several texts in one: CelWB, CelWC, CelWD, CelX1, CelX2, CelX3, Alive26, Oth26, CelP, MonQ. -/
import Derived.Test.YtnplphcnagooeaaGreatDoorQ13
import Derived.BigQuiet
import Derived.Test.YtnplphcnagooeaaGreatDoorQ09
/- Contracts: End of the program and of the reference. -/
namespace Go.Proofs.YtnplphcnagooeaaGreatDoor
set_option maxRecDepth 100000
open Go.RowKit
set_option maxRecDepth 100000 in
set_option maxHeartbeats 3200000 in
theorem allocs_End {m : Mem} {s : Value} {w : World} (n : Int) (hl : Als w s m.al) (hn : i64B m.next) :
  Calls Tryz.prog 25 #[.agg #[s,.int .i64 m.next],.int .i64 n] w (RetME w (endR m n).1 (endR m n).2):=by
 have hE0:=((Ext.refl w).alloc (.cells #[s,.int .i64 m.next] 24)).alloc (.cells #[.slice none 0 0,.int .i64 0] 24)
 obtain ⟨a,cp,rfl,hlc,hcm,-⟩:=hl.form
 unfold maxLen at hcm
 have bM:=(Box.new w 24 #[.slice a m.al.length cp,.int .i64 m.next]).ext ((Ext.refl _).alloc (.cells #[.slice none 0 0,.int .i64 0] 24))
 have bR:=Box.new (w.alloc (.cells #[.slice a m.al.length cp,.int .i64 m.next] 24)) 24 #[.slice none 0 0,.int .i64 0]
 rw [World.size_alloc] at bR
 have hCk:=Lib.hid (allocs_Check (hl.ext hE0) hn)
 have hL:=Lib.hid hl
 cases hok : m.ok
 ·have hce : Hid (memErr m.al m.next=8):=Hid.mk (memErr_bad hok)
  have hres:=Lib.hid (endR_bad (n:=n) hok)
  clear hok hl
  go_enter Tryz.func25,Tryz.ntmps25
  go_wp2_with fail
  refine hCk.out.mono ?_
  rintro e w1 ⟨rfl,hE1⟩
  rw [hce.out]
  have bR1:=bR.ext hE1
  have r0 : w1.cell? ⟨w.heap.size+1,0,none⟩=some (.slice none 0 0):=bR1.cell 0
  have r1 : w1.cell? ⟨w.heap.size+1,1,none⟩=some (.int .i64 0):=bR1.cell 1
  have rf0:=bR1.frozen 0
  have rf1:=bR1.frozen 1
  have hF1:=hE0.trans hE1
  clear bM bR bR1
  go_wp2
  rw [hres.out]
  refine bodyPost_ret (v := .tuple #[.agg #[.slice none 0 0,.int .i64 0],.int .i64 8]) (by simp [results,Tryz.f25,go_sem,r0,r1]) rfl ⟨_,rfl,FrM.zero _ _,(hF1.setCell (by simp) _).setCell (by simp) _⟩
 ·have hce : Hid (memErr m.al m.next=0):=Hid.mk (memErr_ok hok)
  have hsm:=small_of_ok hok
  cases hat : atNum m.al n with
  | none =>
   have hix:=Lib.hid (idxM_none hat)
   have hres:=Lib.hid (endR_none hok hat)
   clear hok hl hat
   go_enter Tryz.func25,Tryz.ntmps25
   go_wp2_with fail
   refine hCk.out.mono ?_
   rintro e w1 ⟨rfl,hE1⟩
   rw [hce.out]
   have hF1:=hE0.trans hE1
   have bM1:=bM.ext hE1
   have m0 : w1.cell? ⟨w.heap.size,0,none⟩=some (.slice a m.al.length cp):=bM1.cell 0
   have m1 : w1.cell? ⟨w.heap.size,1,none⟩=some (.int .i64 m.next):=bM1.cell 1
   go_wp2_with fail
   refine (allocs_find n (hL.out.ext hF1)).mono ?_
   rintro e w2 ⟨rfl,hE2⟩
   rw [hix.out]
   have hF2:=hF1.trans hE2
   have bR2:=(bR.ext hE1).ext hE2
   have r0 : w2.cell? ⟨w.heap.size+1,0,none⟩=some (.slice none 0 0):=bR2.cell 0
   have r1 : w2.cell? ⟨w.heap.size+1,1,none⟩=some (.int .i64 0):=bR2.cell 1
   have rf0:=bR2.frozen 0
   have rf1:=bR2.frozen 1
   clear bM bR bR2 bM1 m0 m1
   go_wp2
   rw [hres.out]
   refine bodyPost_ret (v := .tuple #[.agg #[.slice none 0 0,.int .i64 0],.int .i64 6]) (by simp [results,Tryz.f25,go_sem,r0,r1]) rfl ⟨_,rfl,FrM.zero _ _,(hF2.setCell (by simp) _).setCell (by simp) _⟩
  | some i =>
   have hil:=(atNum_lt hat).1
   obtain ⟨x,hx⟩ : ∃ x,m.al[i]? = some x:=⟨m.al[i],by simp [hil]⟩
   have hix:=Lib.hid (idxM_some hat)
   have hX:=Lib.hid hx
   have hi2 : decide ((i : Int) < 0)=false:=decide_eq_false (by omega)
   have hi0 : (0 : Int)≤(i : Int):=by omega
   have hi1 : (i : Int) < (m.al.length : Int):=by omega
   cases hlv : x.live
   ·have hres:=Lib.hid (endR_dead hok hat hx hlv)
    have hlv':=Lib.hid hlv
    clear hok hl hat hx hlv
    go_enter Tryz.func25,Tryz.ntmps25
    go_wp2_with fail
    refine hCk.out.mono ?_
    rintro e w1 ⟨rfl,hE1⟩
    rw [hce.out]
    have hF1:=hE0.trans hE1
    have bM1:=bM.ext hE1
    have m0 : w1.cell? ⟨w.heap.size,0,none⟩=some (.slice a m.al.length cp):=bM1.cell 0
    have m1 : w1.cell? ⟨w.heap.size,1,none⟩=some (.int .i64 m.next):=bM1.cell 1
    go_wp2_with fail
    refine (allocs_find n (hL.out.ext hF1)).mono ?_
    rintro e w2 ⟨rfl,hE2⟩
    rw [hix.out]
    have hF2:=hF1.trans hE2
    have bM2:=bM1.ext hE2
    have bR2:=(bR.ext hE1).ext hE2
    clear m0 m1
    have m0 : w2.cell? ⟨w.heap.size,0,none⟩=some (.slice a m.al.length cp):=bM2.cell 0
    have r0 : w2.cell? ⟨w.heap.size+1,0,none⟩=some (.slice none 0 0):=bR2.cell 0
    have r1 : w2.cell? ⟨w.heap.size+1,1,none⟩=some (.int .i64 0):=bR2.cell 1
    have rf0:=bR2.frozen 0
    have rf1:=bR2.frozen 1
    obtain ⟨b,off,sv,rfl,hbb,d0,d1,d2,-⟩:=(hL.out.ext hF2).cell hX.out
    rw [hlv'.out] at d1
    clear bM bR bR2 bM1 bM2
    go_wp2
    rw [hres.out]
    refine bodyPost_ret (v := .tuple #[.agg #[.slice none 0 0,.int .i64 0],.int .i64 6]) (by simp [results,Tryz.f25,go_sem,r0,r1]) rfl ⟨_,rfl,FrM.zero _ _,(hF2.setCell (by simp) _).setCell (by simp) _⟩
   ·have hres:=Lib.hid (endR_live hok hat hx hlv)
    have hlv':=Lib.hid hlv
    clear hok hl hat hx hlv
    go_enter Tryz.func25,Tryz.ntmps25
    go_wp2_with fail
    refine hCk.out.mono ?_
    rintro e w1 ⟨rfl,hE1⟩
    rw [hce.out]
    have hF1:=hE0.trans hE1
    have bM1:=bM.ext hE1
    have m0 : w1.cell? ⟨w.heap.size,0,none⟩=some (.slice a m.al.length cp):=bM1.cell 0
    have m1 : w1.cell? ⟨w.heap.size,1,none⟩=some (.int .i64 m.next):=bM1.cell 1
    go_wp2_with fail
    refine (allocs_find n (hL.out.ext hF1)).mono ?_
    rintro e w2 ⟨rfl,hE2⟩
    rw [hix.out]
    have hF2:=hF1.trans hE2
    have bM2:=bM1.ext hE2
    clear m0 m1
    have m0 : w2.cell? ⟨w.heap.size,0,none⟩=some (.slice a m.al.length cp):=bM2.cell 0
    have m1 : w2.cell? ⟨w.heap.size,1,none⟩=some (.int .i64 m.next):=bM2.cell 1
    obtain ⟨b,off,sv,rfl,hbb,d0,d1,d2,-⟩:=(hL.out.ext hF2).cell hX.out
    rw [hlv'.out] at d1
    go_wp2_with fail
    refine (allocs_clone (hL.out.ext hF2) hsm).mono ?_
    rintro e w3 ⟨v,vs,rfl,hOM,hE3⟩
    have hF3:=hF2.trans hE3
    have hv:=hOM.outer.sl.slice_form
    obtain ⟨a2,cp2,rfl,hlc2,hcm2,-⟩:=hv
    unfold maxLen at hcm2
    obtain ⟨g,sv',rfl,hg1,hg2,hvi,hown,⟨f0,f1,f2⟩,hfr,hsb⟩:=OM.cell hOM hX.out
    rw [hlv'.out] at f1
    have hvf:=hown.read.form
    obtain ⟨ca,ccp,rfl,-⟩:=hvf
    have bM3:=bM2.ext hE3
    have bR3:=((bR.ext hE1).ext hE2).ext hE3
    have hw2 : w.heap.size+1 < w2.heap.size:=((bR.ext hE1).ext hE2).lt
    have k0 : w3.cell? ⟨w.heap.size,0,none⟩=some (.slice (some ⟨b,off,none⟩) m.al.length cp):=bM3.cell 0
    have k1 : w3.cell? ⟨w.heap.size,1,none⟩=some (.int .i64 m.next):=bM3.cell 1
    have kf0:=bM3.frozen 0
    have kf1:=bM3.frozen 1
    have fr1:=hfr (i * 3+1)
    have hg0 : g≠w.heap.size:=by omega
    have hg0' : w.heap.size≠g:=by omega
    obtain ⟨ci,cz,hci,hcz,hczz⟩:=Cell.infoZ
    have hXa : ExtBut (fun b=>b=w.heap.size∨b=g) w3 (((w3.setCell ⟨w.heap.size,0,none⟩ (.slice (some ⟨g,0,none⟩) m.al.length cp2)).setCell ⟨w.heap.size,1,none⟩ (.int .i64 m.next)).setCell ⟨g,i * 3+1,none⟩ (.bool false)) :=
     (((ExtBut.setCell w3 ⟨w.heap.size,0,none⟩ (.slice (some ⟨g,0,none⟩) m.al.length cp2)).mono (fun x _ h => .inl h)).trans ((ExtBut.setCell _ ⟨w.heap.size,1,none⟩ (.int .i64 m.next)).mono (fun x _ h => .inl h))).trans ((ExtBut.setCell _ ⟨g,i * 3+1,none⟩ (.bool false)).mono (fun x _ h => .inr h))
    have hXb : ExtBut (fun b=>b=w.heap.size) w3 ((w3.setCell ⟨w.heap.size,0,none⟩ (.slice (some ⟨g,0,none⟩) m.al.length cp2)).setCell ⟨w.heap.size,1,none⟩ (.int .i64 m.next)) :=
     (ExtBut.setCell w3 ⟨w.heap.size,0,none⟩ (.slice (some ⟨g,0,none⟩) m.al.length cp2)).trans (ExtBut.setCell _ ⟨w.heap.size,1,none⟩ (.int .i64 m.next))
    have hOu:=(ExtBut.own hOM.outer hXb (fun b' e h=>by have h' : some g=some b':=e;cases h';omega)).set (i * 3+1) (.bool false)
    rw [trows_set arow arow_len hvi hX.out (by omega : 1 < 3) (show arow _ (ended x)=(arow _ x).set 1 (.bool false) from rfl)] at hOu
    have hownA:=OwnC.keep hown hXa (fun b' e h=>by have:=hsb b' e;omega)
    obtain ⟨w5,hr5,hO5,hX5⟩:=run_clear_own (P:=Tryz.prog) (ty:=0) (t:=31) (k:=5) (n:=x.cells.length) Tryz.underlying31 hci hcz (by rw [hczz];rfl) (by rw [hczz,zcells_zero];exact zcells_one _) hownA
    rw [hczz,zcells_zero] at hO5
    have hOu5:=ExtBut.own hOu hX5 (fun b' e h=>by have h' : some g=some b':=e;cases h';exact (hsb _ h).2.2 rfl)
    have bM5:=((bM3.set 0 (.slice (some ⟨g,0,none⟩) m.al.length cp2)).set 1 (.int .i64 m.next)).other (p:=⟨g,i * 3+1,none⟩) hg0 (.bool false)
    have bM5:=bM5.but hX5 (fun h=>by have:=hsb _ h;omega)
    have bR5:=(bR3.but hXa (by omega)).but hX5 (fun h=>by have:=hsb _ h;omega)
    have hX35 : ExtBut (fun b=>b=w.heap.size∨b=g∨(Value.slice ca x.cells.length ccp).ownBlock=some b) w3 w5:=(hXa.mono (fun x _ h=>by rcases h with h | h;exact .inl h;exact .inr (.inl h))).trans (hX5.mono (fun x _ h => .inr (.inr h)))
    have hF5 : Ext w w5:=ExtBut.ext hF3 hX35 (fun b' h=>by rcases h with h | h | h;omega;omega;(have:=hsb _ h;omega))
    have p0 : w5.cell? ⟨w.heap.size,0,none⟩=some (.slice (some ⟨g,0,none⟩) m.al.length cp2):=bM5.cell 0
    have p1 : w5.cell? ⟨w.heap.size,1,none⟩=some (.int .i64 m.next):=bM5.cell 1
    have r0 : w5.cell? ⟨w.heap.size+1,0,none⟩=some (.slice none 0 0):=bR5.cell 0
    have r1 : w5.cell? ⟨w.heap.size+1,1,none⟩=some (.int .i64 0):=bR5.cell 1
    have rf0:=bR5.frozen 0
    have rf1:=bR5.frozen 1
    have hH:=Lib.hid (And.intro hOM (And.intro hOu5 (And.intro hO5 (And.intro hX35 (And.intro hsb (And.intro hvi hF5))))))
    clear bM bR bM1 bM2 bM3 bR3 m0 m1 hOM hown hsb hfr d0 d1 d2 hXa hXb hOu hownA hO5 hX5 hOu5 bM5 bR5 hX35 hF5
    go_wp2
    rw [hres.out]
    obtain ⟨hOM,hOu5,hO5,hX35,hsb,hvi,hF5⟩:=hH.out
    have hXr:=((ExtBut.setCell w5 ⟨w.heap.size+1,0,none⟩ (.slice (some ⟨g,0,none⟩) m.al.length cp2)).mono (S':=fun b=>b=w.heap.size+1) (fun x _ h=>h)).trans ((ExtBut.setCell _ ⟨w.heap.size+1,1,none⟩ (.int .i64 m.next)).mono (S':=fun b=>b=w.heap.size+1) (fun x _ h=>h))
    have hX37:=(hX35.mono (S':=fun b=>b=w.heap.size∨b=w.heap.size+1∨b=g∨(Value.slice ca x.cells.length ccp).ownBlock=some b) (fun y _ h=>by rcases h with h | h | h;exact .inl h;exact .inr (.inr (.inl h));exact .inr (.inr (.inr h)))).trans (hXr.mono (fun y _ h => .inr (.inl h)))
    refine bodyPost_ret (v := .tuple #[.agg #[.slice (some ⟨g,0,none⟩) m.al.length cp2,.int .i64 m.next],.int .i64 0]) (by simp [results,Tryz.f25,go_sem,r0,r1]) rfl ⟨_,rfl,fun w'' h2=>⟨_,rfl,?_⟩,ExtBut.ext hF5 hXr (fun y h=>by omega)⟩
    have hgw : w.heap.size≤g:=by omega
    refine Als.of_put hOM hil (ExtBut.own (ExtBut.own hOu5 hXr (fun b' e h=>by have h' : some g=some b':=e;cases h';omega)) h2 (fun b' e h=>by have h' : some g=some b':=e;cases h';omega)) ((hX37.mono (S':=fun b=>(b=w.heap.size∨b=w.heap.size+1∨b=g∨(Value.slice ca x.cells.length ccp).ownBlock=some b)∨b < w.heap.size) (fun _ _ h => .inl h)).trans (h2.mono (fun _ _ h => .inr h))) (fun j s1 hne hj g' hg' h => ?_) ?_
    ·have h1:=OM.inner_lt hOM s1 (List.mem_of_getElem? hj) g' hg'
     have h3:=hOM.far s1 (List.mem_of_getElem? hj) g' hg'
     rcases h with (h | h | h | h) | h
     ·omega
     ·omega
     ·exact h3 (by rw [h];rfl)
     ·exact OM.apart' hOM hvi h j s1 hne hj g' hg' rfl
     ·omega
    ·have h3:=(ExtBut.own (ExtBut.own hO5 hXr (fun b' e h=>by have:=hsb b' e;omega)) h2 (fun b' e h=>by have:=hsb b' e;omega)).sl
     show Sl _ 5 _ (List.replicate x.cells.length Cell.zero).length _
     rw [List.length_replicate]
     exact h3
end Go.Proofs.YtnplphcnagooeaaGreatDoor

/- In place: append within an owned row, and the filter that Forget is. -/
namespace Go.Proofs.YtnplphcnagooeaaGreatDoor
set_option maxRecDepth 100000
open Go.RowKit
theorem run_append_fit {P : Program} {w : World} {B : Nat} {t tx ty e e' : TypeId} {i : TypeInfo} {k : Nat} {g n cap j m : Nat} {x : Value} {xs ys : List Value}
  (ht : P.underlying t=some (.slice e)) (htx : P.underlying tx=some (.slice e')) (hi : P.info? e=some i) (hik : i.size=k)
  (hown : Own w B e k (.slice (some ⟨g,0,none⟩) n cap) n xs) (hx : Sl w k x m ys) (h1 : ∀ u ∈ ys,u.oneCell'=true) (hj : j+m≤n) :
  ∃ w',(Builtin.append_ #[t,tx] ty #[.slice (some ⟨g,0,none⟩) j cap,x]).run P w = .ok (.slice (some ⟨g,0,none⟩) (j+m) cap) w' ∧
   Own w' B e k (.slice (some ⟨g,0,none⟩) n cap) n (xs.take (j * k) ++ ys ++ xs.drop ((j+m) * k))∧ExtBut (fun b=>b=g) w w':=by
 subst hik
 have hsrc:=hx.src htx h1
 rcases hown.2 with ⟨h,_⟩ | ⟨g',cap',cur,hv,hbg,hg,hnc,hcm,hcs,htake⟩
 ·cases h
 simp only [Value.slice.injEq,Option.some.injEq,Addr.mk.injEq,and_true,true_and] at hv
 obtain ⟨rfl,rfl⟩:=hv
 have hm1 : (j+m) * i.size≤n * i.size:=Nat.mul_le_mul_right _ hj
 have hm2 : n * i.size≤cap * i.size:=Nat.mul_le_mul_right _ hnc
 have hm3 : (j+m) * i.size=j * i.size+m * i.size:=Nat.add_mul _ _ _
 have hys : ys.length=m * i.size:=hx.len
 have hfit : j * i.size+ys.length≤cur.size:=by rw [hys,hcs];omega
 have hst:=run_storeCells_at P g (j * i.size) e ys 0 cur w hg (by simpa using hfit) h1
 simp only [Nat.add_zero] at hst
 have hroom : j+m≤cap:=by omega
 have hr : (Builtin.append_ #[t,tx] ty #[.slice (some ⟨g,0,none⟩) j cap,x]).run P w =
   .ok (.slice (some ⟨g,0,none⟩) (j+m) cap) (w.setRow g (cur.toList.take (j * i.size) ++ ys ++ cur.toList.drop (j * i.size+ys.length)).toArray):=by
  rcases hsrc.kind with ⟨e',hk⟩ | hk <;> simp [Builtin.append_,run_underlying ht,run_underlying hk,sizeOf,typeInfo,hi,hsrc.len,hroom,hsrc.cells,Addr.add_lit,hst]
 have hxl : xs.length=n * i.size:=hown.1
 refine ⟨_,hr,⟨?_,.inr ⟨g,cap,_,rfl,hbg,setRow_heap w g cur _ e _ hg,hnc,hcm,?_,?_⟩⟩,⟨rfl,rfl,rfl,by simp,fun b hb hne=>setRow_other w g b _ hne⟩⟩
 ·simp only [List.length_append,List.length_take,List.length_drop,hys,hxl]
  omega
 ·simp only [List.size_toArray,List.length_append,List.length_take,List.length_drop,Array.length_toList]
  omega
 ·have hle : j * i.size≤n * i.size:=by omega
  rw [← htake,List.take_append,List.take_of_length_le (by simp only [List.length_append,List.length_take,Array.length_toList,hys];omega)]
  congr 1
  ·congr 1
   rw [List.take_take,Nat.min_eq_left hle]
  ·rw [List.drop_take,hys,hm3,show (cur.toList.take (j * i.size) ++ ys).length=j * i.size+m * i.size by simp only [List.length_append,List.length_take,Array.length_toList,hys];omega,Nat.sub_add_eq]
section
variable (vs : List Value) (l : List Alloc)
def zf (k : Nat) : List (Value × Alloc):=((vs.zip l).take k).filter (fun p=>p.2.live)
def zrows (z : List (Value × Alloc)) : List Value:=z.flatMap fun p=>arow p.1 p.2
variable {vs l}
theorem zf_zero : zf vs l 0=[]:=by simp [zf]
theorem zf_le (k : Nat) : (zf vs l k).length≤k:=Nat.le_trans (List.length_filter_le _ _) (List.length_take_le _ _)
theorem zf_yes {k : Nat} {s : Value} {x : Alloc} (hs : vs[k]? = some s) (hx : l[k]? = some x) (h : x.live=true) : zf vs l (k+1)=zf vs l k ++ [(s,x)]:=by
 have hz : (vs.zip l)[k]? = some (s,x):=by rw [List.getElem?_zip_eq_some];exact ⟨hs,hx⟩
 rw [zf,List.take_add_one,hz,List.filter_append]
 simp [zf,h]
theorem zf_no {k : Nat} {s : Value} {x : Alloc} (hs : vs[k]? = some s) (hx : l[k]? = some x) (h : x.live=false) : zf vs l (k+1)=zf vs l k:=by
 have hz : (vs.zip l)[k]? = some (s,x):=by rw [List.getElem?_zip_eq_some];exact ⟨hs,hx⟩
 rw [zf,List.take_add_one,hz,List.filter_append]
 simp [zf,h]
theorem zf_snd (hl : vs.length=l.length) : (zf vs l l.length).map Prod.snd=l.filter (·.live):=by
 have h1 : (vs.zip l).take l.length=vs.zip l:=List.take_of_length_le (by rw [List.length_zip];omega)
 have h2 : (vs.zip l).map Prod.snd=l:=by rw [← List.unzip_snd,List.unzip_zip_right (by omega)]
 rw [zf,h1]
 conv=>rhs;rw [← h2]
 rw [List.filter_map]
 rfl
theorem zf_rows (z : List (Value × Alloc)) : trows arow (z.map Prod.fst) (z.map Prod.snd)=zrows z:=by
 unfold trows zrows
 congr 1
 induction z with
 | nil=>rfl
 | cons p z ih=>simp [ih]
end
structure FInv (B : Nat) (w3 wr : World) (g cp : Nat) (vs : List Value) (l : List Alloc) (k : Nat) : Prop where
 ys : ∃ ys,Own wr B 74 3 (.slice (some ⟨g,0,none⟩) l.length cp) l.length ys∧ys.take ((zf vs l k).length * 3)=zrows (zf vs l k)∧ys.drop (k * 3)=(trows arow vs l).drop (k * 3)
 keep : ExtBut (fun b=>b=g) w3 wr
theorem FInv.start {B : Nat} {w3 : World} {g cp : Nat} {vs : List Value} {l : List Alloc} (hO : Own w3 B 74 3 (.slice (some ⟨g,0,none⟩) l.length cp) l.length (trows arow vs l)) : FInv B w3 w3 g cp vs l 0 :=
 ⟨⟨_,hO,by simp [zf_zero,zrows],rfl⟩,ExtBut.refl _ _⟩
theorem FInv.skip {B : Nat} {w3 wr w' : World} {g cp : Nat} {vs : List Value} {l : List Alloc} {k : Nat} {s : Value} {x : Alloc} (h : FInv B w3 wr g cp vs l k) (hs : vs[k]? = some s) (hx : l[k]? = some x) (hl : x.live=false) (hE : Ext wr w') : FInv B w3 w' g cp vs l (k+1):=by
 obtain ⟨⟨ys,h1,h2,h3⟩,h4⟩:=h
 refine ⟨⟨ys,h1.ext hE,by rw [zf_no hs hx hl];exact h2,?_⟩,h4.trans (ExtBut.of_ext hE)⟩
 rw [Nat.add_mul,← List.drop_drop,← List.drop_drop,h3]
theorem FInv.cells {B : Nat} {w3 wr : World} {g cp : Nat} {vs : List Value} {l : List Alloc} {k : Nat} {s : Value} {x : Alloc} (h : FInv B w3 wr g cp vs l k) (hs : vs[k]? = some s) (hx : l[k]? = some x) :
  wr.cell? ⟨g,k * 3,none⟩=some (.int .i64 x.num)∧wr.cell? ⟨g,k * 3+1,none⟩=some (.bool x.live)∧wr.cell? ⟨g,k * 3+2,none⟩=some s:=by
 obtain ⟨⟨ys,h1,h2,h3⟩,h4⟩:=h
 have hk : k < l.length:=(List.getElem?_eq_some_iff.1 hx).1
 have t : ∀ j,j < 3→wr.cell? ⟨g,k * 3+j,none⟩=(arow s x)[j]? := fun j hj=>by
  rw [h1.cellAt (k * 3+j) (by omega)]
  have e1 : ys[k * 3+j]? = (ys.drop (k * 3))[j]? := by rw [List.getElem?_drop]
  have e2 : (trows arow vs l)[k * 3+j]? = ((trows arow vs l).drop (k * 3))[j]? := by rw [List.getElem?_drop]
  rw [e1,h3,← e2]
  exact trows_get arow arow_len hs hx hj
 exact ⟨t 0 (by omega),t 1 (by omega),t 2 (by omega)⟩
set_option maxRecDepth 100000 in
theorem FInv.take {B : Nat} {w3 wr wx : World} {g cp : Nat} {vs : List Value} {l : List Alloc} {k : Nat} {s v : Value} {x : Alloc} (h : FInv B w3 wr g cp vs l k) (hs : vs[k]? = some s) (hx : l[k]? = some x) (hl : x.live=true) (hE : Ext wr wx)
  (hv : Sl wx 3 v 1 (arow s x)) (hs1 : s.oneCell'=true) : ∃ w',(Builtin.append_ #[22,22] 22 #[.slice (some ⟨g,0,none⟩) (zf vs l k).length cp,v]).run Tryz.prog wx = .ok (.slice (some ⟨g,0,none⟩) ((zf vs l k).length+1) cp) w'∧FInv B w3 w' g cp vs l (k+1)∧ExtBut (fun b=>b=g) wx w':=by
 obtain ⟨⟨ys,h1,h2,h3⟩,h4⟩:=h
 obtain ⟨i,z,hi,hz,hi3,hz3,hby⟩:=Alloc.infoE
 have hk : k < l.length:=(List.getElem?_eq_some_iff.1 hx).1
 have hle:=zf_le (vs:=vs) (l:=l) k
 have hyl : ys.length=l.length * 3:=h1.1
 obtain ⟨w',hr,hO,hX⟩:=run_append_fit (P:=Tryz.prog) (ty:=22) (j:=(zf vs l k).length) Tryz.underlying22 Tryz.underlying22 hi hi3 (h1.ext hE) hv (by intro u hu;simp only [arow,List.mem_cons,List.not_mem_nil,or_false] at hu;rcases hu with rfl | rfl | rfl;rfl;rfl;exact hs1) (by omega)
 refine ⟨w',hr,⟨⟨_,hO,?_,?_⟩,(h4.trans (ExtBut.of_ext hE)).trans hX⟩,hX⟩
 ·rw [zf_yes hs hx hl,List.length_append,List.length_singleton,zrows,List.flatMap_append,← zrows,← h2,List.take_append,List.take_of_length_le (by simp [arow_len];omega)]
  simp [arow_len,List.length_take]
  left
  omega
 ·rw [List.drop_append,List.drop_of_length_le (by simp [arow_len,List.length_take];omega),List.nil_append]
  have e : (List.take ((zf vs l k).length * 3) ys ++ arow s x).length=(zf vs l k).length * 3+3:=by simp [arow_len,List.length_take];omega
  rw [e,List.drop_drop,show ((zf vs l k).length+1) * 3+((k+1) * 3 - ((zf vs l k).length * 3+3))=k * 3+3 by omega,← List.drop_drop,h3,List.drop_drop]
  congr 1
  omega
theorem Sl.tight {w : World} {k : Nat} {a : Option Addr} {n cap : Nat} {xs : List Value} (h : Sl w k (.slice a n cap) n xs) (hk : n≤maxLen) (hx : a=none→n=0) : Sl w k (.slice a n n) n xs:=by
 obtain ⟨h1,a',cap',e,h3,h4,h5,h6⟩:=h
 simp only [Value.slice.injEq] at e
 obtain ⟨rfl,_,rfl⟩:=e
 exact ⟨h1,a,n,rfl,Nat.le_refl _,hk,hx,h6⟩
theorem FInv.read {B : Nat} {w3 wr w7 : World} {g cp : Nat} {vs : List Value} {l : List Alloc} {S : Nat→Prop} (h : FInv B w3 wr g cp vs l l.length) (hOM : OM w3 B (.slice (some ⟨g,0,none⟩) l.length cp) vs l) (hg : B≤g) (hX : ExtBut S wr w7) (hS : ∀ b,S b→b < B) :
  Als w7 (.slice (some ⟨g,0,none⟩) (zf vs l l.length).length (zf vs l l.length).length) (l.filter (·.live)):=by
 obtain ⟨⟨ys,h1,h2,h3⟩,h4⟩:=h
 have hl:=(All2.iff.1 hOM.inner).1
 have hle:=zf_le (vs:=vs) (l:=l) l.length
 have e1:=zf_snd hl
 refine ⟨(zf vs l l.length).map Prod.fst,?_,?_⟩
 ·rw [← e1]
  refine All2.map _ _ _ fun p hp => ?_
  have hp2:=List.mem_of_mem_take (List.mem_filter.1 hp).1
  obtain ⟨i,hi⟩:=List.mem_iff_getElem?.1 hp2
  rw [List.getElem?_zip_eq_some] at hi
  have hr:=(All2.iff.1 hOM.inner).2 i _ _ hi.1 hi.2
  have h5:=OM.inner_lt hOM p.1 (List.mem_of_getElem? hi.1)
  have h6:=hOM.far p.1 (List.mem_of_getElem? hi.1)
  exact ExtBut.sl (ExtBut.sl (OwnC.read hr) h4 (fun b e hb=>h6 b e (by rw [hb];rfl))) hX (fun b e hb=>by have:=(h5 b e).1;have:=hS b hb;omega)
 ·have h7:=(ExtBut.own h1 hX (fun b e hb=>by have h' : some g=some b:=e;cases h';have:=hS _ hb;omega)).sl
  have h8:=h7.take (zf vs l l.length).length (by omega)
  rw [h2,← zf_rows,e1] at h8
  rw [← e1,List.length_map,e1]
  obtain ⟨_,_,_,_,hcm,_⟩:=h7
  exact h8.tight (by rcases h1.2 with ⟨h,_⟩ | ⟨_,_,_,hv,_,_,hnc,hcm',_⟩;cases h;simp only [Value.slice.injEq] at hv;omega) (fun e=>by cases e)
end Go.Proofs.YtnplphcnagooeaaGreatDoor

/- Contracts: Forget of the program and of the reference. -/
namespace Go.Proofs.YtnplphcnagooeaaGreatDoor
set_option maxRecDepth 100000
open Go.RowKit
end Go.Proofs.YtnplphcnagooeaaGreatDoor

/- Contracts: find of the program, Asked of the reference of layer 27. -/
namespace Go.Proofs.YtnplphcnagooeaaGreatDoor
set_option maxRecDepth 100000
open Go.RowKit
def cutV (s : Value) (o n : Nat) : Value :=
 match s with
 | .slice a _ cap => .slice (if cap=o then a else a.map (·.add (o * 5))) n (cap - o)
 | v=>v
def findV (m : Mem) (vs : List Value) (p : Ptr) (n : Int) : Value :=
 match (askR m p n).1 with
 | none => .slice none 0 0
 | some i=>if (m.al.getD i Alloc.zero).live then cutV (vs.getD i (.slice none 0 0)) p.o.toNat n.toNat else .slice none 0 0
theorem Cls.cut {w : World} {s : Value} {l : List Cell} (h : Cls w s l) (o n : Nat) (hn : o+n≤l.length) : Cls w (cutV s o n) ((l.drop o).take n):=by
 obtain ⟨a,cap,rfl,hc,-⟩:=h.form
 have h1:=Sl.drop h o (by omega)
 rw [rows_drop Cell.row Cell.row_len] at h1
 have h2:=Sl.take h1 n (by omega)
 rw [rows_take Cell.row Cell.row_len] at h2
 unfold Cls cutV
 rw [List.length_take,List.length_drop,Nat.min_eq_left (by omega)]
 exact h2
theorem askR_bad {m : Mem} {p : Ptr} {n : Int} (h : m.ok=false) : askR m p n=(none,8):=by simp [askR,h]
theorem askR_arg {m : Mem} {p : Ptr} {n : Int} (h : m.ok=true) (ha : p.a < 0∨m.next≤p.a∨n < 1∨2 < n) : askR m p n=(none,2):=by simp [askR,h,ha]
theorem askR_none {m : Mem} {p : Ptr} {n : Int} (h : m.ok=true) (ha : ¬ (p.a < 0∨m.next≤p.a∨n < 1∨2 < n)) (hi : atNum m.al p.a=none) : askR m p n=(none,0):=by simp [askR,h,ha,hi]
theorem askR_off {m : Mem} {p : Ptr} {n : Int} {i : Nat} {x : Alloc} (h : m.ok=true) (ha : ¬ (p.a < 0∨m.next≤p.a∨n < 1∨2 < n)) (hi : atNum m.al p.a=some i) (hx : m.al[i]? = some x) (ho : p.o < 0∨(x.cells.length : Int) - n < p.o) : askR m p n=(none,6):=by
 simp [askR,h,ha,hi,List.getD_eq_getElem?_getD,hx,ho]
theorem askR_yes {m : Mem} {p : Ptr} {n : Int} {i : Nat} {x : Alloc} (h : m.ok=true) (ha : ¬ (p.a < 0∨m.next≤p.a∨n < 1∨2 < n)) (hi : atNum m.al p.a=some i) (hx : m.al[i]? = some x) (ho : ¬ (p.o < 0∨(x.cells.length : Int) - n < p.o)) : askR m p n=(some i,0):=by
 simp [askR,h,ha,hi,List.getD_eq_getElem?_getD,hx,ho]
theorem run_slice_mid {P : Program} {t e : TypeId} {i : TypeInfo} (ht : P.underlying t=some (.slice e)) (hi : P.info? e=some i) (h5 : i.size=5) (a : Option Addr) (n cap : Nat) (x y : Int) (o k : Nat) (hx : x=o) (hy : y=(o+k : Nat)) (hk : o+k≤cap) (w : World) :
  (Instr.slice t (.slice a n cap) (some (.int .i64 x)) (some (.int .i64 y)) none).run P w = .ok (cutV (.slice a n cap) o k) w:=by
 subst hx hy
 have h2 : (0 : Int)≤(o : Int)+(k : Int)∧(o : Int)+(k : Int)≤(cap : Int):=by omega
 have h3 : ((o : Int)+(k : Int)).toNat=o+k:=by omega
 simp [Instr.slice,run_underlying ht,Instr.sliceBounds,Instr.sliceBound,asIntOf,h2,h3,sizeOf,typeInfo,hi,h5,cutV]
theorem callFunc_cellsfind (args : Array Value) (w : World) : (callFunc 106 args).run Tryz.prog w = .ok (.enter 106 args) w:=by kernel_rfl
set_option maxHeartbeats 400000 in
theorem cells_find1 (n : Int) (B : Nat) (W : World) (hc : W.cell? ⟨B,0,none⟩=some (.int .i64 n)) : PredA 106 #[.pointer (some ⟨B,0,none⟩)] W (numIs n):=by
 intro x s w hW
 obtain ⟨num,live,cs⟩:=x
 have hcw:=hW.cell hc
 have hB:=World.block_lt_of_cell? _ _ hcw
 have hE:=(Ext.refl w).alloc (.cells #[.int .i64 num,.bool live,s] 74)
 clear hc hW
 show Calls Tryz.prog 106 #[.agg #[.int .i64 num,.bool live,s],.pointer (some ⟨B,0,none⟩)] w _
 go_enter Tryz.func106,Tryz.ntmps106
 go_wp2
 go_ret
 exact ⟨rfl,hE⟩
def RetVE (w : World) (v : Value) (err : Int) (en : Ending) (w' : World) : Prop:=en = .returned (.tuple #[v,.int .i64 err])∧Ext w w'
set_option maxRecDepth 100000 in
set_option maxHeartbeats 3200000 in
theorem cells_find {m : Mem} {vs : List Value} {s : Value} {w : World} (p : Ptr) (n : Int) (hin : All2 (fun s a=>Cls w s a.cells) vs m.al) (hout : Sl w 3 s m.al.length (trows arow vs m.al)) (hn : i64B m.next) :
  Calls Tryz.prog 60 #[.agg #[s,.int .i64 m.next],p.val,.int .i64 n] w (RetVE w (findV m vs p n) (askR m p n).2):=by
 have hl : Als w s m.al:=⟨vs,hin,hout⟩
 obtain ⟨pa,po,pt⟩:=p
 have hE0:=((Ext.refl w).alloc (.cells #[s,.int .i64 m.next] 24)).alloc (.cells #[.int .i64 pa,.int .i64 po,.int .i64 pt] 30)
 obtain ⟨a,cp,rfl,hlc,hcm,-⟩:=hl.form
 unfold maxLen at hcm
 have bM:=(Box.new w 24 #[.slice a m.al.length cp,.int .i64 m.next]).ext ((Ext.refl _).alloc (.cells #[.int .i64 pa,.int .i64 po,.int .i64 pt] 30))
 have bP:=Box.new (w.alloc (.cells #[.slice a m.al.length cp,.int .i64 m.next] 24)) 30 #[.int .i64 pa,.int .i64 po,.int .i64 pt]
 rw [World.size_alloc] at bP
 have hCk:=Lib.hid (allocs_Check (hl.ext hE0) hn)
 have hL:=Lib.hid hl
 have hmf : ∀ (fn : Fn) (first cap : Array Value) (w : World),(Instr.makeFunc fn first cap).run Tryz.prog w = .ok (.func fn first cap) w:=fun _ _ _ _=>rfl
 unfold Ptr.val
 cases hok : m.ok
 ·have hce : Hid (memErr m.al m.next=8):=Hid.mk (memErr_bad hok)
  have hres : Hid (findV m vs ⟨pa,po,pt⟩ n = .slice none 0 0∧(askR m ⟨pa,po,pt⟩ n).2=8):=Hid.mk (by simp [findV,askR_bad hok])
  clear hok hl hin hout
  go_enter Tryz.func60,Tryz.ntmps60
  go_wp2_with fail
  refine hCk.out.mono ?_
  rintro e w1 ⟨rfl,hE1⟩
  rw [hce.out]
  go_wp2
  go_ret2
  rw [hres.out.1,hres.out.2]
  exact ⟨rfl,hE0.trans hE1⟩
 ·have hce : Hid (memErr m.al m.next=0):=Hid.mk (memErr_ok hok)
  have hbn:=ok_bounds hok
  by_cases harg : pa < 0∨m.next≤pa∨n < 1∨2 < n
  ·have hres : Hid (findV m vs ⟨pa,po,pt⟩ n = .slice none 0 0∧(askR m ⟨pa,po,pt⟩ n).2=2):=Hid.mk (by simp [findV,askR_arg (p:=⟨pa,po,pt⟩) hok harg])
   have q : decide (pa < 0)=true∨decide (pa < 0)=false∧decide (m.next≤pa)=true∨decide (pa < 0)=false∧decide (m.next≤pa)=false∧decide (n < 1)=true∨decide (pa < 0)=false∧decide (m.next≤pa)=false∧decide (n < 1)=false∧decide (2 < n)=true:=by
    by_cases h1 : pa < 0
    ·exact .inl (decide_eq_true h1)
    ·by_cases h2 : m.next≤pa
     ·exact .inr (.inl ⟨decide_eq_false h1,decide_eq_true h2⟩)
     ·by_cases h3 : n < 1
      ·exact .inr (.inr (.inl ⟨decide_eq_false h1,decide_eq_false h2,decide_eq_true h3⟩))
      ·exact .inr (.inr (.inr ⟨decide_eq_false h1,decide_eq_false h2,decide_eq_false h3,decide_eq_true (by omega)⟩))
   clear hok hl hin hout harg
   rcases q with q1 | ⟨q1,q2⟩ | ⟨q1,q2,q3⟩ | ⟨q1,q2,q3,q4⟩
   all_goals
    go_enter Tryz.func60,Tryz.ntmps60
    go_wp2_with fail
    refine hCk.out.mono ?_
    rintro e w1 ⟨rfl,hE1⟩
    rw [hce.out]
    have m1 : w1.cell? ⟨w.heap.size,1,none⟩=some (.int .i64 m.next):=(bM.ext hE1).cell 1
    have p0 : w1.cell? ⟨w.heap.size+1,0,none⟩=some (.int .i64 pa):=(bP.ext hE1).cell 0
    go_wp2
    go_ret2
    rw [hres.out.1,hres.out.2]
    exact ⟨rfl,hE0.trans hE1⟩
  ·have q1 : decide (pa < 0)=false:=decide_eq_false (by omega)
   have q2 : decide (m.next≤pa)=false:=decide_eq_false (by omega)
   have q3 : decide (n < 1)=false:=decide_eq_false (by omega)
   have q4 : decide (2 < n)=false:=decide_eq_false (by omega)
   have hn2 : 1≤n∧n≤2:=by omega
   cases hat : atNum m.al pa with
   | none =>
    have hix : Hid (ixM (m.al.findIdx? (numIs pa)) = -1):=Hid.mk (idxM_none hat)
    have hres : Hid (findV m vs ⟨pa,po,pt⟩ n = .slice none 0 0∧(askR m ⟨pa,po,pt⟩ n).2=0):=Hid.mk (by simp [findV,askR_none (p:=⟨pa,po,pt⟩) hok harg hat])
    clear hok hl hin hout harg hat
    go_enter Tryz.func60,Tryz.ntmps60
    go_wp2_with fail
    refine hCk.out.mono ?_
    rintro e w1 ⟨rfl,hE1⟩
    rw [hce.out]
    have hF1:=hE0.trans hE1
    have m0 : w1.cell? ⟨w.heap.size,0,none⟩=some (.slice a m.al.length cp):=(bM.ext hE1).cell 0
    have m1 : w1.cell? ⟨w.heap.size,1,none⟩=some (.int .i64 m.next):=(bM.ext hE1).cell 1
    have p0 : w1.cell? ⟨w.heap.size+1,0,none⟩=some (.int .i64 pa):=(bP.ext hE1).cell 0
    go_wp2_with fail
    refine (indexFunc_alloc callFunc_cellsfind (cells_find1 pa (w.heap.size+1) w1 p0) (hL.out.ext hF1)).mono ?_
    rintro e w2 ⟨rfl,hE2⟩
    rw [hix.out]
    go_wp2
    go_ret2
    rw [hres.out.1,hres.out.2]
    exact ⟨rfl,hF1.trans hE2⟩
   | some i =>
    have hix : Hid (ixM (m.al.findIdx? (numIs pa))=(i : Int)):=Hid.mk (idxM_some hat)
    have hil:=(atNum_lt hat).1
    obtain ⟨x,hx⟩ : ∃ x,m.al[i]? = some x:=⟨m.al[i],by simp [hil]⟩
    have hi2 : decide ((i : Int) < 0)=false:=decide_eq_false (by omega)
    have hi0 : (0 : Int)≤(i : Int):=by omega
    have hi1 : (i : Int) < (m.al.length : Int):=by omega
    obtain ⟨sv,hsv,hcl⟩:=hin.get hx
    obtain ⟨b,off,e,hbb,hcell⟩:=Sl.at hout (by omega) (by omega : 0 < m.al.length)
    subst e
    obtain ⟨ca,ccp,rfl,hcl1,hcl2,-⟩:=hcl.form
    unfold maxLen at hcl2
    have d : ∀ j u,(arow (.slice ca x.cells.length ccp) x)[j]? = some u→w.cell? ⟨b,off+(i * 3+j),none⟩=some u:=fun j u hj=>hcell _ u ((trows_get arow arow_len hsv hx (by have:=(List.getElem?_eq_some_iff.1 hj).1;simpa [arow_len] using this)).trans hj)
    have d0 : w.cell? ⟨b,off+i * 3,none⟩=some (.int .i64 x.num):=d 0 _ rfl
    have d1 : w.cell? ⟨b,off+i * 3+1,none⟩=some (.bool x.live):=d 1 _ rfl
    have d2 : w.cell? ⟨b,off+i * 3+2,none⟩=some (.slice ca x.cells.length ccp):=d 2 _ rfl
    have hx2 : x.cells.length≤1000000:=(small_of_ok hok).2 x (List.mem_of_getElem? hx)
    have hvd : vs.getD i (.slice none 0 0) = .slice ca x.cells.length ccp:=by rw [List.getD_eq_getElem?_getD,hsv];rfl
    by_cases ho : po < 0∨(x.cells.length : Int) - n < po
    ·have hres : Hid (findV m vs ⟨pa,po,pt⟩ n = .slice none 0 0∧(askR m ⟨pa,po,pt⟩ n).2=6):=Hid.mk (by simp [findV,askR_off (p:=⟨pa,po,pt⟩) hok harg hat hx ho])
     have q5 : decide (po < 0)=true∨decide (po < 0)=false∧decide ((x.cells.length : Int) - n < po)=true:=by
      by_cases h : po < 0
      ·exact .inl (decide_eq_true h)
      ·exact .inr ⟨decide_eq_false h,decide_eq_true (by omega)⟩
     have hH:=Lib.hid (And.intro d0 (And.intro d1 d2))
     clear hok hl hin hout harg hat hx hsv hcl hcell d d0 d1 d2 ho hvd
     rcases q5 with q5 | ⟨q5,q6⟩
     all_goals
      go_enter Tryz.func60,Tryz.ntmps60
      go_wp2_with fail
      refine hCk.out.mono ?_
      rintro e w1 ⟨rfl,hE1⟩
      rw [hce.out]
      have hF1:=hE0.trans hE1
      have m0 : w1.cell? ⟨w.heap.size,0,none⟩=some (.slice (some ⟨b,off,none⟩) m.al.length cp):=(bM.ext hE1).cell 0
      have m1 : w1.cell? ⟨w.heap.size,1,none⟩=some (.int .i64 m.next):=(bM.ext hE1).cell 1
      have p0 : w1.cell? ⟨w.heap.size+1,0,none⟩=some (.int .i64 pa):=(bP.ext hE1).cell 0
      go_wp2_with fail
      refine (indexFunc_alloc callFunc_cellsfind (cells_find1 pa (w.heap.size+1) w1 p0) (hL.out.ext hF1)).mono ?_
      rintro e w2 ⟨rfl,hE2⟩
      rw [hix.out]
      have hF2:=hF1.trans hE2
      have n0:=hE2.cell m0
      have o1 : w2.cell? ⟨w.heap.size+1,1,none⟩=some (.int .i64 po):=((bP.ext hE1).ext hE2).cell 1
      have ol:=((bP.ext hE1).ext hE2).lt
      have e0:=hF2.cell hH.out.1
      have e1:=hF2.cell hH.out.2.1
      have e2:=hF2.cell hH.out.2.2
      clear m0 m1 p0
      go_wp2
      go_ret2
      rw [hres.out.1,hres.out.2]
      exact ⟨rfl,hF2.alloc _⟩
    ·have q5 : decide (po < 0)=false:=decide_eq_false (by omega)
     have q6 : decide ((x.cells.length : Int) - n < po)=false:=decide_eq_false (by omega)
     have hask:=askR_yes (p:=⟨pa,po,pt⟩) hok harg hat hx ho
     have hgd : m.al.getD i Alloc.zero=x:=by rw [List.getD_eq_getElem?_getD,hx];rfl
     obtain ⟨o,rfl⟩ : ∃ o : Nat,po=(o : Int):=⟨po.toNat,by omega⟩
     obtain ⟨k,rfl⟩ : ∃ k : Nat,n=(k : Int):=⟨n.toNat,by omega⟩
     have hok2 : o+k≤x.cells.length:=by omega
     obtain ⟨ci,cz,hci,hcz,hci3,hcz3,hcby⟩:=Cell.infoE
     have hcut:=run_slice_mid (P:=Tryz.prog) Tryz.underlying31 hci hci3 ca x.cells.length ccp (o : Int) ((o : Int)+(k : Int)) o k rfl (by omega) (by omega)
     obtain ⟨cv,hcv⟩ : ∃ cv,cutV (.slice ca x.cells.length ccp) o k=cv:=⟨_,rfl⟩
     rw [hcv] at hcut
     have hres : Hid (findV m vs ⟨pa,o,pt⟩ k=(if x.live then cv else .slice none 0 0)∧(askR m ⟨pa,o,pt⟩ k).2=0):=Hid.mk (by
      refine ⟨?_,by rw [hask]⟩
      unfold findV
      rw [hask]
      show (if (m.al.getD i Alloc.zero).live=true then cutV (vs.getD i (.slice none 0 0)) (Int.toNat (o : Int)) (Int.toNat (k : Int)) else _)=_
      rw [hgd,hvd,Int.toNat_natCast,Int.toNat_natCast,hcv])
     have hsb : 0≤(o : Int):=by omega
     have hsb2 : (o : Int)+(k : Int)≤2000000:=by omega
     have hH:=Lib.hid (And.intro d0 (And.intro d1 d2))
     clear hok hl hin hout harg hat hx hsv hcl hcell d d0 d1 d2 ho hvd hask hgd hci hcz hci3 hcz3 hcby hcv
     cases hlv : x.live
     all_goals
      have hlv':=Lib.hid hlv
      rw [hlv] at hres
      clear hlv
      go_enter Tryz.func60,Tryz.ntmps60
      go_wp2_with fail
      refine hCk.out.mono ?_
      rintro e w1 ⟨rfl,hE1⟩
      rw [hce.out]
      have hF1:=hE0.trans hE1
      have m0 : w1.cell? ⟨w.heap.size,0,none⟩=some (.slice (some ⟨b,off,none⟩) m.al.length cp):=(bM.ext hE1).cell 0
      have m1 : w1.cell? ⟨w.heap.size,1,none⟩=some (.int .i64 m.next):=(bM.ext hE1).cell 1
      have p0 : w1.cell? ⟨w.heap.size+1,0,none⟩=some (.int .i64 pa):=(bP.ext hE1).cell 0
      go_wp2_with fail
      refine (indexFunc_alloc callFunc_cellsfind (cells_find1 pa (w.heap.size+1) w1 p0) (hL.out.ext hF1)).mono ?_
      rintro e w2 ⟨rfl,hE2⟩
      rw [hix.out]
      have hF2:=hF1.trans hE2
      have n0:=hE2.cell m0
      have o1 : w2.cell? ⟨w.heap.size+1,1,none⟩=some (.int .i64 (o : Int)):=((bP.ext hE1).ext hE2).cell 1
      have ol:=((bP.ext hE1).ext hE2).lt
      have e0:=hF2.cell hH.out.1
      have e1:=hF2.cell hH.out.2.1
      rw [hlv'.out] at e1
      have e2:=hF2.cell hH.out.2.2
      clear m0 m1 p0
      go_wp2
      go_ret2
      rw [hres.out.1,hres.out.2]
      exact ⟨rfl,hF2.alloc _⟩
end Go.Proofs.YtnplphcnagooeaaGreatDoor

/- Contracts: Asked of the reference of layer 27. -/
namespace Go.Proofs.YtnplphcnagooeaaGreatDoor
set_option maxRecDepth 100000
open Go.RowKit
end Go.Proofs.YtnplphcnagooeaaGreatDoor

/- Contracts: LoadAll and Load of layer 27, the program's and the reference's. -/
namespace Go.Proofs.YtnplphcnagooeaaGreatDoor
set_option maxRecDepth 100000
open Go.RowKit
theorem loadR_err {m : Mem} {p : Ptr} {n err : Int} (h : (askR m p n).2=err) (he : err≠0) : loadR m p n=([],0,err):=by
 subst h
 rw [loadR,if_neg he]
theorem rangeR_none {m : Mem} {p : Ptr} {n e : Int} (h : askR m p n=(none,e)) : rangeR m p n=[]:=by rw [rangeR,h]
theorem rangeR_dead {m : Mem} {p : Ptr} {n e : Int} {i : Nat} {x : Alloc} (h : askR m p n=(some i,e)) (hx : m.al[i]? = some x) (hl : x.live=false) : rangeR m p n=[]:=by
 have hg : m.al.getD i Alloc.zero=x:=by rw [List.getD_eq_getElem?_getD,hx];rfl
 rw [rangeR,h]
 show (if (m.al.getD i Alloc.zero).live=true then _ else _)=_
 rw [hg,hl]
 rfl
theorem rangeR_live {m : Mem} {p : Ptr} {n e : Int} {i : Nat} {x : Alloc} (h : askR m p n=(some i,e)) (hx : m.al[i]? = some x) (hl : x.live=true) : rangeR m p n=cutOf x p.o.toNat n.toNat:=by
 have hg : m.al.getD i Alloc.zero=x:=by rw [List.getD_eq_getElem?_getD,hx];rfl
 rw [rangeR,h]
 show (if (m.al.getD i Alloc.zero).live=true then cutOf (m.al.getD i Alloc.zero) _ _ else _)=_
 rw [hg,hl]
 rfl
theorem loadR_gone {m : Mem} {p : Ptr} {n : Int} (h : (askR m p n).2=0) (hr : rangeR m p n=[]) : loadR m p n=([],3,0):=by
 rw [loadR,if_pos h,if_pos hr]
theorem loadR_unset {m : Mem} {p : Ptr} {n : Int} (h : (askR m p n).2=0) (hr : rangeR m p n≠[]) (hz : (rangeR m p n).any (· == Cell.zero)=true) : loadR m p n=([],4,0):=by
 rw [loadR,if_pos h,if_neg hr,if_pos hz]
theorem loadR_yes {m : Mem} {p : Ptr} {n : Int} (h : (askR m p n).2=0) (hr : rangeR m p n≠[]) (hz : (rangeR m p n).any (· == Cell.zero)=false) : loadR m p n=(rangeR m p n,0,0):=by
 rw [loadR,if_pos h,if_neg hr,hz]
 rfl
theorem askR_inv {m : Mem} {p : Ptr} {n e : Int} {i : Nat} (h : askR m p n=(some i,e)) :
  e=0∧m.ok=true∧0≤p.a∧p.a < m.next∧1≤n∧n≤2∧atNum m.al p.a=some i ∧ ∃ x,m.al[i]? = some x∧0≤p.o∧p.o+n≤(x.cells.length : Int):=by
 unfold askR at h
 split at h
 ·rename_i hok
  split at h
  ·cases h
  ·rename_i harg
   split at h
   ·cases h
   ·rename_i j hj
    split at h
    ·cases h
    ·rename_i ho
     simp only [Prod.mk.injEq,Option.some.injEq] at h
     obtain ⟨rfl,rfl⟩:=h
     have hlt:=(atNum_lt hj).1
     have hg : m.al.getD j Alloc.zero=m.al[j]:=by rw [List.getD_eq_getElem?_getD,List.getElem?_eq_getElem hlt];rfl
     rw [hg] at ho
     exact ⟨rfl,hok,by omega,by omega,by omega,by omega,hj,m.al[j],List.getElem?_eq_getElem hlt,by omega,by omega⟩
 ·cases h
theorem cutOf_len {x : Alloc} {o n : Nat} (h : o+n≤x.cells.length) : (cutOf x o n).length=n:=by
 rw [cutOf,List.length_take,List.length_drop]
 omega
def RetOC (w : World) (l : List Cell) (why err : Int) (en : Ending) (w' : World) : Prop :=
 ∃ v,en = .returned (.tuple #[v,.int .u8 why,.int .i64 err])∧Own w' w.heap.size 78 5 v l.length (l.flatMap Cell.row)∧Ext w w'
set_option maxHeartbeats 3200000 in
theorem run_eql_cells (x y : Cell) (w : World) : (binOp .eql 78 x.val y.val).run Tryz.prog w = .ok (.bool (decide (x=y))) w:=by
 obtain ⟨k,n,a,o,t⟩:=x
 obtain ⟨k',n',a',o',t'⟩:=y
 unfold Cell.val
 go_simp
 by_cases h1 : k=k' <;> by_cases h2 : n=n' <;> by_cases h3 : a=a' <;> by_cases h4 : o=o' <;> by_cases h5 : t=t' <;> simp [h1,h2,h3,h4,h5]
theorem run_eql_zero (x : Cell) (w : World) : (binOp .eql 78 Cell.zero.val x.val).run Tryz.prog w = .ok (.bool (x == Cell.zero)) w:=by
 have e : (x == Cell.zero)=decide (Cell.zero=x):=by
  rw [Bool.eq_iff_iff,beq_iff_eq,decide_eq_true_iff]
  exact eq_comm
 rw [run_eql_cells,e]
set_option maxHeartbeats 800000 in
theorem index_zero {l : List Cell} {v : Value} {w : World} (hl : Cls w v l) :
  Calls Tryz.prog 107 #[v,Cell.zero.val] w fun e w'=>e = .returned (.int .i64 (ixM (l.findIdx? (· == Cell.zero))))∧Ext w w':=by
 have hE0:=(Ext.refl w).alloc (.cells #[.int .u8 0,.int .i64 0,.int .i64 0,.int .i64 0,.int .i64 0] 78)
 have hL:=Lib.hid (hl.ext hE0)
 obtain ⟨a,cp,rfl,hlc,hcm,-⟩:=hl.form
 unfold maxLen at hcm
 have hB:=Box.new w 78 #[.int .u8 0,.int .i64 0,.int .i64 0,.int .i64 0,.int .i64 0]
 clear hl
 rw [show Cell.zero.val = .agg #[.int .u8 0,.int .i64 0,.int .i64 0,.int .i64 0,.int .i64 0] from rfl]
 go_enter Tryz.func107,Tryz.ntmps107
 go_wp2
 obtain ⟨w1,hw1⟩ : ∃ w1,w.alloc (.cells #[.int .u8 0,.int .i64 0,.int .i64 0,.int .i64 0,.int .i64 0] 78)=w1:=⟨_,rfl⟩
 rw [hw1] at hE0 hL hB ⊢
 clear hw1
 go_loopw [8] (fun i wr => ∃ k : Nat,k≤l.length∧i = .int .i64 k∧Ext w1 wr∧Hid ((l.take k).any (· == Cell.zero)=false)) (fun i _=>l.length - (intOf i).toNat)
 case atStart=>exact ⟨0,Nat.zero_le _,rfl,Ext.refl _,by simp [Hid]⟩
 case round =>
  obtain ⟨k,hk,rfl,hE,hN⟩:=hrel
  have z0 : wr.cell? ⟨w.heap.size,0,none⟩=some (.int .u8 0):=(hB.ext hE).cell 0
  have z1 : wr.cell? ⟨w.heap.size,1,none⟩=some (.int .i64 0):=(hB.ext hE).cell 1
  have z2 : wr.cell? ⟨w.heap.size,2,none⟩=some (.int .i64 0):=(hB.ext hE).cell 2
  have z3 : wr.cell? ⟨w.heap.size,3,none⟩=some (.int .i64 0):=(hB.ext hE).cell 3
  have z4 : wr.cell? ⟨w.heap.size,4,none⟩=some (.int .i64 0):=(hB.ext hE).cell 4
  by_cases hlt : k < l.length
  ·obtain ⟨x,hx⟩ : ∃ x,l[k]? = some x:=⟨l[k],by simp [hlt]⟩
   obtain ⟨b,off,rfl,hbb,c0,c1,c2,c3,c4⟩:=(hL.out.ext hE).cell hx
   have hX:=Lib.hid hx
   clear hx
   have hi0 : (0 : Int)≤(k : Int):=by omega
   have hi1 : (k : Int) < (l.length : Int):=by omega
   have hn:=run_eql_zero x
   unfold Cell.val Cell.zero at hn
   cases hpx : x == Cell.zero
   all_goals
    have hP:=Lib.hid hpx
    rw [show (x == ({ k:=0,n:=0,a:=0,o:=0,t:=0 } : Cell))=_ from hpx] at hn
    clear hpx
    go_wp2
    go_quiet (fail)
    go_wp2
   ·go_roundw
    case rel=>exact ⟨k+1,by omega,by go_num,hE.drewN _,any_take_succ'' hN.out hX.out hP.out⟩
    case measure=>simp [intOf];omega
   ·go_ret
    refine ⟨?_,hE0.trans (hE.drewN _)⟩
    have : l.findIdx? (· == Cell.zero)=some k:=by
     rw [List.findIdx?_eq_some_iff_getElem]
     obtain ⟨hk,rfl⟩:=List.getElem?_eq_some_iff.1 hX.out
     refine ⟨hk,hP.out,fun j hj => ?_⟩
     have h:=hN.out
     simp only [List.any_eq_false] at h
     have:=h l[j] (by rw [List.mem_iff_getElem?];exact ⟨j,by rw [List.getElem?_take,if_pos hj];simp⟩)
     simpa using this
    rw [this];rfl
  ·have hkl : k=l.length:=by omega
   subst hkl
   have hN':=hN.out
   rw [List.take_length] at hN'
   have hg : Hid (l.findIdx? (· == Cell.zero)=none):=Hid.mk (by rw [List.findIdx?_eq_none_iff];simpa [List.any_eq_false] using hN')
   clear hN' z0 z1 z2 z3 z4
   go_wp2
   go_ret
   exact ⟨by rw [hg.out];rfl,hE0.trans hE⟩
theorem ixM_any {l : List Cell} : decide (0≤ixM (l.findIdx? (· == Cell.zero)))=l.any (· == Cell.zero):=by
 cases h : l.findIdx? (· == Cell.zero) with
 | none =>
  have h' : l.any (· == Cell.zero)=false:=by rw [List.findIdx?_eq_none_iff] at h;simpa [List.any_eq_false] using h
  rw [h'];simp [ixM]
 | some i =>
  have h' : l.any (· == Cell.zero)=true:=by
   rw [List.findIdx?_eq_some_iff_getElem] at h
   obtain ⟨hi,hp,_⟩:=h
   rw [List.any_eq_true]
   exact ⟨l[i],List.getElem_mem _,hp⟩
  rw [h'];simp [ixM]
set_option maxHeartbeats 400000 in
theorem contains_zero {l : List Cell} {v : Value} {w : World} (hl : Cls w v l) :
  Calls Tryz.prog 61 #[v,Cell.zero.val] w fun e w'=>e = .returned (.bool (l.any (· == Cell.zero)))∧Ext w w':=by
 have hE0:=(Ext.refl w).alloc (.cells #[.int .u8 0,.int .i64 0,.int .i64 0,.int .i64 0,.int .i64 0] 78)
 have hC:=Lib.hid (index_zero (hl.ext hE0))
 have hA:=Lib.hid (ixM_any (l:=l))
 obtain ⟨a,cp,rfl,-⟩:=hl.form
 unfold Cell.val Cell.zero at *
 clear hl
 go_enter Tryz.func61,Tryz.ntmps61
 go_wp2_with fail
 refine hC.out.mono ?_
 rintro e w' ⟨rfl,hE'⟩
 go_wp2
 go_ret
 exact ⟨by rw [← hA.out];rfl,hE0.trans hE'⟩
theorem findV_read {m : Mem} {vs : List Value} {w : World} (p : Ptr) (n : Int) (hin : All2 (fun s a=>Cls w s a.cells) vs m.al) : Cls w (findV m vs p n) (rangeR m p n):=by
 unfold findV rangeR
 cases h : (askR m p n).1 with
 | none=>exact Cls.nil w
 | some i =>
  obtain ⟨-,-,-,-,h1,h2,-,x,hx,h3,h4⟩:=askR_inv (e:=(askR m p n).2) (by rw [← h])
  obtain ⟨s,hs,hc⟩:=hin.get hx
  have hg : m.al.getD i Alloc.zero=x:=by rw [List.getD_eq_getElem?_getD,hx];rfl
  have hv : vs.getD i (.slice none 0 0)=s:=by rw [List.getD_eq_getElem?_getD,hs];rfl
  show Cls w (if (m.al.getD i Alloc.zero).live=true then cutV (vs.getD i (.slice none 0 0)) p.o.toNat n.toNat else _) (if (m.al.getD i Alloc.zero).live=true then cutOf (m.al.getD i Alloc.zero) p.o.toNat n.toNat else [])
  rw [hg,hv]
  cases x.live
  ·exact Cls.nil w
  ·exact hc.cut _ _ (by omega)
theorem rangeR_small {m : Mem} {p : Ptr} {n : Int} : (rangeR m p n).length≤2:=by
 unfold rangeR
 cases h : (askR m p n).1 with
 | none=>simp
 | some i =>
  obtain ⟨-,-,-,-,h1,h2,-,x,hx,h3,h4⟩:=askR_inv (e:=(askR m p n).2) (by rw [← h])
  show (if (m.al.getD i Alloc.zero).live=true then cutOf (m.al.getD i Alloc.zero) p.o.toNat n.toNat else []).length≤2
  split
  ·rw [cutOf,List.length_take];omega
  ·simp
set_option maxRecDepth 100000 in
set_option maxHeartbeats 1600000 in
theorem cells_LoadAll {m : Mem} {s : Value} {w : World} (p : Ptr) (n : Int) (hl : Als w s m.al) (hn : i64B m.next) :
  Calls Tryz.prog 19 #[.agg #[s,.int .i64 m.next],p.val,.int .i64 n] w (RetOC w (loadR m p n).1 (loadR m p n).2.1 (loadR m p n).2.2):=by
 obtain ⟨vs,hin,hout⟩:=hl
 have hE0:=((Ext.refl w).alloc (.cells #[s,.int .i64 m.next] 24)).alloc (.cells #[.int .i64 p.a,.int .i64 p.o,.int .i64 p.t] 30)
 have hin0 : All2 (fun u a=>Cls ((w.alloc (.cells #[s,.int .i64 m.next] 24)).alloc (.cells #[.int .i64 p.a,.int .i64 p.o,.int .i64 p.t] 30)) u a.cells) vs m.al:=hin.mono fun _ _ h=>Cls.ext h hE0
 have hC:=Lib.hid (cells_find p n hin0 (hout.ext hE0) hn)
 have hR:=Lib.hid (findV_read p n hin0)
 obtain ⟨a,cp,rfl,-⟩:=hout.slice_form
 obtain ⟨fv,hfv⟩ : ∃ fv,findV m vs p n=fv:=⟨_,rfl⟩
 rw [hfv] at hC hR
 obtain ⟨err,herr⟩ : ∃ err,(askR m p n).2=err:=⟨_,rfl⟩
 rw [herr] at hC
 have hsm:=Lib.hid (rangeR_small (m:=m) (p:=p) (n:=n))
 clear hfv hin hin0 hout
 by_cases he : err=0
 ·subst he
  by_cases hr : rangeR m p n=[]
  ·have hres:=Lib.hid (loadR_gone herr hr)
   have hR0:=hR.out
   rw [hr] at hR0
   obtain ⟨ra,rc,rfl,-⟩:=hR0.form
   clear hR hR0 hr herr
   unfold Ptr.val at *
   go_enter Tryz.func19,Tryz.ntmps19
   go_wp2_with fail
   refine hC.out.mono ?_
   rintro e w1 ⟨rfl,hE1⟩
   dsimp only [List.length_nil]
   go_wp2
   go_ret3
   rw [hres.out]
   exact ⟨_,rfl,Own.nil _ _ _ _,hE0.trans hE1⟩
  ·have hlen : 0 < (rangeR m p n).length:=List.length_pos_iff.2 hr
   have hld : ((rangeR m p n).length == 0)=false:=by simp;exact hr
   obtain ⟨ra,rc,hre,-⟩:=hR.out.form
   have hld' : (((rangeR m p n).length : Int) == 0)=false:=by simp;exact hr
   subst hre
   cases hz : (rangeR m p n).any (· == Cell.zero)
   ·have hres:=Lib.hid (loadR_yes herr hr hz)
    have hz':=Lib.hid hz
    obtain ⟨L,hL⟩ : ∃ L,rangeR m p n=L:=⟨_,rfl⟩
    rw [hL] at hR hz' hsm hres hC hlen hld hld'
    clear hr herr hz hL
    unfold Ptr.val at *
    go_enter Tryz.func19,Tryz.ntmps19
    go_wp2_with fail
    refine hC.out.mono ?_
    rintro e w1 ⟨rfl,hE1⟩
    go_wp2_with fail
    refine (contains_zero (hR.out.ext hE1)).mono ?_
    rintro e w2 ⟨rfl,hE2⟩
    rw [hz'.out]
    go_wp2_with fail
    refine (clone_Cells ((hR.out.ext hE1).ext hE2) (Cell.one L) (Nat.le_trans hsm.out (by omega))).mono ?_
    rintro e w3 ⟨v,rfl,hO,hE3⟩
    have hF:=(hE0.trans hE1).trans hE2
    obtain ⟨va,vc,rfl,-⟩:=hO.sl.slice_form
    go_wp2
    go_ret3
    rw [hres.out]
    exact ⟨_,rfl,hO.mono hF.size,hF.trans hE3⟩
   ·have hres:=Lib.hid (loadR_unset herr hr hz)
    have hz':=Lib.hid hz
    obtain ⟨L,hL⟩ : ∃ L,rangeR m p n=L:=⟨_,rfl⟩
    rw [hL] at hR hz' hsm hC hlen hld hld'
    clear hr herr hz hL
    unfold Ptr.val at *
    go_enter Tryz.func19,Tryz.ntmps19
    go_wp2_with fail
    refine hC.out.mono ?_
    rintro e w1 ⟨rfl,hE1⟩
    go_wp2_with fail
    refine (contains_zero (hR.out.ext hE1)).mono ?_
    rintro e w2 ⟨rfl,hE2⟩
    rw [hz'.out]
    go_wp2
    go_ret3
    rw [hres.out]
    exact ⟨_,rfl,Own.nil _ _ _ _,(hE0.trans hE1).trans hE2⟩
 ·have hres:=Lib.hid (loadR_err herr he)
  have q : (err != 0)=true:=by simp [he]
  have q' : (err == 0)=false:=by simp [he]
  obtain ⟨ra,rc,hre,-⟩:=hR.out.form
  subst hre
  clear hR he herr
  unfold Ptr.val at *
  go_enter Tryz.func19,Tryz.ntmps19
  go_wp2_with fail
  refine hC.out.mono ?_
  rintro e w1 ⟨rfl,hE1⟩
  go_wp2
  go_ret3
  rw [hres.out]
  exact ⟨_,rfl,Own.nil _ _ _ _,hE0.trans hE1⟩
end Go.Proofs.YtnplphcnagooeaaGreatDoor

/- The example of layer 26. -/
namespace Go.Proofs.YtnplphcnagooeaaGreatDoor
set_option maxRecDepth 100000
open Go.RowKit
end Go.Proofs.YtnplphcnagooeaaGreatDoor

/- Contract: others of the statements of layer 26; what Add and End leave aas it is. -/
namespace Go.Proofs.YtnplphcnagooeaaGreatDoor
set_option maxRecDepth 100000
open Go.RowKit
end Go.Proofs.YtnplphcnagooeaaGreatDoor

/- Plain laws of layers 26 and 27: what a store leaves, and what is loaded afterwards; no program is walked. -/
namespace Go.Proofs.YtnplphcnagooeaaGreatDoor
set_option maxRecDepth 100000
open Go.RowKit
theorem put_len {x : Alloc} {o : Nat} {l : List Cell} (h : o+l.length≤x.cells.length) : (putCells x o l).cells.length=x.cells.length:=by
 simp only [putCells,List.length_append,List.length_take,List.length_drop]
 omega
theorem storeR_err {m : Mem} {p : Ptr} {l : List Cell} {err : Int} (h : (askR m p l.length).2=err) (he : err≠0) : storeR m p l=(Mem.zero,0,err):=by
 subst h
 rw [storeR,if_neg he]
theorem storeR_bad {m : Mem} {p : Ptr} {l : List Cell} (h : (askR m p l.length).2=0) (hl : l.all Cell.ok=false) : storeR m p l=(Mem.zero,0,8):=by
 rw [storeR,if_pos h,hl]
 rfl
theorem storeR_none {m : Mem} {p : Ptr} {l : List Cell} (h : askR m p l.length=(none,0)) (hl : l.all Cell.ok=true) : storeR m p l=(Mem.zero,3,0):=by
 rw [storeR,h,if_pos rfl,if_pos hl]
theorem storeR_dead {m : Mem} {p : Ptr} {l : List Cell} {i : Nat} {x : Alloc} (h : askR m p l.length=(some i,0)) (hl : l.all Cell.ok=true) (hx : m.al[i]? = some x) (hv : x.live=false) : storeR m p l=(Mem.zero,3,0):=by
 have hg : m.al.getD i Alloc.zero=x:=by rw [List.getD_eq_getElem?_getD,hx];rfl
 rw [storeR,h,if_pos rfl,if_pos hl]
 show (if (m.al.getD i Alloc.zero).live=true then _ else _)=_
 rw [hg,hv]
 rfl
theorem storeR_yes {m : Mem} {p : Ptr} {l : List Cell} {i : Nat} {x : Alloc} (h : askR m p l.length=(some i,0)) (hl : l.all Cell.ok=true) (hx : m.al[i]? = some x) (hv : x.live=true) : storeR m p l=(⟨m.al.set i (putCells x p.o.toNat l),m.next⟩,0,0):=by
 have hg : m.al.getD i Alloc.zero=x:=by rw [List.getD_eq_getElem?_getD,hx];rfl
 rw [storeR,h,if_pos rfl,if_pos hl]
 show (if (m.al.getD i Alloc.zero).live=true then ((⟨storeAt m.al i p.o.toNat l,m.next⟩,0,0) : Mem × Int × Int) else _)=_
 rw [hg,hv,if_pos rfl]
 unfold storeAt
 rw [hx]
theorem storeR_cases (m : Mem) (p : Ptr) (l : List Cell) : (∃ e,storeR m p l=(Mem.zero,0,e)∧e≠0)∨(storeR m p l=(Mem.zero,3,0)∧l.all Cell.ok=true∧(askR m p l.length).2=0∧rangeR m p l.length=[]) ∨
  ∃ i x,askR m p l.length=(some i,0)∧m.al[i]? = some x∧x.live=true∧l.all Cell.ok=true∧storeR m p l=(⟨m.al.set i (putCells x p.o.toNat l),m.next⟩,0,0):=by
 obtain ⟨ix,err,hask⟩ : ∃ ix err,askR m p l.length=(ix,err):=⟨_,_,rfl⟩
 by_cases he : err=0
 ·subst he
  cases hl : l.all Cell.ok
  ·exact .inl ⟨8,storeR_bad (by rw [hask]) hl,by decide⟩
  ·cases ix with
   | none=>exact .inr (.inl ⟨storeR_none hask hl,rfl,by rw [hask],rangeR_none hask⟩)
   | some i =>
    obtain ⟨-,-,-,-,-,-,-,x,hx,-,-⟩:=askR_inv hask
    cases hv : x.live
    ·exact .inr (.inl ⟨storeR_dead hask hl hx hv,rfl,by rw [hask],rangeR_dead hask hx hv⟩)
    ·exact .inr (.inr ⟨i,x,hask,hx,hv,rfl,storeR_yes hask hl hx hv⟩)
 ·exact .inl ⟨err,storeR_err (by rw [hask]) he,he⟩
end Go.Proofs.YtnplphcnagooeaaGreatDoor

/- What the functions of layer 35 on a monitor's memory compute (Load, Store, Retag), and plain laws of it; no program in sight. -/
namespace Go.Proofs.YtnplphcnagooeaaGreatDoor
set_option maxRecDepth 100000
open Go.RowKit
def loadM (m : Mon) (p : Ptr) (n : Int) : Mon × List Cell × Int × Int :=
 if okMon m then
  if (loadR m.mem p n).2.2=0∧(loadR m.mem p n).2.1≠3 then
   match atNum m.mem.al p.a with
   | none=>(Mon.zero,[],3,0)
   | some i =>
    if (use33 (m.stks.getD i Stk.zero) p.o n p.t false m.run).2.1=0 then
     if (loadR m.mem p n).2.1=0 then (⟨m.mem,m.stks.set i (use33 (m.stks.getD i Stk.zero) p.o n p.t false m.run).1,m.run,m.tag,m.call⟩,(loadR m.mem p n).1,0,0)
     else (Mon.zero,[],(loadR m.mem p n).2.1,0)
    else (Mon.zero,[],(use33 (m.stks.getD i Stk.zero) p.o n p.t false m.run).2.1,0)
  else (Mon.zero,[],(loadR m.mem p n).2.1,(loadR m.mem p n).2.2)
 else (Mon.zero,[],0,8)
def storeM (m : Mon) (p : Ptr) (l : List Cell) : Mon × Int × Int :=
 if okMon m then
  if (storeR m.mem p l).2.2=0∧(storeR m.mem p l).2.1=0 then
   match atNum m.mem.al p.a with
   | none=>(Mon.zero,3,0)
   | some i =>
    if (use33 (m.stks.getD i Stk.zero) p.o l.length p.t true m.run).2.1=0 then (⟨(storeR m.mem p l).1,m.stks.set i (use33 (m.stks.getD i Stk.zero) p.o l.length p.t true m.run).1,m.run,m.tag,m.call⟩,0,0)
    else (Mon.zero,(use33 (m.stks.getD i Stk.zero) p.o l.length p.t true m.run).2.1,0)
  else (Mon.zero,(storeR m.mem p l).2.1,(storeR m.mem p l).2.2)
 else (Mon.zero,0,8)
def retagM (m : Mon) (p : Ptr) (n kind call : Int) : Mon × Ptr × Int × Int :=
 if okMon m then
  if kindOk kind=true∧(call=0∨hasR m.run call=true) then
   if (loadR m.mem p n).2.2=0 then
    if m.tag=1000000 then (Mon.zero,Ptr.zero,0,18)
    else if (loadR m.mem p n).2.1=3 then (Mon.zero,Ptr.zero,3,0)
    else match atNum m.mem.al p.a with
     | none=>(Mon.zero,Ptr.zero,3,0)
     | some i =>
      if (tag33 (m.stks.getD i Stk.zero) p.o n kind p.t ⟨0,m.tag,call⟩ m.run).2.2=0∧(tag33 (m.stks.getD i Stk.zero) p.o n kind p.t ⟨0,m.tag,call⟩ m.run).2.1=0 then
       (⟨m.mem,m.stks.set i (tag33 (m.stks.getD i Stk.zero) p.o n kind p.t ⟨0,m.tag,call⟩ m.run).1,m.run,m.tag+1,m.call⟩,⟨p.a,p.o,m.tag⟩,0,0)
      else (Mon.zero,Ptr.zero,(tag33 (m.stks.getD i Stk.zero) p.o n kind p.t ⟨0,m.tag,call⟩ m.run).2.1,(tag33 (m.stks.getD i Stk.zero) p.o n kind p.t ⟨0,m.tag,call⟩ m.run).2.2)
   else (Mon.zero,Ptr.zero,0,(loadR m.mem p n).2.2)
  else (Mon.zero,Ptr.zero,0,2)
 else (Mon.zero,Ptr.zero,0,8)
def whereM (m : Mem) (p : Ptr) (n : Int) : Int × Int × Int :=
 if (askR m p n).2=0 then match (askR m p n).1 with
  | none=>(-1,3,0)
  | some i=>if (m.al.getD i Alloc.zero).live then ((i : Int),0,0) else (-1,3,0)
 else (-1,0,(askR m p n).2)
theorem whereM_some {m : Mem} {p : Ptr} {n : Int} {i : Nat} {a : Alloc} (h : askR m p n=(some i,0)) (ha : m.al[i]? = some a) : whereM m p n=if a.live then ((i : Int),0,0) else (-1,3,0):=by
 have hg : m.al.getD i Alloc.zero=a:=by rw [List.getD_eq_getElem?_getD,ha];rfl
 rw [whereM,h]
 dsimp only
 rw [if_pos rfl,hg]
theorem whereM_none {m : Mem} {p : Ptr} {n : Int} (h : askR m p n=(none,0)) : whereM m p n=(-1,3,0):=by rw [whereM,h];rfl
theorem whereM_err {m : Mem} {p : Ptr} {n : Int} (h : (askR m p n).2≠0) : whereM m p n=(-1,0,(askR m p n).2):=by rw [whereM,if_neg h]
theorem load_ways {m : Mem} {p : Ptr} {n un er : Int} {l : List Cell} (h : loadR m p n=(l,un,er)) : (er≠0∧un=0∧whereM m p n=(-1,0,er))∨(er=0∧un=3∧whereM m p n=(-1,3,0)) ∨
  (er=0∧(un=0∨un=4) ∧ ∃ i a,atNum m.al p.a=some i∧m.al[i]? = some a∧a.live=true∧whereM m p n=((i : Int),0,0)∧askR m p n=(some i,0)):=by
 obtain ⟨ix,e,hask⟩ : ∃ ix e,askR m p n=(ix,e):=⟨_,_,rfl⟩
 by_cases he : e=0
 ·subst he
  have h2 : (askR m p n).2=0:=by rw [hask]
  cases ix with
  | none =>
   rw [loadR_gone h2 (rangeR_none hask)] at h
   cases h
   exact .inr (.inl ⟨rfl,rfl,whereM_none hask⟩)
  | some i =>
   obtain ⟨-,-,-,-,hn1,-,hat,x,hx,ho0,ho⟩:=askR_inv hask
   cases hv : x.live
   ·rw [loadR_gone h2 (rangeR_dead hask hx hv)] at h
    cases h
    exact .inr (.inl ⟨rfl,rfl,by rw [whereM_some hask hx,hv];rfl⟩)
   ·have hne : rangeR m p n≠[]:=by
     rw [rangeR_live hask hx hv]
     intro e
     have:=cutOf_len (x:=x) (o:=p.o.toNat) (n:=n.toNat) (by omega)
     rw [e] at this
     simp at this
     omega
    refine .inr (.inr ?_)
    have hw : whereM m p n=((i : Int),0,0):=by rw [whereM_some hask hx,hv];rfl
    by_cases hz : (rangeR m p n).any (· == Cell.zero)=true
    ·rw [loadR_unset h2 hne hz] at h
     cases h
     exact ⟨rfl,.inr rfl,i,x,hat,hx,hv,hw,hask⟩
    ·rw [loadR_yes h2 hne (Bool.eq_false_iff.2 hz)] at h
     cases h
     exact ⟨rfl,.inl rfl,i,x,hat,hx,hv,hw,hask⟩
 ·have h2 : (askR m p n).2=e:=by rw [hask]
  rw [loadR_err h2 he] at h
  cases h
  refine .inl ⟨he,rfl,?_⟩
  rw [whereM_err (by rw [h2];exact he),h2]
theorem store_ways {m x : Mem} {p : Ptr} {l : List Cell} (h : storeR m p l=(x,0,0)) : ∃ i a,atNum m.al p.a=some i∧m.al[i]? = some a∧a.live=true∧whereM m p l.length=((i : Int),0,0)∧askR m p l.length=(some i,0)∧l.all Cell.ok=true∧x=⟨m.al.set i (putCells a p.o.toNat l),m.next⟩:=by
 rcases storeR_cases m p l with ⟨e,h1,h2⟩ | ⟨h1,-⟩ | ⟨i,a,h1,h2,h3,h4,h5⟩
 ·rw [h1] at h;simp only [Prod.mk.injEq] at h;exact absurd h.2.2 h2
 ·rw [h1] at h;simp at h
 ·rw [h5] at h
  simp only [Prod.mk.injEq,and_true] at h
  exact ⟨i,a,(askR_inv h1).2.2.2.2.2.2.1,h2,h3,by rw [whereM_some h1 h2,h3];rfl,h1,h4,h.symm⟩
theorem loadM_bad {m : Mon} {p : Ptr} {n : Int} (h : okMon m=false) : loadM m p n=(Mon.zero,[],0,8):=by simp [loadM,h]
theorem loadM_err {m : Mon} {p : Ptr} {n un er : Int} {l : List Cell} (h : okMon m=true) (hl : loadR m.mem p n=(l,un,er)) (he : er≠0∨un=3) : loadM m p n=(Mon.zero,[],un,er):=by
 rw [loadM,if_pos h,hl]
 dsimp only
 rw [if_neg (by omega)]
theorem loadM_live {m : Mon} {p : Ptr} {n un why e4 : Int} {l : List Cell} {i : Nat} {st x : Stk} (h : okMon m=true) (hl : loadR m.mem p n=(l,un,0)) (hu : un≠3) (hat : atNum m.mem.al p.a=some i) (hst : m.stks[i]? = some st) (hd : use33 st p.o n p.t false m.run=(x,why,e4)) :
  loadM m p n=if why=0 then if un=0 then (⟨m.mem,m.stks.set i x,m.run,m.tag,m.call⟩,l,0,0) else (Mon.zero,[],un,0) else (Mon.zero,[],why,0):=by
 have hk : m.stks.getD i Stk.zero=st:=by rw [List.getD_eq_getElem?_getD,hst];rfl
 rw [loadM,if_pos h,hl]
 dsimp only
 rw [if_pos ⟨rfl,hu⟩,hat]
 dsimp only
 rw [hk,hd]
theorem storeM_bad {m : Mon} {p : Ptr} {l : List Cell} (h : okMon m=false) : storeM m p l=(Mon.zero,0,8):=by simp [storeM,h]
theorem storeM_err {m : Mon} {p : Ptr} {un er : Int} {l : List Cell} {x : Mem} (h : okMon m=true) (hl : storeR m.mem p l=(x,un,er)) (he : er≠0∨un≠0) : storeM m p l=(Mon.zero,un,er):=by
 rw [storeM,if_pos h,hl]
 dsimp only
 rw [if_neg (by omega)]
theorem storeM_live {m : Mon} {p : Ptr} {why e4 : Int} {l : List Cell} {y : Mem} {i : Nat} {st x : Stk} (h : okMon m=true) (hl : storeR m.mem p l=(y,0,0)) (hat : atNum m.mem.al p.a=some i) (hst : m.stks[i]? = some st) (hd : use33 st p.o l.length p.t true m.run=(x,why,e4)) :
  storeM m p l=if why=0 then (⟨y,m.stks.set i x,m.run,m.tag,m.call⟩,0,0) else (Mon.zero,why,0):=by
 have hk : m.stks.getD i Stk.zero=st:=by rw [List.getD_eq_getElem?_getD,hst];rfl
 rw [storeM,if_pos h,hl]
 dsimp only
 rw [if_pos ⟨rfl,rfl⟩,hat]
 dsimp only
 rw [hk,hd]
theorem retagM_bad {m : Mon} {p : Ptr} {n kind call : Int} (h : okMon m=false) : retagM m p n kind call=(Mon.zero,Ptr.zero,0,8):=by simp [retagM,h]
theorem retagM_arg {m : Mon} {p : Ptr} {n kind call : Int} (h : okMon m=true) (hk : ¬ (kindOk kind=true∧(call=0∨hasR m.run call=true))) : retagM m p n kind call=(Mon.zero,Ptr.zero,0,2):=by rw [retagM,if_pos h,if_neg hk]
theorem retagM_err {m : Mon} {p : Ptr} {n kind call un er : Int} {l : List Cell} (h : okMon m=true) (hk : kindOk kind=true∧(call=0∨hasR m.run call=true)) (hl : loadR m.mem p n=(l,un,er)) (he : er≠0) : retagM m p n kind call=(Mon.zero,Ptr.zero,0,er):=by
 rw [retagM,if_pos h,if_pos hk,hl]
 dsimp only
 rw [if_neg he]
theorem retagM_full {m : Mon} {p : Ptr} {n kind call un : Int} {l : List Cell} (h : okMon m=true) (hk : kindOk kind=true∧(call=0∨hasR m.run call=true)) (hl : loadR m.mem p n=(l,un,0)) (ht : m.tag=1000000) : retagM m p n kind call=(Mon.zero,Ptr.zero,0,18):=by
 rw [retagM,if_pos h,if_pos hk,hl]
 dsimp only
 rw [if_pos rfl,if_pos ht]
theorem retagM_gone {m : Mon} {p : Ptr} {n kind call : Int} {l : List Cell} (h : okMon m=true) (hk : kindOk kind=true∧(call=0∨hasR m.run call=true)) (hl : loadR m.mem p n=(l,3,0)) (ht : m.tag≠1000000) : retagM m p n kind call=(Mon.zero,Ptr.zero,3,0):=by
 rw [retagM,if_pos h,if_pos hk,hl]
 dsimp only
 rw [if_pos rfl,if_neg ht,if_pos rfl]
theorem retagM_live {m : Mon} {p : Ptr} {n kind call un why e4 : Int} {l : List Cell} {i : Nat} {st x : Stk} (h : okMon m=true) (hk : kindOk kind=true∧(call=0∨hasR m.run call=true)) (hl : loadR m.mem p n=(l,un,0)) (ht : m.tag≠1000000) (hu : un≠3) (hat : atNum m.mem.al p.a=some i) (hst : m.stks[i]? = some st)
  (hd : tag33 st p.o n kind p.t ⟨0,m.tag,call⟩ m.run=(x,why,e4)) :
  retagM m p n kind call=if e4=0∧why=0 then (⟨m.mem,m.stks.set i x,m.run,m.tag+1,m.call⟩,⟨p.a,p.o,m.tag⟩,0,0) else (Mon.zero,Ptr.zero,why,e4):=by
 have hs : m.stks.getD i Stk.zero=st:=by rw [List.getD_eq_getElem?_getD,hst];rfl
 rw [retagM,if_pos h,if_pos hk,hl]
 dsimp only
 rw [if_pos rfl,if_neg ht,if_neg hu,hat]
 dsimp only
 rw [hs,hd]
theorem trows_set2 {vs : List Value} {l : List Stk} {i : Nat} {s' : Value} {y : Stk} (hv : vs.length=l.length) (hi : i < l.length) : ((trows krow vs l).set (i * 2) (.int .i64 y.num)).set (i * 2+1) s'=trows krow (vs.set i s') (l.set i y):=by
 unfold trows
 induction l generalizing vs i with
 | nil=>simp at hi
 | cons a l ih =>
  cases vs with
  | nil=>simp at hv
  | cons v vs =>
   cases i with
   | zero=>simp [krow]
   | succ i =>
    have e : (i+1) * 2=i * 2+1+1:=by omega
    have h:=ih (vs:=vs) (i:=i) (by simpa using hv) (by simpa using hi)
    simp only [List.set_cons_succ,List.zip_cons_cons,List.flatMap_cons,krow,List.cons_append,List.nil_append,e] at h ⊢
    rw [h]
theorem OwnK.setS {S T : Nat→Prop} {wT w' : World} {N g cap : Nat} {s' : Value} {vs : List Value} {l : List Stk} {i : Nat} {y : Stk} (h : OwnK wT N (.slice (some ⟨g,0,none⟩) l.length cap) vs l) (hi : i < l.length) (hX : ExtBut T wT w') (hT : ∀ b,N≤b→b≠g→b < wT.heap.size → ¬ T b∧S b) (hg : S g)
  (hO : Own w' N 68 2 (.slice (some ⟨g,0,none⟩) l.length cap) l.length (((trows krow vs l).set (i * 2) (.int .i64 y.num)).set (i * 2+1) s')) (hR : Fq S w' (fun w=>Sts w s' y.cells)) :
  Fq S w' (fun w=>Kts w (.slice (some ⟨g,0,none⟩) l.length cap) (l.set i y)):=by
 rw [trows_set2 h.len hi] at hO
 intro w'' hw
 refine ⟨vs.set i s',All2.iff.2 ⟨by simp [h.len],fun j u z hu hz => ?_⟩,?_⟩
 ·by_cases e : j=i
  ·subst e
   rw [List.getElem?_set_self (by rw [h.len];exact hi)] at hu
   rw [List.getElem?_set_self hi] at hz
   cases hu;cases hz
   exact hR w'' hw
  ·rw [List.getElem?_set_ne (fun e'=>e e'.symm)] at hu hz
   exact ((h.inner j u z hu hz).to (S':=S) hX (fun b h1 hl=>(hT b h1.1 (fun e=>h1.2 (by rw [e];rfl)) hl).1) (fun b h1 hl=>(hT b h1.1 (fun e=>h1.2 (by rw [e];rfl)) hl).2)) w'' hw
 ·rw [List.length_set]
  exact hO.fs w'' fun b e hl=>hw b (by have e' : some g=some b:=e;cases e';exact hg) hl
end Go.Proofs.YtnplphcnagooeaaGreatDoor
