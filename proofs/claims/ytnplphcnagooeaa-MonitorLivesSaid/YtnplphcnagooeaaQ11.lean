/- Several texts in one: CelWA, CelWB, DeaC. -/
import Derived.Test.YtnplphcnagooeaaQ10
import Derived.Test.YtnplphcnagooeaaQ06
/- clear: a slice that the call owns. -/
namespace Go.Proofs.Ytnplphcnagooeaa
set_option maxRecDepth 100000
open Go.RowKit
theorem run_clear_own {P : Program} {w : World} {B : Nat} {t ty e : TypeId} {i : TypeInfo} {z : Value} {k : Nat} {v : Value} {n : Nat} {xs : List Value}
  (ht : P.underlying t=some (.slice e)) (hi : P.info? e=some i) (hz : i.zero=some z) (hzk : z.cells.size=k) (h1 : ∀ u ∈ (Builtin.zeroCells z.cells n).toList,u.oneCell'=true) (hown : Own w B e k v n xs) :
  ∃ w',(Builtin.clear_ #[t] ty #[v]).run P w = .ok (.tuple #[]) w'∧Own w' B e k v n (Builtin.zeroCells z.cells n).toList∧ExtBut (fun b=>v.ownBlock=some b) w w':=by
 have hlen : (Builtin.zeroCells z.cells n).toList.length=n * k:=by rw [Array.length_toList,size_zeroCells,hzk]
 by_cases hn : n=0
 ·subst hn
  have hnil : (Builtin.zeroCells z.cells 0).toList=[]:=List.eq_nil_of_length_eq_zero (by rw [hlen];simp)
  have hxs : xs=[]:=List.eq_nil_of_length_eq_zero (by simpa using hown.1)
  subst hxs
  rw [hnil]
  refine ⟨w,?_,hown,ExtBut.refl _ _⟩
  obtain ⟨a,cap,rfl,-⟩:=hown.sl.slice_form
  cases a <;> simp [Builtin.clear_,run_underlying ht]
 ·rcases hown.2 with ⟨_,h0⟩ | ⟨g,cap,cur,rfl,hbg,hg,hnc,hcm,hcs,htake⟩
  ·exact absurd h0 hn
  ·have hfit : n * k≤cur.size:=by rw [hcs];exact Nat.mul_le_mul_right _ hnc
   have hst:=run_storeCells_at P g 0 e (Builtin.zeroCells z.cells n).toList 0 cur w hg (by simpa [hlen] using hfit) h1
   simp only [Nat.add_zero,Nat.zero_add] at hst
   obtain ⟨n',rfl⟩ : ∃ n',n=n'+1:=⟨n - 1,by omega⟩
   refine ⟨w.setRow g ((Builtin.zeroCells z.cells (n'+1)).toList ++ cur.toList.drop ((n'+1) * k)).toArray,?_,⟨hlen,.inr ⟨g,cap,_,rfl,hbg,setRow_heap w g cur _ e _ hg,hnc,hcm,?_,?_⟩⟩,⟨rfl,rfl,rfl,by simp,fun b hb hne=>setRow_other w g b _ (fun e=>hne (by rw [e];rfl))⟩⟩
   ·have hst':=hst
    rw [hlen] at hst'
    simp [Builtin.clear_,run_underlying ht,zeroValue,typeInfo,hi,hz,hst']
   ·simp only [List.size_toArray,List.length_append,List.length_drop,Array.length_toList]
    rw [← Array.length_toList,hlen]
    omega
   ·rw [← hlen]
    exact List.take_left
theorem Als.of_put {w w5 : World} {B B' : Nat} {v s' : Value} {vs : List Value} {l : List Alloc} {i : Nat} {y : Alloc} {S : Nat→Prop} (h : OM w B v vs l) (hil : i < l.length)
  (hO : Own w5 B' 78 3 v l.length (trows arow (vs.set i s') (l.set i y))) (hX : ExtBut S w w5) (hS : ∀ (j : Nat) (s1 : Value),j≠i→vs[j]? = some s1 → ∀ g,s1.ownBlock=some g → ¬ S g) (hc : Cls w5 s' y.cells) : Als w5 v (l.set i y):=by
 have hl:=(All2.iff.1 h.inner).1
 refine ⟨vs.set i s',All2.iff.2 ⟨by simpa using hl,fun j a b ha hb => ?_⟩,by rw [List.length_set];exact hO.sl⟩
 by_cases e : i=j
 ·subst e
  rw [List.getElem?_set_self (by omega)] at ha hb
  cases ha
  cases hb
  exact hc
 ·rw [List.getElem?_set_ne e] at ha hb
  exact ExtBut.sl (OwnC.read ((All2.iff.1 h.inner).2 j a b ha hb)) hX (hS j a (fun e'=>e e'.symm) ha)
theorem OM.apart' {w : World} {B : Nat} {v s : Value} {vs : List Value} {l : List Alloc} (h : OM w B v vs l) {i : Nat} (hi : vs[i]? = some s) {b : Nat} (hb : s.ownBlock=some b) :
  ∀ (j : Nat) (s1 : Value),j≠i→vs[j]? = some s1 → ∀ g,s1.ownBlock=some g→g≠b:=fun j s1 hne hj g hg e=>h.apart j i s1 s hne hj hi g hg (by rw [hb,e])
theorem Cell.infoZ : ∃ i z,Try.prog.info? 111=some i∧i.zero=some z∧z.cells=#[.int .u8 0,.int .i64 0,.int .i64 0,.int .i64 0,.int .i64 0]:=by
 have h : (Try.prog.info? 111).map (fun i=>i.zero.map (fun z=>z.cells))=some (some #[.int .u8 0,.int .i64 0,.int .i64 0,.int .i64 0,.int .i64 0]):=by kernel_rfl
 cases hi : Try.prog.info? 111 with
 | none=>rw [hi] at h;simp at h
 | some i =>
  rw [hi] at h
  cases hz : i.zero with
  | none=>simp [hz] at h
  | some z=>exact ⟨i,z,rfl,hz,by simpa [hz] using h⟩
theorem zcells_zero (n : Nat) : Builtin.zeroCells #[.int .u8 0,.int .i64 0,.int .i64 0,.int .i64 0,.int .i64 0] n=zcells n:=zcells_made n
theorem zcells_one (n : Nat) : ∀ u ∈ (zcells n).toList,u.oneCell'=true:=Cell.one _
end Go.Proofs.Ytnplphcnagooeaa

/- Contracts: End of the program and of the reference. -/
namespace Go.Proofs.Ytnplphcnagooeaa
set_option maxRecDepth 100000
open Go.RowKit
set_option maxRecDepth 100000 in
set_option maxHeartbeats 3200000 in
theorem allocs_End {m : Mem} {s : Value} {w : World} (n : Int) (hl : Als w s m.al) (hn : i64B m.next) :
  Calls Try.prog 41 #[.agg #[s,.int .i64 m.next],.int .i64 n] w (RetME w (endR m n).1 (endR m n).2):=by
 have hE0:=((Ext.refl w).alloc (.cells #[s,.int .i64 m.next] 24)).alloc (.cells #[.slice none 0 0,.int .i64 0] 24)
 obtain ⟨a,cp,rfl,hlc,hcm,-⟩:=hl.form
 unfold maxLen at hcm
 have bM:=(Box.new w 24 #[.slice a m.al.length cp,.int .i64 m.next]).ext ((Ext.refl _).alloc (.cells #[.slice none 0 0,.int .i64 0] 24))
 have bR:=Box.new (w.alloc (.cells #[.slice a m.al.length cp,.int .i64 m.next] 24)) 24 #[.slice none 0 0,.int .i64 0]
 rw [World.size_alloc] at bR
 have hCk:=Lib.hid (allocs_Check (hl.ext hE0) hn)
 have hL:=Lib.hid hl
 cases hok : m.ok
 ·have hce : Hid (memErr m.al m.next=8):=Hid.mk (memErr_bad hok)
  have hres:=Lib.hid (endR_bad (n:=n) hok)
  clear hok hl
  go_enter Try.func41,Try.ntmps41
  go_wp2_with fail
  refine hCk.out.mono ?_
  rintro e w1 ⟨rfl,hE1⟩
  rw [hce.out]
  have bR1:=bR.ext hE1
  have r0 : w1.cell? ⟨w.heap.size+1,0,none⟩=some (.slice none 0 0):=bR1.cell 0
  have r1 : w1.cell? ⟨w.heap.size+1,1,none⟩=some (.int .i64 0):=bR1.cell 1
  have rf0:=bR1.frozen 0
  have rf1:=bR1.frozen 1
  have hF1:=hE0.trans hE1
  clear bM bR bR1
  go_wp2
  rw [hres.out]
  refine bodyPost_ret (v := .tuple #[.agg #[.slice none 0 0,.int .i64 0],.int .i64 8]) (by simp [results,Try.f41,go_sem,r0,r1]) rfl ⟨_,rfl,FrM.zero _ _,(hF1.setCell (by simp) _).setCell (by simp) _⟩
 ·have hce : Hid (memErr m.al m.next=0):=Hid.mk (memErr_ok hok)
  have hsm:=small_of_ok hok
  cases hat : atNum m.al n with
  | none =>
   have hix:=Lib.hid (idxM_none hat)
   have hres:=Lib.hid (endR_none hok hat)
   clear hok hl hat
   go_enter Try.func41,Try.ntmps41
   go_wp2_with fail
   refine hCk.out.mono ?_
   rintro e w1 ⟨rfl,hE1⟩
   rw [hce.out]
   have hF1:=hE0.trans hE1
   have bM1:=bM.ext hE1
   have m0 : w1.cell? ⟨w.heap.size,0,none⟩=some (.slice a m.al.length cp):=bM1.cell 0
   have m1 : w1.cell? ⟨w.heap.size,1,none⟩=some (.int .i64 m.next):=bM1.cell 1
   go_wp2_with fail
   refine (allocs_find n (hL.out.ext hF1)).mono ?_
   rintro e w2 ⟨rfl,hE2⟩
   rw [hix.out]
   have hF2:=hF1.trans hE2
   have bR2:=(bR.ext hE1).ext hE2
   have r0 : w2.cell? ⟨w.heap.size+1,0,none⟩=some (.slice none 0 0):=bR2.cell 0
   have r1 : w2.cell? ⟨w.heap.size+1,1,none⟩=some (.int .i64 0):=bR2.cell 1
   have rf0:=bR2.frozen 0
   have rf1:=bR2.frozen 1
   clear bM bR bR2 bM1 m0 m1
   go_wp2
   rw [hres.out]
   refine bodyPost_ret (v := .tuple #[.agg #[.slice none 0 0,.int .i64 0],.int .i64 6]) (by simp [results,Try.f41,go_sem,r0,r1]) rfl ⟨_,rfl,FrM.zero _ _,(hF2.setCell (by simp) _).setCell (by simp) _⟩
  | some i =>
   have hil:=(atNum_lt hat).1
   obtain ⟨x,hx⟩ : ∃ x,m.al[i]? = some x:=⟨m.al[i],by simp [hil]⟩
   have hix:=Lib.hid (idxM_some hat)
   have hX:=Lib.hid hx
   have hi2 : decide ((i : Int) < 0)=false:=decide_eq_false (by omega)
   have hi0 : (0 : Int)≤(i : Int):=by omega
   have hi1 : (i : Int) < (m.al.length : Int):=by omega
   cases hlv : x.live
   ·have hres:=Lib.hid (endR_dead hok hat hx hlv)
    have hlv':=Lib.hid hlv
    clear hok hl hat hx hlv
    go_enter Try.func41,Try.ntmps41
    go_wp2_with fail
    refine hCk.out.mono ?_
    rintro e w1 ⟨rfl,hE1⟩
    rw [hce.out]
    have hF1:=hE0.trans hE1
    have bM1:=bM.ext hE1
    have m0 : w1.cell? ⟨w.heap.size,0,none⟩=some (.slice a m.al.length cp):=bM1.cell 0
    have m1 : w1.cell? ⟨w.heap.size,1,none⟩=some (.int .i64 m.next):=bM1.cell 1
    go_wp2_with fail
    refine (allocs_find n (hL.out.ext hF1)).mono ?_
    rintro e w2 ⟨rfl,hE2⟩
    rw [hix.out]
    have hF2:=hF1.trans hE2
    have bM2:=bM1.ext hE2
    have bR2:=(bR.ext hE1).ext hE2
    clear m0 m1
    have m0 : w2.cell? ⟨w.heap.size,0,none⟩=some (.slice a m.al.length cp):=bM2.cell 0
    have r0 : w2.cell? ⟨w.heap.size+1,0,none⟩=some (.slice none 0 0):=bR2.cell 0
    have r1 : w2.cell? ⟨w.heap.size+1,1,none⟩=some (.int .i64 0):=bR2.cell 1
    have rf0:=bR2.frozen 0
    have rf1:=bR2.frozen 1
    obtain ⟨b,off,sv,rfl,hbb,d0,d1,d2,-⟩:=(hL.out.ext hF2).cell hX.out
    rw [hlv'.out] at d1
    clear bM bR bR2 bM1 bM2
    go_wp2
    rw [hres.out]
    refine bodyPost_ret (v := .tuple #[.agg #[.slice none 0 0,.int .i64 0],.int .i64 6]) (by simp [results,Try.f41,go_sem,r0,r1]) rfl ⟨_,rfl,FrM.zero _ _,(hF2.setCell (by simp) _).setCell (by simp) _⟩
   ·have hres:=Lib.hid (endR_live hok hat hx hlv)
    have hlv':=Lib.hid hlv
    clear hok hl hat hx hlv
    go_enter Try.func41,Try.ntmps41
    go_wp2_with fail
    refine hCk.out.mono ?_
    rintro e w1 ⟨rfl,hE1⟩
    rw [hce.out]
    have hF1:=hE0.trans hE1
    have bM1:=bM.ext hE1
    have m0 : w1.cell? ⟨w.heap.size,0,none⟩=some (.slice a m.al.length cp):=bM1.cell 0
    have m1 : w1.cell? ⟨w.heap.size,1,none⟩=some (.int .i64 m.next):=bM1.cell 1
    go_wp2_with fail
    refine (allocs_find n (hL.out.ext hF1)).mono ?_
    rintro e w2 ⟨rfl,hE2⟩
    rw [hix.out]
    have hF2:=hF1.trans hE2
    have bM2:=bM1.ext hE2
    clear m0 m1
    have m0 : w2.cell? ⟨w.heap.size,0,none⟩=some (.slice a m.al.length cp):=bM2.cell 0
    have m1 : w2.cell? ⟨w.heap.size,1,none⟩=some (.int .i64 m.next):=bM2.cell 1
    obtain ⟨b,off,sv,rfl,hbb,d0,d1,d2,-⟩:=(hL.out.ext hF2).cell hX.out
    rw [hlv'.out] at d1
    go_wp2_with fail
    refine (allocs_clone (hL.out.ext hF2) hsm).mono ?_
    rintro e w3 ⟨v,vs,rfl,hOM,hE3⟩
    have hF3:=hF2.trans hE3
    have hv:=hOM.outer.sl.slice_form
    obtain ⟨a2,cp2,rfl,hlc2,hcm2,-⟩:=hv
    unfold maxLen at hcm2
    obtain ⟨g,sv',rfl,hg1,hg2,hvi,hown,⟨f0,f1,f2⟩,hfr,hsb⟩:=OM.cell hOM hX.out
    rw [hlv'.out] at f1
    have hvf:=hown.read.form
    obtain ⟨ca,ccp,rfl,-⟩:=hvf
    have bM3:=bM2.ext hE3
    have bR3:=((bR.ext hE1).ext hE2).ext hE3
    have hw2 : w.heap.size+1 < w2.heap.size:=((bR.ext hE1).ext hE2).lt
    have k0 : w3.cell? ⟨w.heap.size,0,none⟩=some (.slice (some ⟨b,off,none⟩) m.al.length cp):=bM3.cell 0
    have k1 : w3.cell? ⟨w.heap.size,1,none⟩=some (.int .i64 m.next):=bM3.cell 1
    have kf0:=bM3.frozen 0
    have kf1:=bM3.frozen 1
    have fr1:=hfr (i * 3+1)
    have hg0 : g≠w.heap.size:=by omega
    have hg0' : w.heap.size≠g:=by omega
    obtain ⟨ci,cz,hci,hcz,hczz⟩:=Cell.infoZ
    have hXa : ExtBut (fun b=>b=w.heap.size∨b=g) w3 (((w3.setCell ⟨w.heap.size,0,none⟩ (.slice (some ⟨g,0,none⟩) m.al.length cp2)).setCell ⟨w.heap.size,1,none⟩ (.int .i64 m.next)).setCell ⟨g,i * 3+1,none⟩ (.bool false)) :=
     (((ExtBut.setCell w3 ⟨w.heap.size,0,none⟩ (.slice (some ⟨g,0,none⟩) m.al.length cp2)).mono (fun x _ h => .inl h)).trans ((ExtBut.setCell _ ⟨w.heap.size,1,none⟩ (.int .i64 m.next)).mono (fun x _ h => .inl h))).trans ((ExtBut.setCell _ ⟨g,i * 3+1,none⟩ (.bool false)).mono (fun x _ h => .inr h))
    have hXb : ExtBut (fun b=>b=w.heap.size) w3 ((w3.setCell ⟨w.heap.size,0,none⟩ (.slice (some ⟨g,0,none⟩) m.al.length cp2)).setCell ⟨w.heap.size,1,none⟩ (.int .i64 m.next)) :=
     (ExtBut.setCell w3 ⟨w.heap.size,0,none⟩ (.slice (some ⟨g,0,none⟩) m.al.length cp2)).trans (ExtBut.setCell _ ⟨w.heap.size,1,none⟩ (.int .i64 m.next))
    have hOu:=(ExtBut.own hOM.outer hXb (fun b' e h=>by have h' : some g=some b':=e;cases h';omega)).set (i * 3+1) (.bool false)
    rw [trows_set arow arow_len hvi hX.out (by omega : 1 < 3) (show arow _ (ended x)=(arow _ x).set 1 (.bool false) from rfl)] at hOu
    have hownA:=OwnC.keep hown hXa (fun b' e h=>by have:=hsb b' e;omega)
    obtain ⟨w5,hr5,hO5,hX5⟩:=run_clear_own (P:=Try.prog) (ty:=0) (t:=76) (k:=5) (n:=x.cells.length) Try.underlying76 hci hcz (by rw [hczz];rfl) (by rw [hczz,zcells_zero];exact zcells_one _) hownA
    rw [hczz,zcells_zero] at hO5
    have hOu5:=ExtBut.own hOu hX5 (fun b' e h=>by have h' : some g=some b':=e;cases h';exact (hsb _ h).2.2 rfl)
    have bM5:=((bM3.set 0 (.slice (some ⟨g,0,none⟩) m.al.length cp2)).set 1 (.int .i64 m.next)).other (p:=⟨g,i * 3+1,none⟩) hg0 (.bool false)
    have bM5:=bM5.but hX5 (fun h=>by have:=hsb _ h;omega)
    have bR5:=(bR3.but hXa (by omega)).but hX5 (fun h=>by have:=hsb _ h;omega)
    have hX35 : ExtBut (fun b=>b=w.heap.size∨b=g∨(Value.slice ca x.cells.length ccp).ownBlock=some b) w3 w5:=(hXa.mono (fun x _ h=>by rcases h with h | h;exact .inl h;exact .inr (.inl h))).trans (hX5.mono (fun x _ h => .inr (.inr h)))
    have hF5 : Ext w w5:=ExtBut.ext hF3 hX35 (fun b' h=>by rcases h with h | h | h;omega;omega;(have:=hsb _ h;omega))
    have p0 : w5.cell? ⟨w.heap.size,0,none⟩=some (.slice (some ⟨g,0,none⟩) m.al.length cp2):=bM5.cell 0
    have p1 : w5.cell? ⟨w.heap.size,1,none⟩=some (.int .i64 m.next):=bM5.cell 1
    have r0 : w5.cell? ⟨w.heap.size+1,0,none⟩=some (.slice none 0 0):=bR5.cell 0
    have r1 : w5.cell? ⟨w.heap.size+1,1,none⟩=some (.int .i64 0):=bR5.cell 1
    have rf0:=bR5.frozen 0
    have rf1:=bR5.frozen 1
    have hH:=Lib.hid (And.intro hOM (And.intro hOu5 (And.intro hO5 (And.intro hX35 (And.intro hsb (And.intro hvi hF5))))))
    clear bM bR bM1 bM2 bM3 bR3 m0 m1 hOM hown hsb hfr d0 d1 d2 hXa hXb hOu hownA hO5 hX5 hOu5 bM5 bR5 hX35 hF5
    go_wp2
    rw [hres.out]
    obtain ⟨hOM,hOu5,hO5,hX35,hsb,hvi,hF5⟩:=hH.out
    have hXr:=((ExtBut.setCell w5 ⟨w.heap.size+1,0,none⟩ (.slice (some ⟨g,0,none⟩) m.al.length cp2)).mono (S':=fun b=>b=w.heap.size+1) (fun x _ h=>h)).trans ((ExtBut.setCell _ ⟨w.heap.size+1,1,none⟩ (.int .i64 m.next)).mono (S':=fun b=>b=w.heap.size+1) (fun x _ h=>h))
    have hX37:=(hX35.mono (S':=fun b=>b=w.heap.size∨b=w.heap.size+1∨b=g∨(Value.slice ca x.cells.length ccp).ownBlock=some b) (fun y _ h=>by rcases h with h | h | h;exact .inl h;exact .inr (.inr (.inl h));exact .inr (.inr (.inr h)))).trans (hXr.mono (fun y _ h => .inr (.inl h)))
    refine bodyPost_ret (v := .tuple #[.agg #[.slice (some ⟨g,0,none⟩) m.al.length cp2,.int .i64 m.next],.int .i64 0]) (by simp [results,Try.f41,go_sem,r0,r1]) rfl ⟨_,rfl,fun w'' h2=>⟨_,rfl,?_⟩,ExtBut.ext hF5 hXr (fun y h=>by omega)⟩
    have hgw : w.heap.size≤g:=by omega
    refine Als.of_put hOM hil (ExtBut.own (ExtBut.own hOu5 hXr (fun b' e h=>by have h' : some g=some b':=e;cases h';omega)) h2 (fun b' e h=>by have h' : some g=some b':=e;cases h';omega)) ((hX37.mono (S':=fun b=>(b=w.heap.size∨b=w.heap.size+1∨b=g∨(Value.slice ca x.cells.length ccp).ownBlock=some b)∨b < w.heap.size) (fun _ _ h => .inl h)).trans (h2.mono (fun _ _ h => .inr h))) (fun j s1 hne hj g' hg' h => ?_) ?_
    ·have h1:=OM.inner_lt hOM s1 (List.mem_of_getElem? hj) g' hg'
     have h3:=hOM.far s1 (List.mem_of_getElem? hj) g' hg'
     rcases h with (h | h | h | h) | h
     ·omega
     ·omega
     ·exact h3 (by rw [h];rfl)
     ·exact OM.apart' hOM hvi h j s1 hne hj g' hg' rfl
     ·omega
    ·have h3:=(ExtBut.own (ExtBut.own hO5 hXr (fun b' e h=>by have:=hsb b' e;omega)) h2 (fun b' e h=>by have:=hsb b' e;omega)).sl
     show Sl _ 5 _ (List.replicate x.cells.length Cell.zero).length _
     rw [List.length_replicate]
     exact h3
set_option maxRecDepth 100000 in
set_option maxHeartbeats 3200000 in
theorem ref26_Ended {l : List Alloc} {next : Int} {s : Value} {w : World} {i : Nat} {x : Alloc} (hx : l[i]? = some x) (hl : Als w s l) (hs : small l) :
  Calls Try.prog 46 #[.agg #[s,.int .i64 next],.int .i64 i] w fun e w' => ∃ v,e = .returned v∧FrM w w' v ⟨l.set i (ended x),next⟩∧Ext w w':=by
 have hE0:=((Ext.refl w).alloc (.cells #[s,.int .i64 next] 24)).alloc (.cells #[.slice none 0 0,.int .i64 0] 24)
 obtain ⟨a,cp,rfl,hlc,hcm,-⟩:=hl.form
 unfold maxLen at hcm
 have bR:=Box.new (w.alloc (.cells #[.slice a l.length cp,.int .i64 next] 24)) 24 #[.slice none 0 0,.int .i64 0]
 rw [World.size_alloc] at bR
 have hT:=Lib.hid (ref26_Twin (next:=next) (hl.ext hE0) hs)
 have hX:=Lib.hid hx
 have hil : i < l.length:=(List.getElem?_eq_some_iff.1 hx).1
 have hl6 : l.length≤1000000:=hs.1
 have hxs : x.cells.length≤1000000:=hs.2 x (List.mem_of_getElem? hx)
 have hi0 : (0 : Int)≤(i : Int):=by omega
 have hi1 : (i : Int) < (l.length : Int):=by omega
 have hmk:=make_Cells x.cells.length hxs
 clear hl hx hs
 go_enter Try.func46,Try.ntmps46
 go_wp2_with fail
 refine hT.out.mono ?_
 rintro e w3 ⟨v,vs,rfl,hOM,hE3⟩
 have hF3:=hE0.trans hE3
 have hv:=hOM.outer.sl.slice_form
 obtain ⟨a2,cp2,rfl,hlc2,hcm2,-⟩:=hv
 unfold maxLen at hcm2
 obtain ⟨g,sv',rfl,hg1,hg2,hvi,hown,⟨f0,f1,f2⟩,hfr,hsb⟩:=OM.cell hOM hX.out
 simp only [World.size_alloc] at hg1 hsb
 have hvf:=hown.read.form
 obtain ⟨ca,ccp,rfl,-⟩:=hvf
 have bR3:=bR.ext hE3
 have fr1:=hfr (i * 3+1)
 have fr2:=hfr (i * 3+2)
 have hgo : g≠w3.heap.size:=by omega
 have hgo' : w3.heap.size≠g:=by omega
 have hsz3:=bR3.lt
 have hro : w.heap.size+1≠w3.heap.size:=by omega
 have hrg : w.heap.size+1≠g:=by omega
 have r0 : w3.cell? ⟨w.heap.size+1,0,none⟩=some (.slice none 0 0):=bR3.cell 0
 have r1 : w3.cell? ⟨w.heap.size+1,1,none⟩=some (.int .i64 0):=bR3.cell 1
 have rf0:=bR3.frozen 0
 have rf1:=bR3.frozen 1
 have hH:=Lib.hid (And.intro hOM (And.intro hown (And.intro hsb (And.intro hvi hF3))))
 have bR3:=Lib.hid bR3
 clear hOM hown hsb bR
 go_wp2
 go_region
 obtain ⟨hOM,hown,hsb,hvi,hF3⟩:=hH.out
 have hO1:=(hOM.outer.set (i * 3+1) (.bool false)).set (i * 3+2) (.slice (some ⟨w3.heap.size+1,0,none⟩) x.cells.length x.cells.length)
 rw [trows_set arow arow_len hvi hX.out (by omega : 1 < 3) (show arow _ ⟨x.num,false,x.cells⟩=(arow _ x).set 1 (.bool false) from rfl),trows_set arow arow_len (s := .slice ca x.cells.length ccp) (a:=⟨x.num,false,x.cells⟩) (by rw [List.getElem?_set_self (List.getElem?_eq_some_iff.1 hvi).1]) (by rw [List.getElem?_set_self hil]) (by omega : 2 < 3) (show arow (.slice (some ⟨w3.heap.size+1,0,none⟩) x.cells.length x.cells.length) (ended x)=(arow _ (⟨x.num,false,x.cells⟩ : Alloc)).set 2 (.slice (some ⟨w3.heap.size+1,0,none⟩) x.cells.length x.cells.length) from rfl),List.set_set,List.set_set] at hO1
 have hXr : ExtBut (fun b=>b=g) w3 ((w3.setCell ⟨g,i * 3+1,none⟩ (.bool false)).setCell ⟨g,i * 3+2,none⟩ (.slice (some ⟨w3.heap.size+1,0,none⟩) x.cells.length x.cells.length)) :=
  (ExtBut.setCell w3 ⟨g,i * 3+1,none⟩ (.bool false)).trans (ExtBut.setCell _ ⟨g,i * 3+2,none⟩ (.slice (some ⟨w3.heap.size+1,0,none⟩) x.cells.length x.cells.length))
 have bR7:=bR3.out.but hXr hrg
 obtain ⟨w7,hw7⟩ : ∃ w7,(w3.setCell ⟨g,i * 3+1,none⟩ (.bool false)).setCell ⟨g,i * 3+2,none⟩ (.slice (some ⟨w3.heap.size+1,0,none⟩) x.cells.length x.cells.length)=w7:=⟨_,rfl⟩
 have hs7 : w7.heap.size=w3.heap.size:=by rw [← hw7];simp
 rw [hw7] at hXr hO1 bR7 ⊢
 have hE8:=(((Ext.refl w7).alloc (.cells #[.slice (some ⟨g,0,none⟩) l.length cp2,.int .i64 next] 24)).alloc (.cells (zcells x.cells.length) 111)).drew
 have bO8:=((Box.new w7 24 #[.slice (some ⟨g,0,none⟩) l.length cp2,.int .i64 next]).ext ((Ext.refl _).alloc (.cells (zcells x.cells.length) 111))).ext (Ext.refl _).drew
 have bR8:=bR7.ext hE8
 have hz:=Own.ext (zcells_own x.cells.length hxs (w7.alloc (.cells #[.slice (some ⟨g,0,none⟩) l.length cp2,.int .i64 next] 24)) (B:=w3.heap.size+1) (by simp [hs7])) (Ext.refl _).drew
 rw [World.size_alloc] at hz
 have hO8:=hO1.ext hE8
 have hX8:=hXr.trans (ExtBut.of_ext hE8)
 have hF8:=(ExtBut.ext hF3 hXr (fun y h=>by omega)).trans hE8
 obtain ⟨w8,hw8⟩ : ∃ w8,((w7.alloc (.cells #[.slice (some ⟨g,0,none⟩) l.length cp2,.int .i64 next] 24)).alloc (.cells (zcells x.cells.length) 111)).drew=w8:=⟨_,rfl⟩
 rw [hw8] at bO8 bR8 hz hO8 hX8 hF8 ⊢
 rw [hs7] at bO8 hz
 have p0 : w8.cell? ⟨w3.heap.size,0,none⟩=some (.slice (some ⟨g,0,none⟩) l.length cp2):=bO8.cell 0
 have p1 : w8.cell? ⟨w3.heap.size,1,none⟩=some (.int .i64 next):=bO8.cell 1
 have q0 : w8.cell? ⟨w.heap.size+1,0,none⟩=some (.slice none 0 0):=bR8.cell 0
 have q1 : w8.cell? ⟨w.heap.size+1,1,none⟩=some (.int .i64 0):=bR8.cell 1
 have qf0:=bR8.frozen 0
 have qf1:=bR8.frozen 1
 have hK:=Lib.hid (And.intro hOM (And.intro hO8 (And.intro hX8 (And.intro hF8 (And.intro hz hvi)))))
 clear hOM hown hsb hvi hF3 hO1 hXr bR7 hE8 bO8 bR8 hz hO8 hX8 hF8 hw8 hw7 hs7
 go_wp2
 obtain ⟨hOM,hO8,hX8,hF8,hz,hvi⟩:=hK.out
 have hXr:=((ExtBut.setCell w8 ⟨w.heap.size+1,0,none⟩ (.slice (some ⟨g,0,none⟩) l.length cp2)).mono (S':=fun b=>b=w.heap.size+1) (fun y _ h=>h)).trans ((ExtBut.setCell _ ⟨w.heap.size+1,1,none⟩ (.int .i64 next)).mono (S':=fun b=>b=w.heap.size+1) (fun y _ h=>h))
 refine bodyPost_ret (v := .agg #[.slice (some ⟨g,0,none⟩) l.length cp2,.int .i64 next]) (by simp [results,Try.f46,go_sem,q0,q1]) rfl ⟨_,rfl,fun w'' h2=>⟨_,rfl,?_⟩,ExtBut.ext hF8 hXr (fun y h=>by omega)⟩
 refine Als.of_put (S:=fun b=>(b=g∨b=w.heap.size+1)∨b < w.heap.size) hOM hil (ExtBut.own (ExtBut.own hO8 hXr (fun b' e h=>by have h' : some g=some b':=e;cases h';exact hrg h.symm)) h2 (fun b' e h=>by have h' : some g=some b':=e;cases h';omega)) (((hX8.mono (fun y _ h => .inl (.inl h))).trans (hXr.mono (fun y _ h => .inl (.inr h)))).trans (h2.mono (fun _ _ h => .inr h))) (fun j s1 hne hj g' hg' h => ?_) (ExtBut.own (ExtBut.own hz hXr (fun b' e h=>by have:=(hz.lt e).1;omega)) h2 (fun b' e h=>by have:=(hz.lt e).1;omega)).sl
 have h1:=OM.inner_lt hOM s1 (List.mem_of_getElem? hj) g' hg'
 simp only [World.size_alloc] at h1
 have h3:=hOM.far s1 (List.mem_of_getElem? hj) g' hg'
 rcases h with (h | h) | h
 ·exact h3 (by rw [h];rfl)
 ·omega
 ·omega
end Go.Proofs.Ytnplphcnagooeaa

/- Contracts: Protects and End of layer 34, the program's and the reference's. (printed by gen/dea34.py) -/
namespace Go.Proofs.Ytnplphcnagooeaa
set_option maxRecDepth 100000
open Go.RowKit
theorem endR34_bad {x : Stk} {run : List Int} (h : askErr x run=8) : endR34 x run=(0,8):=by simp [endR34,h]
theorem endR34_ok {x : Stk} {run : List Int} (h : askErr x run=0) : endR34 x run=(if freeB x.cells run then 0 else 2,0):=by simp [endR34,h]
set_option maxHeartbeats 1600000 in
theorem dealloc_End {l : List (List Item)} {run : List Int} {num : Int} {s v : Value} {w : World} (hl : Sts w s l) (hr : Nts w v run) :
  Calls Try.prog 43 #[.agg #[.int .i64 num,s],v] w fun e w'=>e = .returned (.tuple #[.int .u8 (endR34 ⟨num,l⟩ run).1,.int .i64 (endR34 ⟨num,l⟩ run).2])∧Ext w w':=by
 have hE0:=(Ext.refl w).alloc (.cells #[.int .i64 num,s] 58)
 have hl0:=hl.ext hE0
 have hr0:=hr.ext hE0
 have bM:=Box.new w 58 #[.int .i64 num,s]
 obtain ⟨a,cp,rfl,hlc,hcm,-⟩:=hl.form
 obtain ⟨a2,cp2,rfl,-⟩:=hr.form
 unfold maxLen at hcm
 have hL:=Lib.hid hl0
 have hV:=Lib.hid hr0
 clear hl hl0 hr hr0
 rcases askErr_cases ⟨num,l⟩ run with h8 | ⟨h0,hok,hkk⟩
 ·have hres:=Lib.hid (endR34_bad h8)
  replace h8:=Lib.hid h8
  go_enter Try.func43,Try.ntmps43
  go_wp2_with fail
  refine (dealloc_asked hL.out hV.out).mono ?_
  rintro e w1 ⟨rfl,hE1⟩
  rw [h8.out]
  go_wp2
  go_ret2
  exact ⟨by rw [hres.out] <;> rfl,hE0.trans hE1⟩
 ·have hres:=Lib.hid (endR34_ok h0)
  have hsm : l.length≤2 ∧ ∀ s ∈ l,s.length≤600:=okK_small hkk
  replace h0:=Lib.hid h0
  replace hok:=Lib.hid hok
  clear hkk
  cases hf : freeB l run
  all_goals
   replace hf:=Lib.hid hf
   go_enter Try.func43,Try.ntmps43
   go_wp2_with fail
   refine (dealloc_asked hL.out hV.out).mono ?_
   rintro e w1 ⟨rfl,hE1⟩
   rw [h0.out]
   replace bM:=bM.ext hE1
   have m0 : World.cell? w1 ⟨w.heap.size,0,none⟩=some (.int .i64 num):=bM.cell 0
   have m1 : World.cell? w1 ⟨w.heap.size,1,none⟩=some (.slice a l.length cp):=bM.cell 1
   go_wp2_with fail
   refine (dealloc_free (hL.out.ext hE1) (hV.out.ext hE1) hok.out).mono ?_
   rintro e w2 ⟨rfl,hE2⟩
   rw [hf.out]
   go_wp2
   go_ret2
   exact ⟨by rw [hres.out,hf.out] <;> rfl,(hE0.trans hE1).trans hE2⟩
set_option maxHeartbeats 1600000 in
theorem ref34_End {l : List (List Item)} {run : List Int} {num : Int} {s v : Value} {w : World} (hl : Sts w s l) (hr : Nts w v run) :
  Calls Try.prog 45 #[.agg #[.int .i64 num,s],v] w fun e w'=>e = .returned (.tuple #[.int .u8 (endR34 ⟨num,l⟩ run).1,.int .i64 (endR34 ⟨num,l⟩ run).2])∧Ext w w':=by
 have hE0:=(Ext.refl w).alloc (.cells #[.int .i64 num,s] 58)
 have hl0:=hl.ext hE0
 have hr0:=hr.ext hE0
 have bM:=Box.new w 58 #[.int .i64 num,s]
 obtain ⟨a,cp,rfl,hlc,hcm,-⟩:=hl.form
 obtain ⟨a2,cp2,rfl,-⟩:=hr.form
 unfold maxLen at hcm
 have hL:=Lib.hid hl0
 have hV:=Lib.hid hr0
 clear hl hl0 hr hr0
 rcases askErr_cases ⟨num,l⟩ run with h8 | ⟨h0,hok,hkk⟩
 ·have hres:=Lib.hid (endR34_bad h8)
  replace h8:=Lib.hid h8
  go_enter Try.func45,Try.ntmps45
  go_wp2_with fail
  refine (ref34_asked hL.out hV.out).mono ?_
  rintro e w1 ⟨rfl,hE1⟩
  rw [h8.out]
  go_wp2
  go_ret2
  exact ⟨by rw [hres.out] <;> rfl,hE0.trans hE1⟩
 ·have hres:=Lib.hid (endR34_ok h0)
  have hsm : l.length≤2 ∧ ∀ s ∈ l,s.length≤600:=okK_small hkk
  replace h0:=Lib.hid h0
  replace hok:=Lib.hid hok
  clear hkk
  cases hf : freeB l run
  all_goals
   have hkl : decide (0 < (keptL l run).length) = !freeB l run:=by
    rw [free_kept]
    by_cases h : (keptL l run).length=0
    ·simp [h]
    ·rw [decide_eq_true (Nat.pos_of_ne_zero h)]
     simp [h]
   rw [hf] at hkl
   simp only [Bool.not_true,Bool.not_false] at hkl
   replace hf:=Lib.hid hf
   go_enter Try.func45,Try.ntmps45
   go_wp2_with fail
   refine (ref34_asked hL.out hV.out).mono ?_
   rintro e w1 ⟨rfl,hE1⟩
   rw [h0.out]
   replace bM:=bM.ext hE1
   have m0 : World.cell? w1 ⟨w.heap.size,0,none⟩=some (.int .i64 num):=bM.cell 0
   have m1 : World.cell? w1 ⟨w.heap.size,1,none⟩=some (.slice a l.length cp):=bM.cell 1
   go_wp2_with fail
   refine (ref34_Kept (hL.out.ext hE1) (hV.out.ext hE1) hsm).mono ?_
   rintro e w2 ⟨vk,rfl,hk,hE2⟩
   obtain ⟨ka,kc,rfl,-⟩:=(Own.sl hk).slice_form
   go_wp2
   go_ret2
   exact ⟨by rw [hres.out,hf.out] <;> rfl,(hE0.trans hE1).trans hE2⟩
end Go.Proofs.Ytnplphcnagooeaa
