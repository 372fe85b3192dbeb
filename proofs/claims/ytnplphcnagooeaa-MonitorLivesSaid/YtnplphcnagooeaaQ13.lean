/- Several texts in one: MonR, MonS, CelWD. -/
import Derived.Test.YtnplphcnagooeaaQ12
import Derived.Test.YtnplphcnagooeaaQ10
import Derived.Test.YtnplphcnagooeaaQ03
/- Deleting in place from a table of stacks that is owned: what stands in it after each round; no program in sight but for two runs of builtins. -/
namespace Go.Proofs.Ytnplphcnagooeaa
set_option maxRecDepth 100000
open Go.RowKit
theorem run_clear_from {P : Program} {w : World} {B : Nat} {t ty e : TypeId} {i : TypeInfo} {z : Value} {k : Nat} {g n cap j : Nat} {xs : List Value}
  (ht : P.underlying t=some (.slice e)) (hi : P.info? e=some i) (hz : i.zero=some z) (hzk : z.cells.size=k) (h1 : ∀ u ∈ (Builtin.zeroCells z.cells (n - j)).toList,u.oneCell'=true) (hown : Own w B e k (.slice (some ⟨g,0,none⟩) n cap) n xs) (hj : j≤n) :
  ∃ w',(Builtin.clear_ #[t] ty #[.slice (some ⟨g,j * k,none⟩) (n - j) (cap - j)]).run P w = .ok (.tuple #[]) w'∧Own w' B e k (.slice (some ⟨g,0,none⟩) n cap) n (xs.take (j * k) ++ (Builtin.zeroCells z.cells (n - j)).toList)∧ExtBut (fun b=>b=g) w w':=by
 have hlen : (Builtin.zeroCells z.cells (n - j)).toList.length=(n - j) * k:=by rw [Array.length_toList,size_zeroCells,hzk]
 have hlen' : (Builtin.zeroCells z.cells (n - j)).size=(n - j) * k:=by rw [size_zeroCells,hzk]
 have hxl : xs.length=n * k:=hown.1
 have hjk : j * k≤n * k:=Nat.mul_le_mul_right _ hj
 have hsub : (n - j) * k=n * k - j * k:=Nat.sub_mul _ _ _
 by_cases hn : n - j=0
 ·have hnil : (Builtin.zeroCells z.cells (n - j)).toList=[]:=List.eq_nil_of_length_eq_zero (by rw [hlen,hn];simp)
  have hjn : j=n:=by omega
  rw [hnil,List.append_nil,hjn,List.take_of_length_le (by omega)]
  refine ⟨w,?_,hown,ExtBut.refl _ _⟩
  rw [Nat.sub_self]
  simp [Builtin.clear_,run_underlying ht]
 ·rcases hown.2 with ⟨h,_⟩ | ⟨g',cap',cur,hv,hbg,hg,hnc,hcm,hcs,htake⟩
  ·cases h
  simp only [Value.slice.injEq,Option.some.injEq,Addr.mk.injEq,and_true,true_and] at hv
  obtain ⟨rfl,rfl⟩:=hv
  have hm2 : n * k≤cap * k:=Nat.mul_le_mul_right _ hnc
  have hfit : j * k+(Builtin.zeroCells z.cells (n - j)).toList.length≤cur.size:=by rw [hlen,hcs];omega
  have hst:=run_storeCells_at P g (j * k) e (Builtin.zeroCells z.cells (n - j)).toList 0 cur w hg (by simpa using hfit) h1
  simp only [Nat.add_zero] at hst
  refine ⟨w.setRow g (cur.toList.take (j * k) ++ (Builtin.zeroCells z.cells (n - j)).toList ++ cur.toList.drop (j * k+(Builtin.zeroCells z.cells (n - j)).toList.length)).toArray,?_,⟨?_,.inr ⟨g,cap,_,rfl,hbg,setRow_heap w g cur _ e _ hg,hnc,hcm,?_,?_⟩⟩,⟨rfl,rfl,rfl,by simp,fun b hb hne=>setRow_other w g b _ hne⟩⟩
  ·obtain ⟨n',hn'⟩ : ∃ n',n - j=n'+1:=⟨n - j - 1,by omega⟩
   rw [hn'] at hst ⊢
   have hst':=hst
   simp [Builtin.clear_,run_underlying ht,zeroValue,typeInfo,hi,hz,hst']
  ·simp only [List.length_append,List.length_take,hlen,hxl]
   omega
  ·simp only [List.size_toArray,List.length_append,List.length_take,List.length_drop,Array.length_toList,hlen']
   rw [hlen] at hfit
   omega
  ·rw [← htake,List.take_append,List.take_of_length_le (by simp only [List.length_append,List.length_take,Array.length_toList,hlen'];rw [hlen] at hfit;omega)]
   rw [List.take_take,Nat.min_eq_left hjk]
   have e0 : n * k - (cur.toList.take (j * k) ++ (Builtin.zeroCells z.cells (n - j)).toList).length=0:=by
    simp only [List.length_append,List.length_take,Array.length_toList,hlen']
    rw [hlen] at hfit
    omega
   rw [e0,List.take_zero,List.append_nil]
section
variable (q : Stk→Bool) (vs : List Value) (l : List Stk)
def zq (k : Nat) : List (Value × Stk):=((vs.zip l).take k).filter (fun p=>q p.2)
def zqrows (z : List (Value × Stk)) : List Value:=z.flatMap fun p=>krow p.1 p.2
variable {q vs l}
theorem zq_le (k : Nat) : (zq q vs l k).length≤k:=Nat.le_trans (List.length_filter_le _ _) (List.length_take_le _ _)
theorem zq_yes {k : Nat} {s : Value} {x : Stk} (hs : vs[k]? = some s) (hx : l[k]? = some x) (h : q x=true) : zq q vs l (k+1)=zq q vs l k ++ [(s,x)]:=by
 have hz : (vs.zip l)[k]? = some (s,x):=by rw [List.getElem?_zip_eq_some];exact ⟨hs,hx⟩
 rw [zq,List.take_add_one,hz,List.filter_append]
 simp [zq,h]
theorem zq_no {k : Nat} {s : Value} {x : Stk} (hs : vs[k]? = some s) (hx : l[k]? = some x) (h : q x=false) : zq q vs l (k+1)=zq q vs l k:=by
 have hz : (vs.zip l)[k]? = some (s,x):=by rw [List.getElem?_zip_eq_some];exact ⟨hs,hx⟩
 rw [zq,List.take_add_one,hz,List.filter_append]
 simp [zq,h]
theorem zq_all {k : Nat} (h : (l.take k).any (fun x => !q x)=false) : zq q vs l k=(vs.zip l).take k:=by
 rw [zq,List.filter_eq_self]
 intro p hp
 rw [take_zip] at hp
 have hm:=(List.of_mem_zip hp).2
 have:=List.any_eq_false.1 h _ hm
 simpa using this
theorem zq_snd (hl : vs.length=l.length) : (zq q vs l l.length).map Prod.snd=l.filter q:=by
 have h1 : (vs.zip l).take l.length=vs.zip l:=List.take_of_length_le (by rw [List.length_zip];omega)
 have h2 : (vs.zip l).map Prod.snd=l:=by rw [← List.unzip_snd,List.unzip_zip_right (by omega)]
 rw [zq,h1]
 conv=>rhs;rw [← h2]
 rw [List.filter_map]
 rfl
theorem zq_rows (z : List (Value × Stk)) : trows krow (z.map Prod.fst) (z.map Prod.snd)=zqrows z:=by
 unfold trows zqrows
 congr 1
 induction z with
 | nil=>rfl
 | cons p z ih=>simp [ih]
end
structure DInv (B : Nat) (w3 wr : World) (g cp : Nat) (q : Stk→Bool) (vs : List Value) (l : List Stk) (k : Nat) : Prop where
 ys : ∃ ys,Own wr B 58 2 (.slice (some ⟨g,0,none⟩) l.length cp) l.length ys∧ys.take ((zq q vs l k).length * 2)=zqrows (zq q vs l k)∧ys.drop (k * 2)=(trows krow vs l).drop (k * 2)
 keep : ExtBut (fun b=>b=g) w3 wr
section
variable {B : Nat} {w3 wr w' : World} {g cp : Nat} {q : Stk→Bool} {vs : List Value} {l : List Stk} {k : Nat}
theorem DInv.start (hO : Own wr B 58 2 (.slice (some ⟨g,0,none⟩) l.length cp) l.length (trows krow vs l)) (hv : vs.length=l.length) (hX : ExtBut (fun b=>b=g) w3 wr) (hk : k < l.length) (h : (l.take k).any (fun x => !q x)=false) {x : Stk} (hx : l[k]? = some x) (hq : q x=false) :
  DInv B w3 wr g cp q vs l (k+1)∧(zq q vs l (k+1)).length=k:=by
 obtain ⟨s,hs⟩ : ∃ s,vs[k]? = some s:=⟨vs[k]'(by omega),by simp⟩
 have e:=zq_no hs hx hq
 have e2:=zq_all (vs:=vs) h
 have e3 : (zq q vs l (k+1)).length=k:=by rw [e,e2,List.length_take,List.length_zip];omega
 refine ⟨⟨⟨_,hO,?_,rfl⟩,hX⟩,e3⟩
 rw [e3,trows_take krow (by intro s a;rfl),e,e2,zqrows,trows,take_zip]
theorem DInv.cells {s : Value} {x : Stk} (h : DInv B w3 wr g cp q vs l k) (hs : vs[k]? = some s) (hx : l[k]? = some x) : wr.cell? ⟨g,k * 2,none⟩=some (.int .i64 x.num)∧wr.cell? ⟨g,k * 2+1,none⟩=some s:=by
 obtain ⟨⟨ys,h1,h2,h3⟩,h4⟩:=h
 have hk : k < l.length:=(List.getElem?_eq_some_iff.1 hx).1
 have t : ∀ j,j < 2→wr.cell? ⟨g,k * 2+j,none⟩=(krow s x)[j]? := fun j hj=>by
  rw [h1.cellAt (k * 2+j) (by omega)]
  have e1 : ys[k * 2+j]? = (ys.drop (k * 2))[j]? := by rw [List.getElem?_drop]
  have e2 : (trows krow vs l)[k * 2+j]? = ((trows krow vs l).drop (k * 2))[j]? := by rw [List.getElem?_drop]
  rw [e1,h3,← e2]
  exact trows_get krow krow_len hs hx hj
 exact ⟨t 0 (by omega),t 1 (by omega)⟩
theorem DInv.frozen (h : DInv B w3 wr g cp q vs l k) (j : Nat) : wr.frozen? ⟨g,j,none⟩=false:=by
 obtain ⟨⟨ys,h1,-⟩,-⟩:=h
 exact h1.frozen j
theorem DInv.skip {s : Value} {x : Stk} (h : DInv B w3 wr g cp q vs l k) (hs : vs[k]? = some s) (hx : l[k]? = some x) (hq : q x=false) (hE : Ext wr w') : DInv B w3 w' g cp q vs l (k+1):=by
 obtain ⟨⟨ys,h1,h2,h3⟩,h4⟩:=h
 refine ⟨⟨ys,h1.ext hE,by rw [zq_no hs hx hq];exact h2,?_⟩,h4.trans (ExtBut.of_ext hE)⟩
 rw [Nat.add_mul,← List.drop_drop,← List.drop_drop,h3]
theorem DInv.take {s : Value} {x : Stk} {c : Nat} (h : DInv B w3 wr g cp q vs l k) (hs : vs[k]? = some s) (hx : l[k]? = some x) (hq : q x=true) (hE : Ext wr w') (hc : (zq q vs l k).length=c) :
  DInv B w3 ((w'.setCell ⟨g,c * 2,none⟩ (.int .i64 x.num)).setCell ⟨g,c * 2+1,none⟩ s) g cp q vs l (k+1)∧(zq q vs l (k+1)).length=c+1:=by
 subst hc
 obtain ⟨⟨ys,h1,h2,h3⟩,h4⟩:=h
 have hk : k < l.length:=(List.getElem?_eq_some_iff.1 hx).1
 have hle:=zq_le (q:=q) (vs:=vs) (l:=l) k
 have hyl : ys.length=l.length * 2:=h1.1
 have hO:=((h1.ext hE).set ((zq q vs l k).length * 2) (.int .i64 x.num)).set ((zq q vs l k).length * 2+1) s
 have hX:=((ExtBut.setCell w' ⟨g,(zq q vs l k).length * 2,none⟩ (.int .i64 x.num)).trans (ExtBut.setCell _ ⟨g,(zq q vs l k).length * 2+1,none⟩ s))
 have e1:=zq_yes hs hx hq
 refine ⟨⟨⟨_,hO,?_,?_⟩,(h4.trans (ExtBut.of_ext hE)).trans hX⟩,by rw [e1];simp⟩
 ·rw [e1,List.length_append,List.length_singleton,zqrows,List.flatMap_append,← zqrows,← h2]
  apply List.ext_getElem?
  intro j
  have hc2 : (zq q vs l k).length * 2+1 < ys.length:=by omega
  have tl : (ys.take ((zq q vs l k).length * 2)).length=(zq q vs l k).length * 2:=by rw [List.length_take];omega
  simp only [List.flatMap_cons,List.flatMap_nil,List.append_nil,krow]
  rw [List.getElem?_take]
  by_cases hj : j < (zq q vs l k).length * 2
  ·rw [if_pos (by omega),List.getElem?_append_left (by omega),List.getElem?_take,if_pos hj,List.getElem?_set_ne (by omega),List.getElem?_set_ne (by omega)]
  ·rw [List.getElem?_append_right (by omega),tl]
   rcases Nat.lt_or_ge j ((zq q vs l k).length * 2+2) with hj2 | hj2
   ·rw [if_pos (by omega)]
    rcases Nat.lt_or_ge j ((zq q vs l k).length * 2+1) with hj3 | hj3
    ·obtain rfl : j=(zq q vs l k).length * 2:=by omega
     rw [List.getElem?_set_ne (by omega),List.getElem?_set_self (by omega),Nat.sub_self]
     rfl
    ·obtain rfl : j=(zq q vs l k).length * 2+1:=by omega
     rw [List.getElem?_set_self (by simpa using hc2),show (zq q vs l k).length * 2+1 - (zq q vs l k).length * 2=1 by omega]
     rfl
   ·rw [if_neg (by omega),List.getElem?_eq_none (by simp;omega)]
 ·rw [List.drop_set_of_lt (by omega),List.drop_set_of_lt (by omega),Nat.add_mul,← List.drop_drop,← List.drop_drop,h3]
theorem DInv.finish {zs : List Value} {c : Nat} (h : DInv B w3 wr g cp q vs l l.length) (hc : (zq q vs l l.length).length=c) {w' : World} (hO : ∀ ys,Own wr B 58 2 (.slice (some ⟨g,0,none⟩) l.length cp) l.length ys→Own w' B 58 2 (.slice (some ⟨g,0,none⟩) l.length cp) l.length (ys.take (c * 2) ++ zs)) :
  Fq (fun b=>b=g) w' (fun w=>Sl w 2 (.slice (some ⟨g,0,none⟩) c cp) c (zqrows (zq q vs l l.length))):=by
 obtain ⟨⟨ys,h1,h2,h3⟩,h4⟩:=h
 have h5:=hO ys h1
 have hle:=zq_le (q:=q) (vs:=vs) (l:=l) l.length
 intro w'' hb
 have h6:=h5.fs w'' fun b e hl=>hb b (by have e' : some g=some b:=e;cases e';rfl) hl
 have h7:=h6.take c (by omega)
 rw [List.take_append,List.take_of_length_le (by rw [List.length_take];omega),List.length_take] at h7
 have hyl : ys.length=l.length * 2:=h1.1
 rw [show c * 2 - min (c * 2) ys.length=0 by omega,List.take_zero,List.append_nil,← hc,h2,hc] at h7
 exact h7
end
end Go.Proofs.Ytnplphcnagooeaa

/- Contracts: slices.DeleteFunc at stacks of allocations, slices.ContainsFunc at allocations, the test of monitor.Forget. -/
namespace Go.Proofs.Ytnplphcnagooeaa
set_option maxRecDepth 100000
open Go.RowKit
theorem any_of_find {p : Alloc→Bool} {l : List Alloc} : (l.any p=true ∧ ∃ i,l.findIdx? p=some i)∨(l.any p=false∧l.findIdx? p=none):=by
 cases h : l.findIdx? p with
 | none=>exact .inr ⟨by rw [List.findIdx?_eq_none_iff] at h;rw [List.any_eq_false];intro x hx;simpa using h x hx,rfl⟩
 | some i =>
  obtain ⟨hi,hp,-⟩:=List.findIdx?_eq_some_iff_getElem.1 h
  exact .inl ⟨List.any_eq_true.2 ⟨_,List.getElem_mem hi,hp⟩,i,rfl⟩
theorem any_of_kfind {p : Stk→Bool} {l : List Stk} {i : Nat} (h : l.findIdx? p=some i) : ∃ x,l[i]? = some x∧p x=true∧(l.take i).any p=false:=by
 obtain ⟨hi,hp,hn⟩:=List.findIdx?_eq_some_iff_getElem.1 h
 refine ⟨l[i],by simp,hp,?_⟩
 rw [List.any_eq_false]
 intro x hx
 obtain ⟨j,hj⟩:=List.mem_iff_getElem?.1 hx
 rw [List.getElem?_take] at hj
 split at hj
 ·rename_i hji
  obtain ⟨hjl,rfl⟩:=List.getElem?_eq_some_iff.1 hj
  exact hn j hji
 ·cases hj
set_option maxHeartbeats 400000 in
theorem containsFunc_alloc {g : Nat} {cap : Array Value} {p : Alloc→Bool} {l : List Alloc} {v : Value} {w : World} (hg : ∀ args w,(callFunc g args).run Try.prog w = .ok (.enter g args) w)
  (hp : PredA g cap w p) (hl : Als w v l) : Calls Try.prog 50 #[v,.func (.func g) #[] cap] w fun e w'=>e = .returned (.bool (l.any p))∧Ext w w':=by
 have hI:=Lib.hid (indexFunc_alloc hg hp hl)
 obtain ⟨a,cp,rfl,-⟩:=hl.form
 clear hl hp
 rcases any_of_find (p:=p) (l:=l) with ⟨h1,i,h2⟩ | ⟨h1,h2⟩
 ·have q0 : decide ((0 : Int)≤(i : Int))=true:=decide_eq_true (by omega)
  replace h1:=Lib.hid h1;replace h2:=Lib.hid h2
  go_enter Try.func50,Try.ntmps50
  go_wp2_with fail
  refine hI.out.mono ?_
  rintro e w1 ⟨rfl,hE1⟩
  rw [h2.out]
  dsimp only [ixM]
  go_wp2
  go_ret
  exact ⟨by rw [h1.out];rfl,hE1⟩
 ·replace h1:=Lib.hid h1;replace h2:=Lib.hid h2
  go_enter Try.func50,Try.ntmps50
  go_wp2_with fail
  refine hI.out.mono ?_
  rintro e w1 ⟨rfl,hE1⟩
  rw [h2.out]
  dsimp only [ixM]
  go_wp2
  go_ret
  exact ⟨by rw [h1.out];rfl,hE1⟩
def PredX (g : Nat) (cap : Array Value) (W : World) (S : Nat→Prop) (p : Stk→Bool) : Prop :=
 ∀ (x : Stk) (s : Value) (w : World),ExtBut S W w→Calls Try.prog g (#[.agg #[.int .i64 x.num,s]] ++ cap) w fun e w'=>e = .returned (.bool (p x))∧Ext w w'
theorem callFunc_forget11 (args : Array Value) (w : World) : (callFunc 51 args).run Try.prog w = .ok (.enter 51 args) w:=by kernel_rfl
theorem callFunc_forget1 (args : Array Value) (w : World) : (callFunc 49 args).run Try.prog w = .ok (.enter 49 args) w:=by kernel_rfl
set_option maxHeartbeats 400000 in
theorem monitor_forget11 (n : Int) (B : Nat) (W : World) (hc : W.cell? ⟨B,0,none⟩=some (.int .i64 n)) : PredA 51 #[.pointer (some ⟨B,0,none⟩)] W (fun a=>a.num == n):=by
 intro x s w hW
 obtain ⟨num,live,cs⟩:=x
 have hcw:=hW.cell hc
 have hB:=World.block_lt_of_cell? _ _ hcw
 have hE:=(Ext.refl w).alloc (.cells #[.int .i64 num,.bool live,s] 78)
 clear hc hW
 show Calls Try.prog 51 #[.agg #[.int .i64 num,.bool live,s],.pointer (some ⟨B,0,none⟩)] w _
 go_enter Try.func51,Try.ntmps51
 go_wp2
 go_ret
 exact ⟨rfl,hE⟩
set_option maxHeartbeats 400000 in
theorem monitor_forget1 {al : List Alloc} {sa : Value} {W : World} {S : Nat→Prop} {B : Nat} (hc : W.cell? ⟨B,0,none⟩=some sa) (hS : ¬ S B) (hl : ∀ w,ExtBut S W w→Als w sa al) :
  PredX 49 #[.pointer (some ⟨B,0,none⟩)] W S (fun x => !(al.any (fun a=>a.num == x.num))):=by
 intro x s w hW
 obtain ⟨num,cs⟩:=x
 have hE:=(Ext.refl w).alloc (.cells #[.int .i64 num,s] 58)
 have hcw:=hE.cell (hW.cell hc hS)
 have hl':=(hl w hW).ext hE
 have bX:=Box.new w 58 #[.int .i64 num,s]
 have hC:=Lib.hid (containsFunc_alloc callFunc_forget11 (monitor_forget11 num w.heap.size _ (bX.cell 0)) hl')
 obtain ⟨a,cp,rfl,-⟩:=hl'.form
 have hmf : ∀ (fn : Fn) (first cap : Array Value) (w : World),(Instr.makeFunc fn first cap).run Try.prog w = .ok (.func fn first cap) w:=fun _ _ _ _=>rfl
 obtain ⟨r,hr⟩ : ∃ z,(al.any fun a=>a.num == num)=z:=⟨_,rfl⟩
 rw [hr] at hC
 replace hr:=Lib.hid hr
 clear hc hW hl hl' bX
 show Calls Try.prog 49 #[.agg #[.int .i64 num,s],.pointer (some ⟨B,0,none⟩)] w _
 go_enter Try.func49,Try.ntmps49
 go_wp2_with fail
 refine hC.out.mono ?_
 rintro e w1 ⟨rfl,hE1⟩
 go_wp2
 go_ret
 exact ⟨by dsimp only;rw [hr.out];rfl,hE.trans hE1⟩
theorem run_slice_from2 {P : Program} {t e : TypeId} {i : TypeInfo} {k : Nat} (ht : P.underlying t=some (.slice e)) (hi : P.info? e=some i) (hik : i.size=k) (g : Nat) (n cap : Nat) (j : Nat) (hj : j < n) (hc : n≤cap) (w : World) :
  (Instr.slice t (.slice (some ⟨g,0,none⟩) n cap) (some (.int .i64 (j : Int))) none none).run P w = .ok (.slice (some ⟨g,j * k,none⟩) (n - j) (cap - j)) w:=by
 subst hik
 have:=run_slice_from ht hi (some ⟨g,0,none⟩) n cap (j : Int) j rfl (by omega) w
 rw [this]
 have hne : ¬ cap=j:=by omega
 simp only [Addr.add,hne,if_false,Nat.zero_add]
 by_cases h0 : j * i.size=0
 ·simp [h0]
 ·simp [h0]
theorem DInv.old {B : Nat} {w3 wr : World} {g cp : Nat} {q : Stk→Bool} {vs : List Value} {l : List Stk} {k : Nat} (h : DInv B w3 wr g cp q vs l k) {c : Nat} (hc : c < l.length) : ∃ u0 u1,wr.cell? ⟨g,c * 2,none⟩=some u0∧wr.cell? ⟨g,c * 2+1,none⟩=some u1:=by
 obtain ⟨⟨ys,h1,-⟩,-⟩:=h
 have hyl : ys.length=l.length * 2:=h1.1
 exact ⟨ys[c * 2]'(by omega),ys[c * 2+1]'(by omega),(h1.cellAt (c * 2) (by omega)).trans (by simp),(h1.cellAt (c * 2+1) (by omega)).trans (by simp)⟩
theorem zeroCells_stk (n : Nat) : ∀ u ∈ (Builtin.zeroCells #[.int .i64 0,.slice none 0 0] n).toList,u.oneCell'=true:=by
 intro u hu
 unfold Builtin.zeroCells at hu
 rw [Array.mem_toList_iff] at hu
 obtain ⟨i,-,rfl⟩:=Array.mem_map.1 hu
 have : i % 2=0∨i % 2=1:=by omega
 rcases this with h | h <;> simp [h] <;> rfl
theorem Stacks.infoZ : ∃ i z,Try.prog.info? 58=some i∧i.zero=some z∧z.cells=#[.int .i64 0,.slice none 0 0]∧i.size=2:=by
 have h : (Try.prog.info? 58).map (fun i=>(i.zero.map (fun z=>z.cells),i.size))=some (some #[.int .i64 0,.slice none 0 0],2):=by kernel_rfl
 cases hi : Try.prog.info? 58 with
 | none=>rw [hi] at h;simp at h
 | some i =>
  rw [hi] at h
  simp only [Option.map_some,Option.some.injEq,Prod.mk.injEq] at h
  obtain ⟨h,h2⟩:=h
  cases hz : i.zero with
  | none=>rw [hz] at h;simp at h
  | some z =>
   rw [hz] at h
   exact ⟨i,z,rfl,hz,by simpa using h,h2⟩
set_option maxHeartbeats 1600000 in
theorem deleteFunc_stacks {g : Nat} {cap : Array Value} {p : Stk→Bool} {l : List Stk} {vs : List Value} {v : Value} {B : Nat} {w : World} (hg : ∀ args w,(callFunc g args).run Try.prog w = .ok (.enter g args) w)
  (hp : PredX g cap w (fun b=>v.ownBlock=some b) p) (hO : Own w B 58 2 v l.length (trows krow vs l)) (hv : vs.length=l.length) (hsl : ∀ s ∈ vs,∃ a n c,s = .slice a n c) (hK : Kts w v l) :
  Calls Try.prog 48 #[v,.func (.func g) #[] cap] w fun e w' => ∃ a n c,e = .returned (.slice a n c)∧n=(zq (fun x => !p x) vs l l.length).length∧(∀ b,(Value.slice a n c).ownBlock=some b→v.ownBlock=some b) ∧
   Fq (fun b=>v.ownBlock=some b) w' (fun w=>Sl w 2 (.slice a n c) n (zqrows (zq (fun x => !p x) vs l l.length)))∧ExtBut (fun b=>v.ownBlock=some b) w w':=by
 have hI:=Lib.hid (indexFunc_num hg (fun x s w hE=>hp x s w (ExtBut.of_ext hE)) hK)
 obtain ⟨a0,c0,rfl,hlc,hcm,-⟩:=hK.form
 unfold maxLen at hcm
 cases hix : l.findIdx? p with
 | none =>
  have hall : (l.take l.length).any (fun x => !(!p x))=false:=by
   rw [List.findIdx?_eq_none_iff] at hix
   rw [List.take_length,List.any_eq_false]
   intro x hx
   simpa using hix x hx
  have hz:=zq_all (q:=fun x => !p x) (vs:=vs) hall
  have hzz : (vs.zip l).take l.length=vs.zip l:=List.take_of_length_le (by rw [List.length_zip];omega)
  have hn:=Lib.hid (show l.length=(zq (fun x => !p x) vs l l.length).length by rw [hz,hzz,List.length_zip];omega)
  have hr : Fq (fun b=>(Value.slice a0 l.length c0).ownBlock=some b) w (fun w=>Sl w 2 (.slice a0 l.length c0) l.length (zqrows (zq (fun x => !p x) vs l l.length))):=by
   rw [hz,hzz]
   exact hO.fs
  replace hr:=Lib.hid hr
  replace hix:=Lib.hid hix
  clear hp hO hK hz hall hzz hv hsl
  go_enter Try.func48,Try.ntmps48
  go_wp2_with fail
  refine hI.out.mono ?_
  rintro e w1 ⟨rfl,hE1⟩
  rw [hix.out]
  dsimp only [ixK]
  go_wp2
  go_ret
  exact ⟨_,_,_,rfl,hn.out,fun _ h=>h,hr.out.ext hE1,ExtBut.of_ext hE1⟩
 | some i =>
  obtain ⟨x0,hx0,hpx0,hpre⟩:=any_of_kfind hix
  have hil:=(List.getElem?_eq_some_iff.1 hx0).1
  obtain ⟨G,cp,e,-⟩:=hO.form (by omega)
  simp only [Value.slice.injEq] at e
  obtain ⟨rfl,-,rfl⟩:=e
  have hD0 : ∀ w1,Ext w w1→DInv B w w1 G c0 (fun x => !p x) vs l (i+1)∧(zq (fun x => !p x) vs l (i+1)).length=i:=fun w1 hE=>DInv.start (hO.ext hE) hv (ExtBut.of_ext hE) hil (by simpa using hpre) hx0 (by simp [hpx0])
  have hob : (fun b=>(Value.slice (some ⟨G,0,none⟩) l.length c0).ownBlock=some b)=fun b=>b=G:=by
   funext b
   simp only [Value.ownBlock,Option.some.injEq,eq_iff_iff]
   exact ⟨fun h=>h.symm,fun h=>h.symm⟩
  rw [hob] at hp ⊢
  have q0 : ((i : Int) == -1)=false:=beq_eq_false_iff_ne.2 (by omega)
  have hB : G < w.heap.size:=(hO.lt rfl).2
  replace hp:=Lib.hid hp;replace hD0:=Lib.hid hD0;replace hix:=Lib.hid hix;replace hv:=Lib.hid hv;replace hsl:=Lib.hid hsl
  clear hO hK hx0 hpx0 hpre hob
  obtain ⟨ci,cz,hci,hcz,hczz,hci2⟩:=Stacks.infoZ
  replace hci:=Lib.hid hci;replace hcz:=Lib.hid hcz;replace hczz:=Lib.hid hczz;replace hci2:=Lib.hid hci2
  have w1' : IntKind.i64.wrap ((i : Int)+1)=(i : Int)+1:=IntWalk.i64_in _ (by omega)
  go_enter Try.func48,Try.ntmps48
  go_wp2_with fail
  refine hI.out.mono ?_
  rintro e w1 ⟨rfl,hE1⟩
  rw [hix.out]
  dsimp only [ixK]
  have hD1:=Lib.hid (hD0.out w1 hE1)
  go_wp2
  go_loopw [5,6] (fun cv jv wr => ∃ c j : Nat,c < j∧j≤l.length∧cv = .int .i64 (c : Int)∧jv = .int .i64 (j : Int)∧(zq (fun x => !p x) vs l j).length=c∧DInv B w wr G c0 (fun x => !p x) vs l j) (fun _ jv _=>l.length - (intOf jv).toNat)
  case atStart=>exact ⟨i,i+1,by omega,by omega,rfl,by go_num,hD1.out.2,hD1.out.1⟩
  case round =>
   obtain ⟨c,j,hcj,hj,rfl,rfl,hzc,hD⟩:=hrel
   obtain ⟨wj,hwj⟩ : ∃ z,wr=z:=⟨_,rfl⟩
   rw [hwj] at hD ⊢
   clear hwj
   by_cases hjl : j < l.length
   ·have hjl' : decide (j < l.length)=true:=decide_eq_true hjl
    obtain ⟨x,hx⟩ : ∃ x,l[j]? = some x:=⟨l[j],by simp [hjl]⟩
    obtain ⟨s,hs⟩ : ∃ s,vs[j]? = some s:=by have:=hv.out;exact ⟨vs[j],by simp⟩
    obtain ⟨sa,sn,sc,rfl⟩:=hsl.out s (List.mem_of_getElem? hs)
    obtain ⟨d0,d1⟩:=hD.cells hs hx
    have hGj : G < wj.heap.size:=World.block_lt_of_cell? _ _ d0
    have hj0 : (0 : Int)≤(j : Int):=by omega
    have hj1 : (j : Int) < (l.length : Int):=by omega
    have hX:=(hD.keep).trans (ExtBut.of_ext ((Ext.refl wj).alloc (.cells #[.int .i64 x.num,.slice sa sn sc] 58)))
    have hPx:=hp.out x (.slice sa sn sc) _ hX
    have hE0 : Ext wj (wj.alloc (.cells #[.int .i64 x.num,.slice sa sn sc] 58)):=(Ext.refl wj).alloc _
    have bX:=Box.new wj 58 #[.int .i64 x.num,.slice sa sn sc]
    have hH:=Lib.hid (And.intro hD (And.intro hs (And.intro hx hzc)))
    replace hPx:=Lib.hid hPx;replace bX:=Lib.hid bX
    obtain ⟨xn,xc⟩:=x
    dsimp only at d0 hE0 bX hPx
    cases hpx : p ⟨xn,xc⟩
    ·
     obtain ⟨u0,u1,o0,o1⟩:=hD.old (c:=c) (by omega)
     have hc0 : (0 : Int)≤(c : Int):=by omega
     have hc1 : (c : Int) < (l.length : Int):=by omega
     have of0:=hD.frozen (c * 2)
     have of1:=hD.frozen (c * 2+1)
     have w2' : IntKind.i64.wrap ((c : Int)+1)=(c : Int)+1:=IntWalk.i64_in _ (by omega)
     have hpxh:=Lib.hid hpx
     have hm1 : ∀ w2,Ext wj w2→w2.cell? ⟨G,c * 2,none⟩=some u0∧w2.cell? ⟨G,c * 2+1,none⟩=some u1∧w2.frozen? ⟨G,c * 2,none⟩=false∧w2.frozen? ⟨G,c * 2+1,none⟩=false:=fun w2 h=>⟨h.cell o0,h.cell o1,(h.cells.2 G (c * 2) hGj).trans of0,(h.cells.2 G (c * 2+1) hGj).trans of1⟩
     replace hm1:=Lib.hid hm1
     clear hD hs hx hzc hX hpx o0 o1 of0 of1
     go_wp2_with fail
     refine hPx.out.mono ?_
     rintro e w2 ⟨rfl,hE2⟩
     have hpx:=hpxh.out
     obtain ⟨o0,o1,of0,of1⟩:=hm1.out w2 (hE0.trans hE2)
     have bX2:=bX.out.ext hE2
     have b0 : World.cell? w2 ⟨wj.heap.size,0,none⟩=some (.int .i64 xn):=bX2.cell 0
     have b1 : World.cell? w2 ⟨wj.heap.size,1,none⟩=some (.slice sa sn sc):=bX2.cell 1
     have bl:=bX2.lt
     have hT:=Lib.hid (hH.out.1.take hH.out.2.1 hH.out.2.2.1 (by simp [hpx]) (hE0.trans hE2) hH.out.2.2.2)
     clear bX2 d0 d1
     go_wp2
     go_roundw
     case rel=>exact ⟨c+1,j+1,by omega,by omega,by go_num,by go_num,hT.out.2,hT.out.1⟩
     case measure=>simp [intOf];omega
    ·have hpxh:=Lib.hid hpx
     clear hD hs hx hzc hX hpx
     go_wp2_with fail
     refine hPx.out.mono ?_
     rintro e w2 ⟨rfl,hE2⟩
     have hpx:=hpxh.out
     have hT:=Lib.hid (hH.out.1.skip hH.out.2.1 hH.out.2.2.1 (by simp [hpx]) (hE0.trans hE2))
     have hz2:=Lib.hid ((congrArg List.length (zq_no (q:=fun x => !p x) hH.out.2.1 hH.out.2.2.1 (by simp [hpx]))).trans hH.out.2.2.2)
     clear d0 d1
     go_wp2
     go_roundw
     case rel=>exact ⟨c,j+1,by omega,by omega,rfl,by go_num,hz2.out,hT.out⟩
     case measure=>simp [intOf];omega
   ·have hje : j=l.length:=by omega
    subst hje
    have hjl' : decide (l.length < l.length)=false:=decide_eq_false (by omega)
    obtain ⟨ys,hys,-⟩:=hD.ys
    have hfr : ∀ w,(Instr.slice 25 (.slice (some ⟨G,0,none⟩) l.length c0) (some (.int .i64 (c : Int))) none none).run Try.prog w = .ok (.slice (some ⟨G,c * 2,none⟩) (l.length - c) (c0 - c)) w:=fun w=>run_slice_from2 Try.underlying25 hci.out hci2.out G l.length c0 c (by omega) hlc w
    have hut : ∀ w,(Instr.slice 25 (.slice (some ⟨G,0,none⟩) l.length c0) none (some (.int .i64 (c : Int))) none).run Try.prog w = .ok (.slice (some ⟨G,0,none⟩) c c0) w:=fun w=>run_slice_upto Try.underlying25 hci.out (some ⟨G,0,none⟩) l.length c0 c c rfl (by omega) w
    obtain ⟨w5,hr5,hO5,hX5⟩:=run_clear_from (P:=Try.prog) (ty:=0) (t:=25) (k:=2) (j:=c) Try.underlying25 hci.out hcz.out (by rw [hczz.out];rfl) (by rw [hczz.out];exact zeroCells_stk _) hys (by omega)
    have hcl:=fun ys (hys : Own wj B 58 2 (.slice (some ⟨G,0,none⟩) l.length c0) l.length ys)=>run_clear_from (P:=Try.prog) (ty:=0) (t:=25) (k:=2) (j:=c) Try.underlying25 hci.out hcz.out (by rw [hczz.out];rfl) (by rw [hczz.out];exact zeroCells_stk _) hys (by omega)
    have hfin:=hD.finish (c:=c) hzc (w':=w5) (zs:=(Builtin.zeroCells cz.cells (l.length - c)).toList) (fun ys hys=>by
     obtain ⟨w6,h1,h2,-⟩:=hcl ys hys
     have:=h1.symm.trans hr5
     simp only [Result.ok.injEq,true_and] at this
     rw [← this]
     exact h2)
    have hXe:=hD.keep.trans hX5
    replace hfin:=Lib.hid hfin;replace hXe:=Lib.hid hXe;replace hzc:=Lib.hid hzc
    clear hcl hO5 hX5 hys hD hjl hj
    go_wp2
    go_ret
    exact ⟨_,_,_,rfl,hzc.out.symm,fun b h=>by have h' : some G=some b:=h;cases h';rfl,hfin.out,hXe.out⟩
end Go.Proofs.Ytnplphcnagooeaa

/- Contracts: Forget of the program and of the reference. -/
namespace Go.Proofs.Ytnplphcnagooeaa
set_option maxRecDepth 100000
open Go.RowKit
theorem forgetR_bad {m : Mem} (h : m.ok=false) : forgetR m=(Mem.zero,8):=by simp [forgetR,h]
theorem forgetR_ok {m : Mem} (h : m.ok=true) : forgetR m=(⟨m.al.filter (·.live),m.next⟩,0):=by simp [forgetR,h]
set_option maxRecDepth 100000 in
set_option maxHeartbeats 3200000 in
theorem allocs_Forget {m : Mem} {s : Value} {w : World} (hl : Als w s m.al) (hn : i64B m.next) :
  Calls Try.prog 47 #[.agg #[s,.int .i64 m.next]] w (RetME w (forgetR m).1 (forgetR m).2):=by
 have hE0:=((Ext.refl w).alloc (.cells #[s,.int .i64 m.next] 24)).alloc (.cells #[.slice none 0 0,.int .i64 0] 24)
 obtain ⟨a,cp,rfl,hlc,hcm,-⟩:=hl.form
 unfold maxLen at hcm
 have bM:=(Box.new w 24 #[.slice a m.al.length cp,.int .i64 m.next]).ext ((Ext.refl _).alloc (.cells #[.slice none 0 0,.int .i64 0] 24))
 have bR:=Box.new (w.alloc (.cells #[.slice a m.al.length cp,.int .i64 m.next] 24)) 24 #[.slice none 0 0,.int .i64 0]
 rw [World.size_alloc] at bR
 have hCk:=Lib.hid (allocs_Check (hl.ext hE0) hn)
 have hL:=Lib.hid hl
 cases hok : m.ok
 ·have hce : Hid (memErr m.al m.next=8):=Hid.mk (memErr_bad hok)
  have hres:=Lib.hid (forgetR_bad hok)
  clear hok hl
  go_enter Try.func47,Try.ntmps47
  go_wp2_with fail
  refine hCk.out.mono ?_
  rintro e w1 ⟨rfl,hE1⟩
  rw [hce.out]
  have bR1:=bR.ext hE1
  have r0 : w1.cell? ⟨w.heap.size+1,0,none⟩=some (.slice none 0 0):=bR1.cell 0
  have r1 : w1.cell? ⟨w.heap.size+1,1,none⟩=some (.int .i64 0):=bR1.cell 1
  have rf0:=bR1.frozen 0
  have rf1:=bR1.frozen 1
  have hF1:=hE0.trans hE1
  clear bM bR bR1
  go_wp2
  rw [hres.out]
  refine bodyPost_ret (v := .tuple #[.agg #[.slice none 0 0,.int .i64 0],.int .i64 8]) (by simp [results,Try.f47,go_sem,r0,r1]) rfl ⟨_,rfl,FrM.zero _ _,(hF1.setCell (by simp) _).setCell (by simp) _⟩
 ·have hce : Hid (memErr m.al m.next=0):=Hid.mk (memErr_ok hok)
  have hsm:=small_of_ok hok
  have hl4:=(ok_bounds hok).1
  have hres:=Lib.hid (forgetR_ok hok)
  clear hok hl
  go_enter Try.func47,Try.ntmps47
  go_wp2_with fail
  refine hCk.out.mono ?_
  rintro e w1 ⟨rfl,hE1⟩
  rw [hce.out]
  have hF1:=hE0.trans hE1
  have bM1:=bM.ext hE1
  have m0 : w1.cell? ⟨w.heap.size,0,none⟩=some (.slice a m.al.length cp):=bM1.cell 0
  have m1 : w1.cell? ⟨w.heap.size,1,none⟩=some (.int .i64 m.next):=bM1.cell 1
  go_wp2_with fail
  refine (allocs_clone (hL.out.ext hF1) hsm).mono ?_
  rintro e w2 ⟨v,vs,rfl,hOM,hE2⟩
  have hF2:=hF1.trans hE2
  have hw1 : w.heap.size+1 < w1.heap.size:=(bR.ext hE1).lt
  have hvB : ∀ g,v.ownBlock=some g→w1.heap.size≤g:=fun g e=>(hOM.outer.lt e).1
  have bM2:=bM1.ext hE2
  have bR2:=(bR.ext hE1).ext hE2
  have hv:=hOM.outer.sl.slice_form
  obtain ⟨a2,cp2,rfl,hlc2,hcm2,-⟩:=hv
  unfold maxLen at hcm2
  have k0 : w2.cell? ⟨w.heap.size,0,none⟩=some (.slice a m.al.length cp):=bM2.cell 0
  have k1 : w2.cell? ⟨w.heap.size,1,none⟩=some (.int .i64 m.next):=bM2.cell 1
  have kf0:=bM2.frozen 0
  have kf1:=bM2.frozen 1
  have hX3 : ExtBut (fun b=>b=w.heap.size) w2 ((w2.setCell ⟨w.heap.size,0,none⟩ (.slice a2 m.al.length cp2)).setCell ⟨w.heap.size,1,none⟩ (.int .i64 m.next)):=(ExtBut.setCell w2 ⟨w.heap.size,0,none⟩ (.slice a2 m.al.length cp2)).trans (ExtBut.setCell _ ⟨w.heap.size,1,none⟩ (.int .i64 m.next))
  have bM3:=(bM2.set 0 (.slice a2 m.al.length cp2)).set 1 (.int .i64 m.next)
  have bR3:=bR2.but hX3 (by omega)
  have hF3:=ExtBut.ext hF2 hX3 (fun x h=>by omega)
  have hOM3:=OM.but hOM hX3 (fun g e h=>by have:=hvB g e;omega) (fun s hs g e h=>by have:=(OM.inner_lt hOM s hs g e).1;omega)
  have hcut:=run_slice_upto (P:=Try.prog) Try.underlying22 (Classical.choose_spec (Classical.choose_spec Alloc.infoE)).1 a2 m.al.length cp2 0 0 rfl (Nat.zero_le _)
  have hH:=Lib.hid (And.intro bM3 (And.intro bR3 (And.intro hF3 (And.intro hOM3 (And.intro hvB hw1)))))
  clear bM bR bM1 bM2 bR2 bM3 bR3 hOM hOM3 hF3 hX3 m0 m1 hvB
  go_wp2
  obtain ⟨w3,hw3⟩ : ∃ w3,(w2.setCell ⟨w.heap.size,0,none⟩ (.slice a2 m.al.length cp2)).setCell ⟨w.heap.size,1,none⟩ (.int .i64 m.next)=w3:=⟨_,rfl⟩
  rw [hw3] at hH ⊢
  clear hw3 hcut
  by_cases hz : m.al.length=0
  ·have hnil : m.al=[]:=List.eq_nil_of_length_eq_zero hz
   rw [hz] at hH ⊢
   have hnil':=Lib.hid hnil
   clear hz hnil hlc hlc2 hl4
   go_loopw [5,22] (fun lv iv wr=>lv = .slice a2 0 cp2∧iv = .int .i64 0∧wr=w3) (fun _ _ _=>0)
   case atStart=>exact ⟨rfl,rfl,rfl⟩
   case round =>
    obtain ⟨rfl,rfl,rfl⟩:=hrel
    obtain ⟨bM3,bR3,hF3,hOM3,hvB,-⟩:=hH.out
    have n0 : wr.cell? ⟨w.heap.size,0,none⟩=some (.slice a2 0 cp2):=bM3.cell 0
    have n1 : wr.cell? ⟨w.heap.size,1,none⟩=some (.int .i64 m.next):=bM3.cell 1
    have nf0:=bM3.frozen 0
    have r0 : wr.cell? ⟨w.heap.size+1,0,none⟩=some (.slice none 0 0):=bR3.cell 0
    have r1 : wr.cell? ⟨w.heap.size+1,1,none⟩=some (.int .i64 0):=bR3.cell 1
    have rf0:=bR3.frozen 0
    have rf1:=bR3.frozen 1
    have hfull:=run_slice_full (P:=Try.prog) Try.underlying22 (Classical.choose_spec (Classical.choose_spec Alloc.infoE)).1 a2 0 cp2 0 (Nat.zero_le _)
    have hF3':=Lib.hid hF3
    clear bM3 bR3 hF3 hOM3 hvB
    go_wp2
    rw [hres.out]
    have hX7:=((((ExtBut.setCell wr ⟨w.heap.size,0,none⟩ (.slice a2 0 0)).mono (S':=fun b=>b=w.heap.size∨b=w.heap.size+1) (fun x _ h => .inl h))).trans ((ExtBut.setCell _ ⟨w.heap.size+1,0,none⟩ (.slice a2 0 0)).mono (S':=fun b=>b=w.heap.size∨b=w.heap.size+1) (fun x _ h => .inr h))).trans ((ExtBut.setCell _ ⟨w.heap.size+1,1,none⟩ (.int .i64 m.next)).mono (S':=fun b=>b=w.heap.size∨b=w.heap.size+1) (fun x _ h => .inr h))
    refine bodyPost_ret (v := .tuple #[.agg #[.slice a2 0 0,.int .i64 m.next],.int .i64 0]) (by simp [results,Try.f47,go_sem,r0,r1]) rfl ⟨_,rfl,fun w'' _=>⟨_,rfl,?_⟩,ExtBut.ext hF3'.out hX7 (fun x h=>by omega)⟩
    rw [hnil'.out]
    exact ⟨[],trivial,⟨by simp [trows],a2,0,rfl,Nat.le_refl _,by simp [maxLen],fun _=>rfl,fun j u h=>by simp [trows] at h⟩⟩
  ·obtain ⟨bM3,bR3,hF3,hOM3,hvB,hw1'⟩:=hH.out
   obtain ⟨g,cpx,e,-,-,hg1,hg2⟩:=hOM3.outer.form (by omega)
   simp only [Value.slice.injEq] at e
   obtain ⟨rfl,-,rfl⟩:=e
   have hgm : g≠w.heap.size:=by omega
   have hvs:=(All2.iff.1 hOM3.inner).1
   have hI0:=FInv.start hOM3.outer
   have hA:=Lib.hid (And.intro bM3 (And.intro bR3 (And.intro hF3 (And.intro hOM3 (And.intro hvs hI0)))))
   clear bM3 bR3 hF3 hOM3 hvB hvs hI0
   go_loopw [5,22] (fun lv iv wr => ∃ k : Nat,k≤m.al.length∧lv = .slice (some ⟨g,0,none⟩) (zf vs m.al k).length cp2∧iv = .int .i64 k∧FInv w1.heap.size w3 wr g cp2 vs m.al k) (fun _ iv _=>m.al.length - (intOf iv).toNat)
   case atStart=>exact ⟨0,Nat.zero_le _,by rw [zf_zero];rfl,rfl,hA.out.2.2.2.2.2⟩
   case round =>
    obtain ⟨k,hk,rfl,rfl,hI⟩:=hrel
    have hzl:=zf_le (vs:=vs) (l:=m.al) k
    obtain ⟨j,hj⟩ : ∃ j,(zf vs m.al k).length=j:=⟨_,rfl⟩
    have hbM : Box wr w.heap.size 24 _:=hA.out.1.but hI.keep (fun h=>hgm h.symm)
    have hbR : Box wr (w.heap.size+1) 24 _:=hA.out.2.1.but hI.keep (fun h=>by omega)
    have hsz:=hbM.lt
    by_cases hlt : k < m.al.length
    ·obtain ⟨x,hx⟩ : ∃ x,m.al[k]? = some x:=⟨m.al[k],by simp [hlt]⟩
     obtain ⟨sv,hsv⟩ : ∃ sv,vs[k]? = some sv:=by have:=hA.out.2.2.2.2.1;exact ⟨vs[k],by simp⟩
     obtain ⟨c0,c1,c2⟩:=hI.cells hsv hx
     have hso : sv.oneCell'=true:=(OwnC.read ((All2.iff.1 hA.out.2.2.2.1.inner).2 k sv x hsv hx)).one'
     obtain ⟨ca,ccp,rfl⟩ : ∃ ca ccp,sv = .slice ca x.cells.length ccp:=by
      obtain ⟨p,q,h,-⟩:=(OwnC.read ((All2.iff.1 hA.out.2.2.2.1.inner).2 k sv x hsv hx)).form
      exact ⟨p,q,h⟩
     have hgl : g < wr.heap.size:=World.block_lt_of_cell? wr _ c0
     cases hlv : x.live
     ·rw [hlv] at c1
      have hN:=Lib.hid (hI.skip hsv hx hlv ((Ext.refl wr).alloc (.cells #[.int .i64 x.num,.bool false,.slice ca x.cells.length ccp] 78)))
      have hzz:=Lib.hid (zf_no (vs:=vs) (l:=m.al) hsv hx hlv)
      have hj':=Lib.hid hj
      rw [hj]
      clear hI hbM hbR hsv hx hlv hj
      go_wp2
      go_roundw
      case rel=>exact ⟨k+1,by omega,by rw [hzz.out,hj'.out],by go_num,hN.out⟩
      case measure=>simp [intOf];omega
     ·rw [hlv] at c1
      have hE : Ext wr ((wr.alloc (.cells #[.int .i64 x.num,.bool true,.slice ca x.cells.length ccp] 78)).alloc (.cells #[.int .i64 x.num,.bool true,.slice ca x.cells.length ccp] 78)):=((Ext.refl wr).alloc _).alloc _
      have hv1 : Sl ((wr.alloc (.cells #[.int .i64 x.num,.bool true,.slice ca x.cells.length ccp] 78)).alloc (.cells #[.int .i64 x.num,.bool true,.slice ca x.cells.length ccp] 78)) 3 (.slice (some ⟨wr.heap.size+1,0,none⟩) 1 1) 1 (arow (.slice ca x.cells.length ccp) x):=by
       have:=(Own.lit' (B:=0) (e:=78) (k:=3) (wr.alloc (.cells #[.int .i64 x.num,.bool true,.slice ca x.cells.length ccp] 78)) #[.int .i64 x.num,.bool true,.slice ca x.cells.length ccp] 1 (Nat.zero_le _) (by simp [maxLen]) rfl).sl
       rw [World.size_alloc] at this
       rw [arow,hlv]
       exact this
      obtain ⟨w6,hr6,hI6,hX6⟩:=hI.take hsv hx hlv hE hv1 hso
      have hzz:=zf_yes (vs:=vs) (l:=m.al) hsv hx hlv
      have hzl2 : Hid ((zf vs m.al (k+1)).length=j+1):=Hid.mk (by rw [hzz,List.length_append,hj];rfl)
      rw [hj] at hr6 ⊢
      have hN:=Lib.hid (And.intro hr6 hI6)
      clear hI hbM hbR hsv hx hlv hj hr6 hI6 hzz hE hv1 hX6
      go_wp2_with (at_builtin;refine Hid.out ?_)
      refine Hid.mk ?_
      refine wpList_append_run rfl _ _ 22 22 22 rfl rfl rfl rfl hN.out.1 ?_
      go_wp2
      go_roundw
      case rel=>exact ⟨k+1,by omega,by rw [hzl2.out],by go_num,hN.out.2⟩
      case measure=>simp [intOf];omega
    ·have hkl : k=m.al.length:=by omega
     subst hkl
     have n0 : wr.cell? ⟨w.heap.size,0,none⟩=some (.slice (some ⟨g,0,none⟩) m.al.length cp2):=hbM.cell 0
     have n1 : wr.cell? ⟨w.heap.size,1,none⟩=some (.int .i64 m.next):=hbM.cell 1
     have nf0:=hbM.frozen 0
     have r0 : wr.cell? ⟨w.heap.size+1,0,none⟩=some (.slice none 0 0):=hbR.cell 0
     have r1 : wr.cell? ⟨w.heap.size+1,1,none⟩=some (.int .i64 0):=hbR.cell 1
     have rf0:=hbR.frozen 0
     have rf1:=hbR.frozen 1
     have hfull:=run_slice_full (P:=Try.prog) Try.underlying22 (Classical.choose_spec (Classical.choose_spec Alloc.infoE)).1 (some ⟨g,0,none⟩) j cp2 j (by omega)
     have hj':=Lib.hid hj
     have hj6 : j≤9223372036854775807:=by omega
     have hI':=Lib.hid hI
     rw [hj]
     clear hI hbM hbR hj
     go_wp2
     rw [hres.out]
     have hX7:=((((ExtBut.setCell wr ⟨w.heap.size,0,none⟩ (.slice (some ⟨g,0,none⟩) j j)).mono (S':=fun b=>b=w.heap.size∨b=w.heap.size+1) (fun x _ h => .inl h))).trans ((ExtBut.setCell _ ⟨w.heap.size+1,0,none⟩ (.slice (some ⟨g,0,none⟩) j j)).mono (S':=fun b=>b=w.heap.size∨b=w.heap.size+1) (fun x _ h => .inr h))).trans ((ExtBut.setCell _ ⟨w.heap.size+1,1,none⟩ (.int .i64 m.next)).mono (S':=fun b=>b=w.heap.size∨b=w.heap.size+1) (fun x _ h => .inr h))
     have hF4:=ExtBut.ext hA.out.2.2.1 hI'.out.keep (fun x h=>by omega)
     refine bodyPost_ret (v := .tuple #[.agg #[.slice (some ⟨g,0,none⟩) j j,.int .i64 m.next],.int .i64 0]) (by simp [results,Try.f47,go_sem,r0,r1]) rfl ⟨_,rfl,fun w'' h2=>⟨_,rfl,?_⟩,ExtBut.ext hF4 hX7 (fun x h=>by omega)⟩
     have h9:=FInv.read (S:=fun b=>(b=w.heap.size∨b=w.heap.size+1)∨b < w.heap.size) hI'.out hA.out.2.2.2.1 hg1 ((hX7.mono (fun x _ h => .inl h)).trans (h2.mono (fun x _ h => .inr h))) (fun b h=>by omega)
     rw [hj'.out] at h9
     exact h9
set_option maxRecDepth 100000 in
set_option maxHeartbeats 3200000 in
theorem ref26_Forget {m : Mem} {s : Value} {w : World} (hl : Als w s m.al) (hn : i64B m.next) :
  Calls Try.prog 52 #[.agg #[s,.int .i64 m.next]] w (RetME w (forgetR m).1 (forgetR m).2):=by
 have hE0:=((Ext.refl w).alloc (.cells #[s,.int .i64 m.next] 24)).alloc (.cells #[.slice none 0 0,.int .i64 0] 24)
 obtain ⟨a,cp,rfl,hlc,hcm,-⟩:=hl.form
 unfold maxLen at hcm
 have bM:=(Box.new w 24 #[.slice a m.al.length cp,.int .i64 m.next]).ext ((Ext.refl _).alloc (.cells #[.slice none 0 0,.int .i64 0] 24))
 have bR:=Box.new (w.alloc (.cells #[.slice a m.al.length cp,.int .i64 m.next] 24)) 24 #[.slice none 0 0,.int .i64 0]
 rw [World.size_alloc] at bR
 have hCk:=Lib.hid (ref26_Check (hl.ext hE0) hn)
 have hL:=Lib.hid hl
 cases hok : m.ok
 ·have hce : Hid (memErr m.al m.next=8):=Hid.mk (memErr_bad hok)
  have hres:=Lib.hid (forgetR_bad hok)
  clear hok hl
  go_enter Try.func52,Try.ntmps52
  go_wp2_with fail
  refine hCk.out.mono ?_
  rintro e w1 ⟨rfl,hE1⟩
  rw [hce.out]
  have bR1:=bR.ext hE1
  have r0 : w1.cell? ⟨w.heap.size+1,0,none⟩=some (.slice none 0 0):=bR1.cell 0
  have r1 : w1.cell? ⟨w.heap.size+1,1,none⟩=some (.int .i64 0):=bR1.cell 1
  have rf0:=bR1.frozen 0
  have rf1:=bR1.frozen 1
  have hF1:=hE0.trans hE1
  clear bM bR bR1
  go_wp2
  rw [hres.out]
  refine bodyPost_ret (v := .tuple #[.agg #[.slice none 0 0,.int .i64 0],.int .i64 8]) (by simp [results,Try.f52,go_sem,r0,r1]) rfl ⟨_,rfl,FrM.zero _ _,(hF1.setCell (by simp) _).setCell (by simp) _⟩
 ·have hce : Hid (memErr m.al m.next=0):=Hid.mk (memErr_ok hok)
  have hsm:=small_of_ok hok
  have hl4:=(ok_bounds hok).1
  have hres:=Lib.hid (forgetR_ok hok)
  clear hok hl
  go_enter Try.func52,Try.ntmps52
  go_wp2_with fail
  refine hCk.out.mono ?_
  rintro e w1 ⟨rfl,hE1⟩
  rw [hce.out]
  have hF1:=hE0.trans hE1
  have bM1:=(bM.ext hE1).ext ((Ext.refl w1).alloc (.cells #[.slice none 0 0,.int .i64 m.next] 24))
  have bR1:=(bR.ext hE1).ext ((Ext.refl w1).alloc (.cells #[.slice none 0 0,.int .i64 m.next] 24))
  have bO1:=Box.new w1 24 #[.slice none 0 0,.int .i64 m.next]
  have hF1':=hF1.trans ((Ext.refl w1).alloc (.cells #[.slice none 0 0,.int .i64 m.next] 24))
  have z1 : w1.cell? ⟨w.heap.size,1,none⟩=some (.int .i64 m.next):=(bM.ext hE1).cell 1
  have z0 : w1.cell? ⟨w.heap.size,0,none⟩=some (.slice a m.al.length cp):=(bM.ext hE1).cell 0
  have hb1:=(bR.ext hE1).lt
  have hb0 : w.heap.size < w1.heap.size:=by omega
  go_wp2_with fail
  refine (ref26_Twin (hL.out.ext hF1') hsm).mono ?_
  rintro e w3 ⟨v,vs,rfl,hOM,hE3⟩
  have hF3:=hF1'.trans hE3
  have hv:=hOM.outer.sl.slice_form
  obtain ⟨a2,cp2,rfl,hlc2,hcm2,-⟩:=hv
  unfold maxLen at hcm2
  have hE4:=(Ext.refl w3).alloc (.cells #[.slice a2 m.al.length cp2,.int .i64 m.next] 24)
  have bR4:=(bR1.ext hE3).ext hE4
  have bO4:=(bO1.ext hE3).ext hE4
  have bT4:=Box.new w3 24 #[.slice a2 m.al.length cp2,.int .i64 m.next]
  have hF4:=hF3.trans hE4
  have hs13 : w1.heap.size < w3.heap.size:=(bO1.ext hE3).lt
  have hin:=OM.inner_lt hOM
  simp only [World.size_alloc] at hin
  have hvB : ∀ g,(Value.slice a2 m.al.length cp2).ownBlock=some g→w1.heap.size+1≤g∧g < w3.heap.size:=fun g e=>by have:=hOM.outer.lt e;simpa using this
  have hOM4:=OM.ext hOM hE4
  have hH:=Lib.hid (And.intro bR4 (And.intro bO4 (And.intro bT4 (And.intro hF4 (And.intro hOM4 (And.intro hin hvB))))))
  obtain ⟨ai,az,hai,haz,hai3,haz3,haby⟩:=Alloc.infoE
  have hai':=Lib.hid hai;have haz':=Lib.hid haz;have hai3':=Lib.hid hai3;have haz3':=Lib.hid haz3;have haby':=Lib.hid haby
  clear bM bR bM1 bR1 bO1 z0 z1 bR4 bO4 bT4 hF4 hOM hOM4 hin hvB hF3 hF1' hE4 hai haz hai3 haz3 haby
  go_wp2
  obtain ⟨w4,hw4⟩ : ∃ w4,w3.alloc (.cells #[.slice a2 m.al.length cp2,.int .i64 m.next] 24)=w4:=⟨_,rfl⟩
  have hs4 : w4.heap.size=w3.heap.size+1:=by rw [← hw4];simp
  rw [hw4] at hH ⊢
  clear hw4
  have hs4':=Lib.hid hs4
  clear hs4
  go_loopw [7] (fun iv wr => ∃ (k : Nat) (v' : Value),k≤m.al.length∧iv = .int .i64 k∧Box wr w1.heap.size 24 #[v',.int .i64 m.next]∧Own wr w4.heap.size 78 3 v' (zf vs m.al k).length (zrows (zf vs m.al k))∧ExtBut (fun b=>b=w1.heap.size) w4 wr) (fun iv _=>m.al.length - (intOf iv).toNat)
  case atStart=>exact ⟨0,_,Nat.zero_le _,rfl,hH.out.2.1,by rw [zf_zero];exact Own.nil _ _ _ _,ExtBut.refl _ _⟩
  case round =>
   obtain ⟨k,v',hk,rfl,bO,hO,hX⟩:=hrel
   obtain ⟨bR4,bO4,bT4,hF4,hOM4,hin,hvB⟩:=hH.out
   have hbT:=bT4.but hX (by omega)
   have hbR:=bR4.but hX (by omega)
   have t0 : wr.cell? ⟨w3.heap.size,0,none⟩=some (.slice a2 m.al.length cp2):=hbT.cell 0
   have hszT:=hbT.lt
   have hzl:=zf_le (vs:=vs) (l:=m.al) k
   obtain ⟨j,hj⟩ : ∃ j,(zf vs m.al k).length=j:=⟨_,rfl⟩
   rw [hj] at hO
   have hvlt:=fun g e=>(hO.lt (g:=g) e).1
   obtain ⟨av,cv,rfl,hcv,hcv2,-⟩:=hO.sl.slice_form
   by_cases hlt : k < m.al.length
   ·obtain ⟨x,hx⟩ : ∃ x,m.al[k]? = some x:=⟨m.al[k],by simp [hlt]⟩
    have hvi:=fun g e=>hvB g e
    obtain ⟨g,sv,rfl,hg1,hg2,hsv,hown,⟨c0,c1,c2⟩,-,-⟩:=OM.cell hOM4 hx
    have hgw:=hvB g rfl
    have hgne : g≠w1.heap.size:=by omega
    obtain ⟨ca,ccp,rfl⟩ : ∃ ca ccp,sv = .slice ca x.cells.length ccp:=by
     obtain ⟨p,q,h,-⟩:=(OwnC.read hown).form
     exact ⟨p,q,h⟩
    have c0:=hX.cell c0 hgne
    have c1:=hX.cell c1 hgne
    have c2:=hX.cell c2 hgne
    have hgl : g < wr.heap.size:=World.block_lt_of_cell? wr _ c0
    have hi0 : (0 : Int)≤(k : Int):=by omega
    have hi1 : (k : Int) < (m.al.length : Int):=by omega
    cases hlv : x.live
    ·rw [hlv] at c1
     have hzz:=zf_no (vs:=vs) (l:=m.al) hsv hx hlv
     have hN : Own wr w4.heap.size 78 3 (.slice av j cv) (zf vs m.al (k+1)).length (zrows (zf vs m.al (k+1))):=by rw [hzz,hj];exact hO
     have hN:=Lib.hid (And.intro bO (And.intro hN hX))
     clear bR4 bO4 bT4 hF4 hOM4 hin hvB hbT hbR hO bO hX hown hsv hx hlv hj hzz hvi hvlt
     go_wp2
     go_roundw
     case rel=>exact ⟨k+1,_,by omega,by go_num,hN.out.1,hN.out.2.1,hN.out.2.2⟩
     case measure=>simp [intOf];omega
    ·rw [hlv] at c1
     have o0 : wr.cell? ⟨w1.heap.size,0,none⟩=some (.slice av j cv):=bO.cell 0
     have hbO:=bO.lt
     have hv1 : Sl (wr.alloc (.cells #[.int .i64 x.num,.bool true,.slice ca x.cells.length ccp] 78)) 3 (.slice (some ⟨wr.heap.size,0,none⟩) 1 1) 1 (arow (.slice ca x.cells.length ccp) x):=by
      have:=(Own.lit' (B:=0) (e:=78) (k:=3) wr #[.int .i64 x.num,.bool true,.slice ca x.cells.length ccp] 1 (Nat.zero_le _) (by simp [maxLen]) rfl).sl
      rw [arow,hlv]
      exact this
     have hzz:=zf_yes (vs:=vs) (l:=m.al) hsv hx hlv
     have hj4 : j≤400:=by omega
     have hN:=Lib.hid (And.intro bO (And.intro hO (And.intro hX (And.intro hv1 (And.intro hzz (And.intro hj hvlt))))))
     clear bR4 bO4 bT4 hF4 hOM4 hin hvB hbT hbR hO bO hX hown hsv hx hlv hj hzz hvi hvlt hv1
     go_wp2
     go_region_law (first | (rw [if_pos (by rfl)];refine wp_append_any (.tmp 33) (.tmp 39) 22 22 rfl rfl rfl (B:=w4.heap.size) (e:=78) (n:=j) (m:=1) (xs:=zrows (zf vs m.al k)) (ys:=arow (.slice ca x.cells.length ccp) x) Try.underlying22 Try.underlying22 hai'.out haz'.out hai3'.out haz3'.out (hN.out.2.1.ext ((Ext.refl _).alloc _).drew) ?_ ?_ ?_ ?_ ?_ ?_;(exact Sl.ext hN.out.2.2.2.1 (Ext.refl _).drew);(simp [arow,Value.oneCell']);(simp [maxLen];omega);(rw [haby'.out];omega);(have:=hN.out.2.2.1.size;simp;omega);intro v' w' hO' hK' hb' _;obtain ⟨a3,cp3,rfl,-⟩:=hO'.sl.slice_form;have bO':=(hN.out.1.ext ((Ext.refl _).alloc _).drew).but (ExtBut.of_keeps hK') (fun h=>by have:=hN.out.2.2.2.2.2.2 _ h;have:=hs4'.out;omega);have k0 : w'.cell? ⟨w1.heap.size,0,none⟩=some (.slice av j cv):=bO'.cell 0;have kf:=bO'.frozen 0))
     all_goals
      have bO6:=bO'.set 0 (.slice a3 (j+1) cp3)
      have hX6 : ExtBut (fun b=>b=w1.heap.size) w4 (w'.setCell ⟨w1.heap.size,0,none⟩ (.slice a3 (j+1) cp3)):=((hN.out.2.2.1.trans (ExtBut.of_ext ((Ext.refl _).alloc _).drew)).trans' (ExtBut.of_keeps hK') (fun y hy h=>by have:=hN.out.2.2.2.2.2.2 _ h;omega)).trans (ExtBut.setCell w' ⟨w1.heap.size,0,none⟩ (.slice a3 (j+1) cp3))
      have hO6:=ExtBut.own hO' (ExtBut.setCell w' ⟨w1.heap.size,0,none⟩ (.slice a3 (j+1) cp3)) (fun y e h=>by have:=(hO'.lt e).1;have:=hs4'.out;have h' : y=w1.heap.size:=h;omega)
      have hO7 : Own (w'.setCell ⟨w1.heap.size,0,none⟩ (.slice a3 (j+1) cp3)) w4.heap.size 78 3 (.slice a3 (j+1) cp3) (zf vs m.al (k+1)).length (zrows (zf vs m.al (k+1))):=by
       rw [hN.out.2.2.2.2.1,List.length_append,hN.out.2.2.2.2.2.1,zrows,List.flatMap_append,← zrows]
       simpa using hO6
      have hR:=Lib.hid (And.intro bO6 (And.intro hO7 hX6))
      clear bO' k0 kf hO' hK' hb' bO6 hX6 hO6 hO7
      go_wp2
      go_roundw
      case rel=>exact ⟨k+1,_,by omega,by go_num,hR.out.1,hR.out.2.1,hR.out.2.2⟩
      case measure=>simp [intOf];omega
   ·have hkl : k=m.al.length:=by omega
    subst hkl
    have o0 : wr.cell? ⟨w1.heap.size,0,none⟩=some (.slice av j cv):=bO.cell 0
    have o1 : wr.cell? ⟨w1.heap.size,1,none⟩=some (.int .i64 m.next):=bO.cell 1
    have r0 : wr.cell? ⟨w.heap.size+1,0,none⟩=some (.slice none 0 0):=hbR.cell 0
    have r1 : wr.cell? ⟨w.heap.size+1,1,none⟩=some (.int .i64 0):=hbR.cell 1
    have rf0:=hbR.frozen 0
    have rf1:=hbR.frozen 1
    have hzr:=Lib.hid (And.intro hO (And.intro hX (And.intro hj (And.intro hF4 (And.intro hOM4 (And.intro hin hvlt))))))
    clear bR4 bO4 bT4 hF4 hOM4 hin hvB hbT hbR hO bO hX hj hvlt
    go_wp2
    rw [hres.out]
    obtain ⟨hO,hX,hj,hF4,hOM4,hin,hvlt⟩:=hzr.out
    have hXr:=((ExtBut.setCell wr ⟨w.heap.size+1,0,none⟩ (.slice av j cv)).mono (S':=fun b=>b=w.heap.size+1) (fun y _ h=>h)).trans ((ExtBut.setCell _ ⟨w.heap.size+1,1,none⟩ (.int .i64 m.next)).mono (S':=fun b=>b=w.heap.size+1) (fun y _ h=>h))
    have hs4:=hs4'.out
    have hF5:=ExtBut.ext hF4 hX (fun y h=>by omega)
    refine bodyPost_ret (v := .tuple #[.agg #[.slice av j cv,.int .i64 m.next],.int .i64 0]) (by simp [results,Try.f52,go_sem,r0,r1]) rfl ⟨_,rfl,fun w'' h2=>⟨_,rfl,?_⟩,ExtBut.ext hF5 hXr (fun y h=>by omega)⟩
    have hl:=(All2.iff.1 hOM4.inner).1
    have e1:=zf_snd hl
    have hX9:=(hXr.mono (S':=fun b=>b=w.heap.size+1∨b < w.heap.size) (fun _ _ h => .inl h)).trans (h2.mono (fun _ _ h => .inr h))
    refine ⟨(zf vs m.al m.al.length).map Prod.fst,?_,?_⟩
    ·rw [← e1]
     refine All2.map _ _ _ fun p hp => ?_
     have hp2:=List.mem_of_mem_take (List.mem_filter.1 hp).1
     obtain ⟨i,hi⟩:=List.mem_iff_getElem?.1 hp2
     rw [List.getElem?_zip_eq_some] at hi
     have hr:=(All2.iff.1 hOM4.inner).2 i _ _ hi.1 hi.2
     have h5:=hin p.1 (List.mem_of_getElem? hi.1)
     exact ExtBut.sl (ExtBut.sl (OwnC.read hr) hX (fun b e hb=>by have:=(h5 b e).1;have h' : b=w1.heap.size:=hb;omega)) hX9 (fun b e hb=>by have:=(h5 b e).1;omega)
    ·have h7:=(ExtBut.own hO hX9 (fun b e hb=>by have:=hvlt b e;omega)).sl
     rw [← e1,zf_rows,List.length_map,hj]
     exact h7
end Go.Proofs.Ytnplphcnagooeaa
