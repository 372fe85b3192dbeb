/- Several texts in one: Lib, Data, Read, Tab, ReadS. -/
import Derived.WalkKit
import Derived.WalkSpells
import Derived.WalkLawsBesides
import Derived.Deep.AppendSrc
import Derived.Lib.Hide
import Derived.Lib.LazyBuf
import Derived.WalkSmall
import Derived.Test.YtoanoodfacmieaaGreatDoorRows
import Derived.ProofKit
import Derived.Deep.Slices
/- What a slice in memory reads aas, which worlds extend which, and what append does to a slice that the call owns; nothing here speaks of the program. -/
namespace Go.Proofs.YtoanoodfacmieaaGreatDoor
set_option maxRecDepth 100000
open Go.RowKit
theorem Hid.mk {p : Prop} (h : p) : Hid p:=h
def All2 {α β : Type} (R : α→β→Prop) : List α→List β→Prop
 | [],[]=>True
 | a :: aas,b :: bs=>R a b∧All2 R aas bs
 | _,_=>False
theorem All2.length {α β : Type} {R : α→β→Prop} : ∀ {aas : List α} {bs : List β},All2 R aas bs→aas.length=bs.length
 | [],[],_=>rfl
 | _ :: _,_ :: _,h=>by simp [All2.length h.2]
theorem All2.get {α β : Type} {R : α→β→Prop} {aas : List α} {bs : List β} (h : All2 R aas bs) {i : Nat} {b : β} (hx : bs[i]? = some b) : ∃ a,aas[i]? = some a∧R a b:=by
 induction aas generalizing bs i with
 | nil=>cases bs with
  | nil=>simp at hx
  | cons b bs=>exact h.elim
 | cons a aas ih=>cases bs with
  | nil=>exact h.elim
  | cons b' bs =>
   cases i with
   | zero=>simp only [List.getElem?_cons_zero,Option.some.injEq] at hx;subst hx;exact ⟨a,rfl,h.1⟩
   | succ i=>simpa using ih h.2 (by simpa using hx)
theorem All2.get' {α β : Type} {R : α→β→Prop} {aas : List α} {bs : List β} (h : All2 R aas bs) {i : Nat} {a : α} (ha : aas[i]? = some a) : ∃ b,bs[i]? = some b∧R a b:=by
 have hi : i < bs.length:=by rw [← h.length];exact (List.getElem?_eq_some_iff.1 ha).1
 obtain ⟨a',h1,h2⟩:=h.get (List.getElem?_eq_getElem hi)
 rw [ha] at h1
 cases h1
 exact ⟨_,List.getElem?_eq_getElem hi,h2⟩
theorem All2.mono {α β : Type} {R R' : α→β→Prop} (hr : ∀ a b,R a b→R' a b) : ∀ {aas : List α} {bs : List β},All2 R aas bs→All2 R' aas bs
 | [],[],_=>trivial
 | _ :: _,_ :: _,h=>⟨hr _ _ h.1,All2.mono hr h.2⟩
theorem All2.append {α β : Type} {R : α→β→Prop} {aas as' : List α} {bs bs' : List β} (h : All2 R aas bs) (h' : All2 R as' bs') : All2 R (aas ++ as') (bs ++ bs'):=by
 induction aas generalizing bs with
 | nil=>cases bs with
  | nil=>exact h'
  | cons b bs=>exact h.elim
 | cons a aas ih=>cases bs with
  | nil=>exact h.elim
  | cons b bs=>exact ⟨h.1,ih h.2⟩
theorem All2.map {α β γ : Type} {R : α→β→Prop} (f : γ→α) (g : γ→β) : ∀ (l : List γ),(∀ x ∈ l,R (f x) (g x))→All2 R (l.map f) (l.map g)
 | [],_=>trivial
 | x :: l,h=>⟨h x (by simp),All2.map f g l fun y hy=>h y (by simp [hy])⟩
theorem All2.take {α β : Type} {R : α→β→Prop} : ∀ {aas : List α} {bs : List β} (n : Nat),All2 R aas bs→All2 R (aas.take n) (bs.take n)
 | [],[],n,_=>by simp [All2]
 | _ :: _,_ :: _,0,_=>trivial
 | _ :: _,_ :: _,n+1,h=>⟨h.1,All2.take n h.2⟩
theorem All2.drop {α β : Type} {R : α→β→Prop} : ∀ {aas : List α} {bs : List β} (n : Nat),All2 R aas bs→All2 R (aas.drop n) (bs.drop n)
 | [],[],n,_=>by simp [All2]
 | _ :: _,_ :: _,0,h=>h
 | _ :: _,_ :: _,n+1,h=>All2.drop n h.2
theorem All2.set {α β : Type} {R : α→β→Prop} {a : α} {b : β} (hab : R a b) : ∀ {aas : List α} {bs : List β} (n : Nat),All2 R aas bs→All2 R (aas.set n a) (bs.set n b)
 | [],[],n,_=>by simp [All2]
 | _ :: _,_ :: _,0,h=>⟨hab,h.2⟩
 | _ :: _,_ :: _,n+1,h=>⟨h.1,All2.set hab n h.2⟩
def Ext (w w' : World) : Prop:=Below w.heap.size w w'
theorem Ext.refl (w : World) : Ext w w:=Below.refl _ _
theorem Ext.size {a b : World} (h : Ext a b) : a.heap.size≤b.heap.size:=Below.size h
theorem Ext.trans {a b c : World} (h : Ext a b) (k : Ext b c) : Ext a c:=Below.trans h (Below.mono k h.size)
theorem Ext.alloc {a w : World} (h : Ext a w) (o : Obj) : Ext a (w.alloc o):=Below.alloc h h.size o
theorem Ext.drew {a w : World} (h : Ext a w) : Ext a w.drew:=Below.drew h
theorem Ext.drewN {a w : World} (h : Ext a w) (n : Nat) : Ext a (w.drewN n):=below_drewN h n
theorem Ext.setCell {a w : World} (h : Ext a w) {p : Addr} (hp : a.heap.size≤p.block) (u : Value) : Ext a (w.setCell p u):=Below.setCell h hp u
theorem Ext.below {B : Nat} {a b c : World} (h : Below B a b) (hB : B≤b.heap.size) (k : Ext b c) : Below B a c:=Below.trans h (Below.mono k hB)
theorem Ext.blk {a w : World} (h : Ext a w) {b : Nat} (hb : b < a.heap.size) : w.heap[b]? = a.heap[b]? := Below.block h b hb
theorem Ext.cell {a w : World} (h : Ext a w) {p : Addr} {v : Value} (hv : a.cell? p=some v) : w.cell? p=some v :=
 (Below.cell h (World.block_lt_of_cell? a p hv)).trans hv
theorem Ext.cells {W w1 : World} (h : Ext W w1) : (∀ b o,b < W.heap.size→w1.cell? ⟨b,o,none⟩=W.cell? ⟨b,o,none⟩)∧(∀ b o,b < W.heap.size→w1.frozen? ⟨b,o,none⟩=W.frozen? ⟨b,o,none⟩) :=
 ⟨fun b o hb=>Below.cell (p:=⟨b,o,none⟩) h hb,fun b o hb=>Below.frozen (p:=⟨b,o,none⟩) h hb⟩
def Sl (w : World) (k : Nat) (v : Value) (n : Nat) (xs : List Value) : Prop :=
 xs.length=n * k ∧ ∃ a cap,v = .slice a n cap∧n≤cap∧cap≤maxLen∧(a=none→cap=0) ∧
  ∀ j u,xs[j]? = some u → ∃ b off,a=some ⟨b,off,none⟩∧w.cell? ⟨b,off+j,none⟩=some u
theorem Sl.len {w : World} {k : Nat} {v : Value} {n : Nat} {xs : List Value} (h : Sl w k v n xs) : xs.length=n * k:=h.1
theorem Sl.ext {w w' : World} {k : Nat} {v : Value} {n : Nat} {xs : List Value} (h : Sl w k v n xs) (he : Ext w w') : Sl w' k v n xs:=by
 obtain ⟨h1,a,cap,h2,h3,h4,h5,h6⟩:=h
 refine ⟨h1,a,cap,h2,h3,h4,h5,fun j u hj => ?_⟩
 obtain ⟨b,off,e,hc⟩:=h6 j u hj
 exact ⟨b,off,e,he.cell hc⟩
theorem Sl.nil (w : World) (k : Nat) : Sl w k (.slice none 0 0) 0 [] :=
 ⟨by simp,none,0,rfl,Nat.le_refl _,by simp [maxLen],fun _=>rfl,fun j u h=>by simp at h⟩
theorem Sl.zero {w : World} {k : Nat} {v : Value} {xs : List Value} (h : Sl w k v 0 xs) : xs=[]:=List.eq_nil_of_length_eq_zero (by simpa using h.1)
theorem Sl.slice_form {w : World} {k : Nat} {v : Value} {n : Nat} {xs : List Value} (h : Sl w k v n xs) : ∃ a cap,v = .slice a n cap∧n≤cap∧cap≤maxLen∧(a=none→cap=0):=by
 obtain ⟨_,a,cap,h2,h3,h4,h5,_⟩:=h
 exact ⟨a,cap,h2,h3,h4,h5⟩
theorem Sl.at {w : World} {k : Nat} {a : Option Addr} {n m cap : Nat} {xs : List Value} (h : Sl w k (.slice a m cap) n xs) (hk : 0 < k) (hn : 0 < n) :
  ∃ b off,a=some ⟨b,off,none⟩∧b < w.heap.size ∧ ∀ j u,xs[j]? = some u→w.cell? ⟨b,off+j,none⟩=some u:=by
 obtain ⟨h1,a',cap',e,_,_,_,h6⟩:=h
 simp only [Value.slice.injEq] at e
 obtain ⟨rfl,rfl,rfl⟩:=e
 have hx : 0 < xs.length:=by rw [h1];exact Nat.mul_pos hn hk
 obtain ⟨b,off,rfl,hc⟩:=h6 0 xs[0] (by simp [hx])
 refine ⟨b,off,rfl,World.block_lt_of_cell? w _ hc,fun j u hj => ?_⟩
 obtain ⟨b',off',e,hc'⟩:=h6 j u hj
 simp only [Option.some.injEq,Addr.mk.injEq,and_true] at e
 obtain ⟨rfl,rfl⟩:=e
 exact hc'
theorem Sl.firstCells {P : Program} {w : World} {k : Nat} {a : Option Addr} {n m cap : Nat} {xs : List Value} (h : Sl w k (.slice a m cap) n xs) :
  (Builtin.firstCells k n (.slice a m cap)).run P w = .ok xs.toArray w:=by
 obtain ⟨h1,a',cap',e,_,_,_,h6⟩:=h
 simp only [Value.slice.injEq] at e
 obtain ⟨rfl,rfl,rfl⟩:=e
 cases a with
 | none =>
  have hx : xs=[]:=by
   cases xs with
   | nil=>rfl
   | cons x xs=>obtain ⟨b,off,e,_⟩:=h6 0 x rfl;cases e
  subst hx
  exact run_firstCells_none w k m m cap
 | some ad =>
  refine run_firstCells_some w k m ad m cap xs h1 fun j u hj => ?_
  obtain ⟨b,off,e,hc⟩:=h6 j u hj
  simp only [Option.some.injEq] at e
  subst e
  have hadd : (⟨b,off,none⟩ : Addr).add j=⟨b,off+j,none⟩:=by unfold Addr.add;split <;> simp_all
  rw [hadd];exact hc
theorem Sl.src {P : Program} {w : World} {k : Nat} {v : Value} {n : Nat} {xs : List Value} {tx e' : TypeId} (h : Sl w k v n xs) (hk : P.underlying tx=some (.slice e')) (h1 : ∀ u ∈ xs,u.oneCell'=true) : Src P k tx v n xs w:=by
 obtain ⟨a,cap,rfl,_⟩:=h.slice_form
 exact ⟨.inl ⟨e',hk⟩,fun _=>rfl,h.firstCells,(h.ext (Ext.refl w).drew).firstCells,h.len,h1⟩
theorem Sl.take {w : World} {k : Nat} {a : Option Addr} {n m cap : Nat} {xs : List Value} (h : Sl w k (.slice a m cap) n xs) (i : Nat) (hi : i≤n) : Sl w k (.slice a i cap) i (xs.take (i * k)):=by
 obtain ⟨h1,a',cap',e,h3,h4,h5,h6⟩:=h
 simp only [Value.slice.injEq] at e
 obtain ⟨rfl,rfl,rfl⟩:=e
 refine ⟨by rw [List.length_take,h1];exact Nat.min_eq_left (Nat.mul_le_mul_right _ hi),a,cap,rfl,by omega,h4,h5,fun j u hj => ?_⟩
 rw [List.getElem?_take] at hj
 split at hj
 ·exact h6 j u hj
 ·cases hj
theorem Sl.drop {w : World} {k : Nat} {a : Option Addr} {n m cap : Nat} {xs : List Value} (h : Sl w k (.slice a m cap) n xs) (i : Nat) (hi : i≤n) :
  Sl w k (.slice (if cap=i then a else a.map (·.add (i * k))) (n - i) (cap - i)) (n - i) (xs.drop (i * k)):=by
 obtain ⟨h1,a',cap',e,h3,h4,h5,h6⟩:=h
 simp only [Value.slice.injEq] at e
 obtain ⟨rfl,rfl,rfl⟩:=e
 refine ⟨by rw [List.length_drop,h1,Nat.sub_mul],_,_,rfl,by omega,by omega,?_,fun j u hj => ?_⟩
 ·intro hn
  split at hn
  ·have:=h5 hn;omega
  ·have:=h5 (by simpa using hn);omega
 ·rw [List.getElem?_drop] at hj
  obtain ⟨b,off,e,hc⟩:=h6 _ u hj
  subst e
  have hlt : i * k+j < xs.length:=by
   rcases Nat.lt_or_ge (i * k+j) xs.length with h | h
   ·exact h
   ·rw [List.getElem?_eq_none h] at hj;cases hj
  have hne : ¬ cap=i:=by
   intro e
   have : m=i:=by omega
   subst this
   omega
  rw [if_neg hne]
  refine ⟨b,off+i * k,?_,by rw [Nat.add_assoc];exact hc⟩
  simp only [Option.map_some,Option.some.injEq]
  unfold Addr.add
  split <;> simp_all
theorem run_slice_from {P : Program} {t e : TypeId} {i : TypeInfo} (ht : P.underlying t=some (.slice e)) (hi : P.info? e=some i) (a : Option Addr) (n cap : Nat) (x : Int) (k : Nat) (hx : x=k) (hk : k≤n) (w : World) :
  (Instr.slice t (.slice a n cap) (some (.int .i64 x)) none none).run P w = .ok (.slice (if cap=k then a else a.map (·.add (k * i.size))) (n - k) (cap - k)) w:=by
 subst hx
 simp [Instr.slice,run_underlying ht,Instr.sliceBounds,Instr.sliceBound,asIntOf,hk,sizeOf,typeInfo,hi]
theorem run_slice_upto {P : Program} {t e : TypeId} {i : TypeInfo} (ht : P.underlying t=some (.slice e)) (hi : P.info? e=some i) (a : Option Addr) (n cap : Nat) (x : Int) (k : Nat) (hx : x=k) (hk : k≤cap) (w : World) :
  (Instr.slice t (.slice a n cap) none (some (.int .i64 x)) none).run P w = .ok (.slice a k cap) w:=by
 subst hx
 simp [Instr.slice,run_underlying ht,Instr.sliceBounds,Instr.sliceBound,asIntOf,hk,sizeOf,typeInfo,hi]
 intro _
 cases a with
 | none=>rfl
 | some a=>simp [Addr.add]
def Own (w : World) (B : Nat) (e : TypeId) (k : Nat) (v : Value) (n : Nat) (xs : List Value) : Prop:=w.ownsRow B e k v n xs
structure Keeps (w w' : World) (B : Nat) (v : Value) : Prop where
 below : Below B w w'
 block : ∀ b,b < w.heap.size→(v.ownBlock=some b→b < B)→w'.heap[b]? = w.heap[b]?
theorem Own.nil (w : World) (B : Nat) (e : TypeId) (k : Nat) : Own w B e k (.slice none 0 0) 0 []:=w.ownsRow_nil B e k
theorem Own.sl {w : World} {B : Nat} {e : TypeId} {k : Nat} {v : Value} {n : Nat} {xs : List Value} (h : Own w B e k v n xs) : Sl w k v n xs:=by
 have hc : ∀ g,v.ownBlock=some g → ∀ j u,xs[j]? = some u→w.cell? ((⟨g,0,none⟩ : Addr).add j)=some u:=fun g hg=>World.ownsRow.cells h hg
 rcases h.2 with ⟨rfl,rfl⟩ | ⟨g,cap,cur,rfl,hb,hg,hnc,hcm,hcs,htake⟩
 ·have hx : xs=[]:=List.eq_nil_of_length_eq_zero (by simpa using h.1)
  subst hx
  exact Sl.nil w k
 ·refine ⟨h.1,_,_,rfl,hnc,hcm,(fun h=>by cases h),fun j u hj=>⟨g,0,rfl,?_⟩⟩
  have:=hc g rfl j u hj
  have hadd : (⟨g,0,none⟩ : Addr).add j=⟨g,0+j,none⟩:=by unfold Addr.add;split <;> simp_all
  rw [hadd] at this
  exact this
theorem Own.ext {w w' : World} {B : Nat} {e : TypeId} {k : Nat} {v : Value} {n : Nat} {xs : List Value} (h : Own w B e k v n xs) (he : Ext w w') : Own w' B e k v n xs:=by
 refine ⟨h.1,?_⟩
 rcases h.2 with h2 | ⟨g,cap,cur,hv,hg,hh,r⟩
 ·exact Or.inl h2
 ·exact Or.inr ⟨g,cap,cur,hv,hg,by rw [he.blk (Array.getElem?_eq_some_iff.1 hh).1];exact hh,r⟩
theorem Own.mono {w : World} {B B' : Nat} {e : TypeId} {k : Nat} {v : Value} {n : Nat} {xs : List Value} (h : Own w B e k v n xs) (hB : B'≤B) : Own w B' e k v n xs:=by
 refine ⟨h.1,?_⟩
 rcases h.2 with h2 | ⟨g,cap,cur,hv,hg,r⟩
 ·exact Or.inl h2
 ·exact Or.inr ⟨g,cap,cur,hv,Nat.le_trans hB hg,r⟩
theorem Own.lt {w : World} {B : Nat} {e : TypeId} {k : Nat} {v : Value} {n : Nat} {xs : List Value} (h : Own w B e k v n xs) {g : Nat} (hg : v.ownBlock=some g) : B≤g∧g < w.heap.size:=World.ownsRow.lt h g hg
theorem Own.keeps {w w' : World} {B B' : Nat} {e : TypeId} {k : Nat} {v u : Value} {n : Nat} {xs : List Value} (h : Own w B e k v n xs) (hK : Keeps w w' B' u) (hne : ∀ g,v.ownBlock=some g→u.ownBlock≠some g) : Own w' B e k v n xs:=by
 refine ⟨h.1,?_⟩
 rcases h.2 with h2 | ⟨g,cap,cur,rfl,hg,hh,r⟩
 ·exact Or.inl h2
 ·refine Or.inr ⟨g,cap,cur,rfl,hg,?_,r⟩
  rw [hK.block g (Array.getElem?_eq_some_iff.1 hh).1 (fun e=>absurd e (hne g rfl))]
  exact hh
theorem Own.form {w : World} {B : Nat} {e : TypeId} {k : Nat} {v : Value} {n : Nat} {xs : List Value} (h : Own w B e k v n xs) (hn : 0 < n) : ∃ g cap,v = .slice (some ⟨g,0,none⟩) n cap∧n≤cap∧cap≤maxLen∧B≤g∧g < w.heap.size:=by
 rcases h.2 with ⟨_,rfl⟩ | ⟨g,cap,cur,rfl,hg,hh,hnc,hcm,_⟩
 ·omega
 ·exact ⟨g,cap,rfl,hnc,hcm,hg,(Array.getElem?_eq_some_iff.1 hh).1⟩
theorem Own.set {w : World} {B : Nat} {e : TypeId} {k : Nat} {g n cap : Nat} {xs : List Value} (h : Own w B e k (.slice (some ⟨g,0,none⟩) n cap) n xs) (j : Nat) (u : Value) :
  Own (w.setCell ⟨g,j,none⟩ u) B e k (.slice (some ⟨g,0,none⟩) n cap) n (xs.set j u):=(World.ownsRow.stored h j u).1
theorem Own.frozen {w : World} {B : Nat} {e : TypeId} {k : Nat} {g n cap : Nat} {xs : List Value} (h : Own w B e k (.slice (some ⟨g,0,none⟩) n cap) n xs) (j : Nat) : w.frozen? ⟨g,j,none⟩=false:=World.ownsRow.frozenAt h j
theorem Own.cellAt {w : World} {B : Nat} {e : TypeId} {k : Nat} {g n cap : Nat} {xs : List Value} (h : Own w B e k (.slice (some ⟨g,0,none⟩) n cap) n xs) (j : Nat) (hj : j < n * k) : w.cell? ⟨g,j,none⟩=xs[j]? := World.ownsRow.cellAt h j hj
theorem Own.setKeeps {w : World} {B B' : Nat} {e : TypeId} {k : Nat} {g n cap : Nat} {xs : List Value} (h : Own w B e k (.slice (some ⟨g,0,none⟩) n cap) n xs) (hB : B'≤B) (j : Nat) (u : Value) : Keeps w (w.setCell ⟨g,j,none⟩ u) B' (.slice (some ⟨g,0,none⟩) n cap):=by
 have hg:=(h.lt rfl).1
 refine ⟨Below.setCell (p:=⟨g,j,none⟩) (Below.refl _ w) (Nat.le_trans hB hg) _,fun b _ hb'=>Below.heap_setCell _ _ _ _ (fun e => ?_)⟩
 subst e
 exact Nat.lt_irrefl _ (Nat.lt_of_lt_of_le (hb' rfl) (Nat.le_trans hB hg))
theorem Sl.of_block {w w' : World} {k : Nat} {v : Value} {n : Nat} {xs : List Value} (h : Sl w k v n xs) (hb : ∀ g,v.ownBlock=some g→w'.heap[g]? = w.heap[g]?) : Sl w' k v n xs:=by
 obtain ⟨h1,a,cap,rfl,h3,h4,h5,h6⟩:=h
 refine ⟨h1,a,cap,rfl,h3,h4,h5,fun j u hj => ?_⟩
 obtain ⟨b,off,rfl,hc⟩:=h6 j u hj
 exact ⟨b,off,rfl,(World.cell?_of_block (a:=⟨b,off+j,none⟩) (hb b rfl)).trans hc⟩
theorem results_tmp4 {fn : Func} {t u v x : Tmp} (h : fn.results=#[.tmp t,.tmp u,.tmp v,.tmp x]) (tmps : Array Value) (P : Program) (w : World) :
  (results fn tmps).run P w = .ok (.tuple #[tmps.getD t undef,tmps.getD u undef,tmps.getD v undef,tmps.getD x undef]) w:=by
 simp [results,h]
theorem Keeps.refl (w : World) (B : Nat) (v : Value) : Keeps w w B v:=⟨Below.refl _ _,fun _ _ _=>rfl⟩
theorem Keeps.of_ext {w w' : World} (h : Ext w w') {B : Nat} (hB : B≤w.heap.size) (v : Value) : Keeps w w' B v :=
 ⟨Below.mono h hB,fun _ hb _=>h.blk hb⟩
theorem run_append_any {P : Program} {w : World} {B : Nat} {t tx ty e e' : TypeId} {i : TypeInfo} {z : Value} {k : Nat} {v x : Value} {n m : Nat} {xs ys : List Value}
  (ht : P.underlying t=some (.slice e)) (htx : P.underlying tx=some (.slice e')) (hi : P.info? e=some i) (hz : i.zero=some z) (hik : i.size=k) (hzk : z.cells.size=k)
  (hown : Own w B e k v n xs) (hx : Sl w k x m ys) (h1 : ∀ u ∈ ys,u.oneCell'=true) (h63 : n+m≤maxLen) (hbytes : (n+m) * i.bytes≤140737488355328) (hB : B≤w.heap.size) :
  ∃ v' w',(Builtin.append_ #[t,tx] ty #[v,x]).run P w = .ok v' w'∧Own w' B e k v' (n+m) (xs ++ ys)∧Keeps w w' B v ∧
   (v'.ownBlock=v.ownBlock ∨ ∃ g,v'.ownBlock=some g∧w.heap.size≤g)∧(0 < m → ∃ g,v'.ownBlock=some g∧B≤g):=by
 subst hik
 have hsrc:=hx.src htx h1
 have hsmall : n+m≤9223372036854775807:=by simp only [maxLen] at h63;omega
 have hlen : (xs ++ ys).length=(n+m) * i.size:=by rw [List.length_append,hown.sl.len,hx.len,Nat.add_mul]
 have grow : ∀ (a : Option Addr) (c : Nat),v = .slice a n c→n≤c→c < n+m →
   ∃ v' w',(Builtin.append_ #[t,tx] ty #[v,x]).run P w = .ok v' w'∧Own w' B e i.size v' (n+m) (xs ++ ys)∧Keeps w w' B v ∧
    (v'.ownBlock=v.ownBlock ∨ ∃ g,v'.ownBlock=some g∧w.heap.size≤g)∧(0 < m → ∃ g,v'.ownBlock=some g∧B≤g):=by
  intro a c hv hnc hc
  subst hv
  have hold:=((hown.sl.ext (Ext.refl w).drew).firstCells (P:=P))
  have hr:=run_append_grow_src (P:=P) w t tx ty e i z ht hi hz a n c xs hold x m ys hsrc hc (by omega) (growslice_fits (by omega) hbytes)
  have hge:=grownCap_ge w (n+m) c e
  have hcm : grownCap w (n+m) c e≤maxLen:=grownCap_le_maxLen w (n+m) c e h63
  refine ⟨_,_,hr,⟨hlen,.inr ⟨w.heap.size,_,_,rfl,hB,heap_alloc_new w.drew _,hge,hcm,?_,?_⟩⟩,Keeps.of_ext ((Ext.refl w).drew.alloc _) hB _,.inr ⟨_,rfl,Nat.le_refl _⟩,fun _=>⟨_,rfl,hB⟩⟩
  ·rw [Array.size_append,List.size_toArray,size_zeroCells,hzk,hlen,← Nat.add_mul]
   congr 1
   omega
  ·rw [Array.toList_append,← hlen]
   exact List.take_left
 have hrow:=hown
 rcases hrow.2 with ⟨hv,hn⟩ | ⟨g,cap,cur,hv,hbg,hg,hnc,hcm,hcs,htake⟩
 ·subst hv hn
  by_cases hm : m=0
  ·subst hm
   have hys:=hx.zero
   subst hys
   have hroom : (Builtin.append_ #[t,tx] ty #[.slice none 0 0,x]).run P w = .ok (.slice none 0 0) w:=by
    rcases hsrc.kind with ⟨e',hk⟩ | hk <;> simp [Builtin.append_,run_underlying ht,run_underlying hk,sizeOf,typeInfo,hi,hsrc.len,hsrc.cells]
   have hxs : xs=[]:=List.eq_nil_of_length_eq_zero (by simpa using hrow.1)
   subst hxs
   exact ⟨_,_,hroom,Own.nil _ _ _ _,Keeps.refl _ _ _,.inl rfl,fun h=>(by omega)⟩
  ·exact grow none 0 rfl (Nat.le_refl _) (by omega)
 ·subst hv
  by_cases hroom : n+m≤cap
  ·have hcl : ∀ j,j < ys.length→g < w.heap.size∧w.heap[g]? = some (.cells cur e (0,0))∧n * i.size+j < cur.size:=fun j hj=>by
    refine ⟨(Array.getElem?_eq_some_iff.1 hg).1,hg,?_⟩
    rw [hcs]
    have h2:=hx.len
    have h3 : (n+m) * i.size≤cap * i.size:=Nat.mul_le_mul_right _ hroom
    rw [Nat.add_mul] at h3
    omega
   have hfit : n * i.size+ys.length≤cur.size:=by rw [hx.len,hcs,← Nat.add_mul];exact Nat.mul_le_mul_right _ hroom
   have hst:=run_storeCells_at P g (n * i.size) e ys 0 cur w hg (by simpa using hfit) h1
   simp only [Nat.add_zero] at hst
   have hr : (Builtin.append_ #[t,tx] ty #[.slice (some ⟨g,0,none⟩) n cap,x]).run P w =
     .ok (.slice (some ⟨g,0,none⟩) (n+m) cap) (w.setRow g (cur.toList.take (n * i.size) ++ ys ++ cur.toList.drop (n * i.size+ys.length)).toArray):=by
    rcases hsrc.kind with ⟨e',hk⟩ | hk <;> simp [Builtin.append_,run_underlying ht,run_underlying hk,sizeOf,typeInfo,hi,hsrc.len,hroom,hsrc.cells,Addr.add_lit,hst]
   refine ⟨_,_,hr,⟨hlen,.inr ⟨g,cap,_,rfl,hbg,setRow_heap w g cur _ e _ hg,hroom,hcm,?_,?_⟩⟩,⟨⟨rfl,rfl,rfl,by simp,fun b hb=>setRow_other w g b _ (by omega)⟩,fun b _ hb' => ?_⟩,.inl rfl,fun _=>⟨g,rfl,hbg⟩⟩
   ·simp only [List.size_toArray,List.length_append,List.length_take,List.length_drop,Array.length_toList]
    omega
   ·rw [htake,← hlen]
    exact List.take_left
   ·refine setRow_other w g b _ (fun e => ?_)
    have:=hb' (by simp [Value.ownBlock,e])
    omega
  ·exact grow (some ⟨g,0,none⟩) cap rfl hnc (by omega)
theorem wp_append_any {P : Program} {w : World} {o : Oper} {a : Act} {K : Act→World→Prop} {Q : Exit→Act→World→Prop} (s x : Operand) (t tx : TypeId)
  (ho : o.op = .call { callee := .builtin .append,args:=#[s,x],argTypes:=#[t,tx] })
  {v u : Value} (hs : a.eval s=v) (hu : a.eval x=u) {B : Nat} {e e' : TypeId} {i : TypeInfo} {z : Value} {k : Nat} {n m : Nat} {xs ys : List Value}
  (ht : P.underlying t=some (.slice e)) (htx : P.underlying tx=some (.slice e')) (hi : P.info? e=some i) (hz : i.zero=some z) (hik : i.size=k) (hzk : z.cells.size=k)
  (hown : Own w B e k v n xs) (hx : Sl w k u m ys) (h1 : ∀ u ∈ ys,u.oneCell'=true) (h63 : n+m≤maxLen) (hbytes : (n+m) * i.bytes≤140737488355328) (hB : B≤w.heap.size)
  (h : ∀ v' w',Own w' B e k v' (n+m) (xs ++ ys)→Keeps w w' B v→(v'.ownBlock=v.ownBlock ∨ ∃ g,v'.ownBlock=some g∧w.heap.size≤g)→(0 < m → ∃ g,v'.ownBlock=some g∧B≤g)→K (a.put o.dst v') w') : o.wp P a w K Q:=by
 obtain ⟨v',w',hr,h2,h3,h4,h5⟩:=run_append_any (P:=P) (ty:=o.type) ht htx hi hz hik hzk hown hx h1 h63 hbytes hB
 unfold Oper.wp execOp
 simp only [ho,resolve,invoke,builtin,Sem.run_bind,Sem.run_pure,Result.andThen_ok,List.map_toArray,List.map_cons,List.map_nil,hs,hu,hr]
 exact h v' w' h2 h3 h4 h5
theorem wpList_append_any {P : Program} {w : World} {ops : Array Oper} {rest : List Oper} {o : Oper} {a : Act} {Q : Exit→Act→World→Prop} (hgd : o.guard=none) (s x : Operand) (t tx : TypeId)
  (ho : o.op = .call { callee := .builtin .append,args:=#[s,x],argTypes:=#[t,tx] })
  {v u : Value} (hs : a.eval s=v) (hu : a.eval x=u) {B : Nat} {e e' : TypeId} {i : TypeInfo} {z : Value} {k : Nat} {n m : Nat} {xs ys : List Value}
  (ht : P.underlying t=some (.slice e)) (htx : P.underlying tx=some (.slice e')) (hi : P.info? e=some i) (hz : i.zero=some z) (hik : i.size=k) (hzk : z.cells.size=k)
  (hown : Own w B e k v n xs) (hx : Sl w k u m ys) (h1 : ∀ u ∈ ys,u.oneCell'=true) (h63 : n+m≤maxLen) (hbytes : (n+m) * i.bytes≤140737488355328) (hB : B≤w.heap.size)
  (h : ∀ v' w',Own w' B e k v' (n+m) (xs ++ ys)→Keeps w w' B v→(v'.ownBlock=v.ownBlock ∨ ∃ g,v'.ownBlock=some g∧w.heap.size≤g)→(0 < m → ∃ g,v'.ownBlock=some g∧B≤g)→wpList P ops Q rest (a.put o.dst v') w') : wpList P ops Q (o :: rest) a w :=
 wpList_plain hgd fun _ hK=>wp_append_any s x t tx ho hs hu ht htx hi hz hik hzk hown hx h1 h63 hbytes hB fun v' w' h2 h3 h4 h5=>hK _ _ (h v' w' h2 h3 h4 h5)
end Go.Proofs.YtoanoodfacmieaaGreatDoor

/- The program's data aas Lean data, and what a value in memory reads aas; no program in sight. -/
namespace Go.Proofs.YtoanoodfacmieaaGreatDoor
set_option maxRecDepth 100000
open Go.RowKit
structure Item where
 p : Int
 t : Int
 c : Int
 deriving DecidableEq
def Item.row (x : Item) : List Value:=[.int .u8 x.p,.int .i64 x.t,.int .i64 x.c]
def Item.val (x : Item) : Value := .agg #[.int .u8 x.p,.int .i64 x.t,.int .i64 x.c]
def Its (w : World) (v : Value) (l : List Item) : Prop:=Sl w 3 v l.length (l.flatMap Item.row)
theorem rows_len {α : Type} {k : Nat} (f : α→List Value) (hf : ∀ x,(f x).length=k) (l : List α) : (l.flatMap f).length=l.length * k:=by
 induction l with
 | nil=>simp
 | cons x l ih=>rw [List.flatMap_cons,List.length_append,hf,ih,List.length_cons,Nat.add_mul];omega
theorem rows_get {α : Type} {k : Nat} (f : α→List Value) (hf : ∀ x,(f x).length=k) (l : List α) (i j : Nat) (x : α) (hx : l[i]? = some x) (hj : j < k) : (l.flatMap f)[i * k+j]? = (f x)[j]? := by
 induction l generalizing i with
 | nil=>simp at hx
 | cons y l ih =>
  rw [List.flatMap_cons]
  cases i with
  | zero =>
   simp only [List.getElem?_cons_zero,Option.some.injEq] at hx
   subst hx
   rw [List.getElem?_append_left (by rw [hf];omega)]
   simp
  | succ i =>
   rw [List.getElem?_append_right (by rw [hf,Nat.add_mul];omega),hf,show (i+1) * k+j - k=i * k+j by rw [Nat.add_mul];omega]
   exact ih i (by simpa using hx)
theorem rows_take {α : Type} {k : Nat} (f : α→List Value) (hf : ∀ x,(f x).length=k) (l : List α) (i : Nat) : (l.flatMap f).take (i * k)=(l.take i).flatMap f:=by
 induction l generalizing i with
 | nil=>simp
 | cons y l ih =>
  cases i with
  | zero=>simp
  | succ i =>
   rw [List.flatMap_cons,List.take_succ_cons,List.flatMap_cons,show (i+1) * k=(f y).length+i * k by rw [hf,Nat.add_mul];omega,List.take_append,List.take_of_length_le (by omega),Nat.add_sub_cancel_left,ih]
theorem rows_drop {α : Type} {k : Nat} (f : α→List Value) (hf : ∀ x,(f x).length=k) (l : List α) (i : Nat) : (l.flatMap f).drop (i * k)=(l.drop i).flatMap f:=by
 induction l generalizing i with
 | nil=>simp
 | cons y l ih =>
  cases i with
  | zero=>simp
  | succ i =>
   rw [List.flatMap_cons,List.drop_succ_cons,show (i+1) * k=(f y).length+i * k by rw [hf,Nat.add_mul];omega,List.drop_append,List.drop_of_length_le (by omega),Nat.add_sub_cancel_left,ih,List.nil_append]
theorem Item.row_len (x : Item) : x.row.length=3:=rfl
theorem Item.one (l : List Item) : ∀ u ∈ l.flatMap Item.row,u.oneCell'=true:=by
 intro u hu
 obtain ⟨x,_,hx⟩:=List.mem_flatMap.1 hu
 simp only [Item.row,List.mem_cons,List.not_mem_nil,or_false] at hx
 rcases hx with rfl | rfl | rfl <;> rfl
theorem Its.ext {w w' : World} {v : Value} {l : List Item} (h : Its w v l) (he : Ext w w') : Its w' v l:=Sl.ext h he
theorem Its.nil (w : World) : Its w (.slice none 0 0) []:=Sl.nil w 3
theorem Its.form {w : World} {v : Value} {l : List Item} (h : Its w v l) : ∃ a cap,v = .slice a l.length cap∧l.length≤cap∧cap≤maxLen∧(a=none→cap=0):=Sl.slice_form h
theorem Its.cell {w : World} {a : Option Addr} {n cap : Nat} {l : List Item} (h : Its w (.slice a n cap) l) {i : Nat} {x : Item} (hx : l[i]? = some x) :
  ∃ b off,a=some ⟨b,off,none⟩∧b < w.heap.size∧w.cell? ⟨b,off+i * 3,none⟩=some (.int .u8 x.p)∧w.cell? ⟨b,off+i * 3+1,none⟩=some (.int .i64 x.t)∧w.cell? ⟨b,off+i * 3+2,none⟩=some (.int .i64 x.c):=by
 have hi : i < l.length:=(List.getElem?_eq_some_iff.1 hx).1
 obtain ⟨b,off,rfl,hb,hc⟩:=Sl.at h (by omega) (by omega : 0 < l.length)
 have g:=rows_get Item.row Item.row_len l i
 refine ⟨b,off,rfl,hb,?_,?_,?_⟩
 ·have:=hc (i * 3+0) _ ((g 0 x hx (by omega)).trans rfl)
  simpa using this
 ·exact hc (i * 3+1) _ ((g 1 x hx (by omega)).trans rfl)
 ·exact hc (i * 3+2) _ ((g 2 x hx (by omega)).trans rfl)
theorem Its.at {w : World} {a : Option Addr} {n cap : Nat} {l : List Item} (h : Its w (.slice a n cap) l) (hl : 0 < l.length) :
  ∃ b off,a=some ⟨b,off,none⟩∧b < w.heap.size ∧ ∀ (i : Nat) (x : Item),l[i]? = some x→w.cell? ⟨b,off+i * 3,none⟩=some (.int .u8 x.p)∧w.cell? ⟨b,off+i * 3+1,none⟩=some (.int .i64 x.t)∧w.cell? ⟨b,off+i * 3+2,none⟩=some (.int .i64 x.c):=by
 obtain ⟨b,off,rfl,hb,-⟩:=h.cell (i:=0) (x:=l[0]) (by simp [hl])
 refine ⟨b,off,rfl,hb,fun i x hx => ?_⟩
 obtain ⟨b',off',e,_,h0,h1,h2⟩:=h.cell hx
 simp only [Option.some.injEq,Addr.mk.injEq,and_true] at e
 obtain ⟨rfl,rfl⟩:=e
 exact ⟨h0,h1,h2⟩
theorem Its.take {w : World} {a : Option Addr} {n cap : Nat} {l : List Item} (h : Its w (.slice a n cap) l) (i : Nat) (hi : i≤l.length) : Its w (.slice a i cap) (l.take i):=by
 have:=Sl.take h i hi
 rw [rows_take Item.row Item.row_len] at this
 unfold Its
 rw [List.length_take,Nat.min_eq_left hi]
 exact this
theorem Its.drop {w : World} {a : Option Addr} {n cap : Nat} {l : List Item} (h : Its w (.slice a n cap) l) (i : Nat) (hi : i≤l.length) : Its w (.slice (if cap=i then a else a.map (·.add (i * 3))) (l.length - i) (cap - i)) (l.drop i):=by
 have:=Sl.drop h i hi
 rw [rows_drop Item.row Item.row_len] at this
 unfold Its
 rw [List.length_drop]
 exact this
def inB (n : Int) : Bool:=decide (0≤n) && decide (n≤1000000)
def Item.ok (x : Item) : Bool:=(x.p == 1 || x.p == 2 || x.p == 3 || x.p == 4) && inB x.t && inB x.c
def okS (s : List Item) : Bool:=decide (s.length≤600) && s.all Item.ok
def chk (s : List Item) : Int:=if okS s then 0 else 8
def lastUpTo (p : Nat→Bool) : Nat→Option Nat
 | 0=>none
 | n+1=>if p n then some n else lastUpTo p n
theorem lastUpTo_is {p : Nat→Bool} : ∀ {n i : Nat},lastUpTo p n=some i→i < n∧p i=true ∧ ∀ j,i < j→j < n→p j=false
 | 0,i,h=>by simp [lastUpTo] at h
 | n+1,i,h=>by
  unfold lastUpTo at h
  split at h
  ·rename_i hp
   simp only [Option.some.injEq] at h
   subst h
   exact ⟨by omega,hp,fun j h1 h2=>by omega⟩
  ·rename_i hp
   obtain ⟨h1,h2,h3⟩:=lastUpTo_is h
   refine ⟨by omega,h2,fun j h4 h5 => ?_⟩
   by_cases e : j=n
   ·subst e;simpa using hp
   ·exact h3 j h4 (by omega)
theorem lastUpTo_no {p : Nat→Bool} : ∀ {n : Nat},lastUpTo p n=none → ∀ j,j < n→p j=false
 | 0,_,j,hj=>by omega
 | n+1,h,j,hj=>by
  unfold lastUpTo at h
  split at h
  ·cases h
  ·rename_i hp
   by_cases e : j=n
   ·subst e;simpa using hp
   ·exact lastUpTo_no h j (by omega)
def grants (tag : Int) (write : Bool) (x : Item) : Bool:=x.t == tag && !(write && x.p == 4)
def findAt (s : List Item) (tag : Int) (write : Bool) : Option Nat:=lastUpTo (fun i=>(s[i]?).any (grants tag write)) s.length
theorem findAt_is {l : List Item} {tag : Int} {write : Bool} {i : Nat} (h : findAt l tag write=some i) : ∃ x,l[i]? = some x∧grants tag write x=true ∧ ∀ (j : Nat) (y : Item),i < j→l[j]? = some y→grants tag write y=false:=by
 obtain ⟨h1,h2,h3⟩:=lastUpTo_is h
 have hi : l[i]? = some l[i]:=by simp [h1]
 rw [hi] at h2
 refine ⟨l[i],hi,by simpa using h2,fun j y hj hy => ?_⟩
 have:=h3 j hj (List.getElem?_eq_some_iff.1 hy).1
 rw [hy] at this
 simpa using this
theorem findAt_no {l : List Item} {tag : Int} {write : Bool} (h : findAt l tag write=none) (j : Nat) (y : Item) (hy : l[j]? = some y) : grants tag write y=false:=by
 have:=lastUpTo_no h j (List.getElem?_eq_some_iff.1 hy).1
 rw [hy] at this
 simpa using this
end Go.Proofs.YtoanoodfacmieaaGreatDoor

/- How the arguments of a statement read: a slice of items; and how a statement is closed that only makes memory. -/
namespace Go.Proofs.YtoanoodfacmieaaGreatDoor
set_option maxRecDepth 100000
open Go.ChangeShapes Go.WideShapes Go.ChangeAt Go.RowKit
theorem flat_get {k : Nat} {rows : List (List Value)} (hk : ∀ r ∈ rows,r.length=k) {j : Nat} {u : Value} (h : rows.flatten[j]? = some u) : ∃ i r m,rows[i]? = some r∧r[m]? = some u∧m < k∧j=i * k+m:=by
 induction rows generalizing j with
 | nil=>simp at h
 | cons r rows ih =>
  rw [List.flatten_cons] at h
  have hr : r.length=k:=hk r (by simp)
  by_cases hj : j < k
  ·rw [List.getElem?_append_left (by omega)] at h
   exact ⟨0,r,j,rfl,h,hj,by simp⟩
  ·rw [List.getElem?_append_right (by omega)] at h
   obtain ⟨i,r',m,h1,h2,h3,h4⟩:=ih (fun r hr=>hk r (by simp [hr])) h
   exact ⟨i+1,r',m,by simpa using h1,h2,h3,by rw [Nat.add_mul];omega⟩
theorem flat_len {k : Nat} {rows : List (List Value)} (hk : ∀ r ∈ rows,r.length=k) : rows.flatten.length=rows.length * k:=by
 induction rows with
 | nil=>simp
 | cons r rows ih=>rw [List.flatten_cons,List.length_append,ih (fun r hr=>hk r (by simp [hr])),hk r (by simp),List.length_cons,Nat.add_mul];omega
theorem mapM_get {β : Type} {f : Nat→Option β} {n : Nat} {l : List β} (h : (List.range n).mapM f=some l) : l.length=n ∧ ∀ i,i < n→f i=l[i]? := by
 refine ⟨by simpa using mapM_some_length h,fun i hi => ?_⟩
 exact mapM_some_get h i i (by simp [hi])
section
variable {H : Type} {enc : TypeId × Value→H} {P : Program} {w : World} {base : Nat} {spare : Nat→Bool} {held : Bool}
theorem cells_get {a : Addr} {n : Nat} {cs : List Value} (h : w.cells? base a n=some cs) : cs.length=n ∧ ∀ j,j < n→w.cell? (a.add j)=cs[j]? := by
 unfold World.cells? at h
 split at h
 ·exact mapM_get h
 ·cases h
theorem read_slice {α : Type} {t e k : Nat} (ht : P.underlying t=some (.slice e)) (hk : P.cellsOf e=k) (hpos : 0 < k) (R : List Value→α→Prop)
  (hel : ∀ (n : Nat) (cs : List Value) (x : DataW H × List MemPlace),cs.length=k→DataW.trod enc P w base spare held n e cs=some x → ∃ a,R cs a)
  {fuel : Nat} {cs : List Value} {x : DataW H × List MemPlace} (h : DataW.trod enc P w base spare held fuel t cs=some x) :
  ∃ (v : Value) (rows : List (List Value)) (xs : List α),cs=[v]∧Sl w k v rows.length rows.flatten∧(∀ r ∈ rows,r.length=k)∧All2 R rows xs:=by
 rcases Deep.open_slice ht h with ⟨rfl,_⟩ | ⟨a,len,cap,m,n,D,Pl,rfl,hb,hl,hm,hmm,_,hi⟩
 ·exact ⟨_,[],[],rfl,Sl.nil w k,by simp,trivial⟩
 ·have hlm : len≤m:=by rw [hmm];split <;> omega
  have hi' : ∀ i,i < len → ∃ y : List Value × α,y.1.length=k∧(∀ j,j < k→w.cell? (a.add (i * k+j))=y.1[j]?)∧R y.1 y.2:=by
   intro i hlt
   obtain ⟨cs',h1,h2⟩:=hi i (by omega)
   rw [hk] at h1
   obtain ⟨g1,g2⟩:=cells_get h1
   obtain ⟨y,hy⟩:=hel n cs' _ g1 h2
   exact ⟨(cs',y),g1,fun j hj=>by rw [← g2 j hj,Deep.add_add],hy⟩
  cases len with
  | zero=>exact ⟨_,[],[],rfl,⟨by simp,some a,cap,rfl,hl,hm,fun h=>(by cases h),fun j u h=>by simp at h⟩,by simp,trivial⟩
  | succ len =>
   haveI : Inhabited (List Value × α):=⟨Classical.choose (hi' 0 (by omega))⟩
   obtain ⟨f,hf⟩:=Deep.choose_lt hi'
   refine ⟨_,(List.range (len+1)).map (fun i=>(f i).1),(List.range (len+1)).map (fun i=>(f i).2),rfl,?_,?_,?_⟩
   ·have hrk : ∀ r ∈ (List.range (len+1)).map (fun i=>(f i).1),r.length=k:=by
     intro r hr
     obtain ⟨i,hi2,rfl⟩:=List.mem_map.1 hr
     exact (hf i (List.mem_range.1 hi2)).1
    have hspot : a.spot=none:=by
     obtain ⟨b,o,s⟩:=a
     have h0:=(hf 0 (by omega)).2.1 0 hpos
     have hlen0:=(hf 0 (by omega)).1
     rw [List.getElem?_eq_getElem (by omega)] at h0
     simp only [Nat.zero_mul,Nat.zero_add,Addr.add,if_true] at h0
     cases s with
     | none=>rfl
     | some s=>unfold World.cell? at h0;split at h0 <;> simp at h0
    obtain ⟨b,o,s⟩:=a
    simp only at hspot
    subst hspot
    rw [List.length_map,List.length_range]
    refine ⟨by simpa using flat_len hrk,_,cap,rfl,hl,hm,fun h=>(by cases h),fun j u hj => ?_⟩
    obtain ⟨i,r,m',h1,h2,h3,rfl⟩:=flat_get hrk hj
    rw [List.getElem?_map] at h1
    have hlt : i < len+1:=by
     rcases Nat.lt_or_ge i (len+1) with h | h
     ·exact h
     ·rw [List.getElem?_eq_none (by simpa using h)] at h1;simp at h1
    rw [List.getElem?_eq_getElem (by simpa using hlt)] at h1
    simp only [List.getElem_range,Option.map_some,Option.some.injEq] at h1
    subst h1
    refine ⟨b,o,rfl,?_⟩
    have:=(hf i hlt).2.1 m' h3
    rw [h2] at this
    have hadd : (⟨b,o,none⟩ : Addr).add (i * k+m')=⟨b,o+(i * k+m'),none⟩:=by unfold Addr.add;split <;> simp_all
    rw [hadd] at this
    exact this
   ·intro r hr
    obtain ⟨i,hi2,rfl⟩:=List.mem_map.1 hr
    exact (hf i (List.mem_range.1 hi2)).1
   ·exact All2.map _ _ _ fun i hi2=>(hf i (List.mem_range.1 hi2)).2.2
end
section
variable {H : Type} {enc : TypeId × Value→H} {w : World} {base : Nat} {spare : Nat→Bool} {held : Bool}
def Item.wf (x : Item) : Prop:=(0≤x.p∧x.p≤255)∧(-9223372036854775808≤x.t∧x.t≤9223372036854775807)∧(-9223372036854775808≤x.c∧x.c≤9223372036854775807)
end
end Go.Proofs.YtoanoodfacmieaaGreatDoor

/- Tables in memory: a slice whose rows hold one slice each; which blocks a call turns; no program in sight. -/
namespace Go.Proofs.YtoanoodfacmieaaGreatDoor
set_option maxRecDepth 100000
open Go.RowKit
def i64B (n : Int) : Prop := -9223372036854775808≤n∧n≤9223372036854775807
theorem rows_setj {α : Type} {k : Nat} (f : α→List Value) (hf : ∀ x,(f x).length=k) (j : Nat) (u : Value) : ∀ (l : List α) (i : Nat) (x y : α),l[i]? = some x→j < k→f y=(f x).set j u→(l.flatMap f).set (i * k+j) u=(l.set i y).flatMap f
 | [],i,x,y,h,_,_=>by simp at h
 | z :: l,0,x,y,h,hj,hy=>by
  simp only [List.getElem?_cons_zero,Option.some.injEq] at h
  subst h
  rw [List.flatMap_cons,List.set_cons_zero,List.flatMap_cons,hy,List.set_append,if_pos (by rw [hf];omega),Nat.zero_mul,Nat.zero_add]
 | z :: l,i+1,x,y,h,hj,hy=>by
  have ih:=rows_setj f hf j u l i x y (by simpa using h) hj hy
  rw [List.flatMap_cons,List.set_cons_succ,List.flatMap_cons,← ih,List.set_append,if_neg (by rw [hf,Nat.add_mul];omega),hf,show (i+1) * k+j - k=i * k+j by rw [Nat.add_mul];omega]
theorem set_zip {α β : Type} (a : α) (b : β) : ∀ (aas : List α) (bs : List β) (i : Nat),(aas.zip bs).set i (a,b)=(aas.set i a).zip (bs.set i b)
 | [],_,_=>by simp
 | _ :: _,[],_=>by simp
 | _ :: _,_ :: _,0=>by simp
 | _ :: aas,_ :: bs,i+1=>by simp [set_zip a b aas bs i]
theorem take_zip {α β : Type} : ∀ (aas : List α) (bs : List β) (i : Nat),(aas.zip bs).take i=(aas.take i).zip (bs.take i)
 | [],_,_=>by simp
 | _ :: _,[],_=>by simp
 | _ :: _,_ :: _,0=>by simp
 | _ :: aas,_ :: bs,i+1=>by simp [take_zip aas bs i]
theorem set_same {α : Type} {l : List α} {i : Nat} {a : α} (h : l[i]? = some a) : l.set i a=l:=by
 apply List.ext_getElem?
 intro j
 by_cases e : i=j
 ·subst e
  rw [List.getElem?_set_self (List.getElem?_eq_some_iff.1 h).1,h]
 ·rw [List.getElem?_set_ne e]
theorem All2.iff {α β : Type} {R : α→β→Prop} : ∀ {aas : List α} {bs : List β},All2 R aas bs ↔ aas.length=bs.length ∧ ∀ (i : Nat) (a : α) (b : β),aas[i]? = some a→bs[i]? = some b→R a b
 | [],[]=>by simp [All2]
 | [],_ :: _=>by simp [All2]
 | _ :: _,[]=>by simp [All2]
 | a :: aas,b :: bs=>by
  rw [All2,All2.iff (aas:=aas) (bs:=bs)]
  constructor
  ·rintro ⟨h,h1,h2⟩
   refine ⟨by simp [h1],fun i x y hx hy => ?_⟩
   cases i with
   | zero=>simp at hx hy;subst hx hy;exact h
   | succ i=>exact h2 i x y (by simpa using hx) (by simpa using hy)
  ·rintro ⟨h1,h2⟩
   exact ⟨h2 0 a b rfl rfl,by simpa using h1,fun i x y hx hy=>h2 (i+1) x y (by simpa using hx) (by simpa using hy)⟩
section
variable {α : Type} (row : Value→α→List Value)
def trows (vs : List Value) (l : List α) : List Value:=(vs.zip l).flatMap fun p=>row p.1 p.2
variable {k : Nat} (hrow : ∀ s a,(row s a).length=k)
include hrow
theorem trows_get {vs : List Value} {l : List α} {i j : Nat} {s : Value} {a : α} (hs : vs[i]? = some s) (ha : l[i]? = some a) (hj : j < k) : (trows row vs l)[i * k+j]? = (row s a)[j]? :=
 rows_get (k:=k) (fun p : Value × α=>row p.1 p.2) (fun p=>hrow p.1 p.2) _ i j (s,a) (by rw [List.getElem?_zip_eq_some];exact ⟨hs,ha⟩) hj
theorem trows_set {vs : List Value} {l : List α} {i j : Nat} {s s' : Value} {a a' : α} {u : Value} (hs : vs[i]? = some s) (ha : l[i]? = some a) (hj : j < k) (hy : row s' a'=(row s a).set j u) :
  (trows row vs l).set (i * k+j) u=trows row (vs.set i s') (l.set i a'):=by
 unfold trows
 rw [rows_setj (k:=k) (fun p : Value × α=>row p.1 p.2) (fun p=>hrow p.1 p.2) j u _ i (s,a) (s',a') (by rw [List.getElem?_zip_eq_some];exact ⟨hs,ha⟩) hj hy,set_zip]
theorem trows_take (vs : List Value) (l : List α) (i : Nat) : (trows row vs l).take (i * k)=trows row (vs.take i) (l.take i):=by
 unfold trows
 rw [rows_take (k:=k) (fun p : Value × α=>row p.1 p.2) (fun p=>hrow p.1 p.2),take_zip]
omit hrow
theorem trows_append {vs vs' : List Value} {l l' : List α} (h : vs.length=l.length) : trows row (vs ++ vs') (l ++ l')=trows row vs l ++ trows row vs' l':=by
 unfold trows
 rw [List.zip_append h,List.flatMap_append]
theorem trows_one (s : Value) (a : α) : trows row [s] [a]=row s a:=by simp [trows]
end
def Tb {α : Type} (row : Value→α→List Value) (k : Nat) (R : Value→α→Prop) (w : World) (v : Value) (l : List α) : Prop := ∃ vs : List Value,All2 R vs l∧Sl w k v l.length (trows row vs l)
section
variable {α : Type} {row : Value→α→List Value} {k : Nat} {R R' : Value→α→Prop}
theorem Tb.ext {w w' : World} {v : Value} {l : List α} (h : Tb row k R w v l) (he : Ext w w') (hr : ∀ s a,R s a→R' s a) : Tb row k R' w' v l:=by
 obtain ⟨vs,h1,h2⟩:=h
 exact ⟨vs,h1.mono hr,h2.ext he⟩
theorem Tb.nil (w : World) : Tb row k R w (.slice none 0 0) []:=⟨[],trivial,Sl.nil w k⟩
theorem Tb.form {w : World} {v : Value} {l : List α} (h : Tb row k R w v l) : ∃ a cap,v = .slice a l.length cap∧l.length≤cap∧cap≤maxLen∧(a=none→cap=0):=h.choose_spec.2.slice_form
theorem Tb.cell {w : World} {a : Option Addr} {n cap : Nat} {l : List α} (h : Tb row k R w (.slice a n cap) l) (hrow : ∀ s a,(row s a).length=k) (hk : 0 < k) {i : Nat} {x : α} (hx : l[i]? = some x) :
  ∃ b off s,a=some ⟨b,off,none⟩∧b < w.heap.size∧R s x ∧ ∀ j u,(row s x)[j]? = some u→w.cell? ⟨b,off+(i * k+j),none⟩=some u:=by
 obtain ⟨vs,h1,h2⟩:=h
 have hi : i < l.length:=(List.getElem?_eq_some_iff.1 hx).1
 obtain ⟨s,hs,hc⟩:=h1.get hx
 obtain ⟨b,off,rfl,hb,hcell⟩:=Sl.at h2 hk (by omega : 0 < l.length)
 refine ⟨b,off,s,rfl,hb,hc,fun j u hj=>hcell (i * k+j) u ?_⟩
 rw [trows_get row hrow hs hx (by rw [← hrow s x];exact (List.getElem?_eq_some_iff.1 hj).1)]
 exact hj
end
theorem Own.made' (w : World) (B : Nat) (e : TypeId) (k : Nat) (hB : B≤w.heap.size) : Own (w.alloc (.cells #[] e)) B e k (.slice (some ⟨w.heap.size,0,none⟩) 0 0) 0 [] :=
 World.ownsRow_made w #[] 0 hB (Nat.zero_le _) (by simp)
theorem Own.lit' (w : World) {B : Nat} {e : TypeId} {k : Nat} (cs : Array Value) (n : Nat) (hB : B≤w.heap.size) (hm : n≤maxLen) (hs : cs.size=n * k) :
  Own (w.alloc (.cells cs e)) B e k (.slice (some ⟨w.heap.size,0,none⟩) n n) n cs.toList:=World.ownsRow_lit w cs n hB hm hs
structure ExtBut (S : Nat→Prop) (w w' : World) : Prop where
 os : w'.os=w.os
 tape : w'.tape=w.tape
 output : w'.output=w.output
 size : w.heap.size≤w'.heap.size
 block : ∀ b,b < w.heap.size → ¬ S b→w'.heap[b]? = w.heap[b]?
theorem ExtBut.refl (S : Nat→Prop) (w : World) : ExtBut S w w:=⟨rfl,rfl,rfl,Nat.le_refl _,fun _ _ _=>rfl⟩
theorem ExtBut.of_ext {S : Nat→Prop} {w w' : World} (h : Ext w w') : ExtBut S w w':=⟨h.os,h.tape,h.output,h.size,fun _ hb _=>h.blk hb⟩
theorem ExtBut.trans {S : Nat→Prop} {a b c : World} (h : ExtBut S a b) (k : ExtBut S b c) : ExtBut S a c :=
 ⟨k.os.trans h.os,k.tape.trans h.tape,k.output.trans h.output,Nat.le_trans h.size k.size,fun x hx hS=>(k.block x (Nat.lt_of_lt_of_le hx h.size) hS).trans (h.block x hx hS)⟩
theorem ExtBut.trans' {S S' : Nat→Prop} {a b c : World} (h : ExtBut S a b) (k : ExtBut S' b c) (hS : ∀ x,x < a.heap.size→S' x→S x) : ExtBut S a c :=
 ⟨k.os.trans h.os,k.tape.trans h.tape,k.output.trans h.output,Nat.le_trans h.size k.size,fun x hx hn=>(k.block x (Nat.lt_of_lt_of_le hx h.size) fun e=>hn (hS x hx e)).trans (h.block x hx hn)⟩
theorem ExtBut.mono {S S' : Nat→Prop} {a b : World} (h : ExtBut S a b) (hS : ∀ x,x < a.heap.size→S x→S' x) : ExtBut S' a b :=
 ⟨h.os,h.tape,h.output,h.size,fun x hx hn=>h.block x hx fun hs=>hn (hS x hx hs)⟩
theorem ExtBut.ext {S : Nat→Prop} {w0 w w' : World} (h0 : Ext w0 w) (h : ExtBut S w w') (hS : ∀ x,S x→w0.heap.size≤x) : Ext w0 w' :=
 Below.trans h0 ⟨h.os,h.tape,h.output,h.size,fun b hb=>h.block b (Nat.lt_of_lt_of_le hb h0.size) fun hs=>absurd (hS b hs) (by omega)⟩
theorem ExtBut.setCell (w : World) (p : Addr) (u : Value) : ExtBut (· = p.block) w (w.setCell p u) :=
 ⟨rfl,rfl,rfl,by simp,fun b _ hb=>Below.heap_setCell _ _ _ _ hb⟩
theorem ExtBut.alloc {S : Nat→Prop} {w w' : World} (h : ExtBut S w w') (o : Obj) : ExtBut S w (w'.alloc o):=h.trans (ExtBut.of_ext ((Ext.refl _).alloc o))
theorem ExtBut.drewN {S : Nat→Prop} {w w' : World} (h : ExtBut S w w') (n : Nat) : ExtBut S w (w'.drewN n):=h.trans (ExtBut.of_ext ((Ext.refl _).drewN n))
theorem ExtBut.dr {S : Nat→Prop} {a w : World} (h : ExtBut S a w) : ExtBut S a w.drew:=h.trans (ExtBut.of_ext (Ext.refl _).drew)
theorem ExtBut.sc {S : Nat→Prop} {a w : World} {p : Addr} {u : Value} (h : ExtBut S a w) (hp : S p.block) : ExtBut S a (w.setCell p u) :=
 h.trans ((ExtBut.setCell w p u).mono fun _ _ e=>e ▸ hp)
theorem ExtBut.of_keeps {w w' : World} {B : Nat} {v : Value} (h : Keeps w w' B v) : ExtBut (fun b=>v.ownBlock=some b) w w' :=
 ⟨h.below.os,h.below.tape,h.below.output,h.below.size,fun b hb hn=>h.block b hb fun e=>absurd e hn⟩
theorem ExtBut.cell {S : Nat→Prop} {w w' : World} (h : ExtBut S w w') {p : Addr} {v : Value} (hv : w.cell? p=some v) (hp : ¬ S p.block) : w'.cell? p=some v :=
 (World.cell?_of_block (h.block p.block (World.block_lt_of_cell? w p hv) hp)).trans hv
theorem ExtBut.own {S : Nat→Prop} {w w' : World} {B : Nat} {e : TypeId} {k : Nat} {v : Value} {n : Nat} {xs : List Value} (h : Own w B e k v n xs) (hE : ExtBut S w w') (hS : ∀ g,v.ownBlock=some g → ¬ S g) : Own w' B e k v n xs:=by
 refine ⟨h.1,?_⟩
 rcases h.2 with h2 | ⟨g,cap,cur,rfl,hg,hh,r⟩
 ·exact Or.inl h2
 ·refine Or.inr ⟨g,cap,cur,rfl,hg,?_,r⟩
  rw [hE.block g (Array.getElem?_eq_some_iff.1 hh).1 (hS g rfl)]
  exact hh
theorem ExtBut.sl {S : Nat→Prop} {w w' : World} {k : Nat} {v : Value} {n : Nat} {xs : List Value} (h : Sl w k v n xs) (hE : ExtBut S w w') (hS : ∀ g,v.ownBlock=some g → ¬ S g) : Sl w' k v n xs:=by
 obtain ⟨h1,a,cap,rfl,h3,h4,h5,h6⟩:=h
 refine ⟨h1,a,cap,rfl,h3,h4,h5,fun j u hj => ?_⟩
 obtain ⟨b,off,rfl,hc⟩:=h6 j u hj
 exact ⟨b,off,rfl,hE.cell hc (hS b rfl)⟩
def Box (w : World) (B : Nat) (e : TypeId) (vs : Array Value) : Prop:=w.heap[B]? = some (.cells vs e (0,0))
theorem Box.lt {w : World} {B : Nat} {e : TypeId} {vs : Array Value} (h : Box w B e vs) : B < w.heap.size:=(Array.getElem?_eq_some_iff.1 h).1
theorem Box.new (w : World) (e : TypeId) (vs : Array Value) : Box (w.alloc (.cells vs e)) w.heap.size e vs:=heap_alloc_new w _
theorem Box.ext {w w' : World} {B : Nat} {e : TypeId} {vs : Array Value} (h : Box w B e vs) (hE : Ext w w') : Box w' B e vs:=(hE.blk h.lt).trans h
theorem Box.but {S : Nat→Prop} {w w' : World} {B : Nat} {e : TypeId} {vs : Array Value} (h : Box w B e vs) (hE : ExtBut S w w') (hS : ¬ S B) : Box w' B e vs:=(hE.block B h.lt hS).trans h
theorem Box.cell {w : World} {B : Nat} {e : TypeId} {vs : Array Value} (h : Box w B e vs) (j : Nat) : w.cell? ⟨B,j,none⟩=vs[j]? := by simp [World.cell?,show w.heap[B]? = _ from h]
theorem Box.c1 {w : World} {B : Nat} {e : TypeId} {a0 : Value} (h : Box w B e #[a0]) : w.cell? ⟨B,0,none⟩=some a0∧B < w.heap.size:=⟨h.cell 0,h.lt⟩
theorem Box.c2 {w : World} {B : Nat} {e : TypeId} {a0 a1 : Value} (h : Box w B e #[a0,a1]) : w.cell? ⟨B,0,none⟩=some a0∧w.cell? ⟨B,1,none⟩=some a1∧B < w.heap.size:=⟨h.cell 0,h.cell 1,h.lt⟩
theorem Box.c3 {w : World} {B : Nat} {e : TypeId} {a0 a1 a2 : Value} (h : Box w B e #[a0,a1,a2]) : w.cell? ⟨B,0,none⟩=some a0∧w.cell? ⟨B,1,none⟩=some a1∧w.cell? ⟨B,2,none⟩=some a2∧B < w.heap.size:=⟨h.cell 0,h.cell 1,h.cell 2,h.lt⟩
theorem Box.c4 {w : World} {B : Nat} {e : TypeId} {a0 a1 a2 a3 : Value} (h : Box w B e #[a0,a1,a2,a3]) : w.cell? ⟨B,0,none⟩=some a0∧w.cell? ⟨B,1,none⟩=some a1∧w.cell? ⟨B,2,none⟩=some a2∧w.cell? ⟨B,3,none⟩=some a3∧B < w.heap.size:=⟨h.cell 0,h.cell 1,h.cell 2,h.cell 3,h.lt⟩
theorem Box.c5 {w : World} {B : Nat} {e : TypeId} {a0 a1 a2 a3 a4 : Value} (h : Box w B e #[a0,a1,a2,a3,a4]) : w.cell? ⟨B,0,none⟩=some a0∧w.cell? ⟨B,1,none⟩=some a1∧w.cell? ⟨B,2,none⟩=some a2∧w.cell? ⟨B,3,none⟩=some a3∧w.cell? ⟨B,4,none⟩=some a4∧B < w.heap.size:=⟨h.cell 0,h.cell 1,h.cell 2,h.cell 3,h.cell 4,h.lt⟩
theorem Box.c6 {w : World} {B : Nat} {e : TypeId} {a0 a1 a2 a3 a4 a5 : Value} (h : Box w B e #[a0,a1,a2,a3,a4,a5]) : w.cell? ⟨B,0,none⟩=some a0∧w.cell? ⟨B,1,none⟩=some a1∧w.cell? ⟨B,2,none⟩=some a2∧w.cell? ⟨B,3,none⟩=some a3∧w.cell? ⟨B,4,none⟩=some a4∧w.cell? ⟨B,5,none⟩=some a5∧B < w.heap.size:=⟨h.cell 0,h.cell 1,h.cell 2,h.cell 3,h.cell 4,h.cell 5,h.lt⟩
theorem Box.c9 {w : World} {B : Nat} {e : TypeId} {a0 a1 a2 a3 a4 a5 a6 a7 a8 : Value} (h : Box w B e #[a0,a1,a2,a3,a4,a5,a6,a7,a8]) : w.cell? ⟨B,0,none⟩=some a0∧w.cell? ⟨B,1,none⟩=some a1∧w.cell? ⟨B,2,none⟩=some a2∧w.cell? ⟨B,3,none⟩=some a3∧w.cell? ⟨B,4,none⟩=some a4∧w.cell? ⟨B,5,none⟩=some a5∧w.cell? ⟨B,6,none⟩=some a6∧w.cell? ⟨B,7,none⟩=some a7∧w.cell? ⟨B,8,none⟩=some a8∧B < w.heap.size:=⟨h.cell 0,h.cell 1,h.cell 2,h.cell 3,h.cell 4,h.cell 5,h.cell 6,h.cell 7,h.cell 8,h.lt⟩
theorem Box.frozen {w : World} {B : Nat} {e : TypeId} {vs : Array Value} (h : Box w B e vs) (j : Nat) : w.frozen? ⟨B,j,none⟩=false:=by simp [World.frozen?,show w.heap[B]? = _ from h]
theorem Box.set {w : World} {B : Nat} {e : TypeId} {vs : Array Value} (h : Box w B e vs) (j : Nat) (u : Value) : Box (w.setCell ⟨B,j,none⟩ u) B e (vs.setIfInBounds j u):=by
 have hlt:=h.lt
 have h' : w.heap[B] = .cells vs e (0,0):=by
  have : w.heap[B]? = _:=h
  simpa [Array.getElem?_eq_getElem hlt] using this
 show (w.heap.modify B _)[B]? = _
 rw [Array.getElem?_eq_getElem (by simpa using hlt),Array.getElem_modify_self,h']
 rfl
theorem Box.other {w : World} {B : Nat} {e : TypeId} {vs : Array Value} (h : Box w B e vs) {p : Addr} (hp : p.block≠B) (u : Value) : Box (w.setCell p u) B e vs :=
 h.but (ExtBut.setCell w p u) (fun e=>hp e.symm)
def Apart (vs : List Value) : Prop := ∀ (i j : Nat) (a b : Value),i≠j→vs[i]? = some a→vs[j]? = some b → ∀ g,a.ownBlock=some g→b.ownBlock≠some g
structure OTb {α : Type} (row : Value→α→List Value) (e k : Nat) (RO : World→Nat→Value→α→Prop) (w : World) (B : Nat) (v : Value) (vs : List Value) (l : List α) : Prop where
 outer : Own w B e k v l.length (trows row vs l)
 inner : All2 (RO w B) vs l
 apart : Apart vs
 far : ∀ s ∈ vs,∀ g,s.ownBlock=some g→v.ownBlock≠some g
theorem OTb.but {α : Type} {row : Value→α→List Value} {e k : Nat} {RO : World→Nat→Value→α→Prop} {w w' : World} {S : Nat→Prop} {B : Nat} {v : Value} {vs : List Value} {l : List α}
  (hkeep : ∀ {w w' : World} {S : Nat→Prop} {B : Nat} {s : Value} {a : α},RO w B s a→ExtBut S w w'→(∀ g,s.ownBlock=some g → ¬ S g)→RO w' B s a)
  (h : OTb row e k RO w B v vs l) (hE : ExtBut S w w') (hv : ∀ g,v.ownBlock=some g → ¬ S g) (hs : ∀ s ∈ vs,∀ g,s.ownBlock=some g → ¬ S g) : OTb row e k RO w' B v vs l :=
 ⟨ExtBut.own h.outer hE hv,All2.iff.2 ⟨(All2.iff.1 h.inner).1,fun i a b ha hb=>hkeep ((All2.iff.1 h.inner).2 i a b ha hb) hE (hs a (List.mem_of_getElem? ha))⟩,h.apart,h.far⟩
theorem OTb.ext {α : Type} {row : Value→α→List Value} {e k : Nat} {RO : World→Nat→Value→α→Prop} {w w' : World} {B : Nat} {v : Value} {vs : List Value} {l : List α}
  (hkeep : ∀ {w w' : World} {S : Nat→Prop} {B : Nat} {s : Value} {a : α},RO w B s a→ExtBut S w w'→(∀ g,s.ownBlock=some g → ¬ S g)→RO w' B s a)
  (h : OTb row e k RO w B v vs l) (hE : Ext w w') : OTb row e k RO w' B v vs l :=
 h.but hkeep (ExtBut.of_ext (S:=fun _=>False) hE) (fun _ _ h=>h) (fun _ _ _ _ h=>h)
theorem OTb.mono {α : Type} {row : Value→α→List Value} {e k : Nat} {RO : World→Nat→Value→α→Prop} {w : World} {B B' : Nat} {v : Value} {vs : List Value} {l : List α}
  (hmono : ∀ {w : World} {B B' : Nat} {s : Value} {a : α},RO w B s a→B'≤B→RO w B' s a) (h : OTb row e k RO w B v vs l) (hB : B'≤B) : OTb row e k RO w B' v vs l :=
 ⟨h.outer.mono hB,h.inner.mono fun _ _ h=>hmono h hB,h.apart,h.far⟩
theorem OTb.nil {α : Type} {row : Value→α→List Value} {e k : Nat} {RO : World→Nat→Value→α→Prop} (w : World) (B : Nat) : OTb row e k RO w B (.slice none 0 0) [] [] :=
 ⟨Own.nil _ _ _ _,trivial,fun i j a b _ h=>by simp at h,fun s h=>by cases h⟩
theorem OTb.inner_lt {α : Type} {row : Value→α→List Value} {e k : Nat} {RO : World→Nat→Value→α→Prop} {w : World} {B : Nat} {v : Value} {vs : List Value} {l : List α}
  (hlt : ∀ {w : World} {B : Nat} {s : Value} {a : α},RO w B s a → ∀ g,s.ownBlock=some g→B≤g∧g < w.heap.size) (h : OTb row e k RO w B v vs l) : ∀ s ∈ vs,∀ g,s.ownBlock=some g→B≤g∧g < w.heap.size:=fun s hs g e=>by
 obtain ⟨i,hi⟩:=List.mem_iff_getElem?.1 hs
 obtain ⟨a,_,hr⟩:=h.inner.get' hi
 exact hlt hr g e
theorem OTb.push {α : Type} {row : Value→α→List Value} {e k : Nat} {RO : World→Nat→Value→α→Prop} {w wx w' : World} {B : Nat} {v v' s : Value} {vs : List Value} {l : List α} {a : α}
  (hkeep : ∀ {w w' : World} {S : Nat→Prop} {B : Nat} {s : Value} {a : α},RO w B s a→ExtBut S w w'→(∀ g,s.ownBlock=some g → ¬ S g)→RO w' B s a)
  (hlt : ∀ {w : World} {B : Nat} {s : Value} {a : α},RO w B s a → ∀ g,s.ownBlock=some g→B≤g∧g < w.heap.size)
  (h : OTb row e k RO w B v vs l) (hE : Ext w wx) (hR : RO wx B s a) (hs : ∀ g,s.ownBlock=some g→w.heap.size≤g) (hO : Own w' B e k v' (l.length+1) (trows row vs l ++ row s a)) (hK : Keeps wx w' B v)
  (hb : v'.ownBlock=v.ownBlock ∨ ∃ g,v'.ownBlock=some g∧wx.heap.size≤g) : OTb row e k RO w' B v' (vs ++ [s]) (l ++ [a]):=by
 have hl:=(All2.iff.1 h.inner).1
 have hX:=ExtBut.of_keeps hK
 have hvlt : ∀ g,v.ownBlock=some g→g < w.heap.size:=fun g e=>(h.outer.lt e).2
 have hold : ∀ s' ∈ vs,∀ g,s'.ownBlock=some g→g < w.heap.size:=fun s' hs' g e=>by
  obtain ⟨i,hi⟩:=List.mem_iff_getElem?.1 hs'
  obtain ⟨a',ha',hr⟩:=h.inner.get' hi
  exact (hlt hr g e).2
 have hnew : ∀ s' ∈ vs ++ [s],∀ g,s'.ownBlock=some g→g < wx.heap.size:=fun s' hs' g e=>by
  rcases List.mem_append.1 hs' with h1 | h1
  ·exact Nat.lt_of_lt_of_le (hold s' h1 g e) hE.size
  ·simp at h1
   subst h1
   exact (hlt hR g e).2
 refine ⟨?_,?_,?_,?_⟩
 ·rw [trows_append row hl,trows_one,List.length_append]
  exact hO
 ·refine All2.append (All2.iff.2 ⟨hl,fun i x y hx hy => ?_⟩) ⟨?_,trivial⟩
  ·exact hkeep (hkeep ((All2.iff.1 h.inner).2 i x y hx hy) (ExtBut.of_ext (S:=fun _=>False) hE) (fun _ _ h=>h)) hX (fun g e1 e2=>h.far x (List.mem_of_getElem? hx) g e1 e2)
  ·exact hkeep hR hX (fun g e1 e2=>by have:=hs g e1;have:=hvlt g e2;omega)
 ·intro i j x y hne hx hy g ex ey
  have part : ∀ {i : Nat} {x : Value},(vs ++ [s])[i]? = some x→(i < vs.length∧vs[i]? = some x)∨(i=vs.length∧x=s):=fun {i x} hx=>by
   by_cases hi : i < vs.length
   ·rw [List.getElem?_append_left hi] at hx
    exact .inl ⟨hi,hx⟩
   ·have hlt:=(List.getElem?_eq_some_iff.1 hx).1
    rw [List.length_append,List.length_singleton] at hlt
    have hi' : i=vs.length:=by omega
    subst hi'
    simp at hx
    exact .inr ⟨rfl,hx.symm⟩
  rcases part hx with ⟨hi,hx'⟩ | ⟨hi,rfl⟩ <;> rcases part hy with ⟨hj,hy'⟩ | ⟨hj,rfl⟩
  ·exact h.apart i j x y hne hx' hy' g ex ey
  ·have:=hold x (List.mem_of_getElem? hx') g ex
   have:=hs g ey
   omega
  ·have:=hold y (List.mem_of_getElem? hy') g ey
   have:=hs g ex
   omega
  ·omega
 ·intro s' hs' g e1 e2
  rcases hb with hb | ⟨g',hb,hge⟩
  ·rw [hb] at e2
   rcases List.mem_append.1 hs' with h1 | h1
   ·exact h.far s' h1 g e1 e2
   ·simp at h1
    subst h1
    have:=hs g e1
    have:=hvlt g e2
    omega
  ·rw [hb] at e2
   cases e2
   have:=hnew s' hs' g e1
   omega
structure CInv {α : Type} (row : Value→α→List Value) (e k : Nat) (RO : World→Nat→Value→α→Prop) (w0 w1 wr : World) (g cap : Nat) (vs0 : List Value) (l : List α) (n : Nat) : Prop where
 vs : ∃ vs : List Value,vs.length=l.length∧Own wr w0.heap.size e k (.slice (some ⟨g,0,none⟩) l.length cap) l.length (trows row vs l)∧(∀ (i : Nat) (s : Value) (a : α),i < n→vs[i]? = some s→l[i]? = some a→RO wr w0.heap.size s a ∧ ∀ b,s.ownBlock=some b→w1.heap.size≤b∧b < wr.heap.size)∧(∀ (i j : Nat) (a b : Value),i < n→j < n→i≠j→vs[i]? = some a→vs[j]? = some b → ∀ g,a.ownBlock=some g→b.ownBlock≠some g)∧(∀ i : Nat,n≤i→vs[i]? = vs0[i]?)
 ext0 : Ext w0 w1
 glo : w0.heap.size≤g∧g < w1.heap.size
 keep : ExtBut (· = g) w1 wr
section
variable {α : Type} {row : Value→α→List Value} {e k : Nat} {RO : World→Nat→Value→α→Prop} {w0 w1 wr : World} {g cap : Nat} {vs0 : List Value} {l : List α} {n : Nat}
theorem CInv.ext (h : CInv row e k RO w0 w1 wr g cap vs0 l n) : Ext w0 wr:=h.keep.ext h.ext0 fun _ hx=>hx ▸ h.glo.1
theorem CInv.start (hv : vs0.length=l.length) (hO : Own w1 w0.heap.size e k (.slice (some ⟨g,0,none⟩) l.length cap) l.length (trows row vs0 l)) (hE : Ext w0 w1) : CInv row e k RO w0 w1 w1 g cap vs0 l 0 :=
 ⟨⟨vs0,hv,hO,fun i _ _ h=>by omega,fun i _ _ _ h=>by omega,fun _ _=>rfl⟩,hE,hO.lt rfl,ExtBut.refl _ _⟩
theorem CInv.step (hrow : ∀ s a,(row s a).length=k) (hkeep : ∀ {w w' : World} {S : Nat→Prop} {B : Nat} {s : Value} {a : α},RO w B s a→ExtBut S w w'→(∀ g,s.ownBlock=some g → ¬ S g)→RO w' B s a)
  (h : CInv row e k RO w0 w1 wr g cap vs0 l n) {a : α} {s s' : Value} {j : Nat} {w' : World} (ha : l[n]? = some a) (hs : vs0[n]? = some s) (hj : j < k) (hset : row s' a=(row s a).set j s') (hE : Ext wr w') (hR : RO w' w0.heap.size s' a)
  (hb : ∀ b,s'.ownBlock=some b→wr.heap.size≤b∧b < w'.heap.size) : CInv row e k RO w0 w1 (w'.setCell ⟨g,n * k+j,none⟩ s') g cap vs0 l (n+1):=by
 obtain ⟨⟨vs,hl,hO,hi,hap,hold⟩,h0,hg,hk⟩:=h
 have hsn : vs[n]? = some s:=(hold n (Nat.le_refl _)).trans hs
 have hn : n < vs.length:=(List.getElem?_eq_some_iff.1 hsn).1
 have hO':=(hO.ext hE).set (n * k+j) s'
 rw [trows_set row hrow hsn ha hj hset,set_same ha] at hO'
 have hk1:=hk.size
 have hE':=hE.size
 have hgr : g < wr.heap.size:=by omega
 have hS : ExtBut (· = g) w' (w'.setCell ⟨g,n * k+j,none⟩ s'):=ExtBut.setCell w' ⟨g,n * k+j,none⟩ s'
 refine ⟨⟨vs.set n s',by simpa using hl,hO',?_,?_,?_⟩,h0,hg,hk.trans ((ExtBut.of_ext hE).trans hS)⟩
 ·intro i x y hin hx hy
  by_cases e1 : i=n
  ·subst e1
   rw [List.getElem?_set_self hn] at hx
   cases hx
   rw [ha] at hy
   cases hy
   exact ⟨hkeep hR hS (fun b e he=>by have:=(hb b e).1;omega),fun b e=>⟨by have:=(hb b e).1;omega,by simpa using (hb b e).2⟩⟩
  ·rw [List.getElem?_set_ne (fun e=>e1 e.symm)] at hx
   obtain ⟨h1,h2⟩:=hi i x y (by omega) hx hy
   exact ⟨hkeep (hkeep h1 (ExtBut.of_ext (S:=fun _=>False) hE) (fun _ _ h=>h)) hS (fun b e he=>by have:=(h2 b e).1;omega),fun b e=>⟨(h2 b e).1,by have:=(h2 b e).2;simp;omega⟩⟩
 ·intro i j' x y hin hjn hne hx hy b hxb hyb
  by_cases e1 : i=n
  ·subst e1
   rw [List.getElem?_set_self hn] at hx
   cases hx
   rw [List.getElem?_set_ne hne] at hy
   have hyl : j' < l.length:=by rw [← hl];exact (List.getElem?_eq_some_iff.1 hy).1
   have:=((hi j' y _ (by omega) hy (List.getElem?_eq_getElem hyl)).2 b hyb).2
   have:=(hb b hxb).1
   omega
  ·rw [List.getElem?_set_ne (fun e=>e1 e.symm)] at hx
   by_cases e2 : j'=n
   ·subst e2
    rw [List.getElem?_set_self hn] at hy
    cases hy
    have hxl : i < l.length:=by rw [← hl];exact (List.getElem?_eq_some_iff.1 hx).1
    have:=((hi i x _ (by omega) hx (List.getElem?_eq_getElem hxl)).2 b hxb).2
    have:=(hb b hyb).1
    omega
   ·rw [List.getElem?_set_ne (fun e=>e2 e.symm)] at hy
    exact hap i j' x y (by omega) (by omega) hne hx hy b hxb hyb
 ·intro i hin
  rw [List.getElem?_set_ne (by omega)]
  exact hold i (by omega)
theorem CInv.finish (h : CInv row e k RO w0 w1 wr g cap vs0 l l.length) : ∃ vs,OTb row e k RO wr w0.heap.size (.slice (some ⟨g,0,none⟩) l.length cap) vs l∧Ext w0 wr ∧ ∀ s ∈ vs,∀ b,s.ownBlock=some b→w1.heap.size≤b:=by
 have hE:=h.ext
 obtain ⟨⟨vs,hl,hO,hi,hap,hold⟩,h0,hg,hk⟩:=h
 have lt : ∀ {i : Nat} {s : Value},vs[i]? = some s→i < l.length:=fun h=>by rw [← hl];exact (List.getElem?_eq_some_iff.1 h).1
 refine ⟨vs,⟨hO,All2.iff.2 ⟨hl,fun i s a hs ha=>(hi i s a (lt hs) hs ha).1⟩,fun i j a b hne ha hb=>hap i j a b (lt ha) (lt hb) hne ha hb,fun s hs b hb => ?_⟩,hE,fun s hs b hb => ?_⟩
 all_goals
  obtain ⟨i,hi2⟩:=List.mem_iff_getElem?.1 hs
 rotate_left
 ·exact ((hi i s _ (lt hi2) hi2 (List.getElem?_eq_getElem (lt hi2))).2 b hb).1
 have:=((hi i s _ (lt hi2) hi2 (List.getElem?_eq_getElem (lt hi2))).2 b hb).1
 intro e
 simp only [Value.ownBlock,Option.some.injEq] at e
 omega
end
end Go.Proofs.YtoanoodfacmieaaGreatDoor

/- How the statement MonitorSteps' argument reads: a slice of rows of five integers. -/
namespace Go.Proofs.YtoanoodfacmieaaGreatDoor
set_option maxRecDepth 100000
open Go.ChangeShapes Go.WideShapes Go.ChangeAt Go.RowKit
structure Row5 where
 a : Int
 b : Int
 c : Int
 d : Int
 e : Int
def Row5.row (x : Row5) : List Value:=[.int .i64 x.a,.int .i64 x.b,.int .i64 x.c,.int .i64 x.d,.int .i64 x.e]
def Row5.wf (x : Row5) : Prop:=i64B x.a∧i64B x.b∧i64B x.c∧i64B x.d∧i64B x.e
def Fvs (w : World) (v : Value) (l : List Row5) : Prop:=Sl w 5 v l.length (l.flatMap Row5.row)
theorem Fvs.ext {w w' : World} {v : Value} {l : List Row5} (h : Fvs w v l) (he : Ext w w') : Fvs w' v l:=Sl.ext h he
section
variable {H : Type} {enc : TypeId × Value→H} {w : World} {base : Nat} {spare : Nat→Bool} {held : Bool}
theorem trod_array {P : Program} {t e : TypeId} {n fuel : Nat} {cs : List Value} {x : DataW H × List MemPlace} (ht : P.underlying t=some (.array n e)) (h : DataW.trod enc P w base spare held fuel t cs=some x) :
  ∃ (xs : List (DataW H × List MemPlace)) (m : Nat),xs.length=n ∧ ∀ i,i < n→DataW.trod enc P w base spare held m e ((cs.drop (i * P.cellsOf e)).take (P.cellsOf e))=xs[i]? := by
 cases fuel with
 | zero=>simp [DataW.trod] at h
 | succ m =>
  unfold DataW.trod at h
  rw [ht] at h
  split at h <;> simp_all
  obtain ⟨hl,xs,hp,hd⟩:=h
  obtain ⟨h1,h2⟩:=mapM_get hp
  exact ⟨xs,h1,m,h2⟩
theorem read_row5 {t : Nat} (ht : Tryz.prog.underlying t=some (.array 5 3)) (n : Nat) (cs : List Value) (x : DataW H × List MemPlace) (hl : cs.length=5) (h : DataW.trod enc Tryz.prog w base spare held n t cs=some x) : ∃ a : Row5,cs=a.row∧a.wf:=by
 have c64 : Tryz.prog.cellsOf 3=1:=by kernel_rfl
 obtain ⟨xs,m,hx,hf⟩:=trod_array ht h
 match cs,hl with
 | [c0,c1,c2,c3,c4],_ =>
  have f0:=hf 0 (by omega)
  have f1:=hf 1 (by omega)
  have f2:=hf 2 (by omega)
  have f3:=hf 3 (by omega)
  have f4:=hf 4 (by omega)
  rw [c64] at f0 f1 f2 f3 f4
  match xs,hx with
  | [y0,y1,y2,y3,y4],_ =>
   obtain ⟨p0,e0,_,w0⟩:=DataW.trod_int Tryz.underlying3 f0
   obtain ⟨p1,e1,_,w1⟩:=DataW.trod_int Tryz.underlying3 f1
   obtain ⟨p2,e2,_,w2⟩:=DataW.trod_int Tryz.underlying3 f2
   obtain ⟨p3,e3,_,w3⟩:=DataW.trod_int Tryz.underlying3 f3
   obtain ⟨p4,e4,_,w4⟩:=DataW.trod_int Tryz.underlying3 f4
   simp at e0 e1 e2 e3 e4
   subst e0 e1 e2 e3 e4
   refine ⟨⟨p0,p1,p2,p3,p4⟩,rfl,?_,?_,?_,?_,?_⟩
   ·simpa [Lit.wf,IntKind.min,IntKind.max,IntKind.signed,IntKind.bits,i64B] using w0
   ·simpa [Lit.wf,IntKind.min,IntKind.max,IntKind.signed,IntKind.bits,i64B] using w1
   ·simpa [Lit.wf,IntKind.min,IntKind.max,IntKind.signed,IntKind.bits,i64B] using w2
   ·simpa [Lit.wf,IntKind.min,IntKind.max,IntKind.signed,IntKind.bits,i64B] using w3
   ·simpa [Lit.wf,IntKind.min,IntKind.max,IntKind.signed,IntKind.bits,i64B] using w4
theorem rows_of_row5 : ∀ {rows : List (List Value)} {l : List Row5},All2 (fun cs (a : Row5)=>cs=a.row∧a.wf) rows l→rows.flatten=l.flatMap Row5.row ∧ ∀ a ∈ l,a.wf
 | [],[],_=>⟨rfl,fun _ h=>by cases h⟩
 | r :: rows,a :: l,h=>by
  obtain ⟨h1,h2⟩:=rows_of_row5 h.2
  refine ⟨by rw [List.flatten_cons,List.flatMap_cons,h1,h.1.1],fun b hb => ?_⟩
  rcases List.mem_cons.1 hb with rfl | hb
  ·exact h.1.2
  ·exact h2 b hb
theorem open_rows5 {t : Nat} (ht : Tryz.prog.underlying t=some (.slice 33)) {r : Reach} {b0 : Nat} {v : Value} {d : DataW H} {p : List MemPlace} (hv : Value.okWide Tryz.prog w r b0 t v) (h : DataW.Trod enc Tryz.prog w base spare held t v d p) :
  ∃ l : List Row5,Fvs w v l ∧ ∀ a ∈ l,a.wf:=by
 obtain ⟨a0,len,cap,rfl⟩:=okWide_slice ht hv
 obtain ⟨n,hn⟩:=h
 obtain ⟨v,rows,l,hv9,hs,_,ha⟩:=read_slice (k:=5) ht (by kernel_rfl) (by omega) (fun cs (a : Row5)=>cs=a.row∧a.wf) (fun n cs x hl h=>read_row5 Tryz.underlying33 n cs x hl h) hn
 simp only [Value.cells,List.cons.injEq,and_true] at hv9
 subst hv9
 obtain ⟨e,hw⟩:=rows_of_row5 ha
 refine ⟨l,?_,hw⟩
 unfold Fvs
 rw [← e,← ha.length]
 exact hs
end
end Go.Proofs.YtoanoodfacmieaaGreatDoor
