/- Several texts in one: CelW8, MonA, MonB, StkB, MonC1. -/
import Derived.Test.YtnplphcnagooeaaGreatDoorQ06
import Derived.Deep.RegionLaw
import Derived.RegionTactic
import Derived.Test.YtnplphcnagooeaaGreatDoorQ04
import Derived.Test.YtnplphcnagooeaaGreatDoorQ03
import Derived.Lib.AppendZeros
import Derived.LoopIn
import Derived.Deep.QuietTactic
import Derived.BigQuiet
import Derived.Deep.RegionHeld3
import Derived.Test.YtnplphcnagooeaaGreatDoorQ02
/- Contracts: Add of the program and of the reference. -/
namespace Go.Proofs.YtnplphcnagooeaaGreatDoor
set_option maxRecDepth 100000
open Go.RowKit
def FrM (w w' : World) (v : Value) (m : Mem) : Prop := ∀ w'' : World,ExtBut (fun b=>b < w.heap.size) w' w''→RdM w'' v m
theorem FrM.read {w w' : World} {v : Value} {m : Mem} (h : FrM w w' v m) : RdM w' v m:=h w' (ExtBut.refl _ _)
theorem FrM.ext {w w' w2 : World} {v : Value} {m : Mem} (h : FrM w w' v m) (hE : Ext w' w2) : FrM w w2 v m:=fun w'' h2=>h w'' ((ExtBut.of_ext hE).trans h2)
theorem FrM.but {w w' w2 : World} {v : Value} {m : Mem} {S : Nat→Prop} (h : FrM w w' v m) (hE : ExtBut S w' w2) (hS : ∀ b,S b→b < w.heap.size) : FrM w w2 v m:=fun w'' h2=>h w'' ((hE.mono fun b _ hb=>hS b hb).trans h2)
theorem FrM.mono {w0 w w' : World} {v : Value} {m : Mem} (h : FrM w w' v m) (hw : w0.heap.size≤w.heap.size) : FrM w0 w' v m:=fun w'' h2=>h w'' (h2.mono fun _ _ hb=>Nat.lt_of_lt_of_le hb hw)
theorem FrM.zero (w w' : World) : FrM w w' (.agg #[.slice none 0 0,.int .i64 0]) Mem.zero:=fun w'' _=>RdM.zero w''
theorem FrM.of_OM {w w' : World} {B : Nat} {v : Value} {vs : List Value} {l : List Alloc} {next : Int} (h : OM w' B v vs l) (hB : w.heap.size≤B) : FrM w w' (.agg #[v,.int .i64 next]) ⟨l,next⟩:=fun w'' h2 =>
 ⟨_,rfl,OM.read (OM.but h h2 (fun g e hl=>by have:=(h.outer.lt e).1;omega) (fun s hs g e hl=>by have:=(OM.inner_lt h s hs g e).1;omega))⟩
def RetMN (w : World) (m : Mem) (n err : Int) (en : Ending) (w' : World) : Prop := ∃ v,en = .returned (.tuple #[v,.int .i64 n,.int .i64 err])∧FrM w w' v m∧Ext w w'
def RetME (w : World) (m : Mem) (err : Int) (en : Ending) (w' : World) : Prop := ∃ v,en = .returned (.tuple #[v,.int .i64 err])∧FrM w w' v m∧Ext w w'
theorem small_of_ok {m : Mem} (h : m.ok=true) : small m.al:=by
 unfold Mem.ok okM at h
 simp only [Bool.and_eq_true,decide_eq_true_eq] at h
 refine ⟨by omega,?_⟩
 have hgo : ∀ (l : List Alloc) (least : Int),okAl m.next least l=true → ∀ a ∈ l,a.cells.length≤1000000:=by
  intro l
  induction l with
  | nil=>intro _ _ a ha;cases ha
  | cons x l ih =>
   intro least h a ha
   simp only [okAl,Bool.and_eq_true,decide_eq_true_eq] at h
   rcases List.mem_cons.1 ha with rfl | ha
   ·omega
   ·exact ih _ h.2 a ha
 exact hgo m.al 0 h.2
theorem ok_bounds {m : Mem} (h : m.ok=true) : m.al.length≤400∧0≤m.next∧m.next≤1000000:=by
 unfold Mem.ok okM inB at h
 simp only [Bool.and_eq_true,decide_eq_true_eq] at h
 omega
theorem addR_bad {m : Mem} {size : Int} (h : m.ok=false) : addR m size=(Mem.zero,0,8):=by simp [addR,h]
theorem addR_arg {m : Mem} {size : Int} (h : m.ok=true) (hs : size < 1∨2 < size) : addR m size=(Mem.zero,0,2):=by simp [addR,h,hs]
theorem addR_full {m : Mem} {size : Int} (h : m.ok=true) (hs : ¬ (size < 1∨2 < size)) (hf : m.al.length=400∨m.next=1000000) : addR m size=(Mem.zero,0,18):=by simp [addR,h,hs,hf]
theorem addR_yes {m : Mem} {size : Int} (h : m.ok=true) (hs : ¬ (size < 1∨2 < size)) (hf : ¬ (m.al.length=400∨m.next=1000000)) : addR m size=(⟨m.al ++ [newAlloc m.next size.toNat],m.next+1⟩,m.next,0):=by simp [addR,h,hs,hf]
set_option maxHeartbeats 1600000 in
theorem allocs_Add {m : Mem} {s : Value} {w : World} (size : Int) (hl : Als w s m.al) (hn : i64B m.next) :
  Calls Tryz.prog 33 #[.agg #[s,.int .i64 m.next],.int .i64 size] w (RetMN w (addR m size).1 (addR m size).2.1 (addR m size).2.2):=by
 have hE0:=((Ext.refl w).alloc (.cells #[s,.int .i64 m.next] 24)).alloc (.cells #[.slice none 0 0,.int .i64 0] 24)
 obtain ⟨a,cp,rfl,hlc,hcm,-⟩:=hl.form
 have bM:=(Box.new w 24 #[.slice a m.al.length cp,.int .i64 m.next]).ext ((Ext.refl _).alloc (.cells #[.slice none 0 0,.int .i64 0] 24))
 have bR:=Box.new (w.alloc (.cells #[.slice a m.al.length cp,.int .i64 m.next] 24)) 24 #[.slice none 0 0,.int .i64 0]
 rw [World.size_alloc] at bR
 have hCk:=Lib.hid (allocs_Check (hl.ext hE0) hn)
 have hL:=Lib.hid hl
 cases hok : m.ok
 ·have hce : Hid (memErr m.al m.next=8):=Hid.mk (memErr_bad hok)
  have hres:=Lib.hid (addR_bad (size:=size) hok)
  clear hok hl
  go_enter Tryz.func33,Tryz.ntmps33
  go_wp2_with fail
  refine hCk.out.mono ?_
  rintro e w1 ⟨rfl,hE1⟩
  rw [hce.out]
  have bR1:=bR.ext hE1
  have r0 : w1.cell? ⟨w.heap.size+1,0,none⟩=some (.slice none 0 0):=bR1.cell 0
  have r1 : w1.cell? ⟨w.heap.size+1,1,none⟩=some (.int .i64 0):=bR1.cell 1
  have rf0:=bR1.frozen 0
  have rf1:=bR1.frozen 1
  have hF1:=hE0.trans hE1
  clear bM bR bR1
  go_wp2
  rw [hres.out]
  refine bodyPost_ret (v := .tuple #[.agg #[.slice none 0 0,.int .i64 0],.int .i64 0,.int .i64 8]) (by simp [results,Tryz.f33,go_sem,r0,r1]) rfl ⟨_,rfl,FrM.zero _ _,(hF1.setCell (by simp) _).setCell (by simp) _⟩
 ·have hce : Hid (memErr m.al m.next=0):=Hid.mk (memErr_ok hok)
  have hsm:=small_of_ok hok
  obtain ⟨hb1,hb2,hb3⟩:=ok_bounds hok
  by_cases hs : size < 1∨2 < size
  ·have hres:=Lib.hid (addR_arg hok hs)
   clear hok hl
   rcases hs with hs | hs
   ·have q1 : decide (size < 1)=true:=decide_eq_true hs
    go_enter Tryz.func33,Tryz.ntmps33
    go_wp2_with fail
    refine hCk.out.mono ?_
    rintro e w1 ⟨rfl,hE1⟩
    rw [hce.out]
    have bR1:=bR.ext hE1
    have r0 : w1.cell? ⟨w.heap.size+1,0,none⟩=some (.slice none 0 0):=bR1.cell 0
    have r1 : w1.cell? ⟨w.heap.size+1,1,none⟩=some (.int .i64 0):=bR1.cell 1
    have rf0:=bR1.frozen 0
    have rf1:=bR1.frozen 1
    have hF1:=hE0.trans hE1
    clear bM bR bR1
    go_wp2
    rw [hres.out]
    refine bodyPost_ret (v := .tuple #[.agg #[.slice none 0 0,.int .i64 0],.int .i64 0,.int .i64 2]) (by simp [results,Tryz.f33,go_sem,r0,r1]) rfl ⟨_,rfl,FrM.zero _ _,(hF1.setCell (by simp) _).setCell (by simp) _⟩
   ·have q1 : decide (size < 1)=false:=decide_eq_false (by omega)
    have q2 : decide (2 < size)=true:=decide_eq_true hs
    go_enter Tryz.func33,Tryz.ntmps33
    go_wp2_with fail
    refine hCk.out.mono ?_
    rintro e w1 ⟨rfl,hE1⟩
    rw [hce.out]
    have bR1:=bR.ext hE1
    have r0 : w1.cell? ⟨w.heap.size+1,0,none⟩=some (.slice none 0 0):=bR1.cell 0
    have r1 : w1.cell? ⟨w.heap.size+1,1,none⟩=some (.int .i64 0):=bR1.cell 1
    have rf0:=bR1.frozen 0
    have rf1:=bR1.frozen 1
    have hF1:=hE0.trans hE1
    clear bM bR bR1
    go_wp2
    rw [hres.out]
    refine bodyPost_ret (v := .tuple #[.agg #[.slice none 0 0,.int .i64 0],.int .i64 0,.int .i64 2]) (by simp [results,Tryz.f33,go_sem,r0,r1]) rfl ⟨_,rfl,FrM.zero _ _,(hF1.setCell (by simp) _).setCell (by simp) _⟩
  ·have q1 : decide (size < 1)=false:=decide_eq_false (by omega)
   have q2 : decide (2 < size)=false:=decide_eq_false (by omega)
   by_cases hf : m.al.length=400∨m.next=1000000
   ·have hres:=Lib.hid (addR_full hok hs hf)
    clear hok hl
    have q3 : ((m.al.length : Int) == 400)=true∨((m.al.length : Int) == 400)=false∧(m.next == 1000000)=true:=by
     rcases hf with h | h
     ·exact .inl (beq_iff_eq.2 (by omega))
     ·by_cases h4 : m.al.length=400
      ·exact .inl (beq_iff_eq.2 (by omega))
      ·exact .inr ⟨beq_eq_false_iff_ne.2 (by omega),beq_iff_eq.2 h⟩
    clear hf hs
    rcases q3 with q3 | ⟨q3,q4⟩
    all_goals
     go_enter Tryz.func33,Tryz.ntmps33
     go_wp2_with fail
     refine hCk.out.mono ?_
     rintro e w1 ⟨rfl,hE1⟩
     rw [hce.out]
     have bR1:=bR.ext hE1
     have bM1:=bM.ext hE1
     have m0 : w1.cell? ⟨w.heap.size,0,none⟩=some (.slice a m.al.length cp):=bM1.cell 0
     have m1 : w1.cell? ⟨w.heap.size,1,none⟩=some (.int .i64 m.next):=bM1.cell 1
     have r0 : w1.cell? ⟨w.heap.size+1,0,none⟩=some (.slice none 0 0):=bR1.cell 0
     have r1 : w1.cell? ⟨w.heap.size+1,1,none⟩=some (.int .i64 0):=bR1.cell 1
     have rf0:=bR1.frozen 0
     have rf1:=bR1.frozen 1
     have hF1:=hE0.trans hE1
     clear bM bR bR1 bM1
     go_wp2
     rw [hres.out]
     refine bodyPost_ret (v := .tuple #[.agg #[.slice none 0 0,.int .i64 0],.int .i64 0,.int .i64 18]) (by simp [results,Tryz.f33,go_sem,r0,r1]) rfl ⟨_,rfl,FrM.zero _ _,(hF1.setCell (by simp) _).setCell (by simp) _⟩
   ·have hres:=Lib.hid (addR_yes hok hs hf)
    have q3 : ((m.al.length : Int) == 400)=false:=beq_eq_false_iff_ne.2 (by omega)
    have q4 : (m.next == 1000000)=false:=beq_eq_false_iff_ne.2 (by omega)
    have hl4 : m.al.length≤1000000:=by omega
    obtain ⟨n,rfl⟩ : ∃ n : Nat,size=(n : Int):=⟨size.toNat,by omega⟩
    have hn12 : 1≤n∧n≤2:=by omega
    have hmk:=make_Cells n (by omega)
    obtain ⟨ai,az,hai,haz,hai3,haz3,haby⟩:=Alloc.infoE
    have hai':=Lib.hid hai;have haz':=Lib.hid haz;have hai3':=Lib.hid hai3;have haz3':=Lib.hid haz3;have haby':=Lib.hid haby
    clear hok hl hf hs hai haz hai3 haz3 haby
    ·skip
     go_enter Tryz.func33,Tryz.ntmps33
     go_wp2_with fail
     refine hCk.out.mono ?_
     rintro e w1 ⟨rfl,hE1⟩
     rw [hce.out]
     have bR1:=bR.ext hE1
     have bM1:=bM.ext hE1
     have m0 : w1.cell? ⟨w.heap.size,0,none⟩=some (.slice a m.al.length cp):=bM1.cell 0
     have m1 : w1.cell? ⟨w.heap.size,1,none⟩=some (.int .i64 m.next):=bM1.cell 1
     have hF1:=hE0.trans hE1
     go_wp2_with fail
     refine (allocs_clone (hL.out.ext hF1) hsm).mono ?_
     rintro e w2 ⟨v,vs,rfl,hOM,hE2⟩
     have hF2:=hF1.trans hE2
     have hO:=hOM.outer
     have hvB:=fun g e=>(hO.lt (g:=g) e)
     obtain ⟨a2,cp2,rfl,hlc2,hcm2,-⟩:=hO.sl.slice_form
     unfold maxLen at hcm2
     have bR2:=bR1.ext hE2
     have bM2:=bM1.ext hE2
     have mf0:=bM2.frozen 0
     have mf1:=bM2.frozen 1
     have m0' : w2.cell? ⟨w.heap.size,0,none⟩=some (.slice a m.al.length cp):=bM2.cell 0
     have m1' : w2.cell? ⟨w.heap.size,1,none⟩=some (.int .i64 m.next):=bM2.cell 1
     clear m0 m1
     go_wp2
     have hK3 : ExtBut (fun b=>b=w.heap.size) w2 ((w2.setCell ⟨w.heap.size,0,none⟩ (.slice a2 m.al.length cp2)).setCell ⟨w.heap.size,1,none⟩ (.int .i64 m.next)):=(ExtBut.setCell w2 ⟨w.heap.size,0,none⟩ (.slice a2 m.al.length cp2)).trans (ExtBut.setCell _ ⟨w.heap.size,1,none⟩ (.int .i64 m.next))
     have hw1 : w.heap.size+1 < w1.heap.size:=bR1.lt
     have bM3:=(bM2.set 0 (.slice a2 m.al.length cp2)).set 1 (.int .i64 m.next)
     have bR3:=bR2.but hK3 (by omega)
     have hF3:=ExtBut.ext hF2 hK3 (fun x h=>by omega)
     have hOM3:=hOM.but hK3 (fun g e h=>by have:=(hvB g e).1;omega) (fun s hs g e h=>by have:=(hOM.inner_lt s hs g e).1;omega)
     obtain ⟨w3,hw3⟩ : ∃ w3,(w2.setCell ⟨w.heap.size,0,none⟩ (.slice a2 m.al.length cp2)).setCell ⟨w.heap.size,1,none⟩ (.int .i64 m.next)=w3:=⟨_,rfl⟩
     have hs3 : w2.heap.size≤w3.heap.size:=by rw [← hw3];simp
     have hs13 : w1.heap.size≤w3.heap.size:=Nat.le_trans hE2.size hs3
     rw [hw3] at bM3 bR3 hF3 hOM3 ⊢
     have n0 : w3.cell? ⟨w.heap.size,0,none⟩=some (.slice a2 m.al.length cp2):=bM3.cell 0
     have n1 : w3.cell? ⟨w.heap.size,1,none⟩=some (.int .i64 m.next):=bM3.cell 1
     have nf0:=bM3.frozen 0
     have nf1:=bM3.frozen 1
     have hH:=Lib.hid (And.intro bM3 (And.intro bR3 (And.intro hF3 (And.intro hOM3 (And.intro hvB hw1)))))
     have hlt3 : w.heap.size < w3.heap.size:=bM3.lt
     clear hw3 hK3 bM bR bR1 bM1 bR2 bM2 bM3 bR3 hOM hO hF2 hF1 hvB mf0 mf1 m0' m1' hF3 hOM3 hE2 hE1
     have hzo : ∀ w' : World,Ext w3 w'→Sl ((w'.alloc (.cells (zcells n) 78)).alloc (.cells #[.int .i64 m.next,.bool true,.slice (some ⟨w'.heap.size,0,none⟩) n n] 74)) 3 (.slice (some ⟨w'.heap.size+1,0,none⟩) 1 1) 1 (arow (.slice (some ⟨w'.heap.size,0,none⟩) n n) (newAlloc m.next n)):=fun w' _=>by
      have:=(Own.lit' (B:=0) (e:=74) (k:=3) (w'.alloc (.cells (zcells n) 78)) #[.int .i64 m.next,.bool true,.slice (some ⟨w'.heap.size,0,none⟩) n n] 1 (Nat.zero_le _) (by simp [maxLen]) rfl).sl
      rw [World.size_alloc] at this
      exact this
     have hzo:=Lib.hid hzo
     go_region_law (first | (rw [if_pos (by rfl)];refine wp_append_any (.tmp 37) (.tmp 42) 22 22 rfl rfl rfl (B:=w1.heap.size) (e:=74) (n:=m.al.length) (m:=1) (xs:=trows arow vs m.al) (ys:=arow (.slice (some ⟨w3.heap.size,0,none⟩) n n) (newAlloc m.next n)) Tryz.underlying22 Tryz.underlying22 hai'.out haz'.out hai3'.out haz3'.out (hH.out.2.2.2.1.outer.ext (((Ext.refl _).alloc _).alloc _).drew) ?_ ?_ ?_ ?_ ?_ ?_;(exact Sl.ext (hzo.out _ (Ext.refl _)) (Ext.refl _).drew);(simp [arow,Value.oneCell']);(simp [maxLen];omega);(rw [haby'.out];omega);(simp;omega);intro v' w' hO' hK' hb' _;obtain ⟨a3,cp3,rfl,-⟩:=hO'.sl.slice_form;have bM':=(hH.out.1.ext (((Ext.refl _).alloc _).alloc _).drew).but (ExtBut.of_keeps hK') (fun h=>by have:=(hH.out.2.2.2.2.1 _ h).1;have:=hH.out.2.2.2.2.2;omega);have k0 : w'.cell? ⟨w.heap.size,0,none⟩=some (.slice a2 m.al.length cp2):=bM'.cell 0;have kf:=bM'.frozen 0))
     all_goals
      have hEx:=((((Ext.refl w3).alloc (.cells (zcells n) 78)).alloc (.cells #[.int .i64 m.next,.bool true,.slice (some ⟨w3.heap.size,0,none⟩) n n] 74)).drew)
      have hzc : OwnC (((w3.alloc (.cells (zcells n) 78)).alloc (.cells #[.int .i64 m.next,.bool true,.slice (some ⟨w3.heap.size,0,none⟩) n n] 74)).drew) w1.heap.size (.slice (some ⟨w3.heap.size,0,none⟩) n n) (newAlloc m.next n):=Own.ext (zcells_own n (by omega) w3 hs13) (((Ext.refl _).alloc _).drew)
      have hP:=OM.push hH.out.2.2.2.1 hEx hzc (fun g e=>by have h' : some w3.heap.size=some g:=e;cases h';exact Nat.le_refl _) hO' hK' hb'
      have hF4:=Ext.trans hH.out.2.2.1 hEx
      have hS4:=ExtBut.of_keeps hK'
      have hvB:=hH.out.2.2.2.2.1
      have hin:=OM.inner_lt hP
      have hvB':=fun g e=>(hO'.lt (g:=g) e).1
      have hF5:=ExtBut.ext hF4 hS4 (fun x h=>by have:=(hvB _ h).1;omega)
      have bR5:=(hH.out.2.1.ext hEx).but hS4 (fun h=>by have:=(hvB _ h).1;omega)
      have bM6:=bM'.set 0 (.slice a3 (m.al.length+1) cp3)
      have hX6 : ExtBut (fun b=>b=w.heap.size∨b=w.heap.size+1) w' (w'.setCell ⟨w.heap.size,0,none⟩ (.slice a3 (m.al.length+1) cp3)):=(ExtBut.setCell w' ⟨w.heap.size,0,none⟩ (.slice a3 (m.al.length+1) cp3)).mono (fun x _ h => .inl h)
      have bR6:=bR5.other (p:=⟨w.heap.size,0,none⟩) (by simp) (.slice a3 (m.al.length+1) cp3)
      clear bM' k0 kf bR5 hEx hzc hK' hb' hO' hF4 hS4
      obtain ⟨w6,hw6⟩ : ∃ w6,w'.setCell ⟨w.heap.size,0,none⟩ (.slice a3 (m.al.length+1) cp3)=w6:=⟨_,rfl⟩
      rw [hw6] at bM6 bR6 hX6 ⊢
      clear hw6
      have e0 : w6.cell? ⟨w.heap.size,0,none⟩=some (.slice a3 (m.al.length+1) cp3):=bM6.cell 0
      have e1 : w6.cell? ⟨w.heap.size,1,none⟩=some (.int .i64 m.next):=bM6.cell 1
      have ef1:=bM6.frozen 1
      have r0 : w6.cell? ⟨w.heap.size+1,0,none⟩=some (.slice none 0 0):=bR6.cell 0
      have r1 : w6.cell? ⟨w.heap.size+1,1,none⟩=some (.int .i64 0):=bR6.cell 1
      have rf0:=bR6.frozen 0
      have rf1:=bR6.frozen 1
      have hlt6:=bM6.lt
      have hA:=Lib.hid (And.intro hP (And.intro hF5 (And.intro hX6 (And.intro hin hvB'))))
      clear hP hF5 hX6 hin hvB' bM6 bR6 hvB
      go_wp2
      rw [hres.out,Int.toNat_natCast]
      obtain ⟨hP,hF5,hX6,hin,hvB'⟩:=hA.out
      have hX7:=((hX6.trans ((ExtBut.setCell w6 ⟨w.heap.size,1,none⟩ (.int .i64 (m.next+1))).mono (S':=fun b=>b=w.heap.size∨b=w.heap.size+1) (fun x _ h => .inl h))).trans ((ExtBut.setCell _ ⟨w.heap.size+1,0,none⟩ (.slice a3 (m.al.length+1) cp3)).mono (S':=fun b=>b=w.heap.size∨b=w.heap.size+1) (fun x _ h => .inr h))).trans ((ExtBut.setCell _ ⟨w.heap.size+1,1,none⟩ (.int .i64 (m.next+1))).mono (S':=fun b=>b=w.heap.size∨b=w.heap.size+1) (fun x _ h => .inr h))
      refine bodyPost_ret (v := .tuple #[.agg #[.slice a3 (m.al.length+1) cp3,.int .i64 (m.next+1)],.int .i64 m.next,.int .i64 0]) (by simp [results,Tryz.f33,go_sem,r0,r1]) rfl ⟨_,rfl,FrM.of_OM (OM.but hP hX7 (fun g e h=>by have:=hvB' g e;omega) (fun s hs g e h=>by have:=(hin s hs g e).1;omega)) (by omega),ExtBut.ext hF5 hX7 (fun x h=>by omega)⟩
end Go.Proofs.YtnplphcnagooeaaGreatDoor

/- Monitors aas Lean data, and what a value in memory reads aas; what Check gives; no program in sight. (printed by gen/mon35.py) -/
namespace Go.Proofs.YtnplphcnagooeaaGreatDoor
set_option maxRecDepth 100000
open Go.RowKit
structure Mon where
 mem : Mem
 stks : List Stk
 run : List Int
 tag : Int
 call : Int
 deriving DecidableEq
def Mon.zero : Mon:=⟨Mem.zero,[],[],0,0⟩
def RdMon (w : World) (v : Value) (m : Mon) : Prop := ∃ sa ss sr,v = .agg #[sa,.int .i64 m.mem.next,ss,sr,.int .i64 m.tag,.int .i64 m.call]∧Als w sa m.mem.al∧Kts w ss m.stks∧Nts w sr m.run
theorem RdMon.ext {w w' : World} {v : Value} {m : Mon} (h : RdMon w v m) (he : Ext w w') : RdMon w' v m:=by
 obtain ⟨sa,ss,sr,rfl,h1,h2,h3⟩:=h
 exact ⟨sa,ss,sr,rfl,h1.ext he,h2.ext he,h3.ext he⟩
def FrMon (w w' : World) (v : Value) (m : Mon) : Prop := ∀ w'' : World,ExtBut (fun b=>b < w.heap.size) w' w''→RdMon w'' v m
theorem FrMon.read {w w' : World} {v : Value} {m : Mon} (h : FrMon w w' v m) : RdMon w' v m:=h w' (ExtBut.refl _ _)
theorem FrMon.ext {w w' w2 : World} {v : Value} {m : Mon} (h : FrMon w w' v m) (hE : Ext w' w2) : FrMon w w2 v m:=fun w'' h2=>h w'' ((ExtBut.of_ext hE).trans h2)
theorem FrMon.mono {w0 w w' : World} {v : Value} {m : Mon} (h : FrMon w w' v m) (hw : w0.heap.size≤w.heap.size) : FrMon w0 w' v m:=fun w'' h2=>h w'' (h2.mono fun _ _ hb=>Nat.lt_of_lt_of_le hb hw)
theorem okK_bounds {x : Stk} (h : okK x=true) : x.cells.length≤2 ∧ ∀ s ∈ x.cells,s.length≤600:=by
 unfold okK at h
 simp only [Bool.and_eq_true,decide_eq_true_eq] at h
 refine ⟨by omega,fun s hs => ?_⟩
 have:=List.all_eq_true.1 h.2 s hs
 simp only [okS,Bool.and_eq_true,decide_eq_true_eq] at this
 omega
def cntd (n : Int) : Bool:=decide (1≤n) && decide (n≤1000000)
def itM (tag call : Int) (x : Item) : Bool:=decide (x.t < tag) && decide (x.c < call)
def rowM (tag call : Int) (x : Stk) (a : Alloc) : Bool:=x.num == a.num && x.cells.length == a.cells.length && okK x && x.cells.flatten.all (fun it=>a.live && itM tag call it)
def headM (m : Mon) : Bool:=okM m.mem.al m.mem.next && m.stks.length == m.mem.al.length && cntd m.tag && cntd m.call && okR m.run
def lastM (m : Mon) : Bool:=m.run.length == 0 || decide (lastR m.run < m.call)
def rowAtM (m : Mon) (i : Nat) : Bool:=match m.stks[i]?,m.mem.al[i]? with
 | some x,some a=>rowM m.tag m.call x a
 | _,_=>false
def rowsM (m : Mon) : Bool:=(List.range m.mem.al.length).all (rowAtM m)
def okMon (m : Mon) : Bool:=headM m && lastM m && rowsM m
def monErr (m : Mon) : Int:=if okMon m then 0 else 8
theorem monErr_head {m : Mon} (h : headM m=false) : monErr m=8:=by simp [monErr,okMon,h]
theorem monErr_last {m : Mon} (h : lastM m=false) : monErr m=8:=by simp [monErr,okMon,h]
theorem monErr_row {m : Mon} {i : Nat} (hi : i < m.mem.al.length) (h : rowAtM m i=false) : monErr m=8:=by
 have : rowsM m=false:=by
  rw [Bool.eq_false_iff]
  intro hr
  have:=List.all_eq_true.1 hr i (List.mem_range.2 hi)
  rw [h] at this
  cases this
 simp [monErr,okMon,this]
theorem monErr_ok {m : Mon} (h1 : headM m=true) (h2 : lastM m=true) (h3 : ∀ i,i < m.mem.al.length→rowAtM m i=true) : monErr m=0:=by
 have : rowsM m=true:=List.all_eq_true.2 fun i hi=>h3 i (List.mem_range.1 hi)
 simp [monErr,okMon,h1,h2,this]
end Go.Proofs.YtnplphcnagooeaaGreatDoor

/- Contracts: slices.Grow of nil and slices.Concat at stacks of items. -/
namespace Go.Proofs.YtnplphcnagooeaaGreatDoor
set_option maxRecDepth 100000
open Go.RowKit
theorem wpList_append_zeros {P : Program} {w : World} {ops : Array Oper} {rest : List Oper} {o : Oper} {a : Act} {Q : Exit→Act→World→Prop} (hgd : o.guard=none) (s x : Operand) (t tn : TypeId)
  (ho : o.op = .call { callee := .builtin .append,args:=#[s,x],argTypes:=#[t,tn] }) {n : Nat} {kq kn : IntKind} (hs : a.eval s = .slice none 0 0) (hu : a.eval x = .int kq n) {e : TypeId} {i : TypeInfo} {z : Value} {k : Nat}
  (ht : P.underlying t=some (.slice e)) (htn : P.underlying tn=some (.int kn)) (hi : P.info? e=some i) (hz : i.zero=some z) (hik : i.size=k) (hzk : z.cells.size=k) (h0 : 0 < n) (hk : 0 < k) (h63 : n≤maxLen) (hbytes : n * i.bytes≤140737488355328)
  (h : ∀ v' w',(∃ g cap cur,v' = .slice (some ⟨g,0,none⟩) n cap∧w.heap.size≤g∧w'.heap[g]? = some (.cells cur e (0,0))∧n≤cap∧cap≤maxLen∧cur.size=cap * k)→Ext w w'→wpList P ops Q rest (a.put o.dst v') w') : wpList P ops Q (o :: rest) a w:=by
 refine wpList_plain hgd fun _ hK => ?_
 subst hik
 have hr:=Go.Lib.run_append_nil_zeros (P:=P) w t tn o.type e i z kq kn ht htn hi hz n h0 hk (by simp only [maxLen] at h63;omega) (by omega)
 have hge : n≤grownCap w n 0 e:=grownCap_ge w n 0 e
 have hcm : grownCap w n 0 e≤maxLen:=grownCap_le_maxLen w n 0 e h63
 unfold Oper.wp execOp
 simp only [ho,resolve,invoke,builtin,Sem.run_bind,Sem.run_pure,Result.andThen_ok,List.map_toArray,List.map_cons,List.map_nil,hs,hu,hr]
 refine hK _ _ (h _ _ ⟨w.heap.size,_,_,rfl,Nat.le_refl _,heap_alloc_new w.drew _,hge,hcm,?_⟩ ((Ext.refl w).drew.alloc _))
 rw [Array.size_append,size_zeroCells,size_zeroCells,hzk,← Nat.add_mul]
 congr 1
 omega
set_option maxHeartbeats 800000 in
theorem grow_Items {n : Nat} (hn : n≤2000) (w : World) : Calls Tryz.prog 114 #[.slice none 0 0,.int .i64 (n : Int)] w fun e w' => ∃ v,e = .returned v∧OwnI w' w.heap.size v []∧Ext w w':=by
 obtain ⟨ii,iz,hi,hz,hi3,hz3,hby⟩:=Item.infoE
 have hs0 : ∀ w,(Instr.slice 72 (.slice none 0 0) none (some (.int .i64 0)) none).run Tryz.prog w = .ok (.slice none 0 0) w:=slice_upto_Stack none [] 0 0 0 rfl (by decide)
 by_cases h0 : n=0
 ·subst h0
  go_enter Tryz.func114,Tryz.ntmps114
  go_wp2
  go_ret
  exact ⟨_,rfl,OwnI.nil _ _,Ext.refl _⟩
 ·have q0 : decide ((n : Int) < 0)=false:=decide_eq_false (by omega)
  have q1 : decide (0 < (n : Int))=true:=decide_eq_true (by omega)
  have q1' : decide (0 < n)=true:=decide_eq_true (by omega)
  have w1 : IntKind.i64.wrap (n : Int)=(n : Int):=IntWalk.i64_in _ (by omega)
  have hs1 : ∀ (g cap : Nat) (w : World),(Instr.slice 72 (.slice (some ⟨g,0,none⟩) n cap) none (some (.int .i64 0)) none).run Tryz.prog w = .ok (.slice (some ⟨g,0,none⟩) 0 cap) w:=fun g cap w=>run_slice_upto Tryz.underlying72 hi (some ⟨g,0,none⟩) n cap 0 0 rfl (Nat.zero_le _) w
  have hi:=Lib.hid hi;have hz:=Lib.hid hz;have hi3:=Lib.hid hi3;have hz3:=Lib.hid hz3;have hby:=Lib.hid hby;have h0:=Lib.hid h0;have hn:=Lib.hid hn
  go_enter Tryz.func114,Tryz.ntmps114
  go_wp2_with (at_builtin;refine Hid.out ?_)
  refine Hid.mk ?_
  refine wpList_append_zeros rfl _ _ 72 3 rfl rfl rfl Tryz.underlying72 Tryz.underlying3 hi.out hz.out hi3.out hz3.out (by have:=h0.out;omega) (by decide) (by have:=hn.out;simp [maxLen];omega) (by rw [hby.out];have:=hn.out;omega) ?_
  rintro v' w' ⟨g,cap,cur,rfl,hg,hh,hnc,hcm,hcs⟩ hE
  have hH:=Lib.hid (And.intro hg (And.intro hh (And.intro hcm (And.intro hcs hE))))
  have hnc' : n≤cap:=hnc
  clear hg hh hcm hcs hE
  go_wp2
  go_ret
  exact ⟨_,rfl,⟨rfl,.inr ⟨g,cap,cur,rfl,hH.out.1,hH.out.2.1,Nat.zero_le _,hH.out.2.2.1,hH.out.2.2.2.1,by simp⟩⟩,hH.out.2.2.2.2⟩
theorem flatten_take_succ {l : List (List Item)} {k : Nat} {x : List Item} (hx : l[k]? = some x) : (l.take (k+1)).flatten=(l.take k).flatten ++ x:=by
 rw [List.take_add_one,hx]
 simp
theorem flatten_len {l : List (List Item)} (hb : ∀ s ∈ l,s.length≤600) : ∀ k,((l.take k).flatten).length≤k * 600:=by
 intro k
 induction k with
 | zero=>simp
 | succ k ih =>
  cases hx : l[k]? with
  | none=>rw [List.take_of_length_le (by have:=List.getElem?_eq_none_iff.1 hx;omega)];rw [List.take_of_length_le (by have:=List.getElem?_eq_none_iff.1 hx;omega)] at ih;omega
  | some x=>rw [flatten_take_succ hx,List.length_append];have:=hb x (List.mem_of_getElem? hx);omega
set_option maxHeartbeats 1600000 in
theorem concat_Items {l : List (List Item)} {v : Value} {w : World} (hl : Sts w v l) (h2 : l.length≤2) (hb : ∀ s ∈ l,s.length≤600) : Calls Tryz.prog 79 #[v] w fun e w' => ∃ u,e = .returned u∧OwnI w' w.heap.size u l.flatten∧Ext w w':=by
 obtain ⟨ii,iz,hi,hz,hi3,hz3,hby⟩:=Item.infoE
 have hi:=Lib.hid hi;have hz:=Lib.hid hz;have hi3:=Lib.hid hi3;have hz3:=Lib.hid hz3;have hby:=Lib.hid hby
 obtain ⟨a,cp,rfl,hlc,hcm,-⟩:=hl.form
 unfold maxLen at hcm
 have hlen:=Lib.hid (flatten_len hb)
 have hb:=Lib.hid hb
 go_enter Tryz.func79,Tryz.ntmps79
 go_wp2
 go_loopw [3,11] (fun sv iv wr => ∃ k : Nat,k≤l.length∧iv = .int .i64 k∧sv = .int .i64 (((l.take k).flatten).length : Nat)∧w=wr) (fun _ iv _=>l.length - (intOf iv).toNat)
 case atStart=>exact ⟨0,Nat.zero_le _,rfl,rfl,rfl⟩
 case round =>
  obtain ⟨k,hk,rfl,rfl,rfl⟩:=hrel
  by_cases hlt : k < l.length
  ·have hlt' : decide (k < l.length)=true:=decide_eq_true hlt
   obtain ⟨x,hx⟩ : ∃ x,l[k]? = some x:=⟨l[k],by simp [hlt]⟩
   obtain ⟨b,off,s,rfl,hbb,hc,hs⟩:=hl.cell hx
   obtain ⟨as',cs',rfl,-⟩:=hs.form
   have hxl:=hb.out x (List.mem_of_getElem? hx)
   have hfl:=hlen.out k
   have hsum : (((l.take k).flatten).length : Int)+(x.length : Int)=(((l.take (k+1)).flatten).length : Nat):=by rw [flatten_take_succ hx,List.length_append];omega
   have hfl2:=hlen.out (k+1)
   have hw1 : IntKind.i64.wrap ((((l.take k).flatten).length : Int)+(x.length : Int))=(((l.take (k+1)).flatten).length : Nat):=by rw [hsum];exact IntWalk.i64_in _ (by omega)
   have hi0 : (0 : Int)≤(k : Int):=by omega
   have hi1 : (k : Int) < (l.length : Int):=by omega
   have hneg : decide ((((l.take (k+1)).flatten).length : Int) < 0)=false:=decide_eq_false (by omega)
   replace hsum:=Lib.hid hsum
   replace hx:=Lib.hid hx
   replace hs:=Lib.hid hs
   generalize hA1 : ((l.take k).flatten).length=A1 at *
   generalize hA2 : ((l.take (k+1)).flatten).length=A2 at *
   replace hA1:=Lib.hid hA1
   replace hA2:=Lib.hid hA2
   go_wp2
   go_roundw
   case rel=>exact ⟨k+1,by omega,by go_num,by rw [hA2.out],by first | rfl | trivial⟩
   case measure=>simp [intOf];omega
  ·have hke : k=l.length:=by omega
   subst hke
   have hlt' : decide (l.length < l.length)=false:=decide_eq_false (by omega)
   rw [List.take_length]
   have hfl:=hlen.out l.length
   rw [List.take_length] at hfl
   obtain ⟨N,hN⟩ : ∃ N,l.flatten.length=N:=⟨_,rfl⟩
   rw [hN] at hfl ⊢
   replace hN:=Lib.hid hN
   clear hlt hk
   go_wp2_with fail
   refine (grow_Items (n:=N) (by omega) _).mono ?_
   rintro e w1 ⟨u,rfl,hO,hE⟩
   obtain ⟨ua,uc,rfl,-⟩:=(OwnI.its hO).form
   have hO0 : OwnI w1 w.heap.size (.slice ua ([] : List Item).length uc) ((l.take 0).flatten):=hO
   go_wp2
   go_loopw [6,27] (fun sv iv wr => ∃ k n : Nat,k≤l.length∧iv = .int .i64 k∧Hid (((l.take k).flatten).length=n)∧(∃ a c,sv = .slice a n c)∧Hid (OwnI wr w.heap.size sv ((l.take k).flatten))∧Ext w wr) (fun _ iv _=>l.length - (intOf iv).toNat)
   case atStart=>exact ⟨0,0,Nat.zero_le _,rfl,Hid.mk rfl,⟨_,_,rfl⟩,Hid.mk hO0,hE⟩
   case round =>
    obtain ⟨k,n,hk,rfl,hn,⟨sa,sc,rfl⟩,hW,hX⟩:=hrel
    by_cases hlt : k < l.length
    ·have hlt' : decide (k < l.length)=true:=decide_eq_true hlt
     obtain ⟨x,hx⟩ : ∃ x,l[k]? = some x:=⟨l[k],by simp [hlt]⟩
     obtain ⟨b,off,s,rfl,hbb,hc,hs⟩:=(hl.ext hX).cell hx
     obtain ⟨as',cs',rfl,-⟩:=hs.form
     have hxl:=hb.out x (List.mem_of_getElem? hx)
     have hfl:=hlen.out k
     rw [hn.out] at hfl
     have hi0 : (0 : Int)≤(k : Int):=by omega
     have hi1 : (k : Int) < (l.length : Int):=by omega
     have hbd : Hid (n+x.length≤2000):=Hid.mk (by omega)
     have hWn : Hid (Own wr w.heap.size 70 3 (.slice sa n sc) n (((l.take k).flatten).flatMap Item.row)):=Hid.mk (by have h:=hW.out;unfold OwnI at h;rwa [hn.out] at h)
     have hH:=Lib.hid (And.intro hWn.out (And.intro hs (And.intro hX hx)))
     have hsz : Hid (w.heap.size≤wr.heap.size):=Hid.mk hX.size
     clear hs hX hx hxl hfl hWn hW
     go_wp2_with (at_builtin;refine Hid.out ?_)
     refine Hid.mk ?_
     refine wpList_append_any rfl _ _ 72 72 rfl rfl rfl Tryz.underlying72 Tryz.underlying72 hi.out hz.out hi3.out hz3.out hH.out.1 hH.out.2.1 ?_ (Nat.le_trans hbd.out (by simp [maxLen])) (by rw [hby.out];have:=hbd.out;omega) hsz.out ?_
     ·intro u hu
      obtain ⟨y,hy,hu⟩:=List.mem_flatMap.1 hu
      simp only [Item.row,List.mem_cons,List.not_mem_nil,or_false] at hu
      rcases hu with rfl | rfl | rfl <;> rfl
     intro v' w' hO' hK' _ _
     have hn' : Hid (((l.take (k+1)).flatten).length=n+x.length):=Hid.mk (by rw [flatten_take_succ hH.out.2.2.2,List.length_append,hn.out])
     have hN' : Hid (OwnI w' w.heap.size v' ((l.take (k+1)).flatten)):=Hid.mk (by
      unfold OwnI
      rw [hn'.out,flatten_take_succ hH.out.2.2.2,List.flatMap_append]
      exact hO')
     obtain ⟨a',c',rfl,-⟩:=(Own.sl hO').slice_form
     have hXn : Hid (Ext w w'):=Hid.mk (Below.trans hH.out.2.2.1 hK'.below)
     clear hO' hK'
     go_wp2
     go_roundw
     case rel=>exact ⟨k+1,_,by omega,by go_num,hn',⟨_,_,rfl⟩,hN',hXn.out⟩
     case measure=>simp [intOf];omega
    ·have hke : k=l.length:=by omega
     subst hke
     have hlt' : decide (l.length < l.length)=false:=decide_eq_false (by omega)
     have hW2 : Hid (OwnI wr w.heap.size (.slice sa n sc) l.flatten):=Hid.mk (by have h:=hW.out;rwa [List.take_length] at h)
     clear hlt hk hW hn
     go_wp2
     go_ret
     exact ⟨_,rfl,hW2.out,hX⟩
end Go.Proofs.YtnplphcnagooeaaGreatDoor

/- Contracts: Great, Check and Same of the reference of layer 33, Check of the program. (printed by gen/stk33.py) -/
namespace Go.Proofs.YtnplphcnagooeaaGreatDoor
set_option maxRecDepth 100000
open Go.RowKit
set_option maxHeartbeats 800000 in
theorem ref33_Great {l : List (List Item)} {num : Int} {s : Value} {w : World} (hl : Sts w s l) :
  Calls Tryz.prog 36 #[.agg #[.int .i64 num,s]] w fun e w'=>e = .returned (.bool (greatK l))∧Ext w w':=by
 have hE0:=(Ext.refl w).alloc (.cells #[.int .i64 num,s] 68)
 have hl0:=hl.ext hE0
 obtain ⟨a,cp,rfl,hlc,hcm,-⟩:=hl.form
 unfold maxLen at hcm
 have hW:=Lib.hid hl0
 clear hl hl0
 go_enter Tryz.func36,Tryz.ntmps36
 go_wp2
 obtain ⟨w1,hw1⟩ : ∃ w1,w.alloc (.cells #[.int .i64 num,.slice a l.length cp] 68)=w1:=⟨_,rfl⟩
 have b2 : w1.cell? ⟨w.heap.size,1,none⟩=some (.slice a l.length cp):=by rw [← hw1];simp
 rw [hw1] at hE0 hW ⊢
 clear hw1
 go_loop [3] (fun iv => ∃ k : Nat,k≤l.length∧k≤5∧iv = .int .i64 k∧Hid ((l.take k).any wideS=false)) (fun iv=>l.length - (intOf iv).toNat)
 case atStart=>exact ⟨0,Nat.zero_le _,by omega,rfl,by simp [Hid]⟩
 case round =>
  obtain ⟨k,hk,hk4,rfl,hN⟩:=hrel
  by_cases hlt : k < l.length
  ·have hlt' : decide ((k : Int) < (l.length : Int))=true:=decide_eq_true (by omega)
   by_cases h4 : k≤4
   ·have h4' : decide ((k : Int)≤4)=true:=decide_eq_true (by omega)
    obtain ⟨x,hx⟩ : ∃ x,l[k]? = some x:=⟨l[k],by simp [hlt]⟩
    obtain ⟨b,off,sv,rfl,hbb,d0,hcl⟩:=hW.out.cell hx
    have hX:=Lib.hid hx
    obtain ⟨ca,ccp,rfl,hclc,hccm,-⟩:=hcl.form
    clear hx hbb
    by_cases h5 : 610 < x.length
    ·have h5' : Hid (decide (610 < x.length)=true):=Hid.mk (decide_eq_true (by omega))
     have hg:=Lib.hid (greatK_hit hX.out h4 (by simp [wideS,h5]))
     clear h5
     go_wp2_with fail
     refine (ref28_Great hcl).mono ?_
     rintro e wx ⟨rfl,rfl⟩
     rw [h5'.out]
     go_wp2
     go_ret
     exact ⟨by rw [hg.out] <;> rfl,hE0⟩
    ·have h5' : Hid (decide (610 < x.length)=false):=Hid.mk (decide_eq_false (by omega))
     have hN2:=Lib.hid (sany_take_succ hN.out hX.out (by simp [wideS,h5]))
     clear h5
     go_wp2_with fail
     refine (ref28_Great hcl).mono ?_
     rintro e wx ⟨rfl,rfl⟩
     rw [h5'.out]
     go_wp2
     go_round
     case rel=>exact ⟨k+1,by omega,by omega,by go_num,hN2.out⟩
     case measure=>simp [intOf];omega
   ·have h4' : decide ((k : Int)≤4)=false:=decide_eq_false (by omega)
    have h6 : decide ((4 : Int) < (l.length : Int))=true:=decide_eq_true (by omega)
    have hg : Hid (greatK l=true):=Hid.mk (by rw [greatK,decide_eq_true (by omega : 4 < l.length),Bool.or_true])
    go_wp2
    go_ret
    exact ⟨by rw [hg.out] <;> rfl,hE0⟩
  ·have hlt' : decide ((k : Int) < (l.length : Int))=false:=decide_eq_false (by omega)
   have hkl : k=l.length:=by omega
   subst hkl
   by_cases h4 : 4 < l.length
   ·have h6 : decide ((4 : Int) < (l.length : Int))=true:=decide_eq_true (by omega)
    have hg : Hid (greatK l=true):=Hid.mk (by rw [greatK,decide_eq_true h4,Bool.or_true])
    go_wp2
    go_ret
    exact ⟨by rw [hg.out] <;> rfl,hE0⟩
   ·have h6 : decide ((4 : Int) < (l.length : Int))=false:=decide_eq_false (by omega)
    have hg : Hid (greatK l=false):=Hid.mk (by
     rw [greatK,decide_eq_false h4,Bool.or_false,List.take_of_length_le (by omega)]
     have:=hN.out
     rwa [List.take_length] at this)
    go_wp2
    go_ret
    exact ⟨by rw [hg.out] <;> rfl,hE0⟩
theorem stkErr_bad {x : Stk} (h : okK x=false) : stkErr x=8:=by simp [stkErr,h]
theorem stkErr_ok {x : Stk} (h : okK x=true) : stkErr x=0:=by simp [stkErr,h]
theorem okK_cell {x : Stk} {k : Nat} {s : List Item} (hx : x.cells[k]? = some s) (hs : okS s=false) : okK x=false:=by
 have : x.cells.all okS=false:=all_miss hx hs
 simp [okK,this]
set_option maxHeartbeats 1600000 in
theorem stacks_Check {l : List (List Item)} {num : Int} {s : Value} {w : World} (hl : Sts w s l) :
  Calls Tryz.prog 78 #[.agg #[.int .i64 num,s]] w fun e w'=>e = .returned (.int .i64 (stkErr ⟨num,l⟩))∧Ext w w':=by
 have hE0:=(Ext.refl w).alloc (.cells #[.int .i64 num,s] 68)
 have hl0:=hl.ext hE0
 obtain ⟨a,cp,rfl,hlc,hcm,-⟩:=hl.form
 unfold maxLen at hcm
 have hW:=Lib.hid hl0
 clear hl hl0
 have hcase : (okK ⟨num,l⟩=false∧(decide (num < 0)=true∨(decide (num < 0)=false∧(decide (1000000 < num)=true∨(decide (1000000 < num)=false∧(((l.length : Int) == 0)=true∨(((l.length : Int) == 0)=false∧decide ((2 : Int) < (l.length : Int))=true)))))))∨(decide (num < 0)=false∧decide (1000000 < num)=false∧((l.length : Int) == 0)=false∧decide ((2 : Int) < (l.length : Int))=false∧okK ⟨num,l⟩=l.all okS):=by
  unfold okK inB
  simp only [decide_eq_true_eq,decide_eq_false_iff_not,beq_iff_eq,beq_eq_false_iff_ne]
  by_cases h : 0≤num∧num≤1000000∧1≤l.length∧l.length≤2
  ·right
   refine ⟨by omega,by omega,by omega,by omega,?_⟩
   simp [h.1,h.2.1,h.2.2.1,h.2.2.2]
  ·left
   refine ⟨?_,by omega⟩
   by_cases h0 : 0≤num
   ·by_cases h1 : num≤1000000
    ·by_cases h2 : 1≤l.length
     ·have h3 : ¬ l.length≤2:=fun h3=>h ⟨h0,h1,h2,h3⟩
      simp [h3]
     ·simp [h2]
    ·simp [h1]
   ·simp [h0]
 rcases hcase with ⟨hbad,g1 | ⟨g1,g2 | ⟨g2,g3 | ⟨g3,g4⟩⟩⟩⟩ | ⟨g1,g2,g3,g4,hall⟩
 iterate 4
  ·have hres:=Lib.hid (stkErr_bad hbad)
   clear hbad
   go_enter Tryz.func78,Tryz.ntmps78
   go_wp2
   go_ret
   exact ⟨by rw [hres.out] <;> rfl,hE0⟩
 ·have hall':=Lib.hid hall
  clear hall
  go_enter Tryz.func78,Tryz.ntmps78
  go_wp2
  obtain ⟨w1,hw1⟩ : ∃ w1,w.alloc (.cells #[.int .i64 num,.slice a l.length cp] 68)=w1:=⟨_,rfl⟩
  have b2 : w1.cell? ⟨w.heap.size,1,none⟩=some (.slice a l.length cp):=by rw [← hw1];simp
  rw [hw1] at hE0 hW ⊢
  clear hw1
  go_loopw [29] (fun iv wr => ∃ k : Nat,k≤l.length∧iv = .int .i64 k∧Ext w1 wr∧Hid ((l.take k).all okS=true)) (fun iv _=>l.length - (intOf iv).toNat)
  case atStart=>exact ⟨0,Nat.zero_le _,rfl,Ext.refl _,by simp [Hid]⟩
  case round =>
   obtain ⟨k,hk,rfl,hE,hN⟩:=hrel
   have e2:=hE.cell b2
   by_cases hlt : k < l.length
   ·obtain ⟨x,hx⟩ : ∃ x,l[k]? = some x:=⟨l[k],by simp [hlt]⟩
    obtain ⟨b,off,sv,rfl,hbb,d0,hcl⟩:=(hW.out.ext hE).cell hx
    have hX:=Lib.hid hx
    obtain ⟨ca,ccp,rfl,-⟩:=hcl.form
    have hC:=Lib.hid hcl
    clear hx hbb hcl
    cases hok : okS x
    ·have hc : Hid (chk x=8):=Hid.mk (by simp [chk,hok])
     have hres:=Lib.hid (stkErr_bad (okK_cell (x:=⟨num,l⟩) hX.out hok))
     clear hok
     go_wp2_with fail
     refine (items_Check hC.out).mono ?_
     rintro e w2 ⟨rfl,hE2⟩
     rw [hc.out]
     go_wp2
     go_ret
     exact ⟨by rw [hres.out] <;> rfl,(hE0.trans hE).trans hE2⟩
    ·have hc : Hid (chk x=0):=Hid.mk (by simp [chk,hok])
     have hN2:=Lib.hid (all_take_succ hN.out hX.out hok)
     clear hok
     go_wp2_with fail
     refine (items_Check hC.out).mono ?_
     rintro e w2 ⟨rfl,hE2⟩
     rw [hc.out]
     go_wp2
     go_roundw
     case rel=>exact ⟨k+1,by omega,by go_num,hE.trans hE2,hN2.out⟩
     case measure=>simp [intOf];omega
   ·have hkl : k=l.length:=by omega
    subst hkl
    have hres : Hid (stkErr ⟨num,l⟩=0):=Hid.mk (stkErr_ok (by
     rw [hall'.out]
     have:=hN.out
     rwa [List.take_length] at this))
    go_wp2
    go_ret
    exact ⟨by rw [hres.out] <;> rfl,hE0.trans hE⟩
set_option maxHeartbeats 1600000 in
theorem ref33_Check {l : List (List Item)} {num : Int} {s : Value} {w : World} (hl : Sts w s l) :
  Calls Tryz.prog 104 #[.agg #[.int .i64 num,s]] w fun e w'=>e = .returned (.int .i64 (stkErr ⟨num,l⟩))∧Ext w w':=by
 have hE0:=(Ext.refl w).alloc (.cells #[.int .i64 num,s] 68)
 have hl0:=hl.ext hE0
 obtain ⟨a,cp,rfl,hlc,hcm,-⟩:=hl.form
 unfold maxLen at hcm
 have hW:=Lib.hid hl0
 clear hl hl0
 have hcase : (okK ⟨num,l⟩=false∧(inB num=false∨(inB num=true∧(decide ((l.length : Int) < 1)=true∨(decide ((l.length : Int) < 1)=false∧decide ((2 : Int) < (l.length : Int))=true)))))∨(inB num=true∧decide ((l.length : Int) < 1)=false∧decide ((2 : Int) < (l.length : Int))=false∧okK ⟨num,l⟩=l.all okS):=by
  unfold okK
  simp only [decide_eq_true_eq,decide_eq_false_iff_not]
  cases hn : inB num
  ·left;simp
  ·by_cases h : 1≤l.length∧l.length≤2
   ·right
    refine ⟨rfl,by omega,by omega,?_⟩
    simp [h.1,h.2]
   ·left
    refine ⟨?_,.inr ⟨rfl,by omega⟩⟩
    by_cases h2 : 1≤l.length
    ·have h3 : ¬ l.length≤2:=fun h3=>h ⟨h2,h3⟩
     simp [h3]
    ·simp [h2]
 rcases hcase with ⟨hbad,g1 | ⟨g1,g2 | ⟨g2,g3⟩⟩⟩ | ⟨g1,g2,g3,hall⟩
 iterate 3
  ·replace g1:=Lib.hid g1
   have hres:=Lib.hid (stkErr_bad hbad)
   clear hbad
   go_enter Tryz.func104,Tryz.ntmps104
   go_wp2_with fail
   refine (ref28_In _ _).mono ?_
   rintro e wx ⟨rfl,rfl⟩
   rw [g1.out]
   go_wp2
   go_ret
   exact ⟨by rw [hres.out] <;> rfl,hE0⟩
 ·replace g1:=Lib.hid g1
  have hall':=Lib.hid hall
  clear hall
  go_enter Tryz.func104,Tryz.ntmps104
  go_wp2_with fail
  refine (ref28_In _ _).mono ?_
  rintro e wx ⟨rfl,rfl⟩
  rw [g1.out]
  go_wp2
  obtain ⟨w1,hw1⟩ : ∃ w1,w.alloc (.cells #[.int .i64 num,.slice a l.length cp] 68)=w1:=⟨_,rfl⟩
  have b2 : w1.cell? ⟨w.heap.size,1,none⟩=some (.slice a l.length cp):=by rw [← hw1];simp
  rw [hw1] at hE0 hW ⊢
  clear hw1
  go_loopw [3] (fun iv wr => ∃ k : Nat,k≤l.length∧iv = .int .i64 k∧Ext w1 wr∧Hid ((l.take k).all okS=true)) (fun iv _=>l.length - (intOf iv).toNat)
  case atStart=>exact ⟨0,Nat.zero_le _,rfl,Ext.refl _,by simp [Hid]⟩
  case round =>
   obtain ⟨k,hk,rfl,hE,hN⟩:=hrel
   have e2:=hE.cell b2
   by_cases hlt : k < l.length
   ·obtain ⟨x,hx⟩ : ∃ x,l[k]? = some x:=⟨l[k],by simp [hlt]⟩
    obtain ⟨b,off,sv,rfl,hbb,d0,hcl⟩:=(hW.out.ext hE).cell hx
    have hX:=Lib.hid hx
    obtain ⟨ca,ccp,rfl,-⟩:=hcl.form
    have hC:=Lib.hid hcl
    clear hx hbb hcl
    cases hok : okS x
    ·have hc : Hid (chk x=8):=Hid.mk (by simp [chk,hok])
     have hres:=Lib.hid (stkErr_bad (okK_cell (x:=⟨num,l⟩) hX.out hok))
     clear hok
     go_wp2_with fail
     refine (ref28_Check hC.out).mono ?_
     rintro e w2 ⟨rfl,hE2⟩
     rw [hc.out]
     go_wp2
     go_ret
     exact ⟨by rw [hres.out] <;> rfl,(hE0.trans hE).trans hE2⟩
    ·have hc : Hid (chk x=0):=Hid.mk (by simp [chk,hok])
     have hN2:=Lib.hid (all_take_succ hN.out hX.out hok)
     clear hok
     go_wp2_with fail
     refine (ref28_Check hC.out).mono ?_
     rintro e w2 ⟨rfl,hE2⟩
     rw [hc.out]
     go_wp2
     go_roundw
     case rel=>exact ⟨k+1,by omega,by go_num,hE.trans hE2,hN2.out⟩
     case measure=>simp [intOf];omega
   ·have hkl : k=l.length:=by omega
    subst hkl
    have hres : Hid (stkErr ⟨num,l⟩=0):=Hid.mk (stkErr_ok (by
     rw [hall'.out]
     have:=hN.out
     rwa [List.take_length] at this))
    go_wp2
    go_ret
    exact ⟨by rw [hres.out] <;> rfl,hE0.trans hE⟩
end Go.Proofs.YtnplphcnagooeaaGreatDoor

/- Contracts: monitor.counted; monitor.Check where the head fails. (printed by gen/mon35.py) -/
namespace Go.Proofs.YtnplphcnagooeaaGreatDoor
set_option maxRecDepth 100000
open Go.RowKit
theorem headM_parts {m : Mon} (h : headM m=true) : (((okM m.mem.al m.mem.next=true∧(m.stks.length == m.mem.al.length)=true)∧cntd m.tag=true)∧cntd m.call=true)∧okR m.run=true:=by
 unfold headM at h
 simpa only [Bool.and_eq_true] using h
theorem mon_counted (n : Int) (w : World) : Calls Tryz.prog 76 #[.int .i64 n] w fun e w'=>e = .returned (.bool (cntd n))∧w=w':=by
 by_cases h0 : 1≤n <;> by_cases h1 : n≤1000000
 all_goals
  go_enter Tryz.func76,Tryz.ntmps76
  go_wp2
  go_ret
  exact ⟨by simp [cntd,h0,h1],rfl⟩
set_option maxRecDepth 100000 in
set_option maxHeartbeats 12800000 in
theorem mon_Check_head {A : List Alloc} {nx : Int} {K : List Stk} {R : List Int} {tg cl : Int} {sa ss sr : Value} {w : World} (hA : Als w sa A) (hn : i64B nx) (hK : Kts w ss K) (hR : Nts w sr R) (hh : headM ⟨⟨A,nx⟩,K,R,tg,cl⟩=false) :
  Calls Tryz.prog 32 #[.agg #[sa,.int .i64 nx,ss,sr,.int .i64 tg,.int .i64 cl]] w fun e w'=>e = .returned (.int .i64 (monErr ⟨⟨A,nx⟩,K,R,tg,cl⟩))∧Ext w w':=by
 obtain ⟨aa,ac,rfl,hac,hacm,-⟩:=hA.form
 obtain ⟨ka,kc,rfl,hkc,hkcm,-⟩:=hK.form
 obtain ⟨ra,rc,rfl,hrc,hrcm,-⟩:=hR.form
 unfold maxLen at hacm hkcm hrcm
 have hE0:=(Ext.refl w).alloc (.cells #[.slice aa A.length ac,.int .i64 nx,.slice ka K.length kc,.slice ra R.length rc,.int .i64 tg,.int .i64 cl] 28)
 have bM:=Box.new w 28 #[.slice aa A.length ac,.int .i64 nx,.slice ka K.length kc,.slice ra R.length rc,.int .i64 tg,.int .i64 cl]
 replace hA:=Lib.hid (hA.ext hE0);replace hK:=Lib.hid (hK.ext hE0);replace hR:=Lib.hid (hR.ext hE0)
 cases h1 : okM A nx
 ·have q1:=Lib.hid (memErr_bad h1)
  have hres:=Lib.hid (monErr_head (m:=⟨⟨A,nx⟩,K,R,tg,cl⟩) hh)
  clear h1 hh
  go_enter Tryz.func32,Tryz.ntmps32
  have m0 : World.cell? (World.alloc w (.cells #[.slice aa A.length ac,.int .i64 nx,.slice ka K.length kc,.slice (ra) R.length rc,.int .i64 tg,.int .i64 cl] 28)) ⟨w.heap.size,0,none⟩=some (.slice aa A.length ac):=bM.cell 0
  have m1 : World.cell? (World.alloc w (.cells #[.slice aa A.length ac,.int .i64 nx,.slice ka K.length kc,.slice (ra) R.length rc,.int .i64 tg,.int .i64 cl] 28)) ⟨w.heap.size,1,none⟩=some (.int .i64 nx):=bM.cell 1
  have m2 : World.cell? (World.alloc w (.cells #[.slice aa A.length ac,.int .i64 nx,.slice ka K.length kc,.slice (ra) R.length rc,.int .i64 tg,.int .i64 cl] 28)) ⟨w.heap.size,2,none⟩=some (.slice ka K.length kc):=bM.cell 2
  have m3 : World.cell? (World.alloc w (.cells #[.slice aa A.length ac,.int .i64 nx,.slice ka K.length kc,.slice (ra) R.length rc,.int .i64 tg,.int .i64 cl] 28)) ⟨w.heap.size,3,none⟩=some (.slice ra R.length rc):=bM.cell 3
  have m4 : World.cell? (World.alloc w (.cells #[.slice aa A.length ac,.int .i64 nx,.slice ka K.length kc,.slice (ra) R.length rc,.int .i64 tg,.int .i64 cl] 28)) ⟨w.heap.size,4,none⟩=some (.int .i64 tg):=bM.cell 4
  have m5 : World.cell? (World.alloc w (.cells #[.slice aa A.length ac,.int .i64 nx,.slice ka K.length kc,.slice (ra) R.length rc,.int .i64 tg,.int .i64 cl] 28)) ⟨w.heap.size,5,none⟩=some (.int .i64 cl):=bM.cell 5
  have mlt:=bM.lt
  go_wp2_with fail
  refine (allocs_Check hA.out hn).mono ?_
  rintro e w1 ⟨rfl,hE1⟩
  rw [q1.out]
  clear m0 m1 m2 m3 m4 m5 mlt
  replace bM:=bM.ext hE1
  have m0 : World.cell? w1 ⟨w.heap.size,0,none⟩=some (.slice aa A.length ac):=bM.cell 0
  have m1 : World.cell? w1 ⟨w.heap.size,1,none⟩=some (.int .i64 nx):=bM.cell 1
  have m2 : World.cell? w1 ⟨w.heap.size,2,none⟩=some (.slice ka K.length kc):=bM.cell 2
  have m3 : World.cell? w1 ⟨w.heap.size,3,none⟩=some (.slice ra R.length rc):=bM.cell 3
  have m4 : World.cell? w1 ⟨w.heap.size,4,none⟩=some (.int .i64 tg):=bM.cell 4
  have m5 : World.cell? w1 ⟨w.heap.size,5,none⟩=some (.int .i64 cl):=bM.cell 5
  have mlt:=bM.lt
  go_wp2
  go_ret
  rw [hres.out]
  exact ⟨rfl,Ext.trans hE0 hE1⟩
 have q1:=Lib.hid (memErr_ok h1)
 cases h2 : K.length == A.length
 ·have hres:=Lib.hid (monErr_head (m:=⟨⟨A,nx⟩,K,R,tg,cl⟩) hh)
  have g1 : (K.length != A.length)=true:=by rw [bne,h2];rfl
  have g2 : ((K.length : Int) != (A.length : Int))=true:=by simp only [bne_iff_ne,ne_eq,Int.natCast_inj];simpa using h2
  clear h1 hh
  replace h2:=Lib.hid h2
  go_enter Tryz.func32,Tryz.ntmps32
  have m0 : World.cell? (World.alloc w (.cells #[.slice aa A.length ac,.int .i64 nx,.slice ka K.length kc,.slice (ra) R.length rc,.int .i64 tg,.int .i64 cl] 28)) ⟨w.heap.size,0,none⟩=some (.slice aa A.length ac):=bM.cell 0
  have m1 : World.cell? (World.alloc w (.cells #[.slice aa A.length ac,.int .i64 nx,.slice ka K.length kc,.slice (ra) R.length rc,.int .i64 tg,.int .i64 cl] 28)) ⟨w.heap.size,1,none⟩=some (.int .i64 nx):=bM.cell 1
  have m2 : World.cell? (World.alloc w (.cells #[.slice aa A.length ac,.int .i64 nx,.slice ka K.length kc,.slice (ra) R.length rc,.int .i64 tg,.int .i64 cl] 28)) ⟨w.heap.size,2,none⟩=some (.slice ka K.length kc):=bM.cell 2
  have m3 : World.cell? (World.alloc w (.cells #[.slice aa A.length ac,.int .i64 nx,.slice ka K.length kc,.slice (ra) R.length rc,.int .i64 tg,.int .i64 cl] 28)) ⟨w.heap.size,3,none⟩=some (.slice ra R.length rc):=bM.cell 3
  have m4 : World.cell? (World.alloc w (.cells #[.slice aa A.length ac,.int .i64 nx,.slice ka K.length kc,.slice (ra) R.length rc,.int .i64 tg,.int .i64 cl] 28)) ⟨w.heap.size,4,none⟩=some (.int .i64 tg):=bM.cell 4
  have m5 : World.cell? (World.alloc w (.cells #[.slice aa A.length ac,.int .i64 nx,.slice ka K.length kc,.slice (ra) R.length rc,.int .i64 tg,.int .i64 cl] 28)) ⟨w.heap.size,5,none⟩=some (.int .i64 cl):=bM.cell 5
  have mlt:=bM.lt
  go_wp2_with fail
  refine (allocs_Check hA.out hn).mono ?_
  rintro e w1 ⟨rfl,hE1⟩
  rw [q1.out]
  clear m0 m1 m2 m3 m4 m5 mlt
  replace bM:=bM.ext hE1
  have m0 : World.cell? w1 ⟨w.heap.size,0,none⟩=some (.slice aa A.length ac):=bM.cell 0
  have m1 : World.cell? w1 ⟨w.heap.size,1,none⟩=some (.int .i64 nx):=bM.cell 1
  have m2 : World.cell? w1 ⟨w.heap.size,2,none⟩=some (.slice ka K.length kc):=bM.cell 2
  have m3 : World.cell? w1 ⟨w.heap.size,3,none⟩=some (.slice ra R.length rc):=bM.cell 3
  have m4 : World.cell? w1 ⟨w.heap.size,4,none⟩=some (.int .i64 tg):=bM.cell 4
  have m5 : World.cell? w1 ⟨w.heap.size,5,none⟩=some (.int .i64 cl):=bM.cell 5
  have mlt:=bM.lt
  go_wp2
  go_ret
  rw [hres.out]
  exact ⟨rfl,Ext.trans hE0 hE1⟩
 have g1 : (K.length != A.length)=false:=by rw [bne,h2];rfl
 have g2 : ((K.length : Int) != (A.length : Int))=false:=by have:=eq_of_beq h2;rw [this];simp
 have h2e:=Lib.hid (eq_of_beq h2)
 cases h3 : cntd tg
 ·have q3:=Lib.hid h3
  have hres:=Lib.hid (monErr_head (m:=⟨⟨A,nx⟩,K,R,tg,cl⟩) hh)
  clear h1 h3 hh
  replace h2:=Lib.hid h2
  go_enter Tryz.func32,Tryz.ntmps32
  have m0 : World.cell? (World.alloc w (.cells #[.slice aa A.length ac,.int .i64 nx,.slice ka K.length kc,.slice (ra) R.length rc,.int .i64 tg,.int .i64 cl] 28)) ⟨w.heap.size,0,none⟩=some (.slice aa A.length ac):=bM.cell 0
  have m1 : World.cell? (World.alloc w (.cells #[.slice aa A.length ac,.int .i64 nx,.slice ka K.length kc,.slice (ra) R.length rc,.int .i64 tg,.int .i64 cl] 28)) ⟨w.heap.size,1,none⟩=some (.int .i64 nx):=bM.cell 1
  have m2 : World.cell? (World.alloc w (.cells #[.slice aa A.length ac,.int .i64 nx,.slice ka K.length kc,.slice (ra) R.length rc,.int .i64 tg,.int .i64 cl] 28)) ⟨w.heap.size,2,none⟩=some (.slice ka K.length kc):=bM.cell 2
  have m3 : World.cell? (World.alloc w (.cells #[.slice aa A.length ac,.int .i64 nx,.slice ka K.length kc,.slice (ra) R.length rc,.int .i64 tg,.int .i64 cl] 28)) ⟨w.heap.size,3,none⟩=some (.slice ra R.length rc):=bM.cell 3
  have m4 : World.cell? (World.alloc w (.cells #[.slice aa A.length ac,.int .i64 nx,.slice ka K.length kc,.slice (ra) R.length rc,.int .i64 tg,.int .i64 cl] 28)) ⟨w.heap.size,4,none⟩=some (.int .i64 tg):=bM.cell 4
  have m5 : World.cell? (World.alloc w (.cells #[.slice aa A.length ac,.int .i64 nx,.slice ka K.length kc,.slice (ra) R.length rc,.int .i64 tg,.int .i64 cl] 28)) ⟨w.heap.size,5,none⟩=some (.int .i64 cl):=bM.cell 5
  have mlt:=bM.lt
  go_wp2_with fail
  refine (allocs_Check hA.out hn).mono ?_
  rintro e w1 ⟨rfl,hE1⟩
  rw [q1.out]
  clear m0 m1 m2 m3 m4 m5 mlt
  replace bM:=bM.ext hE1
  have m0 : World.cell? w1 ⟨w.heap.size,0,none⟩=some (.slice aa A.length ac):=bM.cell 0
  have m1 : World.cell? w1 ⟨w.heap.size,1,none⟩=some (.int .i64 nx):=bM.cell 1
  have m2 : World.cell? w1 ⟨w.heap.size,2,none⟩=some (.slice ka K.length kc):=bM.cell 2
  have m3 : World.cell? w1 ⟨w.heap.size,3,none⟩=some (.slice ra R.length rc):=bM.cell 3
  have m4 : World.cell? w1 ⟨w.heap.size,4,none⟩=some (.int .i64 tg):=bM.cell 4
  have m5 : World.cell? w1 ⟨w.heap.size,5,none⟩=some (.int .i64 cl):=bM.cell 5
  have mlt:=bM.lt
  go_wp2_with fail
  refine (mon_counted tg _).mono ?_
  rintro e w2 ⟨rfl,rfl⟩
  rw [q3.out]
  go_wp2
  go_ret
  rw [hres.out]
  exact ⟨rfl,Ext.trans hE0 hE1⟩
 have q3:=Lib.hid h3
 cases h4 : cntd cl
 ·have q4:=Lib.hid h4
  have hres:=Lib.hid (monErr_head (m:=⟨⟨A,nx⟩,K,R,tg,cl⟩) hh)
  clear h1 h3 h4 hh
  replace h2:=Lib.hid h2
  go_enter Tryz.func32,Tryz.ntmps32
  have m0 : World.cell? (World.alloc w (.cells #[.slice aa A.length ac,.int .i64 nx,.slice ka K.length kc,.slice (ra) R.length rc,.int .i64 tg,.int .i64 cl] 28)) ⟨w.heap.size,0,none⟩=some (.slice aa A.length ac):=bM.cell 0
  have m1 : World.cell? (World.alloc w (.cells #[.slice aa A.length ac,.int .i64 nx,.slice ka K.length kc,.slice (ra) R.length rc,.int .i64 tg,.int .i64 cl] 28)) ⟨w.heap.size,1,none⟩=some (.int .i64 nx):=bM.cell 1
  have m2 : World.cell? (World.alloc w (.cells #[.slice aa A.length ac,.int .i64 nx,.slice ka K.length kc,.slice (ra) R.length rc,.int .i64 tg,.int .i64 cl] 28)) ⟨w.heap.size,2,none⟩=some (.slice ka K.length kc):=bM.cell 2
  have m3 : World.cell? (World.alloc w (.cells #[.slice aa A.length ac,.int .i64 nx,.slice ka K.length kc,.slice (ra) R.length rc,.int .i64 tg,.int .i64 cl] 28)) ⟨w.heap.size,3,none⟩=some (.slice ra R.length rc):=bM.cell 3
  have m4 : World.cell? (World.alloc w (.cells #[.slice aa A.length ac,.int .i64 nx,.slice ka K.length kc,.slice (ra) R.length rc,.int .i64 tg,.int .i64 cl] 28)) ⟨w.heap.size,4,none⟩=some (.int .i64 tg):=bM.cell 4
  have m5 : World.cell? (World.alloc w (.cells #[.slice aa A.length ac,.int .i64 nx,.slice ka K.length kc,.slice (ra) R.length rc,.int .i64 tg,.int .i64 cl] 28)) ⟨w.heap.size,5,none⟩=some (.int .i64 cl):=bM.cell 5
  have mlt:=bM.lt
  go_wp2_with fail
  refine (allocs_Check hA.out hn).mono ?_
  rintro e w1 ⟨rfl,hE1⟩
  rw [q1.out]
  clear m0 m1 m2 m3 m4 m5 mlt
  replace bM:=bM.ext hE1
  have m0 : World.cell? w1 ⟨w.heap.size,0,none⟩=some (.slice aa A.length ac):=bM.cell 0
  have m1 : World.cell? w1 ⟨w.heap.size,1,none⟩=some (.int .i64 nx):=bM.cell 1
  have m2 : World.cell? w1 ⟨w.heap.size,2,none⟩=some (.slice ka K.length kc):=bM.cell 2
  have m3 : World.cell? w1 ⟨w.heap.size,3,none⟩=some (.slice ra R.length rc):=bM.cell 3
  have m4 : World.cell? w1 ⟨w.heap.size,4,none⟩=some (.int .i64 tg):=bM.cell 4
  have m5 : World.cell? w1 ⟨w.heap.size,5,none⟩=some (.int .i64 cl):=bM.cell 5
  have mlt:=bM.lt
  go_wp2_with fail
  refine (mon_counted tg _).mono ?_
  rintro e w2 ⟨rfl,rfl⟩
  rw [q3.out]
  go_wp2_with fail
  refine (mon_counted cl _).mono ?_
  rintro e w3 ⟨rfl,rfl⟩
  rw [q4.out]
  go_wp2
  go_ret
  rw [hres.out]
  exact ⟨rfl,Ext.trans hE0 hE1⟩
 have q4:=Lib.hid h4
 cases h5 : okR R
 ·have q5:=Lib.hid (runErr_bad h5)
  have hres:=Lib.hid (monErr_head (m:=⟨⟨A,nx⟩,K,R,tg,cl⟩) hh)
  clear h1 h3 h4 h5 hh
  replace h2:=Lib.hid h2
  go_enter Tryz.func32,Tryz.ntmps32
  have m0 : World.cell? (World.alloc w (.cells #[.slice aa A.length ac,.int .i64 nx,.slice ka K.length kc,.slice (ra) R.length rc,.int .i64 tg,.int .i64 cl] 28)) ⟨w.heap.size,0,none⟩=some (.slice aa A.length ac):=bM.cell 0
  have m1 : World.cell? (World.alloc w (.cells #[.slice aa A.length ac,.int .i64 nx,.slice ka K.length kc,.slice (ra) R.length rc,.int .i64 tg,.int .i64 cl] 28)) ⟨w.heap.size,1,none⟩=some (.int .i64 nx):=bM.cell 1
  have m2 : World.cell? (World.alloc w (.cells #[.slice aa A.length ac,.int .i64 nx,.slice ka K.length kc,.slice (ra) R.length rc,.int .i64 tg,.int .i64 cl] 28)) ⟨w.heap.size,2,none⟩=some (.slice ka K.length kc):=bM.cell 2
  have m3 : World.cell? (World.alloc w (.cells #[.slice aa A.length ac,.int .i64 nx,.slice ka K.length kc,.slice (ra) R.length rc,.int .i64 tg,.int .i64 cl] 28)) ⟨w.heap.size,3,none⟩=some (.slice ra R.length rc):=bM.cell 3
  have m4 : World.cell? (World.alloc w (.cells #[.slice aa A.length ac,.int .i64 nx,.slice ka K.length kc,.slice (ra) R.length rc,.int .i64 tg,.int .i64 cl] 28)) ⟨w.heap.size,4,none⟩=some (.int .i64 tg):=bM.cell 4
  have m5 : World.cell? (World.alloc w (.cells #[.slice aa A.length ac,.int .i64 nx,.slice ka K.length kc,.slice (ra) R.length rc,.int .i64 tg,.int .i64 cl] 28)) ⟨w.heap.size,5,none⟩=some (.int .i64 cl):=bM.cell 5
  have mlt:=bM.lt
  go_wp2_with fail
  refine (allocs_Check hA.out hn).mono ?_
  rintro e w1 ⟨rfl,hE1⟩
  rw [q1.out]
  clear m0 m1 m2 m3 m4 m5 mlt
  replace bM:=bM.ext hE1
  have m0 : World.cell? w1 ⟨w.heap.size,0,none⟩=some (.slice aa A.length ac):=bM.cell 0
  have m1 : World.cell? w1 ⟨w.heap.size,1,none⟩=some (.int .i64 nx):=bM.cell 1
  have m2 : World.cell? w1 ⟨w.heap.size,2,none⟩=some (.slice ka K.length kc):=bM.cell 2
  have m3 : World.cell? w1 ⟨w.heap.size,3,none⟩=some (.slice ra R.length rc):=bM.cell 3
  have m4 : World.cell? w1 ⟨w.heap.size,4,none⟩=some (.int .i64 tg):=bM.cell 4
  have m5 : World.cell? w1 ⟨w.heap.size,5,none⟩=some (.int .i64 cl):=bM.cell 5
  have mlt:=bM.lt
  go_wp2_with fail
  refine (mon_counted tg _).mono ?_
  rintro e w2 ⟨rfl,rfl⟩
  rw [q3.out]
  go_wp2_with fail
  refine (mon_counted cl _).mono ?_
  rintro e w3 ⟨rfl,rfl⟩
  rw [q4.out]
  go_wp2_with fail
  refine (guard_Check (hR.out.ext hE1)).mono ?_
  rintro e w4 ⟨rfl,rfl⟩
  rw [q5.out]
  go_wp2
  go_ret
  rw [hres.out]
  exact ⟨rfl,Ext.trans hE0 hE1⟩
 simp only [headM,h1,h2,h3,h4,h5,Bool.and_self] at hh
 cases hh
set_option maxRecDepth 100000 in
set_option maxHeartbeats 12800000 in
theorem mon_Check_last {A : List Alloc} {nx : Int} {K : List Stk} {R : List Int} {tg cl : Int} {sa ss sr : Value} {w : World} (hA : Als w sa A) (hn : i64B nx) (hK : Kts w ss K) (hR : Nts w sr R) (hh : headM ⟨⟨A,nx⟩,K,R,tg,cl⟩=true) (hl : lastM ⟨⟨A,nx⟩,K,R,tg,cl⟩=false) :
  Calls Tryz.prog 32 #[.agg #[sa,.int .i64 nx,ss,sr,.int .i64 tg,.int .i64 cl]] w fun e w'=>e = .returned (.int .i64 (monErr ⟨⟨A,nx⟩,K,R,tg,cl⟩))∧Ext w w':=by
 obtain ⟨aa,ac,rfl,hac,hacm,-⟩:=hA.form
 obtain ⟨ka,kc,rfl,hkc,hkcm,-⟩:=hK.form
 obtain ⟨ra,rc,rfl,hrc,hrcm,-⟩:=hR.form
 unfold maxLen at hacm hkcm hrcm
 have hE0:=(Ext.refl w).alloc (.cells #[.slice aa A.length ac,.int .i64 nx,.slice ka K.length kc,.slice ra R.length rc,.int .i64 tg,.int .i64 cl] 28)
 have bM:=Box.new w 28 #[.slice aa A.length ac,.int .i64 nx,.slice ka K.length kc,.slice ra R.length rc,.int .i64 tg,.int .i64 cl]
 replace hA:=Lib.hid (hA.ext hE0);replace hK:=Lib.hid (hK.ext hE0);replace hR:=Lib.hid (hR.ext hE0)
 obtain ⟨⟨⟨⟨h1,h2⟩,h3⟩,h4⟩,h5⟩:=headM_parts hh
 have q1:=Lib.hid (memErr_ok h1)
 have g1 : (K.length != A.length)=false:=by rw [bne,h2];rfl
 have g2 : ((K.length : Int) != (A.length : Int))=false:=by have:=eq_of_beq h2;rw [this];simp
 have h2e:=Lib.hid (eq_of_beq h2)
 have q3:=Lib.hid h3
 have q4:=Lib.hid h4
 have q5:=Lib.hid (runErr_ok h5)
 have hRl:=okR_len h5
 have w1 : IntKind.i64.wrap ((R.length : Int) - 1)=(R.length : Int) - 1:=IntWalk.i64_in _ (by omega)
 have hhead:=Lib.hid hh
 replace h2:=Lib.hid h2
 clear h1 h3 h4 h5 hh
 have hz : R.length≠0:=fun e=>by simp [lastM,e] at hl
 obtain ⟨rb,ro,rfl,_,rc0⟩:=hR.out.cell (last_is hz)
 have z1 : decide (0 < R.length)=true:=decide_eq_true (by omega)
 have z2 : (0 : Int)≤(R.length : Int) - 1:=by omega
 have z3 : (R.length : Int) - 1 < (R.length : Int):=by omega
 have z4 : ((R.length : Int) - 1).toNat=R.length - 1:=by omega
 obtain ⟨last,hlast⟩ : ∃ x,lastR R=x:=⟨_,rfl⟩
 rw [hlast] at rc0
 have hge : decide (cl≤last)=true:=decide_eq_true (by have h:=hl;simp only [lastM,hlast,Bool.or_eq_false_iff,decide_eq_false_iff_not] at h;omega)
 have hres:=Lib.hid (monErr_last hl)
 replace hlast:=Lib.hid hlast
 clear hl hz
 go_enter Tryz.func32,Tryz.ntmps32
 have m0 : World.cell? (World.alloc w (.cells #[.slice aa A.length ac,.int .i64 nx,.slice ka K.length kc,.slice (some ⟨rb,ro,none⟩) R.length rc,.int .i64 tg,.int .i64 cl] 28)) ⟨w.heap.size,0,none⟩=some (.slice aa A.length ac):=bM.cell 0
 have m1 : World.cell? (World.alloc w (.cells #[.slice aa A.length ac,.int .i64 nx,.slice ka K.length kc,.slice (some ⟨rb,ro,none⟩) R.length rc,.int .i64 tg,.int .i64 cl] 28)) ⟨w.heap.size,1,none⟩=some (.int .i64 nx):=bM.cell 1
 have m2 : World.cell? (World.alloc w (.cells #[.slice aa A.length ac,.int .i64 nx,.slice ka K.length kc,.slice (some ⟨rb,ro,none⟩) R.length rc,.int .i64 tg,.int .i64 cl] 28)) ⟨w.heap.size,2,none⟩=some (.slice ka K.length kc):=bM.cell 2
 have m3 : World.cell? (World.alloc w (.cells #[.slice aa A.length ac,.int .i64 nx,.slice ka K.length kc,.slice (some ⟨rb,ro,none⟩) R.length rc,.int .i64 tg,.int .i64 cl] 28)) ⟨w.heap.size,3,none⟩=some (.slice (some ⟨rb,ro,none⟩) R.length rc):=bM.cell 3
 have m4 : World.cell? (World.alloc w (.cells #[.slice aa A.length ac,.int .i64 nx,.slice ka K.length kc,.slice (some ⟨rb,ro,none⟩) R.length rc,.int .i64 tg,.int .i64 cl] 28)) ⟨w.heap.size,4,none⟩=some (.int .i64 tg):=bM.cell 4
 have m5 : World.cell? (World.alloc w (.cells #[.slice aa A.length ac,.int .i64 nx,.slice ka K.length kc,.slice (some ⟨rb,ro,none⟩) R.length rc,.int .i64 tg,.int .i64 cl] 28)) ⟨w.heap.size,5,none⟩=some (.int .i64 cl):=bM.cell 5
 have mlt:=bM.lt
 go_wp2_with fail
 refine (allocs_Check hA.out hn).mono ?_
 rintro e w1 ⟨rfl,hE1⟩
 rw [q1.out]
 clear m0 m1 m2 m3 m4 m5 mlt
 replace bM:=bM.ext hE1
 have m0 : World.cell? w1 ⟨w.heap.size,0,none⟩=some (.slice aa A.length ac):=bM.cell 0
 have m1 : World.cell? w1 ⟨w.heap.size,1,none⟩=some (.int .i64 nx):=bM.cell 1
 have m2 : World.cell? w1 ⟨w.heap.size,2,none⟩=some (.slice ka K.length kc):=bM.cell 2
 have m3 : World.cell? w1 ⟨w.heap.size,3,none⟩=some (.slice (some ⟨rb,ro,none⟩) R.length rc):=bM.cell 3
 have m4 : World.cell? w1 ⟨w.heap.size,4,none⟩=some (.int .i64 tg):=bM.cell 4
 have m5 : World.cell? w1 ⟨w.heap.size,5,none⟩=some (.int .i64 cl):=bM.cell 5
 have mlt:=bM.lt
 go_wp2_with fail
 refine (mon_counted tg _).mono ?_
 rintro e w2 ⟨rfl,rfl⟩
 rw [q3.out]
 go_wp2_with fail
 refine (mon_counted cl _).mono ?_
 rintro e w3 ⟨rfl,rfl⟩
 rw [q4.out]
 go_wp2_with fail
 refine (guard_Check (hR.out.ext hE1)).mono ?_
 rintro e w4 ⟨rfl,rfl⟩
 rw [q5.out]
 replace rc0:=Ext.cell hE1 rc0
 go_wp2
 go_quiet (fail)
 go_wp2
 go_ret
 rw [hres.out]
 exact ⟨rfl,Ext.trans hE0 (Ext.trans hE1 ((Ext.refl _).drewN _))⟩
end Go.Proofs.YtnplphcnagooeaaGreatDoor
