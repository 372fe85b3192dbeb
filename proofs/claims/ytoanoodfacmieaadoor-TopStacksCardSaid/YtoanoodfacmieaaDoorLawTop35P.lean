/- TopStacks: stacks, calls and the monitor agree. No condition. (printed by gen/top35b.py) -/
import Derived.Test.YtoanoodfacmieaaDoorQ24
import Derived.Test.YtoanoodfacmieaaDoorQ25
import Derived.Test.YtoanoodfacmieaaDoorQ23
import Derived.Test.YtoanoodfacmieaaDoorQ09
import Derived.Deep.DeepCutAuto
namespace Go.Proofs.YtoanoodfacmieaaDoor
set_option maxRecDepth 100000
open Go.ChangeShapes Go.WideShapes Go.ChangeAt Go.RowKit
set_option maxRecDepth 100000 in
set_option maxHeartbeats 12800000 in
theorem topStacks_walk {vk : Value} {kinds : List Int} {wS : World} (hp : Perms wS) (size a b : Int) (hkd : Uts wS vk kinds) (hku : ∀ x ∈ kinds,u8B x) :
  Calls Tryd.prog 3 #[.int .i64 size,vk,.int .i64 a,.int .i64 b] wS fun e w'=>e = .returned (.bool true)∧Ext wS w':=by
 obtain ⟨kla,klc,rfl,hklc,hklm,-⟩:=hkd.slice_form
 unfold maxLen at hklm
 replace hkd:=Lib.hid hkd;replace hp:=Lib.hid hp;replace hku:=Lib.hid hku
 go_enter Tryd.func3,Tryd.ntmps3
 go_wp2_with fail
 refine (top_alive hp.out).mono ?_
 rintro e w1 ⟨rfl,hE1⟩
 have hF1:=Ext.trans (Ext.refl wS) hE1
 by_cases h1 : size < 1
 ·as_aux_lemma =>
  have q1 : decide (size < 1)=true:=decide_eq_true h1
  clear h1
  go_wp2
  go_ret
  exact ⟨rfl,hF1⟩
 have q1 : decide (size < 1)=false:=decide_eq_false h1
 by_cases h2 : 2 < size
 ·as_aux_lemma =>
  have q2 : decide (2 < size)=true:=decide_eq_true h2
  clear h1 h2
  go_wp2
  go_ret
  exact ⟨rfl,hF1⟩
 have q2 : decide (2 < size)=false:=decide_eq_false h2
 by_cases h3 : 12 < kinds.length
 ·as_aux_lemma =>
  have q3 : decide (12 < kinds.length)=true:=decide_eq_true h3;have q4 : decide ((12 : Int) < (kinds.length : Int))=true:=decide_eq_true (by omega)
  clear h1 h2 h3
  go_wp2
  go_ret
  exact ⟨rfl,hF1⟩
 have q3 : decide (12 < kinds.length)=false:=decide_eq_false h3;have q4 : decide ((12 : Int) < (kinds.length : Int))=false:=decide_eq_false (by omega)
 replace h1:=Lib.hid h1;replace h2:=Lib.hid h2;replace h3:=Lib.hid h3
 go_upto_region 4 with fail
 clear q1 q2 q3 q4
 go_cut [10] from 35 to 239 (fun v wx => ∃ (l : List Cell) (lb : Nat),v = .slice (some ⟨lb,0,none⟩) l.length 2∧(l.length=1∨l.length=2)∧(l.length : Int)=size∧l.all Cell.ok=true∧l.any (· == Cell.zero)=false∧Fq (fun b=>True) wx (fun w=>Cls w (.slice (some ⟨lb,0,none⟩) l.length 2) l)∧Ext w1 wx)
 case first =>
  have hq:=Cls.litF w1 #[.int .u8 1,.int .i64 a,.int .i64 0,.int .i64 0,.int .i64 0,.int .u8 1,.int .i64 b,.int .i64 0,.int .i64 0,.int .i64 0] [⟨1,a,0,0,0⟩,⟨1,b,0,0,0⟩] 2 rfl (by simp [maxLen]) rfl
  replace hq:=Lib.hid hq
  rcases (by have:=h1.out;have:=h2.out;omega : size=1∨size=2) with rfl | rfl
  ·skip
   go_wp2_with fail
   go_meet
   exact ⟨[⟨1,a,0,0,0⟩],_,rfl,.inl rfl,rfl,rfl,rfl,Fq.imp (Fq.mono hq.out (fun _ _ _=>trivial)) (fun w h=>Cls.first9 h),(Ext.refl _).alloc _⟩
  ·skip
   go_wp2_with fail
   go_meet
   exact ⟨[⟨1,a,0,0,0⟩,⟨1,b,0,0,0⟩],_,rfl,.inr rfl,rfl,rfl,rfl,Fq.mono hq.out (fun _ _ _=>trivial),(Ext.refl _).alloc _⟩
 case rest =>
  obtain ⟨l,lb,rfl,hn,rfl,hlo,hlz,qL,hcut⟩:=hcut
  clear h1 h2
  obtain ⟨wl,hwl⟩ : ∃ z,wc=z:=⟨_,rfl⟩
  rw [hwl] at hcut qL ⊢
  clear hwl
  have GL:=Lib.hid qL
  clear qL
  obtain ⟨e1,e2⟩:=top_start hn hlo
  have htl:=TopInv.new
  obtain ⟨m1,hm1⟩ : ∃ z,oneM (List.replicate l.length Cell.zero) [⟨1,1,0⟩] [] 2 1=z:=⟨_,rfl⟩
  have k1 : okMon m1=true:=by rw [← hm1];exact TopInv.new.mon (by decide) (by simpa using hn) (by rcases hn with h | h <;> rw [h] <;> decide)
  rw [hm1] at e1 e2
  clear hm1
  obtain ⟨m2,hm2⟩ : ∃ z,oneM l [⟨1,1,0⟩] [] 2 1=z:=⟨_,rfl⟩
  have k2 : okMon m2=true:=by rw [← hm2];exact TopInv.new.mon (by decide) hn hlo
  rw [hm2] at e2
  replace hm2:=Lib.hid hm2;replace e1:=Lib.hid e1;replace e2:=Lib.hid e2;replace k1:=Lib.hid k1;replace k2:=Lib.hid k2;replace hn:=Lib.hid hn;replace hlo:=Lib.hid hlo;replace hlz:=Lib.hid hlz;replace htl:=Lib.hid htl
  have hF2:=Ext.trans hF1 hcut
  go_wp2_with fail
  refine (monitor_New wl).mono ?_
  rintro e w3 ⟨rfl,hE3⟩
  replace GL:=Lib.hid (Fq.ext GL.out hE3)
  have hF3:=Ext.trans hF2 hE3
  go_wp2_with fail
  refine (monitor_Alloc (m:=newMon) (sa := .slice none 0 0) (ss := .slice none 0 0) (sr := .slice none 0 0) (l.length : Int) (Als.nil _) (i64_of_ok (m:=newMon) (by decide +kernel)) (Kts.nil _) (Nts.nil _)).mono ?_
  rintro e w4 ⟨vt,rfl,fM,hE4⟩
  replace GL:=Lib.hid (Fq.ext GL.out hE4)
  have hF4:=Ext.trans hF3 hE4
  rw [show allocM newMon (l.length : Int)=(m1,⟨0,0,1⟩,0) from e1.out] at fM ⊢
  try dsimp only [Ptr.val] at fM ⊢
  obtain ⟨asa,ass,asr,rfl,qa⟩:=FrMon.parts fM
  clear fM
  obtain ⟨v_aa,v_aac,rfl,-⟩:=(qa.read).1.form
  obtain ⟨v_ak,v_akc,rfl,-⟩:=(qa.read).2.1.form
  obtain ⟨v_ar,v_arc,rfl,-⟩:=(qa.read).2.2.form
  try dsimp only at qa ⊢
  have Ga:=Lib.hid (Fq.mono (S':=(fun b=>True)) qa (fun b h1 _=>by exact trivial))
  clear qa
  go_wp2_with fail
  have lowbM : Hid (wS.heap.size≤w4.heap.size):=Hid.mk (by have h9:=Ext.size hF4;omega)
  have bM:=Box.new w4 35 #[.slice v_aa m1.mem.al.length v_aac,.int .i64 m1.mem.next,.slice v_ak m1.stks.length v_akc,.slice v_ar m1.run.length v_arc,.int .i64 m1.tag,.int .i64 m1.call]
  have hza : (World.alloc w4 (.cells #[.slice v_aa m1.mem.al.length v_aac,.int .i64 m1.mem.next,.slice v_ak m1.stks.length v_akc,.slice v_ar m1.run.length v_arc,.int .i64 m1.tag,.int .i64 m1.call] 35)).heap.size=w4.heap.size+1:=by rw [World.size_alloc]
  have hx5 : Ext w4 (World.alloc w4 (.cells #[.slice v_aa m1.mem.al.length v_aac,.int .i64 m1.mem.next,.slice v_ak m1.stks.length v_akc,.slice v_ar m1.run.length v_arc,.int .i64 m1.tag,.int .i64 m1.call] 35)):=(Ext.refl _).alloc _
  obtain ⟨w5b,hw5⟩ : ∃ z,World.alloc w4 (.cells #[.slice v_aa m1.mem.al.length v_aac,.int .i64 m1.mem.next,.slice v_ak m1.stks.length v_akc,.slice v_ar m1.run.length v_arc,.int .i64 m1.tag,.int .i64 m1.call] 35)=z:=⟨_,rfl⟩
  rw [hw5] at bM hx5 hza ⊢
  clear hw5
  replace GL:=Lib.hid (Fq.to (T:=fun _=>False) (S':=(fun b=>b≠w4.heap.size∧True)) GL.out (ExtBut.of_ext hx5) (fun _ _ _ h=>h) (fun b h hl=>⟨by omega,trivial⟩))
  replace Ga:=Lib.hid (Fq.to (T:=fun _=>False) (S':=(fun b=>b≠w4.heap.size∧True)) Ga.out (ExtBut.of_ext hx5) (fun _ _ _ h=>h) (fun b h hl=>⟨by omega,trivial⟩))
  have hzb0:=hza
  clear hza
  have hF6:=Ext.trans hF4 hx5
  have ne_bM_bP : Hid (w4.heap.size≠w4.heap.size+1):=Hid.mk (by have hz9:=hzb0;have h9:=bM.lt;omega)
  have bP:=Box.new w5b 26 #[.int .i64 0,.int .i64 0,.int .i64 1]
  rw [hzb0] at bP
  have hza : (World.alloc w5b (.cells #[.int .i64 0,.int .i64 0,.int .i64 1] 26)).heap.size=w4.heap.size+2:=by rw [World.size_alloc,hzb0]
  have hx7 : Ext w5b (World.alloc w5b (.cells #[.int .i64 0,.int .i64 0,.int .i64 1] 26)):=(Ext.refl _).alloc _
  obtain ⟨w7b,hw7⟩ : ∃ z,World.alloc w5b (.cells #[.int .i64 0,.int .i64 0,.int .i64 1] 26)=z:=⟨_,rfl⟩
  rw [hw7] at bP hx7 hza ⊢
  clear hw7
  clear hzb0
  have hzb1:=hza
  clear hza
  replace bM:=bM.ext hx7
  replace GL:=Lib.hid (Fq.ext GL.out hx7)
  replace Ga:=Lib.hid (Fq.ext Ga.out hx7)
  have hF8:=Ext.trans hF6 hx7
  clear hzb1
  have ltbM:=Lib.hid bM.lt
  refine (monitor_Store 0 0 1 Ga.out.read.1 (i64_of_ok k1.out) Ga.out.read.2.1 Ga.out.read.2.2 GL.out.read).mono ?_
  rintro e w9 ⟨vt,rfl,fM,hE9⟩
  replace bM:=bM.ext hE9
  replace bP:=bP.ext hE9
  replace GL:=Lib.hid (Fq.ext GL.out hE9)
  replace Ga:=Lib.hid (Fq.ext Ga.out hE9)
  have hF9:=Ext.trans hF8 hE9
  rw [e2.out] at fM ⊢
  try dsimp only [Ptr.val] at fM ⊢
  obtain ⟨bsa,bss,bsr,rfl,qb⟩:=FrMon.parts fM
  clear fM
  obtain ⟨v_ba,v_bac,rfl,-⟩:=(qb.read).1.form
  obtain ⟨v_bk,v_bkc,rfl,-⟩:=(qb.read).2.1.form
  obtain ⟨v_br,v_brc,rfl,-⟩:=(qb.read).2.2.form
  try dsimp only at qb ⊢
  have Gb:=Lib.hid (Fq.mono (S':=(fun b=>b≠w4.heap.size∧True)) qb (fun b h1 _=>by have gbM:=ltbM.out;exact ⟨by omega,trivial⟩))
  clear qb ltbM
  have bM_0 : World.cell? w9 ⟨w4.heap.size,0,none⟩=some (.slice v_aa m1.mem.al.length v_aac):=bM.cell 0
  have bM_1 : World.cell? w9 ⟨w4.heap.size,1,none⟩=some (.int .i64 m1.mem.next):=bM.cell 1
  have bM_2 : World.cell? w9 ⟨w4.heap.size,2,none⟩=some (.slice v_ak m1.stks.length v_akc):=bM.cell 2
  have bM_3 : World.cell? w9 ⟨w4.heap.size,3,none⟩=some (.slice v_ar m1.run.length v_arc):=bM.cell 3
  have bM_4 : World.cell? w9 ⟨w4.heap.size,4,none⟩=some (.int .i64 m1.tag):=bM.cell 4
  have bM_5 : World.cell? w9 ⟨w4.heap.size,5,none⟩=some (.int .i64 m1.call):=bM.cell 5
  have bM_f0 : World.frozen? w9 ⟨w4.heap.size,0,none⟩=false:=bM.frozen 0
  have bM_f1 : World.frozen? w9 ⟨w4.heap.size,1,none⟩=false:=bM.frozen 1
  have bM_f2 : World.frozen? w9 ⟨w4.heap.size,2,none⟩=false:=bM.frozen 2
  have bM_f3 : World.frozen? w9 ⟨w4.heap.size,3,none⟩=false:=bM.frozen 3
  have bM_f4 : World.frozen? w9 ⟨w4.heap.size,4,none⟩=false:=bM.frozen 4
  have bM_f5 : World.frozen? w9 ⟨w4.heap.size,5,none⟩=false:=bM.frozen 5
  have bM_l:=bM.lt
  go_upto_region 7 with fail
  clear bM_0 bM_1 bM_2 bM_3 bM_4 bM_5 bM_f0 bM_f1 bM_f2 bM_f3 bM_f4 bM_f5 bM_l
  have hS10 : ExtBut (fun b=>b=w4.heap.size∨False) w9 (World.setCell (World.setCell (World.setCell (World.setCell (World.setCell (World.setCell w9 ⟨w4.heap.size,0,none⟩ (.slice v_ba m2.mem.al.length v_bac)) ⟨w4.heap.size,1,none⟩ (.int .i64 m2.mem.next)) ⟨w4.heap.size,2,none⟩ (.slice v_bk m2.stks.length v_bkc)) ⟨w4.heap.size,3,none⟩ (.slice v_br m2.run.length v_brc)) ⟨w4.heap.size,4,none⟩ (.int .i64 m2.tag)) ⟨w4.heap.size,5,none⟩ (.int .i64 m2.call)):=by (repeat' with_reducible first | exact ExtBut.refl _ _ | refine ExtBut.dr ?_ | refine ExtBut.sc ?_ ?_ | fail) <;> dsimp only <;> omega
  replace bM:=(Box.setL (Box.setL (Box.setL (Box.setL (Box.setL (Box.setL bM 0 (.slice v_ba m2.mem.al.length v_bac)) 1 (.int .i64 m2.mem.next)) 2 (.slice v_bk m2.stks.length v_bkc)) 3 (.slice v_br m2.run.length v_brc)) 4 (.int .i64 m2.tag)) 5 (.int .i64 m2.call))
  simp only [List.set_cons_zero,List.set_cons_succ] at bM
  replace bP:=(Box.other (Box.other (Box.other (Box.other (Box.other (Box.other bP (p:=⟨w4.heap.size,0,none⟩) (ne_bM_bP.out) (.slice v_ba m2.mem.al.length v_bac)) (p:=⟨w4.heap.size,1,none⟩) (ne_bM_bP.out) (.int .i64 m2.mem.next)) (p:=⟨w4.heap.size,2,none⟩) (ne_bM_bP.out) (.slice v_bk m2.stks.length v_bkc)) (p:=⟨w4.heap.size,3,none⟩) (ne_bM_bP.out) (.slice v_br m2.run.length v_brc)) (p:=⟨w4.heap.size,4,none⟩) (ne_bM_bP.out) (.int .i64 m2.tag)) (p:=⟨w4.heap.size,5,none⟩) (ne_bM_bP.out) (.int .i64 m2.call))
  obtain ⟨w10s,hw10⟩ : ∃ z,(World.setCell (World.setCell (World.setCell (World.setCell (World.setCell (World.setCell w9 ⟨w4.heap.size,0,none⟩ (.slice v_ba m2.mem.al.length v_bac)) ⟨w4.heap.size,1,none⟩ (.int .i64 m2.mem.next)) ⟨w4.heap.size,2,none⟩ (.slice v_bk m2.stks.length v_bkc)) ⟨w4.heap.size,3,none⟩ (.slice v_br m2.run.length v_brc)) ⟨w4.heap.size,4,none⟩ (.int .i64 m2.tag)) ⟨w4.heap.size,5,none⟩ (.int .i64 m2.call))=z:=⟨_,rfl⟩
  rw [hw10] at hS10 bM bP ⊢
  clear hw10
  have hF10:=ExtBut.ext hF9 hS10 (fun b h=>by rcases h with h | h;(rw [h];exact lowbM.out);exact h.elim)
  replace GL:=Lib.hid (Fq.but GL.out hS10 (fun b h _ h2=>by rcases h2 with h2 | h2;exact h.1 h2;exact h2))
  replace Ga:=Lib.hid (Fq.but Ga.out hS10 (fun b h _ h2=>by rcases h2 with h2 | h2;exact h.1 h2;exact h2))
  replace Gb:=Lib.hid (Fq.but Gb.out hS10 (fun b h _ h2=>by rcases h2 with h2 | h2;exact h.1 h2;exact h2))
  clear hS10
  clear Ga
  obtain ⟨bP_0,bP_1,bP_2,bP_l⟩:=bP.c3
  go_wp2_with fail
  clear bP_0 bP_1 bP_2 bP_l
  have ltbM:=Lib.hid bM.lt
  refine (stacks_New 0 (l.length : Int) 1 w10s).mono ?_
  rintro e w11 hSt
  obtain ⟨sv,svs,rfl,oS,hE9⟩:=hSt
  rw [show newK 0 (l.length : Int) 1=(⟨0,List.replicate l.length [⟨1,1,0⟩]⟩,0) from top_new hn.out] at oS ⊢
  dsimp only at oS ⊢
  have hv9:=oS.sts.form
  rw [List.length_replicate] at hv9
  obtain ⟨xa,xc,rfl,-⟩:=hv9
  have GX:=Lib.hid (Fq.mono (S':=(fun b=>b≠w4.heap.size∧True)) (OwnS.fs oS) (fun b h1 _=>⟨by have g9:=ltbM.out;omega,trivial⟩))
  clear oS ltbM
  replace bM:=bM.ext hE9
  replace bP:=bP.ext hE9
  replace GL:=Lib.hid (Fq.ext GL.out hE9)
  replace Gb:=Lib.hid (Fq.ext Gb.out hE9)
  have hF11:=Ext.trans hF10 hE9
  go_upto_region 8 with fail
  have ne_bX_bM : Hid (w11.heap.size≠w4.heap.size):=Hid.mk (by have h9:=bM.lt;omega)
  have ne_bM_bX : Hid (w4.heap.size≠w11.heap.size):=Hid.mk (by have h9:=bM.lt;omega)
  have ne_bX_bP : Hid (w11.heap.size≠w4.heap.size+1):=Hid.mk (by have h9:=bP.lt;omega)
  have lowbX : Hid (wS.heap.size≤w11.heap.size):=Hid.mk (by have h9:=Ext.size hF11;omega)
  have bX:=Box.new w11 44 #[.int .i64 0,.slice xa l.length xc]
  have hza : (World.alloc w11 (.cells #[.int .i64 0,.slice xa l.length xc] 44)).heap.size=w11.heap.size+1:=by rw [World.size_alloc]
  have hx12 : Ext w11 (World.alloc w11 (.cells #[.int .i64 0,.slice xa l.length xc] 44)):=(Ext.refl _).alloc _
  obtain ⟨w12b,hw12⟩ : ∃ z,World.alloc w11 (.cells #[.int .i64 0,.slice xa l.length xc] 44)=z:=⟨_,rfl⟩
  rw [hw12] at bX hx12 hza ⊢
  clear hw12
  replace GL:=Lib.hid (Fq.to (T:=fun _=>False) (S':=(fun b=>b≠w4.heap.size∧b≠w11.heap.size∧True)) GL.out (ExtBut.of_ext hx12) (fun _ _ _ h=>h) (fun b h hl=>⟨h.1,by omega,trivial⟩))
  replace Gb:=Lib.hid (Fq.to (T:=fun _=>False) (S':=(fun b=>b≠w4.heap.size∧b≠w11.heap.size∧True)) Gb.out (ExtBut.of_ext hx12) (fun _ _ _ h=>h) (fun b h hl=>⟨h.1,by omega,trivial⟩))
  replace GX:=Lib.hid (Fq.to (T:=fun _=>False) (S':=(fun b=>b≠w4.heap.size∧b≠w11.heap.size∧True)) GX.out (ExtBut.of_ext hx12) (fun _ _ _ h=>h) (fun b h hl=>⟨h.1,by omega,trivial⟩))
  have hzb0:=hza
  clear hza
  replace bM:=bM.ext hx12
  replace bP:=bP.ext hx12
  have hF13:=Ext.trans hF11 hx12
  clear hzb0
  have q1 : ((m2.stks.length : Int) != 1)=false:=by rw [← hm2.out];rfl
  obtain ⟨bM_0,bM_1,bM_2,bM_3,bM_4,bM_5,bM_l⟩:=bM.c6
  go_upto_region 10 with fail
  clear bM_0 bM_1 bM_2 bM_3 bM_4 bM_5 bM_l
  clear q1
  obtain ⟨bP_0,bP_1,bP_2,bP_l⟩:=bP.c3
  go_wp2
  clear bP_0 bP_1 bP_2 bP_l
  have ne_bN_bM : Hid (w12b.heap.size≠w4.heap.size):=Hid.mk (by have h9:=bM.lt;omega)
  have ne_bM_bN : Hid (w4.heap.size≠w12b.heap.size):=Hid.mk (by have h9:=bM.lt;omega)
  have ne_bN_bP : Hid (w12b.heap.size≠w4.heap.size+1):=Hid.mk (by have h9:=bP.lt;omega)
  have ne_bN_bX : Hid (w12b.heap.size≠w11.heap.size):=Hid.mk (by have h9:=bX.lt;omega)
  have ne_bX_bN : Hid (w11.heap.size≠w12b.heap.size):=Hid.mk (by have h9:=bX.lt;omega)
  have lowbN : Hid (wS.heap.size≤w12b.heap.size):=Hid.mk (by have h9:=Ext.size hF13;omega)
  have bN:=Box.new w12b 26 #[.int .i64 0,.int .i64 0,.int .i64 1]
  have hza : (World.alloc w12b (.cells #[.int .i64 0,.int .i64 0,.int .i64 1] 26)).heap.size=w12b.heap.size+1:=by rw [World.size_alloc]
  have hx14 : Ext w12b (World.alloc w12b (.cells #[.int .i64 0,.int .i64 0,.int .i64 1] 26)):=(Ext.refl _).alloc _
  obtain ⟨w14b,hw14⟩ : ∃ z,World.alloc w12b (.cells #[.int .i64 0,.int .i64 0,.int .i64 1] 26)=z:=⟨_,rfl⟩
  rw [hw14] at bN hx14 hza ⊢
  clear hw14
  replace GL:=Lib.hid (Fq.to (T:=fun _=>False) (S':=(fun b=>b≠w4.heap.size∧b≠w11.heap.size∧b≠w12b.heap.size∧True)) GL.out (ExtBut.of_ext hx14) (fun _ _ _ h=>h) (fun b h hl=>⟨h.1,h.2.1,by omega,trivial⟩))
  replace Gb:=Lib.hid (Fq.to (T:=fun _=>False) (S':=(fun b=>b≠w4.heap.size∧b≠w11.heap.size∧b≠w12b.heap.size∧True)) Gb.out (ExtBut.of_ext hx14) (fun _ _ _ h=>h) (fun b h hl=>⟨h.1,h.2.1,by omega,trivial⟩))
  replace GX:=Lib.hid (Fq.to (T:=fun _=>False) (S':=(fun b=>b≠w4.heap.size∧b≠w11.heap.size∧b≠w12b.heap.size∧True)) GX.out (ExtBut.of_ext hx14) (fun _ _ _ h=>h) (fun b h hl=>⟨h.1,h.2.1,by omega,trivial⟩))
  have hzb0:=hza
  clear hza
  replace bM:=bM.ext hx14
  replace bP:=bP.ext hx14
  replace bX:=bX.ext hx14
  have hF15:=Ext.trans hF13 hx14
  clear hzb0
  go_loopw [19,20] (fun lv iv wr => ∃ (k : Nat) (m : Mon) (a9 : A3) (U : List Item) (it : Item) (t last : Int) (xa : Option Addr) (xc : Nat),k≤kinds.length∧iv = .int .i64 k∧TopLoop wS (w4.heap.size) (w11.heap.size) (w12b.heap.size) (w4.heap.size+1) lb l k lv wr m a9 U it t last xa xc) (fun _ iv _=>kinds.length - (intOf iv).toNat)
  case atStart=>exact ⟨0,m2,⟨v_ba,v_bac,v_bk,v_bkc,v_br,v_brc⟩,[],⟨1,1,0⟩,2,2,xa,xc,Nat.zero_le _,rfl,⟨hm2.out,TopInv.new,rfl,bM,bX,bN,bP,Gb.out,GX.out,GL.out,hF15⟩⟩
  case round =>
   obtain ⟨k,m,a9,U,it,t,last,ya,yc,hk,rfl,hS⟩:=hrel
   obtain ⟨x1,y1,x2,y2,x3,y3⟩:=a9
   have hlv:=hS.lv
   subst hlv
   have hk12 : k≤12:=by have:=h3.out;omega
   have hmm:=Lib.hid hS.hm;have hin:=Lib.hid hS.inv
   have hok:=Lib.hid (by rw [← hS.hm];exact hS.inv.mon hk12 hn.out hlo.out : okMon m=true)
   clear bM bX bN bP Gb GX GL
   have bM:=hS.bM;have bX:=hS.bX;have bN:=hS.bN;have bP:=hS.bP
   have Gm:=Lib.hid hS.mon;have GX:=Lib.hid hS.stk;have GL:=Lib.hid hS.cel
   have hFr:=Lib.hid hS.ext
   dsimp only at bM
   clear hS
   replace bM:=Lib.hid bM;replace bX:=Lib.hid bX;replace bN:=Lib.hid bN;replace bP:=Lib.hid bP
   replace hk12:=Lib.hid hk12
   by_cases hlt : k < kinds.length
   ·skip
    have hge : decide (k < kinds.length)=true:=decide_eq_true hlt
    have hge' : decide ((k : Int) < (kinds.length : Int))=true:=decide_eq_true (by omega)
    have hkl:=Lib.hid (by omega : k+1≤kinds.length)
    have hk30:=Lib.hid (by have:=h3.out;omega : kinds.length≤12)
    replace hlt:=Lib.hid hlt
    clear hk
    go_upto_region 14 with fail
    clear hge hge'
    refine top_round ?_ (fun _ _ h=>h) ?_ hp hFr.out ne_bM_bX ne_bM_bN ne_bM_bP ne_bX_bM ne_bX_bN ne_bX_bP ne_bN_bM ne_bN_bX ne_bN_bP lowbM lowbX lowbN bM.out bX.out bN.out bP.out Gm GX GL hmm hin hok hn hlo hlz hkd hku hk30 hlt
    ·assumption
    intro lv u8 u21 u22 u23 u24 u25 u26 u27 u104 u105 u106 u107 u108 u109 u110 u111 u112 u113 u114 u115 u116 u117 u118 u119 u120 u121 u122 u123 u124 u125 u126 u127 u128 u129 u130 u131 u132 u133 u134 u135 u136 u137 u138 u139 u140 u141 u142 u143 u144 u145 u146 u147 u148 u149 u150 u151 u152 u153 u154 u155 u156 u157 u158 u159 u160 u161 u162 u163 u164 u165 u166 u167 u168 u169 u170 u171 u172 u173 u174 u175 u176 u177 u178 u179 wx hS
    obtain ⟨m8,a8,U8,it8,t8,last8,xa8,xc8,hS⟩:=hS
    replace hS:=Lib.hid hS
    have hi0 : (0 : Int)≤(k : Int):=by omega
    have hi1 : (k : Int) < (kinds.length : Int):=by have:=hkl.out;omega
    go_wp2
    go_roundw
    case rel=>exact ⟨k+1,m8,a8,U8,it8,t8,last8,xa8,xc8,hkl.out,by go_num,hS.out⟩
    case measure=>have:=hkl.out;simp [intOf];omega
   have hge : decide (k < kinds.length)=false:=decide_eq_false hlt
   have hge' : decide ((k : Int) < (kinds.length : Int))=false:=decide_eq_false (by omega)
   replace hFr:=hFr.out;replace bM:=bM.out;replace bX:=bX.out;replace bN:=bN.out;replace bP:=bP.out
   go_upto_region 22 with fail
   refine top_cells ?_ ?_ hp.out hFr bM bX bN bP (Fq.mono (S':=fun _=>True) Gm.out (fun _ _ _=>trivial)) (Fq.mono (S':=fun _=>True) GL.out (fun _ _ _=>trivial)) (Fq.mono (S':=fun _=>True) GX.out (fun _ _ _=>trivial)) hmm.out hin.out hk12.out hn.out hlo.out hlz.out
   ·assumption
   ·assumption
set_option maxRecDepth 100000 in
theorem topStacks_contract (H : Type) (enc : TypeId × Value→H) (W : World) (base : Nat) (args : Array Value) (ds gs : List (DataW H)) (before : List MemPlace)
  (hval0 : ∀ (j : Nat) t v,Tryd.f3.params[j]? = some t→args[j]? = some v→Value.okWide Tryd.prog W .any base t v)
  (hW : DataW.Whole enc Tryd.prog Tryd.f3.params.toList Rows.topStacksSpec.vars false W args.toList ds gs before) (hL : laidMetH Tryd.prog Rows.topStacksRow.laid W) :
  Calls Tryd.prog 3 args W fun e W' => ∃ v,e = .returned v∧Rows.topStacksSpec.post enc Tryd.prog Tryd.f3 false true false false W args v W':=by
 have hval : ∀ (j : Nat) t v,Tryd.f3.params[j]? = some t→args[j]? = some v→Value.okWide Tryd.prog W .any base t v:=hval0
 have hW':=hW
 obtain ⟨p,q,hA0,hV,rfl,hfz,hnd⟩:=hW
 have hA : DataW.TrodAll enc Tryd.prog W 0 (fun _=>true) true Tryd.f3.params.toList args.toList ds p:=hA0
 rw [Tryd.params3] at hA hval
 obtain ⟨v0,vs0,d0,ds0,p0,q0,hargs,rfl,rfl,h0,r0⟩:=trodAll_cons hA
 obtain ⟨v1,vs1,d1,ds1,p1,q1,rfl,rfl,rfl,h1,r1⟩:=trodAll_cons r0
 obtain ⟨v2,vs2,d2,ds2,p2,q2,rfl,rfl,rfl,h2,r2⟩:=trodAll_cons r1
 obtain ⟨v3,vs3,d3,ds3,p3,q3,rfl,rfl,rfl,h3,r3⟩:=trodAll_cons r2
 obtain ⟨rfl,rfl,rfl⟩:=trodAll_nil r3
 obtain rfl : args=#[v0,v1,v2,v3]:=by cases args;simp_all
 obtain ⟨x0,rfl,rfl,rfl,wf0⟩:=open_int Tryd.underlying3 (hval 0 3 v0 rfl rfl) h0
 obtain ⟨x1,k1,wf1⟩:=open_u8s Tryd.underlying22 (hval 1 22 v1 rfl rfl) h1
 obtain ⟨x2,rfl,rfl,rfl,wf2⟩:=open_int Tryd.underlying2 (hval 2 2 v2 rfl rfl) h2
 obtain ⟨x3,rfl,rfl,rfl,wf3⟩:=open_int Tryd.underlying2 (hval 3 2 v3 rfl rfl) h3
 refine (topStacks_walk (perms_of_laid hL) x0 x2 x3 k1 wf1).mono fun e W' ⟨he,hb⟩ => ?_
 subst he
 exact ⟨_,rfl,post_law TrydlaidOut (tb:=4) rfl Tryd.underlying4 (by kernel_rfl) rfl (fun ds hd=>match ds,hd with | [a0,a1,a2,a3],_=>rfl) hW' hb⟩
theorem topStacks_met (os : Os) : laidMet Tryd.prog Rows.topStacksRow.laid ((doorWorld os).forCall (fun _ _=>0) ⟨#[],#[.int .i64 0,.slice none 0 0,.int .i64 0,.int .i64 0],[]⟩).memory :=
 laidMet_of_run' 8 (by kernel_rfl) (by kernel_rfl)
theorem topStacks_reads (os : Os) {H : Type} (enc : TypeId × Value→H) : ∃ places,DataW.whole enc Tryd.prog ((doorWorld os).forCall (fun _ _=>0) ⟨#[],#[.int .i64 0,.slice none 0 0,.int .i64 0,.int .i64 0],[]⟩).memory Tryd.f3.params.toList Rows.topStacksSpec.vars false (#[.int .i64 0,.slice none 0 0,.int .i64 0,.int .i64 0] : Array Value).toList 8=some ([.lit (.int .i64 0),.nil,.lit (.int .i64 0),.lit (.int .i64 0)],[],places) :=
 ⟨[],by kernel_rfl⟩
set_option maxRecDepth 100000 in
theorem topStacks_lifted (os : Os) (started : os.Started) (H : Type) (enc : TypeId × Value→H) (F : Stop.Interp) :
  ReturnsInHanded {} Tryd.checked os 3 .any ((OpenSpec.ofChange Rows.topStacksSpec).preRow enc Tryd.prog Tryd.f3 Rows.topStacksRow.domain false Rows.topStacksRow.laid) (((OpenSpec.ofChange Rows.topStacksSpec).at F).post enc Tryd.prog Tryd.f3 false true false false):=by
 obtain ⟨places,hx⟩:=topStacks_reads os enc
 refine returnsInHanded_of_row (C:=Tryd.checked) (s:=OpenSpec.ofChange Rows.topStacksSpec) Trydown started (by kernel_rfl) Tryd.func3
  (witness_row_at (enc:=enc) (C:=Tryd.checked) false (doorWorld os) #[.int .i64 0,.slice none 0 0,.int .i64 0,.int .i64 0] rfl (by kernel_rfl) (by kernel_rfl) (by kernel_rfl)
   (OpenSpec.preRow_of_cond 8 hx (by kernel_rfl) (fun k hk=>by cases hk) (by kernel_rfl) (topStacks_met os))) ?_
 intro W base args ds gs before hval hW _ _ _ hL _ _
 exact topStacks_contract H enc W base args ds gs before hval hW hL
theorem topStacks_said : Rows.TopStacksSaid :=
 OpenClaim.holds_of_cond 3 Tryd.f3 rfl rfl rfl rfl rfl rfl rfl ⟨rfl,rfl,rfl,rfl,rfl⟩ rfl rfl rfl rfl rfl (by kernel_rfl) Tryd.func3 (by kernel_rfl)
  (of_decide_eq_true (by kernel_rfl)) (by unfold Func.isWrapper;first | (rw [if_pos (by decide +kernel)];kernel_rfl) | (rw [if_neg (by decide +kernel)];exact ⟨rfl,rfl⟩))
  (fun os started H enc _ F=>by rw [OpenClaim.pre_eq_preRow];exact topStacks_lifted os started H enc F)
theorem topStacks_plain (f : FuncId) (fn : Func) (hf : Tryd.pinned.checked.prog.funcNamed "pawnshop/pawnshoptop.TopStacks" = some f) (hfn : Tryd.pinned.checked.prog.funcs[f]? = some fn) :
  false=Tryd.pinned.checked.prog.looks [] ∧ ∀ (j : Nat) t,fn.params[j]? = some t→Tryd.pinned.checked.prog.wantsStandIn t=false:=by
 obtain rfl : f = 3 := Option.some.inj ((show Tryd.prog.funcNamed "pawnshop/pawnshoptop.TopStacks" = some 3 by kernel_rfl).symm.trans hf) |>.symm
 obtain rfl : fn=Tryd.f3:=(Option.some.inj (Tryd.func3.symm.trans hfn)).symm
 refine ⟨by kernel_rfl,fun j t ht => ?_⟩
 have hm : t ∈ Tryd.f3.params.toList:=by simpa using Array.mem_of_getElem? ht
 have hall : (Tryd.f3.params.toList.all fun u => !Tryd.prog.wantsStandIn u)=true:=by kernel_rfl
 exact (show Tryd.prog.wantsStandIn t=false by simpa using List.all_eq_true.1 hall t hm)
theorem topStacks_card : Rows.TopStacksCardSaid :=
 Claim7.holds_tied_plain_at .later [] _ _ _ _ topStacks_said (fun _ h=>by cases h) (by kernel_rfl) (fun _ h=>by cases h) topStacks_row_tie rfl ⟨rfl,rfl⟩ (by kernel_rfl) rfl topStacks_plain (by kernel_rfl)
end Go.Proofs.YtoanoodfacmieaaDoor
