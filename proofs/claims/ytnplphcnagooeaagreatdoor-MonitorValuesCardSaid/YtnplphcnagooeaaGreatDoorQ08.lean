/- Several texts in one: MonC2, MonC3, MonC, MonE, StkC, StkD, Law31A, Law31B. -/
import Derived.Test.YtnplphcnagooeaaGreatDoorQ07
import Derived.Test.YtnplphcnagooeaaGreatDoorQ03
import Derived.Deep.RegionLaw
import Derived.Test.YtnplphcnagooeaaGreatDoorQ04
/- Contracts: monitor.Check where a call runs. (printed by gen/mon35.py) -/
namespace Go.Proofs.YtnplphcnagooeaaGreatDoor
set_option maxRecDepth 100000
open Go.RowKit
set_option maxRecDepth 100000 in
set_option maxHeartbeats 12800000 in
theorem mon_Check_running {A : List Alloc} {nx : Int} {K : List Stk} {R : List Int} {tg cl : Int} {sa ss sr : Value} {w : World} (hA : Als w sa A) (hn : i64B nx) (hK : Kts w ss K) (hR : Nts w sr R) (hh : headM ⟨⟨A,nx⟩,K,R,tg,cl⟩=true) (hl : lastM ⟨⟨A,nx⟩,K,R,tg,cl⟩=true) (hr : 0 < R.length) :
  Calls Tryz.prog 32 #[.agg #[sa,.int .i64 nx,ss,sr,.int .i64 tg,.int .i64 cl]] w fun e w'=>e = .returned (.int .i64 (monErr ⟨⟨A,nx⟩,K,R,tg,cl⟩))∧Ext w w':=by
 obtain ⟨aa,ac,rfl,hac,hacm,-⟩:=hA.form
 obtain ⟨ka,kc,rfl,hkc,hkcm,-⟩:=hK.form
 obtain ⟨ra,rc,rfl,hrc,hrcm,-⟩:=hR.form
 unfold maxLen at hacm hkcm hrcm
 have hE0:=(Ext.refl w).alloc (.cells #[.slice aa A.length ac,.int .i64 nx,.slice ka K.length kc,.slice ra R.length rc,.int .i64 tg,.int .i64 cl] 28)
 have bM:=Box.new w 28 #[.slice aa A.length ac,.int .i64 nx,.slice ka K.length kc,.slice ra R.length rc,.int .i64 tg,.int .i64 cl]
 replace hA:=Lib.hid (hA.ext hE0);replace hK:=Lib.hid (hK.ext hE0);replace hR:=Lib.hid (hR.ext hE0)
 obtain ⟨⟨⟨⟨h1,h2⟩,h3⟩,h4⟩,h5⟩:=headM_parts hh
 have q1:=Lib.hid (memErr_ok h1)
 have g1 : (K.length != A.length)=false:=by rw [bne,h2];rfl
 have g2 : ((K.length : Int) != (A.length : Int))=false:=by have:=eq_of_beq h2;rw [this];simp
 have h2e:=Lib.hid (eq_of_beq h2)
 have q3:=Lib.hid h3
 have q4:=Lib.hid h4
 have q5:=Lib.hid (runErr_ok h5)
 have hRl:=okR_len h5
 have w1 : IntKind.i64.wrap ((R.length : Int) - 1)=(R.length : Int) - 1:=IntWalk.i64_in _ (by omega)
 have hhead:=Lib.hid hh
 replace h2:=Lib.hid h2
 clear h1 h3 h4 h5 hh
 have hz : R.length≠0:=by omega
 obtain ⟨rb,ro,rfl,_,rc0⟩:=hR.out.cell (last_is hz)
 have z1 : decide (0 < R.length)=true:=decide_eq_true (by omega)
 have z2 : (0 : Int)≤(R.length : Int) - 1:=by omega
 have z3 : (R.length : Int) - 1 < (R.length : Int):=by omega
 have z4 : ((R.length : Int) - 1).toNat=R.length - 1:=by omega
 obtain ⟨last,hlast⟩ : ∃ x,lastR R=x:=⟨_,rfl⟩
 rw [hlast] at rc0
 have hge : decide (cl≤last)=false:=decide_eq_false (by have h:=hl;simp only [lastM,hlast,Bool.or_eq_true,decide_eq_true_eq,beq_iff_eq] at h;omega)
 replace hlast:=Lib.hid hl
 clear hl hz hr
 go_enter Tryz.func32,Tryz.ntmps32
 have m0 : World.cell? (World.alloc w (.cells #[.slice aa A.length ac,.int .i64 nx,.slice ka K.length kc,.slice (some ⟨rb,ro,none⟩) R.length rc,.int .i64 tg,.int .i64 cl] 28)) ⟨w.heap.size,0,none⟩=some (.slice aa A.length ac):=bM.cell 0
 have m1 : World.cell? (World.alloc w (.cells #[.slice aa A.length ac,.int .i64 nx,.slice ka K.length kc,.slice (some ⟨rb,ro,none⟩) R.length rc,.int .i64 tg,.int .i64 cl] 28)) ⟨w.heap.size,1,none⟩=some (.int .i64 nx):=bM.cell 1
 have m2 : World.cell? (World.alloc w (.cells #[.slice aa A.length ac,.int .i64 nx,.slice ka K.length kc,.slice (some ⟨rb,ro,none⟩) R.length rc,.int .i64 tg,.int .i64 cl] 28)) ⟨w.heap.size,2,none⟩=some (.slice ka K.length kc):=bM.cell 2
 have m3 : World.cell? (World.alloc w (.cells #[.slice aa A.length ac,.int .i64 nx,.slice ka K.length kc,.slice (some ⟨rb,ro,none⟩) R.length rc,.int .i64 tg,.int .i64 cl] 28)) ⟨w.heap.size,3,none⟩=some (.slice (some ⟨rb,ro,none⟩) R.length rc):=bM.cell 3
 have m4 : World.cell? (World.alloc w (.cells #[.slice aa A.length ac,.int .i64 nx,.slice ka K.length kc,.slice (some ⟨rb,ro,none⟩) R.length rc,.int .i64 tg,.int .i64 cl] 28)) ⟨w.heap.size,4,none⟩=some (.int .i64 tg):=bM.cell 4
 have m5 : World.cell? (World.alloc w (.cells #[.slice aa A.length ac,.int .i64 nx,.slice ka K.length kc,.slice (some ⟨rb,ro,none⟩) R.length rc,.int .i64 tg,.int .i64 cl] 28)) ⟨w.heap.size,5,none⟩=some (.int .i64 cl):=bM.cell 5
 have mlt:=bM.lt
 go_wp2_with fail
 refine (allocs_Check hA.out hn).mono ?_
 rintro e w1 ⟨rfl,hE1⟩
 rw [q1.out]
 clear m0 m1 m2 m3 m4 m5 mlt
 replace bM:=bM.ext hE1
 have m0 : World.cell? w1 ⟨w.heap.size,0,none⟩=some (.slice aa A.length ac):=bM.cell 0
 have m1 : World.cell? w1 ⟨w.heap.size,1,none⟩=some (.int .i64 nx):=bM.cell 1
 have m2 : World.cell? w1 ⟨w.heap.size,2,none⟩=some (.slice ka K.length kc):=bM.cell 2
 have m3 : World.cell? w1 ⟨w.heap.size,3,none⟩=some (.slice (some ⟨rb,ro,none⟩) R.length rc):=bM.cell 3
 have m4 : World.cell? w1 ⟨w.heap.size,4,none⟩=some (.int .i64 tg):=bM.cell 4
 have m5 : World.cell? w1 ⟨w.heap.size,5,none⟩=some (.int .i64 cl):=bM.cell 5
 have mlt:=bM.lt
 go_wp2_with fail
 refine (mon_counted tg _).mono ?_
 rintro e w2 ⟨rfl,rfl⟩
 rw [q3.out]
 go_wp2_with fail
 refine (mon_counted cl _).mono ?_
 rintro e w3 ⟨rfl,rfl⟩
 rw [q4.out]
 go_wp2_with fail
 refine (guard_Check (hR.out.ext hE1)).mono ?_
 rintro e w4 ⟨rfl,rfl⟩
 rw [q5.out]
 replace rc0:=Ext.cell hE1 rc0
 clear m0 m1 m2 m3 m4 m5 mlt
 have m0 : World.cell? w1 ⟨w.heap.size,0,none⟩=some (.slice aa A.length ac):=bM.cell 0
 have m1 : World.cell? w1 ⟨w.heap.size,1,none⟩=some (.int .i64 nx):=bM.cell 1
 have m2 : World.cell? w1 ⟨w.heap.size,2,none⟩=some (.slice ka K.length kc):=bM.cell 2
 have m3 : World.cell? w1 ⟨w.heap.size,3,none⟩=some (.slice (some ⟨rb,ro,none⟩) R.length rc):=bM.cell 3
 have m4 : World.cell? w1 ⟨w.heap.size,4,none⟩=some (.int .i64 tg):=bM.cell 4
 have m5 : World.cell? w1 ⟨w.heap.size,5,none⟩=some (.int .i64 cl):=bM.cell 5
 have mlt:=bM.lt
 go_wp2
 go_quiet (fail)
 clear m0 m1 m2 m3 m4 m5 mlt
 obtain ⟨wd,hwd⟩ : ∃ z,World.drewN w1 nq=z:=⟨_,rfl⟩
 have hED : Ext w1 wd:=by rw [← hwd];exact (Ext.refl _).drewN _
 rw [hwd]
 clear hwd
 replace hE1:=Ext.trans hE1 hED
 replace bM:=bM.ext hED
 replace hA:=Lib.hid (hA.out.ext hE1);replace hK:=Lib.hid (hK.out.ext hE1);replace hR:=Lib.hid hR
 have m0 : World.cell? wd ⟨w.heap.size,0,none⟩=some (.slice aa A.length ac):=bM.cell 0
 have m1 : World.cell? wd ⟨w.heap.size,1,none⟩=some (.int .i64 nx):=bM.cell 1
 have m2 : World.cell? wd ⟨w.heap.size,2,none⟩=some (.slice ka K.length kc):=bM.cell 2
 have m3 : World.cell? wd ⟨w.heap.size,3,none⟩=some (.slice (some ⟨rb,ro,none⟩) R.length rc):=bM.cell 3
 have m4 : World.cell? wd ⟨w.heap.size,4,none⟩=some (.int .i64 tg):=bM.cell 4
 have m5 : World.cell? wd ⟨w.heap.size,5,none⟩=some (.int .i64 cl):=bM.cell 5
 have mlt:=bM.lt
 go_wp2
 clear m0 m1 m2 m3 m4 m5 mlt
 go_loopw [61] (fun iv wr => ∃ i : Nat,i≤A.length∧iv = .int .i64 i∧(∀ j,j < i→rowAtM ⟨⟨A,nx⟩,K,R,tg,cl⟩ j=true)∧Ext wd wr) (fun iv _=>A.length - (intOf iv).toNat)
 case atStart=>exact ⟨0,Nat.zero_le _,rfl,fun j hj=>by omega,Ext.refl _⟩
 case round =>
  obtain ⟨i,hi,rfl,hrows,hX⟩:=hrel
  by_cases hlt : i < A.length
  ·have hlt' : decide (i < A.length)=true:=decide_eq_true hlt
   obtain ⟨al,hal⟩ : ∃ x,A[i]? = some x:=⟨A[i],by simp [hlt]⟩
   obtain ⟨st,hst⟩ : ∃ x,K[i]? = some x:=⟨K[i]'(by rw [h2e.out];exact hlt),by simp⟩
   obtain ⟨b,off,s,rfl,hbb,a0,a1,a2,hcl⟩:=(hA.out.ext hX).cell hal
   obtain ⟨kb,ko,ks,rfl,hkb,k0,k1,hks⟩:=(hK.out.ext hX).cell hst
   obtain ⟨ca,cc,rfl,-⟩:=Cls.form hcl
   obtain ⟨sa,sc,rfl,hsc,hscm,-⟩:=hks.form
   obtain ⟨anum,alive,acells⟩:=al
   obtain ⟨snum,scells⟩:=st
   dsimp only at *
   have hrow : rowAtM ⟨⟨A,nx⟩,K,R,tg,cl⟩ i=rowM tg cl ⟨snum,scells⟩ ⟨anum,alive,acells⟩:=by simp only [rowAtM,hst,hal]
   have hi0 : (0 : Int)≤(i : Int):=by omega
   have hi1 : (i : Int) < (A.length : Int):=by omega
   have hi2 : (i : Int) < (K.length : Int):=by rw [h2e.out];exact hi1
   have hres : rowM tg cl ⟨snum,scells⟩ ⟨anum,alive,acells⟩=false→monErr ⟨⟨A,nx⟩,K,R,tg,cl⟩=8:=fun h=>monErr_row hlt (hrow.trans h)
   replace hres:=Lib.hid hres
   replace hrow:=Lib.hid hrow
   replace hrows:=Lib.hid hrows
   replace hal:=Lib.hid hal;replace hst:=Lib.hid hst
   obtain ⟨wo,hwo⟩ : ∃ z,wr=z:=⟨_,rfl⟩
   rw [hwo] at hX a0 a1 a2 k0 k1 hks hcl hbb hkb ⊢
   clear hwo
   have bMo:=bM.ext hX
   have hE01:=Ext.trans hE0 hE1
   clear hcl hlt
   cases h1 : snum == anum
   ·have g1 : (snum != anum)=true:=by rw [bne,h1];rfl
    replace h1:=Lib.hid h1
    obtain ⟨bMo_0,bMo_1,bMo_2,bMo_3,bMo_4,bMo_5,bMo_l⟩:=bMo.c6
    have a0_l:=World.block_lt_of_cell? _ _ a0
    have a1_l:=World.block_lt_of_cell? _ _ a1
    have a2_l:=World.block_lt_of_cell? _ _ a2
    have k0_l:=World.block_lt_of_cell? _ _ k0
    have k1_l:=World.block_lt_of_cell? _ _ k1
    go_wp2
    go_ret
    rw [hres.out (by simp only [rowM,h1.out,Bool.false_and])]
    exact ⟨rfl,Ext.trans hE01 (Ext.trans hX (by repeat (first | exact Ext.refl _ | apply Ext.alloc | apply Ext.drew)))⟩
   have g1 : (snum != anum)=false:=by rw [bne,h1];rfl
   replace h1:=Lib.hid h1
   cases h2 : scells.length == acells.length
   ·have g2 : (scells.length != acells.length)=true:=by rw [bne,h2];rfl
    have g3 : ((scells.length : Int) != (acells.length : Int))=true:=by simp only [bne_iff_ne,ne_eq,Int.natCast_inj];simpa using h2
    replace h2:=Lib.hid h2
    obtain ⟨bMo_0,bMo_1,bMo_2,bMo_3,bMo_4,bMo_5,bMo_l⟩:=bMo.c6
    have a0_l:=World.block_lt_of_cell? _ _ a0
    have a1_l:=World.block_lt_of_cell? _ _ a1
    have a2_l:=World.block_lt_of_cell? _ _ a2
    have k0_l:=World.block_lt_of_cell? _ _ k0
    have k1_l:=World.block_lt_of_cell? _ _ k1
    go_wp2
    go_ret
    rw [hres.out (by simp only [rowM,h2.out,Bool.false_and,Bool.and_false])]
    exact ⟨rfl,Ext.trans hE01 (Ext.trans hX (by repeat (first | exact Ext.refl _ | apply Ext.alloc | apply Ext.drew)))⟩
   have g2 : (scells.length != acells.length)=false:=by rw [bne,h2];rfl
   have g3 : ((scells.length : Int) != (acells.length : Int))=false:=by have:=eq_of_beq h2;rw [this];simp
   replace h2:=Lib.hid h2
   replace hks:=Lib.hid hks
   cases h3 : okK ⟨snum,scells⟩
   ·have hs3 : Hid (stkErr ⟨snum,scells⟩=8):=Hid.mk (by simp [stkErr,h3])
    replace h3:=Lib.hid h3
    obtain ⟨bMo_0,bMo_1,bMo_2,bMo_3,bMo_4,bMo_5,bMo_l⟩:=bMo.c6
    have a0_l:=World.block_lt_of_cell? _ _ a0
    have a1_l:=World.block_lt_of_cell? _ _ a1
    have a2_l:=World.block_lt_of_cell? _ _ a2
    have k0_l:=World.block_lt_of_cell? _ _ k0
    have k1_l:=World.block_lt_of_cell? _ _ k1
    go_wp2_with fail
    try clear a0_l
    try clear a1_l
    try clear a2_l
    try clear k0_l
    try clear k1_l
    clear bMo_0 bMo_1 bMo_2 bMo_3 bMo_4 bMo_5 bMo_l
    have bA:=Box.new wo 74 #[.int .i64 anum,.bool alive,.slice ca acells.length cc]
    have hsz : Hid ((World.alloc wo (.cells #[.int .i64 anum,.bool alive,.slice ca acells.length cc] 74)).heap.size=wo.heap.size+1):=Hid.mk (by simp)
    have hx20 : Ext wo (World.alloc wo (.cells #[.int .i64 anum,.bool alive,.slice ca acells.length cc] 74)):=(Ext.refl _).alloc _
    obtain ⟨w20b,hw20⟩ : ∃ x,World.alloc wo (.cells #[.int .i64 anum,.bool alive,.slice ca acells.length cc] 74)=x:=⟨_,rfl⟩
    rw [hw20] at hsz bA hx20 ⊢
    clear hw20
    replace bMo:=bMo.ext hx20
    replace a0:=Ext.cell hx20 a0
    replace a1:=Ext.cell hx20 a1
    replace a2:=Ext.cell hx20 a2
    replace k0:=Ext.cell hx20 k0
    replace k1:=Ext.cell hx20 k1
    have hF20:=Ext.trans (hX) hx20
    have hszp:=hsz
    have bX:=Box.new w20b 68 #[.int .i64 snum,.slice sa scells.length sc]
    have hsz : Hid ((World.alloc w20b (.cells #[.int .i64 snum,.slice sa scells.length sc] 68)).heap.size=w20b.heap.size+1):=Hid.mk (by simp)
    have hx21 : Ext w20b (World.alloc w20b (.cells #[.int .i64 snum,.slice sa scells.length sc] 68)):=(Ext.refl _).alloc _
    obtain ⟨w21b,hw21⟩ : ∃ x,World.alloc w20b (.cells #[.int .i64 snum,.slice sa scells.length sc] 68)=x:=⟨_,rfl⟩
    rw [hw21] at hsz bX hx21 ⊢
    clear hw21
    replace bMo:=bMo.ext hx21
    replace bA:=bA.ext hx21
    replace a0:=Ext.cell hx21 a0
    replace a1:=Ext.cell hx21 a1
    replace a2:=Ext.cell hx21 a2
    replace k0:=Ext.cell hx21 k0
    replace k1:=Ext.cell hx21 k1
    have hF21:=Ext.trans (hF20) hx21
    rw [hszp.out] at bX hsz
    clear hszp
    refine (stacks_Check (hks.out.ext (by repeat (first | exact Ext.refl _ | assumption | apply Ext.alloc | apply Ext.drew | exact Ext.trans hx20 hx21)))).mono ?_
    rintro e w23 ⟨rfl,hZ22⟩
    have hE22 : Ext w21b w23:=Ext.trans (by repeat (first | exact Ext.refl _ | apply Ext.alloc | apply Ext.drew)) hZ22
    replace bMo:=bMo.ext hE22
    replace bA:=bA.ext hE22
    replace bX:=bX.ext hE22
    replace a0:=Ext.cell hE22 a0
    replace a1:=Ext.cell hE22 a1
    replace a2:=Ext.cell hE22 a2
    replace k0:=Ext.cell hE22 k0
    replace k1:=Ext.cell hE22 k1
    have hF22:=Ext.trans (hF21) hE22
    rw [hs3.out]
    go_wp2
    go_ret
    rw [hres.out (by simp only [rowM,h3.out,Bool.false_and,Bool.and_false])]
    exact ⟨rfl,Ext.trans hE01 hF22⟩
   have hs3 : Hid (stkErr ⟨snum,scells⟩=0):=Hid.mk (by simp [stkErr,h3])
   have hc2 : scells.length≤2 ∧ ∀ s ∈ scells,s.length≤600:=okK_bounds h3
   replace h3:=Lib.hid h3
   replace hc2:=Lib.hid hc2
   obtain ⟨bMo_0,bMo_1,bMo_2,bMo_3,bMo_4,bMo_5,bMo_l⟩:=bMo.c6
   have a0_l:=World.block_lt_of_cell? _ _ a0
   have a1_l:=World.block_lt_of_cell? _ _ a1
   have a2_l:=World.block_lt_of_cell? _ _ a2
   have k0_l:=World.block_lt_of_cell? _ _ k0
   have k1_l:=World.block_lt_of_cell? _ _ k1
   go_wp2_with fail
   try clear a0_l
   try clear a1_l
   try clear a2_l
   try clear k0_l
   try clear k1_l
   clear bMo_0 bMo_1 bMo_2 bMo_3 bMo_4 bMo_5 bMo_l
   have bA:=Box.new wo 74 #[.int .i64 anum,.bool alive,.slice ca acells.length cc]
   have hsz : Hid ((World.alloc wo (.cells #[.int .i64 anum,.bool alive,.slice ca acells.length cc] 74)).heap.size=wo.heap.size+1):=Hid.mk (by simp)
   have hx20 : Ext wo (World.alloc wo (.cells #[.int .i64 anum,.bool alive,.slice ca acells.length cc] 74)):=(Ext.refl _).alloc _
   obtain ⟨w20b,hw20⟩ : ∃ x,World.alloc wo (.cells #[.int .i64 anum,.bool alive,.slice ca acells.length cc] 74)=x:=⟨_,rfl⟩
   rw [hw20] at hsz bA hx20 ⊢
   clear hw20
   replace bMo:=bMo.ext hx20
   replace a0:=Ext.cell hx20 a0
   replace a1:=Ext.cell hx20 a1
   replace a2:=Ext.cell hx20 a2
   replace k0:=Ext.cell hx20 k0
   replace k1:=Ext.cell hx20 k1
   have hF20:=Ext.trans (hX) hx20
   have hszp:=hsz
   have bX:=Box.new w20b 68 #[.int .i64 snum,.slice sa scells.length sc]
   have hsz : Hid ((World.alloc w20b (.cells #[.int .i64 snum,.slice sa scells.length sc] 68)).heap.size=w20b.heap.size+1):=Hid.mk (by simp)
   have hx21 : Ext w20b (World.alloc w20b (.cells #[.int .i64 snum,.slice sa scells.length sc] 68)):=(Ext.refl _).alloc _
   obtain ⟨w21b,hw21⟩ : ∃ x,World.alloc w20b (.cells #[.int .i64 snum,.slice sa scells.length sc] 68)=x:=⟨_,rfl⟩
   rw [hw21] at hsz bX hx21 ⊢
   clear hw21
   replace bMo:=bMo.ext hx21
   replace bA:=bA.ext hx21
   replace a0:=Ext.cell hx21 a0
   replace a1:=Ext.cell hx21 a1
   replace a2:=Ext.cell hx21 a2
   replace k0:=Ext.cell hx21 k0
   replace k1:=Ext.cell hx21 k1
   have hF21:=Ext.trans (hF20) hx21
   rw [hszp.out] at bX hsz
   clear hszp
   refine (stacks_Check (hks.out.ext (by repeat (first | exact Ext.refl _ | assumption | apply Ext.alloc | apply Ext.drew | exact Ext.trans hx20 hx21)))).mono ?_
   rintro e w23 ⟨rfl,hZ22⟩
   have hE22 : Ext w21b w23:=Ext.trans (by repeat (first | exact Ext.refl _ | apply Ext.alloc | apply Ext.drew)) hZ22
   replace bMo:=bMo.ext hE22
   replace bA:=bA.ext hE22
   replace bX:=bX.ext hE22
   replace a0:=Ext.cell hE22 a0
   replace a1:=Ext.cell hE22 a1
   replace a2:=Ext.cell hE22 a2
   replace k0:=Ext.cell hE22 k0
   replace k1:=Ext.cell hE22 k1
   have hF22:=Ext.trans (hF21) hE22
   rw [hs3.out]
   replace hks:=Lib.hid (hks.out.ext (Ext.trans hx20 (Ext.trans hx21 hE22)))
   clear a0 a1 a2 k0 k1
   obtain ⟨bMo_0,bMo_1,bMo_2,bMo_3,bMo_4,bMo_5,bMo_l⟩:=bMo.c6
   obtain ⟨bA_0,bA_1,bA_2,bA_l⟩:=bA.c3
   obtain ⟨bX_0,bX_1,bX_l⟩:=bX.c2
   go_wp2_with fail
   clear bMo_0 bMo_1 bMo_2 bMo_3 bMo_4 bMo_5 bMo_l
   clear bA_0 bA_1 bA_2 bA_l
   clear bX_0 bX_1 bX_l
   refine (concat_Items hks.out hc2.out.1 hc2.out.2).mono ?_
   rintro e w24 ⟨u,rfl,hU,hZ23⟩
   have hE23 : Ext w23 w24:=Ext.trans (by repeat (first | exact Ext.refl _ | apply Ext.alloc | apply Ext.drew)) hZ23
   replace bMo:=bMo.ext hE23
   replace bA:=bA.ext hE23
   replace bX:=bX.ext hE23
   have hF23:=Ext.trans (hF22) hE23
   have hU : Its w24 u scells.flatten:=hU.its
   obtain ⟨FL,hFL⟩ : ∃ z,scells.flatten=z:=⟨_,rfl⟩
   rw [hFL] at hU
   replace hFL:=Lib.hid hFL
   obtain ⟨ua,uc,rfl,hul,hum,-⟩:=hU.form
   unfold maxLen at hum
   obtain ⟨bMo_0,bMo_1,bMo_2,bMo_3,bMo_4,bMo_5,bMo_l⟩:=bMo.c6
   obtain ⟨bA_0,bA_1,bA_2,bA_l⟩:=bA.c3
   obtain ⟨bX_0,bX_1,bX_l⟩:=bX.c2
   go_wp2
   clear bMo_0 bMo_1 bMo_2 bMo_3 bMo_4 bMo_5 bMo_l
   clear bA_0 bA_1 bA_2 bA_l
   clear bX_0 bX_1 bX_l
   obtain ⟨wz,hwz⟩ : ∃ z,w24=z:=⟨_,rfl⟩
   rw [hwz] at hU bMo bA bX hF23 ⊢
   clear hwz
   go_loopw [94] (fun jv wr => ∃ j : Nat,j≤FL.length∧jv = .int .i64 j∧(FL.take j).all (fun it=>alive && itM tg cl it)=true∧Ext wz wr) (fun jv _=>FL.length - (intOf jv).toNat)
   case atStart=>exact ⟨0,Nat.zero_le _,rfl,rfl,Ext.refl _⟩
   case round =>
    obtain ⟨j,hj,rfl,hgood,hY⟩:=hrel
    by_cases hjl : j < FL.length
    ·have hjl' : decide (j < FL.length)=true:=decide_eq_true hjl
     obtain ⟨it,hit⟩ : ∃ x,FL[j]? = some x:=⟨FL[j],by simp [hjl]⟩
     obtain ⟨ub,uo,rfl,hub,d0,d1,d2⟩:=(hU.ext hY).cell hit
     obtain ⟨ip,itg,icl⟩:=it
     dsimp only at d0 d1 d2
     have hj0 : (0 : Int)≤(j : Int):=by omega
     have hj1 : (j : Int) < (FL.length : Int):=by omega
     have hrb : (alive && itM tg cl ⟨ip,itg,icl⟩)=false→rowM tg cl ⟨snum,scells⟩ ⟨anum,alive,acells⟩=false:=fun h=>by
      have hm : (⟨ip,itg,icl⟩ : Item) ∈ scells.flatten:=by rw [hFL.out];exact List.mem_of_getElem? hit
      have : scells.flatten.all (fun it=>alive && itM tg cl it)=false:=by
       rw [Bool.eq_false_iff]
       intro hc
       have:=List.all_eq_true.1 hc _ hm
       rw [h] at this
       cases this
      simp only [rowM,this,Bool.and_false]
     have hnext : (alive && itM tg cl ⟨ip,itg,icl⟩)=true→(FL.take (j+1)).all (fun it=>alive && itM tg cl it)=true:=fun h=>by
      rw [List.take_add_one,hit,List.all_append,hgood]
      simpa using h
     replace hrb:=Lib.hid hrb;replace hnext:=Lib.hid hnext;replace hit:=Lib.hid hit;replace hgood:=Lib.hid hgood
     replace bMo:=bMo.ext hY;replace bA:=bA.ext hY;replace bX:=bX.ext hY
     have hG:=Ext.trans hF23 hY
     clear hjl
     cases alive
     ·skip
      obtain ⟨bMo_0,bMo_1,bMo_2,bMo_3,bMo_4,bMo_5,bMo_l⟩:=bMo.c6
      obtain ⟨bA_0,bA_1,bA_2,bA_l⟩:=bA.c3
      obtain ⟨bX_0,bX_1,bX_l⟩:=bX.c2
      have d0_l:=World.block_lt_of_cell? _ _ d0
      have d1_l:=World.block_lt_of_cell? _ _ d1
      have d2_l:=World.block_lt_of_cell? _ _ d2
      go_wp2
      go_ret
      rw [hres.out (hrb.out (rfl))]
      exact ⟨rfl,Ext.trans hE01 (Ext.trans hG (by repeat (first | exact Ext.refl _ | apply Ext.alloc | apply Ext.drew)))⟩
     cases t1 : decide (itg < tg)
     ·have u1 : decide (tg≤itg)=true:=decide_eq_true (by have:=of_decide_eq_false t1;omega)
      replace t1:=Lib.hid t1
      obtain ⟨bMo_0,bMo_1,bMo_2,bMo_3,bMo_4,bMo_5,bMo_l⟩:=bMo.c6
      obtain ⟨bA_0,bA_1,bA_2,bA_l⟩:=bA.c3
      obtain ⟨bX_0,bX_1,bX_l⟩:=bX.c2
      have d0_l:=World.block_lt_of_cell? _ _ d0
      have d1_l:=World.block_lt_of_cell? _ _ d1
      have d2_l:=World.block_lt_of_cell? _ _ d2
      go_wp2
      go_ret
      rw [hres.out (hrb.out (by simp only [itM,t1.out,Bool.false_and,Bool.and_false]))]
      exact ⟨rfl,Ext.trans hE01 (Ext.trans hG (by repeat (first | exact Ext.refl _ | apply Ext.alloc | apply Ext.drew)))⟩
     have u1 : decide (tg≤itg)=false:=decide_eq_false (by have:=of_decide_eq_true t1;omega)
     replace t1:=Lib.hid t1
     cases t2 : decide (icl < cl)
     ·have u2 : decide (cl≤icl)=true:=decide_eq_true (by have:=of_decide_eq_false t2;omega)
      replace t2:=Lib.hid t2
      obtain ⟨bMo_0,bMo_1,bMo_2,bMo_3,bMo_4,bMo_5,bMo_l⟩:=bMo.c6
      obtain ⟨bA_0,bA_1,bA_2,bA_l⟩:=bA.c3
      obtain ⟨bX_0,bX_1,bX_l⟩:=bX.c2
      have d0_l:=World.block_lt_of_cell? _ _ d0
      have d1_l:=World.block_lt_of_cell? _ _ d1
      have d2_l:=World.block_lt_of_cell? _ _ d2
      go_wp2
      go_ret
      rw [hres.out (hrb.out (by simp only [itM,t2.out,Bool.and_false]))]
      exact ⟨rfl,Ext.trans hE01 (Ext.trans hG (by repeat (first | exact Ext.refl _ | apply Ext.alloc | apply Ext.drew)))⟩
     have u2 : decide (cl≤icl)=false:=decide_eq_false (by have:=of_decide_eq_true t2;omega)
     replace t2:=Lib.hid t2
     obtain ⟨bMo_0,bMo_1,bMo_2,bMo_3,bMo_4,bMo_5,bMo_l⟩:=bMo.c6
     obtain ⟨bA_0,bA_1,bA_2,bA_l⟩:=bA.c3
     obtain ⟨bX_0,bX_1,bX_l⟩:=bX.c2
     have d0_l:=World.block_lt_of_cell? _ _ d0
     have d1_l:=World.block_lt_of_cell? _ _ d1
     have d2_l:=World.block_lt_of_cell? _ _ d2
     go_wp2
     go_roundw
     case rel=>exact ⟨j+1,by omega,by go_num,hnext.out (by simp only [itM,t1.out,t2.out,Bool.and_self]),Ext.trans hY (by repeat (first | exact Ext.refl _ | apply Ext.alloc | apply Ext.drew))⟩
     case measure=>simp [intOf];omega
    ·have hje : j=FL.length:=by omega
     subst hje
     have hjl' : decide (FL.length < FL.length)=false:=decide_eq_false (by omega)
     rw [List.take_length] at hgood
     have hrowok : rowAtM ⟨⟨A,nx⟩,K,R,tg,cl⟩ i=true:=by rw [hrow.out];simp only [rowM,h1.out,h2.out,h3.out,hFL.out,hgood,Bool.and_self]
     have hnew : ∀ j,j < i+1→rowAtM ⟨⟨A,nx⟩,K,R,tg,cl⟩ j=true:=fun j hj=>by
      by_cases e : j=i
      ·rw [e];exact hrowok
      ·exact hrows.out j (by omega)
     replace hnew:=Lib.hid hnew;replace hrowok:=Lib.hid hrowok;replace hgood:=Lib.hid hgood
     clear hjl hj
     go_wp2
     go_roundw
     case rel=>exact ⟨i+1,by omega,by go_num,hnew.out,Ext.trans hF23 hY⟩
     case measure=>simp [intOf];omega
  ·have hie : i=A.length:=by omega
   subst hie
   have hlt' : decide (A.length < A.length)=false:=decide_eq_false (by omega)
   have hres:=Lib.hid (monErr_ok hhead.out hlast.out hrows)
   clear hlt hi hrows
   go_wp2
   go_ret
   rw [hres.out]
   exact ⟨rfl,Ext.trans hE0 (Ext.trans hE1 hX)⟩
end Go.Proofs.YtnplphcnagooeaaGreatDoor

/- Contracts: monitor.Check where no call runs. (printed by gen/mon35.py) -/
namespace Go.Proofs.YtnplphcnagooeaaGreatDoor
set_option maxRecDepth 100000
open Go.RowKit
set_option maxRecDepth 100000 in
set_option maxHeartbeats 12800000 in
theorem mon_Check_none {A : List Alloc} {nx : Int} {K : List Stk} {R : List Int} {tg cl : Int} {sa ss sr : Value} {w : World} (hA : Als w sa A) (hn : i64B nx) (hK : Kts w ss K) (hR : Nts w sr R) (hh : headM ⟨⟨A,nx⟩,K,R,tg,cl⟩=true) (hl : lastM ⟨⟨A,nx⟩,K,R,tg,cl⟩=true) (hr : R.length=0) :
  Calls Tryz.prog 32 #[.agg #[sa,.int .i64 nx,ss,sr,.int .i64 tg,.int .i64 cl]] w fun e w'=>e = .returned (.int .i64 (monErr ⟨⟨A,nx⟩,K,R,tg,cl⟩))∧Ext w w':=by
 obtain ⟨aa,ac,rfl,hac,hacm,-⟩:=hA.form
 obtain ⟨ka,kc,rfl,hkc,hkcm,-⟩:=hK.form
 obtain ⟨ra,rc,rfl,hrc,hrcm,-⟩:=hR.form
 unfold maxLen at hacm hkcm hrcm
 have hE0:=(Ext.refl w).alloc (.cells #[.slice aa A.length ac,.int .i64 nx,.slice ka K.length kc,.slice ra R.length rc,.int .i64 tg,.int .i64 cl] 28)
 have bM:=Box.new w 28 #[.slice aa A.length ac,.int .i64 nx,.slice ka K.length kc,.slice ra R.length rc,.int .i64 tg,.int .i64 cl]
 replace hA:=Lib.hid (hA.ext hE0);replace hK:=Lib.hid (hK.ext hE0);replace hR:=Lib.hid (hR.ext hE0)
 obtain ⟨⟨⟨⟨h1,h2⟩,h3⟩,h4⟩,h5⟩:=headM_parts hh
 have q1:=Lib.hid (memErr_ok h1)
 have g1 : (K.length != A.length)=false:=by rw [bne,h2];rfl
 have g2 : ((K.length : Int) != (A.length : Int))=false:=by have:=eq_of_beq h2;rw [this];simp
 have h2e:=Lib.hid (eq_of_beq h2)
 have q3:=Lib.hid h3
 have q4:=Lib.hid h4
 have q5:=Lib.hid (runErr_ok h5)
 have hRl:=okR_len h5
 have w1 : IntKind.i64.wrap ((R.length : Int) - 1)=(R.length : Int) - 1:=IntWalk.i64_in _ (by omega)
 have hhead:=Lib.hid hh
 replace h2:=Lib.hid h2
 clear h1 h3 h4 h5 hh
 have z1 : decide (0 < R.length)=false:=decide_eq_false (by omega)
 have hlast:=Lib.hid hl
 clear hl hr
 go_enter Tryz.func32,Tryz.ntmps32
 have m0 : World.cell? (World.alloc w (.cells #[.slice aa A.length ac,.int .i64 nx,.slice ka K.length kc,.slice (ra) R.length rc,.int .i64 tg,.int .i64 cl] 28)) ⟨w.heap.size,0,none⟩=some (.slice aa A.length ac):=bM.cell 0
 have m1 : World.cell? (World.alloc w (.cells #[.slice aa A.length ac,.int .i64 nx,.slice ka K.length kc,.slice (ra) R.length rc,.int .i64 tg,.int .i64 cl] 28)) ⟨w.heap.size,1,none⟩=some (.int .i64 nx):=bM.cell 1
 have m2 : World.cell? (World.alloc w (.cells #[.slice aa A.length ac,.int .i64 nx,.slice ka K.length kc,.slice (ra) R.length rc,.int .i64 tg,.int .i64 cl] 28)) ⟨w.heap.size,2,none⟩=some (.slice ka K.length kc):=bM.cell 2
 have m3 : World.cell? (World.alloc w (.cells #[.slice aa A.length ac,.int .i64 nx,.slice ka K.length kc,.slice (ra) R.length rc,.int .i64 tg,.int .i64 cl] 28)) ⟨w.heap.size,3,none⟩=some (.slice ra R.length rc):=bM.cell 3
 have m4 : World.cell? (World.alloc w (.cells #[.slice aa A.length ac,.int .i64 nx,.slice ka K.length kc,.slice (ra) R.length rc,.int .i64 tg,.int .i64 cl] 28)) ⟨w.heap.size,4,none⟩=some (.int .i64 tg):=bM.cell 4
 have m5 : World.cell? (World.alloc w (.cells #[.slice aa A.length ac,.int .i64 nx,.slice ka K.length kc,.slice (ra) R.length rc,.int .i64 tg,.int .i64 cl] 28)) ⟨w.heap.size,5,none⟩=some (.int .i64 cl):=bM.cell 5
 have mlt:=bM.lt
 go_wp2_with fail
 refine (allocs_Check hA.out hn).mono ?_
 rintro e w1 ⟨rfl,hE1⟩
 rw [q1.out]
 clear m0 m1 m2 m3 m4 m5 mlt
 replace bM:=bM.ext hE1
 have m0 : World.cell? w1 ⟨w.heap.size,0,none⟩=some (.slice aa A.length ac):=bM.cell 0
 have m1 : World.cell? w1 ⟨w.heap.size,1,none⟩=some (.int .i64 nx):=bM.cell 1
 have m2 : World.cell? w1 ⟨w.heap.size,2,none⟩=some (.slice ka K.length kc):=bM.cell 2
 have m3 : World.cell? w1 ⟨w.heap.size,3,none⟩=some (.slice ra R.length rc):=bM.cell 3
 have m4 : World.cell? w1 ⟨w.heap.size,4,none⟩=some (.int .i64 tg):=bM.cell 4
 have m5 : World.cell? w1 ⟨w.heap.size,5,none⟩=some (.int .i64 cl):=bM.cell 5
 have mlt:=bM.lt
 go_wp2_with fail
 refine (mon_counted tg _).mono ?_
 rintro e w2 ⟨rfl,rfl⟩
 rw [q3.out]
 go_wp2_with fail
 refine (mon_counted cl _).mono ?_
 rintro e w3 ⟨rfl,rfl⟩
 rw [q4.out]
 go_wp2_with fail
 refine (guard_Check (hR.out.ext hE1)).mono ?_
 rintro e w4 ⟨rfl,rfl⟩
 rw [q5.out]
 clear m0 m1 m2 m3 m4 m5 mlt
 have m0 : World.cell? w1 ⟨w.heap.size,0,none⟩=some (.slice aa A.length ac):=bM.cell 0
 have m1 : World.cell? w1 ⟨w.heap.size,1,none⟩=some (.int .i64 nx):=bM.cell 1
 have m2 : World.cell? w1 ⟨w.heap.size,2,none⟩=some (.slice ka K.length kc):=bM.cell 2
 have m3 : World.cell? w1 ⟨w.heap.size,3,none⟩=some (.slice ra R.length rc):=bM.cell 3
 have m4 : World.cell? w1 ⟨w.heap.size,4,none⟩=some (.int .i64 tg):=bM.cell 4
 have m5 : World.cell? w1 ⟨w.heap.size,5,none⟩=some (.int .i64 cl):=bM.cell 5
 have mlt:=bM.lt
 go_wp2
 go_quiet (fail)
 clear m0 m1 m2 m3 m4 m5 mlt
 obtain ⟨wd,hwd⟩ : ∃ z,World.drewN w1 nq=z:=⟨_,rfl⟩
 have hED : Ext w1 wd:=by rw [← hwd];exact (Ext.refl _).drewN _
 rw [hwd]
 clear hwd
 replace hE1:=Ext.trans hE1 hED
 replace bM:=bM.ext hED
 replace hA:=Lib.hid (hA.out.ext hE1);replace hK:=Lib.hid (hK.out.ext hE1);replace hR:=Lib.hid hR
 have m0 : World.cell? wd ⟨w.heap.size,0,none⟩=some (.slice aa A.length ac):=bM.cell 0
 have m1 : World.cell? wd ⟨w.heap.size,1,none⟩=some (.int .i64 nx):=bM.cell 1
 have m2 : World.cell? wd ⟨w.heap.size,2,none⟩=some (.slice ka K.length kc):=bM.cell 2
 have m3 : World.cell? wd ⟨w.heap.size,3,none⟩=some (.slice ra R.length rc):=bM.cell 3
 have m4 : World.cell? wd ⟨w.heap.size,4,none⟩=some (.int .i64 tg):=bM.cell 4
 have m5 : World.cell? wd ⟨w.heap.size,5,none⟩=some (.int .i64 cl):=bM.cell 5
 have mlt:=bM.lt
 go_wp2
 clear m0 m1 m2 m3 m4 m5 mlt
 go_loopw [61] (fun iv wr => ∃ i : Nat,i≤A.length∧iv = .int .i64 i∧(∀ j,j < i→rowAtM ⟨⟨A,nx⟩,K,R,tg,cl⟩ j=true)∧Ext wd wr) (fun iv _=>A.length - (intOf iv).toNat)
 case atStart=>exact ⟨0,Nat.zero_le _,rfl,fun j hj=>by omega,Ext.refl _⟩
 case round =>
  obtain ⟨i,hi,rfl,hrows,hX⟩:=hrel
  by_cases hlt : i < A.length
  ·have hlt' : decide (i < A.length)=true:=decide_eq_true hlt
   obtain ⟨al,hal⟩ : ∃ x,A[i]? = some x:=⟨A[i],by simp [hlt]⟩
   obtain ⟨st,hst⟩ : ∃ x,K[i]? = some x:=⟨K[i]'(by rw [h2e.out];exact hlt),by simp⟩
   obtain ⟨b,off,s,rfl,hbb,a0,a1,a2,hcl⟩:=(hA.out.ext hX).cell hal
   obtain ⟨kb,ko,ks,rfl,hkb,k0,k1,hks⟩:=(hK.out.ext hX).cell hst
   obtain ⟨ca,cc,rfl,-⟩:=Cls.form hcl
   obtain ⟨sa,sc,rfl,hsc,hscm,-⟩:=hks.form
   obtain ⟨anum,alive,acells⟩:=al
   obtain ⟨snum,scells⟩:=st
   dsimp only at *
   have hrow : rowAtM ⟨⟨A,nx⟩,K,R,tg,cl⟩ i=rowM tg cl ⟨snum,scells⟩ ⟨anum,alive,acells⟩:=by simp only [rowAtM,hst,hal]
   have hi0 : (0 : Int)≤(i : Int):=by omega
   have hi1 : (i : Int) < (A.length : Int):=by omega
   have hi2 : (i : Int) < (K.length : Int):=by rw [h2e.out];exact hi1
   have hres : rowM tg cl ⟨snum,scells⟩ ⟨anum,alive,acells⟩=false→monErr ⟨⟨A,nx⟩,K,R,tg,cl⟩=8:=fun h=>monErr_row hlt (hrow.trans h)
   replace hres:=Lib.hid hres
   replace hrow:=Lib.hid hrow
   replace hrows:=Lib.hid hrows
   replace hal:=Lib.hid hal;replace hst:=Lib.hid hst
   obtain ⟨wo,hwo⟩ : ∃ z,wr=z:=⟨_,rfl⟩
   rw [hwo] at hX a0 a1 a2 k0 k1 hks hcl hbb hkb ⊢
   clear hwo
   have bMo:=bM.ext hX
   have hE01:=Ext.trans hE0 hE1
   clear hcl hlt
   cases h1 : snum == anum
   ·have g1 : (snum != anum)=true:=by rw [bne,h1];rfl
    replace h1:=Lib.hid h1
    obtain ⟨bMo_0,bMo_1,bMo_2,bMo_3,bMo_4,bMo_5,bMo_l⟩:=bMo.c6
    have a0_l:=World.block_lt_of_cell? _ _ a0
    have a1_l:=World.block_lt_of_cell? _ _ a1
    have a2_l:=World.block_lt_of_cell? _ _ a2
    have k0_l:=World.block_lt_of_cell? _ _ k0
    have k1_l:=World.block_lt_of_cell? _ _ k1
    go_wp2
    go_ret
    rw [hres.out (by simp only [rowM,h1.out,Bool.false_and])]
    exact ⟨rfl,Ext.trans hE01 (Ext.trans hX (by repeat (first | exact Ext.refl _ | apply Ext.alloc | apply Ext.drew)))⟩
   have g1 : (snum != anum)=false:=by rw [bne,h1];rfl
   replace h1:=Lib.hid h1
   cases h2 : scells.length == acells.length
   ·have g2 : (scells.length != acells.length)=true:=by rw [bne,h2];rfl
    have g3 : ((scells.length : Int) != (acells.length : Int))=true:=by simp only [bne_iff_ne,ne_eq,Int.natCast_inj];simpa using h2
    replace h2:=Lib.hid h2
    obtain ⟨bMo_0,bMo_1,bMo_2,bMo_3,bMo_4,bMo_5,bMo_l⟩:=bMo.c6
    have a0_l:=World.block_lt_of_cell? _ _ a0
    have a1_l:=World.block_lt_of_cell? _ _ a1
    have a2_l:=World.block_lt_of_cell? _ _ a2
    have k0_l:=World.block_lt_of_cell? _ _ k0
    have k1_l:=World.block_lt_of_cell? _ _ k1
    go_wp2
    go_ret
    rw [hres.out (by simp only [rowM,h2.out,Bool.false_and,Bool.and_false])]
    exact ⟨rfl,Ext.trans hE01 (Ext.trans hX (by repeat (first | exact Ext.refl _ | apply Ext.alloc | apply Ext.drew)))⟩
   have g2 : (scells.length != acells.length)=false:=by rw [bne,h2];rfl
   have g3 : ((scells.length : Int) != (acells.length : Int))=false:=by have:=eq_of_beq h2;rw [this];simp
   replace h2:=Lib.hid h2
   replace hks:=Lib.hid hks
   cases h3 : okK ⟨snum,scells⟩
   ·have hs3 : Hid (stkErr ⟨snum,scells⟩=8):=Hid.mk (by simp [stkErr,h3])
    replace h3:=Lib.hid h3
    obtain ⟨bMo_0,bMo_1,bMo_2,bMo_3,bMo_4,bMo_5,bMo_l⟩:=bMo.c6
    have a0_l:=World.block_lt_of_cell? _ _ a0
    have a1_l:=World.block_lt_of_cell? _ _ a1
    have a2_l:=World.block_lt_of_cell? _ _ a2
    have k0_l:=World.block_lt_of_cell? _ _ k0
    have k1_l:=World.block_lt_of_cell? _ _ k1
    go_wp2_with fail
    try clear a0_l
    try clear a1_l
    try clear a2_l
    try clear k0_l
    try clear k1_l
    clear bMo_0 bMo_1 bMo_2 bMo_3 bMo_4 bMo_5 bMo_l
    have bA:=Box.new wo 74 #[.int .i64 anum,.bool alive,.slice ca acells.length cc]
    have hsz : Hid ((World.alloc wo (.cells #[.int .i64 anum,.bool alive,.slice ca acells.length cc] 74)).heap.size=wo.heap.size+1):=Hid.mk (by simp)
    have hx20 : Ext wo (World.alloc wo (.cells #[.int .i64 anum,.bool alive,.slice ca acells.length cc] 74)):=(Ext.refl _).alloc _
    obtain ⟨w20b,hw20⟩ : ∃ x,World.alloc wo (.cells #[.int .i64 anum,.bool alive,.slice ca acells.length cc] 74)=x:=⟨_,rfl⟩
    rw [hw20] at hsz bA hx20 ⊢
    clear hw20
    replace bMo:=bMo.ext hx20
    replace a0:=Ext.cell hx20 a0
    replace a1:=Ext.cell hx20 a1
    replace a2:=Ext.cell hx20 a2
    replace k0:=Ext.cell hx20 k0
    replace k1:=Ext.cell hx20 k1
    have hF20:=Ext.trans (hX) hx20
    have hszp:=hsz
    have bX:=Box.new w20b 68 #[.int .i64 snum,.slice sa scells.length sc]
    have hsz : Hid ((World.alloc w20b (.cells #[.int .i64 snum,.slice sa scells.length sc] 68)).heap.size=w20b.heap.size+1):=Hid.mk (by simp)
    have hx21 : Ext w20b (World.alloc w20b (.cells #[.int .i64 snum,.slice sa scells.length sc] 68)):=(Ext.refl _).alloc _
    obtain ⟨w21b,hw21⟩ : ∃ x,World.alloc w20b (.cells #[.int .i64 snum,.slice sa scells.length sc] 68)=x:=⟨_,rfl⟩
    rw [hw21] at hsz bX hx21 ⊢
    clear hw21
    replace bMo:=bMo.ext hx21
    replace bA:=bA.ext hx21
    replace a0:=Ext.cell hx21 a0
    replace a1:=Ext.cell hx21 a1
    replace a2:=Ext.cell hx21 a2
    replace k0:=Ext.cell hx21 k0
    replace k1:=Ext.cell hx21 k1
    have hF21:=Ext.trans (hF20) hx21
    rw [hszp.out] at bX hsz
    clear hszp
    refine (stacks_Check (hks.out.ext (by repeat (first | exact Ext.refl _ | assumption | apply Ext.alloc | apply Ext.drew | exact Ext.trans hx20 hx21)))).mono ?_
    rintro e w23 ⟨rfl,hZ22⟩
    have hE22 : Ext w21b w23:=Ext.trans (by repeat (first | exact Ext.refl _ | apply Ext.alloc | apply Ext.drew)) hZ22
    replace bMo:=bMo.ext hE22
    replace bA:=bA.ext hE22
    replace bX:=bX.ext hE22
    replace a0:=Ext.cell hE22 a0
    replace a1:=Ext.cell hE22 a1
    replace a2:=Ext.cell hE22 a2
    replace k0:=Ext.cell hE22 k0
    replace k1:=Ext.cell hE22 k1
    have hF22:=Ext.trans (hF21) hE22
    rw [hs3.out]
    go_wp2
    go_ret
    rw [hres.out (by simp only [rowM,h3.out,Bool.false_and,Bool.and_false])]
    exact ⟨rfl,Ext.trans hE01 hF22⟩
   have hs3 : Hid (stkErr ⟨snum,scells⟩=0):=Hid.mk (by simp [stkErr,h3])
   have hc2 : scells.length≤2 ∧ ∀ s ∈ scells,s.length≤600:=okK_bounds h3
   replace h3:=Lib.hid h3
   replace hc2:=Lib.hid hc2
   obtain ⟨bMo_0,bMo_1,bMo_2,bMo_3,bMo_4,bMo_5,bMo_l⟩:=bMo.c6
   have a0_l:=World.block_lt_of_cell? _ _ a0
   have a1_l:=World.block_lt_of_cell? _ _ a1
   have a2_l:=World.block_lt_of_cell? _ _ a2
   have k0_l:=World.block_lt_of_cell? _ _ k0
   have k1_l:=World.block_lt_of_cell? _ _ k1
   go_wp2_with fail
   try clear a0_l
   try clear a1_l
   try clear a2_l
   try clear k0_l
   try clear k1_l
   clear bMo_0 bMo_1 bMo_2 bMo_3 bMo_4 bMo_5 bMo_l
   have bA:=Box.new wo 74 #[.int .i64 anum,.bool alive,.slice ca acells.length cc]
   have hsz : Hid ((World.alloc wo (.cells #[.int .i64 anum,.bool alive,.slice ca acells.length cc] 74)).heap.size=wo.heap.size+1):=Hid.mk (by simp)
   have hx20 : Ext wo (World.alloc wo (.cells #[.int .i64 anum,.bool alive,.slice ca acells.length cc] 74)):=(Ext.refl _).alloc _
   obtain ⟨w20b,hw20⟩ : ∃ x,World.alloc wo (.cells #[.int .i64 anum,.bool alive,.slice ca acells.length cc] 74)=x:=⟨_,rfl⟩
   rw [hw20] at hsz bA hx20 ⊢
   clear hw20
   replace bMo:=bMo.ext hx20
   replace a0:=Ext.cell hx20 a0
   replace a1:=Ext.cell hx20 a1
   replace a2:=Ext.cell hx20 a2
   replace k0:=Ext.cell hx20 k0
   replace k1:=Ext.cell hx20 k1
   have hF20:=Ext.trans (hX) hx20
   have hszp:=hsz
   have bX:=Box.new w20b 68 #[.int .i64 snum,.slice sa scells.length sc]
   have hsz : Hid ((World.alloc w20b (.cells #[.int .i64 snum,.slice sa scells.length sc] 68)).heap.size=w20b.heap.size+1):=Hid.mk (by simp)
   have hx21 : Ext w20b (World.alloc w20b (.cells #[.int .i64 snum,.slice sa scells.length sc] 68)):=(Ext.refl _).alloc _
   obtain ⟨w21b,hw21⟩ : ∃ x,World.alloc w20b (.cells #[.int .i64 snum,.slice sa scells.length sc] 68)=x:=⟨_,rfl⟩
   rw [hw21] at hsz bX hx21 ⊢
   clear hw21
   replace bMo:=bMo.ext hx21
   replace bA:=bA.ext hx21
   replace a0:=Ext.cell hx21 a0
   replace a1:=Ext.cell hx21 a1
   replace a2:=Ext.cell hx21 a2
   replace k0:=Ext.cell hx21 k0
   replace k1:=Ext.cell hx21 k1
   have hF21:=Ext.trans (hF20) hx21
   rw [hszp.out] at bX hsz
   clear hszp
   refine (stacks_Check (hks.out.ext (by repeat (first | exact Ext.refl _ | assumption | apply Ext.alloc | apply Ext.drew | exact Ext.trans hx20 hx21)))).mono ?_
   rintro e w23 ⟨rfl,hZ22⟩
   have hE22 : Ext w21b w23:=Ext.trans (by repeat (first | exact Ext.refl _ | apply Ext.alloc | apply Ext.drew)) hZ22
   replace bMo:=bMo.ext hE22
   replace bA:=bA.ext hE22
   replace bX:=bX.ext hE22
   replace a0:=Ext.cell hE22 a0
   replace a1:=Ext.cell hE22 a1
   replace a2:=Ext.cell hE22 a2
   replace k0:=Ext.cell hE22 k0
   replace k1:=Ext.cell hE22 k1
   have hF22:=Ext.trans (hF21) hE22
   rw [hs3.out]
   replace hks:=Lib.hid (hks.out.ext (Ext.trans hx20 (Ext.trans hx21 hE22)))
   clear a0 a1 a2 k0 k1
   obtain ⟨bMo_0,bMo_1,bMo_2,bMo_3,bMo_4,bMo_5,bMo_l⟩:=bMo.c6
   obtain ⟨bA_0,bA_1,bA_2,bA_l⟩:=bA.c3
   obtain ⟨bX_0,bX_1,bX_l⟩:=bX.c2
   go_wp2_with fail
   clear bMo_0 bMo_1 bMo_2 bMo_3 bMo_4 bMo_5 bMo_l
   clear bA_0 bA_1 bA_2 bA_l
   clear bX_0 bX_1 bX_l
   refine (concat_Items hks.out hc2.out.1 hc2.out.2).mono ?_
   rintro e w24 ⟨u,rfl,hU,hZ23⟩
   have hE23 : Ext w23 w24:=Ext.trans (by repeat (first | exact Ext.refl _ | apply Ext.alloc | apply Ext.drew)) hZ23
   replace bMo:=bMo.ext hE23
   replace bA:=bA.ext hE23
   replace bX:=bX.ext hE23
   have hF23:=Ext.trans (hF22) hE23
   have hU : Its w24 u scells.flatten:=hU.its
   obtain ⟨FL,hFL⟩ : ∃ z,scells.flatten=z:=⟨_,rfl⟩
   rw [hFL] at hU
   replace hFL:=Lib.hid hFL
   obtain ⟨ua,uc,rfl,hul,hum,-⟩:=hU.form
   unfold maxLen at hum
   obtain ⟨bMo_0,bMo_1,bMo_2,bMo_3,bMo_4,bMo_5,bMo_l⟩:=bMo.c6
   obtain ⟨bA_0,bA_1,bA_2,bA_l⟩:=bA.c3
   obtain ⟨bX_0,bX_1,bX_l⟩:=bX.c2
   go_wp2
   clear bMo_0 bMo_1 bMo_2 bMo_3 bMo_4 bMo_5 bMo_l
   clear bA_0 bA_1 bA_2 bA_l
   clear bX_0 bX_1 bX_l
   obtain ⟨wz,hwz⟩ : ∃ z,w24=z:=⟨_,rfl⟩
   rw [hwz] at hU bMo bA bX hF23 ⊢
   clear hwz
   go_loopw [94] (fun jv wr => ∃ j : Nat,j≤FL.length∧jv = .int .i64 j∧(FL.take j).all (fun it=>alive && itM tg cl it)=true∧Ext wz wr) (fun jv _=>FL.length - (intOf jv).toNat)
   case atStart=>exact ⟨0,Nat.zero_le _,rfl,rfl,Ext.refl _⟩
   case round =>
    obtain ⟨j,hj,rfl,hgood,hY⟩:=hrel
    by_cases hjl : j < FL.length
    ·have hjl' : decide (j < FL.length)=true:=decide_eq_true hjl
     obtain ⟨it,hit⟩ : ∃ x,FL[j]? = some x:=⟨FL[j],by simp [hjl]⟩
     obtain ⟨ub,uo,rfl,hub,d0,d1,d2⟩:=(hU.ext hY).cell hit
     obtain ⟨ip,itg,icl⟩:=it
     dsimp only at d0 d1 d2
     have hj0 : (0 : Int)≤(j : Int):=by omega
     have hj1 : (j : Int) < (FL.length : Int):=by omega
     have hrb : (alive && itM tg cl ⟨ip,itg,icl⟩)=false→rowM tg cl ⟨snum,scells⟩ ⟨anum,alive,acells⟩=false:=fun h=>by
      have hm : (⟨ip,itg,icl⟩ : Item) ∈ scells.flatten:=by rw [hFL.out];exact List.mem_of_getElem? hit
      have : scells.flatten.all (fun it=>alive && itM tg cl it)=false:=by
       rw [Bool.eq_false_iff]
       intro hc
       have:=List.all_eq_true.1 hc _ hm
       rw [h] at this
       cases this
      simp only [rowM,this,Bool.and_false]
     have hnext : (alive && itM tg cl ⟨ip,itg,icl⟩)=true→(FL.take (j+1)).all (fun it=>alive && itM tg cl it)=true:=fun h=>by
      rw [List.take_add_one,hit,List.all_append,hgood]
      simpa using h
     replace hrb:=Lib.hid hrb;replace hnext:=Lib.hid hnext;replace hit:=Lib.hid hit;replace hgood:=Lib.hid hgood
     replace bMo:=bMo.ext hY;replace bA:=bA.ext hY;replace bX:=bX.ext hY
     have hG:=Ext.trans hF23 hY
     clear hjl
     cases alive
     ·skip
      obtain ⟨bMo_0,bMo_1,bMo_2,bMo_3,bMo_4,bMo_5,bMo_l⟩:=bMo.c6
      obtain ⟨bA_0,bA_1,bA_2,bA_l⟩:=bA.c3
      obtain ⟨bX_0,bX_1,bX_l⟩:=bX.c2
      have d0_l:=World.block_lt_of_cell? _ _ d0
      have d1_l:=World.block_lt_of_cell? _ _ d1
      have d2_l:=World.block_lt_of_cell? _ _ d2
      go_wp2
      go_ret
      rw [hres.out (hrb.out (rfl))]
      exact ⟨rfl,Ext.trans hE01 (Ext.trans hG (by repeat (first | exact Ext.refl _ | apply Ext.alloc | apply Ext.drew)))⟩
     cases t1 : decide (itg < tg)
     ·have u1 : decide (tg≤itg)=true:=decide_eq_true (by have:=of_decide_eq_false t1;omega)
      replace t1:=Lib.hid t1
      obtain ⟨bMo_0,bMo_1,bMo_2,bMo_3,bMo_4,bMo_5,bMo_l⟩:=bMo.c6
      obtain ⟨bA_0,bA_1,bA_2,bA_l⟩:=bA.c3
      obtain ⟨bX_0,bX_1,bX_l⟩:=bX.c2
      have d0_l:=World.block_lt_of_cell? _ _ d0
      have d1_l:=World.block_lt_of_cell? _ _ d1
      have d2_l:=World.block_lt_of_cell? _ _ d2
      go_wp2
      go_ret
      rw [hres.out (hrb.out (by simp only [itM,t1.out,Bool.false_and,Bool.and_false]))]
      exact ⟨rfl,Ext.trans hE01 (Ext.trans hG (by repeat (first | exact Ext.refl _ | apply Ext.alloc | apply Ext.drew)))⟩
     have u1 : decide (tg≤itg)=false:=decide_eq_false (by have:=of_decide_eq_true t1;omega)
     replace t1:=Lib.hid t1
     cases t2 : decide (icl < cl)
     ·have u2 : decide (cl≤icl)=true:=decide_eq_true (by have:=of_decide_eq_false t2;omega)
      replace t2:=Lib.hid t2
      obtain ⟨bMo_0,bMo_1,bMo_2,bMo_3,bMo_4,bMo_5,bMo_l⟩:=bMo.c6
      obtain ⟨bA_0,bA_1,bA_2,bA_l⟩:=bA.c3
      obtain ⟨bX_0,bX_1,bX_l⟩:=bX.c2
      have d0_l:=World.block_lt_of_cell? _ _ d0
      have d1_l:=World.block_lt_of_cell? _ _ d1
      have d2_l:=World.block_lt_of_cell? _ _ d2
      go_wp2
      go_ret
      rw [hres.out (hrb.out (by simp only [itM,t2.out,Bool.and_false]))]
      exact ⟨rfl,Ext.trans hE01 (Ext.trans hG (by repeat (first | exact Ext.refl _ | apply Ext.alloc | apply Ext.drew)))⟩
     have u2 : decide (cl≤icl)=false:=decide_eq_false (by have:=of_decide_eq_true t2;omega)
     replace t2:=Lib.hid t2
     obtain ⟨bMo_0,bMo_1,bMo_2,bMo_3,bMo_4,bMo_5,bMo_l⟩:=bMo.c6
     obtain ⟨bA_0,bA_1,bA_2,bA_l⟩:=bA.c3
     obtain ⟨bX_0,bX_1,bX_l⟩:=bX.c2
     have d0_l:=World.block_lt_of_cell? _ _ d0
     have d1_l:=World.block_lt_of_cell? _ _ d1
     have d2_l:=World.block_lt_of_cell? _ _ d2
     go_wp2
     go_roundw
     case rel=>exact ⟨j+1,by omega,by go_num,hnext.out (by simp only [itM,t1.out,t2.out,Bool.and_self]),Ext.trans hY (by repeat (first | exact Ext.refl _ | apply Ext.alloc | apply Ext.drew))⟩
     case measure=>simp [intOf];omega
    ·have hje : j=FL.length:=by omega
     subst hje
     have hjl' : decide (FL.length < FL.length)=false:=decide_eq_false (by omega)
     rw [List.take_length] at hgood
     have hrowok : rowAtM ⟨⟨A,nx⟩,K,R,tg,cl⟩ i=true:=by rw [hrow.out];simp only [rowM,h1.out,h2.out,h3.out,hFL.out,hgood,Bool.and_self]
     have hnew : ∀ j,j < i+1→rowAtM ⟨⟨A,nx⟩,K,R,tg,cl⟩ j=true:=fun j hj=>by
      by_cases e : j=i
      ·rw [e];exact hrowok
      ·exact hrows.out j (by omega)
     replace hnew:=Lib.hid hnew;replace hrowok:=Lib.hid hrowok;replace hgood:=Lib.hid hgood
     clear hjl hj
     go_wp2
     go_roundw
     case rel=>exact ⟨i+1,by omega,by go_num,hnew.out,Ext.trans hF23 hY⟩
     case measure=>simp [intOf];omega
  ·have hie : i=A.length:=by omega
   subst hie
   have hlt' : decide (A.length < A.length)=false:=decide_eq_false (by omega)
   have hres:=Lib.hid (monErr_ok hhead.out hlast.out hrows)
   clear hlt hi hrows
   go_wp2
   go_ret
   rw [hres.out]
   exact ⟨rfl,Ext.trans hE0 (Ext.trans hE1 hX)⟩
end Go.Proofs.YtnplphcnagooeaaGreatDoor

/- Contracts: monitor.Check. (printed by gen/mon35.py) -/
namespace Go.Proofs.YtnplphcnagooeaaGreatDoor
set_option maxRecDepth 100000
open Go.RowKit
theorem mon_Check {A : List Alloc} {nx : Int} {K : List Stk} {R : List Int} {tg cl : Int} {sa ss sr : Value} {w : World} (hA : Als w sa A) (hn : i64B nx) (hK : Kts w ss K) (hR : Nts w sr R) :
  Calls Tryz.prog 32 #[.agg #[sa,.int .i64 nx,ss,sr,.int .i64 tg,.int .i64 cl]] w fun e w'=>e = .returned (.int .i64 (monErr ⟨⟨A,nx⟩,K,R,tg,cl⟩))∧Ext w w':=by
 cases hh : headM ⟨⟨A,nx⟩,K,R,tg,cl⟩
 ·exact mon_Check_head hA hn hK hR hh
 cases hl : lastM ⟨⟨A,nx⟩,K,R,tg,cl⟩
 ·exact mon_Check_last hA hn hK hR hh hl
 by_cases hr : R.length=0
 ·exact mon_Check_none hA hn hK hR hh hl hr
 ·exact mon_Check_running hA hn hK hR hh hl (by omega)
end Go.Proofs.YtnplphcnagooeaaGreatDoor

/- What reads from the blocks of a set alone; tables of stacks that the call owns; what a function of layer 35 gives back; no program in sight. -/
namespace Go.Proofs.YtnplphcnagooeaaGreatDoor
set_option maxRecDepth 100000
open Go.RowKit
def Fq (S : Nat→Prop) (w : World) (R : World→Prop) : Prop := ∀ w'' : World,(∀ b,S b→b < w.heap.size→w''.heap[b]? = w.heap[b]?)→R w''
section
variable {S S' T : Nat→Prop} {w w' : World} {R R' : World→Prop}
theorem Fq.read (h : Fq S w R) : R w:=h w fun _ _ _=>rfl
theorem Fq.of_all (h : ∀ w,R w) : Fq S w R:=fun w'' _=>h w''
theorem Fq.imp (h : Fq S w R) (hr : ∀ w,R w→R' w) : Fq S w R':=fun w'' hb=>hr _ (h w'' hb)
theorem Fq.to (h : Fq S w R) (hE : ExtBut T w w') (hd : ∀ b,S b→b < w.heap.size → ¬ T b) (hS : ∀ b,S b→b < w.heap.size→S' b) : Fq S' w' R:=fun w'' hb =>
 h w'' fun b h1 h2=>(hb b (hS b h1 h2) (Nat.lt_of_lt_of_le h2 hE.size)).trans (hE.block b h2 (hd b h1 h2))
theorem Fq.ext (h : Fq S w R) (hE : Ext w w') : Fq S w' R:=h.to (ExtBut.of_ext (S:=fun _=>False) hE) (fun _ _ _ h=>h) (fun _ h _=>h)
theorem Fq.mono (h : Fq S w R) (hS : ∀ b,S b→b < w.heap.size→S' b) : Fq S' w R:=fun w'' hb=>h w'' fun b h1 h2=>hb b (hS b h1 h2) h2
theorem Fq.but (h : Fq S w R) (hE : ExtBut T w w') (hd : ∀ b,S b→b < w.heap.size → ¬ T b) : Fq S w' R:=h.to hE hd (fun _ h _=>h)
theorem Fq.set (h : Fq S w R) {p : Addr} (hp : S p.block→w.heap.size≤p.block) (u : Value) : Fq S (w.setCell p u) R:=h.but (ExtBut.setCell w p u) fun b h1 h2 e=>by have e' : b=p.block:=e;subst e';have:=hp h1;omega
end
theorem Fq.of_but {B : Nat} {w' : World} {R : World→Prop} (hR : ∀ w1 w2,CExt w1 w2→R w1→R w2) (h : ∀ w'' : World,ExtBut (fun b=>b < B) w' w''→R w'') : Fq (fun b=>B≤b) w' R:=Foot.of_but hR h
theorem Fq.to_but {B : Nat} {w' w'' : World} {R : World→Prop} (h : Fq (fun b=>B≤b) w' R) (hE : ExtBut (fun b=>b < B) w' w'') : R w'':=h w'' fun b h1 h2=>hE.block b h2 (by omega)
theorem Als.cext {w w' : World} {v : Value} {l : List Alloc} (h : Als w v l) (hc : CExt w w') : Als w' v l:=Tb.cext h hc fun _ _ h=>Sl.cext h hc
theorem Sts.cext {w w' : World} {v : Value} {l : List (List Item)} (h : Sts w v l) (hc : CExt w w') : Sts w' v l:=Tb.cext h hc fun _ _ h=>Sl.cext h hc
theorem Kts.cext {w w' : World} {v : Value} {l : List Stk} (h : Kts w v l) (hc : CExt w w') : Kts w' v l:=Tb.cext h hc fun _ _ h=>Sts.cext h hc
theorem Nts.cext {w w' : World} {v : Value} {l : List Int} (h : Nts w v l) (hc : CExt w w') : Nts w' v l:=Sl.cext h hc
theorem RdM.cext {w w' : World} {v : Value} {m : Mem} (h : RdM w v m) (hc : CExt w w') : RdM w' v m:=by
 obtain ⟨s,e,hs⟩:=h
 exact ⟨s,e,hs.cext hc⟩
theorem FrM.fs {w w' : World} {v : Value} {m : Mem} (h : FrM w w' v m) : ∃ s,v = .agg #[s,.int .i64 m.next]∧Fq (fun b=>w.heap.size≤b) w' (fun w=>Als w s m.al):=by
 obtain ⟨s,rfl,-⟩:=h.read
 refine ⟨s,rfl,Fq.of_but (fun _ _ hc h=>h.cext hc) fun w'' hE => ?_⟩
 obtain ⟨s',e,h'⟩:=h w'' hE
 simp only [Value.agg.injEq,Array.mk.injEq,List.cons.injEq,and_true] at e
 rw [e];exact h'
theorem OM.fs {w : World} {B : Nat} {v : Value} {vs : List Value} {l : List Alloc} (h : OM w B v vs l) : Fq (fun b=>B≤b) w (fun w=>Als w v l) :=
 Fq.of_but (fun _ _ hc h=>h.cext hc) fun _ hE=>OM.read (OM.but h hE (fun g e hl=>by have:=(h.outer.lt e).1;omega) (fun s hs g e hl=>by have:=(OM.inner_lt h s hs g e).1;omega))
theorem OwnS.fs {w : World} {B : Nat} {v : Value} {vs : List Value} {l : List (List Item)} (h : OwnS w B v vs l) : Fq (fun b=>B≤b) w (fun w=>Sts w v l) :=
 Fq.of_but (fun _ _ hc h=>h.cext hc) fun _ hE=>OwnS.sts (OwnS.but h hE (fun b hb hl=>by omega))
theorem Own.fs {w : World} {B : Nat} {e k n : Nat} {v : Value} {xs : List Value} (h : Own w B e k v n xs) : Fq (fun b=>v.ownBlock=some b) w (fun w=>Sl w k v n xs):=fun _ hb =>
 h.sl.of_block fun g e=>hb g e (h.lt e).2
structure OwnK (w : World) (B : Nat) (v : Value) (vs : List Value) (l : List Stk) : Prop where
 len : vs.length=l.length
 outer : Own w B 68 2 v l.length (trows krow vs l)
 inner : ∀ (i : Nat) (s : Value) (x : Stk),vs[i]? = some s→l[i]? = some x→Fq (fun b=>B≤b∧v.ownBlock≠some b) w (fun w=>Sts w s x.cells)
theorem Own.sl_of {w w'' : World} {B : Nat} {e k n : Nat} {v : Value} {xs : List Value} (h : Own w B e k v n xs) (hb : ∀ b,B≤b→b < w.heap.size→w''.heap[b]? = w.heap[b]?) : Sl w'' k v n xs :=
 h.fs w'' fun b h1 h2=>hb b (h.lt h1).1 h2
theorem OwnK.fs {w : World} {B : Nat} {v : Value} {vs : List Value} {l : List Stk} (h : OwnK w B v vs l) : Fq (fun b=>B≤b) w (fun w=>Kts w v l):=fun w'' hb =>
 ⟨vs,All2.iff.2 ⟨h.len,fun i s x hs hx=>(h.inner i s x hs hx) w'' fun b h1 h2=>hb b h1.1 h2⟩,h.outer.sl_of hb⟩
theorem OwnK.read {w : World} {B : Nat} {v : Value} {vs : List Value} {l : List Stk} (h : OwnK w B v vs l) : Kts w v l:=h.fs.read
theorem OwnK.nil (w : World) (B : Nat) : OwnK w B (.slice none 0 0) [] []:=⟨rfl,Own.nil _ _ _ _,fun i _ _ h=>by simp at h⟩
theorem OwnK.but {S : Nat→Prop} {w w' : World} {B : Nat} {v : Value} {vs : List Value} {l : List Stk} (h : OwnK w B v vs l) (hE : ExtBut S w w') (hS : ∀ b,B≤b → ¬ S b) : OwnK w' B v vs l :=
 ⟨h.len,ExtBut.own h.outer hE (fun g e=>hS g (h.outer.lt e).1),fun i s x hs hx=>(h.inner i s x hs hx).but hE fun b h1 _=>hS b h1.1⟩
theorem OwnK.ext {w w' : World} {B : Nat} {v : Value} {vs : List Value} {l : List Stk} (h : OwnK w B v vs l) (hE : Ext w w') : OwnK w' B v vs l:=h.but (ExtBut.of_ext (S:=fun _=>False) hE) (fun _ _ h=>h)
theorem OwnK.mono {w : World} {B B' : Nat} {v : Value} {vs : List Value} {l : List Stk} (h : OwnK w B v vs l) (hB : B'≤B) : OwnK w B' v vs l :=
 ⟨h.len,h.outer.mono hB,fun i s x hs hx=>(h.inner i s x hs hx).mono fun _ h1 _=>⟨Nat.le_trans hB h1.1,h1.2⟩⟩
theorem Fq.keeps {w w' : World} {B B2 : Nat} {v v' : Value} {R : World→Prop} (h : Fq (fun b=>B≤b∧v.ownBlock≠some b) w R) (hK : Keeps w w' B2 v) (hb : v'.ownBlock=v.ownBlock ∨ ∃ g,v'.ownBlock=some g∧w.heap.size≤g) : Fq (fun b=>B≤b∧v'.ownBlock≠some b) w' R :=
 h.to (ExtBut.of_keeps hK) (fun b h1 _ e=>h1.2 e) fun b h1 h2=>⟨h1.1,fun e=>by
  rcases hb with hb | ⟨g,hb,hg⟩
  ·exact h1.2 (hb.symm.trans e)
  ·rw [hb] at e;cases e;omega⟩
theorem OwnK.push {wx w' : World} {B : Nat} {v v' s : Value} {vs : List Value} {l : List Stk} {x : Stk} (h : OwnK wx B v vs l) (hR : Fq (fun b=>B≤b∧v.ownBlock≠some b) wx (fun w=>Sts w s x.cells))
  (hO : Own w' B 68 2 v' (l.length+1) (trows krow vs l ++ krow s x)) (hK : Keeps wx w' B v) (hb : v'.ownBlock=v.ownBlock ∨ ∃ g,v'.ownBlock=some g∧wx.heap.size≤g) : OwnK w' B v' (vs ++ [s]) (l ++ [x]):=by
 refine ⟨by simp [h.len],?_,fun i u y hu hy => ?_⟩
 ·rw [List.length_append,trows_append krow h.len,trows_one]
  exact hO
 ·by_cases hi : i < vs.length
  ·rw [List.getElem?_append_left hi] at hu
   rw [List.getElem?_append_left (by rw [← h.len];exact hi)] at hy
   exact (h.inner i u y hu hy).keeps hK hb
  ·have hlt:=(List.getElem?_eq_some_iff.1 hu).1
   have hl:=h.len
   simp at hlt
   obtain rfl : i=vs.length:=by omega
   simp at hu
   rw [hl] at hy
   simp at hy
   subst hu hy
   exact hR.keeps hK hb
theorem OwnK.set {w : World} {B g n cap : Nat} {s' : Value} {vs : List Value} {l : List Stk} {i : Nat} {x y : Stk} (h : OwnK w B (.slice (some ⟨g,0,none⟩) n cap) vs l) (hx : l[i]? = some x) (hn : y.num=x.num)
  (hR : Fq (fun b=>B≤b∧b≠g) w (fun w=>Sts w s' y.cells)) : OwnK (w.setCell ⟨g,i * 2+1,none⟩ s') B (.slice (some ⟨g,0,none⟩) n cap) (vs.set i s') (l.set i y):=by
 have hi:=(List.getElem?_eq_some_iff.1 hx).1
 obtain ⟨s,hs⟩ : ∃ s,vs[i]? = some s:=⟨vs[i]'(by rw [h.len];exact hi),by simp⟩
 have hnl : n=l.length:=by
  rcases h.outer.2 with ⟨h1,_⟩ | ⟨g',cap',cur,h1,_⟩ <;> simp only [Value.slice.injEq] at h1 <;> omega
 subst hnl
 have hO:=h.outer.set (i * 2+1) s'
 rw [trows_set krow krow_len (s':=s') (a':=y) hs hx (by omega) (by simp [krow,hn])] at hO
 have hne : ∀ {b : Nat},(Value.slice (some ⟨g,0,none⟩) l.length cap).ownBlock≠some b ↔ b≠g:=fun {b} => by simp [Value.ownBlock];exact ⟨fun h e=>h e.symm,fun h e=>h e.symm⟩
 refine ⟨by simp [h.len],by rw [List.length_set];exact hO,fun j u z hu hz => ?_⟩
 by_cases e : j=i
 ·subst e
  rw [List.getElem?_set_self (by rw [h.len];exact hi)] at hu
  rw [List.getElem?_set_self hi] at hz
  cases hu;cases hz
  exact (hR.set (fun h=>absurd rfl h.2) s').mono fun b h1 _=>⟨h1.1,hne.2 h1.2⟩
 ·rw [List.getElem?_set_ne (fun e'=>e e'.symm)] at hu hz
  exact (h.inner j u z hu hz).set (fun h=>absurd rfl (hne.1 h.2)) s'
theorem OwnK.cell {w : World} {B n cap : Nat} {a : Option Addr} {vs : List Value} {l : List Stk} {i : Nat} {x : Stk} (h : OwnK w B (.slice a n cap) vs l) (hx : l[i]? = some x) :
  ∃ g s,a=some ⟨g,0,none⟩∧B≤g∧g < w.heap.size∧vs[i]? = some s∧Fq (fun b=>B≤b∧b≠g) w (fun w=>Sts w s x.cells)∧w.cell? ⟨g,i * 2,none⟩=some (.int .i64 x.num)∧w.cell? ⟨g,i * 2+1,none⟩=some s ∧ ∀ j,w.frozen? ⟨g,j,none⟩=false:=by
 have hi:=(List.getElem?_eq_some_iff.1 hx).1
 obtain ⟨s,hs⟩ : ∃ s,vs[i]? = some s:=⟨vs[i]'(by rw [h.len];exact hi),by simp⟩
 obtain ⟨g,cp,e,hnc,hcm,hg1,hg2⟩:=h.outer.form (by omega)
 simp only [Value.slice.injEq] at e
 obtain ⟨rfl,rfl,rfl⟩:=e
 have t : ∀ j,j < 2→w.cell? ⟨g,i * 2+j,none⟩=(krow s x)[j]? := fun j hj=>(h.outer.cellAt (i * 2+j) (by omega)).trans (trows_get krow krow_len hs hx hj)
 exact ⟨g,s,rfl,hg1,hg2,hs,(h.inner i s x hs hx).mono fun b h1 _=>⟨h1.1,fun e=>h1.2 (by rw [e];rfl)⟩,t 0 (by omega),t 1 (by omega),fun j=>h.outer.frozen j⟩
theorem FrMon.of_fs {w w' : World} {sa ss sr : Value} {m : Mon} (h1 : Fq (fun b=>w.heap.size≤b) w' (fun w=>Als w sa m.mem.al)) (h2 : Fq (fun b=>w.heap.size≤b) w' (fun w=>Kts w ss m.stks)) (h3 : Fq (fun b=>w.heap.size≤b) w' (fun w=>Nts w sr m.run)) :
  FrMon w w' (.agg #[sa,.int .i64 m.mem.next,ss,sr,.int .i64 m.tag,.int .i64 m.call]) m:=fun _ hE=>⟨sa,ss,sr,rfl,h1.to_but hE,h2.to_but hE,h3.to_but hE⟩
theorem RdMon.cext {w w' : World} {v : Value} {m : Mon} (h : RdMon w v m) (hc : CExt w w') : RdMon w' v m:=by
 obtain ⟨sa,ss,sr,rfl,h1,h2,h3⟩:=h
 exact ⟨sa,ss,sr,rfl,h1.cext hc,h2.cext hc,h3.cext hc⟩
theorem FrMon.fs {w w' : World} {v : Value} {m : Mon} (h : FrMon w w' v m) : Fq (fun b=>w.heap.size≤b) w' (fun w=>RdMon w v m):=Fq.of_but (fun _ _ hc h=>h.cext hc) h
theorem FrMon.parts {w w' : World} {v : Value} {m : Mon} (h : FrMon w w' v m) : ∃ sa ss sr,v = .agg #[sa,.int .i64 m.mem.next,ss,sr,.int .i64 m.tag,.int .i64 m.call]∧Fq (fun b=>w.heap.size≤b) w' (fun w=>Als w sa m.mem.al∧Kts w ss m.stks∧Nts w sr m.run):=by
 obtain ⟨sa,ss,sr,rfl,-⟩:=h.read
 refine ⟨sa,ss,sr,rfl,h.fs.imp fun w hr => ?_⟩
 obtain ⟨s1,s2,s3,e,h1,h2,h3⟩:=hr
 simp only [Value.agg.injEq,Array.mk.injEq,List.cons.injEq,and_true,true_and] at e
 obtain ⟨rfl,rfl,rfl⟩:=e
 exact ⟨h1,h2,h3⟩
theorem RdMon.zero (w : World) : RdMon w (.agg #[.slice none 0 0,.int .i64 0,.slice none 0 0,.slice none 0 0,.int .i64 0,.int .i64 0]) Mon.zero:=⟨_,_,_,rfl,Als.nil w,Kts.nil w,Nts.nil w⟩
theorem FrMon.zero (w w' : World) : FrMon w w' (.agg #[.slice none 0 0,.int .i64 0,.slice none 0 0,.slice none 0 0,.int .i64 0,.int .i64 0]) Mon.zero:=fun w'' _=>RdMon.zero w''
theorem FrMon.but {w w' w2 : World} {v : Value} {m : Mon} {S : Nat→Prop} (h : FrMon w w' v m) (hE : ExtBut S w' w2) (hS : ∀ b,S b→b < w.heap.size) : FrMon w w2 v m:=fun w'' h2=>h w'' ((hE.mono fun b _ hb=>hS b hb).trans h2)
end Go.Proofs.YtnplphcnagooeaaGreatDoor

/- Contracts: Fresh and Twin of the reference of layer 33, New of the program and of the reference. (printed by gen/stk33.py) -/
namespace Go.Proofs.YtnplphcnagooeaaGreatDoor
set_option maxRecDepth 100000
open Go.RowKit
def based (n : Nat) (tag : Int) : List (List Item):=List.replicate n (baseOf tag)
theorem based_succ (n : Nat) (tag : Int) : based n tag ++ [baseOf tag]=based (n+1) tag:=(List.replicate_succ' ..).symm
theorem based_len (n : Nat) (tag : Int) : (based n tag).length=n:=List.length_replicate ..
set_option maxHeartbeats 1600000 in
theorem stacks_New_go (num size tag : Int) (w : World) (hnum : 0≤num∧num≤1000000) (hs : 1≤size∧size≤2) (ht : inB tag=true) :
  Calls Tryz.prog 71 #[.int .i64 num,.int .i64 size,.int .i64 tag] w (RetK w ⟨num,based size.toNat tag⟩ 0):=by
 obtain ⟨ai,az,hai,haz,hai3,haz3,haby⟩:=Stack.infoE
 have hai:=Lib.hid hai;have haz:=Lib.hid haz;have hai3:=Lib.hid hai3;have haz3:=Lib.hid haz3;have haby:=Lib.hid haby
 obtain ⟨N,rfl⟩ : ∃ N : Nat,size=N:=⟨size.toNat,by omega⟩
 rw [Int.toNat_natCast]
 have hN : N≤2:=by omega
 have q1 : decide (num < 0)=false:=decide_eq_false (by omega)
 have q2 : decide (1000000 < num)=false:=decide_eq_false (by omega)
 have q3 : decide ((N : Int) < 1)=false:=decide_eq_false (by omega)
 have q4 : decide ((2 : Int) < (N : Int))=false:=decide_eq_false (by omega)
 have hbe : Hid (baseErr tag=0):=Hid.mk (by simp [baseErr,ht])
 have hE0:=((Ext.refl w).alloc (.cells #[.int .i64 0,.slice none 0 0] 68)).alloc (.cells #[.int .i64 num,.slice none 0 0] 68)
 have bR:=(Box.new w 68 #[.int .i64 0,.slice none 0 0]).ext ((Ext.refl _).alloc (.cells #[.int .i64 num,.slice none 0 0] 68))
 have bO:=Box.new (World.alloc w (.cells #[.int .i64 0,.slice none 0 0] 68)) 68 #[.int .i64 num,.slice none 0 0]
 simp only [World.size_alloc] at bO
 have hH:=Lib.hid (And.intro bR bO)
 clear bR bO
 go_enter Tryz.func71,Tryz.ntmps71
 go_wp2
 obtain ⟨w1,hw1⟩ : ∃ w1,(World.alloc (World.alloc w (.cells #[.int .i64 0,.slice none 0 0] 68)) (.cells #[.int .i64 num,.slice none 0 0] 68))=w1:=⟨_,rfl⟩
 have hsz1 : w1.heap.size=w.heap.size+2:=by rw [← hw1];simp
 rw [hw1] at hE0 hH ⊢
 clear hw1
 have hsz1:=Lib.hid hsz1
 go_loopw [29] (fun iv wr => ∃ (k : Nat) (v : Value) (vs : List Value),k≤N∧iv = .int .i64 k∧Box wr (w.heap.size+1) 68 #[.int .i64 num,v]∧OwnS wr w1.heap.size v vs (based k tag)∧ExtBut (· = w.heap.size+1) w1 wr) (fun iv _=>N - (intOf iv).toNat)
 case atStart=>exact ⟨0,_,[],Nat.zero_le _,rfl,hH.out.2,OTb.nil _ _,ExtBut.refl _ _⟩
 case round =>
  obtain ⟨k,v,vs,hk,rfl,bO,hT,hX⟩:=hrel
  have bR:=hH.out.1.but hX (by omega)
  have hF : Ext w wr:=ExtBut.ext hE0 hX (fun x h=>by omega)
  have hlk : (based k tag).length=k:=based_len k tag
  have hOv:=hT.outer
  rw [hlk] at hOv
  obtain ⟨av,cv,rfl,hcv1,hcv2,-⟩:=hOv.sl.slice_form
  unfold maxLen at hcv2
  have o0 : wr.cell? ⟨w.heap.size+1,1,none⟩=some (.slice av k cv):=bO.cell 1
  have hBl:=bO.lt
  by_cases hlt : k < N
  ·have hA:=Lib.hid (And.intro trivial (And.intro hT (And.intro hX (And.intro hOv (And.intro bO hlk)))))
   clear hT hX hOv bO hlk bR hs hnum ht
   have hlt' : decide ((k : Int) < (N : Int))=true:=decide_eq_true (by omega)
   go_wp2_with fail
   refine (items_Base tag _).mono ?_
   rintro e w4 ⟨sn,rfl,hOn,hE4⟩
   rw [hbe.out]
   have hslt:=fun g e=>(Own.lt (g:=g) hOn) e
   obtain ⟨an,cn,rfl,hcn,hcn2,-⟩:=(Own.sl hOn).slice_form
   have o4:=hE4.cell o0
   have hE6:=hE4.alloc (.cells #[.slice an (baseOf tag).length cn] 72)
   have hS6 : Sl (w4.alloc (.cells #[.slice an (baseOf tag).length cn] 72)) 1 (.slice (some ⟨w4.heap.size,0,none⟩) 1 1) 1 (srow (.slice an (baseOf tag).length cn) (baseOf tag)) :=
    (Own.lit' (B:=0) (e:=72) (k:=1) w4 #[.slice an (baseOf tag).length cn] 1 (Nat.zero_le _) (by simp [maxLen]) rfl).sl
   have hB:=Lib.hid (And.intro hE6 (And.intro hOn (And.intro hslt hE4)))
   have hk6 : k≤1000000:=by omega
   clear hOn hE4 hE6
   go_wp2_with (at_builtin;refine Hid.out ?_)
   refine Hid.mk ?_
   refine wpList_append_any rfl _ _ 66 66 rfl rfl rfl Tryz.underlying66 Tryz.underlying66 hai.out haz.out hai3.out haz3.out (hA.out.2.2.2.1.ext hB.out.1) hS6 (by simp [srow,Value.oneCell']) (by simp [maxLen];omega) (by rw [haby.out];omega) (Nat.le_trans hA.out.2.2.1.size hB.out.1.size) ?_
   intro v' w6 hOv hKv hbv _
   have hlk:=hA.out.2.2.2.2.2
   have hP : OwnS w6 w1.heap.size v' (vs ++ [.slice an (baseOf tag).length cn]) (based k tag ++ [baseOf tag]):=OwnS.push hA.out.2.1 hB.out.1 ((OwnI.mono hB.out.2.1 (by have:=hA.out.2.2.1.size;omega)).ext ((Ext.refl _).alloc _)) (fun g e=>(hslt g e).1) (by rw [hlk];exact hOv) hKv hbv
   have htk : based k tag ++ [baseOf tag]=based (k+1) tag:=based_succ k tag
   rw [htk] at hP
   obtain ⟨av',cv',rfl,-⟩:=hOv.sl.slice_form
   have hvB:=fun g e=>(hA.out.2.2.2.1.lt (g:=g) e).1
   have hvB':=fun g e=>(hOv.lt (g:=g) e).1
   have hin':=OwnS.inner_lt hP
   have bO6:=(hA.out.2.2.2.2.1.ext hB.out.1).but (ExtBut.of_keeps hKv) (fun h=>by have:=hvB _ h;have:=hsz1.out;omega)
   have hX6:=((hA.out.2.2.1.trans (ExtBut.of_ext hB.out.1)).trans' (ExtBut.of_keeps hKv) (fun x hx h=>by have:=hvB _ h;omega)).trans (ExtBut.setCell w6 ⟨w.heap.size+1,1,none⟩ (.slice av' (k+1) cv'))
   have hP7:=OwnS.but hP (ExtBut.setCell w6 ⟨w.heap.size+1,1,none⟩ (.slice av' (k+1) cv')) (fun g e h=>by have:=hsz1.out;have h' : g=w.heap.size+1:=h;omega)
   have o6 : w6.cell? ⟨w.heap.size+1,1,none⟩=some (.slice av k cv):=bO6.cell 1
   have of6:=bO6.frozen 1
   have bO7:=bO6.set 1 (.slice av' (k+1) cv')
   have hR:=Lib.hid (And.intro bO7 (And.intro hP7 hX6))
   clear hvB hvB' hin' bO6 hX6 hP7 bO7 hP hOv hKv hbv hlk htk
   go_wp2
   go_roundw
   case rel=>exact ⟨k+1,_,_,by omega,by go_num,hR.out.1,hR.out.2.1,hR.out.2.2⟩
   case measure=>simp [intOf];omega
  ·have hkl : k=N:=by omega
   subst hkl
   have hlt' : decide ((k : Int) < (k : Int))=false:=decide_eq_false (by omega)
   have o1 : wr.cell? ⟨w.heap.size+1,0,none⟩=some (.int .i64 num):=bO.cell 0
   have r0 : wr.cell? ⟨w.heap.size,0,none⟩=some (.int .i64 0):=bR.cell 0
   have r1 : wr.cell? ⟨w.heap.size,1,none⟩=some (.slice none 0 0):=bR.cell 1
   have rf0:=bR.frozen 0
   have rf1:=bR.frozen 1
   have hT':=Lib.hid hT
   clear hT hlk hOv
   go_wp2
   have hY:=((ExtBut.setCell wr ⟨w.heap.size,0,none⟩ (.int .i64 num)).mono (S':=fun b=>b=w.heap.size) (fun x _ h=>h)).trans ((ExtBut.setCell _ ⟨w.heap.size,1,none⟩ (.slice av k cv)).mono (S':=fun b=>b=w.heap.size) (fun x _ h=>h))
   have hsz:=hsz1.out
   refine bodyPost_ret (v := .tuple #[.agg #[.int .i64 num,.slice av k cv],.int .i64 0]) (by simp [results,Tryz.f71,go_sem,r0,r1]) rfl ⟨_,vs,rfl,OwnS.mono (B':=w.heap.size) (OwnS.but hT'.out hY (fun g e h=>by omega)) (by omega),ExtBut.ext hF hY (fun x h=>by omega)⟩
end Go.Proofs.YtnplphcnagooeaaGreatDoor

/- Contracts: Twin of the reference of layer 33. (printed by gen/stk33.py) -/
namespace Go.Proofs.YtnplphcnagooeaaGreatDoor
set_option maxRecDepth 100000
open Go.RowKit
end Go.Proofs.YtnplphcnagooeaaGreatDoor

/- Contracts: the helpers of the statements of layer 31 that use layer 30. (printed by gen/law31b.py) -/
namespace Go.Proofs.YtnplphcnagooeaaGreatDoor
set_option maxRecDepth 100000
open Go.RowKit
end Go.Proofs.YtnplphcnagooeaaGreatDoor

/- Plain laws of layer 31: fewer calls, none; what is held stays. No program in sight. -/
namespace Go.Proofs.YtnplphcnagooeaaGreatDoor
set_option maxRecDepth 100000
open Go.RowKit
end Go.Proofs.YtnplphcnagooeaaGreatDoor
