/- Several texts in one: MonC3, MonC, MonI, MonG, MonJ, RegInv, RegInw. -/
import Derived.Test.YtoanoodfacmieaaDoorQ10
import Derived.Test.YtoanoodfacmieaaDoorQ07
import Derived.Test.YtoanoodfacmieaaDoorQ02
import Derived.Test.YtoanoodfacmieaaDoorQ06
import Derived.Test.YtoanoodfacmieaaDoorQ01
import Derived.Orders
/- Contracts: monitor.Check where no call runs. (printed by gen/mon35.py) -/
namespace Go.Proofs.YtoanoodfacmieaaDoor
set_option maxRecDepth 100000
open Go.RowKit
set_option maxRecDepth 100000 in
set_option maxHeartbeats 12800000 in
theorem mon_Check_none {A : List Alloc} {nx : Int} {K : List Stk} {R : List Int} {tg cl : Int} {sa ss sr : Value} {w : World} (hA : Als w sa A) (hn : i64B nx) (hK : Kts w ss K) (hR : Nts w sr R) (hh : headM ⟨⟨A,nx⟩,K,R,tg,cl⟩=true) (hl : lastM ⟨⟨A,nx⟩,K,R,tg,cl⟩=true) (hr : R.length=0) :
  Calls Tryd.prog 18 #[.agg #[sa,.int .i64 nx,ss,sr,.int .i64 tg,.int .i64 cl]] w fun e w'=>e = .returned (.int .i64 (monErr ⟨⟨A,nx⟩,K,R,tg,cl⟩))∧Ext w w':=by
 obtain ⟨aa,ac,rfl,hac,hacm,-⟩:=hA.form
 obtain ⟨ka,kc,rfl,hkc,hkcm,-⟩:=hK.form
 obtain ⟨ra,rc,rfl,hrc,hrcm,-⟩:=hR.form
 unfold maxLen at hacm hkcm hrcm
 have hE0:=(Ext.refl w).alloc (.cells #[.slice aa A.length ac,.int .i64 nx,.slice ka K.length kc,.slice ra R.length rc,.int .i64 tg,.int .i64 cl] 35)
 have bM:=Box.new w 35 #[.slice aa A.length ac,.int .i64 nx,.slice ka K.length kc,.slice ra R.length rc,.int .i64 tg,.int .i64 cl]
 replace hA:=Lib.hid (hA.ext hE0);replace hK:=Lib.hid (hK.ext hE0);replace hR:=Lib.hid (hR.ext hE0)
 obtain ⟨⟨⟨⟨h1,h2⟩,h3⟩,h4⟩,h5⟩:=headM_parts hh
 have q1:=Lib.hid (memErr_ok h1)
 have g1 : (K.length != A.length)=false:=by rw [bne,h2];rfl
 have g2 : ((K.length : Int) != (A.length : Int))=false:=by have:=eq_of_beq h2;rw [this];simp
 have h2e:=Lib.hid (eq_of_beq h2)
 have q3:=Lib.hid h3
 have q4:=Lib.hid h4
 have q5:=Lib.hid (runErr_ok h5)
 have hRl:=okR_len h5
 have w1 : IntKind.i64.wrap ((R.length : Int) - 1)=(R.length : Int) - 1:=IntWalk.i64_in _ (by omega)
 have hhead:=Lib.hid hh
 replace h2:=Lib.hid h2
 clear h1 h3 h4 h5 hh
 have z1 : decide (0 < R.length)=false:=decide_eq_false (by omega)
 have hlast:=Lib.hid hl
 clear hl hr
 go_enter Tryd.func18,Tryd.ntmps18
 have m0 : World.cell? (World.alloc w (.cells #[.slice aa A.length ac,.int .i64 nx,.slice ka K.length kc,.slice (ra) R.length rc,.int .i64 tg,.int .i64 cl] 35)) ⟨w.heap.size,0,none⟩=some (.slice aa A.length ac):=bM.cell 0
 have m1 : World.cell? (World.alloc w (.cells #[.slice aa A.length ac,.int .i64 nx,.slice ka K.length kc,.slice (ra) R.length rc,.int .i64 tg,.int .i64 cl] 35)) ⟨w.heap.size,1,none⟩=some (.int .i64 nx):=bM.cell 1
 have m2 : World.cell? (World.alloc w (.cells #[.slice aa A.length ac,.int .i64 nx,.slice ka K.length kc,.slice (ra) R.length rc,.int .i64 tg,.int .i64 cl] 35)) ⟨w.heap.size,2,none⟩=some (.slice ka K.length kc):=bM.cell 2
 have m3 : World.cell? (World.alloc w (.cells #[.slice aa A.length ac,.int .i64 nx,.slice ka K.length kc,.slice (ra) R.length rc,.int .i64 tg,.int .i64 cl] 35)) ⟨w.heap.size,3,none⟩=some (.slice ra R.length rc):=bM.cell 3
 have m4 : World.cell? (World.alloc w (.cells #[.slice aa A.length ac,.int .i64 nx,.slice ka K.length kc,.slice (ra) R.length rc,.int .i64 tg,.int .i64 cl] 35)) ⟨w.heap.size,4,none⟩=some (.int .i64 tg):=bM.cell 4
 have m5 : World.cell? (World.alloc w (.cells #[.slice aa A.length ac,.int .i64 nx,.slice ka K.length kc,.slice (ra) R.length rc,.int .i64 tg,.int .i64 cl] 35)) ⟨w.heap.size,5,none⟩=some (.int .i64 cl):=bM.cell 5
 have mlt:=bM.lt
 go_wp2_with fail
 refine (allocs_Check hA.out hn).mono ?_
 rintro e w1 ⟨rfl,hE1⟩
 rw [q1.out]
 clear m0 m1 m2 m3 m4 m5 mlt
 replace bM:=bM.ext hE1
 have m0 : World.cell? w1 ⟨w.heap.size,0,none⟩=some (.slice aa A.length ac):=bM.cell 0
 have m1 : World.cell? w1 ⟨w.heap.size,1,none⟩=some (.int .i64 nx):=bM.cell 1
 have m2 : World.cell? w1 ⟨w.heap.size,2,none⟩=some (.slice ka K.length kc):=bM.cell 2
 have m3 : World.cell? w1 ⟨w.heap.size,3,none⟩=some (.slice ra R.length rc):=bM.cell 3
 have m4 : World.cell? w1 ⟨w.heap.size,4,none⟩=some (.int .i64 tg):=bM.cell 4
 have m5 : World.cell? w1 ⟨w.heap.size,5,none⟩=some (.int .i64 cl):=bM.cell 5
 have mlt:=bM.lt
 go_wp2_with fail
 refine (mon_counted tg _).mono ?_
 rintro e w2 ⟨rfl,rfl⟩
 rw [q3.out]
 go_wp2_with fail
 refine (mon_counted cl _).mono ?_
 rintro e w3 ⟨rfl,rfl⟩
 rw [q4.out]
 go_wp2_with fail
 refine (guard_Check (hR.out.ext hE1)).mono ?_
 rintro e w4 ⟨rfl,rfl⟩
 rw [q5.out]
 clear m0 m1 m2 m3 m4 m5 mlt
 have m0 : World.cell? w1 ⟨w.heap.size,0,none⟩=some (.slice aa A.length ac):=bM.cell 0
 have m1 : World.cell? w1 ⟨w.heap.size,1,none⟩=some (.int .i64 nx):=bM.cell 1
 have m2 : World.cell? w1 ⟨w.heap.size,2,none⟩=some (.slice ka K.length kc):=bM.cell 2
 have m3 : World.cell? w1 ⟨w.heap.size,3,none⟩=some (.slice ra R.length rc):=bM.cell 3
 have m4 : World.cell? w1 ⟨w.heap.size,4,none⟩=some (.int .i64 tg):=bM.cell 4
 have m5 : World.cell? w1 ⟨w.heap.size,5,none⟩=some (.int .i64 cl):=bM.cell 5
 have mlt:=bM.lt
 go_wp2
 go_quiet (fail)
 clear m0 m1 m2 m3 m4 m5 mlt
 obtain ⟨wd,hwd⟩ : ∃ z,World.drewN w1 nq=z:=⟨_,rfl⟩
 have hED : Ext w1 wd:=by rw [← hwd];exact (Ext.refl _).drewN _
 rw [hwd]
 clear hwd
 replace hE1:=Ext.trans hE1 hED
 replace bM:=bM.ext hED
 replace hA:=Lib.hid (hA.out.ext hE1);replace hK:=Lib.hid (hK.out.ext hE1);replace hR:=Lib.hid hR
 have m0 : World.cell? wd ⟨w.heap.size,0,none⟩=some (.slice aa A.length ac):=bM.cell 0
 have m1 : World.cell? wd ⟨w.heap.size,1,none⟩=some (.int .i64 nx):=bM.cell 1
 have m2 : World.cell? wd ⟨w.heap.size,2,none⟩=some (.slice ka K.length kc):=bM.cell 2
 have m3 : World.cell? wd ⟨w.heap.size,3,none⟩=some (.slice ra R.length rc):=bM.cell 3
 have m4 : World.cell? wd ⟨w.heap.size,4,none⟩=some (.int .i64 tg):=bM.cell 4
 have m5 : World.cell? wd ⟨w.heap.size,5,none⟩=some (.int .i64 cl):=bM.cell 5
 have mlt:=bM.lt
 go_wp2
 clear m0 m1 m2 m3 m4 m5 mlt
 go_loopw [61] (fun iv wr => ∃ i : Nat,i≤A.length∧iv = .int .i64 i∧(∀ j,j < i→rowAtM ⟨⟨A,nx⟩,K,R,tg,cl⟩ j=true)∧Ext wd wr) (fun iv _=>A.length - (intOf iv).toNat)
 case atStart=>exact ⟨0,Nat.zero_le _,rfl,fun j hj=>by omega,Ext.refl _⟩
 case round =>
  obtain ⟨i,hi,rfl,hrows,hX⟩:=hrel
  by_cases hlt : i < A.length
  ·have hlt' : decide (i < A.length)=true:=decide_eq_true hlt
   obtain ⟨al,hal⟩ : ∃ x,A[i]? = some x:=⟨A[i],by simp [hlt]⟩
   obtain ⟨st,hst⟩ : ∃ x,K[i]? = some x:=⟨K[i]'(by rw [h2e.out];exact hlt),by simp⟩
   obtain ⟨b,off,s,rfl,hbb,a0,a1,a2,hcl⟩:=(hA.out.ext hX).cell hal
   obtain ⟨kb,ko,ks,rfl,hkb,k0,k1,hks⟩:=(hK.out.ext hX).cell hst
   obtain ⟨ca,cc,rfl,-⟩:=Cls.form hcl
   obtain ⟨sa,sc,rfl,hsc,hscm,-⟩:=hks.form
   obtain ⟨anum,alive,acells⟩:=al
   obtain ⟨snum,scells⟩:=st
   dsimp only at *
   have hrow : rowAtM ⟨⟨A,nx⟩,K,R,tg,cl⟩ i=rowM tg cl ⟨snum,scells⟩ ⟨anum,alive,acells⟩:=by simp only [rowAtM,hst,hal]
   have hi0 : (0 : Int)≤(i : Int):=by omega
   have hi1 : (i : Int) < (A.length : Int):=by omega
   have hi2 : (i : Int) < (K.length : Int):=by rw [h2e.out];exact hi1
   have hres : rowM tg cl ⟨snum,scells⟩ ⟨anum,alive,acells⟩=false→monErr ⟨⟨A,nx⟩,K,R,tg,cl⟩=8:=fun h=>monErr_row hlt (hrow.trans h)
   replace hres:=Lib.hid hres
   replace hrow:=Lib.hid hrow
   replace hrows:=Lib.hid hrows
   replace hal:=Lib.hid hal;replace hst:=Lib.hid hst
   obtain ⟨wo,hwo⟩ : ∃ z,wr=z:=⟨_,rfl⟩
   rw [hwo] at hX a0 a1 a2 k0 k1 hks hcl hbb hkb ⊢
   clear hwo
   have bMo:=bM.ext hX
   have hE01:=Ext.trans hE0 hE1
   clear hcl hlt
   cases h1 : snum == anum
   ·have g1 : (snum != anum)=true:=by rw [bne,h1];rfl
    replace h1:=Lib.hid h1
    obtain ⟨bMo_0,bMo_1,bMo_2,bMo_3,bMo_4,bMo_5,bMo_l⟩:=bMo.c6
    have a0_l:=World.block_lt_of_cell? _ _ a0
    have a1_l:=World.block_lt_of_cell? _ _ a1
    have a2_l:=World.block_lt_of_cell? _ _ a2
    have k0_l:=World.block_lt_of_cell? _ _ k0
    have k1_l:=World.block_lt_of_cell? _ _ k1
    go_wp2
    go_ret
    rw [hres.out (by simp only [rowM,h1.out,Bool.false_and])]
    exact ⟨rfl,Ext.trans hE01 (Ext.trans hX (by repeat (first | exact Ext.refl _ | apply Ext.alloc | apply Ext.drew)))⟩
   have g1 : (snum != anum)=false:=by rw [bne,h1];rfl
   replace h1:=Lib.hid h1
   cases h2 : scells.length == acells.length
   ·have g2 : (scells.length != acells.length)=true:=by rw [bne,h2];rfl
    have g3 : ((scells.length : Int) != (acells.length : Int))=true:=by simp only [bne_iff_ne,ne_eq,Int.natCast_inj];simpa using h2
    replace h2:=Lib.hid h2
    obtain ⟨bMo_0,bMo_1,bMo_2,bMo_3,bMo_4,bMo_5,bMo_l⟩:=bMo.c6
    have a0_l:=World.block_lt_of_cell? _ _ a0
    have a1_l:=World.block_lt_of_cell? _ _ a1
    have a2_l:=World.block_lt_of_cell? _ _ a2
    have k0_l:=World.block_lt_of_cell? _ _ k0
    have k1_l:=World.block_lt_of_cell? _ _ k1
    go_wp2
    go_ret
    rw [hres.out (by simp only [rowM,h2.out,Bool.false_and,Bool.and_false])]
    exact ⟨rfl,Ext.trans hE01 (Ext.trans hX (by repeat (first | exact Ext.refl _ | apply Ext.alloc | apply Ext.drew)))⟩
   have g2 : (scells.length != acells.length)=false:=by rw [bne,h2];rfl
   have g3 : ((scells.length : Int) != (acells.length : Int))=false:=by have:=eq_of_beq h2;rw [this];simp
   replace h2:=Lib.hid h2
   replace hks:=Lib.hid hks
   cases h3 : okK ⟨snum,scells⟩
   ·have hs3 : Hid (stkErr ⟨snum,scells⟩=8):=Hid.mk (by simp [stkErr,h3])
    replace h3:=Lib.hid h3
    obtain ⟨bMo_0,bMo_1,bMo_2,bMo_3,bMo_4,bMo_5,bMo_l⟩:=bMo.c6
    have a0_l:=World.block_lt_of_cell? _ _ a0
    have a1_l:=World.block_lt_of_cell? _ _ a1
    have a2_l:=World.block_lt_of_cell? _ _ a2
    have k0_l:=World.block_lt_of_cell? _ _ k0
    have k1_l:=World.block_lt_of_cell? _ _ k1
    go_wp2_with fail
    try clear a0_l
    try clear a1_l
    try clear a2_l
    try clear k0_l
    try clear k1_l
    clear bMo_0 bMo_1 bMo_2 bMo_3 bMo_4 bMo_5 bMo_l
    have bA:=Box.new wo 101 #[.int .i64 anum,.bool alive,.slice ca acells.length cc]
    have hsz : Hid ((World.alloc wo (.cells #[.int .i64 anum,.bool alive,.slice ca acells.length cc] 101)).heap.size=wo.heap.size+1):=Hid.mk (by simp)
    have hx20 : Ext wo (World.alloc wo (.cells #[.int .i64 anum,.bool alive,.slice ca acells.length cc] 101)):=(Ext.refl _).alloc _
    obtain ⟨w20b,hw20⟩ : ∃ x,World.alloc wo (.cells #[.int .i64 anum,.bool alive,.slice ca acells.length cc] 101)=x:=⟨_,rfl⟩
    rw [hw20] at hsz bA hx20 ⊢
    clear hw20
    replace bMo:=bMo.ext hx20
    replace a0:=Ext.cell hx20 a0
    replace a1:=Ext.cell hx20 a1
    replace a2:=Ext.cell hx20 a2
    replace k0:=Ext.cell hx20 k0
    replace k1:=Ext.cell hx20 k1
    have hF20:=Ext.trans (hX) hx20
    have hszp:=hsz
    have bX:=Box.new w20b 44 #[.int .i64 snum,.slice sa scells.length sc]
    have hsz : Hid ((World.alloc w20b (.cells #[.int .i64 snum,.slice sa scells.length sc] 44)).heap.size=w20b.heap.size+1):=Hid.mk (by simp)
    have hx21 : Ext w20b (World.alloc w20b (.cells #[.int .i64 snum,.slice sa scells.length sc] 44)):=(Ext.refl _).alloc _
    obtain ⟨w21b,hw21⟩ : ∃ x,World.alloc w20b (.cells #[.int .i64 snum,.slice sa scells.length sc] 44)=x:=⟨_,rfl⟩
    rw [hw21] at hsz bX hx21 ⊢
    clear hw21
    replace bMo:=bMo.ext hx21
    replace bA:=bA.ext hx21
    replace a0:=Ext.cell hx21 a0
    replace a1:=Ext.cell hx21 a1
    replace a2:=Ext.cell hx21 a2
    replace k0:=Ext.cell hx21 k0
    replace k1:=Ext.cell hx21 k1
    have hF21:=Ext.trans (hF20) hx21
    rw [hszp.out] at bX hsz
    clear hszp
    refine (stacks_Check (hks.out.ext (by repeat (first | exact Ext.refl _ | assumption | apply Ext.alloc | apply Ext.drew | exact Ext.trans hx20 hx21)))).mono ?_
    rintro e w23 ⟨rfl,hZ22⟩
    have hE22 : Ext w21b w23:=Ext.trans (by repeat (first | exact Ext.refl _ | apply Ext.alloc | apply Ext.drew)) hZ22
    replace bMo:=bMo.ext hE22
    replace bA:=bA.ext hE22
    replace bX:=bX.ext hE22
    replace a0:=Ext.cell hE22 a0
    replace a1:=Ext.cell hE22 a1
    replace a2:=Ext.cell hE22 a2
    replace k0:=Ext.cell hE22 k0
    replace k1:=Ext.cell hE22 k1
    have hF22:=Ext.trans (hF21) hE22
    rw [hs3.out]
    go_wp2
    go_ret
    rw [hres.out (by simp only [rowM,h3.out,Bool.false_and,Bool.and_false])]
    exact ⟨rfl,Ext.trans hE01 hF22⟩
   have hs3 : Hid (stkErr ⟨snum,scells⟩=0):=Hid.mk (by simp [stkErr,h3])
   have hc2 : scells.length≤2 ∧ ∀ s ∈ scells,s.length≤600:=okK_bounds h3
   replace h3:=Lib.hid h3
   replace hc2:=Lib.hid hc2
   obtain ⟨bMo_0,bMo_1,bMo_2,bMo_3,bMo_4,bMo_5,bMo_l⟩:=bMo.c6
   have a0_l:=World.block_lt_of_cell? _ _ a0
   have a1_l:=World.block_lt_of_cell? _ _ a1
   have a2_l:=World.block_lt_of_cell? _ _ a2
   have k0_l:=World.block_lt_of_cell? _ _ k0
   have k1_l:=World.block_lt_of_cell? _ _ k1
   go_wp2_with fail
   try clear a0_l
   try clear a1_l
   try clear a2_l
   try clear k0_l
   try clear k1_l
   clear bMo_0 bMo_1 bMo_2 bMo_3 bMo_4 bMo_5 bMo_l
   have bA:=Box.new wo 101 #[.int .i64 anum,.bool alive,.slice ca acells.length cc]
   have hsz : Hid ((World.alloc wo (.cells #[.int .i64 anum,.bool alive,.slice ca acells.length cc] 101)).heap.size=wo.heap.size+1):=Hid.mk (by simp)
   have hx20 : Ext wo (World.alloc wo (.cells #[.int .i64 anum,.bool alive,.slice ca acells.length cc] 101)):=(Ext.refl _).alloc _
   obtain ⟨w20b,hw20⟩ : ∃ x,World.alloc wo (.cells #[.int .i64 anum,.bool alive,.slice ca acells.length cc] 101)=x:=⟨_,rfl⟩
   rw [hw20] at hsz bA hx20 ⊢
   clear hw20
   replace bMo:=bMo.ext hx20
   replace a0:=Ext.cell hx20 a0
   replace a1:=Ext.cell hx20 a1
   replace a2:=Ext.cell hx20 a2
   replace k0:=Ext.cell hx20 k0
   replace k1:=Ext.cell hx20 k1
   have hF20:=Ext.trans (hX) hx20
   have hszp:=hsz
   have bX:=Box.new w20b 44 #[.int .i64 snum,.slice sa scells.length sc]
   have hsz : Hid ((World.alloc w20b (.cells #[.int .i64 snum,.slice sa scells.length sc] 44)).heap.size=w20b.heap.size+1):=Hid.mk (by simp)
   have hx21 : Ext w20b (World.alloc w20b (.cells #[.int .i64 snum,.slice sa scells.length sc] 44)):=(Ext.refl _).alloc _
   obtain ⟨w21b,hw21⟩ : ∃ x,World.alloc w20b (.cells #[.int .i64 snum,.slice sa scells.length sc] 44)=x:=⟨_,rfl⟩
   rw [hw21] at hsz bX hx21 ⊢
   clear hw21
   replace bMo:=bMo.ext hx21
   replace bA:=bA.ext hx21
   replace a0:=Ext.cell hx21 a0
   replace a1:=Ext.cell hx21 a1
   replace a2:=Ext.cell hx21 a2
   replace k0:=Ext.cell hx21 k0
   replace k1:=Ext.cell hx21 k1
   have hF21:=Ext.trans (hF20) hx21
   rw [hszp.out] at bX hsz
   clear hszp
   refine (stacks_Check (hks.out.ext (by repeat (first | exact Ext.refl _ | assumption | apply Ext.alloc | apply Ext.drew | exact Ext.trans hx20 hx21)))).mono ?_
   rintro e w23 ⟨rfl,hZ22⟩
   have hE22 : Ext w21b w23:=Ext.trans (by repeat (first | exact Ext.refl _ | apply Ext.alloc | apply Ext.drew)) hZ22
   replace bMo:=bMo.ext hE22
   replace bA:=bA.ext hE22
   replace bX:=bX.ext hE22
   replace a0:=Ext.cell hE22 a0
   replace a1:=Ext.cell hE22 a1
   replace a2:=Ext.cell hE22 a2
   replace k0:=Ext.cell hE22 k0
   replace k1:=Ext.cell hE22 k1
   have hF22:=Ext.trans (hF21) hE22
   rw [hs3.out]
   replace hks:=Lib.hid (hks.out.ext (Ext.trans hx20 (Ext.trans hx21 hE22)))
   clear a0 a1 a2 k0 k1
   obtain ⟨bMo_0,bMo_1,bMo_2,bMo_3,bMo_4,bMo_5,bMo_l⟩:=bMo.c6
   obtain ⟨bA_0,bA_1,bA_2,bA_l⟩:=bA.c3
   obtain ⟨bX_0,bX_1,bX_l⟩:=bX.c2
   go_wp2_with fail
   clear bMo_0 bMo_1 bMo_2 bMo_3 bMo_4 bMo_5 bMo_l
   clear bA_0 bA_1 bA_2 bA_l
   clear bX_0 bX_1 bX_l
   refine (concat_Items hks.out hc2.out.1 hc2.out.2).mono ?_
   rintro e w24 ⟨u,rfl,hU,hZ23⟩
   have hE23 : Ext w23 w24:=Ext.trans (by repeat (first | exact Ext.refl _ | apply Ext.alloc | apply Ext.drew)) hZ23
   replace bMo:=bMo.ext hE23
   replace bA:=bA.ext hE23
   replace bX:=bX.ext hE23
   have hF23:=Ext.trans (hF22) hE23
   have hU : Its w24 u scells.flatten:=hU.its
   obtain ⟨FL,hFL⟩ : ∃ z,scells.flatten=z:=⟨_,rfl⟩
   rw [hFL] at hU
   replace hFL:=Lib.hid hFL
   obtain ⟨ua,uc,rfl,hul,hum,-⟩:=hU.form
   unfold maxLen at hum
   obtain ⟨bMo_0,bMo_1,bMo_2,bMo_3,bMo_4,bMo_5,bMo_l⟩:=bMo.c6
   obtain ⟨bA_0,bA_1,bA_2,bA_l⟩:=bA.c3
   obtain ⟨bX_0,bX_1,bX_l⟩:=bX.c2
   go_wp2
   clear bMo_0 bMo_1 bMo_2 bMo_3 bMo_4 bMo_5 bMo_l
   clear bA_0 bA_1 bA_2 bA_l
   clear bX_0 bX_1 bX_l
   obtain ⟨wz,hwz⟩ : ∃ z,w24=z:=⟨_,rfl⟩
   rw [hwz] at hU bMo bA bX hF23 ⊢
   clear hwz
   go_loopw [94] (fun jv wr => ∃ j : Nat,j≤FL.length∧jv = .int .i64 j∧(FL.take j).all (fun it=>alive && itM tg cl it)=true∧Ext wz wr) (fun jv _=>FL.length - (intOf jv).toNat)
   case atStart=>exact ⟨0,Nat.zero_le _,rfl,rfl,Ext.refl _⟩
   case round =>
    obtain ⟨j,hj,rfl,hgood,hY⟩:=hrel
    by_cases hjl : j < FL.length
    ·have hjl' : decide (j < FL.length)=true:=decide_eq_true hjl
     obtain ⟨it,hit⟩ : ∃ x,FL[j]? = some x:=⟨FL[j],by simp [hjl]⟩
     obtain ⟨ub,uo,rfl,hub,d0,d1,d2⟩:=(hU.ext hY).cell hit
     obtain ⟨ip,itg,icl⟩:=it
     dsimp only at d0 d1 d2
     have hj0 : (0 : Int)≤(j : Int):=by omega
     have hj1 : (j : Int) < (FL.length : Int):=by omega
     have hrb : (alive && itM tg cl ⟨ip,itg,icl⟩)=false→rowM tg cl ⟨snum,scells⟩ ⟨anum,alive,acells⟩=false:=fun h=>by
      have hm : (⟨ip,itg,icl⟩ : Item) ∈ scells.flatten:=by rw [hFL.out];exact List.mem_of_getElem? hit
      have : scells.flatten.all (fun it=>alive && itM tg cl it)=false:=by
       rw [Bool.eq_false_iff]
       intro hc
       have:=List.all_eq_true.1 hc _ hm
       rw [h] at this
       cases this
      simp only [rowM,this,Bool.and_false]
     have hnext : (alive && itM tg cl ⟨ip,itg,icl⟩)=true→(FL.take (j+1)).all (fun it=>alive && itM tg cl it)=true:=fun h=>by
      rw [List.take_add_one,hit,List.all_append,hgood]
      simpa using h
     replace hrb:=Lib.hid hrb;replace hnext:=Lib.hid hnext;replace hit:=Lib.hid hit;replace hgood:=Lib.hid hgood
     replace bMo:=bMo.ext hY;replace bA:=bA.ext hY;replace bX:=bX.ext hY
     have hG:=Ext.trans hF23 hY
     clear hjl
     cases alive
     ·skip
      obtain ⟨bMo_0,bMo_1,bMo_2,bMo_3,bMo_4,bMo_5,bMo_l⟩:=bMo.c6
      obtain ⟨bA_0,bA_1,bA_2,bA_l⟩:=bA.c3
      obtain ⟨bX_0,bX_1,bX_l⟩:=bX.c2
      have d0_l:=World.block_lt_of_cell? _ _ d0
      have d1_l:=World.block_lt_of_cell? _ _ d1
      have d2_l:=World.block_lt_of_cell? _ _ d2
      go_wp2
      go_ret
      rw [hres.out (hrb.out (rfl))]
      exact ⟨rfl,Ext.trans hE01 (Ext.trans hG (by repeat (first | exact Ext.refl _ | apply Ext.alloc | apply Ext.drew)))⟩
     cases t1 : decide (itg < tg)
     ·have u1 : decide (tg≤itg)=true:=decide_eq_true (by have:=of_decide_eq_false t1;omega)
      replace t1:=Lib.hid t1
      obtain ⟨bMo_0,bMo_1,bMo_2,bMo_3,bMo_4,bMo_5,bMo_l⟩:=bMo.c6
      obtain ⟨bA_0,bA_1,bA_2,bA_l⟩:=bA.c3
      obtain ⟨bX_0,bX_1,bX_l⟩:=bX.c2
      have d0_l:=World.block_lt_of_cell? _ _ d0
      have d1_l:=World.block_lt_of_cell? _ _ d1
      have d2_l:=World.block_lt_of_cell? _ _ d2
      go_wp2
      go_ret
      rw [hres.out (hrb.out (by simp only [itM,t1.out,Bool.false_and,Bool.and_false]))]
      exact ⟨rfl,Ext.trans hE01 (Ext.trans hG (by repeat (first | exact Ext.refl _ | apply Ext.alloc | apply Ext.drew)))⟩
     have u1 : decide (tg≤itg)=false:=decide_eq_false (by have:=of_decide_eq_true t1;omega)
     replace t1:=Lib.hid t1
     cases t2 : decide (icl < cl)
     ·have u2 : decide (cl≤icl)=true:=decide_eq_true (by have:=of_decide_eq_false t2;omega)
      replace t2:=Lib.hid t2
      obtain ⟨bMo_0,bMo_1,bMo_2,bMo_3,bMo_4,bMo_5,bMo_l⟩:=bMo.c6
      obtain ⟨bA_0,bA_1,bA_2,bA_l⟩:=bA.c3
      obtain ⟨bX_0,bX_1,bX_l⟩:=bX.c2
      have d0_l:=World.block_lt_of_cell? _ _ d0
      have d1_l:=World.block_lt_of_cell? _ _ d1
      have d2_l:=World.block_lt_of_cell? _ _ d2
      go_wp2
      go_ret
      rw [hres.out (hrb.out (by simp only [itM,t2.out,Bool.and_false]))]
      exact ⟨rfl,Ext.trans hE01 (Ext.trans hG (by repeat (first | exact Ext.refl _ | apply Ext.alloc | apply Ext.drew)))⟩
     have u2 : decide (cl≤icl)=false:=decide_eq_false (by have:=of_decide_eq_true t2;omega)
     replace t2:=Lib.hid t2
     obtain ⟨bMo_0,bMo_1,bMo_2,bMo_3,bMo_4,bMo_5,bMo_l⟩:=bMo.c6
     obtain ⟨bA_0,bA_1,bA_2,bA_l⟩:=bA.c3
     obtain ⟨bX_0,bX_1,bX_l⟩:=bX.c2
     have d0_l:=World.block_lt_of_cell? _ _ d0
     have d1_l:=World.block_lt_of_cell? _ _ d1
     have d2_l:=World.block_lt_of_cell? _ _ d2
     go_wp2
     go_roundw
     case rel=>exact ⟨j+1,by omega,by go_num,hnext.out (by simp only [itM,t1.out,t2.out,Bool.and_self]),Ext.trans hY (by repeat (first | exact Ext.refl _ | apply Ext.alloc | apply Ext.drew))⟩
     case measure=>simp [intOf];omega
    ·have hje : j=FL.length:=by omega
     subst hje
     have hjl' : decide (FL.length < FL.length)=false:=decide_eq_false (by omega)
     rw [List.take_length] at hgood
     have hrowok : rowAtM ⟨⟨A,nx⟩,K,R,tg,cl⟩ i=true:=by rw [hrow.out];simp only [rowM,h1.out,h2.out,h3.out,hFL.out,hgood,Bool.and_self]
     have hnew : ∀ j,j < i+1→rowAtM ⟨⟨A,nx⟩,K,R,tg,cl⟩ j=true:=fun j hj=>by
      by_cases e : j=i
      ·rw [e];exact hrowok
      ·exact hrows.out j (by omega)
     replace hnew:=Lib.hid hnew;replace hrowok:=Lib.hid hrowok;replace hgood:=Lib.hid hgood
     clear hjl hj
     go_wp2
     go_roundw
     case rel=>exact ⟨i+1,by omega,by go_num,hnew.out,Ext.trans hF23 hY⟩
     case measure=>simp [intOf];omega
  ·have hie : i=A.length:=by omega
   subst hie
   have hlt' : decide (A.length < A.length)=false:=decide_eq_false (by omega)
   have hres:=Lib.hid (monErr_ok hhead.out hlast.out hrows)
   clear hlt hi hrows
   go_wp2
   go_ret
   rw [hres.out]
   exact ⟨rfl,Ext.trans hE0 (Ext.trans hE1 hX)⟩
end Go.Proofs.YtoanoodfacmieaaDoor

/- Contracts: monitor.Check. (printed by gen/mon35.py) -/
namespace Go.Proofs.YtoanoodfacmieaaDoor
set_option maxRecDepth 100000
open Go.RowKit
theorem mon_Check {A : List Alloc} {nx : Int} {K : List Stk} {R : List Int} {tg cl : Int} {sa ss sr : Value} {w : World} (hA : Als w sa A) (hn : i64B nx) (hK : Kts w ss K) (hR : Nts w sr R) :
  Calls Tryd.prog 18 #[.agg #[sa,.int .i64 nx,ss,sr,.int .i64 tg,.int .i64 cl]] w fun e w'=>e = .returned (.int .i64 (monErr ⟨⟨A,nx⟩,K,R,tg,cl⟩))∧Ext w w':=by
 cases hh : headM ⟨⟨A,nx⟩,K,R,tg,cl⟩
 ·exact mon_Check_head hA hn hK hR hh
 cases hl : lastM ⟨⟨A,nx⟩,K,R,tg,cl⟩
 ·exact mon_Check_last hA hn hK hR hh hl
 by_cases hr : R.length=0
 ·exact mon_Check_none hA hn hK hR hh hl hr
 ·exact mon_Check_running hA hn hK hR hh hl (by omega)
end Go.Proofs.YtoanoodfacmieaaDoor

/- Contracts: guard.Enter and guard.Leave, whose results read from new blocks alone. (printed by gen/mon35c.py) -/
namespace Go.Proofs.YtoanoodfacmieaaDoor
set_option maxRecDepth 100000
open Go.RowKit
def RetNF (w : World) (l : List Int) (n : Int) (en : Ending) (w' : World) : Prop := ∃ v,en = .returned (.tuple #[v,.int .i64 n])∧Fq (fun b=>w.heap.size≤b) w' (fun w=>Nts w v l)∧Ext w w'
set_option maxHeartbeats 800000 in
theorem guard_LeaveF {l : List Int} {v : Value} {w : World} (hl : Nts w v l) : Calls Tryd.prog 70 #[v] w (RetNF w (leaveR l).1 (leaveR l).2):=by
 have hL:=Lib.hid hl
 obtain ⟨a,cp,rfl,hlc,hcm,-⟩:=hl.form
 unfold maxLen at hcm
 clear hl
 cases hok : okR l
 ·have h8:=Lib.hid (runErr_bad hok)
  have hres:=Lib.hid (leaveR_bad hok)
  clear hok
  go_enter Tryd.func70,Tryd.ntmps70
  go_wp2_with fail
  refine (guard_Check hL.out).mono ?_
  rintro e w1 ⟨rfl,rfl⟩
  rw [h8.out]
  go_wp2
  go_ret2
  rw [hres.out]
  exact ⟨_,rfl,Fq.of_all Nts.nil,Ext.refl _⟩
 ·have h0:=Lib.hid (runErr_ok hok)
  have hlen:=okR_len hok
  by_cases hz : l.length=0
  ·have hres:=Lib.hid (leaveR_none hok hz)
   have hz' : ((l.length : Int) == 0)=true:=beq_iff_eq.2 (by omega)
   clear hok hz
   go_enter Tryd.func70,Tryd.ntmps70
   go_wp2_with fail
   refine (guard_Check hL.out).mono ?_
   rintro e w1 ⟨rfl,rfl⟩
   rw [h0.out]
   go_wp2
   go_ret2
   rw [hres.out]
   exact ⟨_,rfl,Fq.of_all Nts.nil,Ext.refl _⟩
  ·have hres:=Lib.hid (leaveR_ok hok hz)
   have hz' : ((l.length : Int) == 0)=false:=beq_eq_false_iff_ne.2 (by omega)
   have hcut:=slice_upto_Ints a l.length cp ((l.length : Int) - 1) (l.length - 1) (by omega) (by omega)
   clear hok
   go_enter Tryd.func70,Tryd.ntmps70
   go_wp2_with fail
   refine (guard_Check hL.out).mono ?_
   rintro e w1 ⟨rfl,rfl⟩
   rw [h0.out]
   go_wp2_with fail
   refine (clone_Ints (hL.out.take (l.length - 1) (by omega)) (by rw [List.length_take];omega)).mono ?_
   rintro e w1 ⟨v1,rfl,hO,hE⟩
   go_wp2
   go_ret2
   rw [hres.out]
   exact ⟨_,rfl,fun w'' hb=>Own.sl_of hO hb,hE⟩
set_option maxHeartbeats 1600000 in
theorem guard_EnterF {l : List Int} {v : Value} {w : World} (c : Int) (hl : Nts w v l) : Calls Tryd.prog 38 #[v,.int .i64 c] w (RetNF w (enterR l c).1 (enterR l c).2):=by
 have hL:=Lib.hid hl
 obtain ⟨a,cp,rfl,hlc,hcm,-⟩:=hl.form
 unfold maxLen at hcm
 clear hl
 cases hok : okR l
 ·have h8:=Lib.hid (runErr_bad hok)
  have hres:=Lib.hid (enterR_bad (c:=c) hok)
  clear hok
  go_enter Tryd.func38,Tryd.ntmps38
  go_wp2_with fail
  refine (guard_Check hL.out).mono ?_
  rintro e w1 ⟨rfl,rfl⟩
  rw [h8.out]
  go_wp2
  go_ret2
  rw [hres.out]
  exact ⟨_,rfl,Fq.of_all Nts.nil,Ext.refl _⟩
 ·have h0:=Lib.hid (runErr_ok hok)
  have hlen:=okR_len hok
  obtain ⟨last,hlast⟩ : ∃ n,lastR l=n:=⟨_,rfl⟩
  have hcase : (decide (0 < l.length)=false∧last=0)∨(decide (0 < l.length)=true ∧ ∃ b off,a=some ⟨b,off,none⟩∧w.cell? ⟨b,off+(l.length - 1),none⟩=some (.int .i64 last)∧(0 : Int)≤(l.length : Int) - 1∧1≤(l.length : Int)∧1≤l.length):=by
   by_cases hz : l.length=0
   ·left
    have : l=[]:=List.eq_nil_of_length_eq_zero hz
    subst this
    exact ⟨rfl,hlast.symm.trans rfl⟩
   ·right
    obtain ⟨b,off,rfl,_,hc⟩:=hL.out.cell (last_is hz)
    rw [hlast] at hc
    exact ⟨decide_eq_true (by omega),b,off,rfl,hc,by omega,by omega,by omega⟩
  by_cases hc : c≤last∨1000000 < c
  ·have hres:=Lib.hid (enterR_low hok (by rw [hlast];exact hc))
   have hq : decide (c≤last)=true∨decide (c≤last)=false∧decide (1000000 < c)=true:=by
    by_cases h : c≤last
    ·exact .inl (decide_eq_true h)
    ·exact .inr ⟨decide_eq_false h,decide_eq_true (by omega)⟩
   clear hok hc hlast
   rcases hcase with ⟨g1,rfl⟩ | ⟨g1,b,off,rfl,g2,g3,g4,g5⟩
   all_goals
    rcases hq with q1 | ⟨q1,q2⟩
    all_goals
     go_enter Tryd.func38,Tryd.ntmps38
     go_wp2_with fail
     refine (guard_Check hL.out).mono ?_
     rintro e w1 ⟨rfl,rfl⟩
     rw [h0.out]
     go_wp2
     go_ret2
     rw [hres.out]
     exact ⟨_,rfl,Fq.of_all Nts.nil,Ext.refl _⟩
  ·have q1 : decide (c≤last)=false:=decide_eq_false (by omega)
   have q2 : decide (1000000 < c)=false:=decide_eq_false (by omega)
   by_cases hf : l.length=32
   ·have hres:=Lib.hid (enterR_full hok (by rw [hlast];exact hc) hf)
    have q3 : ((l.length : Int) == 32)=true:=beq_iff_eq.2 (by omega)
    clear hok hc hlast hf
    rcases hcase with ⟨g1,rfl⟩ | ⟨g1,b,off,rfl,g2,g3,g4,g5⟩
    all_goals
     go_enter Tryd.func38,Tryd.ntmps38
     go_wp2_with fail
     refine (guard_Check hL.out).mono ?_
     rintro e w1 ⟨rfl,rfl⟩
     rw [h0.out]
     go_wp2
     go_ret2
     rw [hres.out]
     exact ⟨_,rfl,Fq.of_all Nts.nil,Ext.refl _⟩
   ·have hres:=Lib.hid (enterR_ok hok (by rw [hlast];exact hc) hf)
    have q3 : ((l.length : Int) == 32)=false:=beq_eq_false_iff_ne.2 (by omega)
    obtain ⟨i,z,hi,hz,hi3,hz3,hby⟩:=Int.infoE
    have hz:=Lib.hid hz;have hi3:=Lib.hid hi3;have hz3:=Lib.hid hz3;have hby:=Lib.hid hby;have hi:=Lib.hid hi
    clear hok hc hlast hf
    rcases hcase with ⟨g1,rfl⟩ | ⟨g1,b,off,rfl,g2,g3,g4,g5⟩
    all_goals
     go_enter Tryd.func38,Tryd.ntmps38
     go_wp2_with fail
     refine (guard_Check hL.out).mono ?_
     rintro e w1 ⟨rfl,rfl⟩
     rw [h0.out]
     go_wp2_with fail
     refine (clone_Ints hL.out (by omega)).mono ?_
     rintro e w2 ⟨v2,rfl,hO,hE⟩
     have hE2:=(Ext.refl w2).alloc (.cells #[.int .i64 c] 3)
     have hx : Sl (w2.alloc (.cells #[.int .i64 c] 3)) 1 (.slice (some ⟨w2.heap.size,0,none⟩) 1 1) 1 (irow c):=(Own.lit' (B:=0) (e:=3) (k:=1) w2 #[.int .i64 c] 1 (Nat.zero_le _) (by simp [maxLen]) rfl).sl
     have hO':=Lib.hid (hO.ext hE2)
     have hx':=Lib.hid hx
     have hEs:=Lib.hid (hE.trans hE2).size
     clear hO hx
     go_wp2_with (at_builtin;refine Hid.out ?_)
     refine Hid.mk ?_
     refine wpList_append_any rfl _ _ 33 33 rfl rfl rfl Tryd.underlying33 Tryd.underlying33 hi.out hz.out hi3.out hz3.out hO'.out hx'.out (by simp [irow,Value.oneCell']) (by simp [maxLen];omega) (by rw [hby.out];omega) hEs.out ?_
     intro v' w' hO3 hK _ _
     go_wp2
     go_ret2
     rw [hres.out]
     refine ⟨_,rfl,fun w'' hb => ?_,Below.trans (hE.trans hE2) hK.below⟩
     have:=Own.sl_of hO3 hb
     unfold Nts
     rw [List.length_append,List.flatMap_append]
     exact this
end Go.Proofs.YtoanoodfacmieaaDoor

/- Contracts: slices.Clone at stacks of an allocation, and at the stacks of many. -/
namespace Go.Proofs.YtoanoodfacmieaaDoor
set_option maxRecDepth 100000
open Go.RowKit
theorem Stacks.infoE : ∃ i z,Tryd.prog.info? 44=some i∧i.zero=some z∧i.size=2∧z.cells.size=2∧i.bytes=32:=by
 have h : (Tryd.prog.info? 44).map (fun i=>(i.zero.map (fun z=>z.cells.size),i.size,i.bytes))=some (some 2,2,32):=by kernel_rfl
 cases hi : Tryd.prog.info? 44 with
 | none=>rw [hi] at h;simp at h
 | some i =>
  rw [hi] at h
  simp only [Option.map_some,Option.some.injEq,Prod.mk.injEq] at h
  obtain ⟨h1,h2,h3⟩:=h
  cases hz : i.zero with
  | none=>rw [hz] at h1;simp at h1
  | some z =>
   rw [hz] at h1
   exact ⟨i,z,rfl,hz,h2,by simpa using h1,h3⟩
set_option maxHeartbeats 400000 in
theorem clone_Stacks2 {n : Nat} {xs : List Value} {v : Value} {w : World} (hl : Sl w 2 v n xs) (h1 : ∀ u ∈ xs,u.oneCell'=true) (hs : n≤1000000) : Calls Tryd.prog 48 #[v] w (RetSl 44 2 w n xs):=by
 obtain ⟨i,z,hi,hz,hi3,hz3,hby⟩:=Stacks.infoE
 obtain ⟨a,cp,rfl,hlc,hcm,hn⟩:=hl.slice_form
 cases a with
 | none =>
  have hcp:=hn rfl
  subst hcp
  obtain rfl : n=0:=by omega
  obtain rfl:=hl.zero
  have hnil : ∀ w,(binOp .eql 32 (.slice none 0 0) (.slice none 0 0)).run Tryd.prog w = .ok (.bool true) w:=fun w=>Lib.run_eql_slice_nil w 32 44 none 0 0 0 0 Tryd.underlying32
  go_enter Tryd.func48,Tryd.ntmps48
  go_wp2
  go_ret
  exact ⟨_,rfl,Own.nil _ _ _ _,Ext.refl _⟩
 | some ad =>
  have hE:=(Ext.refl w).alloc (.cells #[] 44)
  have hl':=hl.ext hE
  have hO:=Own.made' w w.heap.size 44 2 (Nat.le_refl _)
  have hz:=Lib.hid hz
  have hi3:=Lib.hid hi3
  have hz3:=Lib.hid hz3
  have hby:=Lib.hid hby
  have hi:=Lib.hid hi
  have hnil : ∀ w,(binOp .eql 32 (.slice (some ad) n cp) (.slice none 0 0)).run Tryd.prog w = .ok (.bool false) w:=fun w=>Lib.run_eql_slice_nil w 32 44 (some ad) n cp 0 0 Tryd.underlying32
  go_enter Tryd.func48,Tryd.ntmps48
  go_wp2_with (at_builtin;refine Hid.out ?_)
  refine Hid.mk ?_
  refine wpList_append_any rfl _ _ 32 32 rfl rfl rfl Tryd.underlying32 Tryd.underlying32 hi.out hz.out hi3.out hz3.out hO hl' h1 (by simp [maxLen];omega) (by rw [hby.out];omega) hE.size ?_
  intro v' w' hO' hK _ _
  go_wp2
  go_ret
  simp only [Nat.zero_add,List.nil_append] at hO'
  exact ⟨_,rfl,hO',(Below.trans (Below.alloc (Below.refl _ w) (Nat.le_refl _) _) hK.below : Below w.heap.size w w')⟩
set_option maxHeartbeats 400000 in
theorem clone_StackRows {n : Nat} {xs : List Value} {v : Value} {w : World} (hl : Sl w 1 v n xs) (h1 : ∀ u ∈ xs,u.oneCell'=true) (hs : n≤1000000) : Calls Tryd.prog 49 #[v] w (RetSl 57 1 w n xs):=by
 obtain ⟨i,z,hi,hz,hi3,hz3,hby⟩:=Stack.infoE
 obtain ⟨a,cp,rfl,hlc,hcm,hn⟩:=hl.slice_form
 cases a with
 | none =>
  have hcp:=hn rfl
  subst hcp
  obtain rfl : n=0:=by omega
  obtain rfl:=hl.zero
  have hnil : ∀ w,(binOp .eql 42 (.slice none 0 0) (.slice none 0 0)).run Tryd.prog w = .ok (.bool true) w:=fun w=>Lib.run_eql_slice_nil w 42 57 none 0 0 0 0 Tryd.underlying42
  go_enter Tryd.func49,Tryd.ntmps49
  go_wp2
  go_ret
  exact ⟨_,rfl,Own.nil _ _ _ _,Ext.refl _⟩
 | some ad =>
  have hE:=(Ext.refl w).alloc (.cells #[] 57)
  have hl':=hl.ext hE
  have hO:=Own.made' w w.heap.size 57 1 (Nat.le_refl _)
  have hz:=Lib.hid hz
  have hi3:=Lib.hid hi3
  have hz3:=Lib.hid hz3
  have hby:=Lib.hid hby
  have hi:=Lib.hid hi
  have hnil : ∀ w,(binOp .eql 42 (.slice (some ad) n cp) (.slice none 0 0)).run Tryd.prog w = .ok (.bool false) w:=fun w=>Lib.run_eql_slice_nil w 42 57 (some ad) n cp 0 0 Tryd.underlying42
  go_enter Tryd.func49,Tryd.ntmps49
  go_wp2_with (at_builtin;refine Hid.out ?_)
  refine Hid.mk ?_
  refine wpList_append_any rfl _ _ 42 42 rfl rfl rfl Tryd.underlying42 Tryd.underlying42 hi.out hz.out hi3.out hz3.out hO hl' h1 (by simp [maxLen];omega) (by rw [hby.out];omega) hE.size ?_
  intro v' w' hO' hK _ _
  go_wp2
  go_ret
  simp only [Nat.zero_add,List.nil_append] at hO'
  exact ⟨_,rfl,hO',(Below.trans (Below.alloc (Below.refl _ w) (Nat.le_refl _) _) hK.below : Below w.heap.size w w')⟩
end Go.Proofs.YtoanoodfacmieaaDoor

/- What a copy of a monitor is: each part in blocks of its own colour; the loop that copies the stacks of many allocations; no program in sight. -/
namespace Go.Proofs.YtoanoodfacmieaaDoor
set_option maxRecDepth 100000
open Go.RowKit
theorem ext_setCell_both {a b : World} (h : Ext a b) (p : Addr) (u : Value) : Ext (a.setCell p u) (b.setCell p u):=by
 refine ⟨h.os,h.tape,h.output,by simpa using h.size,fun x hx => ?_⟩
 have hx' : x < a.heap.size:=by simpa using hx
 by_cases e : x=p.block
 ·subst e
  show (b.heap.modify p.block _)[p.block]? = (a.heap.modify p.block _)[p.block]?
  have hb:=h.blk hx'
  have hxb : p.block < b.heap.size:=Nat.lt_of_lt_of_le hx' h.size
  rw [Array.getElem?_eq_getElem (by simpa using hxb),Array.getElem?_eq_getElem (by simpa using hx'),Array.getElem_modify_self,Array.getElem_modify_self]
  rw [Array.getElem?_eq_getElem hxb,Array.getElem?_eq_getElem hx'] at hb
  rw [Option.some.inj hb]
 ·rw [Below.heap_setCell _ _ _ _ e,Below.heap_setCell _ _ _ _ e]
  exact h.blk hx'
theorem OM.fsx {w : World} {B : Nat} {v : Value} {vs : List Value} {l : List Alloc} (h : OM w B v vs l) : Fq (fun b=>v.ownBlock=some b ∨ ∃ s ∈ vs,s.ownBlock=some b) w (fun w=>Als w v l):=fun w'' hb =>
 ⟨vs,All2.iff.2 ⟨(All2.iff.1 h.inner).1,fun i s a hs ha=>((All2.iff.1 h.inner).2 i s a hs ha).fs w'' fun b h1 h2=>hb b (.inr ⟨s,List.mem_of_getElem? hs,h1⟩) h2⟩,h.outer.fs w'' fun b h1 h2=>hb b (.inl h1) h2⟩
def CInvV {α : Type} (row : Value→α→List Value) (e k : Nat) (RO : World→Nat→Value→α→Prop) (w0 w1 wr : World) (v : Value) (vs0 : List Value) (l : List α) (n : Nat) : Prop :=
 (∃ g cap,v = .slice (some ⟨g,0,none⟩) l.length cap∧CInv row e k RO w0 w1 wr g cap vs0 l n)∨(l=[]∧wr=w1∧Own w1 w0.heap.size e k v 0 []∧Ext w0 w1)
section
variable {α : Type} {row : Value→α→List Value} {e k : Nat} {RO : World→Nat→Value→α→Prop} {w0 w1 wr : World} {v : Value} {vs0 : List Value} {l : List α} {n : Nat}
theorem CInvV.start (hv : vs0.length=l.length) (hO : Own w1 w0.heap.size e k v l.length (trows row vs0 l)) (hE : Ext w0 w1) : CInvV row e k RO w0 w1 w1 v vs0 l 0:=by
 by_cases h : l=[]
 ·subst h
  have hx : trows row vs0 ([] : List α)=[]:=by simp [trows]
  rw [hx] at hO
  exact .inr ⟨rfl,rfl,hO,hE⟩
 ·have hl : 0 < l.length:=List.length_pos_iff.2 h
  obtain ⟨g,cap,rfl,-⟩:=hO.form hl
  exact .inl ⟨g,cap,rfl,CInv.start hv hO hE⟩
theorem CInvV.keep (h : CInvV row e k RO w0 w1 wr v vs0 l n) : ExtBut (fun b=>v.ownBlock=some b) w1 wr:=by
 rcases h with ⟨g,cap,rfl,h⟩ | ⟨rfl,rfl,-⟩
 ·exact h.keep.mono fun x _ hx=>by rw [hx];rfl
 ·exact ExtBut.refl _ _
theorem CInvV.ext (h : CInvV row e k RO w0 w1 wr v vs0 l n) : Ext w0 wr:=by
 rcases h with ⟨g,cap,rfl,h⟩ | ⟨rfl,rfl,-,h⟩
 ·exact h.ext
 ·exact h
theorem CInvV.at (h : CInvV row e k RO w0 w1 wr v vs0 l n) (hn : n < l.length) : ∃ g cap,v = .slice (some ⟨g,0,none⟩) l.length cap∧CInv row e k RO w0 w1 wr g cap vs0 l n:=by
 rcases h with h | ⟨rfl,-⟩
 ·exact h
 ·simp at hn
theorem CInvV.finish (h : CInvV row e k RO w0 w1 wr v vs0 l l.length) : ∃ vs,OTb row e k RO wr w0.heap.size v vs l∧Ext w0 wr ∧ ∀ s ∈ vs,∀ b,s.ownBlock=some b→w1.heap.size≤b:=by
 rcases h with ⟨g,cap,rfl,h⟩ | ⟨rfl,rfl,h1,h2⟩
 ·exact h.finish
 ·exact ⟨[],⟨by simpa [trows] using h1,trivial,fun i j a b _ h=>by simp at h,fun s h=>by cases h⟩,h2,fun s h=>by cases h⟩
end
def RowC (w : World) (B : Nat) (c : Nat→Nat) (i : Nat) (s : Value) (x : Stk) : Prop :=
 Fq (fun b=>B≤b∧c b=i+3) w (fun w=>Sts w s x.cells)∧(∃ us,Own w B 57 1 s x.cells.length us) ∧ ∀ g,s.ownBlock=some g→c g=i+3
theorem RowC.to {w w' : World} {B B' : Nat} {c c' : Nat→Nat} {i : Nat} {s : Value} {x : Stk} {T : Nat→Prop} (h : RowC w B c i s x) (hE : ExtBut T w w') (hB : B'≤B) (hd : ∀ b,B≤b→b < w.heap.size→c b=i+3 → ¬ T b) (hc : ∀ b,B≤b→b < w.heap.size→c b=i+3→c' b=i+3) : RowC w' B' c' i s x:=by
 obtain ⟨h1,⟨us,h2⟩,h3⟩:=h
 refine ⟨h1.to hE (fun b hb hl=>hd b hb.1 hl hb.2) (fun b hb hl=>⟨Nat.le_trans hB hb.1,hc b hb.1 hl hb.2⟩),⟨us,(ExtBut.own h2 hE fun g e=>hd g (h2.lt e).1 (h2.lt e).2 (h3 g e)).mono hB⟩,fun g e=>hc g (h2.lt e).1 (h2.lt e).2 (h3 g e)⟩
structure Cloned (w : World) (B : Nat) (c : Nat→Nat) (sa ss sr : Value) (vs : List Value) (m : Mon) : Prop where
 al : Fq (fun b=>B≤b∧c b=1) w (fun w=>Als w sa m.mem.al)
 run : Fq (fun b=>B≤b∧c b=2) w (fun w=>Nts w sr m.run)
 len : vs.length=m.stks.length
 outer : Own w B 44 2 ss m.stks.length (trows krow vs m.stks)
 out0 : ∀ g,ss.ownBlock=some g→c g=0
 row : ∀ (i : Nat) (s : Value) (x : Stk),vs[i]? = some s→m.stks[i]? = some x→RowC w B c i s x
def RetCl (w : World) (m : Mon) (en : Ending) (w' : World) : Prop := ∃ c sa ss sr vs,en = .returned (.agg #[sa,.int .i64 m.mem.next,ss,sr,.int .i64 m.tag,.int .i64 m.call])∧Cloned w' w.heap.size c sa ss sr vs m∧Ext w w'
structure KInv (w0 w1 wr : World) (c0 : Nat→Nat) (v : Value) (vs0 : List Value) (l : List Stk) (n : Nat) : Prop where
 vs : ∃ (vs : List Value) (c : Nat→Nat),vs.length=l.length∧Own wr w0.heap.size 44 2 v l.length (trows krow vs l)∧(∀ (i : Nat) (s : Value) (x : Stk),i < n→vs[i]? = some s→l[i]? = some x→RowC wr w0.heap.size c i s x)∧(∀ i : Nat,n≤i→vs[i]? = vs0[i]?)∧(∀ b,b < w1.heap.size→c b=c0 b)
 out0 : ∀ g,v.ownBlock=some g→c0 g=0∧w0.heap.size≤g∧g < w1.heap.size
 ext0 : Ext w0 w1
 keep : ExtBut (fun b=>v.ownBlock=some b) w1 wr
section
variable {w0 w1 wr : World} {c0 : Nat→Nat} {v : Value} {vs0 : List Value} {l : List Stk} {n : Nat}
theorem KInv.ext (h : KInv w0 w1 wr c0 v vs0 l n) : Ext w0 wr:=h.keep.ext h.ext0 fun _ hx=>(h.out0 _ hx).2.1
theorem KInv.start (hv : vs0.length=l.length) (hO : Own w1 w0.heap.size 44 2 v l.length (trows krow vs0 l)) (hE : Ext w0 w1) (hc : ∀ g,v.ownBlock=some g→c0 g=0) : KInv w0 w1 w1 c0 v vs0 l 0 :=
 ⟨⟨vs0,c0,hv,hO,fun i _ _ h=>by omega,fun _ _=>rfl,fun _ _=>rfl⟩,fun g e=>⟨hc g e,hO.lt e⟩,hE,ExtBut.refl _ _⟩
theorem KInv.cell (h : KInv w0 w1 wr c0 v vs0 l n) {x : Stk} {s : Value} (hx : l[n]? = some x) (hs : vs0[n]? = some s) : ∃ g cap,v = .slice (some ⟨g,0,none⟩) l.length cap∧w0.heap.size≤g∧g < w1.heap.size∧wr.cell? ⟨g,n * 2+1,none⟩=some s ∧ ∀ j,wr.frozen? ⟨g,j,none⟩=false:=by
 obtain ⟨⟨vs,c,hl,hO,hin,hold,hc⟩,h0,hE,hk⟩:=h
 have hn:=(List.getElem?_eq_some_iff.1 hx).1
 obtain ⟨g,cap,rfl,-⟩:=hO.form (by omega)
 have hsn:=(hold n (Nat.le_refl _)).trans hs
 refine ⟨g,cap,rfl,(h0 g rfl).2.1,(h0 g rfl).2.2,?_,fun j=>hO.frozen j⟩
 exact (hO.cellAt (n * 2+1) (by omega)).trans ((trows_get krow krow_len hsn hx (by omega : 1 < 2)).trans rfl)
theorem KInv.step {g cap gs cap' : Nat} {us0 : List Value} {x : Stk} {wC w' : World} (h : KInv w0 w1 wr c0 (.slice (some ⟨g,0,none⟩) l.length cap) vs0 l n) (hx : l[n]? = some x) (hE : Ext wr wC) (hgs : wr.heap.size≤gs)
  (hI : CInv srow 57 1 OwnI (wr.setCell ⟨g,n * 2+1,none⟩ (.slice (some ⟨gs,0,none⟩) x.cells.length cap')) (wC.setCell ⟨g,n * 2+1,none⟩ (.slice (some ⟨gs,0,none⟩) x.cells.length cap')) w' gs cap' us0 x.cells x.cells.length) :
  KInv w0 w1 w' c0 (.slice (some ⟨g,0,none⟩) l.length cap) vs0 l (n+1):=by
 obtain ⟨⟨vs,c,hl,hO,hin,hold,hc⟩,h0,hE0,hk⟩:=h
 have hn:=(List.getElem?_eq_some_iff.1 hx).1
 obtain ⟨hg0,hg1,hg2⟩:=h0 g rfl
 have hk1:=hk.size
 obtain ⟨s,hs⟩ : ∃ s,vs[n]? = some s:=⟨vs[n]'(by omega),by simp⟩
 obtain ⟨us,hT,-,-⟩:=hI.finish
 have hkI:=hI.keep
 have hwr : (wr.setCell ⟨g,n * 2+1,none⟩ (.slice (some ⟨gs,0,none⟩) x.cells.length cap')).heap.size=wr.heap.size:=by simp
 rw [hwr] at hT
 have hO':=(hO.ext hE).set (n * 2+1) (.slice (some ⟨gs,0,none⟩) x.cells.length cap')
 rw [trows_set krow krow_len (s' := .slice (some ⟨gs,0,none⟩) x.cells.length cap') (a':=x) hs hx (by omega) (by simp [krow]),set_same hx] at hO'
 have hgn : g≠gs:=by omega
 have hX : ExtBut (fun b=>b=g) wr w':=((ExtBut.of_ext hE).trans (ExtBut.setCell wC ⟨g,n * 2+1,none⟩ (.slice (some ⟨gs,0,none⟩) x.cells.length cap'))).trans' hkI (fun y hy e=>by omega)
 have hsz:=hX.size
 refine ⟨⟨vs.set n (.slice (some ⟨gs,0,none⟩) x.cells.length cap'),fun b=>if b < wr.heap.size then c b else n+3,by simpa using hl,?_,?_,?_,?_⟩,h0,hE0,?_⟩
 ·exact ExtBut.own hO' hkI (fun b e e2=>by have e3 : some g=some b:=e;cases e3;exact hgn e2)
 ·intro i u y hi hu hy
  by_cases e : i=n
  ·subst e
   rw [List.getElem?_set_self (by omega)] at hu
   cases hu
   rw [hx] at hy
   cases hy
   have hfs : Fq (fun b=>wr.heap.size≤b) w' (fun w=>Sts w (.slice (some ⟨gs,0,none⟩) x.cells.length cap') x.cells):=OwnS.fs hT
   exact ⟨hfs.mono fun b hb _=>⟨by omega,if_neg (by omega)⟩,⟨_,Own.mono hT.outer (by omega)⟩,fun b e=>by have e3 : some gs=some b:=e;cases e3;exact if_neg (by omega)⟩
  ·rw [List.getElem?_set_ne (fun e'=>e e'.symm)] at hu
   refine (hin i u y (by omega) hu hy).to hX (Nat.le_refl _) (fun b _ _ e1 e2 => ?_) (fun b _ hb e1=>by rw [if_pos hb];exact e1)
   subst e2
   rw [hc _ hg2,hg0] at e1
   omega
 ·intro i hi
  rw [List.getElem?_set_ne (by omega)]
  exact hold i (by omega)
 ·intro b hb
  show (if b < wr.heap.size then c b else n+3)=c0 b
  rw [if_pos (by omega)]
  exact hc b hb
 ·exact hk.trans (hX.mono fun y _ e=>by rw [e];rfl)
theorem KInv.finish (h : KInv w0 w1 wr c0 v vs0 l l.length) : ∃ (vs : List Value) (c : Nat→Nat),vs.length=l.length∧Own wr w0.heap.size 44 2 v l.length (trows krow vs l)∧(∀ (i : Nat) (s : Value) (x : Stk),vs[i]? = some s→l[i]? = some x→RowC wr w0.heap.size c i s x)∧(∀ b,b < w1.heap.size→c b=c0 b):=by
 obtain ⟨⟨vs,c,hl,hO,hin,hold,hc⟩,-⟩:=h
 exact ⟨vs,c,hl,hO,fun i s x hs hx=>hin i s x (List.getElem?_eq_some_iff.1 hx).1 hs hx,hc⟩
end
end Go.Proofs.YtoanoodfacmieaaDoor

/- A region that draws its order, by what each operation leaves in its slot: no order is gone through. -/
namespace Go.Proofs.YtoanoodfacmieaaDoor
set_option maxRecDepth 100000
open Go
section
variable {P : Program} {ops : Array Oper} {Q : Exit→Act→World→Prop} {md : Region.Mode}
theorem filter_lt {α : Type} {p q : α→Bool} (h : ∀ x,q x=true→p x=true) : ∀ (l : List α) (x : α),x ∈ l→p x=true→q x=false→(l.filter q).length < (l.filter p).length
 | y :: l,x,hx,hp,hq=>by
  have hle : (l.filter q).length≤(l.filter p).length:=by
   clear hx
   induction l with
   | nil=>simp
   | cons z l ih =>
    simp only [List.filter_cons]
    cases hz : q z
    ·cases hz' : p z
     ·simpa using ih
     ·simp;omega
    ·rw [h z hz];simpa using ih
  rcases List.mem_cons.1 hx with rfl | hm
  ·simp only [List.filter_cons,hp,hq]
   simp;omega
  ·have ih:=filter_lt h l x hm hp hq
   simp only [List.filter_cons]
   cases hy : q y
   ·cases hy' : p y
    ·simpa using ih
    ·simp;omega
   ·rw [h y hy];simpa using ih
def unl (ops : Array Oper) (listed : Array Bool) : Nat:=((List.range ops.size).filter fun i => !listed.getD i true).length
theorem wpAny_inv {I : Array Bool→Act→World→Prop}
  (hs : ∀ listed a w i,I listed a w→i ∈ Region.ready md ops listed→wpOp P ops Q i (I (listed.setIfInBounds i true)) a w)
  (he : ∀ listed a w,I listed a w→Region.ready md ops listed=[]→Q .normal a w) :
  ∀ (fuel : Nat) (listed : Array Bool) (a : Act) (w : World),unl ops listed≤fuel→I listed a w→wpAny P md ops Q fuel listed a w
 | 0,listed,a,w,hu,hI=>by
  have h0 : Region.ready md ops listed=[]:=by
   apply List.eq_nil_iff_forall_not_mem.2
   intro i hi
   obtain ⟨h1,o,ho,-⟩:=mem_ready.1 hi
   have hm : i ∈ (List.range ops.size).filter fun i => !listed.getD i true:=List.mem_filter.2 ⟨List.mem_range.2 (Array.getElem?_eq_some_iff.1 ho).1,by rw [h1];rfl⟩
   have:=List.length_pos_of_mem hm
   unfold unl at hu
   omega
  exact ⟨h0,he _ _ _ hI h0⟩
 | fuel+1,listed,a,w,hu,hI=>by
  refine ⟨fun h0=>he _ _ _ hI h0,fun i hi=>wpOp_mono (fun a' w' hI'=>wpAny_inv hs he fuel _ a' w' ?_ hI') (hs _ _ _ _ hI hi)⟩
  obtain ⟨h1,o,ho,-⟩:=mem_ready.1 hi
  have hlt : i < ops.size:=(Array.getElem?_eq_some_iff.1 ho).1
  have hsz : i < listed.size:=by
   rcases Nat.lt_or_ge i listed.size with h | h
   ·exact h
   ·simp [Array.getElem?_eq_none h] at h1
  have:=filter_lt (p:=fun j => !listed.getD j true) (q:=fun j => !(listed.setIfInBounds i true).getD j true) (fun j hj=>by
   by_cases e : i=j
   ·subst e;simp [hsz] at hj
   ·rwa [getD_set_ne true e] at hj) (List.range ops.size) i (List.mem_range.2 hlt) (by rw [h1];rfl) (by simp [hsz])
  unfold unl at *
  omega
def dstOf (ops : Array Oper) (i : Nat) : Nat:=((ops[i]?).bind (·.dst)).getD 0
structure Pr where
 p : Value→World→Prop
 m : ∀ v w w',p v w→Ext w w'→p v w'
def Pr.eq (u : Value) : Pr:=⟨fun v _=>v=u,fun _ _ _ h _=>h⟩
def Pr.any : Pr:=⟨fun _ _=>True,fun _ _ _ h _=>h⟩
def prAt (L : List Pr) (i : Nat) (v : Value) (w : World) : Prop:=match L[i]? with
 | some q=>q.p v w
 | none=>True
theorem prAt_ext {L : List Pr} {i : Nat} {v : Value} {w w' : World} (h : prAt L i v w) (he : Ext w w') : prAt L i v w':=by
 unfold prAt at *
 cases hq : L[i]? with
 | none=>trivial
 | some q=>rw [hq] at h;exact q.m _ _ _ h he
def RI (ops : Array Oper) (L : List Pr) (a0 : Act) (w0 : World) (listed : Array Bool) (a : Act) (w : World) : Prop :=
 listed.size=ops.size∧a.defers=a0.defers∧a.tmps.size=a0.tmps.size∧(∀ t,(∀ o ∈ ops.toList,o.dst≠some t)→a.tmps[t]? = a0.tmps[t]?)∧(∀ i,listed.getD i false=true→prAt L i (a.eval (.tmp (dstOf ops i))) w)∧Ext w0 w
def AllSteps (T : Nat→Oper→Prop) : List Oper→Nat→Prop
 | [],_=>True
 | o :: l,i=>T i o∧AllSteps T l (i+1)
theorem AllSteps.get {T : Nat→Oper→Prop} : ∀ {l : List Oper} {k i : Nat} {o : Oper},AllSteps T l k→l[i]? = some o→T (k+i) o
 | [],k,i,o,_,h=>by simp at h
 | x :: l,k,0,o,h,ho=>by simp at ho;subst ho;exact h.1
 | x :: l,k,i+1,o,h,ho=>by
  have:=AllSteps.get (i:=i) h.2 (by simpa using ho)
  rwa [show k+1+i=k+(i+1) by omega] at this
theorem eval_tmp (a : Act) (t : Nat) : a.eval (.tmp t)=(a.tmps[t]?).getD undef:=by
 show a.tmps.getD t undef=_
 rw [Array.getD_eq_getD_getElem?]
def putAll (vals : Nat→Value) : List Oper→Nat→Act→Act
 | [],_,a=>a
 | o :: l,i,a=>putAll vals l (i+1) (a.put o.dst (vals i))
theorem put_size (a : Act) (d : Option Tmp) (v : Value) : (a.put d v).tmps.size=a.tmps.size:=by cases d <;> simp [Act.put]
theorem put_def (a : Act) (d : Option Tmp) (v : Value) : (a.put d v).defers=a.defers:=by cases d <;> rfl
theorem put_ne (a : Act) {d : Option Tmp} (v : Value) {t : Nat} (h : d≠some t) : (a.put d v).tmps[t]? = a.tmps[t]? := by
 cases d with
 | none=>rfl
 | some d=>simp only [Act.put];rw [Array.getElem?_setIfInBounds_ne (fun e=>h (by rw [e]))]
theorem put_eq (a : Act) {d : Nat} (v : Value) (h : d < a.tmps.size) : (a.put (some d) v).tmps[d]? = some v:=by
 simp [Act.put,h]
theorem putAll_def (vals : Nat→Value) : ∀ (l : List Oper) (k : Nat) (a : Act),(putAll vals l k a).defers=a.defers
 | [],_,_=>rfl
 | o :: l,k,a=>by rw [putAll,putAll_def vals l,put_def]
theorem putAll_ne (vals : Nat→Value) {t : Nat} : ∀ (l : List Oper) (k : Nat) (a : Act),(∀ o ∈ l,o.dst≠some t)→(putAll vals l k a).tmps[t]? = a.tmps[t]?
 | [],_,_,_=>rfl
 | o :: l,k,a,h=>by rw [putAll,putAll_ne vals l _ _ (fun x hx=>h x (List.mem_cons_of_mem _ hx)),put_ne _ _ (h o (List.mem_cons_self ..))]
theorem putAll_eq (vals : Nat→Value) {t : Nat} : ∀ (l : List Oper) (k : Nat) (a : Act) (i : Nat) (o : Oper),(l.map (·.dst)).Nodup→l[i]? = some o→o.dst=some t→t < a.tmps.size→(putAll vals l k a).tmps[t]? = some (vals (k+i))
 | [],_,_,_,_,_,h,_,_=>by simp at h
 | x :: l,k,a,0,o,hn,ho,hd,ht=>by
  simp at ho;subst ho
  rw [List.map_cons,List.nodup_cons] at hn
  rw [putAll,putAll_ne vals l _ _ (fun y hy e=>hn.1 (by rw [hd,← e];exact List.mem_map_of_mem hy)),hd,put_eq _ _ ht]
  rfl
 | x :: l,k,a,i+1,o,hn,ho,hd,ht=>by
  rw [List.map_cons,List.nodup_cons] at hn
  rw [putAll,putAll_eq vals l (k+1) _ i o hn.2 (by simpa using ho) hd (by rw [put_size];exact ht),show k+1+i=k+(i+1) by omega]
end
end Go.Proofs.YtoanoodfacmieaaDoor

/- A region that draws its order, by what each operation leaves in its slot, guards included. -/
namespace Go.Proofs.YtoanoodfacmieaaDoor
set_option maxRecDepth 100000
open Go
section
variable {P : Program} {ops : Array Oper} {Q : Exit→Act→World→Prop} {md : Region.Mode}
def regOG (md : Region.Mode) (ops : Array Oper) (n : Nat) : Bool :=
 (ops.toList.all fun o=>match o.dst with | some d=>decide (d < n) | none=>false) && decide ((ops.toList.map (·.dst)).Nodup)
 && ((List.range ops.size).all fun i=>((ops[i]?).map fun o=>o.after.all fun e => !Region.binds md e || decide (e.on < i)).getD true)
theorem wanted_by {o : Oper} {a : Act} {k : Nat} {b : Bool} (d : Nat) (hg : o.guard=some (k,b)) (hd : (ops[k]?).bind (·.dst)=some d) (hv : a.eval (.tmp d) = .bool b) : Region.wanted o (yielded ops a.tmps)=true:=by
 rw [eval_tmp] at hv
 have : a.tmps[d]? = some (.bool b):=by
  cases h : a.tmps[d]? with
  | none=>rw [h] at hv;cases hv
  | some v=>rw [h] at hv;exact congrArg some hv
 simp [Region.wanted,hg,yielded,hd,this]
def StepGo (P : Program) (md : Region.Mode) (ops : Array Oper) (Q : Exit→Act→World→Prop) (L : List Pr) (a0 : Act) (w0 : World) (i : Nat) (o : Oper) : Prop :=
 ∀ (a : Act) (w : World),Ext w0 w→(∀ j,(o.after.any fun e=>Region.binds md e && e.on == j)=true→prAt L j (a.eval (.tmp (dstOf ops j))) w) →
  (∀ t,ops.toList.all (fun o=>o.dst != some t)=true→a.eval (.tmp t)=a0.eval (.tmp t)) →
  (Region.wanted o (yielded ops a.tmps)=true ∧ ∀ K : Act→World→Prop,(∀ v w',prAt L i v w'→Ext w w'→K (a.put o.dst v) w')→o.wp P a w K Q)∨(Region.wanted o (yielded ops a.tmps)=false∧prAt L i undef w)
theorem wp_region_go {id : Nat} {a0 : Act} {w0 : World} (L : List Pr) (hm : P.follows .mixedOrders=true) (hok : regOG .any ops a0.tmps.size=true)
  (hs : AllSteps (StepGo P .any ops Q L a0 w0.drew) ops.toList 0)
  (he : ∀ (vals : Nat→Value) (w : World),Ext w0.drew w→(∀ i,i < ops.size→prAt L i (vals i) w)→Q .normal (putAll vals ops.toList 0 a0) w) :
  (Code.region id ops true).wp P Q a0 w0:=by
 unfold regOG at hok
 simp only [Bool.and_eq_true,decide_eq_true_eq] at hok
 obtain ⟨⟨h1,h2⟩,h3⟩:=hok
 have hdst : ∀ (i : Nat) (o : Oper),ops[i]? = some o → ∃ d,o.dst=some d∧d < a0.tmps.size:=by
  intro i o ho
  have hm' : o ∈ ops.toList:=by rw [Array.mem_toList_iff];exact Array.mem_of_getElem? ho
  have:=List.all_eq_true.1 h1 o hm'
  cases hd : o.dst with
  | none=>rw [hd] at this;simp at this
  | some d=>rw [hd] at this;exact ⟨d,rfl,by simpa using this⟩
 have hafter : ∀ (i : Nat) (o : Oper),ops[i]? = some o → ∀ e ∈ o.after,Region.binds .any e=true→e.on < i:=by
  intro i o ho e hea hb
  have hi:=(Array.getElem?_eq_some_iff.1 ho).1
  have:=List.all_eq_true.1 h3 i (List.mem_range.2 hi)
  rw [ho] at this
  simp only [Option.map_some,Option.getD_some,Array.all_eq_true_iff_forall_mem] at this
  have:=this e hea
  simpa [hb] using this
 have hinj : ∀ (i j : Nat) (o u : Oper),ops[i]? = some o→ops[j]? = some u→o.dst=u.dst→i=j:=by
  intro i j o u hi hj hd
  have hi' : (ops.toList.map (·.dst))[i]? = some o.dst:=by rw [List.getElem?_map,Array.getElem?_toList,hi];rfl
  have hj' : (ops.toList.map (·.dst))[j]? = some o.dst:=by rw [List.getElem?_map,Array.getElem?_toList,hj,hd];rfl
  exact (List.getElem?_inj (by rw [List.length_map,Array.length_toList];exact (Array.getElem?_eq_some_iff.1 hi).1) h2).1 (hi'.trans hj'.symm)
 refine wp_region_any hm (wpAny_inv (I:=RI ops L a0 w0.drew) ?_ ?_ _ _ _ _ (by unfold unl;refine Nat.le_trans (List.length_filter_le _ _) (by simp)) ?_)
 ·intro listed a w i ⟨r1,r2,r3,r4,r5,r6⟩ hi
  obtain ⟨g1,o,ho,g2⟩:=mem_ready.1 hi
  obtain ⟨d,hd,hdn⟩:=hdst i o ho
  have hst:=AllSteps.get (i:=i) hs (by rw [Array.getElem?_toList];exact ho)
  rw [Nat.zero_add] at hst
  have hput : ∀ v w',prAt L i v w'→Ext w w'→RI ops L a0 w0.drew (listed.setIfInBounds i true) (a.put o.dst v) w':=by
   intro v w' hv hE
   refine ⟨by simpa using r1,by rw [put_def];exact r2,by rw [put_size];exact r3,fun t ht => ?_,fun j hj => ?_,r6.trans hE⟩
   ·rw [put_ne _ _ (ht o (by rw [Array.mem_toList_iff];exact Array.mem_of_getElem? ho))]
    exact r4 t ht
   ·by_cases e : j=i
    ·subst e
     have : (a.put o.dst v).eval (.tmp (dstOf ops j))=v:=by
      unfold dstOf
      rw [ho,Option.bind_some,hd,Option.getD_some,eval_tmp,put_eq _ _ (by rw [r3];exact hdn)]
      rfl
     rw [this]
     exact hv
    ·rw [getD_set_ne false (fun e'=>e e'.symm)] at hj
     have h5:=prAt_ext (r5 j hj) hE
     have hjs : j < ops.size:=by
      rcases Nat.lt_or_ge j listed.size with h | h
      ·rw [← r1];exact h
      ·simp [Array.getElem?_eq_none h] at hj
     obtain ⟨u,hu⟩ : ∃ u,ops[j]? = some u:=⟨ops[j],by simp [hjs]⟩
     obtain ⟨d',hd',-⟩:=hdst j u hu
     have : (a.put o.dst v).eval (.tmp (dstOf ops j))=a.eval (.tmp (dstOf ops j)):=by
      unfold dstOf
      rw [hu,Option.bind_some,hd',Option.getD_some,eval_tmp,eval_tmp,put_ne _ _ (fun e'=>e (hinj j i u o hu ho (by rw [hd',e'])))]
     rw [this]
     exact h5
  have hdep : (Region.wanted o (yielded ops a.tmps)=true ∧ ∀ K : Act→World→Prop,(∀ v w',prAt L i v w'→Ext w w'→K (a.put o.dst v) w')→o.wp P a w K Q)∨(Region.wanted o (yielded ops a.tmps)=false∧prAt L i undef w):=by
   refine hst a w r6 (fun j hj => ?_) (fun t ht => ?_)
   ·obtain ⟨e,he1,he2⟩:=Array.any_eq_true'.1 hj
    simp only [Bool.and_eq_true,beq_iff_eq] at he2
    have:=g2 e he1 he2.1
    rw [he2.2] at this
    exact r5 j this
   ·have:=r4 t (fun o ho'=>by simpa using List.all_eq_true.1 ht o ho')
    rw [eval_tmp,eval_tmp,this]
  unfold wpOp
  simp only [ho]
  rcases hdep with ⟨hw,h⟩ | ⟨hw,h⟩
  ·rw [if_pos hw]
   exact .inl (h _ hput)
  ·rw [if_neg (by rw [hw];simp)]
   exact hput _ _ h (Ext.refl _)
 ·intro listed a w ⟨r1,r2,r3,r4,r5,r6⟩ hr
  have hall : ∀ n i,i < n→i < ops.size→listed.getD i false=true:=by
   intro n
   induction n with
   | zero=>intro i h;omega
   | succ n ih =>
    intro i hi his
    cases hli : listed.getD i true
    ·exfalso
     obtain ⟨o,ho⟩ : ∃ o,ops[i]? = some o:=⟨ops[i],by simp [his]⟩
     have : i ∈ Region.ready .any ops listed:=mem_ready.2 ⟨hli,o,ho,fun e he1 he2=>by
      have:=hafter i o ho e he1 he2
      exact ih _ (by omega) (by omega)⟩
     rw [hr] at this
     cases this
    ·have hsz : i < listed.size:=by rw [r1];exact his
     simpa [hsz] using hli
  have hv:=he (fun i=>a.eval (.tmp (dstOf ops i))) w r6 (fun i hi=>r5 i (hall _ i (Nat.lt_succ_self i) hi))
  have : putAll (fun i=>a.eval (.tmp (dstOf ops i))) ops.toList 0 a0=a:=by
   have e1 : (putAll (fun i=>a.eval (.tmp (dstOf ops i))) ops.toList 0 a0).tmps=a.tmps:=by
    apply Array.ext_getElem?
    intro t
    by_cases hx : ∃ o ∈ ops.toList,o.dst=some t
    ·obtain ⟨o,hom,hd⟩:=hx
     obtain ⟨i,hi⟩:=List.mem_iff_getElem?.1 hom
     have ho : ops[i]? = some o:=by rw [← Array.getElem?_toList];exact hi
     obtain ⟨d,hd',hdn⟩:=hdst i o ho
     rw [hd] at hd'
     cases hd'
     rw [putAll_eq _ ops.toList 0 a0 i o h2 hi hd hdn,Nat.zero_add]
     show some (a.eval (.tmp (dstOf ops i)))=_
     unfold dstOf
     rw [ho,Option.bind_some,hd,Option.getD_some,eval_tmp,Array.getElem?_eq_getElem (by rw [r3];exact hdn)]
     rfl
    ·have hx' : ∀ o ∈ ops.toList,o.dst≠some t:=fun o h1 h2=>hx ⟨o,h1,h2⟩
     rw [putAll_ne _ _ _ _ hx',r4 t hx']
   have e2:=putAll_def (fun i=>a.eval (.tmp (dstOf ops i))) ops.toList 0 a0
   rw [← r2] at e2
   cases a
   cases hp : putAll (fun i=>_) ops.toList 0 a0
   simp_all
  rw [this] at hv
  exact hv
 ·refine ⟨by simp,rfl,rfl,fun _ _=>rfl,fun i hi => ?_,Ext.refl _⟩
  by_cases h : i < ops.size <;> simp [h] at hi
end
end Go.Proofs.YtoanoodfacmieaaDoor
