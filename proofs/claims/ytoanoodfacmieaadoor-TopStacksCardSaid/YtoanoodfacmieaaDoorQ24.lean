/- Several texts in one: TopG, TopH. -/
import Derived.Test.YtoanoodfacmieaaDoorQ23
import Derived.Deep.DeepCutAuto
import Derived.Deep.CutBlock
import Derived.Test.YtoanoodfacmieaaDoorQ18
import Derived.Test.YtoanoodfacmieaaDoorQ09
/- TopStacks: the end of a round of its first loop. (printed by gen/top35c.py) -/
namespace Go.Proofs.YtoanoodfacmieaaDoor
set_option maxRecDepth 100000
open Go.ChangeShapes Go.WideShapes Go.ChangeAt Go.RowKit
set_option linter.unusedVariables false
def isTR (r : Nat) : Code→Bool
 | .region n _ _=>Nat.beq n r
 | _=>false
def headT (r : Nat) : Code→Bool
 | .seq a _=>isTR r a
 | _=>false
def cutT (p : Code→Bool) : Code→Option (Code × Code)
 | .seq a b=>match p a with
  | true=>some (a,b)
  | false=>match cutT p a with
   | some c=>some c
   | none=>cutT p b
 | .block _ c=>cutT p c
 | .loop c=>cutT p c
 | .scope c=>cutT p c
 | .cond _ a b=>match cutT p a with
  | some c=>some c
  | none=>cutT p b
 | _=>none
def TopEnd (wS : World) (BM BX BN BP lb : Nat) (l : List Cell) (k : Nat) (lv : Value) (wr : World) : Prop := ∃ (m : Mon) (a : A3) (U : List Item) (it : Item) (t last : Int) (xa : Option Addr) (xc : Nat),TopLoop wS BM BX BN BP lb l k lv wr m a U it t last xa xc
set_option maxRecDepth 1000000 in
set_option maxHeartbeats 12800000 in
theorem top_pick {wS w0 : World} {AM AX AN AP AR AQ AW lb kb ko klc : Nat} {l : List Cell} {kinds : List Int} {k : Nat} {m x : Mon} {x1 x2 x3 ya wa v_na v_nk v_nr : Option Addr} {y1 y2 y3 yc wc v_nac v_nkc v_nrc : Nat} {t0 kd : Int} {U : List Item} {it : Item}
  {x_0 x_2 x_3 x_4 x_5 x_6 x_7 x_8 x_9 x_10 x_13 x_14 x_15 x_17 x_19 x_23 x_24 x_26 x_27 x_28 x_29 x_30 x_31 x_32 x_33 x_34 x_35 x_36 x_37 x_38 x_39 x_40 x_41 x_42 x_43 x_44 x_45 x_46 x_47 x_48 x_49 x_50 x_51 x_52 x_53 x_54 x_55 x_56 x_57 x_58 x_59 x_60 x_61 x_62 x_63 x_64 x_65 x_66 x_67 x_68 x_69 x_70 x_71 x_72 x_73 x_74 x_75 x_76 x_77 x_78 x_79 x_80 x_81 x_82 x_83 x_84 x_85 x_86 x_87 x_88 x_89 x_90 x_91 x_92 x_93 x_94 x_95 x_96 x_97 x_98 x_99 x_100 x_101 x_102 x_103 x_104 x_105 x_106 x_107 x_108 x_109 x_110 x_111 x_112 x_113 x_114 x_115 x_116 x_117 x_118 x_119 x_120 x_121 x_122 x_123 x_124 x_125 x_126 x_127 x_128 x_129 x_130 x_131 x_132 x_133 x_134 x_135 x_136 x_137 x_138 x_139 x_140 x_141 x_142 x_143 x_144 x_145 x_146 x_147 x_148 x_149 x_150 x_151 x_152 x_153 x_154 x_155 x_156 x_157 x_158 x_159 x_160 x_161 x_162 x_163 x_164 x_165 x_166 x_167 x_168 x_169 x_170 x_171 x_172 x_173 x_174 x_175 x_176 x_177 x_178 x_179 x_180 x_181 x_182 x_183 x_184 x_185 x_186 x_187 x_188 x_189 x_190 x_191 x_192 x_193 x_194 x_195 x_196 x_197 x_198 x_199 x_200 x_201 x_202 x_203 x_204 x_205 x_206 x_207 x_208 x_209 x_210 x_211 x_212 x_213 x_214 x_215 x_216 x_217 x_218 x_219 x_220 x_221 x_222 x_223 x_224 x_225 x_226 x_227 x_228 x_229 x_230 x_231 x_232 x_233 x_234 x_235 x_236 x_237 x_238 x_239 : Value} {J K K1 K2 : Act→World→Prop} {Q : Exit→Act→World→Prop}
  (hK : ∀ a w,Code.wp Tryd.prog ((Tryd.f3.body.bind (cutT (isTR 19))).getD (.skip,.skip)).2 (Exit.then K2 (Exit.inBlock 1 (Exit.then K1 Q))) a w→K a w)
  (hK2 : ∀ a w,Code.wp Tryd.prog ((Tryd.f3.body.bind (cutT (headT 19))).getD (.skip,.skip)).2 (Exit.inBlock 1 (Exit.then K1 Q)) a w→K2 a w)
  (hK1 : ∀ a w,Met J a w→K1 a w)
  (hJ : ∀ {lv u8 u21 u22 u23 u24 u25 u26 u27 u104 u105 u106 u107 u108 u109 u110 u111 u112 u113 u114 u115 u116 u117 u118 u119 u120 u121 u122 u123 u124 u125 u126 u127 u128 u129 u130 u131 u132 u133 u134 u135 u136 u137 u138 u139 u140 u141 u142 u143 u144 u145 u146 u147 u148 u149 u150 u151 u152 u153 u154 u155 u156 u157 u158 u159 u160 u161 u162 u163 u164 u165 u166 u167 u168 u169 u170 u171 u172 u173 u174 u175 u176 u177 u178 u179 : Value} {wx : World},TopEnd wS AM AX AN AP lb l (k+1) lv wx→J ⟨#[x_0,.slice (some ⟨kb,ko,none⟩) kinds.length klc,x_2,x_3,x_4,x_5,x_6,x_7,u8,x_9,x_10,.pointer (some ⟨AM,0,none⟩),.pointer (some ⟨AP,0,none⟩),x_13,x_14,x_15,.pointer (some ⟨AX,0,none⟩),x_17,.pointer (some ⟨AN,0,none⟩),lv,.int .i64 (k : Int),u21,u22,u23,u24,u25,u26,u27,x_28,x_29,x_30,x_31,x_32,x_33,x_34,x_35,x_36,x_37,x_38,x_39,x_40,x_41,x_42,x_43,x_44,x_45,x_46,x_47,x_48,x_49,x_50,x_51,x_52,x_53,x_54,x_55,x_56,x_57,x_58,x_59,x_60,x_61,x_62,x_63,x_64,x_65,x_66,x_67,x_68,x_69,x_70,x_71,x_72,x_73,x_74,x_75,x_76,x_77,x_78,x_79,x_80,x_81,x_82,x_83,x_84,x_85,x_86,x_87,x_88,x_89,x_90,x_91,x_92,x_93,x_94,x_95,x_96,x_97,x_98,x_99,x_100,x_101,x_102,x_103,u104,u105,u106,u107,u108,u109,u110,u111,u112,u113,u114,u115,u116,u117,u118,u119,u120,u121,u122,u123,u124,u125,u126,u127,u128,u129,u130,u131,u132,u133,u134,u135,u136,u137,u138,u139,u140,u141,u142,u143,u144,u145,u146,u147,u148,u149,u150,u151,u152,u153,u154,u155,u156,u157,u158,u159,u160,u161,u162,u163,u164,u165,u166,u167,u168,u169,u170,u171,u172,u173,u174,u175,u176,u177,u178,u179,x_180,x_181,x_182,x_183,x_184,x_185,x_186,x_187,x_188,x_189,x_190,x_191,x_192,x_193,x_194,x_195,x_196,x_197,x_198,x_199,x_200,x_201,x_202,x_203,x_204,x_205,x_206,x_207,x_208,x_209,x_210,x_211,x_212,x_213,x_214,x_215,x_216,x_217,x_218,x_219,x_220,x_221,x_222,x_223,x_224,x_225,x_226,x_227,x_228,x_229,x_230,x_231,x_232,x_233,x_234,x_235,x_236,x_237,x_238,x_239],[]⟩ wx)
  (hF0 : Ext wS w0)
  (ne_bM_bX : Hid (AM≠AX))
  (ne_bM_bN : Hid (AM≠AN))
  (ne_bM_bP : Hid (AM≠AP))
  (ne_bM_bR : Hid (AM≠AR))
  (ne_bM_bQ : Hid (AM≠AQ))
  (ne_bM_bW : Hid (AM≠AW))
  (ne_bX_bM : Hid (AX≠AM))
  (ne_bX_bN : Hid (AX≠AN))
  (ne_bX_bP : Hid (AX≠AP))
  (ne_bX_bR : Hid (AX≠AR))
  (ne_bX_bQ : Hid (AX≠AQ))
  (ne_bX_bW : Hid (AX≠AW))
  (ne_bN_bM : Hid (AN≠AM))
  (ne_bN_bX : Hid (AN≠AX))
  (ne_bN_bP : Hid (AN≠AP))
  (ne_bN_bR : Hid (AN≠AR))
  (ne_bN_bQ : Hid (AN≠AQ))
  (ne_bN_bW : Hid (AN≠AW))
  (lowbM : Hid (wS.heap.size≤AM))
  (lowbX : Hid (wS.heap.size≤AX))
  (lowbN : Hid (wS.heap.size≤AN))
  (bM : Box w0 AM 35 #[.slice x1 m.mem.al.length y1,.int .i64 m.mem.next,.slice x2 m.stks.length y2,.slice x3 m.run.length y3,.int .i64 m.tag,.int .i64 m.call])
  (bX : Box w0 AX 44 #[.int .i64 0,.slice ya l.length yc])
  (bN : Box w0 AN 26 #[.int .i64 0,.int .i64 0,.int .i64 t0])
  (bP : Box w0 AP 26 #[.int .i64 0,.int .i64 0,.int .i64 1])
  (bR : Box w0 AR 35 #[.slice v_na x.mem.al.length v_nac,.int .i64 x.mem.next,.slice v_nk x.stks.length v_nkc,.slice v_nr x.run.length v_nrc,.int .i64 x.tag,.int .i64 x.call])
  (bQ : Box w0 AQ 26 #[.int .i64 0,.int .i64 0,.int .i64 m.tag])
  (bW : Box w0 AW 44 #[.int .i64 0,.slice wa l.length wc])
  (GL : Hid (Fq (fun b=>b≠AM∧b≠AX∧b≠AN∧True) w0 (fun w=>Cls w (.slice (some ⟨lb,0,none⟩) l.length 2) l)))
  (Gn : Hid (Fq (fun b=>b≠AM∧b≠AX∧b≠AN∧True) w0 (RdA x ⟨v_na,v_nac,v_nk,v_nkc,v_nr,v_nrc⟩)))
  (Gy : Hid (Fq (fun b=>b≠AM∧b≠AX∧b≠AN∧True) w0 (fun w=>Sts w (.slice wa l.length wc) (List.replicate l.length (U ++ [it])))))
  (hx8 : x.stks=[⟨0,(List.replicate l.length (U ++ [it]))⟩])
  (hx9 : oneM l (U ++ [it]) [] (m.tag+1) 1=x)
  (hit : it.t=m.tag)
  (hin : TopInv (k+1) U it (m.tag+1) kd)
  (hkd : Uts wS (.slice (some ⟨kb,ko,none⟩) kinds.length klc) kinds)
  (hkx : kinds[k]? = some kd) :
  Code.wp Tryd.prog ((Tryd.f3.body.bind (cutT (isTR 19))).getD (.skip,.skip)).1 (Exit.then K (Exit.then K2 (Exit.inBlock 1 (Exit.then K1 Q)))) ⟨#[x_0,.slice (some ⟨kb,ko,none⟩) kinds.length klc,x_2,x_3,x_4,x_5,x_6,x_7,x_8,x_9,x_10,.pointer (some ⟨AM,0,none⟩),.pointer (some ⟨AP,0,none⟩),x_13,x_14,x_15,.pointer (some ⟨AX,0,none⟩),x_17,.pointer (some ⟨AN,0,none⟩),x_19,.int .i64 (k : Int),.pointer (some ⟨AR,0,none⟩),.pointer (some ⟨AQ,0,none⟩),x_23,x_24,.pointer (some ⟨AW,0,none⟩),x_26,x_27,x_28,x_29,x_30,x_31,x_32,x_33,x_34,x_35,x_36,x_37,x_38,x_39,x_40,x_41,x_42,x_43,x_44,x_45,x_46,x_47,x_48,x_49,x_50,x_51,x_52,x_53,x_54,x_55,x_56,x_57,x_58,x_59,x_60,x_61,x_62,x_63,x_64,x_65,x_66,x_67,x_68,x_69,x_70,x_71,x_72,x_73,x_74,x_75,x_76,x_77,x_78,x_79,x_80,x_81,x_82,x_83,x_84,x_85,x_86,x_87,x_88,x_89,x_90,x_91,x_92,x_93,x_94,x_95,x_96,x_97,x_98,x_99,x_100,x_101,x_102,x_103,x_104,x_105,x_106,x_107,x_108,x_109,x_110,x_111,x_112,x_113,x_114,x_115,x_116,x_117,x_118,x_119,x_120,x_121,x_122,x_123,x_124,x_125,x_126,x_127,x_128,x_129,x_130,x_131,x_132,x_133,x_134,x_135,x_136,x_137,x_138,x_139,x_140,x_141,x_142,x_143,x_144,x_145,x_146,x_147,x_148,x_149,x_150,x_151,x_152,x_153,x_154,x_155,x_156,x_157,x_158,x_159,x_160,x_161,x_162,x_163,x_164,x_165,x_166,x_167,x_168,x_169,x_170,x_171,x_172,x_173,x_174,x_175,x_176,x_177,x_178,x_179,x_180,x_181,x_182,x_183,x_184,x_185,x_186,x_187,x_188,x_189,x_190,x_191,x_192,x_193,x_194,x_195,x_196,x_197,x_198,x_199,x_200,x_201,x_202,x_203,x_204,x_205,x_206,x_207,x_208,x_209,x_210,x_211,x_212,x_213,x_214,x_215,x_216,x_217,x_218,x_219,x_220,x_221,x_222,x_223,x_224,x_225,x_226,x_227,x_228,x_229,x_230,x_231,x_232,x_233,x_234,x_235,x_236,x_237,x_238,x_239],[]⟩ w0:=by
 conv=>arg 2;whnf
 conv at hK=>intro a w;arg 1;arg 2;whnf
 conv at hK2=>intro a w;arg 1;arg 2;whnf
 replace hx8:=Lib.hid hx8;replace hx9:=Lib.hid hx9;replace hit:=Lib.hid hit;replace hin:=Lib.hid hin;replace hkd:=Lib.hid hkd;replace hkx:=Lib.hid hkx
 obtain ⟨sb,so,sv,hvk,hsb,hk0,hk1,hSt⟩:=Kts.cell Gn.out.read.2.1 (i:=0) (x:=⟨0,(List.replicate l.length (U ++ [it]))⟩) (by rw [hx8.out];rfl)
 try dsimp only at hvk
 subst hvk
 have hl1 : x.stks.length=1:=by rw [hx8.out];rfl
 rw [hl1] at bR
 have s0 : World.cell? w0 ⟨sb,so,none⟩=some (.int .i64 0):=by simpa using hk0
 have s1 : World.cell? w0 ⟨sb,so+1,none⟩=some sv:=by simpa using hk1
 clear hk0 hk1 hl1
 replace hSt:=Lib.hid hSt;have ry:=Lib.hid Gy.out.read
 have dbR_2 : World.cell? w0 ⟨AR,2,none⟩=some (.slice (some ⟨sb,so,none⟩) 1 v_nkc):=bR.cell 2
 have dbW_0 : World.cell? w0 ⟨AW,0,none⟩=some (.int .i64 0):=bW.cell 0
 have dbW_1 : World.cell? w0 ⟨AW,1,none⟩=some (.slice wa l.length wc):=bW.cell 1
 have dbQ_2 : World.cell? w0 ⟨AQ,2,none⟩=some (.int .i64 m.tag):=bQ.cell 2
 have dbM_4 : World.cell? w0 ⟨AM,4,none⟩=some (.int .i64 m.tag):=bM.cell 4
 refine wp_region_go (L:=[Pr.eq (.pointer (some ⟨AR,2,none⟩)),Pr.eq (.slice (some ⟨sb,so,none⟩) 1 v_nkc),Pr.eq (.int .i64 1),Pr.eq (.bool false),Pr.eq (.bool false),Pr.eq (.pointer (some ⟨AR,2,none⟩)),Pr.eq (.slice (some ⟨sb,so,none⟩) 1 v_nkc),Pr.eq (.pointer (some ⟨sb,so,none⟩)),Pr.eq (.agg #[.int .i64 0,sv]),Pr.eq (.agg #[.int .i64 0,.slice wa l.length wc]),Pr.eq (.bool true),Pr.eq (.bool false),Pr.eq (.bool false),Pr.eq (.bool false),Pr.eq (.pointer (some ⟨AQ,2,none⟩)),Pr.eq (.int .i64 m.tag),Pr.eq (.pointer (some ⟨AM,4,none⟩)),Pr.eq (.int .i64 m.tag),Pr.eq (.bool false),Pr.eq (.bool false)]) (by kernel_rfl) (by kernel_rfl) ?_ ?_
 ·refine ⟨?_,?_,?_,?_,?_,?_,?_,?_,?_,?_,?_,?_,?_,?_,?_,?_,?_,?_,?_,?_,trivial⟩
  ·intro a w hE hd ho
   refine .inl ⟨rfl,?_⟩
   intro K hK
   have hF : Ext w0 w:=Ext.trans ((Ext.refl _).drew) hE
   have e21 : a.eval (.tmp 21) = .pointer (some ⟨AR,0,none⟩):=ho 21 (by kernel_rfl)
   rw [eval_tmp] at e21
   clear s0 s1 dbR_2 dbW_0 dbW_1 dbQ_2 dbM_4
   clear hd ho
   replace hK:=Lib.hid hK
   go_simp
   exact hK.out _ _ rfl (Ext.refl _)
  ·intro a w hE hd ho
   refine .inl ⟨rfl,?_⟩
   intro K hK
   have hF : Ext w0 w:=Ext.trans ((Ext.refl _).drew) hE
   have e153 : a.eval (.tmp 153) = .pointer (some ⟨AR,2,none⟩):=hd 0 (by kernel_rfl)
   rw [eval_tmp] at e153
   have dbR_2w:=Ext.cell hF dbR_2
   clear s0 s1 dbR_2 dbW_0 dbW_1 dbQ_2 dbM_4
   clear hd ho
   replace hK:=Lib.hid hK
   go_simp
   exact hK.out _ _ rfl (Ext.refl _)
  ·intro a w hE hd ho
   refine .inl ⟨rfl,?_⟩
   intro K hK
   have hF : Ext w0 w:=Ext.trans ((Ext.refl _).drew) hE
   have e154 : a.eval (.tmp 154) = .slice (some ⟨sb,so,none⟩) 1 v_nkc:=hd 1 (by kernel_rfl)
   rw [eval_tmp] at e154
   clear s0 s1 dbR_2 dbW_0 dbW_1 dbQ_2 dbM_4
   clear hd ho
   replace hK:=Lib.hid hK
   go_simp
   exact hK.out _ _ rfl (Ext.refl _)
  ·intro a w hE hd ho
   refine .inl ⟨rfl,?_⟩
   intro K hK
   have hF : Ext w0 w:=Ext.trans ((Ext.refl _).drew) hE
   have e155 : a.eval (.tmp 155) = .int .i64 1:=hd 2 (by kernel_rfl)
   rw [eval_tmp] at e155
   clear s0 s1 dbR_2 dbW_0 dbW_1 dbQ_2 dbM_4
   clear hd ho
   replace hK:=Lib.hid hK
   go_simp
   exact hK.out _ _ rfl (Ext.refl _)
  ·intro a w hE hd ho
   refine .inl ⟨rfl,?_⟩
   intro K hK
   have hF : Ext w0 w:=Ext.trans ((Ext.refl _).drew) hE
   have e156 : a.eval (.tmp 156) = .bool false:=hd 3 (by kernel_rfl)
   rw [eval_tmp] at e156
   clear s0 s1 dbR_2 dbW_0 dbW_1 dbQ_2 dbM_4
   clear hd ho
   replace hK:=Lib.hid hK
   go_simp
   exact hK.out _ _ rfl (Ext.refl _)
  ·intro a w hE hd ho
   refine .inl ⟨wanted_by 157 rfl rfl (hd 4 (by kernel_rfl)),?_⟩
   intro K hK
   have hF : Ext w0 w:=Ext.trans ((Ext.refl _).drew) hE
   have e21 : a.eval (.tmp 21) = .pointer (some ⟨AR,0,none⟩):=ho 21 (by kernel_rfl)
   rw [eval_tmp] at e21
   clear s0 s1 dbR_2 dbW_0 dbW_1 dbQ_2 dbM_4
   clear hd ho
   replace hK:=Lib.hid hK
   go_simp
   exact hK.out _ _ rfl (Ext.refl _)
  ·intro a w hE hd ho
   refine .inl ⟨wanted_by 157 rfl rfl (hd 4 (by kernel_rfl)),?_⟩
   intro K hK
   have hF : Ext w0 w:=Ext.trans ((Ext.refl _).drew) hE
   have e158 : a.eval (.tmp 158) = .pointer (some ⟨AR,2,none⟩):=hd 5 (by kernel_rfl)
   rw [eval_tmp] at e158
   have dbR_2w:=Ext.cell hF dbR_2
   clear s0 s1 dbR_2 dbW_0 dbW_1 dbQ_2 dbM_4
   clear hd ho
   replace hK:=Lib.hid hK
   go_simp
   exact hK.out _ _ rfl (Ext.refl _)
  ·intro a w hE hd ho
   refine .inl ⟨wanted_by 157 rfl rfl (hd 4 (by kernel_rfl)),?_⟩
   intro K hK
   have hF : Ext w0 w:=Ext.trans ((Ext.refl _).drew) hE
   have e159 : a.eval (.tmp 159) = .slice (some ⟨sb,so,none⟩) 1 v_nkc:=hd 6 (by kernel_rfl)
   rw [eval_tmp] at e159
   clear s0 s1 dbR_2 dbW_0 dbW_1 dbQ_2 dbM_4
   clear hd ho
   replace hK:=Lib.hid hK
   go_simp
   exact hK.out _ _ rfl (Ext.refl _)
  ·intro a w hE hd ho
   refine .inl ⟨wanted_by 157 rfl rfl (hd 4 (by kernel_rfl)),?_⟩
   intro K hK
   have hF : Ext w0 w:=Ext.trans ((Ext.refl _).drew) hE
   have e160 : a.eval (.tmp 160) = .pointer (some ⟨sb,so,none⟩):=hd 7 (by kernel_rfl)
   rw [eval_tmp] at e160
   have s0w:=Ext.cell hF s0
   have s1w:=Ext.cell hF s1
   clear s0 s1 dbR_2 dbW_0 dbW_1 dbQ_2 dbM_4
   clear hd ho
   replace hK:=Lib.hid hK
   go_simp
   exact hK.out _ _ rfl (Ext.refl _)
  ·intro a w hE hd ho
   refine .inl ⟨wanted_by 157 rfl rfl (hd 4 (by kernel_rfl)),?_⟩
   intro K hK
   have hF : Ext w0 w:=Ext.trans ((Ext.refl _).drew) hE
   have e25 : a.eval (.tmp 25) = .pointer (some ⟨AW,0,none⟩):=ho 25 (by kernel_rfl)
   rw [eval_tmp] at e25
   have dbW_0w:=Ext.cell hF dbW_0
   have dbW_1w:=Ext.cell hF dbW_1
   clear s0 s1 dbR_2 dbW_0 dbW_1 dbQ_2 dbM_4
   clear hd ho
   replace hK:=Lib.hid hK
   go_simp
   exact hK.out _ _ rfl (Ext.refl _)
  ·intro a w hE hd ho
   refine .inl ⟨wanted_by 157 rfl rfl (hd 4 (by kernel_rfl)),?_⟩
   intro K hK
   have hF : Ext w0 w:=Ext.trans ((Ext.refl _).drew) hE
   have e161 : a.eval (.tmp 161) = .agg #[.int .i64 0,sv]:=hd 8 (by kernel_rfl)
   rw [eval_tmp] at e161
   have e162 : a.eval (.tmp 162) = .agg #[.int .i64 0,.slice wa l.length wc]:=hd 9 (by kernel_rfl)
   rw [eval_tmp] at e162
   clear s0 s1 dbR_2 dbW_0 dbW_1 dbQ_2 dbM_4
   clear hd ho
   replace hK:=Lib.hid hK
   go_simp
   refine (ref33_Same (num:=0) (l:=(List.replicate l.length (U ++ [it]))) (hSt.out.ext hF) (ry.out.ext hF)).mono ?_
   rintro e wz ⟨rfl,hZ⟩
   dsimp only
   go_simp
   exact hK.out _ _ rfl hZ
  ·intro a w hE hd ho
   refine .inl ⟨wanted_by 157 rfl rfl (hd 4 (by kernel_rfl)),?_⟩
   intro K hK
   have hF : Ext w0 w:=Ext.trans ((Ext.refl _).drew) hE
   have e163 : a.eval (.tmp 163) = .bool true:=hd 10 (by kernel_rfl)
   rw [eval_tmp] at e163
   clear s0 s1 dbR_2 dbW_0 dbW_1 dbQ_2 dbM_4
   clear hd ho
   replace hK:=Lib.hid hK
   go_simp
   exact hK.out _ _ rfl (Ext.refl _)
  ·intro a w hE hd ho
   refine .inl ⟨rfl,?_⟩
   intro K hK
   have hF : Ext w0 w:=Ext.trans ((Ext.refl _).drew) hE
   have e157 : a.eval (.tmp 157) = .bool false:=hd 4 (by kernel_rfl)
   rw [eval_tmp] at e157
   have e164 : a.eval (.tmp 164) = .bool false:=hd 11 (by kernel_rfl)
   rw [eval_tmp] at e164
   clear s0 s1 dbR_2 dbW_0 dbW_1 dbQ_2 dbM_4
   clear hd ho
   replace hK:=Lib.hid hK
   go_simp
   exact hK.out _ _ rfl (Ext.refl _)
  ·intro a w hE hd ho
   refine .inl ⟨rfl,?_⟩
   intro K hK
   have hF : Ext w0 w:=Ext.trans ((Ext.refl _).drew) hE
   have e165 : a.eval (.tmp 165) = .bool false:=hd 12 (by kernel_rfl)
   rw [eval_tmp] at e165
   clear s0 s1 dbR_2 dbW_0 dbW_1 dbQ_2 dbM_4
   clear hd ho
   replace hK:=Lib.hid hK
   go_simp
   exact hK.out _ _ rfl (Ext.refl _)
  ·intro a w hE hd ho
   refine .inl ⟨wanted_by 166 rfl rfl (hd 13 (by kernel_rfl)),?_⟩
   intro K hK
   have hF : Ext w0 w:=Ext.trans ((Ext.refl _).drew) hE
   have e22 : a.eval (.tmp 22) = .pointer (some ⟨AQ,0,none⟩):=ho 22 (by kernel_rfl)
   rw [eval_tmp] at e22
   clear s0 s1 dbR_2 dbW_0 dbW_1 dbQ_2 dbM_4
   clear hd ho
   replace hK:=Lib.hid hK
   go_simp
   exact hK.out _ _ rfl (Ext.refl _)
  ·intro a w hE hd ho
   refine .inl ⟨wanted_by 166 rfl rfl (hd 13 (by kernel_rfl)),?_⟩
   intro K hK
   have hF : Ext w0 w:=Ext.trans ((Ext.refl _).drew) hE
   have e167 : a.eval (.tmp 167) = .pointer (some ⟨AQ,2,none⟩):=hd 14 (by kernel_rfl)
   rw [eval_tmp] at e167
   have dbQ_2w:=Ext.cell hF dbQ_2
   clear s0 s1 dbR_2 dbW_0 dbW_1 dbQ_2 dbM_4
   clear hd ho
   replace hK:=Lib.hid hK
   go_simp
   exact hK.out _ _ rfl (Ext.refl _)
  ·intro a w hE hd ho
   refine .inl ⟨wanted_by 166 rfl rfl (hd 13 (by kernel_rfl)),?_⟩
   intro K hK
   have hF : Ext w0 w:=Ext.trans ((Ext.refl _).drew) hE
   have e11 : a.eval (.tmp 11) = .pointer (some ⟨AM,0,none⟩):=ho 11 (by kernel_rfl)
   rw [eval_tmp] at e11
   clear s0 s1 dbR_2 dbW_0 dbW_1 dbQ_2 dbM_4
   clear hd ho
   replace hK:=Lib.hid hK
   go_simp
   exact hK.out _ _ rfl (Ext.refl _)
  ·intro a w hE hd ho
   refine .inl ⟨wanted_by 166 rfl rfl (hd 13 (by kernel_rfl)),?_⟩
   intro K hK
   have hF : Ext w0 w:=Ext.trans ((Ext.refl _).drew) hE
   have e169 : a.eval (.tmp 169) = .pointer (some ⟨AM,4,none⟩):=hd 16 (by kernel_rfl)
   rw [eval_tmp] at e169
   have dbM_4w:=Ext.cell hF dbM_4
   clear s0 s1 dbR_2 dbW_0 dbW_1 dbQ_2 dbM_4
   clear hd ho
   replace hK:=Lib.hid hK
   go_simp
   exact hK.out _ _ rfl (Ext.refl _)
  ·intro a w hE hd ho
   refine .inl ⟨wanted_by 166 rfl rfl (hd 13 (by kernel_rfl)),?_⟩
   intro K hK
   have hF : Ext w0 w:=Ext.trans ((Ext.refl _).drew) hE
   have e168 : a.eval (.tmp 168) = .int .i64 m.tag:=hd 15 (by kernel_rfl)
   rw [eval_tmp] at e168
   have e170 : a.eval (.tmp 170) = .int .i64 m.tag:=hd 17 (by kernel_rfl)
   rw [eval_tmp] at e170
   clear s0 s1 dbR_2 dbW_0 dbW_1 dbQ_2 dbM_4
   clear hd ho
   replace hK:=Lib.hid hK
   go_simp
   exact hK.out _ _ rfl (Ext.refl _)
  ·intro a w hE hd ho
   refine .inl ⟨rfl,?_⟩
   intro K hK
   have hF : Ext w0 w:=Ext.trans ((Ext.refl _).drew) hE
   have e166 : a.eval (.tmp 166) = .bool false:=hd 13 (by kernel_rfl)
   rw [eval_tmp] at e166
   have e171 : a.eval (.tmp 171) = .bool false:=hd 18 (by kernel_rfl)
   rw [eval_tmp] at e171
   clear s0 s1 dbR_2 dbW_0 dbW_1 dbQ_2 dbM_4
   clear hd ho
   replace hK:=Lib.hid hK
   go_simp
   exact hK.out _ _ rfl (Ext.refl _)
 ·intro vals wq hE hv
  have hF : Ext w0 wq:=Ext.trans ((Ext.refl _).drew) hE
  have e9 : vals 19 = .bool false:=hv 19 (by decide)
  clear hv hE s0 s1 dbR_2 dbW_0 dbW_1 dbQ_2 dbM_4
  simp only [putAll]
  go_simp
  try rw [e9]
  clear e9
  obtain ⟨wd,hwd⟩ : ∃ z,wq=z:=⟨_,rfl⟩
  rw [hwd] at hF ⊢
  clear hwd hSt ry
  replace bM:=bM.ext hF
  replace bX:=bX.ext hF
  replace bN:=bN.ext hF
  replace bP:=bP.ext hF
  replace bR:=bR.ext hF
  replace bQ:=bQ.ext hF
  replace bW:=bW.ext hF
  replace GL:=Lib.hid (Fq.ext GL.out hF)
  replace Gn:=Lib.hid (Fq.ext Gn.out hF)
  replace Gy:=Lib.hid (Fq.ext Gy.out hF)
  have hF1:=Ext.trans hF0 hF
  go_upto_region 21 with fail
  have hlk : k < kinds.length:=(List.getElem?_eq_some_iff.1 hkx.out).1
  obtain ⟨kb9,ko9,e9,hkb9,c0⟩:=Uts.cell (hkd.out.ext hF1) hkx.out
  simp only [Option.some.injEq,Addr.mk.injEq,and_true] at e9
  obtain ⟨rfl,rfl⟩:=e9
  have hkS : kb < wS.heap.size:=by
   obtain ⟨b8,o8,e8,h8,-⟩:=Uts.cell hkd.out hkx.out
   cases e8
   exact h8
  have ka0 : AM≠kb:=(by have:=lowbM.out;omega);have kb0 : kb≠AM:=(by have:=lowbM.out;omega);have ka1 : AX≠kb:=(by have:=lowbX.out;omega);have kb1 : kb≠AX:=(by have:=lowbX.out;omega);have ka2 : AN≠kb:=(by have:=lowbN.out;omega);have kb2 : kb≠AN:=(by have:=lowbN.out;omega)
  have hi0 : (0 : Int)≤(k : Int):=by omega
  have hi1 : (k : Int) < (kinds.length : Int):=by omega
  have nbR : ¬ (AR=AM∨AR=AX∨AR=AN):=fun h=>by rcases h with h | h | h;exact ne_bM_bR.out h.symm;exact ne_bX_bR.out h.symm;exact ne_bN_bR.out h.symm
  have nbW : ¬ (AW=AM∨AW=AX∨AW=AN):=fun h=>by rcases h with h | h | h;exact ne_bM_bW.out h.symm;exact ne_bX_bW.out h.symm;exact ne_bN_bW.out h.symm
  have nbQ : ¬ (AQ=AM∨AQ=AX∨AQ=AN):=fun h=>by rcases h with h | h | h;exact ne_bM_bQ.out h.symm;exact ne_bX_bQ.out h.symm;exact ne_bN_bQ.out h.symm
  have nbP : ¬ (AP=AM∨AP=AX∨AP=AN):=fun h=>by rcases h with h | h | h;exact ne_bM_bP.out h.symm;exact ne_bX_bP.out h.symm;exact ne_bN_bP.out h.symm
  have nkb : ¬ (kb=AM∨kb=AX∨kb=AN):=fun h=>by rcases h with h | h | h;exact kb0 h;exact kb1 h;exact kb2 h
  have cbR_0 : World.cell? wd ⟨AR,0,none⟩=some (.slice v_na x.mem.al.length v_nac):=bR.cell 0
  have cbR_1 : World.cell? wd ⟨AR,1,none⟩=some (.int .i64 x.mem.next):=bR.cell 1
  have cbR_2 : World.cell? wd ⟨AR,2,none⟩=some (.slice (some ⟨sb,so,none⟩) 1 v_nkc):=bR.cell 2
  have cbR_3 : World.cell? wd ⟨AR,3,none⟩=some (.slice v_nr x.run.length v_nrc):=bR.cell 3
  have cbR_4 : World.cell? wd ⟨AR,4,none⟩=some (.int .i64 x.tag):=bR.cell 4
  have cbR_5 : World.cell? wd ⟨AR,5,none⟩=some (.int .i64 x.call):=bR.cell 5
  have cbW_0 : World.cell? wd ⟨AW,0,none⟩=some (.int .i64 0):=bW.cell 0
  have cbW_1 : World.cell? wd ⟨AW,1,none⟩=some (.slice wa l.length wc):=bW.cell 1
  have cbQ_0 : World.cell? wd ⟨AQ,0,none⟩=some (.int .i64 0):=bQ.cell 0
  have cbQ_1 : World.cell? wd ⟨AQ,1,none⟩=some (.int .i64 0):=bQ.cell 1
  have cbQ_2 : World.cell? wd ⟨AQ,2,none⟩=some (.int .i64 m.tag):=bQ.cell 2
  replace hi0:=Lib.hid hi0;replace hi1:=Lib.hid hi1;replace nkb:=Lib.hid nkb;replace nbR:=Lib.hid nbR;replace nbW:=Lib.hid nbW;replace nbQ:=Lib.hid nbQ;replace nbP:=Lib.hid nbP
  clear ka0 ka1 ka2 kb0 kb1 kb2
  refine wp_region_rel (R:=R3 AM AX AN 35 44 26 #[.slice x1 m.mem.al.length y1,.int .i64 m.mem.next,.slice x2 m.stks.length y2,.slice x3 m.run.length y3,.int .i64 m.tag,.int .i64 m.call] #[.slice v_na x.mem.al.length v_nac,.int .i64 x.mem.next,.slice (some ⟨sb,so,none⟩) 1 v_nkc,.slice v_nr x.run.length v_nrc,.int .i64 x.tag,.int .i64 x.call] #[.int .i64 0,.slice ya l.length yc] #[.int .i64 0,.slice wa l.length wc] #[.int .i64 0,.int .i64 0,.int .i64 t0] #[.int .i64 0,.int .i64 0,.int .i64 m.tag]) R3.refl (fun _ _ _=>R3.trans) [PrR.eq _ (.agg #[.slice v_na x.mem.al.length v_nac,.int .i64 x.mem.next,.slice (some ⟨sb,so,none⟩) 1 v_nkc,.slice v_nr x.run.length v_nrc,.int .i64 x.tag,.int .i64 x.call]),PrR.eq _ (.agg #[.int .i64 0,.slice wa l.length wc]),PrR.eq _ (.agg #[.int .i64 0,.int .i64 0,.int .i64 m.tag]),PrR.eq _ (.slice (some ⟨kb,ko,none⟩) kinds.length klc),PrR.eq _ (.int .i64 (k : Int)),PrR.eq _ (.pointer (some ⟨kb,ko+k,none⟩)),PrR.eq _ (.int .u8 kd),PrM3 AM AX AN 35 44 26 #[.slice x1 m.mem.al.length y1,.int .i64 m.mem.next,.slice x2 m.stks.length y2,.slice x3 m.run.length y3,.int .i64 m.tag,.int .i64 m.call] #[.slice v_na x.mem.al.length v_nac,.int .i64 x.mem.next,.slice (some ⟨sb,so,none⟩) 1 v_nkc,.slice v_nr x.run.length v_nrc,.int .i64 x.tag,.int .i64 x.call] #[.int .i64 0,.slice ya l.length yc] #[.int .i64 0,.slice wa l.length wc] #[.int .i64 0,.int .i64 0,.int .i64 t0] #[.int .i64 0,.int .i64 0,.int .i64 m.tag],PrX3 AM AX AN 35 44 26 #[.slice x1 m.mem.al.length y1,.int .i64 m.mem.next,.slice x2 m.stks.length y2,.slice x3 m.run.length y3,.int .i64 m.tag,.int .i64 m.call] #[.slice v_na x.mem.al.length v_nac,.int .i64 x.mem.next,.slice (some ⟨sb,so,none⟩) 1 v_nkc,.slice v_nr x.run.length v_nrc,.int .i64 x.tag,.int .i64 x.call] #[.int .i64 0,.slice ya l.length yc] #[.int .i64 0,.slice wa l.length wc] #[.int .i64 0,.int .i64 0,.int .i64 t0] #[.int .i64 0,.int .i64 0,.int .i64 m.tag],PrN3 AM AX AN 35 44 26 #[.slice x1 m.mem.al.length y1,.int .i64 m.mem.next,.slice x2 m.stks.length y2,.slice x3 m.run.length y3,.int .i64 m.tag,.int .i64 m.call] #[.slice v_na x.mem.al.length v_nac,.int .i64 x.mem.next,.slice (some ⟨sb,so,none⟩) 1 v_nkc,.slice v_nr x.run.length v_nrc,.int .i64 x.tag,.int .i64 x.call] #[.int .i64 0,.slice ya l.length yc] #[.int .i64 0,.slice wa l.length wc] #[.int .i64 0,.int .i64 0,.int .i64 t0] #[.int .i64 0,.int .i64 0,.int .i64 m.tag],PrR.eq _ (.int .u8 kd)] (by kernel_rfl) (by kernel_rfl) ?_ ?_
  ·refine ⟨?_,?_,?_,?_,?_,?_,?_,?_,?_,?_,?_,trivial⟩
   ·intro a w hE hd ho
    refine .inl ⟨rfl,?_⟩
    intro Kq hKq
    have hB : ExtBut (fun b=>b=AM∨b=AX∨b=AN) wd w:=(ExtBut.of_ext (Ext.refl _).drew).trans hE.but
    have e21 : a.eval (.tmp 21) = .pointer (some ⟨AR,0,none⟩):=ho 21 (by kernel_rfl)
    rw [eval_tmp] at e21
    have cbR_0w:=ExtBut.cell hB cbR_0 nbR.out
    have cbR_1w:=ExtBut.cell hB cbR_1 nbR.out
    have cbR_2w:=ExtBut.cell hB cbR_2 nbR.out
    have cbR_3w:=ExtBut.cell hB cbR_3 nbR.out
    have cbR_4w:=ExtBut.cell hB cbR_4 nbR.out
    have cbR_5w:=ExtBut.cell hB cbR_5 nbR.out
    clear cbR_0 cbR_1 cbR_2 cbR_3 cbR_4 cbR_5 cbW_0 cbW_1 cbQ_0 cbQ_1 cbQ_2 c0
    clear hd ho
    replace hKq:=Lib.hid hKq;replace hE:=Lib.hid hE;replace hB:=Lib.hid hB
    go_simp
    exact hKq.out _ _ rfl (R3.refl w)
   ·intro a w hE hd ho
    refine .inl ⟨rfl,?_⟩
    intro Kq hKq
    have hB : ExtBut (fun b=>b=AM∨b=AX∨b=AN) wd w:=(ExtBut.of_ext (Ext.refl _).drew).trans hE.but
    have e25 : a.eval (.tmp 25) = .pointer (some ⟨AW,0,none⟩):=ho 25 (by kernel_rfl)
    rw [eval_tmp] at e25
    have cbW_0w:=ExtBut.cell hB cbW_0 nbW.out
    have cbW_1w:=ExtBut.cell hB cbW_1 nbW.out
    clear cbR_0 cbR_1 cbR_2 cbR_3 cbR_4 cbR_5 cbW_0 cbW_1 cbQ_0 cbQ_1 cbQ_2 c0
    clear hd ho
    replace hKq:=Lib.hid hKq;replace hE:=Lib.hid hE;replace hB:=Lib.hid hB
    go_simp
    exact hKq.out _ _ rfl (R3.refl w)
   ·intro a w hE hd ho
    refine .inl ⟨rfl,?_⟩
    intro Kq hKq
    have hB : ExtBut (fun b=>b=AM∨b=AX∨b=AN) wd w:=(ExtBut.of_ext (Ext.refl _).drew).trans hE.but
    have e22 : a.eval (.tmp 22) = .pointer (some ⟨AQ,0,none⟩):=ho 22 (by kernel_rfl)
    rw [eval_tmp] at e22
    have cbQ_0w:=ExtBut.cell hB cbQ_0 nbQ.out
    have cbQ_1w:=ExtBut.cell hB cbQ_1 nbQ.out
    have cbQ_2w:=ExtBut.cell hB cbQ_2 nbQ.out
    clear cbR_0 cbR_1 cbR_2 cbR_3 cbR_4 cbR_5 cbW_0 cbW_1 cbQ_0 cbQ_1 cbQ_2 c0
    clear hd ho
    replace hKq:=Lib.hid hKq;replace hE:=Lib.hid hE;replace hB:=Lib.hid hB
    go_simp
    exact hKq.out _ _ rfl (R3.refl w)
   ·intro a w hE hd ho
    refine .inl ⟨rfl,?_⟩
    intro Kq hKq
    have hB : ExtBut (fun b=>b=AM∨b=AX∨b=AN) wd w:=(ExtBut.of_ext (Ext.refl _).drew).trans hE.but
    have e1 : a.eval (.tmp 1) = .slice (some ⟨kb,ko,none⟩) kinds.length klc:=ho 1 (by kernel_rfl)
    rw [eval_tmp] at e1
    clear cbR_0 cbR_1 cbR_2 cbR_3 cbR_4 cbR_5 cbW_0 cbW_1 cbQ_0 cbQ_1 cbQ_2 c0
    clear hd ho
    replace hKq:=Lib.hid hKq;replace hE:=Lib.hid hE;replace hB:=Lib.hid hB
    go_simp
    exact hKq.out _ _ rfl (R3.refl w)
   ·intro a w hE hd ho
    refine .inl ⟨rfl,?_⟩
    intro Kq hKq
    have hB : ExtBut (fun b=>b=AM∨b=AX∨b=AN) wd w:=(ExtBut.of_ext (Ext.refl _).drew).trans hE.but
    have e20 : a.eval (.tmp 20) = .int .i64 (k : Int):=ho 20 (by kernel_rfl)
    rw [eval_tmp] at e20
    clear cbR_0 cbR_1 cbR_2 cbR_3 cbR_4 cbR_5 cbW_0 cbW_1 cbQ_0 cbQ_1 cbQ_2 c0
    clear hd ho
    replace hKq:=Lib.hid hKq;replace hE:=Lib.hid hE;replace hB:=Lib.hid hB
    go_simp
    exact hKq.out _ _ rfl (R3.refl w)
   ·intro a w hE hd ho
    refine .inl ⟨rfl,?_⟩
    intro Kq hKq
    have hB : ExtBut (fun b=>b=AM∨b=AX∨b=AN) wd w:=(ExtBut.of_ext (Ext.refl _).drew).trans hE.but
    have e176 : a.eval (.tmp 176) = .slice (some ⟨kb,ko,none⟩) kinds.length klc:=hd 3 (by kernel_rfl)
    rw [eval_tmp] at e176
    have e177 : a.eval (.tmp 177) = .int .i64 (k : Int):=hd 4 (by kernel_rfl)
    rw [eval_tmp] at e177
    have hi0b:=hi0.out
    have hi1b:=hi1.out
    clear cbR_0 cbR_1 cbR_2 cbR_3 cbR_4 cbR_5 cbW_0 cbW_1 cbQ_0 cbQ_1 cbQ_2 c0
    clear hd ho
    replace hKq:=Lib.hid hKq;replace hE:=Lib.hid hE;replace hB:=Lib.hid hB
    go_simp
    exact hKq.out _ _ rfl (R3.refl w)
   ·intro a w hE hd ho
    refine .inl ⟨rfl,?_⟩
    intro Kq hKq
    have hB : ExtBut (fun b=>b=AM∨b=AX∨b=AN) wd w:=(ExtBut.of_ext (Ext.refl _).drew).trans hE.but
    have e178 : a.eval (.tmp 178) = .pointer (some ⟨kb,ko+k,none⟩):=hd 5 (by kernel_rfl)
    rw [eval_tmp] at e178
    have c0w:=ExtBut.cell hB c0 nkb.out
    clear cbR_0 cbR_1 cbR_2 cbR_3 cbR_4 cbR_5 cbW_0 cbW_1 cbQ_0 cbQ_1 cbQ_2 c0
    clear hd ho
    replace hKq:=Lib.hid hKq;replace hE:=Lib.hid hE;replace hB:=Lib.hid hB
    go_simp
    exact hKq.out _ _ rfl (R3.refl w)
   ·intro a w hE hd ho
    refine .inl ⟨rfl,?_⟩
    intro Kq hKq
    have hB : ExtBut (fun b=>b=AM∨b=AX∨b=AN) wd w:=(ExtBut.of_ext (Ext.refl _).drew).trans hE.but
    have e11 : a.eval (.tmp 11) = .pointer (some ⟨AM,0,none⟩):=ho 11 (by kernel_rfl)
    rw [eval_tmp] at e11
    have e173 : a.eval (.tmp 173) = .agg #[.slice v_na x.mem.al.length v_nac,.int .i64 x.mem.next,.slice (some ⟨sb,so,none⟩) 1 v_nkc,.slice v_nr x.run.length v_nrc,.int .i64 x.tag,.int .i64 x.call]:=hd 0 (by kernel_rfl)
    rw [eval_tmp] at e173
    clear cbR_0 cbR_1 cbR_2 cbR_3 cbR_4 cbR_5 cbW_0 cbW_1 cbQ_0 cbQ_1 cbQ_2 c0
    clear hd ho
    replace hKq:=Lib.hid hKq;replace hE:=Lib.hid hE;replace hB:=Lib.hid hB
    rcases hE.out.m1 (.inl (bM.ext (Ext.refl _).drew)) with hO | hO
    ·have hOl:=hO.lt
     have o0 : World.cell? w ⟨AM,0,none⟩=some (.slice x1 m.mem.al.length y1):=hO.cell 0
     have of0:=hO.frozen 0
     have o1 : World.cell? w ⟨AM,1,none⟩=some (.int .i64 m.mem.next):=hO.cell 1
     have of1:=hO.frozen 1
     have o2 : World.cell? w ⟨AM,2,none⟩=some (.slice x2 m.stks.length y2):=hO.cell 2
     have of2:=hO.frozen 2
     have o3 : World.cell? w ⟨AM,3,none⟩=some (.slice x3 m.run.length y3):=hO.cell 3
     have of3:=hO.frozen 3
     have o4 : World.cell? w ⟨AM,4,none⟩=some (.int .i64 m.tag):=hO.cell 4
     have of4:=hO.frozen 4
     have o5 : World.cell? w ⟨AM,5,none⟩=some (.int .i64 m.call):=hO.cell 5
     have of5:=hO.frozen 5
     replace hO:=Lib.hid hO
     go_simp
     have hb : ExtBut (fun b=>b=AM) w (World.setCell (World.setCell (World.setCell (World.setCell (World.setCell (World.setCell w ⟨AM,0,none⟩ (.slice v_na x.mem.al.length v_nac)) ⟨AM,1,none⟩ (.int .i64 x.mem.next)) ⟨AM,2,none⟩ (.slice (some ⟨sb,so,none⟩) 1 v_nkc)) ⟨AM,3,none⟩ (.slice v_nr x.run.length v_nrc)) ⟨AM,4,none⟩ (.int .i64 x.tag)) ⟨AM,5,none⟩ (.int .i64 x.call)):=by (repeat' with_reducible first | exact ExtBut.refl _ _ | refine ExtBut.dr ?_ | refine ExtBut.sc ?_ ?_ | fail) <;> dsimp only <;> omega
     have hn : Box (World.setCell (World.setCell (World.setCell (World.setCell (World.setCell (World.setCell w ⟨AM,0,none⟩ (.slice v_na x.mem.al.length v_nac)) ⟨AM,1,none⟩ (.int .i64 x.mem.next)) ⟨AM,2,none⟩ (.slice (some ⟨sb,so,none⟩) 1 v_nkc)) ⟨AM,3,none⟩ (.slice v_nr x.run.length v_nrc)) ⟨AM,4,none⟩ (.int .i64 x.tag)) ⟨AM,5,none⟩ (.int .i64 x.call)) AM 35 #[.slice v_na x.mem.al.length v_nac,.int .i64 x.mem.next,.slice (some ⟨sb,so,none⟩) 1 v_nkc,.slice v_nr x.run.length v_nrc,.int .i64 x.tag,.int .i64 x.call]:=(Box.setL (Box.setL (Box.setL (Box.setL (Box.setL (Box.setL hO.out 0 (.slice v_na x.mem.al.length v_nac)) 1 (.int .i64 x.mem.next)) 2 (.slice (some ⟨sb,so,none⟩) 1 v_nkc)) 3 (.slice v_nr x.run.length v_nrc)) 4 (.int .i64 x.tag)) 5 (.int .i64 x.call))
     exact hKq.out undef _ hn (R3.stM hb hn ne_bX_bM.out ne_bN_bM.out)
    ·have hOl:=hO.lt
     have o0 : World.cell? w ⟨AM,0,none⟩=some (.slice v_na x.mem.al.length v_nac):=hO.cell 0
     have of0:=hO.frozen 0
     have o1 : World.cell? w ⟨AM,1,none⟩=some (.int .i64 x.mem.next):=hO.cell 1
     have of1:=hO.frozen 1
     have o2 : World.cell? w ⟨AM,2,none⟩=some (.slice (some ⟨sb,so,none⟩) 1 v_nkc):=hO.cell 2
     have of2:=hO.frozen 2
     have o3 : World.cell? w ⟨AM,3,none⟩=some (.slice v_nr x.run.length v_nrc):=hO.cell 3
     have of3:=hO.frozen 3
     have o4 : World.cell? w ⟨AM,4,none⟩=some (.int .i64 x.tag):=hO.cell 4
     have of4:=hO.frozen 4
     have o5 : World.cell? w ⟨AM,5,none⟩=some (.int .i64 x.call):=hO.cell 5
     have of5:=hO.frozen 5
     replace hO:=Lib.hid hO
     go_simp
     have hb : ExtBut (fun b=>b=AM) w (World.setCell (World.setCell (World.setCell (World.setCell (World.setCell (World.setCell w ⟨AM,0,none⟩ (.slice v_na x.mem.al.length v_nac)) ⟨AM,1,none⟩ (.int .i64 x.mem.next)) ⟨AM,2,none⟩ (.slice (some ⟨sb,so,none⟩) 1 v_nkc)) ⟨AM,3,none⟩ (.slice v_nr x.run.length v_nrc)) ⟨AM,4,none⟩ (.int .i64 x.tag)) ⟨AM,5,none⟩ (.int .i64 x.call)):=by (repeat' with_reducible first | exact ExtBut.refl _ _ | refine ExtBut.dr ?_ | refine ExtBut.sc ?_ ?_ | fail) <;> dsimp only <;> omega
     have hn : Box (World.setCell (World.setCell (World.setCell (World.setCell (World.setCell (World.setCell w ⟨AM,0,none⟩ (.slice v_na x.mem.al.length v_nac)) ⟨AM,1,none⟩ (.int .i64 x.mem.next)) ⟨AM,2,none⟩ (.slice (some ⟨sb,so,none⟩) 1 v_nkc)) ⟨AM,3,none⟩ (.slice v_nr x.run.length v_nrc)) ⟨AM,4,none⟩ (.int .i64 x.tag)) ⟨AM,5,none⟩ (.int .i64 x.call)) AM 35 #[.slice v_na x.mem.al.length v_nac,.int .i64 x.mem.next,.slice (some ⟨sb,so,none⟩) 1 v_nkc,.slice v_nr x.run.length v_nrc,.int .i64 x.tag,.int .i64 x.call]:=(Box.setL (Box.setL (Box.setL (Box.setL (Box.setL (Box.setL hO.out 0 (.slice v_na x.mem.al.length v_nac)) 1 (.int .i64 x.mem.next)) 2 (.slice (some ⟨sb,so,none⟩) 1 v_nkc)) 3 (.slice v_nr x.run.length v_nrc)) 4 (.int .i64 x.tag)) 5 (.int .i64 x.call))
     exact hKq.out undef _ hn (R3.stM hb hn ne_bX_bM.out ne_bN_bM.out)
   ·intro a w hE hd ho
    refine .inl ⟨rfl,?_⟩
    intro Kq hKq
    have hB : ExtBut (fun b=>b=AM∨b=AX∨b=AN) wd w:=(ExtBut.of_ext (Ext.refl _).drew).trans hE.but
    have e16 : a.eval (.tmp 16) = .pointer (some ⟨AX,0,none⟩):=ho 16 (by kernel_rfl)
    rw [eval_tmp] at e16
    have e174 : a.eval (.tmp 174) = .agg #[.int .i64 0,.slice wa l.length wc]:=hd 1 (by kernel_rfl)
    rw [eval_tmp] at e174
    clear cbR_0 cbR_1 cbR_2 cbR_3 cbR_4 cbR_5 cbW_0 cbW_1 cbQ_0 cbQ_1 cbQ_2 c0
    clear hd ho
    replace hKq:=Lib.hid hKq;replace hE:=Lib.hid hE;replace hB:=Lib.hid hB
    rcases hE.out.x1 (.inl (bX.ext (Ext.refl _).drew)) with hO | hO
    ·have hOl:=hO.lt
     have o0 : World.cell? w ⟨AX,0,none⟩=some (.int .i64 0):=hO.cell 0
     have of0:=hO.frozen 0
     have o1 : World.cell? w ⟨AX,1,none⟩=some (.slice ya l.length yc):=hO.cell 1
     have of1:=hO.frozen 1
     replace hO:=Lib.hid hO
     go_simp
     have hb : ExtBut (fun b=>b=AX) w (World.setCell (World.setCell w ⟨AX,0,none⟩ (.int .i64 0)) ⟨AX,1,none⟩ (.slice wa l.length wc)):=by (repeat' with_reducible first | exact ExtBut.refl _ _ | refine ExtBut.dr ?_ | refine ExtBut.sc ?_ ?_ | fail) <;> dsimp only <;> omega
     have hn : Box (World.setCell (World.setCell w ⟨AX,0,none⟩ (.int .i64 0)) ⟨AX,1,none⟩ (.slice wa l.length wc)) AX 44 #[.int .i64 0,.slice wa l.length wc]:=(Box.setL (Box.setL hO.out 0 (.int .i64 0)) 1 (.slice wa l.length wc))
     exact hKq.out undef _ hn (R3.stX hb hn ne_bM_bX.out ne_bN_bX.out)
    ·have hOl:=hO.lt
     have o0 : World.cell? w ⟨AX,0,none⟩=some (.int .i64 0):=hO.cell 0
     have of0:=hO.frozen 0
     have o1 : World.cell? w ⟨AX,1,none⟩=some (.slice wa l.length wc):=hO.cell 1
     have of1:=hO.frozen 1
     replace hO:=Lib.hid hO
     go_simp
     have hb : ExtBut (fun b=>b=AX) w (World.setCell (World.setCell w ⟨AX,0,none⟩ (.int .i64 0)) ⟨AX,1,none⟩ (.slice wa l.length wc)):=by (repeat' with_reducible first | exact ExtBut.refl _ _ | refine ExtBut.dr ?_ | refine ExtBut.sc ?_ ?_ | fail) <;> dsimp only <;> omega
     have hn : Box (World.setCell (World.setCell w ⟨AX,0,none⟩ (.int .i64 0)) ⟨AX,1,none⟩ (.slice wa l.length wc)) AX 44 #[.int .i64 0,.slice wa l.length wc]:=(Box.setL (Box.setL hO.out 0 (.int .i64 0)) 1 (.slice wa l.length wc))
     exact hKq.out undef _ hn (R3.stX hb hn ne_bM_bX.out ne_bN_bX.out)
   ·intro a w hE hd ho
    refine .inl ⟨rfl,?_⟩
    intro Kq hKq
    have hB : ExtBut (fun b=>b=AM∨b=AX∨b=AN) wd w:=(ExtBut.of_ext (Ext.refl _).drew).trans hE.but
    have e18 : a.eval (.tmp 18) = .pointer (some ⟨AN,0,none⟩):=ho 18 (by kernel_rfl)
    rw [eval_tmp] at e18
    have e175 : a.eval (.tmp 175) = .agg #[.int .i64 0,.int .i64 0,.int .i64 m.tag]:=hd 2 (by kernel_rfl)
    rw [eval_tmp] at e175
    clear cbR_0 cbR_1 cbR_2 cbR_3 cbR_4 cbR_5 cbW_0 cbW_1 cbQ_0 cbQ_1 cbQ_2 c0
    clear hd ho
    replace hKq:=Lib.hid hKq;replace hE:=Lib.hid hE;replace hB:=Lib.hid hB
    rcases hE.out.n1 (.inl (bN.ext (Ext.refl _).drew)) with hO | hO
    ·have hOl:=hO.lt
     have o0 : World.cell? w ⟨AN,0,none⟩=some (.int .i64 0):=hO.cell 0
     have of0:=hO.frozen 0
     have o1 : World.cell? w ⟨AN,1,none⟩=some (.int .i64 0):=hO.cell 1
     have of1:=hO.frozen 1
     have o2 : World.cell? w ⟨AN,2,none⟩=some (.int .i64 t0):=hO.cell 2
     have of2:=hO.frozen 2
     replace hO:=Lib.hid hO
     go_simp
     have hb : ExtBut (fun b=>b=AN) w (World.setCell (World.setCell (World.setCell w ⟨AN,0,none⟩ (.int .i64 0)) ⟨AN,1,none⟩ (.int .i64 0)) ⟨AN,2,none⟩ (.int .i64 m.tag)):=by (repeat' with_reducible first | exact ExtBut.refl _ _ | refine ExtBut.dr ?_ | refine ExtBut.sc ?_ ?_ | fail) <;> dsimp only <;> omega
     have hn : Box (World.setCell (World.setCell (World.setCell w ⟨AN,0,none⟩ (.int .i64 0)) ⟨AN,1,none⟩ (.int .i64 0)) ⟨AN,2,none⟩ (.int .i64 m.tag)) AN 26 #[.int .i64 0,.int .i64 0,.int .i64 m.tag]:=(Box.setL (Box.setL (Box.setL hO.out 0 (.int .i64 0)) 1 (.int .i64 0)) 2 (.int .i64 m.tag))
     exact hKq.out undef _ hn (R3.stN hb hn ne_bM_bN.out ne_bX_bN.out)
    ·have hOl:=hO.lt
     have o0 : World.cell? w ⟨AN,0,none⟩=some (.int .i64 0):=hO.cell 0
     have of0:=hO.frozen 0
     have o1 : World.cell? w ⟨AN,1,none⟩=some (.int .i64 0):=hO.cell 1
     have of1:=hO.frozen 1
     have o2 : World.cell? w ⟨AN,2,none⟩=some (.int .i64 m.tag):=hO.cell 2
     have of2:=hO.frozen 2
     replace hO:=Lib.hid hO
     go_simp
     have hb : ExtBut (fun b=>b=AN) w (World.setCell (World.setCell (World.setCell w ⟨AN,0,none⟩ (.int .i64 0)) ⟨AN,1,none⟩ (.int .i64 0)) ⟨AN,2,none⟩ (.int .i64 m.tag)):=by (repeat' with_reducible first | exact ExtBut.refl _ _ | refine ExtBut.dr ?_ | refine ExtBut.sc ?_ ?_ | fail) <;> dsimp only <;> omega
     have hn : Box (World.setCell (World.setCell (World.setCell w ⟨AN,0,none⟩ (.int .i64 0)) ⟨AN,1,none⟩ (.int .i64 0)) ⟨AN,2,none⟩ (.int .i64 m.tag)) AN 26 #[.int .i64 0,.int .i64 0,.int .i64 m.tag]:=(Box.setL (Box.setL (Box.setL hO.out 0 (.int .i64 0)) 1 (.int .i64 0)) 2 (.int .i64 m.tag))
     exact hKq.out undef _ hn (R3.stN hb hn ne_bM_bN.out ne_bX_bN.out)
   ·intro a w hE hd ho
    refine .inl ⟨rfl,?_⟩
    intro Kq hKq
    have hB : ExtBut (fun b=>b=AM∨b=AX∨b=AN) wd w:=(ExtBut.of_ext (Ext.refl _).drew).trans hE.but
    have e179 : a.eval (.tmp 179) = .int .u8 kd:=hd 6 (by kernel_rfl)
    rw [eval_tmp] at e179
    clear cbR_0 cbR_1 cbR_2 cbR_3 cbR_4 cbR_5 cbW_0 cbW_1 cbQ_0 cbQ_1 cbQ_2 c0
    clear hd ho
    replace hKq:=Lib.hid hKq;replace hE:=Lib.hid hE;replace hB:=Lib.hid hB
    go_simp
    exact hKq.out _ _ rfl (R3.refl w)
  ·intro vals Ac wq hAc hE hv hsv
   have hB : ExtBut (fun b=>b=AM∨b=AX∨b=AN∨False) wd wq:=((ExtBut.of_ext (Ext.refl _).drew).trans hE.but).mono (fun b _ h=>by rcases h with h | h | h;exact .inl h;exact .inr (.inl h);exact .inr (.inr (.inl h)))
   have e19 : vals 10 = .int .u8 kd:=hv 10 (by decide)
   replace bM : Box wq AM 35 #[.slice v_na x.mem.al.length v_nac,.int .i64 x.mem.next,.slice (some ⟨sb,so,none⟩) 1 v_nkc,.slice v_nr x.run.length v_nrc,.int .i64 x.tag,.int .i64 x.call]:=hv 7 (by decide)
   replace bX : Box wq AX 44 #[.int .i64 0,.slice wa l.length wc]:=hv 8 (by decide)
   replace bN : Box wq AN 26 #[.int .i64 0,.int .i64 0,.int .i64 m.tag]:=hv 9 (by decide)
   clear hv hsv hE c0 cbR_0 cbR_1 cbR_2 cbR_3 cbR_4 cbR_5 cbW_0 cbW_1 cbQ_0 cbQ_1 cbQ_2
   subst hAc
   simp only [putAll]
   go_simp
   try rw [e19]
   clear e19
   obtain ⟨wz,hwz⟩ : ∃ z,wq=z:=⟨_,rfl⟩
   rw [hwz] at hB bM bX bN ⊢
   clear hwz
   replace bP:=Box.but bP hB (fun h=>by rcases h with h | h | h | h;exact ne_bM_bP.out h.symm;exact ne_bX_bP.out h.symm;exact ne_bN_bP.out h.symm;exact h)
   replace bR:=Box.but bR hB (fun h=>by rcases h with h | h | h | h;exact ne_bM_bR.out h.symm;exact ne_bX_bR.out h.symm;exact ne_bN_bR.out h.symm;exact h)
   replace bQ:=Box.but bQ hB (fun h=>by rcases h with h | h | h | h;exact ne_bM_bQ.out h.symm;exact ne_bX_bQ.out h.symm;exact ne_bN_bQ.out h.symm;exact h)
   replace bW:=Box.but bW hB (fun h=>by rcases h with h | h | h | h;exact ne_bM_bW.out h.symm;exact ne_bX_bW.out h.symm;exact ne_bN_bW.out h.symm;exact h)
   replace GL:=Lib.hid (Fq.but GL.out hB (fun b h _ h2=>by rcases h2 with h2 | h2 | h2 | h2;exact h.1 h2;exact h.2.1 h2;exact h.2.2.1 h2;exact h2))
   replace Gn:=Lib.hid (Fq.but Gn.out hB (fun b h _ h2=>by rcases h2 with h2 | h2 | h2 | h2;exact h.1 h2;exact h.2.1 h2;exact h.2.2.1 h2;exact h2))
   replace Gy:=Lib.hid (Fq.but Gy.out hB (fun b h _ h2=>by rcases h2 with h2 | h2 | h2 | h2;exact h.1 h2;exact h.2.1 h2;exact h.2.2.1 h2;exact h2))
   have hF2:=ExtBut.ext hF1 hB (fun b h=>by rcases h with h | h | h | h;(rw [h];exact lowbM.out);(rw [h];exact lowbX.out);(rw [h];exact lowbN.out);exact h.elim)
   clear hB
   go_wp2_with fail
   refine Met.intro ?_
   refine hJ ?_
   have hl1 : x.stks.length=1:=by rw [hx8.out];rfl
   rw [← hl1] at bM
   exact ⟨x,⟨v_na,v_nac,some ⟨sb,so,none⟩,v_nkc,v_nr,v_nrc⟩,U,it,m.tag+1,kd,wa,wc,hx9.out,hin.out,rfl,bM,bX,(by rw [hit.out];exact bN),bP,Gn.out,Gy.out,GL.out,hF2⟩
end Go.Proofs.YtoanoodfacmieaaDoor

/- TopStacks: its last part. (printed by gen/top35c.py) -/
namespace Go.Proofs.YtoanoodfacmieaaDoor
set_option maxRecDepth 100000
open Go.ChangeShapes Go.WideShapes Go.ChangeAt Go.RowKit
set_option linter.unusedVariables false
set_option maxRecDepth 1000000 in
set_option maxHeartbeats 12800000 in
theorem top_rest {wS w0 : World} {AM AN AP lb : Nat} {l : List Cell} {k : Nat} {m : Mon} {x1 x2 x3 : Option Addr} {y1 y2 y3 : Nat} {U : List Item} {it : Item} {t last : Int}
  {x_1 x_2 x_3 x_4 x_5 x_6 x_7 x_8 x_13 x_14 x_15 x_16 x_17 x_19 x_20 x_21 x_22 x_23 x_24 x_25 x_26 x_27 x_28 x_29 x_30 x_31 x_32 x_33 x_34 x_35 x_36 x_37 x_38 x_39 x_40 x_41 x_42 x_43 x_44 x_45 x_46 x_47 x_48 x_49 x_50 x_51 x_52 x_53 x_54 x_55 x_56 x_57 x_58 x_59 x_60 x_61 x_62 x_63 x_64 x_65 x_66 x_67 x_68 x_69 x_70 x_71 x_72 x_73 x_74 x_75 x_76 x_77 x_78 x_79 x_80 x_81 x_82 x_83 x_84 x_85 x_86 x_87 x_88 x_89 x_90 x_91 x_92 x_93 x_94 x_95 x_96 x_97 x_98 x_99 x_100 x_101 x_102 x_103 x_104 x_105 x_106 x_107 x_108 x_109 x_110 x_111 x_112 x_113 x_114 x_115 x_116 x_117 x_118 x_119 x_120 x_121 x_122 x_123 x_124 x_125 x_126 x_127 x_128 x_129 x_130 x_131 x_132 x_133 x_134 x_135 x_136 x_137 x_138 x_139 x_140 x_141 x_142 x_143 x_144 x_145 x_146 x_147 x_148 x_149 x_150 x_151 x_152 x_153 x_154 x_155 x_156 x_157 x_158 x_159 x_160 x_161 x_162 x_163 x_164 x_165 x_166 x_167 x_168 x_169 x_170 x_171 x_172 x_173 x_174 x_175 x_176 x_177 x_178 x_179 x_180 x_181 x_182 x_183 x_184 x_185 x_186 x_187 x_188 x_189 x_190 x_191 x_192 x_193 x_194 x_195 x_196 x_197 x_198 x_199 x_200 x_201 x_202 x_203 x_204 x_205 x_206 x_207 x_208 x_209 x_210 x_211 x_212 x_213 x_214 x_215 x_216 x_217 x_218 x_219 x_220 x_221 x_222 x_223 x_224 x_225 x_226 x_227 x_228 x_229 x_230 x_231 x_232 x_233 x_234 x_235 x_236 x_237 x_238 x_239 : Value} {K : Act→World→Prop}
  (hK : ∀ a w,Code.wp Tryd.prog ((Tryd.f3.body.bind (cutT (isTR 28))).getD (.skip,.skip)).2 (bodyPost Tryd.prog Tryd.f3 fun e w'=>e=Ending.returned (Value.bool true)∧Ext wS w') a w→K a w)
  (hp : Perms wS)
  (hF0 : Ext wS w0)
  (bM : Box w0 AM 35 #[.slice x1 m.mem.al.length y1,.int .i64 m.mem.next,.slice x2 m.stks.length y2,.slice x3 m.run.length y3,.int .i64 m.tag,.int .i64 m.call])
  (bN : Box w0 AN 26 #[.int .i64 0,.int .i64 0,.int .i64 it.t])
  (bP : Box w0 AP 26 #[.int .i64 0,.int .i64 0,.int .i64 1])
  (Gm : Fq (fun b=>True) w0 (RdA m ⟨x1,y1,x2,y2,x3,y3⟩))
  (GL : Fq (fun b=>True) w0 (fun w=>Cls w (.slice (some ⟨lb,0,none⟩) l.length 2) l))
  (hm : oneM l (U ++ [it]) [] t 1=m)
  (hin : TopInv k U it t last)
  (hk : k≤12)
  (hn : l.length=1∨l.length=2)
  (hlo : l.all Cell.ok=true)
  (hlz : l.any (· == Cell.zero)=false) :
  Code.wp Tryd.prog ((Tryd.f3.body.bind (cutT (isTR 28))).getD (.skip,.skip)).1 (Exit.then K (bodyPost Tryd.prog Tryd.f3 fun e w'=>e=Ending.returned (Value.bool true)∧Ext wS w')) ⟨#[.int .i64 (l.length : Int),x_1,x_2,x_3,x_4,x_5,x_6,x_7,x_8,.bool true,.slice (some ⟨lb,0,none⟩) l.length 2,.pointer (some ⟨AM,0,none⟩),.pointer (some ⟨AP,0,none⟩),x_13,x_14,x_15,x_16,x_17,.pointer (some ⟨AN,0,none⟩),x_19,x_20,x_21,x_22,x_23,x_24,x_25,x_26,x_27,x_28,x_29,x_30,x_31,x_32,x_33,x_34,x_35,x_36,x_37,x_38,x_39,x_40,x_41,x_42,x_43,x_44,x_45,x_46,x_47,x_48,x_49,x_50,x_51,x_52,x_53,x_54,x_55,x_56,x_57,x_58,x_59,x_60,x_61,x_62,x_63,x_64,x_65,x_66,x_67,x_68,x_69,x_70,x_71,x_72,x_73,x_74,x_75,x_76,x_77,x_78,x_79,x_80,x_81,x_82,x_83,x_84,x_85,x_86,x_87,x_88,x_89,x_90,x_91,x_92,x_93,x_94,x_95,x_96,x_97,x_98,x_99,x_100,x_101,x_102,x_103,x_104,x_105,x_106,x_107,x_108,x_109,x_110,x_111,x_112,x_113,x_114,x_115,x_116,x_117,x_118,x_119,x_120,x_121,x_122,x_123,x_124,x_125,x_126,x_127,x_128,x_129,x_130,x_131,x_132,x_133,x_134,x_135,x_136,x_137,x_138,x_139,x_140,x_141,x_142,x_143,x_144,x_145,x_146,x_147,x_148,x_149,x_150,x_151,x_152,x_153,x_154,x_155,x_156,x_157,x_158,x_159,x_160,x_161,x_162,x_163,x_164,x_165,x_166,x_167,x_168,x_169,x_170,x_171,x_172,x_173,x_174,x_175,x_176,x_177,x_178,x_179,x_180,x_181,x_182,x_183,x_184,x_185,x_186,x_187,x_188,x_189,x_190,x_191,x_192,x_193,x_194,x_195,x_196,x_197,x_198,x_199,x_200,x_201,x_202,x_203,x_204,x_205,x_206,x_207,x_208,x_209,x_210,x_211,x_212,x_213,x_214,x_215,x_216,x_217,x_218,x_219,x_220,x_221,x_222,x_223,x_224,x_225,x_226,x_227,x_228,x_229,x_230,x_231,x_232,x_233,x_234,x_235,x_236,x_237,x_238,x_239],[]⟩ w0:=by
 conv=>arg 2;whnf
 conv at hK=>intro a w;arg 1;arg 2;whnf
 obtain ⟨xw,hw⟩:=top_load hin hk hn hlo hlz
 obtain ⟨S',hC⟩:=top_called hin hk hn hlo hlz
 have hok0:=hin.mon (l:=l) hk hn hlo
 have hCd:=hC.called hok0
 rw [hm] at hw hCd hok0
 clear hC hin hk hn hlo hlz hm
 replace hw:=Lib.hid hw;replace hCd:=Lib.hid hCd;replace hok0:=Lib.hid hok0;replace hp:=Lib.hid hp;replace Gm:=Lib.hid Gm;replace GL:=Lib.hid GL
 obtain ⟨bM_0,bM_1,bM_2,bM_3,bM_4,bM_5,bM_l⟩:=bM.c6
 obtain ⟨bN_0,bN_1,bN_2,bN_l⟩:=bN.c3
 go_wp2_with fail
 clear bM_0 bM_1 bM_2 bM_3 bM_4 bM_5 bM_l bN_0 bN_1 bN_2 bN_l
 refine (monitor_Load (m:=m) 0 0 it.t (l.length : Int) Gm.out.read.1 (i64_of_ok hok0.out) Gm.out.read.2.1 Gm.out.read.2.2).mono ?_
 rintro e w1 ⟨vt,vl,rfl,fM,fL,hE1⟩
 replace bM:=bM.ext hE1
 replace bN:=bN.ext hE1
 replace bP:=bP.ext hE1
 replace Gm:=Lib.hid (Fq.ext Gm.out hE1)
 replace GL:=Lib.hid (Fq.ext GL.out hE1)
 have hF1:=Ext.trans hF0 hE1
 rw [hw.out] at fM fL ⊢
 try dsimp only at fM fL ⊢
 obtain ⟨wsa,wss,wsr,rfl,qw⟩:=FrMon.parts fM
 clear fM
 obtain ⟨v_wa,v_wac,rfl,-⟩:=(qw.read).1.form
 obtain ⟨v_wk,v_wkc,rfl,-⟩:=(qw.read).2.1.form
 obtain ⟨v_wr,v_wrc,rfl,-⟩:=(qw.read).2.2.form
 try dsimp only at qw ⊢
 try dsimp only
 have Gw:=Lib.hid (Fq.mono (S':=(fun b=>True)) qw (fun b h1 _=>by exact trivial))
 clear qw
 obtain ⟨la9,lc9,rfl,-⟩:=fL.read.form
 have Gt:=Lib.hid (Fq.mono (S':=fun _=>True) fL (fun _ _ _=>trivial));clear fL
 clear Gw
 go_wp2_with fail
 have bZ:=Box.new w1 35 #[.slice v_wa xw.mem.al.length v_wac,.int .i64 xw.mem.next,.slice v_wk xw.stks.length v_wkc,.slice v_wr xw.run.length v_wrc,.int .i64 xw.tag,.int .i64 xw.call]
 have hza : (World.alloc w1 (.cells #[.slice v_wa xw.mem.al.length v_wac,.int .i64 xw.mem.next,.slice v_wk xw.stks.length v_wkc,.slice v_wr xw.run.length v_wrc,.int .i64 xw.tag,.int .i64 xw.call] 35)).heap.size=w1.heap.size+1:=by rw [World.size_alloc]
 have hx2 : Ext w1 (World.alloc w1 (.cells #[.slice v_wa xw.mem.al.length v_wac,.int .i64 xw.mem.next,.slice v_wk xw.stks.length v_wkc,.slice v_wr xw.run.length v_wrc,.int .i64 xw.tag,.int .i64 xw.call] 35)):=(Ext.refl _).alloc _
 obtain ⟨w2b,hw2⟩ : ∃ z,World.alloc w1 (.cells #[.slice v_wa xw.mem.al.length v_wac,.int .i64 xw.mem.next,.slice v_wk xw.stks.length v_wkc,.slice v_wr xw.run.length v_wrc,.int .i64 xw.tag,.int .i64 xw.call] 35)=z:=⟨_,rfl⟩
 rw [hw2] at bZ hx2 hza ⊢
 clear hw2
 have hzb0:=hza
 clear hza
 replace bM:=bM.ext hx2
 replace bN:=bN.ext hx2
 replace bP:=bP.ext hx2
 replace Gm:=Lib.hid (Fq.ext Gm.out hx2)
 replace GL:=Lib.hid (Fq.ext GL.out hx2)
 replace Gt:=Lib.hid (Fq.ext Gt.out hx2)
 have hF3:=Ext.trans hF1 hx2
 clear hzb0
 refine (ref27_SameCells_yes Gt.out.read GL.out.read).mono ?_
 rintro e w4 ⟨rfl,hE4⟩
 replace bM:=bM.ext hE4
 replace bN:=bN.ext hE4
 replace bP:=bP.ext hE4
 replace bZ:=bZ.ext hE4
 replace Gm:=Lib.hid (Fq.ext Gm.out hE4)
 replace GL:=Lib.hid (Fq.ext GL.out hE4)
 replace Gt:=Lib.hid (Fq.ext Gt.out hE4)
 have hF4:=Ext.trans hF3 hE4
 try dsimp only
 clear bZ
 obtain ⟨bM_0,bM_1,bM_2,bM_3,bM_4,bM_5,bM_l⟩:=bM.c6
 obtain ⟨bN_0,bN_1,bN_2,bN_l⟩:=bN.c3
 obtain ⟨bP_0,bP_1,bP_2,bP_l⟩:=bP.c3
 go_wp2_with fail
 clear bM_0 bM_1 bM_2 bM_3 bM_4 bM_5 bM_l bN_0 bN_1 bN_2 bN_l bP_0 bP_1 bP_2 bP_l
 refine (top_called35 (hp.out.ext hF4) hCd.out (rd_parts Gm.out.read) GL.out.read).mono ?_
 rintro e w5 ⟨rfl,hE5⟩
 replace bM:=bM.ext hE5
 replace bN:=bN.ext hE5
 replace bP:=bP.ext hE5
 replace Gm:=Lib.hid (Fq.ext Gm.out hE5)
 replace GL:=Lib.hid (Fq.ext GL.out hE5)
 replace Gt:=Lib.hid (Fq.ext Gt.out hE5)
 have hF5:=Ext.trans hF4 hE5
 try dsimp only
 go_wp2
 go_ret
 exact ⟨rfl,hF5⟩
set_option maxRecDepth 1000000 in
set_option maxHeartbeats 12800000 in
theorem top_cells {wS w0 : World} {AM AX AN AP lb : Nat} {l : List Cell} {k : Nat} {m : Mon} {x1 x2 x3 ya : Option Addr} {y1 y2 y3 yc : Nat} {U : List Item} {it : Item} {t last : Int}
  {x_1 x_2 x_3 x_4 x_5 x_6 x_7 x_8 x_13 x_14 x_15 x_17 x_20 x_21 x_22 x_23 x_24 x_25 x_26 x_27 x_28 x_29 x_30 x_31 x_32 x_33 x_34 x_35 x_36 x_37 x_38 x_39 x_40 x_41 x_42 x_43 x_44 x_45 x_46 x_47 x_48 x_49 x_50 x_51 x_52 x_53 x_54 x_55 x_56 x_57 x_58 x_59 x_60 x_61 x_62 x_63 x_64 x_65 x_66 x_67 x_68 x_69 x_70 x_71 x_72 x_73 x_74 x_75 x_76 x_77 x_78 x_79 x_80 x_81 x_82 x_83 x_84 x_85 x_86 x_87 x_88 x_89 x_90 x_91 x_92 x_93 x_94 x_95 x_96 x_97 x_98 x_99 x_100 x_101 x_102 x_103 x_104 x_105 x_106 x_107 x_108 x_109 x_110 x_111 x_112 x_113 x_114 x_115 x_116 x_117 x_118 x_119 x_120 x_121 x_122 x_123 x_124 x_125 x_126 x_127 x_128 x_129 x_130 x_131 x_132 x_133 x_134 x_135 x_136 x_137 x_138 x_139 x_140 x_141 x_142 x_143 x_144 x_145 x_146 x_147 x_148 x_149 x_150 x_151 x_152 x_153 x_154 x_155 x_156 x_157 x_158 x_159 x_160 x_161 x_162 x_163 x_164 x_165 x_166 x_167 x_168 x_169 x_170 x_171 x_172 x_173 x_174 x_175 x_176 x_177 x_178 x_179 x_180 x_181 x_182 x_183 x_184 x_185 x_186 x_187 x_188 x_189 x_190 x_191 x_192 x_193 x_194 x_195 x_196 x_197 x_198 x_199 x_200 x_201 x_202 x_203 x_204 x_205 x_206 x_207 x_208 x_209 x_210 x_211 x_212 x_213 x_214 x_215 x_216 x_217 x_218 x_219 x_220 x_221 x_222 x_223 x_224 x_225 x_226 x_227 x_228 x_229 x_230 x_231 x_232 x_233 x_234 x_235 x_236 x_237 x_238 x_239 : Value} {K K2 : Act→World→Prop}
  (hK : ∀ a w,Code.wp Tryd.prog ((Tryd.f3.body.bind (cutT (isTR 22))).getD (.skip,.skip)).2 (Exit.then K2 (bodyPost Tryd.prog Tryd.f3 fun e w'=>e=Ending.returned (Value.bool true)∧Ext wS w')) a w→K a w)
  (hK2 : ∀ a w,Code.wp Tryd.prog (Code.seq ((Tryd.f3.body.bind (cutT (isTR 28))).getD (.skip,.skip)).1 ((Tryd.f3.body.bind (cutT (isTR 28))).getD (.skip,.skip)).2) (bodyPost Tryd.prog Tryd.f3 fun e w'=>e=Ending.returned (Value.bool true)∧Ext wS w') a w→K2 a w)
  (hp : Perms wS)
  (hF0 : Ext wS w0)
  (bM : Box w0 AM 35 #[.slice x1 m.mem.al.length y1,.int .i64 m.mem.next,.slice x2 m.stks.length y2,.slice x3 m.run.length y3,.int .i64 m.tag,.int .i64 m.call])
  (bX : Box w0 AX 44 #[.int .i64 0,.slice ya l.length yc])
  (bN : Box w0 AN 26 #[.int .i64 0,.int .i64 0,.int .i64 it.t])
  (bP : Box w0 AP 26 #[.int .i64 0,.int .i64 0,.int .i64 1])
  (Gm : Fq (fun b=>True) w0 (RdA m ⟨x1,y1,x2,y2,x3,y3⟩))
  (GL : Fq (fun b=>True) w0 (fun w=>Cls w (.slice (some ⟨lb,0,none⟩) l.length 2) l))
  (GX : Fq (fun b=>True) w0 (fun w=>Sts w (.slice ya l.length yc) (List.replicate l.length (U ++ [it]))))
  (hm : oneM l (U ++ [it]) [] t 1=m)
  (hin : TopInv k U it t last)
  (hk : k≤12)
  (hn : l.length=1∨l.length=2)
  (hlo : l.all Cell.ok=true)
  (hlz : l.any (· == Cell.zero)=false) :
  Code.wp Tryd.prog ((Tryd.f3.body.bind (cutT (isTR 22))).getD (.skip,.skip)).1 (Exit.then K (Exit.then K2 (bodyPost Tryd.prog Tryd.f3 fun e w'=>e=Ending.returned (Value.bool true)∧Ext wS w'))) ⟨#[.int .i64 (l.length : Int),x_1,x_2,x_3,x_4,x_5,x_6,x_7,x_8,.bool true,.slice (some ⟨lb,0,none⟩) l.length 2,.pointer (some ⟨AM,0,none⟩),.pointer (some ⟨AP,0,none⟩),x_13,x_14,x_15,.pointer (some ⟨AX,0,none⟩),x_17,.pointer (some ⟨AN,0,none⟩),.int .u8 last,x_20,x_21,x_22,x_23,x_24,x_25,x_26,x_27,x_28,x_29,x_30,x_31,x_32,x_33,x_34,x_35,x_36,x_37,x_38,x_39,x_40,x_41,x_42,x_43,x_44,x_45,x_46,x_47,x_48,x_49,x_50,x_51,x_52,x_53,x_54,x_55,x_56,x_57,x_58,x_59,x_60,x_61,x_62,x_63,x_64,x_65,x_66,x_67,x_68,x_69,x_70,x_71,x_72,x_73,x_74,x_75,x_76,x_77,x_78,x_79,x_80,x_81,x_82,x_83,x_84,x_85,x_86,x_87,x_88,x_89,x_90,x_91,x_92,x_93,x_94,x_95,x_96,x_97,x_98,x_99,x_100,x_101,x_102,x_103,x_104,x_105,x_106,x_107,x_108,x_109,x_110,x_111,x_112,x_113,x_114,x_115,x_116,x_117,x_118,x_119,x_120,x_121,x_122,x_123,x_124,x_125,x_126,x_127,x_128,x_129,x_130,x_131,x_132,x_133,x_134,x_135,x_136,x_137,x_138,x_139,x_140,x_141,x_142,x_143,x_144,x_145,x_146,x_147,x_148,x_149,x_150,x_151,x_152,x_153,x_154,x_155,x_156,x_157,x_158,x_159,x_160,x_161,x_162,x_163,x_164,x_165,x_166,x_167,x_168,x_169,x_170,x_171,x_172,x_173,x_174,x_175,x_176,x_177,x_178,x_179,x_180,x_181,x_182,x_183,x_184,x_185,x_186,x_187,x_188,x_189,x_190,x_191,x_192,x_193,x_194,x_195,x_196,x_197,x_198,x_199,x_200,x_201,x_202,x_203,x_204,x_205,x_206,x_207,x_208,x_209,x_210,x_211,x_212,x_213,x_214,x_215,x_216,x_217,x_218,x_219,x_220,x_221,x_222,x_223,x_224,x_225,x_226,x_227,x_228,x_229,x_230,x_231,x_232,x_233,x_234,x_235,x_236,x_237,x_238,x_239],[]⟩ w0:=by
 conv=>arg 2;whnf
 conv at hK=>intro a w;arg 1;arg 2;whnf
 conv at hK2=>intro a w;arg 1;arg 2;arg 1;whnf
 conv at hK2=>intro a w;arg 1;arg 2;arg 2;whnf
 obtain ⟨ph,hph,hpl⟩:=top_phase hin
 replace hp:=Lib.hid hp;replace Gm:=Lib.hid Gm;replace GL:=Lib.hid GL;replace GX:=Lib.hid GX;replace hm:=Lib.hid hm;replace hin:=Lib.hid hin;replace hk:=Lib.hid hk;replace hn:=Lib.hid hn;replace hlo:=Lib.hid hlo;replace hlz:=Lib.hid hlz;replace hph:=Lib.hid hph;replace hpl:=Lib.hid hpl
 go_wp2
 go_loopw [28] (fun jv wr => ∃ j : Nat,j≤l.length∧jv = .int .i64 j∧Ext w0 wr) (fun jv _=>l.length - (intOf jv).toNat)
 case atStart=>exact ⟨0,Nat.zero_le _,rfl,Ext.refl _⟩
 case round =>
  obtain ⟨j,hj,rfl,hX⟩:=hrel
  by_cases hlt : j < l.length
  rotate_left
  ·skip
   have hge : decide (j < l.length)=false:=decide_eq_false hlt;have hge2 : decide ((j : Int) < (l.length : Int))=false:=decide_eq_false (by omega)
   replace bM:=bM.ext hX
   replace bX:=bX.ext hX
   replace bN:=bN.ext hX
   replace bP:=bP.ext hX
   replace Gm:=Lib.hid (Fq.ext Gm.out hX)
   replace GL:=Lib.hid (Fq.ext GL.out hX)
   replace GX:=Lib.hid (Fq.ext GX.out hX)
   have hF1:=Ext.trans hF0 hX
   go_upto_region 28 with fail
   refine top_rest ?_ hp.out hF1 bM bN bP Gm.out GL.out hm.out hin.out hk.out hn.out hlo.out hlz.out
   assumption
  have hge : decide (j < l.length)=true:=decide_eq_true hlt
  have hge2 : decide ((j : Int) < (l.length : Int))=true:=decide_eq_true (by omega)
  replace bM:=bM.ext hX
  replace bX:=bX.ext hX
  replace bN:=bN.ext hX
  replace bP:=bP.ext hX
  replace Gm:=Lib.hid (Fq.ext Gm.out hX)
  replace GL:=Lib.hid (Fq.ext GL.out hX)
  replace GX:=Lib.hid (Fq.ext GX.out hX)
  have hF1:=Ext.trans hF0 hX
  go_upto_region 25 with fail
  clear hge hge2
  obtain ⟨xb,xo,sv,hya,hxb,hc,hIt⟩:=Sts.cell GX.out.read (i:=j) (x:=U ++ [it]) (by rw [List.getElem?_replicate,if_pos hlt])
  subst hya
  have hi0 : (0 : Int)≤(j : Int):=by omega
  have hi1 : (j : Int) < (l.length : Int):=by omega
  replace hIt:=Lib.hid hIt
  have dbX_1 : World.cell? wr ⟨AX,1,none⟩=some (.slice (some ⟨xb,xo,none⟩) l.length yc):=bX.cell 1
  have dbN_2 : World.cell? wr ⟨AN,2,none⟩=some (.int .i64 it.t):=bN.cell 2
  refine wp_region_go (L:=[Pr.eq (.pointer (some ⟨AX,1,none⟩)),Pr.eq (.slice (some ⟨xb,xo,none⟩) l.length yc),Pr.eq (.int .i64 (j : Int)),Pr.eq (.pointer (some ⟨xb,xo+j,none⟩)),Pr.eq (sv),Pr.eq (.pointer (some ⟨AN,2,none⟩)),Pr.eq (.int .i64 it.t),Pr.eq (.tuple #[.int .u8 ph,.int .i64 0]),Pr.eq (.tuple #[.int .u8 ph,.int .i64 0]),Pr.eq (.int .u8 ph),Pr.eq (.int .i64 0),Pr.eq (.int .u8 ph),Pr.eq (.int .i64 0)]) (by kernel_rfl) (by kernel_rfl) ?_ ?_
  ·refine ⟨?_,?_,?_,?_,?_,?_,?_,?_,?_,?_,?_,?_,?_,trivial⟩
   ·intro a w hE hd ho
    refine .inl ⟨rfl,?_⟩
    intro K hK
    have hF : Ext wr w:=Ext.trans ((Ext.refl _).drew) hE
    have e16 : a.eval (.tmp 16) = .pointer (some ⟨AX,0,none⟩):=ho 16 (by kernel_rfl)
    rw [eval_tmp] at e16
    clear hc dbX_1 dbN_2
    clear hd ho
    replace hK:=Lib.hid hK
    go_simp
    exact hK.out _ _ rfl (Ext.refl _)
   ·intro a w hE hd ho
    refine .inl ⟨rfl,?_⟩
    intro K hK
    have hF : Ext wr w:=Ext.trans ((Ext.refl _).drew) hE
    have e186 : a.eval (.tmp 186) = .pointer (some ⟨AX,1,none⟩):=hd 0 (by kernel_rfl)
    rw [eval_tmp] at e186
    have dbX_1w:=Ext.cell hF dbX_1
    clear hc dbX_1 dbN_2
    clear hd ho
    replace hK:=Lib.hid hK
    go_simp
    exact hK.out _ _ rfl (Ext.refl _)
   ·intro a w hE hd ho
    refine .inl ⟨rfl,?_⟩
    intro K hK
    have hF : Ext wr w:=Ext.trans ((Ext.refl _).drew) hE
    have e28 : a.eval (.tmp 28) = .int .i64 (j : Int):=ho 28 (by kernel_rfl)
    rw [eval_tmp] at e28
    clear hc dbX_1 dbN_2
    clear hd ho
    replace hK:=Lib.hid hK
    go_simp
    exact hK.out _ _ rfl (Ext.refl _)
   ·intro a w hE hd ho
    refine .inl ⟨rfl,?_⟩
    intro K hK
    have hF : Ext wr w:=Ext.trans ((Ext.refl _).drew) hE
    have e187 : a.eval (.tmp 187) = .slice (some ⟨xb,xo,none⟩) l.length yc:=hd 1 (by kernel_rfl)
    rw [eval_tmp] at e187
    have e188 : a.eval (.tmp 188) = .int .i64 (j : Int):=hd 2 (by kernel_rfl)
    rw [eval_tmp] at e188
    clear hc dbX_1 dbN_2
    clear hd ho
    replace hK:=Lib.hid hK
    go_simp
    exact hK.out _ _ rfl (Ext.refl _)
   ·intro a w hE hd ho
    refine .inl ⟨rfl,?_⟩
    intro K hK
    have hF : Ext wr w:=Ext.trans ((Ext.refl _).drew) hE
    have e189 : a.eval (.tmp 189) = .pointer (some ⟨xb,xo+j,none⟩):=hd 3 (by kernel_rfl)
    rw [eval_tmp] at e189
    have hcw:=Ext.cell hF hc
    clear hc dbX_1 dbN_2
    clear hd ho
    replace hK:=Lib.hid hK
    go_simp
    exact hK.out _ _ rfl (Ext.refl _)
   ·intro a w hE hd ho
    refine .inl ⟨rfl,?_⟩
    intro K hK
    have hF : Ext wr w:=Ext.trans ((Ext.refl _).drew) hE
    have e18 : a.eval (.tmp 18) = .pointer (some ⟨AN,0,none⟩):=ho 18 (by kernel_rfl)
    rw [eval_tmp] at e18
    clear hc dbX_1 dbN_2
    clear hd ho
    replace hK:=Lib.hid hK
    go_simp
    exact hK.out _ _ rfl (Ext.refl _)
   ·intro a w hE hd ho
    refine .inl ⟨rfl,?_⟩
    intro K hK
    have hF : Ext wr w:=Ext.trans ((Ext.refl _).drew) hE
    have e191 : a.eval (.tmp 191) = .pointer (some ⟨AN,2,none⟩):=hd 5 (by kernel_rfl)
    rw [eval_tmp] at e191
    have dbN_2w:=Ext.cell hF dbN_2
    clear hc dbX_1 dbN_2
    clear hd ho
    replace hK:=Lib.hid hK
    go_simp
    exact hK.out _ _ rfl (Ext.refl _)
   ·intro a w hE hd ho
    refine .inl ⟨rfl,?_⟩
    intro K hK
    have hF : Ext wr w:=Ext.trans ((Ext.refl _).drew) hE
    have e190 : a.eval (.tmp 190)=sv:=hd 4 (by kernel_rfl)
    rw [eval_tmp] at e190
    have e192 : a.eval (.tmp 192) = .int .i64 it.t:=hd 6 (by kernel_rfl)
    rw [eval_tmp] at e192
    clear hc dbX_1 dbN_2
    clear hd ho
    replace hK:=Lib.hid hK
    go_simp
    refine (phases_Phase it.t (hIt.out.ext hF)).mono ?_
    rintro e wz ⟨rfl,hZ⟩
    rw [hph.out]
    dsimp only
    go_simp
    exact hK.out _ _ rfl hZ
   ·intro a w hE hd ho
    refine .inl ⟨rfl,?_⟩
    intro K hK
    have hF : Ext wr w:=Ext.trans ((Ext.refl _).drew) hE
    have e193 : a.eval (.tmp 193) = .tuple #[.int .u8 ph,.int .i64 0]:=hd 7 (by kernel_rfl)
    rw [eval_tmp] at e193
    clear hc dbX_1 dbN_2
    clear hd ho
    replace hK:=Lib.hid hK
    go_simp
    exact hK.out _ _ rfl (Ext.refl _)
   ·intro a w hE hd ho
    refine .inl ⟨rfl,?_⟩
    intro K hK
    have hF : Ext wr w:=Ext.trans ((Ext.refl _).drew) hE
    have e185 : a.eval (.tmp 185) = .tuple #[.int .u8 ph,.int .i64 0]:=hd 8 (by kernel_rfl)
    rw [eval_tmp] at e185
    clear hc dbX_1 dbN_2
    clear hd ho
    replace hK:=Lib.hid hK
    go_simp
    exact hK.out _ _ rfl (Ext.refl _)
   ·intro a w hE hd ho
    refine .inl ⟨rfl,?_⟩
    intro K hK
    have hF : Ext wr w:=Ext.trans ((Ext.refl _).drew) hE
    have e185 : a.eval (.tmp 185) = .tuple #[.int .u8 ph,.int .i64 0]:=hd 8 (by kernel_rfl)
    rw [eval_tmp] at e185
    clear hc dbX_1 dbN_2
    clear hd ho
    replace hK:=Lib.hid hK
    go_simp
    exact hK.out _ _ rfl (Ext.refl _)
   ·intro a w hE hd ho
    refine .inl ⟨rfl,?_⟩
    intro K hK
    have hF : Ext wr w:=Ext.trans ((Ext.refl _).drew) hE
    have e194 : a.eval (.tmp 194) = .int .u8 ph:=hd 9 (by kernel_rfl)
    rw [eval_tmp] at e194
    clear hc dbX_1 dbN_2
    clear hd ho
    replace hK:=Lib.hid hK
    go_simp
    exact hK.out _ _ rfl (Ext.refl _)
   ·intro a w hE hd ho
    refine .inl ⟨rfl,?_⟩
    intro K hK
    have hF : Ext wr w:=Ext.trans ((Ext.refl _).drew) hE
    have e195 : a.eval (.tmp 195) = .int .i64 0:=hd 10 (by kernel_rfl)
    rw [eval_tmp] at e195
    clear hc dbX_1 dbN_2
    clear hd ho
    replace hK:=Lib.hid hK
    go_simp
    exact hK.out _ _ rfl (Ext.refl _)
  ·intro vals wq hE hv
   have hF : Ext wr wq:=Ext.trans ((Ext.refl _).drew) hE
   have e1 : vals 11 = .int .u8 ph:=hv 11 (by decide)
   have e2 : vals 12 = .int .i64 0:=hv 12 (by decide)
   clear hv hE hc dbX_1 dbN_2
   simp only [putAll]
   go_simp
   try rw [e1,e2]
   clear e1 e2
   obtain ⟨wd,hwd⟩ : ∃ z,wq=z:=⟨_,rfl⟩
   rw [hwd] at hF ⊢
   clear hwd hIt
   have hEz : Ext w0 wd:=hX.trans hF
   replace bM:=bM.ext hF
   replace bX:=bX.ext hF
   replace bN:=bN.ext hF
   replace bP:=bP.ext hF
   replace Gm:=Lib.hid (Fq.ext Gm.out hF)
   replace GL:=Lib.hid (Fq.ext GL.out hF)
   replace GX:=Lib.hid (Fq.ext GX.out hF)
   have hF2:=Ext.trans hF1 hF
   by_cases ht1 : it.t=1
   ·skip
    have q5 : (it.t == 1)=true:=beq_iff_eq.2 ht1;have q6 : (it.t != 1)=false:=by simpa using ht1
    clear ht1
    have hl2 : l.length≤2:=by have:=hn.out;omega
    obtain ⟨bN_0,bN_1,bN_2,bN_l⟩:=bN.c3
    obtain ⟨bP_0,bP_1,bP_2,bP_l⟩:=bP.c3
    go_wp2
    clear bN_0 bN_1 bN_2 bN_l bP_0 bP_1 bP_2 bP_l
    go_roundw
    case rel=>exact ⟨j+1,hlt,by go_num,hEz⟩
    case measure=>simp [intOf];omega
   have q5 : (it.t == 1)=false:=beq_eq_false_iff_ne.2 ht1;have q6 : (it.t != 1)=true:=by simpa using ht1
   have q7:=hpl.out ht1
   clear ht1
   have hl2 : l.length≤2:=by have:=hn.out;omega
   obtain ⟨bN_0,bN_1,bN_2,bN_l⟩:=bN.c3
   obtain ⟨bP_0,bP_1,bP_2,bP_l⟩:=bP.c3
   go_wp2
   clear bN_0 bN_1 bN_2 bN_l bP_0 bP_1 bP_2 bP_l
   go_roundw
   case rel=>exact ⟨j+1,hlt,by go_num,hEz⟩
   case measure=>simp [intOf];omega
end Go.Proofs.YtoanoodfacmieaaDoor
