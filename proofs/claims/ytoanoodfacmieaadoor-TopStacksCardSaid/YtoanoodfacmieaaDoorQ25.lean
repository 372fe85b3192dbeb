/- Several texts in one: TopJ. -/
import Derived.Test.YtoanoodfacmieaaDoorQ24
/- TopStacks: a round of its first loop. (printed by gen/top35e.py) -/
namespace Go.Proofs.YtoanoodfacmieaaDoor
set_option maxRecDepth 100000
open Go.ChangeShapes Go.WideShapes Go.ChangeAt Go.RowKit
set_option linter.unusedVariables false
set_option maxRecDepth 1000000 in
set_option maxHeartbeats 12800000 in
theorem top_round {wS w0 : World} {AM AX AN AP lb klc : Nat} {kla : Option Addr} {l : List Cell} {kinds : List Int} {k : Nat} {m : Mon} {x1 x2 x3 ya : Option Addr} {y1 y2 y3 yc : Nat} {U : List Item} {it : Item} {t last : Int}
  {x_2 x_3 x_4 x_5 x_6 x_7 x_8 x_9 x_10 x_13 x_14 x_15 x_17 x_21 x_22 x_23 x_24 x_25 x_26 x_27 x_28 x_29 x_30 x_31 x_32 x_33 x_34 x_35 x_36 x_37 x_38 x_39 x_40 x_41 x_42 x_43 x_44 x_45 x_46 x_47 x_48 x_49 x_50 x_51 x_52 x_53 x_54 x_55 x_56 x_57 x_58 x_59 x_60 x_61 x_62 x_63 x_64 x_65 x_66 x_67 x_68 x_69 x_70 x_71 x_72 x_73 x_74 x_75 x_76 x_77 x_78 x_79 x_80 x_81 x_82 x_83 x_84 x_85 x_86 x_87 x_88 x_89 x_90 x_91 x_92 x_93 x_94 x_95 x_96 x_97 x_98 x_99 x_100 x_101 x_102 x_103 x_104 x_105 x_106 x_107 x_108 x_109 x_110 x_111 x_112 x_113 x_114 x_115 x_116 x_117 x_118 x_119 x_120 x_121 x_122 x_123 x_124 x_125 x_126 x_127 x_128 x_129 x_130 x_131 x_132 x_133 x_134 x_135 x_136 x_137 x_138 x_139 x_140 x_141 x_142 x_143 x_144 x_145 x_146 x_147 x_148 x_149 x_150 x_151 x_152 x_153 x_154 x_155 x_156 x_157 x_158 x_159 x_160 x_161 x_162 x_163 x_164 x_165 x_166 x_167 x_168 x_169 x_170 x_171 x_172 x_173 x_174 x_175 x_176 x_177 x_178 x_179 x_180 x_181 x_182 x_183 x_184 x_185 x_186 x_187 x_188 x_189 x_190 x_191 x_192 x_193 x_194 x_195 x_196 x_197 x_198 x_199 x_200 x_201 x_202 x_203 x_204 x_205 x_206 x_207 x_208 x_209 x_210 x_211 x_212 x_213 x_214 x_215 x_216 x_217 x_218 x_219 x_220 x_221 x_222 x_223 x_224 x_225 x_226 x_227 x_228 x_229 x_230 x_231 x_232 x_233 x_234 x_235 x_236 x_237 x_238 x_239 : Value} {J K K1 : Act→World→Prop} {Q : Exit→Act→World→Prop}
  (hK : ∀ a w,Code.wp Tryd.prog ((Tryd.f3.body.bind (cutT (isTR 14))).getD (.skip,.skip)).2 (Exit.inBlock 1 (Exit.then K1 Q)) a w→K a w)
  (hK1 : ∀ a w,Met J a w→K1 a w)
  (hJ : ∀ {lv u8 u21 u22 u23 u24 u25 u26 u27 u104 u105 u106 u107 u108 u109 u110 u111 u112 u113 u114 u115 u116 u117 u118 u119 u120 u121 u122 u123 u124 u125 u126 u127 u128 u129 u130 u131 u132 u133 u134 u135 u136 u137 u138 u139 u140 u141 u142 u143 u144 u145 u146 u147 u148 u149 u150 u151 u152 u153 u154 u155 u156 u157 u158 u159 u160 u161 u162 u163 u164 u165 u166 u167 u168 u169 u170 u171 u172 u173 u174 u175 u176 u177 u178 u179 : Value} {wx : World},TopEnd wS AM AX AN AP lb l (k+1) lv wx→J ⟨#[.int .i64 (l.length : Int),.slice kla kinds.length klc,x_2,x_3,x_4,x_5,x_6,x_7,u8,x_9,x_10,.pointer (some ⟨AM,0,none⟩),.pointer (some ⟨AP,0,none⟩),x_13,x_14,x_15,.pointer (some ⟨AX,0,none⟩),x_17,.pointer (some ⟨AN,0,none⟩),lv,.int .i64 (k : Int),u21,u22,u23,u24,u25,u26,u27,x_28,x_29,x_30,x_31,x_32,x_33,x_34,x_35,x_36,x_37,x_38,x_39,x_40,x_41,x_42,x_43,x_44,x_45,x_46,x_47,x_48,x_49,x_50,x_51,x_52,x_53,x_54,x_55,x_56,x_57,x_58,x_59,x_60,x_61,x_62,x_63,x_64,x_65,x_66,x_67,x_68,x_69,x_70,x_71,x_72,x_73,x_74,x_75,x_76,x_77,x_78,x_79,x_80,x_81,x_82,x_83,x_84,x_85,x_86,x_87,x_88,x_89,x_90,x_91,x_92,x_93,x_94,x_95,x_96,x_97,x_98,x_99,x_100,x_101,x_102,x_103,u104,u105,u106,u107,u108,u109,u110,u111,u112,u113,u114,u115,u116,u117,u118,u119,u120,u121,u122,u123,u124,u125,u126,u127,u128,u129,u130,u131,u132,u133,u134,u135,u136,u137,u138,u139,u140,u141,u142,u143,u144,u145,u146,u147,u148,u149,u150,u151,u152,u153,u154,u155,u156,u157,u158,u159,u160,u161,u162,u163,u164,u165,u166,u167,u168,u169,u170,u171,u172,u173,u174,u175,u176,u177,u178,u179,x_180,x_181,x_182,x_183,x_184,x_185,x_186,x_187,x_188,x_189,x_190,x_191,x_192,x_193,x_194,x_195,x_196,x_197,x_198,x_199,x_200,x_201,x_202,x_203,x_204,x_205,x_206,x_207,x_208,x_209,x_210,x_211,x_212,x_213,x_214,x_215,x_216,x_217,x_218,x_219,x_220,x_221,x_222,x_223,x_224,x_225,x_226,x_227,x_228,x_229,x_230,x_231,x_232,x_233,x_234,x_235,x_236,x_237,x_238,x_239],[]⟩ wx)
  (hp : Hid (Perms wS))
  (hFr : Ext wS w0)
  (ne_bM_bX : Hid (AM≠AX))
  (ne_bM_bN : Hid (AM≠AN))
  (ne_bM_bP : Hid (AM≠AP))
  (ne_bX_bM : Hid (AX≠AM))
  (ne_bX_bN : Hid (AX≠AN))
  (ne_bX_bP : Hid (AX≠AP))
  (ne_bN_bM : Hid (AN≠AM))
  (ne_bN_bX : Hid (AN≠AX))
  (ne_bN_bP : Hid (AN≠AP))
  (lowbM : Hid (wS.heap.size≤AM))
  (lowbX : Hid (wS.heap.size≤AX))
  (lowbN : Hid (wS.heap.size≤AN))
  (bM : Box w0 AM 35 #[.slice x1 m.mem.al.length y1,.int .i64 m.mem.next,.slice x2 m.stks.length y2,.slice x3 m.run.length y3,.int .i64 m.tag,.int .i64 m.call])
  (bX : Box w0 AX 44 #[.int .i64 0,.slice ya l.length yc])
  (bN : Box w0 AN 26 #[.int .i64 0,.int .i64 0,.int .i64 it.t])
  (bP : Box w0 AP 26 #[.int .i64 0,.int .i64 0,.int .i64 1])
  (Gm : Hid (Fq (fun b=>b≠AM∧b≠AX∧b≠AN∧True) w0 (RdA m ⟨x1,y1,x2,y2,x3,y3⟩)))
  (GX : Hid (Fq (fun b=>b≠AM∧b≠AX∧b≠AN∧True) w0 (fun w=>Sts w (.slice ya l.length yc) (List.replicate l.length (U ++ [it])))))
  (GL : Hid (Fq (fun b=>b≠AM∧b≠AX∧b≠AN∧True) w0 (fun w=>Cls w (.slice (some ⟨lb,0,none⟩) l.length 2) l)))
  (hmm : Hid (oneM l (U ++ [it]) [] t 1=m))
  (hin : Hid (TopInv k U it t last))
  (hok : Hid (okMon m=true))
  (hn : Hid (l.length=1∨l.length=2))
  (hlo : Hid (l.all Cell.ok=true))
  (hlz : Hid (l.any (· == Cell.zero)=false))
  (hkd : Hid (Uts wS (.slice kla kinds.length klc) kinds))
  (hku : Hid (∀ x ∈ kinds,u8B x))
  (hk12 : Hid (kinds.length≤12))
  (hlt : Hid (k < kinds.length)) :
  Code.wp Tryd.prog ((Tryd.f3.body.bind (cutT (isTR 14))).getD (.skip,.skip)).1 (Exit.then K (Exit.inBlock 1 (Exit.then K1 Q))) ⟨#[.int .i64 (l.length : Int),.slice kla kinds.length klc,x_2,x_3,x_4,x_5,x_6,x_7,x_8,x_9,x_10,.pointer (some ⟨AM,0,none⟩),.pointer (some ⟨AP,0,none⟩),x_13,x_14,x_15,.pointer (some ⟨AX,0,none⟩),x_17,.pointer (some ⟨AN,0,none⟩),.int .u8 last,.int .i64 (k : Int),x_21,x_22,x_23,x_24,x_25,x_26,x_27,x_28,x_29,x_30,x_31,x_32,x_33,x_34,x_35,x_36,x_37,x_38,x_39,x_40,x_41,x_42,x_43,x_44,x_45,x_46,x_47,x_48,x_49,x_50,x_51,x_52,x_53,x_54,x_55,x_56,x_57,x_58,x_59,x_60,x_61,x_62,x_63,x_64,x_65,x_66,x_67,x_68,x_69,x_70,x_71,x_72,x_73,x_74,x_75,x_76,x_77,x_78,x_79,x_80,x_81,x_82,x_83,x_84,x_85,x_86,x_87,x_88,x_89,x_90,x_91,x_92,x_93,x_94,x_95,x_96,x_97,x_98,x_99,x_100,x_101,x_102,x_103,x_104,x_105,x_106,x_107,x_108,x_109,x_110,x_111,x_112,x_113,x_114,x_115,x_116,x_117,x_118,x_119,x_120,x_121,x_122,x_123,x_124,x_125,x_126,x_127,x_128,x_129,x_130,x_131,x_132,x_133,x_134,x_135,x_136,x_137,x_138,x_139,x_140,x_141,x_142,x_143,x_144,x_145,x_146,x_147,x_148,x_149,x_150,x_151,x_152,x_153,x_154,x_155,x_156,x_157,x_158,x_159,x_160,x_161,x_162,x_163,x_164,x_165,x_166,x_167,x_168,x_169,x_170,x_171,x_172,x_173,x_174,x_175,x_176,x_177,x_178,x_179,x_180,x_181,x_182,x_183,x_184,x_185,x_186,x_187,x_188,x_189,x_190,x_191,x_192,x_193,x_194,x_195,x_196,x_197,x_198,x_199,x_200,x_201,x_202,x_203,x_204,x_205,x_206,x_207,x_208,x_209,x_210,x_211,x_212,x_213,x_214,x_215,x_216,x_217,x_218,x_219,x_220,x_221,x_222,x_223,x_224,x_225,x_226,x_227,x_228,x_229,x_230,x_231,x_232,x_233,x_234,x_235,x_236,x_237,x_238,x_239],[]⟩ w0:=by
 conv=>arg 2;whnf
 conv at hK=>intro a w;arg 1;arg 2;whnf
 obtain ⟨kd,hx⟩ : ∃ x,kinds[k]? = some x:=⟨kinds[k]'hlt.out,List.getElem?_eq_getElem hlt.out⟩
 obtain ⟨kb,ko,rfl,hkb,c0⟩:=Uts.cell (Uts.ext hkd.out hFr) hx
 have hkd8:=Lib.hid (hku.out kd (List.mem_of_getElem? hx))
 have hk11:=Lib.hid (by have:=hk12.out;have:=hlt.out;omega : k < 12)
 have hkl:=Lib.hid (by have:=hlt.out;omega : k+1≤kinds.length)
 have hxk:=Lib.hid hx
 clear hx hlt
 obtain ⟨⟨x,⟨qa,qo,qt⟩,v,e⟩,hre⟩ : ∃ z,retagM m ⟨0,0,it.t⟩ (l.length : Int) kd 0=z:=⟨_,rfl⟩
 obtain ⟨⟨⟨yn,yl⟩,v2,e2⟩,hts⟩ : ∃ z,tag33 ⟨0,List.replicate l.length (U ++ [it])⟩ 0 (l.length : Int) kd it.t ⟨0,m.tag,0⟩ []=z:=⟨_,rfl⟩
 have htr:=Lib.hid (top_retag (x:=x) (q:=⟨qa,qo,qt⟩) (v:=v) (e:=e) (y:=⟨yn,yl⟩) (w:=v2) (j:=e2) hin.out hk11.out hn.out hlo.out hlz.out (by rw [hmm.out];exact hre) (by rw [show t=m.tag by rw [← hmm.out];rfl];exact hts))
 replace hre:=Lib.hid hre;replace hts:=Lib.hid hts
 have cbM_0 : World.cell? w0 ⟨AM,0,none⟩=some (.slice x1 m.mem.al.length y1):=bM.cell 0
 have cbM_1 : World.cell? w0 ⟨AM,1,none⟩=some (.int .i64 m.mem.next):=bM.cell 1
 have cbM_2 : World.cell? w0 ⟨AM,2,none⟩=some (.slice x2 m.stks.length y2):=bM.cell 2
 have cbM_3 : World.cell? w0 ⟨AM,3,none⟩=some (.slice x3 m.run.length y3):=bM.cell 3
 have cbM_4 : World.cell? w0 ⟨AM,4,none⟩=some (.int .i64 m.tag):=bM.cell 4
 have cbM_5 : World.cell? w0 ⟨AM,5,none⟩=some (.int .i64 m.call):=bM.cell 5
 have cbN_0 : World.cell? w0 ⟨AN,0,none⟩=some (.int .i64 0):=bN.cell 0
 have cbN_1 : World.cell? w0 ⟨AN,1,none⟩=some (.int .i64 0):=bN.cell 1
 have cbN_2 : World.cell? w0 ⟨AN,2,none⟩=some (.int .i64 it.t):=bN.cell 2
 have rr:=Lib.hid Gm.out.read
 have ltbM:=bM.lt
 have ltbX:=bX.lt
 have ltbN:=bN.lt
 refine wp_region_st (R:=RX w0.drew.heap.size [13,14] (XM w0.drew.heap.size [13,14] x #[.int .i64 qa,.int .i64 qo,.int .i64 qt])) RX.refl (fun _ _ _=>RX.trans XM_st) [PrS.eq _ (.agg #[.slice x1 m.mem.al.length y1,.int .i64 m.mem.next,.slice x2 m.stks.length y2,.slice x3 m.run.length y3,.int .i64 m.tag,.int .i64 m.call]),PrS.eq _ (.agg #[.int .i64 0,.int .i64 0,.int .i64 it.t]),PrS.eq _ (.int .i64 (l.length : Int)),PrS.eq _ (.slice (some ⟨kb,ko,none⟩) kinds.length klc),PrS.eq _ (.int .i64 (k : Int)),PrS.eq _ (.pointer (some ⟨kb,ko+k,none⟩)),PrS.eq _ (.int .u8 kd),(PrFS w0.drew.heap.size [13,14] (XM w0.drew.heap.size [13,14] x #[.int .i64 qa,.int .i64 qo,.int .i64 qt]) (fun a9 : A3 => .tuple #[.agg #[.slice a9.a1 x.mem.al.length a9.c1,.int .i64 x.mem.next,.slice a9.a2 x.stks.length a9.c2,.slice a9.a3 x.run.length a9.c3,.int .i64 x.tag,.int .i64 x.call],.agg #[.int .i64 qa,.int .i64 qo,.int .i64 qt],.int .u8 v,.int .i64 e]) (RdA x)),(PrFS w0.drew.heap.size [13,14] (XM w0.drew.heap.size [13,14] x #[.int .i64 qa,.int .i64 qo,.int .i64 qt]) (fun a9 : A3 => .tuple #[.agg #[.slice a9.a1 x.mem.al.length a9.c1,.int .i64 x.mem.next,.slice a9.a2 x.stks.length a9.c2,.slice a9.a3 x.run.length a9.c3,.int .i64 x.tag,.int .i64 x.call],.agg #[.int .i64 qa,.int .i64 qo,.int .i64 qt],.int .u8 v,.int .i64 e]) (RdA x)),(PrFS w0.drew.heap.size [13,14] (XM w0.drew.heap.size [13,14] x #[.int .i64 qa,.int .i64 qo,.int .i64 qt]) (fun a9 : A3 => .agg #[.slice a9.a1 x.mem.al.length a9.c1,.int .i64 x.mem.next,.slice a9.a2 x.stks.length a9.c2,.slice a9.a3 x.run.length a9.c3,.int .i64 x.tag,.int .i64 x.call]) (RdA x)),PrS.eq _ (.agg #[.int .i64 qa,.int .i64 qo,.int .i64 qt]),PrS.eq _ (.int .u8 v),PrS.eq _ (.int .i64 e),(PrBx w0.drew.heap.size [13,14] (XM w0.drew.heap.size [13,14] x #[.int .i64 qa,.int .i64 qo,.int .i64 qt]) 35 6),(PrBx w0.drew.heap.size [13,14] (XM w0.drew.heap.size [13,14] x #[.int .i64 qa,.int .i64 qo,.int .i64 qt]) 26 3),(PrSt w0.drew.heap.size [13,14] (XM w0.drew.heap.size [13,14] x #[.int .i64 qa,.int .i64 qo,.int .i64 qt]) XM_st 35),(PrSt w0.drew.heap.size [13,14] (XM w0.drew.heap.size [13,14] x #[.int .i64 qa,.int .i64 qo,.int .i64 qt]) XM_st 26),PrS.eq _ (.int .u8 v),PrS.eq _ (.int .i64 e)] (by kernel_rfl) (by kernel_rfl) ?_ ?_
 ·refine ⟨?_,?_,?_,?_,?_,?_,?_,?_,?_,?_,?_,?_,?_,?_,?_,?_,?_,?_,?_,trivial⟩
  ·intro β a w hβ hE hd ho
   refine .inl ⟨rfl,?_⟩
   intro Kq hKq
   have hF : Ext w0 w:=Ext.trans ((Ext.refl _).drew) (hE.to_ext (Nat.le_refl _))
   have e11 : a.eval (.tmp 11) = .pointer (some ⟨AM,0,none⟩):=ho 11 (by kernel_rfl)
   rw [eval_tmp] at e11
   have cbM_0w:=Ext.cell hF cbM_0
   have cbM_1w:=Ext.cell hF cbM_1
   have cbM_2w:=Ext.cell hF cbM_2
   have cbM_3w:=Ext.cell hF cbM_3
   have cbM_4w:=Ext.cell hF cbM_4
   have cbM_5w:=Ext.cell hF cbM_5
   clear cbM_0 cbM_1 cbM_2 cbM_3 cbM_4 cbM_5 cbN_0 cbN_1 cbN_2 c0
   clear hd ho
   replace hKq:=Lib.hid hKq;replace hE:=Lib.hid hE;replace hβ:=Lib.hid hβ
   go_simp
   exact hKq.out _ _ rfl (RX.ext hβ.out (by decide) (Ext.refl _))
  ·intro β a w hβ hE hd ho
   refine .inl ⟨rfl,?_⟩
   intro Kq hKq
   have hF : Ext w0 w:=Ext.trans ((Ext.refl _).drew) (hE.to_ext (Nat.le_refl _))
   have e18 : a.eval (.tmp 18) = .pointer (some ⟨AN,0,none⟩):=ho 18 (by kernel_rfl)
   rw [eval_tmp] at e18
   have cbN_0w:=Ext.cell hF cbN_0
   have cbN_1w:=Ext.cell hF cbN_1
   have cbN_2w:=Ext.cell hF cbN_2
   clear cbM_0 cbM_1 cbM_2 cbM_3 cbM_4 cbM_5 cbN_0 cbN_1 cbN_2 c0
   clear hd ho
   replace hKq:=Lib.hid hKq;replace hE:=Lib.hid hE;replace hβ:=Lib.hid hβ
   go_simp
   exact hKq.out _ _ rfl (RX.ext hβ.out (by decide) (Ext.refl _))
  ·intro β a w hβ hE hd ho
   refine .inl ⟨rfl,?_⟩
   intro Kq hKq
   have hF : Ext w0 w:=Ext.trans ((Ext.refl _).drew) (hE.to_ext (Nat.le_refl _))
   have e0 : a.eval (.tmp 0) = .int .i64 (l.length : Int):=ho 0 (by kernel_rfl)
   rw [eval_tmp] at e0
   clear cbM_0 cbM_1 cbM_2 cbM_3 cbM_4 cbM_5 cbN_0 cbN_1 cbN_2 c0
   clear hd ho
   replace hKq:=Lib.hid hKq;replace hE:=Lib.hid hE;replace hβ:=Lib.hid hβ
   go_simp
   exact hKq.out _ _ rfl (RX.ext hβ.out (by decide) (Ext.refl _))
  ·intro β a w hβ hE hd ho
   refine .inl ⟨rfl,?_⟩
   intro Kq hKq
   have hF : Ext w0 w:=Ext.trans ((Ext.refl _).drew) (hE.to_ext (Nat.le_refl _))
   have e1 : a.eval (.tmp 1) = .slice (some ⟨kb,ko,none⟩) kinds.length klc:=ho 1 (by kernel_rfl)
   rw [eval_tmp] at e1
   clear cbM_0 cbM_1 cbM_2 cbM_3 cbM_4 cbM_5 cbN_0 cbN_1 cbN_2 c0
   clear hd ho
   replace hKq:=Lib.hid hKq;replace hE:=Lib.hid hE;replace hβ:=Lib.hid hβ
   go_simp
   exact hKq.out _ _ rfl (RX.ext hβ.out (by decide) (Ext.refl _))
  ·intro β a w hβ hE hd ho
   refine .inl ⟨rfl,?_⟩
   intro Kq hKq
   have hF : Ext w0 w:=Ext.trans ((Ext.refl _).drew) (hE.to_ext (Nat.le_refl _))
   have e20 : a.eval (.tmp 20) = .int .i64 (k : Int):=ho 20 (by kernel_rfl)
   rw [eval_tmp] at e20
   clear cbM_0 cbM_1 cbM_2 cbM_3 cbM_4 cbM_5 cbN_0 cbN_1 cbN_2 c0
   clear hd ho
   replace hKq:=Lib.hid hKq;replace hE:=Lib.hid hE;replace hβ:=Lib.hid hβ
   go_simp
   exact hKq.out _ _ rfl (RX.ext hβ.out (by decide) (Ext.refl _))
  ·intro β a w hβ hE hd ho
   refine .inl ⟨rfl,?_⟩
   intro Kq hKq
   have hF : Ext w0 w:=Ext.trans ((Ext.refl _).drew) (hE.to_ext (Nat.le_refl _))
   have e114 : a.eval (.tmp 114) = .slice (some ⟨kb,ko,none⟩) kinds.length klc:=(hd 3 (by kernel_rfl)).1
   rw [eval_tmp] at e114
   have e115 : a.eval (.tmp 115) = .int .i64 (k : Int):=(hd 4 (by kernel_rfl)).1
   rw [eval_tmp] at e115
   clear cbM_0 cbM_1 cbM_2 cbM_3 cbM_4 cbM_5 cbN_0 cbN_1 cbN_2 c0
   have hi0 : (0 : Int)≤(k : Int):=by omega
   have hi1 : (k : Int) < (kinds.length : Int):=by have:=hkl.out;omega
   clear hd ho
   replace hKq:=Lib.hid hKq;replace hE:=Lib.hid hE;replace hβ:=Lib.hid hβ
   go_simp
   exact hKq.out _ _ rfl (RX.ext hβ.out (by decide) (Ext.refl _))
  ·intro β a w hβ hE hd ho
   refine .inl ⟨rfl,?_⟩
   intro Kq hKq
   have hF : Ext w0 w:=Ext.trans ((Ext.refl _).drew) (hE.to_ext (Nat.le_refl _))
   have e116 : a.eval (.tmp 116) = .pointer (some ⟨kb,ko+k,none⟩):=(hd 5 (by kernel_rfl)).1
   rw [eval_tmp] at e116
   have c0w:=Ext.cell hF c0
   clear cbM_0 cbM_1 cbM_2 cbM_3 cbM_4 cbM_5 cbN_0 cbN_1 cbN_2 c0
   clear hd ho
   replace hKq:=Lib.hid hKq;replace hE:=Lib.hid hE;replace hβ:=Lib.hid hβ
   go_simp
   exact hKq.out _ _ rfl (RX.ext hβ.out (by decide) (Ext.refl _))
  ·intro β a w hβ hE hd ho
   refine .inl ⟨rfl,?_⟩
   intro Kq hKq
   have hF : Ext w0 w:=Ext.trans ((Ext.refl _).drew) (hE.to_ext (Nat.le_refl _))
   have e111 : a.eval (.tmp 111) = .agg #[.slice x1 m.mem.al.length y1,.int .i64 m.mem.next,.slice x2 m.stks.length y2,.slice x3 m.run.length y3,.int .i64 m.tag,.int .i64 m.call]:=(hd 0 (by kernel_rfl)).1
   rw [eval_tmp] at e111
   have e112 : a.eval (.tmp 112) = .agg #[.int .i64 0,.int .i64 0,.int .i64 it.t]:=(hd 1 (by kernel_rfl)).1
   rw [eval_tmp] at e112
   have e113 : a.eval (.tmp 113) = .int .i64 (l.length : Int):=(hd 2 (by kernel_rfl)).1
   rw [eval_tmp] at e113
   have e117 : a.eval (.tmp 117) = .int .u8 kd:=(hd 6 (by kernel_rfl)).1
   rw [eval_tmp] at e117
   clear cbM_0 cbM_1 cbM_2 cbM_3 cbM_4 cbM_5 cbN_0 cbN_1 cbN_2 c0
   clear hd ho
   replace hKq:=Lib.hid hKq;replace hE:=Lib.hid hE;replace hβ:=Lib.hid hβ
   go_simp
   refine (monitor_Retag (kind:=kd) 0 0 it.t (l.length : Int) 0 (hp.out.ext (Ext.trans hFr hF)) hkd8.out (rr.out.1.ext hF) (i64_of_ok hok.out) (rr.out.2.1.ext hF) (rr.out.2.2.ext hF)).mono ?_
   rintro e wz ⟨vt,rfl,fM,hZ⟩
   rw [hre.out] at fM ⊢
   dsimp only [Ptr.val] at fM ⊢
   obtain ⟨⟨z1,z2,z3,z4,z5,z6⟩,rfl,q9⟩:=FrMon.a3 fM
   clear fM
   dsimp only at q9 ⊢
   go_simp
   exact hKq.out _ _ ⟨⟨z1,z2,z3,z4,z5,z6⟩,rfl,FSb.new hE.out (by decide) hF.size q9⟩ (RX.ext hβ.out (by decide) hZ)
  ·intro β a w hβ hE hd ho
   refine .inl ⟨rfl,?_⟩
   intro Kq hKq
   have hF : Ext w0 w:=Ext.trans ((Ext.refl _).drew) (hE.to_ext (Nat.le_refl _))
   obtain ⟨⟨y1_118,y2_118,y3_118,y4_118,y5_118,y6_118⟩,e118,g118⟩ : ∃ a9 : A3,a.eval (.tmp 118) = .tuple #[.agg #[.slice a9.a1 x.mem.al.length a9.c1,.int .i64 x.mem.next,.slice a9.a2 x.stks.length a9.c2,.slice a9.a3 x.run.length a9.c3,.int .i64 x.tag,.int .i64 x.call],.agg #[.int .i64 qa,.int .i64 qo,.int .i64 qt],.int .u8 v,.int .i64 e]∧FSb w0.drew.heap.size [13,14] (β,w) (RdA x a9):=(hd 7 (by kernel_rfl)).1
   dsimp only at e118
   rw [eval_tmp] at e118
   replace g118:=Lib.hid g118
   clear cbM_0 cbM_1 cbM_2 cbM_3 cbM_4 cbM_5 cbN_0 cbN_1 cbN_2 c0
   clear hd ho
   replace hKq:=Lib.hid hKq;replace hE:=Lib.hid hE;replace hβ:=Lib.hid hβ
   go_simp
   exact hKq.out _ _ ⟨_,rfl,FSb.mono g118.out (RX0.ext hβ.out (by decide) (Ext.refl _))⟩ (RX.ext hβ.out (by decide) (Ext.refl _))
  ·intro β a w hβ hE hd ho
   refine .inl ⟨rfl,?_⟩
   intro Kq hKq
   have hF : Ext w0 w:=Ext.trans ((Ext.refl _).drew) (hE.to_ext (Nat.le_refl _))
   obtain ⟨⟨y1_110,y2_110,y3_110,y4_110,y5_110,y6_110⟩,e110,g110⟩ : ∃ a9 : A3,a.eval (.tmp 110) = .tuple #[.agg #[.slice a9.a1 x.mem.al.length a9.c1,.int .i64 x.mem.next,.slice a9.a2 x.stks.length a9.c2,.slice a9.a3 x.run.length a9.c3,.int .i64 x.tag,.int .i64 x.call],.agg #[.int .i64 qa,.int .i64 qo,.int .i64 qt],.int .u8 v,.int .i64 e]∧FSb w0.drew.heap.size [13,14] (β,w) (RdA x a9):=(hd 8 (by kernel_rfl)).1
   dsimp only at e110
   rw [eval_tmp] at e110
   replace g110:=Lib.hid g110
   clear cbM_0 cbM_1 cbM_2 cbM_3 cbM_4 cbM_5 cbN_0 cbN_1 cbN_2 c0
   clear hd ho
   replace hKq:=Lib.hid hKq;replace hE:=Lib.hid hE;replace hβ:=Lib.hid hβ
   go_simp
   exact hKq.out _ _ ⟨_,rfl,FSb.mono g110.out (RX0.ext hβ.out (by decide) (Ext.refl _))⟩ (RX.ext hβ.out (by decide) (Ext.refl _))
  ·intro β a w hβ hE hd ho
   refine .inl ⟨rfl,?_⟩
   intro Kq hKq
   have hF : Ext w0 w:=Ext.trans ((Ext.refl _).drew) (hE.to_ext (Nat.le_refl _))
   obtain ⟨⟨y1_110,y2_110,y3_110,y4_110,y5_110,y6_110⟩,e110,g110⟩ : ∃ a9 : A3,a.eval (.tmp 110) = .tuple #[.agg #[.slice a9.a1 x.mem.al.length a9.c1,.int .i64 x.mem.next,.slice a9.a2 x.stks.length a9.c2,.slice a9.a3 x.run.length a9.c3,.int .i64 x.tag,.int .i64 x.call],.agg #[.int .i64 qa,.int .i64 qo,.int .i64 qt],.int .u8 v,.int .i64 e]∧FSb w0.drew.heap.size [13,14] (β,w) (RdA x a9):=(hd 8 (by kernel_rfl)).1
   dsimp only at e110
   rw [eval_tmp] at e110
   replace g110:=Lib.hid g110
   clear cbM_0 cbM_1 cbM_2 cbM_3 cbM_4 cbM_5 cbN_0 cbN_1 cbN_2 c0
   clear hd ho
   replace hKq:=Lib.hid hKq;replace hE:=Lib.hid hE;replace hβ:=Lib.hid hβ
   go_simp
   exact hKq.out _ _ rfl (RX.ext hβ.out (by decide) (Ext.refl _))
  ·intro β a w hβ hE hd ho
   refine .inl ⟨rfl,?_⟩
   intro Kq hKq
   have hF : Ext w0 w:=Ext.trans ((Ext.refl _).drew) (hE.to_ext (Nat.le_refl _))
   obtain ⟨⟨y1_110,y2_110,y3_110,y4_110,y5_110,y6_110⟩,e110,g110⟩ : ∃ a9 : A3,a.eval (.tmp 110) = .tuple #[.agg #[.slice a9.a1 x.mem.al.length a9.c1,.int .i64 x.mem.next,.slice a9.a2 x.stks.length a9.c2,.slice a9.a3 x.run.length a9.c3,.int .i64 x.tag,.int .i64 x.call],.agg #[.int .i64 qa,.int .i64 qo,.int .i64 qt],.int .u8 v,.int .i64 e]∧FSb w0.drew.heap.size [13,14] (β,w) (RdA x a9):=(hd 8 (by kernel_rfl)).1
   dsimp only at e110
   rw [eval_tmp] at e110
   replace g110:=Lib.hid g110
   clear cbM_0 cbM_1 cbM_2 cbM_3 cbM_4 cbM_5 cbN_0 cbN_1 cbN_2 c0
   clear hd ho
   replace hKq:=Lib.hid hKq;replace hE:=Lib.hid hE;replace hβ:=Lib.hid hβ
   go_simp
   exact hKq.out _ _ rfl (RX.ext hβ.out (by decide) (Ext.refl _))
  ·intro β a w hβ hE hd ho
   refine .inl ⟨rfl,?_⟩
   intro Kq hKq
   have hF : Ext w0 w:=Ext.trans ((Ext.refl _).drew) (hE.to_ext (Nat.le_refl _))
   obtain ⟨⟨y1_110,y2_110,y3_110,y4_110,y5_110,y6_110⟩,e110,g110⟩ : ∃ a9 : A3,a.eval (.tmp 110) = .tuple #[.agg #[.slice a9.a1 x.mem.al.length a9.c1,.int .i64 x.mem.next,.slice a9.a2 x.stks.length a9.c2,.slice a9.a3 x.run.length a9.c3,.int .i64 x.tag,.int .i64 x.call],.agg #[.int .i64 qa,.int .i64 qo,.int .i64 qt],.int .u8 v,.int .i64 e]∧FSb w0.drew.heap.size [13,14] (β,w) (RdA x a9):=(hd 8 (by kernel_rfl)).1
   dsimp only at e110
   rw [eval_tmp] at e110
   replace g110:=Lib.hid g110
   clear cbM_0 cbM_1 cbM_2 cbM_3 cbM_4 cbM_5 cbN_0 cbN_1 cbN_2 c0
   clear hd ho
   replace hKq:=Lib.hid hKq;replace hE:=Lib.hid hE;replace hβ:=Lib.hid hβ
   go_simp
   exact hKq.out _ _ rfl (RX.ext hβ.out (by decide) (Ext.refl _))
  ·intro β a w hβ hE hd ho
   refine .inl ⟨rfl,?_⟩
   intro Kq hKq
   have hF : Ext w0 w:=Ext.trans ((Ext.refl _).drew) (hE.to_ext (Nat.le_refl _))
   clear cbM_0 cbM_1 cbM_2 cbM_3 cbM_4 cbM_5 cbN_0 cbN_1 cbN_2 c0
   clear hd ho
   replace hKq:=Lib.hid hKq;replace hE:=Lib.hid hE;replace hβ:=Lib.hid hβ
   go_simp
   exact hKq.out _ _ ⟨_,rfl,hF.size,#[.slice none 0 0,.int .i64 0,.slice none 0 0,.slice none 0 0,.int .i64 0,.int .i64 0],rfl,Box.new _ _ _⟩ (RX.made hβ.out ((Ext.refl _).alloc _) (fun x e=>by cases e;exact ⟨Nat.le_refl _,by simp⟩))
  ·intro β a w hβ hE hd ho
   refine .inl ⟨rfl,?_⟩
   intro Kq hKq
   have hF : Ext w0 w:=Ext.trans ((Ext.refl _).drew) (hE.to_ext (Nat.le_refl _))
   clear cbM_0 cbM_1 cbM_2 cbM_3 cbM_4 cbM_5 cbN_0 cbN_1 cbN_2 c0
   clear hd ho
   replace hKq:=Lib.hid hKq;replace hE:=Lib.hid hE;replace hβ:=Lib.hid hβ
   go_simp
   exact hKq.out _ _ ⟨_,rfl,hF.size,#[.int .i64 0,.int .i64 0,.int .i64 0],rfl,Box.new _ _ _⟩ (RX.made hβ.out ((Ext.refl _).alloc _) (fun x e=>by cases e;exact ⟨Nat.le_refl _,by simp⟩))
  ·intro β a w hβ hE hd ho
   refine .inl ⟨rfl,?_⟩
   intro Kq hKq
   have hF : Ext w0 w:=Ext.trans ((Ext.refl _).drew) (hE.to_ext (Nat.le_refl _))
   obtain ⟨bq,eq,hNb,vs0,hv0,hbx⟩ : ∃ b,a.eval (.tmp 21) = .pointer (some ⟨b,0,none⟩)∧w0.drew.heap.size≤b∧BoxT 35 6 w b:=(hd 13 (by kernel_rfl)).1
   have eqb : β 13=some (.pointer (some ⟨bq,0,none⟩)):=(hd 13 (by kernel_rfl)).2.trans (congrArg some eq)
   have eq0:=eq
   rw [eval_tmp] at eq
   obtain ⟨u0,u1,u2,u3,u4,u5,rfl⟩ : ∃ u0 u1 u2 u3 u4 u5,vs0=#[u0,u1,u2,u3,u4,u5]:=by match vs0,hv0 with | ⟨[u0,u1,u2,u3,u4,u5]⟩,_=>exact ⟨u0,u1,u2,u3,u4,u5,rfl⟩
   have bc0 : World.cell? w ⟨bq,0,none⟩=some u0:=hbx.cell 0
   have bf0:=hbx.frozen 0
   have bc1 : World.cell? w ⟨bq,1,none⟩=some u1:=hbx.cell 1
   have bf1:=hbx.frozen 1
   have bc2 : World.cell? w ⟨bq,2,none⟩=some u2:=hbx.cell 2
   have bf2:=hbx.frozen 2
   have bc3 : World.cell? w ⟨bq,3,none⟩=some u3:=hbx.cell 3
   have bf3:=hbx.frozen 3
   have bc4 : World.cell? w ⟨bq,4,none⟩=some u4:=hbx.cell 4
   have bf4:=hbx.frozen 4
   have bc5 : World.cell? w ⟨bq,5,none⟩=some u5:=hbx.cell 5
   have bf5:=hbx.frozen 5
   have hbl:=hbx.lt
   replace hbx:=Lib.hid hbx;replace eq0:=Lib.hid eq0;replace eqb:=Lib.hid eqb
   obtain ⟨⟨y1_119,y2_119,y3_119,y4_119,y5_119,y6_119⟩,e119,g119⟩ : ∃ a9 : A3,a.eval (.tmp 119) = .agg #[.slice a9.a1 x.mem.al.length a9.c1,.int .i64 x.mem.next,.slice a9.a2 x.stks.length a9.c2,.slice a9.a3 x.run.length a9.c3,.int .i64 x.tag,.int .i64 x.call]∧FSb w0.drew.heap.size [13,14] (β,w) (RdA x a9):=(hd 9 (by kernel_rfl)).1
   dsimp only at e119
   rw [eval_tmp] at e119
   replace g119:=Lib.hid g119
   clear cbM_0 cbM_1 cbM_2 cbM_3 cbM_4 cbM_5 cbN_0 cbN_1 cbN_2 c0
   clear hd ho
   replace hKq:=Lib.hid hKq;replace hE:=Lib.hid hE;replace hβ:=Lib.hid hβ
   go_simp
   have hBx : Box (World.setCell (World.setCell (World.setCell (World.setCell (World.setCell (World.setCell w ⟨bq,0,none⟩ (.slice y1_119 x.mem.al.length y2_119)) ⟨bq,1,none⟩ (.int .i64 x.mem.next)) ⟨bq,2,none⟩ (.slice y3_119 x.stks.length y4_119)) ⟨bq,3,none⟩ (.slice y5_119 x.run.length y6_119)) ⟨bq,4,none⟩ (.int .i64 x.tag)) ⟨bq,5,none⟩ (.int .i64 x.call)) bq 35 #[.slice y1_119 x.mem.al.length y2_119,.int .i64 x.mem.next,.slice y3_119 x.stks.length y4_119,.slice y5_119 x.run.length y6_119,.int .i64 x.tag,.int .i64 x.call]:=(Box.set (Box.set (Box.set (Box.set (Box.set (Box.set hbx.out 0 (.slice y1_119 x.mem.al.length y2_119)) 1 (.int .i64 x.mem.next)) 2 (.slice y3_119 x.stks.length y4_119)) 3 (.slice y5_119 x.run.length y6_119)) 4 (.int .i64 x.tag)) 5 (.int .i64 x.call))
   have hXR:=RX.store (X:=XM w0.drew.heap.size [13,14] x #[.int .i64 qa,.int .i64 qo,.int .i64 qt]) (i:=15) (v:=a.eval (.tmp 21)) hβ.out (by decide) (j:=13) (by decide) eqb.out hNb (ExtBut.trans (ExtBut.trans (ExtBut.trans (ExtBut.trans (ExtBut.trans (ExtBut.setCell w ⟨bq,0,none⟩ (.slice y1_119 x.mem.al.length y2_119)) (ExtBut.setCell (World.setCell w ⟨bq,0,none⟩ (.slice y1_119 x.mem.al.length y2_119)) ⟨bq,1,none⟩ (.int .i64 x.mem.next))) (ExtBut.setCell (World.setCell (World.setCell w ⟨bq,0,none⟩ (.slice y1_119 x.mem.al.length y2_119)) ⟨bq,1,none⟩ (.int .i64 x.mem.next)) ⟨bq,2,none⟩ (.slice y3_119 x.stks.length y4_119))) (ExtBut.setCell (World.setCell (World.setCell (World.setCell w ⟨bq,0,none⟩ (.slice y1_119 x.mem.al.length y2_119)) ⟨bq,1,none⟩ (.int .i64 x.mem.next)) ⟨bq,2,none⟩ (.slice y3_119 x.stks.length y4_119)) ⟨bq,3,none⟩ (.slice y5_119 x.run.length y6_119))) (ExtBut.setCell (World.setCell (World.setCell (World.setCell (World.setCell w ⟨bq,0,none⟩ (.slice y1_119 x.mem.al.length y2_119)) ⟨bq,1,none⟩ (.int .i64 x.mem.next)) ⟨bq,2,none⟩ (.slice y3_119 x.stks.length y4_119)) ⟨bq,3,none⟩ (.slice y5_119 x.run.length y6_119)) ⟨bq,4,none⟩ (.int .i64 x.tag))) (ExtBut.setCell (World.setCell (World.setCell (World.setCell (World.setCell (World.setCell w ⟨bq,0,none⟩ (.slice y1_119 x.mem.al.length y2_119)) ⟨bq,1,none⟩ (.int .i64 x.mem.next)) ⟨bq,2,none⟩ (.slice y3_119 x.stks.length y4_119)) ⟨bq,3,none⟩ (.slice y5_119 x.run.length y6_119)) ⟨bq,4,none⟩ (.int .i64 x.tag)) ⟨bq,5,none⟩ (.int .i64 x.call))) hbx.out hBx rfl (fun hR0=>⟨fun _=>⟨⟨y1_119,y2_119,y3_119,y4_119,y5_119,y6_119⟩,rfl,FSb.mono g119.out hR0⟩,fun h=>(by cases h)⟩)
   exact hKq.out undef (World.setCell (World.setCell (World.setCell (World.setCell (World.setCell (World.setCell w ⟨bq,0,none⟩ (.slice y1_119 x.mem.al.length y2_119)) ⟨bq,1,none⟩ (.int .i64 x.mem.next)) ⟨bq,2,none⟩ (.slice y3_119 x.stks.length y4_119)) ⟨bq,3,none⟩ (.slice y5_119 x.run.length y6_119)) ⟨bq,4,none⟩ (.int .i64 x.tag)) ⟨bq,5,none⟩ (.int .i64 x.call)) ⟨bq,_,eq0.out,hNb,hBx,hXR.1⟩ hXR.2
  ·intro β a w hβ hE hd ho
   refine .inl ⟨rfl,?_⟩
   intro Kq hKq
   have hF : Ext w0 w:=Ext.trans ((Ext.refl _).drew) (hE.to_ext (Nat.le_refl _))
   obtain ⟨bq,eq,hNb,vs0,hv0,hbx⟩ : ∃ b,a.eval (.tmp 22) = .pointer (some ⟨b,0,none⟩)∧w0.drew.heap.size≤b∧BoxT 26 3 w b:=(hd 14 (by kernel_rfl)).1
   have eqb : β 14=some (.pointer (some ⟨bq,0,none⟩)):=(hd 14 (by kernel_rfl)).2.trans (congrArg some eq)
   have eq0:=eq
   rw [eval_tmp] at eq
   obtain ⟨u0,u1,u2,rfl⟩ : ∃ u0 u1 u2,vs0=#[u0,u1,u2]:=by match vs0,hv0 with | ⟨[u0,u1,u2]⟩,_=>exact ⟨u0,u1,u2,rfl⟩
   have bc0 : World.cell? w ⟨bq,0,none⟩=some u0:=hbx.cell 0
   have bf0:=hbx.frozen 0
   have bc1 : World.cell? w ⟨bq,1,none⟩=some u1:=hbx.cell 1
   have bf1:=hbx.frozen 1
   have bc2 : World.cell? w ⟨bq,2,none⟩=some u2:=hbx.cell 2
   have bf2:=hbx.frozen 2
   have hbl:=hbx.lt
   replace hbx:=Lib.hid hbx;replace eq0:=Lib.hid eq0;replace eqb:=Lib.hid eqb
   have e120 : a.eval (.tmp 120) = .agg #[.int .i64 qa,.int .i64 qo,.int .i64 qt]:=(hd 10 (by kernel_rfl)).1
   rw [eval_tmp] at e120
   clear cbM_0 cbM_1 cbM_2 cbM_3 cbM_4 cbM_5 cbN_0 cbN_1 cbN_2 c0
   clear hd ho
   replace hKq:=Lib.hid hKq;replace hE:=Lib.hid hE;replace hβ:=Lib.hid hβ
   go_simp
   have hBx : Box (World.setCell (World.setCell (World.setCell w ⟨bq,0,none⟩ (.int .i64 qa)) ⟨bq,1,none⟩ (.int .i64 qo)) ⟨bq,2,none⟩ (.int .i64 qt)) bq 26 #[.int .i64 qa,.int .i64 qo,.int .i64 qt]:=(Box.set (Box.set (Box.set hbx.out 0 (.int .i64 qa)) 1 (.int .i64 qo)) 2 (.int .i64 qt))
   have hXR:=RX.store (X:=XM w0.drew.heap.size [13,14] x #[.int .i64 qa,.int .i64 qo,.int .i64 qt]) (i:=16) (v:=a.eval (.tmp 22)) hβ.out (by decide) (j:=14) (by decide) eqb.out hNb (ExtBut.trans (ExtBut.trans (ExtBut.setCell w ⟨bq,0,none⟩ (.int .i64 qa)) (ExtBut.setCell (World.setCell w ⟨bq,0,none⟩ (.int .i64 qa)) ⟨bq,1,none⟩ (.int .i64 qo))) (ExtBut.setCell (World.setCell (World.setCell w ⟨bq,0,none⟩ (.int .i64 qa)) ⟨bq,1,none⟩ (.int .i64 qo)) ⟨bq,2,none⟩ (.int .i64 qt))) hbx.out hBx rfl (fun hR0=>(have _ : RX0 w0.drew.heap.size [13,14] _ _:=hR0;⟨fun h=>(by cases h),fun _=>rfl⟩))
   exact hKq.out undef (World.setCell (World.setCell (World.setCell w ⟨bq,0,none⟩ (.int .i64 qa)) ⟨bq,1,none⟩ (.int .i64 qo)) ⟨bq,2,none⟩ (.int .i64 qt)) ⟨bq,_,eq0.out,hNb,hBx,hXR.1⟩ hXR.2
  ·intro β a w hβ hE hd ho
   refine .inl ⟨rfl,?_⟩
   intro Kq hKq
   have hF : Ext w0 w:=Ext.trans ((Ext.refl _).drew) (hE.to_ext (Nat.le_refl _))
   have e121 : a.eval (.tmp 121) = .int .u8 v:=(hd 11 (by kernel_rfl)).1
   rw [eval_tmp] at e121
   clear cbM_0 cbM_1 cbM_2 cbM_3 cbM_4 cbM_5 cbN_0 cbN_1 cbN_2 c0
   clear hd ho
   replace hKq:=Lib.hid hKq;replace hE:=Lib.hid hE;replace hβ:=Lib.hid hβ
   go_simp
   exact hKq.out _ _ rfl (RX.ext hβ.out (by decide) (Ext.refl _))
  ·intro β a w hβ hE hd ho
   refine .inl ⟨rfl,?_⟩
   intro Kq hKq
   have hF : Ext w0 w:=Ext.trans ((Ext.refl _).drew) (hE.to_ext (Nat.le_refl _))
   have e122 : a.eval (.tmp 122) = .int .i64 e:=(hd 12 (by kernel_rfl)).1
   rw [eval_tmp] at e122
   clear cbM_0 cbM_1 cbM_2 cbM_3 cbM_4 cbM_5 cbN_0 cbN_1 cbN_2 c0
   clear hd ho
   replace hKq:=Lib.hid hKq;replace hE:=Lib.hid hE;replace hβ:=Lib.hid hβ
   go_simp
   exact hKq.out _ _ rfl (RX.ext hβ.out (by decide) (Ext.refl _))
 ·intro vals β Ac wq hAc hE hv hsv hbv
  have hF : Ext w0 wq:=Ext.trans ((Ext.refl _).drew) (hE.to_ext (Nat.le_refl _))
  obtain ⟨bR_a,vs9,eb,hNR,bR,hXX⟩:=hv 15 (by decide)
  obtain ⟨⟨v_na,v_nac,v_nk,v_nkc,v_nr,v_nrc⟩,rfl,hq9⟩:=hXX.1 rfl
  dsimp only at bR
  obtain ⟨bQ_a,vs8,ec,hNQ,bQ,hXY⟩:=hv 16 (by decide)
  obtain rfl:=hXY.2 rfl
  have e1 : vals 13 = .pointer (some ⟨bR_a,0,none⟩):=((hsv 13).trans (hsv 15).symm).trans eb
  have e2 : vals 14 = .pointer (some ⟨bQ_a,0,none⟩):=((hsv 14).trans (hsv 16).symm).trans ec
  have e3 : vals 17 = .int .u8 v:=hv 17 (by decide)
  have e4 : vals 18 = .int .i64 e:=hv 18 (by decide)
  have qn : Fq (fun b=>b≠AM∧b≠AX∧b≠AN∧True) wq (fun w=>RdA x ⟨v_na,v_nac,v_nk,v_nkc,v_nr,v_nrc⟩ w):=Fq.mono hq9 (fun b h1 hl=>⟨by have g9:=ltbM;have h9 : w0.heap.size≤b:=h1.1;omega,by have g9:=ltbX;have h9 : w0.heap.size≤b:=h1.1;omega,by have g9:=ltbN;have h9 : w0.heap.size≤b:=h1.1;omega,trivial⟩)
  have rR_bM : Hid (AM < bR_a):=Hid.mk (Nat.lt_of_lt_of_le ltbM hNR)
  have rR_bX : Hid (AX < bR_a):=Hid.mk (Nat.lt_of_lt_of_le ltbX hNR)
  have rR_bN : Hid (AN < bR_a):=Hid.mk (Nat.lt_of_lt_of_le ltbN hNR)
  have rQ_bM : Hid (AM < bQ_a):=Hid.mk (Nat.lt_of_lt_of_le ltbM hNQ)
  have rQ_bX : Hid (AX < bQ_a):=Hid.mk (Nat.lt_of_lt_of_le ltbX hNQ)
  have rQ_bN : Hid (AN < bQ_a):=Hid.mk (Nat.lt_of_lt_of_le ltbN hNQ)
  clear hNR hNQ
  clear hv hsv hbv hE eb ec hXX hXY hq9 rr cbM_0 cbM_1 cbM_2 cbM_3 cbM_4 cbM_5 cbN_0 cbN_1 cbN_2 c0
  subst hAc
  simp only [putAll]
  go_simp
  try rw [e1,e2,e3,e4]
  clear e1 e2 e3 e4 ltbM ltbX ltbN
  obtain ⟨wn,hwn⟩ : ∃ z,wq=z:=⟨_,rfl⟩
  rw [hwn] at hF qn bR bQ ⊢
  clear hwn
  replace bM:=bM.ext hF
  replace bX:=bX.ext hF
  replace bN:=bN.ext hF
  replace bP:=bP.ext hF
  replace Gm:=Lib.hid (Fq.ext Gm.out hF)
  replace GX:=Lib.hid (Fq.ext GX.out hF)
  replace GL:=Lib.hid (Fq.ext GL.out hF)
  have hF1:=Ext.trans hFr hF
  have Gn:=Lib.hid qn;clear qn
  go_upto_region 15 with fail
  have c0:=Uts.cell (Uts.ext hkd.out hF1) hxk.out
  obtain ⟨kb9,ko9,e9,-,c0⟩:=c0
  simp only [Option.some.injEq,Addr.mk.injEq,and_true] at e9
  obtain ⟨rfl,rfl⟩:=e9
  have cbX_0 : World.cell? wn ⟨AX,0,none⟩=some (.int .i64 0):=bX.cell 0
  have cbX_1 : World.cell? wn ⟨AX,1,none⟩=some (.slice ya l.length yc):=bX.cell 1
  have cbN_2 : World.cell? wn ⟨AN,2,none⟩=some (.int .i64 it.t):=bN.cell 2
  have cbM_4 : World.cell? wn ⟨AM,4,none⟩=some (.int .i64 m.tag):=bM.cell 4
  have rr:=Lib.hid GX.out.read
  have ltbM:=bM.lt
  have ltbX:=bX.lt
  have ltbN:=bN.lt
  refine wp_region_st (R:=RX wn.drew.heap.size [16] (XK wn.drew.heap.size [16] ⟨yn,yl⟩)) RX.refl (fun _ _ _=>RX.trans XK_st) [PrS.eq _ (.agg #[.int .i64 0,.slice ya l.length yc]),PrS.eq _ (.int .i64 (l.length : Int)),PrS.eq _ (.slice (some ⟨kb,ko,none⟩) kinds.length klc),PrS.eq _ (.int .i64 (k : Int)),PrS.eq _ (.pointer (some ⟨kb,ko+k,none⟩)),PrS.eq _ (.int .u8 kd),PrS.eq _ (.pointer (some ⟨AN,2,none⟩)),PrS.eq _ (.int .i64 it.t),PrS.eq _ (.pointer (some ⟨AM,4,none⟩)),PrS.eq _ (.int .i64 m.tag),PrS.eq _ (.agg #[.int .u8 0,.int .i64 m.tag,.int .i64 0]),(PrFS wn.drew.heap.size [16] (XK wn.drew.heap.size [16] ⟨yn,yl⟩) (fun a9 : Option Addr × Nat => .tuple #[.agg #[.int .i64 yn,.slice a9.1 yl.length a9.2],.int .u8 v2,.int .i64 e2]) (fun a9 w=>Sts w (.slice a9.1 yl.length a9.2) yl)),(PrFS wn.drew.heap.size [16] (XK wn.drew.heap.size [16] ⟨yn,yl⟩) (fun a9 : Option Addr × Nat => .tuple #[.agg #[.int .i64 yn,.slice a9.1 yl.length a9.2],.int .u8 v2,.int .i64 e2]) (fun a9 w=>Sts w (.slice a9.1 yl.length a9.2) yl)),(PrFS wn.drew.heap.size [16] (XK wn.drew.heap.size [16] ⟨yn,yl⟩) (fun a9 : Option Addr × Nat => .agg #[.int .i64 yn,.slice a9.1 yl.length a9.2]) (fun a9 w=>Sts w (.slice a9.1 yl.length a9.2) yl)),PrS.eq _ (.int .u8 v2),PrS.eq _ (.int .i64 e2),(PrBx wn.drew.heap.size [16] (XK wn.drew.heap.size [16] ⟨yn,yl⟩) 44 2),(PrSt wn.drew.heap.size [16] (XK wn.drew.heap.size [16] ⟨yn,yl⟩) XK_st 44),PrS.eq _ (.int .u8 v2),PrS.eq _ (.int .i64 e2)] (by kernel_rfl) (by kernel_rfl) ?_ ?_
  ·refine ⟨?_,?_,?_,?_,?_,?_,?_,?_,?_,?_,?_,?_,?_,?_,?_,?_,?_,?_,?_,?_,trivial⟩
   ·intro β a w hβ hE hd ho
    refine .inl ⟨rfl,?_⟩
    intro Kq hKq
    have hF : Ext wn w:=Ext.trans ((Ext.refl _).drew) (hE.to_ext (Nat.le_refl _))
    have e16 : a.eval (.tmp 16) = .pointer (some ⟨AX,0,none⟩):=ho 16 (by kernel_rfl)
    rw [eval_tmp] at e16
    have cbX_0w:=Ext.cell hF cbX_0
    have cbX_1w:=Ext.cell hF cbX_1
    clear cbX_0 cbX_1 cbN_2 cbM_4 c0
    clear hd ho
    replace hKq:=Lib.hid hKq;replace hE:=Lib.hid hE;replace hβ:=Lib.hid hβ
    go_simp
    exact hKq.out _ _ rfl (RX.ext hβ.out (by decide) (Ext.refl _))
   ·intro β a w hβ hE hd ho
    refine .inl ⟨rfl,?_⟩
    intro Kq hKq
    have hF : Ext wn w:=Ext.trans ((Ext.refl _).drew) (hE.to_ext (Nat.le_refl _))
    have e0 : a.eval (.tmp 0) = .int .i64 (l.length : Int):=ho 0 (by kernel_rfl)
    rw [eval_tmp] at e0
    clear cbX_0 cbX_1 cbN_2 cbM_4 c0
    clear hd ho
    replace hKq:=Lib.hid hKq;replace hE:=Lib.hid hE;replace hβ:=Lib.hid hβ
    go_simp
    exact hKq.out _ _ rfl (RX.ext hβ.out (by decide) (Ext.refl _))
   ·intro β a w hβ hE hd ho
    refine .inl ⟨rfl,?_⟩
    intro Kq hKq
    have hF : Ext wn w:=Ext.trans ((Ext.refl _).drew) (hE.to_ext (Nat.le_refl _))
    have e1 : a.eval (.tmp 1) = .slice (some ⟨kb,ko,none⟩) kinds.length klc:=ho 1 (by kernel_rfl)
    rw [eval_tmp] at e1
    clear cbX_0 cbX_1 cbN_2 cbM_4 c0
    clear hd ho
    replace hKq:=Lib.hid hKq;replace hE:=Lib.hid hE;replace hβ:=Lib.hid hβ
    go_simp
    exact hKq.out _ _ rfl (RX.ext hβ.out (by decide) (Ext.refl _))
   ·intro β a w hβ hE hd ho
    refine .inl ⟨rfl,?_⟩
    intro Kq hKq
    have hF : Ext wn w:=Ext.trans ((Ext.refl _).drew) (hE.to_ext (Nat.le_refl _))
    have e20 : a.eval (.tmp 20) = .int .i64 (k : Int):=ho 20 (by kernel_rfl)
    rw [eval_tmp] at e20
    clear cbX_0 cbX_1 cbN_2 cbM_4 c0
    clear hd ho
    replace hKq:=Lib.hid hKq;replace hE:=Lib.hid hE;replace hβ:=Lib.hid hβ
    go_simp
    exact hKq.out _ _ rfl (RX.ext hβ.out (by decide) (Ext.refl _))
   ·intro β a w hβ hE hd ho
    refine .inl ⟨rfl,?_⟩
    intro Kq hKq
    have hF : Ext wn w:=Ext.trans ((Ext.refl _).drew) (hE.to_ext (Nat.le_refl _))
    have e126 : a.eval (.tmp 126) = .slice (some ⟨kb,ko,none⟩) kinds.length klc:=(hd 2 (by kernel_rfl)).1
    rw [eval_tmp] at e126
    have e127 : a.eval (.tmp 127) = .int .i64 (k : Int):=(hd 3 (by kernel_rfl)).1
    rw [eval_tmp] at e127
    clear cbX_0 cbX_1 cbN_2 cbM_4 c0
    have hi0 : (0 : Int)≤(k : Int):=by omega
    have hi1 : (k : Int) < (kinds.length : Int):=by have:=hkl.out;omega
    clear hd ho
    replace hKq:=Lib.hid hKq;replace hE:=Lib.hid hE;replace hβ:=Lib.hid hβ
    go_simp
    exact hKq.out _ _ rfl (RX.ext hβ.out (by decide) (Ext.refl _))
   ·intro β a w hβ hE hd ho
    refine .inl ⟨rfl,?_⟩
    intro Kq hKq
    have hF : Ext wn w:=Ext.trans ((Ext.refl _).drew) (hE.to_ext (Nat.le_refl _))
    have e128 : a.eval (.tmp 128) = .pointer (some ⟨kb,ko+k,none⟩):=(hd 4 (by kernel_rfl)).1
    rw [eval_tmp] at e128
    have c0w:=Ext.cell hF c0
    clear cbX_0 cbX_1 cbN_2 cbM_4 c0
    clear hd ho
    replace hKq:=Lib.hid hKq;replace hE:=Lib.hid hE;replace hβ:=Lib.hid hβ
    go_simp
    exact hKq.out _ _ rfl (RX.ext hβ.out (by decide) (Ext.refl _))
   ·intro β a w hβ hE hd ho
    refine .inl ⟨rfl,?_⟩
    intro Kq hKq
    have hF : Ext wn w:=Ext.trans ((Ext.refl _).drew) (hE.to_ext (Nat.le_refl _))
    have e18 : a.eval (.tmp 18) = .pointer (some ⟨AN,0,none⟩):=ho 18 (by kernel_rfl)
    rw [eval_tmp] at e18
    clear cbX_0 cbX_1 cbN_2 cbM_4 c0
    clear hd ho
    replace hKq:=Lib.hid hKq;replace hE:=Lib.hid hE;replace hβ:=Lib.hid hβ
    go_simp
    exact hKq.out _ _ rfl (RX.ext hβ.out (by decide) (Ext.refl _))
   ·intro β a w hβ hE hd ho
    refine .inl ⟨rfl,?_⟩
    intro Kq hKq
    have hF : Ext wn w:=Ext.trans ((Ext.refl _).drew) (hE.to_ext (Nat.le_refl _))
    have e130 : a.eval (.tmp 130) = .pointer (some ⟨AN,2,none⟩):=(hd 6 (by kernel_rfl)).1
    rw [eval_tmp] at e130
    have cbN_2w:=Ext.cell hF cbN_2
    clear cbX_0 cbX_1 cbN_2 cbM_4 c0
    clear hd ho
    replace hKq:=Lib.hid hKq;replace hE:=Lib.hid hE;replace hβ:=Lib.hid hβ
    go_simp
    exact hKq.out _ _ rfl (RX.ext hβ.out (by decide) (Ext.refl _))
   ·intro β a w hβ hE hd ho
    refine .inl ⟨rfl,?_⟩
    intro Kq hKq
    have hF : Ext wn w:=Ext.trans ((Ext.refl _).drew) (hE.to_ext (Nat.le_refl _))
    have e11 : a.eval (.tmp 11) = .pointer (some ⟨AM,0,none⟩):=ho 11 (by kernel_rfl)
    rw [eval_tmp] at e11
    clear cbX_0 cbX_1 cbN_2 cbM_4 c0
    clear hd ho
    replace hKq:=Lib.hid hKq;replace hE:=Lib.hid hE;replace hβ:=Lib.hid hβ
    go_simp
    exact hKq.out _ _ rfl (RX.ext hβ.out (by decide) (Ext.refl _))
   ·intro β a w hβ hE hd ho
    refine .inl ⟨rfl,?_⟩
    intro Kq hKq
    have hF : Ext wn w:=Ext.trans ((Ext.refl _).drew) (hE.to_ext (Nat.le_refl _))
    have e132 : a.eval (.tmp 132) = .pointer (some ⟨AM,4,none⟩):=(hd 8 (by kernel_rfl)).1
    rw [eval_tmp] at e132
    have cbM_4w:=Ext.cell hF cbM_4
    clear cbX_0 cbX_1 cbN_2 cbM_4 c0
    clear hd ho
    replace hKq:=Lib.hid hKq;replace hE:=Lib.hid hE;replace hβ:=Lib.hid hβ
    go_simp
    exact hKq.out _ _ rfl (RX.ext hβ.out (by decide) (Ext.refl _))
   ·intro β a w hβ hE hd ho
    refine .inl ⟨rfl,?_⟩
    intro Kq hKq
    have hF : Ext wn w:=Ext.trans ((Ext.refl _).drew) (hE.to_ext (Nat.le_refl _))
    have e133 : a.eval (.tmp 133) = .int .i64 m.tag:=(hd 9 (by kernel_rfl)).1
    rw [eval_tmp] at e133
    clear cbX_0 cbX_1 cbN_2 cbM_4 c0
    clear hd ho
    replace hKq:=Lib.hid hKq;replace hE:=Lib.hid hE;replace hβ:=Lib.hid hβ
    go_simp
    exact hKq.out _ _ rfl (RX.ext hβ.out (by decide) (Ext.refl _))
   ·intro β a w hβ hE hd ho
    refine .inl ⟨rfl,?_⟩
    intro Kq hKq
    have hF : Ext wn w:=Ext.trans ((Ext.refl _).drew) (hE.to_ext (Nat.le_refl _))
    have e124 : a.eval (.tmp 124) = .agg #[.int .i64 0,.slice ya l.length yc]:=(hd 0 (by kernel_rfl)).1
    rw [eval_tmp] at e124
    have e125 : a.eval (.tmp 125) = .int .i64 (l.length : Int):=(hd 1 (by kernel_rfl)).1
    rw [eval_tmp] at e125
    have e129 : a.eval (.tmp 129) = .int .u8 kd:=(hd 5 (by kernel_rfl)).1
    rw [eval_tmp] at e129
    have e131 : a.eval (.tmp 131) = .int .i64 it.t:=(hd 7 (by kernel_rfl)).1
    rw [eval_tmp] at e131
    have e134 : a.eval (.tmp 134) = .agg #[.int .u8 0,.int .i64 m.tag,.int .i64 0]:=(hd 10 (by kernel_rfl)).1
    rw [eval_tmp] at e134
    clear cbX_0 cbX_1 cbN_2 cbM_4 c0
    clear hd ho
    replace hKq:=Lib.hid hKq;replace hE:=Lib.hid hE;replace hβ:=Lib.hid hβ
    go_simp
    refine (stacks_Retag (l:=List.replicate l.length (U ++ [it])) (num:=0) (a:=0) (n:=(l.length : Int)) (kind:=kd) (run:=[]) (hp.out.ext (Ext.trans hF1 hF)) hkd8.out it.t ⟨0,m.tag,0⟩ (rr.out.ext hF) (Nts.nil _)).mono ?_
    rintro e wz ⟨vt,vts,rfl,oS,hZ⟩
    rw [hts.out] at oS ⊢
    dsimp only at oS ⊢
    obtain ⟨za,zc,rfl,-⟩:=oS.sts.form
    go_simp
    exact hKq.out _ _ ⟨(za,zc),rfl,FSb.new hE.out (by decide) hF.size (OwnS.fs oS)⟩ (RX.ext hβ.out (by decide) hZ)
   ·intro β a w hβ hE hd ho
    refine .inl ⟨rfl,?_⟩
    intro Kq hKq
    have hF : Ext wn w:=Ext.trans ((Ext.refl _).drew) (hE.to_ext (Nat.le_refl _))
    obtain ⟨⟨y1_135,y2_135⟩,e135,g135⟩ : ∃ a9 : Option Addr × Nat,a.eval (.tmp 135) = .tuple #[.agg #[.int .i64 yn,.slice a9.1 yl.length a9.2],.int .u8 v2,.int .i64 e2]∧FSb wn.drew.heap.size [16] (β,w) (fun w=>Sts w (.slice a9.1 yl.length a9.2) yl):=(hd 11 (by kernel_rfl)).1
    dsimp only at e135 g135
    rw [eval_tmp] at e135
    replace g135:=Lib.hid g135
    clear cbX_0 cbX_1 cbN_2 cbM_4 c0
    clear hd ho
    replace hKq:=Lib.hid hKq;replace hE:=Lib.hid hE;replace hβ:=Lib.hid hβ
    go_simp
    exact hKq.out _ _ ⟨(y1_135,y2_135),rfl,FSb.mono g135.out (RX0.ext hβ.out (by decide) (Ext.refl _))⟩ (RX.ext hβ.out (by decide) (Ext.refl _))
   ·intro β a w hβ hE hd ho
    refine .inl ⟨rfl,?_⟩
    intro Kq hKq
    have hF : Ext wn w:=Ext.trans ((Ext.refl _).drew) (hE.to_ext (Nat.le_refl _))
    obtain ⟨⟨y1_123,y2_123⟩,e123,g123⟩ : ∃ a9 : Option Addr × Nat,a.eval (.tmp 123) = .tuple #[.agg #[.int .i64 yn,.slice a9.1 yl.length a9.2],.int .u8 v2,.int .i64 e2]∧FSb wn.drew.heap.size [16] (β,w) (fun w=>Sts w (.slice a9.1 yl.length a9.2) yl):=(hd 12 (by kernel_rfl)).1
    dsimp only at e123 g123
    rw [eval_tmp] at e123
    replace g123:=Lib.hid g123
    clear cbX_0 cbX_1 cbN_2 cbM_4 c0
    clear hd ho
    replace hKq:=Lib.hid hKq;replace hE:=Lib.hid hE;replace hβ:=Lib.hid hβ
    go_simp
    exact hKq.out _ _ ⟨(y1_123,y2_123),rfl,FSb.mono g123.out (RX0.ext hβ.out (by decide) (Ext.refl _))⟩ (RX.ext hβ.out (by decide) (Ext.refl _))
   ·intro β a w hβ hE hd ho
    refine .inl ⟨rfl,?_⟩
    intro Kq hKq
    have hF : Ext wn w:=Ext.trans ((Ext.refl _).drew) (hE.to_ext (Nat.le_refl _))
    obtain ⟨⟨y1_123,y2_123⟩,e123,g123⟩ : ∃ a9 : Option Addr × Nat,a.eval (.tmp 123) = .tuple #[.agg #[.int .i64 yn,.slice a9.1 yl.length a9.2],.int .u8 v2,.int .i64 e2]∧FSb wn.drew.heap.size [16] (β,w) (fun w=>Sts w (.slice a9.1 yl.length a9.2) yl):=(hd 12 (by kernel_rfl)).1
    dsimp only at e123 g123
    rw [eval_tmp] at e123
    replace g123:=Lib.hid g123
    clear cbX_0 cbX_1 cbN_2 cbM_4 c0
    clear hd ho
    replace hKq:=Lib.hid hKq;replace hE:=Lib.hid hE;replace hβ:=Lib.hid hβ
    go_simp
    exact hKq.out _ _ rfl (RX.ext hβ.out (by decide) (Ext.refl _))
   ·intro β a w hβ hE hd ho
    refine .inl ⟨rfl,?_⟩
    intro Kq hKq
    have hF : Ext wn w:=Ext.trans ((Ext.refl _).drew) (hE.to_ext (Nat.le_refl _))
    obtain ⟨⟨y1_123,y2_123⟩,e123,g123⟩ : ∃ a9 : Option Addr × Nat,a.eval (.tmp 123) = .tuple #[.agg #[.int .i64 yn,.slice a9.1 yl.length a9.2],.int .u8 v2,.int .i64 e2]∧FSb wn.drew.heap.size [16] (β,w) (fun w=>Sts w (.slice a9.1 yl.length a9.2) yl):=(hd 12 (by kernel_rfl)).1
    dsimp only at e123 g123
    rw [eval_tmp] at e123
    replace g123:=Lib.hid g123
    clear cbX_0 cbX_1 cbN_2 cbM_4 c0
    clear hd ho
    replace hKq:=Lib.hid hKq;replace hE:=Lib.hid hE;replace hβ:=Lib.hid hβ
    go_simp
    exact hKq.out _ _ rfl (RX.ext hβ.out (by decide) (Ext.refl _))
   ·intro β a w hβ hE hd ho
    refine .inl ⟨rfl,?_⟩
    intro Kq hKq
    have hF : Ext wn w:=Ext.trans ((Ext.refl _).drew) (hE.to_ext (Nat.le_refl _))
    clear cbX_0 cbX_1 cbN_2 cbM_4 c0
    clear hd ho
    replace hKq:=Lib.hid hKq;replace hE:=Lib.hid hE;replace hβ:=Lib.hid hβ
    go_simp
    exact hKq.out _ _ ⟨_,rfl,hF.size,#[.int .i64 0,.slice none 0 0],rfl,Box.new _ _ _⟩ (RX.made hβ.out ((Ext.refl _).alloc _) (fun x e=>by cases e;exact ⟨Nat.le_refl _,by simp⟩))
   ·intro β a w hβ hE hd ho
    refine .inl ⟨rfl,?_⟩
    intro Kq hKq
    have hF : Ext wn w:=Ext.trans ((Ext.refl _).drew) (hE.to_ext (Nat.le_refl _))
    obtain ⟨bq,eq,hNb,vs0,hv0,hbx⟩ : ∃ b,a.eval (.tmp 25) = .pointer (some ⟨b,0,none⟩)∧wn.drew.heap.size≤b∧BoxT 44 2 w b:=(hd 16 (by kernel_rfl)).1
    have eqb : β 16=some (.pointer (some ⟨bq,0,none⟩)):=(hd 16 (by kernel_rfl)).2.trans (congrArg some eq)
    have eq0:=eq
    rw [eval_tmp] at eq
    obtain ⟨u0,u1,rfl⟩ : ∃ u0 u1,vs0=#[u0,u1]:=by match vs0,hv0 with | ⟨[u0,u1]⟩,_=>exact ⟨u0,u1,rfl⟩
    have bc0 : World.cell? w ⟨bq,0,none⟩=some u0:=hbx.cell 0
    have bf0:=hbx.frozen 0
    have bc1 : World.cell? w ⟨bq,1,none⟩=some u1:=hbx.cell 1
    have bf1:=hbx.frozen 1
    have hbl:=hbx.lt
    replace hbx:=Lib.hid hbx;replace eq0:=Lib.hid eq0;replace eqb:=Lib.hid eqb
    obtain ⟨⟨y1_136,y2_136⟩,e136,g136⟩ : ∃ a9 : Option Addr × Nat,a.eval (.tmp 136) = .agg #[.int .i64 yn,.slice a9.1 yl.length a9.2]∧FSb wn.drew.heap.size [16] (β,w) (fun w=>Sts w (.slice a9.1 yl.length a9.2) yl):=(hd 13 (by kernel_rfl)).1
    dsimp only at e136 g136
    rw [eval_tmp] at e136
    replace g136:=Lib.hid g136
    clear cbX_0 cbX_1 cbN_2 cbM_4 c0
    clear hd ho
    replace hKq:=Lib.hid hKq;replace hE:=Lib.hid hE;replace hβ:=Lib.hid hβ
    go_simp
    have hBx : Box (World.setCell (World.setCell w ⟨bq,0,none⟩ (.int .i64 yn)) ⟨bq,1,none⟩ (.slice y1_136 yl.length y2_136)) bq 44 #[.int .i64 yn,.slice y1_136 yl.length y2_136]:=(Box.set (Box.set hbx.out 0 (.int .i64 yn)) 1 (.slice y1_136 yl.length y2_136))
    have hXR:=RX.store (X:=XK wn.drew.heap.size [16] ⟨yn,yl⟩) (i:=17) (v:=a.eval (.tmp 25)) hβ.out (by decide) (j:=16) (by decide) eqb.out hNb (ExtBut.trans (ExtBut.setCell w ⟨bq,0,none⟩ (.int .i64 yn)) (ExtBut.setCell (World.setCell w ⟨bq,0,none⟩ (.int .i64 yn)) ⟨bq,1,none⟩ (.slice y1_136 yl.length y2_136))) hbx.out hBx rfl (fun hR0=>(fun _=>⟨(y1_136,y2_136),rfl,FSb.mono g136.out hR0⟩))
    exact hKq.out undef (World.setCell (World.setCell w ⟨bq,0,none⟩ (.int .i64 yn)) ⟨bq,1,none⟩ (.slice y1_136 yl.length y2_136)) ⟨bq,_,eq0.out,hNb,hBx,hXR.1⟩ hXR.2
   ·intro β a w hβ hE hd ho
    refine .inl ⟨rfl,?_⟩
    intro Kq hKq
    have hF : Ext wn w:=Ext.trans ((Ext.refl _).drew) (hE.to_ext (Nat.le_refl _))
    have e137 : a.eval (.tmp 137) = .int .u8 v2:=(hd 14 (by kernel_rfl)).1
    rw [eval_tmp] at e137
    clear cbX_0 cbX_1 cbN_2 cbM_4 c0
    clear hd ho
    replace hKq:=Lib.hid hKq;replace hE:=Lib.hid hE;replace hβ:=Lib.hid hβ
    go_simp
    exact hKq.out _ _ rfl (RX.ext hβ.out (by decide) (Ext.refl _))
   ·intro β a w hβ hE hd ho
    refine .inl ⟨rfl,?_⟩
    intro Kq hKq
    have hF : Ext wn w:=Ext.trans ((Ext.refl _).drew) (hE.to_ext (Nat.le_refl _))
    have e138 : a.eval (.tmp 138) = .int .i64 e2:=(hd 15 (by kernel_rfl)).1
    rw [eval_tmp] at e138
    clear cbX_0 cbX_1 cbN_2 cbM_4 c0
    clear hd ho
    replace hKq:=Lib.hid hKq;replace hE:=Lib.hid hE;replace hβ:=Lib.hid hβ
    go_simp
    exact hKq.out _ _ rfl (RX.ext hβ.out (by decide) (Ext.refl _))
  ·intro vals β Ac wq hAc hE hv hsv hbv
   have hF : Ext wn wq:=Ext.trans ((Ext.refl _).drew) (hE.to_ext (Nat.le_refl _))
   obtain ⟨bW_a,vs9,eb,hNW,bW,hXX⟩:=hv 17 (by decide)
   obtain ⟨⟨wa9,wc9⟩,rfl,hq9⟩:=hXX rfl
   dsimp only at bW hq9
   have e1 : vals 16 = .pointer (some ⟨bW_a,0,none⟩):=((hsv 16).trans (hsv 17).symm).trans eb
   have e3 : vals 18 = .int .u8 v2:=hv 18 (by decide)
   have e4 : vals 19 = .int .i64 e2:=hv 19 (by decide)
   have qy : Fq (fun b=>b≠AM∧b≠AX∧b≠AN∧True) wq (fun w=>Sts w (.slice wa9 yl.length wc9) yl):=Fq.mono hq9 (fun b h1 hl=>⟨by have g9:=ltbM;have h9 : wn.heap.size≤b:=h1.1;omega,by have g9:=ltbX;have h9 : wn.heap.size≤b:=h1.1;omega,by have g9:=ltbN;have h9 : wn.heap.size≤b:=h1.1;omega,trivial⟩)
   have rW_bM : Hid (AM < bW_a):=Hid.mk (Nat.lt_of_lt_of_le ltbM hNW)
   have rW_bX : Hid (AX < bW_a):=Hid.mk (Nat.lt_of_lt_of_le ltbX hNW)
   have rW_bN : Hid (AN < bW_a):=Hid.mk (Nat.lt_of_lt_of_le ltbN hNW)
   clear hNW
   clear hv hsv hbv hE eb hXX hq9 rr cbX_0 cbX_1 cbN_2 cbM_4 c0
   subst hAc
   simp only [putAll]
   go_simp
   try rw [e1,e3,e4]
   clear e1 e3 e4 ltbM ltbX ltbN
   obtain ⟨wy,hwy⟩ : ∃ z,wq=z:=⟨_,rfl⟩
   rw [hwy] at hF qy bW ⊢
   clear hwy
   replace bM:=bM.ext hF
   replace bX:=bX.ext hF
   replace bN:=bN.ext hF
   replace bP:=bP.ext hF
   replace bR:=bR.ext hF
   replace bQ:=bQ.ext hF
   replace Gm:=Lib.hid (Fq.ext Gm.out hF)
   replace GX:=Lib.hid (Fq.ext GX.out hF)
   replace GL:=Lib.hid (Fq.ext GL.out hF)
   replace Gn:=Lib.hid (Fq.ext Gn.out hF)
   have hF2:=Ext.trans hF1 hF
   have Gy:=Lib.hid qy;clear qy
   obtain ⟨rfl,rfl,htt⟩:=htr.out
   clear htr
   replace htt:=Lib.hid htt
   have q0 : (e != e)=false:=bne_self_eq_false e
   have q1 : (v != v)=false:=bne_self_eq_false v
   go_upto_region 18 with fail
   clear q0 q1
   by_cases he : e=0
   rotate_left
   ·skip
    have q1 : (e != 0)=true:=by simpa using he
    clear he
    go_wp2_with fail
    refine Met.intro ?_
    refine hJ ?_
    exact ⟨m,⟨x1,y1,x2,y2,x3,y3⟩,U,it,t,last,ya,yc,⟨hmm.out,hin.out.mono (Nat.le_succ k),rfl,bM,bX,bN,bP,Gm.out,GX.out,GL.out,hF2⟩⟩
   subst he
   by_cases hv9 : v=0
   rotate_left
   ·skip
    have q1 : (v != 0)=true:=by simpa using hv9
    clear hv9
    go_wp2_with fail
    refine Met.intro ?_
    refine hJ ?_
    exact ⟨m,⟨x1,y1,x2,y2,x3,y3⟩,U,it,t,last,ya,yc,⟨hmm.out,hin.out.mono (Nat.le_succ k),rfl,bM,bX,bN,bP,Gm.out,GX.out,GL.out,hF2⟩⟩
   subst hv9
   go_upto_region 19 with fail
   obtain ⟨U9,it9,hx9,hy9,hq9,hit9,hin9⟩:=htt.out rfl rfl
   clear htt
   simp only [Ptr.mk.injEq] at hq9
   obtain ⟨rfl,rfl,rfl⟩:=hq9
   simp only [Stk.mk.injEq] at hy9
   obtain ⟨rfl,rfl⟩:=hy9
   have ht9 : m.tag=qt:=by rw [← hmm.out];rfl
   subst ht9
   have hx8 : x.stks=[⟨0,List.replicate l.length (U9 ++ [it9])⟩]:=by rw [hx9];rfl
   simp only [List.length_replicate] at bW Gy
   refine top_pick ?_ ?_ hK1 hJ hF2 ne_bM_bX ne_bM_bN ne_bM_bP (Hid.mk (Nat.ne_of_lt rR_bM.out)) (Hid.mk (Nat.ne_of_lt rQ_bM.out)) (Hid.mk (Nat.ne_of_lt rW_bM.out)) ne_bX_bM ne_bX_bN ne_bX_bP (Hid.mk (Nat.ne_of_lt rR_bX.out)) (Hid.mk (Nat.ne_of_lt rQ_bX.out)) (Hid.mk (Nat.ne_of_lt rW_bX.out)) ne_bN_bM ne_bN_bX ne_bN_bP (Hid.mk (Nat.ne_of_lt rR_bN.out)) (Hid.mk (Nat.ne_of_lt rQ_bN.out)) (Hid.mk (Nat.ne_of_lt rW_bN.out)) lowbM lowbX lowbN bM bX bN bP bR bQ bW GL Gn Gy hx8 hx9.symm hit9 hin9 hkd.out hxk.out
   ·assumption
   ·assumption
end Go.Proofs.YtoanoodfacmieaaDoor
