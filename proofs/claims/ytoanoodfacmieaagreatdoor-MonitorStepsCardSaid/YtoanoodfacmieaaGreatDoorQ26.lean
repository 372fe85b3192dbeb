/- Several texts in one: StpE. -/
import Derived.Test.YtoanoodfacmieaaGreatDoorQ25
import Derived.Deep.DeepCutAuto
import Derived.Deep.CutBlock
/- MonitorSteps: what follows its switch. (printed by gen/law35g.py) -/
namespace Go.Proofs.YtoanoodfacmieaaGreatDoor
set_option maxRecDepth 100000
open Go.ChangeShapes Go.WideShapes Go.ChangeAt Go.RowKit
set_option linter.unusedVariables false
def StepEnd (wS : World) (B4 B5 : Nat) (k : Nat) (pv : Value) (wx : World) : Prop := ∃ m a a5 c5 ps PB,StepInv wS B4 B5 k pv wx m a a5 c5 ps PB
set_option maxRecDepth 1000000 in
set_option maxHeartbeats 12800000 in
theorem steps_after {wS w0 : World} {B4 B5 PB BS BPp BN BQ BA : Nat} {m : Mon} {k : Nat} {x1 x2 x3 a5 pva : Option Addr} {y1 y2 y3 c5 pvc : Nat} {ps : List Ptr} {s0 s1 s2 s3 s4 pa po pt : Int} {lc : List Cell} {lb lo cl2 : Nat} {x : Mon} {am : Mem} {b1 b2 b3 a6 : Option Addr} {d1 d2 d3 c6 : Nat} {qa qo qt why e f : Int}
  {x_0 x_1 x_2 x_3 x_8 x_9 x_10 x_17 x_18 x_19 x_20 x_21 x_22 x_23 x_24 x_25 x_26 x_27 x_28 x_29 x_30 x_31 x_32 x_33 x_34 x_35 x_36 x_37 x_38 x_39 x_40 x_41 x_42 x_43 x_44 x_45 x_46 x_47 x_48 x_49 x_50 x_51 x_52 x_53 x_54 x_55 x_56 x_57 x_58 x_59 x_60 x_61 x_62 x_63 x_64 x_65 x_66 x_67 x_68 x_69 x_70 x_71 x_72 x_73 x_74 x_75 x_76 x_77 x_78 x_79 x_80 x_81 x_82 x_83 x_84 x_85 x_86 x_87 x_88 x_89 x_90 x_91 x_92 x_93 x_94 x_95 x_96 x_97 x_98 x_99 x_100 x_101 x_102 x_103 x_104 x_105 x_106 x_107 x_108 x_109 x_110 x_111 x_112 x_113 x_114 x_115 x_116 x_117 x_118 x_119 x_120 x_121 x_122 x_123 x_124 x_125 x_126 x_127 x_128 x_129 x_130 x_131 x_132 x_133 x_134 x_135 x_136 x_137 x_138 x_139 x_140 x_141 x_142 x_143 x_144 x_145 x_146 x_147 x_148 x_149 x_150 x_151 x_152 x_153 x_154 x_155 x_156 x_157 x_158 x_159 x_160 x_161 x_162 x_163 x_164 x_165 x_166 x_167 x_168 x_169 x_170 x_171 x_172 x_173 x_174 x_175 x_176 x_177 x_178 x_179 x_180 x_181 x_182 x_183 x_184 x_185 x_186 x_187 x_188 x_189 x_190 x_191 x_192 x_193 x_194 x_195 x_196 x_197 x_198 x_199 x_200 x_201 x_202 x_203 x_204 x_205 x_206 x_207 x_208 x_209 x_210 x_211 x_212 x_213 x_214 x_215 x_216 x_217 x_218 x_219 x_220 x_221 x_222 x_223 x_224 x_225 x_226 x_227 x_228 x_229 x_230 x_231 x_232 x_233 x_234 x_235 x_236 x_237 x_238 x_239 x_240 x_241 x_242 x_243 x_244 x_245 x_246 : Value} {J K K1 K2 : Act→World→Prop} {Q : Exit→Act→World→Prop}
  (hK : ∀ a w,Code.wp Tryz.prog ((Tryz.f3.body.bind (cutS (isSR 43))).getD (.skip,.skip)).2 (Exit.then K2 (Exit.inBlock 1 (Exit.then K1 Q))) a w→K a w)
  (hK2 : ∀ a w,Code.wp Tryz.prog ((Tryz.f3.body.bind (cutS (headS 43))).getD (.skip,.skip)).2 (Exit.inBlock 1 (Exit.then K1 Q)) a w→K2 a w)
  (hK1 : ∀ a w,Met J a w→K1 a w)
  (hJ : ∀ {pv u2 u8 u9 u10 u11 u12 u13 u14 u15 u16 u28 u29 u30 u31 u32 u33 u34 u35 u36 u37 u38 u39 u40 u41 u42 u43 u44 u45 u46 u47 u48 u49 u50 u51 u52 u53 u54 u55 u56 u57 u58 u59 u60 u61 u62 u63 u64 u65 u66 u67 u68 u69 u70 u71 u72 u73 u74 u75 u76 u77 u78 u79 u80 u81 u82 u83 u84 u85 u86 u87 u88 u89 u90 u91 u92 u93 u94 u95 u96 u97 u98 u99 u100 u101 u102 u103 u104 u105 u106 u107 u108 u109 u110 u111 u112 u113 u114 u115 u116 u117 u118 u119 u120 u121 u122 u123 u124 u125 u126 u127 u128 u129 u130 u131 u132 u133 u134 u135 u136 u137 u138 u139 u140 u141 u142 u143 u144 u145 u146 u147 u148 u149 u150 u151 u152 u153 u154 u155 u156 u157 u158 u159 u160 u161 u162 u163 u164 u165 u166 u167 u168 u169 u170 u171 u172 u173 u174 u175 u176 u177 u178 u179 u180 u181 u182 u183 u184 u185 u186 u187 u188 u189 u190 u191 u192 u193 u194 u195 u196 u197 u198 u199 u200 u201 u202 u203 u204 u205 u206 u207 u208 u209 u210 u211 u212 u213 u214 u215 u216 u217 u218 u219 u220 u221 u222 u223 u224 u225 u226 u227 u228 u229 u230 u231 u232 u233 u234 u235 u236 u237 u238 u239 u240 u241 u242 u243 u244 u245 : Value} {wx : World},StepEnd wS B4 B5 (k+1) pv wx→J ⟨#[x_0,x_1,u2,x_3,.pointer (some ⟨B4,0,none⟩),.pointer (some ⟨B5,0,none⟩),pv,.int .i64 (k : Int),u8,u9,u10,u11,u12,u13,u14,u15,u16,x_17,x_18,x_19,x_20,x_21,x_22,x_23,x_24,x_25,x_26,x_27,u28,u29,u30,u31,u32,u33,u34,u35,u36,u37,u38,u39,u40,u41,u42,u43,u44,u45,u46,u47,u48,u49,u50,u51,u52,u53,u54,u55,u56,u57,u58,u59,u60,u61,u62,u63,u64,u65,u66,u67,u68,u69,u70,u71,u72,u73,u74,u75,u76,u77,u78,u79,u80,u81,u82,u83,u84,u85,u86,u87,u88,u89,u90,u91,u92,u93,u94,u95,u96,u97,u98,u99,u100,u101,u102,u103,u104,u105,u106,u107,u108,u109,u110,u111,u112,u113,u114,u115,u116,u117,u118,u119,u120,u121,u122,u123,u124,u125,u126,u127,u128,u129,u130,u131,u132,u133,u134,u135,u136,u137,u138,u139,u140,u141,u142,u143,u144,u145,u146,u147,u148,u149,u150,u151,u152,u153,u154,u155,u156,u157,u158,u159,u160,u161,u162,u163,u164,u165,u166,u167,u168,u169,u170,u171,u172,u173,u174,u175,u176,u177,u178,u179,u180,u181,u182,u183,u184,u185,u186,u187,u188,u189,u190,u191,u192,u193,u194,u195,u196,u197,u198,u199,u200,u201,u202,u203,u204,u205,u206,u207,u208,u209,u210,u211,u212,u213,u214,u215,u216,u217,u218,u219,u220,u221,u222,u223,u224,u225,u226,u227,u228,u229,u230,u231,u232,u233,u234,u235,u236,u237,u238,u239,u240,u241,u242,u243,u244,u245,x_246],[]⟩ wx)
  (hF0 : Ext wS w0)
  (hok : Hid (okMon m=true))
  (hfew : Hid (Few m k))
  (hk30 : Hid (k < 30))
  (hpl : Hid (ps.length≤k))
  (hst : StepOk m k x ⟨qa,qo,qt⟩ why e am f)
  (ne_bM_bY : Hid (B4≠B5))
  (ne_bM_bS : Hid (B4≠BS))
  (ne_bM_bP : Hid (B4≠BPp))
  (ne_bM_bN : Hid (B4≠BN))
  (ne_bM_bQ : Hid (B4≠BQ))
  (ne_bM_bA : Hid (B4≠BA))
  (ne_bY_bM : Hid (B5≠B4))
  (ne_bY_bS : Hid (B5≠BS))
  (ne_bY_bP : Hid (B5≠BPp))
  (ne_bY_bN : Hid (B5≠BN))
  (ne_bY_bQ : Hid (B5≠BQ))
  (ne_bY_bA : Hid (B5≠BA))
  (ne_bG_bS : Hid (PB≠BS))
  (ne_bG_bP : Hid (PB≠BPp))
  (ne_bG_bN : Hid (PB≠BN))
  (ne_bG_bQ : Hid (PB≠BQ))
  (ne_bG_bA : Hid (PB≠BA))
  (ne_bP_bM : Hid (BPp≠B4))
  (ne_bP_bY : Hid (BPp≠B5))
  (ne_bP_bG : Hid (BPp≠PB))
  (ne_bP_bS : Hid (BPp≠BS))
  (ne_bP_bN : Hid (BPp≠BN))
  (ne_bP_bQ : Hid (BPp≠BQ))
  (ne_bP_bA : Hid (BPp≠BA))
  (ne_bN_bM : Hid (BN≠B4))
  (ne_bN_bY : Hid (BN≠B5))
  (ne_bN_bG : Hid (BN≠PB))
  (ne_bN_bS : Hid (BN≠BS))
  (ne_bN_bP : Hid (BN≠BPp))
  (ne_bN_bQ : Hid (BN≠BQ))
  (ne_bN_bA : Hid (BN≠BA))
  (ne_bQ_bM : Hid (BQ≠B4))
  (ne_bQ_bY : Hid (BQ≠B5))
  (ne_bQ_bG : Hid (BQ≠PB))
  (ne_bQ_bS : Hid (BQ≠BS))
  (ne_bQ_bP : Hid (BQ≠BPp))
  (ne_bQ_bN : Hid (BQ≠BN))
  (ne_bQ_bA : Hid (BQ≠BA))
  (ne_bA_bM : Hid (BA≠B4))
  (ne_bA_bY : Hid (BA≠B5))
  (ne_bA_bG : Hid (BA≠PB))
  (ne_bA_bS : Hid (BA≠BS))
  (ne_bA_bP : Hid (BA≠BPp))
  (ne_bA_bN : Hid (BA≠BN))
  (ne_bA_bQ : Hid (BA≠BQ))
  (lowbM : Hid (wS.heap.size≤B4))
  (lowbY : Hid (wS.heap.size≤B5))
  (lowbG : Hid (wS.heap.size≤PB))
  (lowbP : Hid (wS.heap.size≤BPp))
  (lowbN : Hid (wS.heap.size≤BN))
  (lowbQ : Hid (wS.heap.size≤BQ))
  (lowbA : Hid (wS.heap.size≤BA))
  (bM : Box w0 B4 30 #[.slice x1 m.mem.al.length y1,.int .i64 m.mem.next,.slice x2 m.stks.length y2,.slice x3 m.run.length y3,.int .i64 m.tag,.int .i64 m.call])
  (bY : Box w0 B5 26 #[.slice a5 m.mem.al.length c5,.int .i64 m.mem.next])
  (bG : Pvb w0 wS.heap.size PB (.slice pva ps.length pvc) ps)
  (bS : Box w0 BS 33 #[.int .i64 s0,.int .i64 s1,.int .i64 s2,.int .i64 s3,.int .i64 s4])
  (bP : Box w0 BPp 35 #[.int .i64 pa,.int .i64 po,.int .i64 pt])
  (bN : Box w0 BN 30 #[.slice b1 x.mem.al.length d1,.int .i64 x.mem.next,.slice b2 x.stks.length d2,.slice b3 x.run.length d3,.int .i64 x.tag,.int .i64 x.call])
  (bQ : Box w0 BQ 35 #[.int .i64 qa,.int .i64 qo,.int .i64 qt])
  (bA : Box w0 BA 26 #[.slice a6 am.al.length c6,.int .i64 am.next])
  (Gm : Hid (Fq (fun b=>b≠B4∧b≠B5∧b≠PB∧b≠BPp∧b≠BN∧b≠BQ∧b≠BA∧True) w0 (RdA m ⟨x1,y1,x2,y2,x3,y3⟩)))
  (Gp : Hid (Fq (fun b=>b≠B4∧b≠B5∧b≠PB∧b≠BPp∧b≠BN∧b≠BQ∧b≠BA∧True) w0 (fun w=>Als w (.slice a5 m.mem.al.length c5) m.mem.al)))
  (qL : Hid (Fq (fun b=>b≠B4∧b≠B5∧b≠PB∧b≠BPp∧b≠BN∧b≠BQ∧b≠BA∧True) w0 (fun w=>Cls w (.slice (some ⟨lb,lo,none⟩) lc.length cl2) lc)))
  (Gx : Hid (Fq (fun b=>b≠B4∧b≠B5∧b≠PB∧b≠BPp∧b≠BN∧b≠BQ∧b≠BA∧True) w0 (RdA x ⟨b1,d1,b2,d2,b3,d3⟩)))
  (Gz : Hid (Fq (fun b=>b≠B4∧b≠B5∧b≠PB∧b≠BPp∧b≠BN∧b≠BQ∧b≠BA∧True) w0 (fun w=>Als w (.slice a6 am.al.length c6) am.al))) :
  Code.wp Tryz.prog ((Tryz.f3.body.bind (cutS (isSR 43))).getD (.skip,.skip)).1 (Exit.then K (Exit.then K2 (Exit.inBlock 1 (Exit.then K1 Q)))) ⟨#[x_0,x_1,x_2,x_3,.pointer (some ⟨B4,0,none⟩),.pointer (some ⟨B5,0,none⟩),.slice pva ps.length pvc,.int .i64 (k : Int),x_8,x_9,x_10,.pointer (some ⟨BN,0,none⟩),.pointer (some ⟨BQ,0,none⟩),.int .u8 why,.int .i64 e,.pointer (some ⟨BA,0,none⟩),.int .i64 f,x_17,x_18,x_19,x_20,x_21,x_22,x_23,x_24,x_25,x_26,x_27,x_28,x_29,x_30,x_31,x_32,x_33,x_34,x_35,x_36,x_37,x_38,x_39,x_40,x_41,x_42,x_43,x_44,x_45,x_46,x_47,x_48,x_49,x_50,x_51,x_52,x_53,x_54,x_55,x_56,x_57,x_58,x_59,x_60,x_61,x_62,x_63,x_64,x_65,x_66,x_67,x_68,x_69,x_70,x_71,x_72,x_73,x_74,x_75,x_76,x_77,x_78,x_79,x_80,x_81,x_82,x_83,x_84,x_85,x_86,x_87,x_88,x_89,x_90,x_91,x_92,x_93,x_94,x_95,x_96,x_97,x_98,x_99,x_100,x_101,x_102,x_103,x_104,x_105,x_106,x_107,x_108,x_109,x_110,x_111,x_112,x_113,x_114,x_115,x_116,x_117,x_118,x_119,x_120,x_121,x_122,x_123,x_124,x_125,x_126,x_127,x_128,x_129,x_130,x_131,x_132,x_133,x_134,x_135,x_136,x_137,x_138,x_139,x_140,x_141,x_142,x_143,x_144,x_145,x_146,x_147,x_148,x_149,x_150,x_151,x_152,x_153,x_154,x_155,x_156,x_157,x_158,x_159,x_160,x_161,x_162,x_163,x_164,x_165,x_166,x_167,x_168,x_169,x_170,x_171,x_172,x_173,x_174,x_175,x_176,x_177,x_178,x_179,x_180,x_181,x_182,x_183,x_184,x_185,x_186,x_187,x_188,x_189,x_190,x_191,x_192,x_193,x_194,x_195,x_196,x_197,x_198,x_199,x_200,x_201,x_202,x_203,x_204,x_205,x_206,x_207,x_208,x_209,x_210,x_211,x_212,x_213,x_214,x_215,x_216,x_217,x_218,x_219,x_220,x_221,x_222,x_223,x_224,x_225,x_226,x_227,x_228,x_229,x_230,x_231,x_232,x_233,x_234,x_235,x_236,x_237,x_238,x_239,x_240,x_241,x_242,x_243,x_244,x_245,x_246],[]⟩ w0:=by
 conv=>arg 2;whnf
 conv at hK=>intro a w;arg 1;arg 2;whnf
 conv at hK2=>intro a w;arg 1;arg 2;whnf
 obtain ⟨rfl,hst⟩:=hst
 dsimp only at hst
 replace hst:=Lib.hid hst
 have q0 : (e != e)=false:=bne_self_eq_false e
 by_cases he : e=0
 rotate_left
 ·skip
  have q1 : (e != 0)=true:=by simpa using he
  clear he
  go_wp2_with fail
  refine Met.intro ?_
  refine hJ ?_
  exact ⟨m,⟨x1,y1,x2,y2,x3,y3⟩,a5,c5,ps,PB,StepInv.again hok.out hfew.out bM bY Gm.out Gp.out (fun b h=>⟨h.1,h.2.1,h.2.2.1,trivial⟩) bG lowbG.out hpl.out hF0⟩
 subst he
 by_cases hw : why=0
 rotate_left
 ·skip
  have q1 : (why != 0)=true:=by simpa using hw
  clear hw
  go_wp2_with fail
  refine Met.intro ?_
  refine hJ ?_
  exact ⟨m,⟨x1,y1,x2,y2,x3,y3⟩,a5,c5,ps,PB,StepInv.again hok.out hfew.out bM bY Gm.out Gp.out (fun b h=>⟨h.1,h.2.1,h.2.2.1,trivial⟩) bG lowbG.out hpl.out hF0⟩
 subst hw
 clear q0
 obtain ⟨hxo,hxf,hxt,hxc,rfl,hxq⟩:=hst.out rfl rfl
 clear hst
 replace hxo:=Lib.hid hxo;replace hxf:=Lib.hid hxf;replace hxt:=Lib.hid hxt;replace hxc:=Lib.hid hxc;replace hxq:=Lib.hid hxq
 obtain ⟨bN_0,bN_1,bN_2,bN_3,bN_4,bN_5,bN_l⟩:=bN.c6
 go_wp2_with fail
 clear bN_0 bN_1 bN_2 bN_3 bN_4 bN_5 bN_l
 have ltbM:=Lib.hid bM.lt
 have ltbY:=Lib.hid bY.lt
 have ltbG:=Lib.hid bG.lt
 have ltbP:=Lib.hid bP.lt
 have ltbN:=Lib.hid bN.lt
 have ltbQ:=Lib.hid bQ.lt
 have ltbA:=Lib.hid bA.lt
 refine (mon_Check' Gx.out.read.1 (i64_of_ok hxo.out) Gx.out.read.2.1 Gx.out.read.2.2).mono ?_
 rintro e w1 ⟨rfl,hE1⟩
 replace bM:=bM.ext hE1
 replace bY:=bY.ext hE1
 replace bG:=bG.ext hE1
 replace bS:=bS.ext hE1
 replace bP:=bP.ext hE1
 replace bN:=bN.ext hE1
 replace bQ:=bQ.ext hE1
 replace bA:=bA.ext hE1
 replace Gm:=Lib.hid (Fq.ext Gm.out hE1)
 replace Gp:=Lib.hid (Fq.ext Gp.out hE1)
 replace qL:=Lib.hid (Fq.ext qL.out hE1)
 replace Gx:=Lib.hid (Fq.ext Gx.out hE1)
 replace Gz:=Lib.hid (Fq.ext Gz.out hE1)
 have hF1:=Ext.trans hF0 hE1
 rw [monErr_of hxo.out]
 dsimp only
 try dsimp only
 have q2 : decide (x.tag < m.tag)=false:=decide_eq_false (by have:=hxt.out;omega)
 have q3 : decide (x.call < m.call)=false:=decide_eq_false (by have:=hxc.out;omega)
 obtain ⟨bM_0,bM_1,bM_2,bM_3,bM_4,bM_5,bM_l⟩:=bM.c6
 obtain ⟨bN_0,bN_1,bN_2,bN_3,bN_4,bN_5,bN_l⟩:=bN.c6
 obtain ⟨bA_0,bA_1,bA_l⟩:=bA.c2
 go_wp2_with fail
 clear bM_0 bM_1 bM_2 bM_3 bM_4 bM_5 bM_l bN_0 bN_1 bN_2 bN_3 bN_4 bN_5 bN_l bA_0 bA_1 bA_l
 have ltbM:=Lib.hid bM.lt
 have ltbY:=Lib.hid bY.lt
 have ltbG:=Lib.hid bG.lt
 have ltbP:=Lib.hid bP.lt
 have ltbN:=Lib.hid bN.lt
 have ltbQ:=Lib.hid bQ.lt
 have ltbA:=Lib.hid bA.lt
 refine (same_memS rfl Gx.out.read.1 Gz.out.read).mono ?_
 rintro e w2 ⟨rfl,hE2⟩
 replace bM:=bM.ext hE2
 replace bY:=bY.ext hE2
 replace bG:=bG.ext hE2
 replace bS:=bS.ext hE2
 replace bP:=bP.ext hE2
 replace bN:=bN.ext hE2
 replace bQ:=bQ.ext hE2
 replace bA:=bA.ext hE2
 replace Gm:=Lib.hid (Fq.ext Gm.out hE2)
 replace Gp:=Lib.hid (Fq.ext Gp.out hE2)
 replace qL:=Lib.hid (Fq.ext qL.out hE2)
 replace Gx:=Lib.hid (Fq.ext Gx.out hE2)
 replace Gz:=Lib.hid (Fq.ext Gz.out hE2)
 have hF2:=Ext.trans hF1 hE2
 try dsimp only
 clear q2 q3
 go_upto_region 48 with fail
 by_cases hq0 : 0 < qt
 rotate_left
 ·skip
  have q5 : decide (0 < qt)=false:=decide_eq_false hq0;have q6 : decide (qt > 0)=false:=decide_eq_false hq0
  clear hq0
  obtain ⟨bQ_0,bQ_1,bQ_2,bQ_l⟩:=bQ.c3
  go_upto_region 52 with fail
  clear bQ_0 bQ_1 bQ_2 bQ_l
  clear q5 q6
  have bG9:=bG;have low9:=lowbG;have hpl9:=Lib.hid (Nat.le_succ_of_le hpl.out);have Gx9:=Lib.hid (Fq.mono (S':=(fun b=>b≠B4∧b≠B5∧b≠PB∧True)) Gx.out (fun b h _=>⟨h.1,h.2.1,h.2.2.1,trivial⟩));have Gz9:=Lib.hid (Fq.mono (S':=(fun b=>b≠B4∧b≠B5∧b≠PB∧True)) Gz.out (fun b h _=>⟨h.1,h.2.1,h.2.2.1,trivial⟩))
  clear Gm Gp Gx Gz qL bP bS
  have nBY : B4≠B5:=ne_bM_bY.out;have nYB : B5≠B4:=ne_bY_bM.out
  have nBN:=ne_bN_bM.out;have nNB:=ne_bM_bN.out;have nBA:=ne_bA_bM.out;have nAB:=ne_bM_bA.out;have nYN:=ne_bN_bY.out;have nNY:=ne_bY_bN.out;have nYA:=ne_bA_bY.out;have nAY:=ne_bY_bA.out
  have bM_0 : World.cell? w2 ⟨B4,0,none⟩=some (.slice x1 m.mem.al.length y1):=bM.cell 0
  have bM_1 : World.cell? w2 ⟨B4,1,none⟩=some (.int .i64 m.mem.next):=bM.cell 1
  have bM_2 : World.cell? w2 ⟨B4,2,none⟩=some (.slice x2 m.stks.length y2):=bM.cell 2
  have bM_3 : World.cell? w2 ⟨B4,3,none⟩=some (.slice x3 m.run.length y3):=bM.cell 3
  have bM_4 : World.cell? w2 ⟨B4,4,none⟩=some (.int .i64 m.tag):=bM.cell 4
  have bM_5 : World.cell? w2 ⟨B4,5,none⟩=some (.int .i64 m.call):=bM.cell 5
  have bM_f0 : World.frozen? w2 ⟨B4,0,none⟩=false:=bM.frozen 0
  have bM_f1 : World.frozen? w2 ⟨B4,1,none⟩=false:=bM.frozen 1
  have bM_f2 : World.frozen? w2 ⟨B4,2,none⟩=false:=bM.frozen 2
  have bM_f3 : World.frozen? w2 ⟨B4,3,none⟩=false:=bM.frozen 3
  have bM_f4 : World.frozen? w2 ⟨B4,4,none⟩=false:=bM.frozen 4
  have bM_f5 : World.frozen? w2 ⟨B4,5,none⟩=false:=bM.frozen 5
  have bM_l:=bM.lt
  have bY_0 : World.cell? w2 ⟨B5,0,none⟩=some (.slice a5 m.mem.al.length c5):=bY.cell 0
  have bY_1 : World.cell? w2 ⟨B5,1,none⟩=some (.int .i64 m.mem.next):=bY.cell 1
  have bY_f0 : World.frozen? w2 ⟨B5,0,none⟩=false:=bY.frozen 0
  have bY_f1 : World.frozen? w2 ⟨B5,1,none⟩=false:=bY.frozen 1
  have bY_l:=bY.lt
  obtain ⟨bN_0,bN_1,bN_2,bN_3,bN_4,bN_5,bN_l⟩:=bN.c6
  obtain ⟨bA_0,bA_1,bA_l⟩:=bA.c2
  go_region
  clear bM_0 bM_1 bM_2 bM_3 bM_4 bM_5 bM_f0 bM_f1 bM_f2 bM_f3 bM_f4 bM_f5 bM_l bY_0 bY_1 bY_f0 bY_f1 bY_l bN_0 bN_1 bN_2 bN_3 bN_4 bN_5 bN_l bA_0 bA_1 bA_l
  clear nBY nYB nBN nNB nBA nAB nYN nNY nYA nAY
  have hX9 : ExtBut (fun b=>b=B4∨b=B5∨False) w2 (World.setCell (World.setCell (World.setCell (World.setCell (World.setCell (World.setCell (World.setCell (World.setCell w2 ⟨B4,0,none⟩ (.slice b1 x.mem.al.length d1)) ⟨B4,1,none⟩ (.int .i64 x.mem.next)) ⟨B4,2,none⟩ (.slice b2 x.stks.length d2)) ⟨B4,3,none⟩ (.slice b3 x.run.length d3)) ⟨B4,4,none⟩ (.int .i64 x.tag)) ⟨B4,5,none⟩ (.int .i64 x.call)) ⟨B5,0,none⟩ (.slice a6 x.mem.al.length c6)) ⟨B5,1,none⟩ (.int .i64 x.mem.next)):=by (repeat' with_reducible first | exact ExtBut.refl _ _ | refine ExtBut.dr ?_ | refine ExtBut.sc ?_ ?_ | fail) <;> dsimp only <;> omega
  have bG8:=Pvb.mem bG9 bM bY hX9
  have bM8:=(Box.other (Box.other (Box.setL (Box.setL (Box.setL (Box.setL (Box.setL (Box.setL bM 0 (.slice b1 x.mem.al.length d1)) 1 (.int .i64 x.mem.next)) 2 (.slice b2 x.stks.length d2)) 3 (.slice b3 x.run.length d3)) 4 (.int .i64 x.tag)) 5 (.int .i64 x.call)) (p:=⟨B5,0,none⟩) (ne_bY_bM.out) (.slice a6 x.mem.al.length c6)) (p:=⟨B5,1,none⟩) (ne_bY_bM.out) (.int .i64 x.mem.next))
  simp only [List.set_cons_zero,List.set_cons_succ] at bM8
  have bY8:=(Box.setL (Box.setL (Box.other (Box.other (Box.other (Box.other (Box.other (Box.other bY (p:=⟨B4,0,none⟩) (ne_bM_bY.out) (.slice b1 x.mem.al.length d1)) (p:=⟨B4,1,none⟩) (ne_bM_bY.out) (.int .i64 x.mem.next)) (p:=⟨B4,2,none⟩) (ne_bM_bY.out) (.slice b2 x.stks.length d2)) (p:=⟨B4,3,none⟩) (ne_bM_bY.out) (.slice b3 x.run.length d3)) (p:=⟨B4,4,none⟩) (ne_bM_bY.out) (.int .i64 x.tag)) (p:=⟨B4,5,none⟩) (ne_bM_bY.out) (.int .i64 x.call)) 0 (.slice a6 x.mem.al.length c6)) 1 (.int .i64 x.mem.next))
  simp only [List.set_cons_zero,List.set_cons_succ] at bY8
  have Gx8:=Lib.hid (Fq.but Gx9.out hX9 (fun b h _ h2=>by rcases h2 with h2 | h2 | h2;exact h.1 h2;exact h.2.1 h2;exact h2))
  have Gz8:=Lib.hid (Fq.but Gz9.out hX9 (fun b h _ h2=>by rcases h2 with h2 | h2 | h2;exact h.1 h2;exact h.2.1 h2;exact h2))
  have hF8:=ExtBut.ext hF2 hX9 (fun b h=>by rcases h with h | h | h;(rw [h];exact lowbM.out);(rw [h];exact lowbY.out);exact h.elim)
  obtain ⟨w8,hw8⟩ : ∃ z,(World.setCell (World.setCell (World.setCell (World.setCell (World.setCell (World.setCell (World.setCell (World.setCell w2 ⟨B4,0,none⟩ (.slice b1 x.mem.al.length d1)) ⟨B4,1,none⟩ (.int .i64 x.mem.next)) ⟨B4,2,none⟩ (.slice b2 x.stks.length d2)) ⟨B4,3,none⟩ (.slice b3 x.run.length d3)) ⟨B4,4,none⟩ (.int .i64 x.tag)) ⟨B4,5,none⟩ (.int .i64 x.call)) ⟨B5,0,none⟩ (.slice a6 x.mem.al.length c6)) ⟨B5,1,none⟩ (.int .i64 x.mem.next))=z:=⟨_,rfl⟩
  rw [hw8] at hX9 bG8 bM8 bY8 Gx8 Gz8 hF8 ⊢
  clear hw8
  replace bM8:=Lib.hid bM8;replace bY8:=Lib.hid bY8;replace bG8:=Lib.hid bG8;replace hF8:=Lib.hid hF8
  go_wp2_with fail
  refine Met.intro ?_
  refine hJ ?_
  exact ⟨x,⟨b1,d1,b2,d2,b3,d3⟩,a6,c6,ps,PB,⟨hxo.out,hxf.out,bM8.out.ext (Ext.refl _).drew,bY8.out.ext (Ext.refl _).drew,Fq.ext Gx8.out (Ext.refl _).drew,Fq.ext Gz8.out (Ext.refl _).drew,bG8.out.ext (Ext.refl _).drew,low9.out,hpl9.out,hF8.out.trans (Ext.refl _).drew⟩⟩
 have q5 : decide (0 < qt)=true:=decide_eq_true hq0;have q6 : decide (qt > 0)=true:=decide_eq_true hq0;have q7 : decide (qt < m.tag)=false:=decide_eq_false (by have:=(hxq.out hq0).1;omega)
 clear hq0
 obtain ⟨bM_0,bM_1,bM_2,bM_3,bM_4,bM_5,bM_l⟩:=bM.c6
 obtain ⟨bQ_0,bQ_1,bQ_2,bQ_l⟩:=bQ.c3
 go_upto_region 51 with fail
 clear bM_0 bM_1 bM_2 bM_3 bM_4 bM_5 bM_l bQ_0 bQ_1 bQ_2 bQ_l
 clear q5 q6 q7
 have hE6 : Ext w2 (World.alloc w2 (.cells #[.int .i64 qa,.int .i64 qo,.int .i64 qt] 35)):=(Ext.refl _).alloc _
 have hS6 : Sl (World.alloc w2 (.cells #[.int .i64 qa,.int .i64 qo,.int .i64 qt] 35)) 3 (.slice (some ⟨w2.heap.size,0,none⟩) 1 1) 1 (Ptr.row ⟨qa,qo,qt⟩):=(Own.lit' (B:=0) (e:=35) (k:=3) w2 #[.int .i64 qa,.int .i64 qo,.int .i64 qt] 1 (Nat.zero_le _) (by simp [maxLen]) rfl).sl
 obtain ⟨ti,tz,hti,htz,hti3,htz3,htby⟩:=Ptr.infoE
 replace hti:=Lib.hid hti;replace htz:=Lib.hid htz;replace hti3:=Lib.hid hti3;replace htz3:=Lib.hid htz3;replace htby:=Lib.hid htby
 have hO6:=Lib.hid (Own.ext bG.own hE6)
 have hn6:=Lib.hid (by have:=hpl.out;have:=hk30.out;omega : ps.length < 30)
 replace hS6:=Lib.hid hS6;replace hE6:=Lib.hid hE6
 obtain ⟨bQ_0,bQ_1,bQ_2,bQ_l⟩:=bQ.c3
 go_wp2_with (at_builtin;refine Hid.out ?_)
 refine Hid.mk ?_
 refine wpList_append_any rfl _ _ 32 32 rfl rfl rfl Tryz.underlying32 Tryz.underlying32 hti.out htz.out hti3.out htz3.out hO6.out hS6.out (by simp [Ptr.row,Value.oneCell']) (by have:=hn6.out;simp [maxLen];omega) (by rw [htby.out];have:=hn6.out;omega) (Nat.le_trans (Ext.size hF2) hE6.out.size) ?_
 intro v' w6 hOv hKv hbv hgv
 obtain ⟨PB9,hPB9,low9⟩:=hgv (by decide)
 obtain ⟨bG9,hXk,hFS⟩:=Pvb.push bG hE6.out hOv hKv hbv hPB9
 have hF6:=ExtBut.ext hF2 hXk (fun b h=>(bG.own.lt h).1)
 have hfM:=bG.far bM (by decide);have hfY:=bG.far bY (by decide);have hfN:=bG.far bN (by decide);have hfA:=bG.far bA (by decide)
 replace bM:=Box.but bM hXk hfM;replace bY:=Box.but bY hXk hfY;replace bN:=Box.but bN hXk hfN;replace bA:=Box.but bA hXk hfA
 have Gx9:=Lib.hid (hFS _ _ B4 B5 Gx.out (fun b h=>⟨h.1,h.2.1,h.2.2.1,trivial⟩));have Gz9:=Lib.hid (hFS _ _ B4 B5 Gz.out (fun b h=>⟨h.1,h.2.1,h.2.2.1,trivial⟩))
 have hpl9 : (ps ++ [(⟨qa,qo,qt⟩ : Ptr)]).length≤k+1:=by have:=hpl.out;simp;omega
 obtain ⟨ps9,hps9⟩ : ∃ z,ps ++ [(⟨qa,qo,qt⟩ : Ptr)]=z:=⟨_,rfl⟩
 rw [hps9] at bG9 hpl9
 clear hps9
 replace hpl9:=Lib.hid hpl9
 obtain ⟨va,vc,rfl,-⟩:=bG9.own.sl.slice_form
 replace low9:=Lib.hid low9
 clear hOv hKv hbv hgv hPB9 hXk hFS hfM hfY hfN hfA hti htz hti3 htz3 htby hO6 hS6 hE6 Gm Gp Gx Gz qL bG bP bS
 clear bQ_0 bQ_1 bQ_2 bQ_l
 replace hF6:=Lib.hid hF6;replace bG9:=Lib.hid bG9;replace bM:=Lib.hid bM;replace bY:=Lib.hid bY;replace bN:=Lib.hid bN;replace bA:=Lib.hid bA
 go_upto_region 52 with fail
 replace hF6:=hF6.out;replace bG9:=bG9.out;replace bM:=bM.out;replace bY:=bY.out;replace bN:=bN.out;replace bA:=bA.out
 have nBY : B4≠B5:=ne_bM_bY.out;have nYB : B5≠B4:=ne_bY_bM.out
 have nBN:=ne_bN_bM.out;have nNB:=ne_bM_bN.out;have nBA:=ne_bA_bM.out;have nAB:=ne_bM_bA.out;have nYN:=ne_bN_bY.out;have nNY:=ne_bY_bN.out;have nYA:=ne_bA_bY.out;have nAY:=ne_bY_bA.out
 have bM_0 : World.cell? w6 ⟨B4,0,none⟩=some (.slice x1 m.mem.al.length y1):=bM.cell 0
 have bM_1 : World.cell? w6 ⟨B4,1,none⟩=some (.int .i64 m.mem.next):=bM.cell 1
 have bM_2 : World.cell? w6 ⟨B4,2,none⟩=some (.slice x2 m.stks.length y2):=bM.cell 2
 have bM_3 : World.cell? w6 ⟨B4,3,none⟩=some (.slice x3 m.run.length y3):=bM.cell 3
 have bM_4 : World.cell? w6 ⟨B4,4,none⟩=some (.int .i64 m.tag):=bM.cell 4
 have bM_5 : World.cell? w6 ⟨B4,5,none⟩=some (.int .i64 m.call):=bM.cell 5
 have bM_f0 : World.frozen? w6 ⟨B4,0,none⟩=false:=bM.frozen 0
 have bM_f1 : World.frozen? w6 ⟨B4,1,none⟩=false:=bM.frozen 1
 have bM_f2 : World.frozen? w6 ⟨B4,2,none⟩=false:=bM.frozen 2
 have bM_f3 : World.frozen? w6 ⟨B4,3,none⟩=false:=bM.frozen 3
 have bM_f4 : World.frozen? w6 ⟨B4,4,none⟩=false:=bM.frozen 4
 have bM_f5 : World.frozen? w6 ⟨B4,5,none⟩=false:=bM.frozen 5
 have bM_l:=bM.lt
 have bY_0 : World.cell? w6 ⟨B5,0,none⟩=some (.slice a5 m.mem.al.length c5):=bY.cell 0
 have bY_1 : World.cell? w6 ⟨B5,1,none⟩=some (.int .i64 m.mem.next):=bY.cell 1
 have bY_f0 : World.frozen? w6 ⟨B5,0,none⟩=false:=bY.frozen 0
 have bY_f1 : World.frozen? w6 ⟨B5,1,none⟩=false:=bY.frozen 1
 have bY_l:=bY.lt
 obtain ⟨bN_0,bN_1,bN_2,bN_3,bN_4,bN_5,bN_l⟩:=bN.c6
 obtain ⟨bA_0,bA_1,bA_l⟩:=bA.c2
 go_region
 clear bM_0 bM_1 bM_2 bM_3 bM_4 bM_5 bM_f0 bM_f1 bM_f2 bM_f3 bM_f4 bM_f5 bM_l bY_0 bY_1 bY_f0 bY_f1 bY_l bN_0 bN_1 bN_2 bN_3 bN_4 bN_5 bN_l bA_0 bA_1 bA_l
 clear nBY nYB nBN nNB nBA nAB nYN nNY nYA nAY
 have hX9 : ExtBut (fun b=>b=B4∨b=B5∨False) w6 (World.setCell (World.setCell (World.setCell (World.setCell (World.setCell (World.setCell (World.setCell (World.setCell w6 ⟨B4,0,none⟩ (.slice b1 x.mem.al.length d1)) ⟨B4,1,none⟩ (.int .i64 x.mem.next)) ⟨B4,2,none⟩ (.slice b2 x.stks.length d2)) ⟨B4,3,none⟩ (.slice b3 x.run.length d3)) ⟨B4,4,none⟩ (.int .i64 x.tag)) ⟨B4,5,none⟩ (.int .i64 x.call)) ⟨B5,0,none⟩ (.slice a6 x.mem.al.length c6)) ⟨B5,1,none⟩ (.int .i64 x.mem.next)):=by (repeat' with_reducible first | exact ExtBut.refl _ _ | refine ExtBut.dr ?_ | refine ExtBut.sc ?_ ?_ | fail) <;> dsimp only <;> omega
 have bG8:=Pvb.mem bG9 bM bY hX9
 have bM8:=(Box.other (Box.other (Box.setL (Box.setL (Box.setL (Box.setL (Box.setL (Box.setL bM 0 (.slice b1 x.mem.al.length d1)) 1 (.int .i64 x.mem.next)) 2 (.slice b2 x.stks.length d2)) 3 (.slice b3 x.run.length d3)) 4 (.int .i64 x.tag)) 5 (.int .i64 x.call)) (p:=⟨B5,0,none⟩) (ne_bY_bM.out) (.slice a6 x.mem.al.length c6)) (p:=⟨B5,1,none⟩) (ne_bY_bM.out) (.int .i64 x.mem.next))
 simp only [List.set_cons_zero,List.set_cons_succ] at bM8
 have bY8:=(Box.setL (Box.setL (Box.other (Box.other (Box.other (Box.other (Box.other (Box.other bY (p:=⟨B4,0,none⟩) (ne_bM_bY.out) (.slice b1 x.mem.al.length d1)) (p:=⟨B4,1,none⟩) (ne_bM_bY.out) (.int .i64 x.mem.next)) (p:=⟨B4,2,none⟩) (ne_bM_bY.out) (.slice b2 x.stks.length d2)) (p:=⟨B4,3,none⟩) (ne_bM_bY.out) (.slice b3 x.run.length d3)) (p:=⟨B4,4,none⟩) (ne_bM_bY.out) (.int .i64 x.tag)) (p:=⟨B4,5,none⟩) (ne_bM_bY.out) (.int .i64 x.call)) 0 (.slice a6 x.mem.al.length c6)) 1 (.int .i64 x.mem.next))
 simp only [List.set_cons_zero,List.set_cons_succ] at bY8
 have Gx8:=Lib.hid (Fq.but Gx9.out hX9 (fun b h _ h2=>by rcases h2 with h2 | h2 | h2;exact h.1 h2;exact h.2.1 h2;exact h2))
 have Gz8:=Lib.hid (Fq.but Gz9.out hX9 (fun b h _ h2=>by rcases h2 with h2 | h2 | h2;exact h.1 h2;exact h.2.1 h2;exact h2))
 have hF8:=ExtBut.ext hF6 hX9 (fun b h=>by rcases h with h | h | h;(rw [h];exact lowbM.out);(rw [h];exact lowbY.out);exact h.elim)
 obtain ⟨w8,hw8⟩ : ∃ z,(World.setCell (World.setCell (World.setCell (World.setCell (World.setCell (World.setCell (World.setCell (World.setCell w6 ⟨B4,0,none⟩ (.slice b1 x.mem.al.length d1)) ⟨B4,1,none⟩ (.int .i64 x.mem.next)) ⟨B4,2,none⟩ (.slice b2 x.stks.length d2)) ⟨B4,3,none⟩ (.slice b3 x.run.length d3)) ⟨B4,4,none⟩ (.int .i64 x.tag)) ⟨B4,5,none⟩ (.int .i64 x.call)) ⟨B5,0,none⟩ (.slice a6 x.mem.al.length c6)) ⟨B5,1,none⟩ (.int .i64 x.mem.next))=z:=⟨_,rfl⟩
 rw [hw8] at hX9 bG8 bM8 bY8 Gx8 Gz8 hF8 ⊢
 clear hw8
 replace bM8:=Lib.hid bM8;replace bY8:=Lib.hid bY8;replace bG8:=Lib.hid bG8;replace hF8:=Lib.hid hF8
 go_wp2_with fail
 refine Met.intro ?_
 refine hJ ?_
 exact ⟨x,⟨b1,d1,b2,d2,b3,d3⟩,a6,c6,ps9,PB9,⟨hxo.out,hxf.out,bM8.out.ext (Ext.refl _).drew,bY8.out.ext (Ext.refl _).drew,Fq.ext Gx8.out (Ext.refl _).drew,Fq.ext Gz8.out (Ext.refl _).drew,bG8.out.ext (Ext.refl _).drew,low9.out,hpl9.out,hF8.out.trans (Ext.refl _).drew⟩⟩
end Go.Proofs.YtoanoodfacmieaaGreatDoor
