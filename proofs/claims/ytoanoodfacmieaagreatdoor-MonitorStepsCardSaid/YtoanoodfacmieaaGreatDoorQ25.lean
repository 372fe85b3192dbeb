/- Several texts in one: StpD. -/
import Derived.Test.YtoanoodfacmieaaGreatDoorQ18
import Derived.Test.YtoanoodfacmieaaGreatDoorQ24
import Derived.Deep.DeepCutAuto
import Derived.Deep.CutBlock
/- MonitorSteps: its switch, an arm a theorem. (printed by gen/law35g.py) -/
namespace Go.Proofs.YtoanoodfacmieaaGreatDoor
set_option maxRecDepth 100000
open Go.ChangeShapes Go.WideShapes Go.ChangeAt Go.RowKit
set_option linter.unusedVariables false
def findS (p : Code→Bool) (c : Code) : Option Code:=match p c with
 | true=>some c
 | false=>match c with
  | .seq a b=>match findS p a with
   | some c=>some c
   | none=>findS p b
  | .block _ c=>findS p c
  | .loop c=>findS p c
  | .scope c=>findS p c
  | .cond _ a b=>match findS p a with
   | some c=>some c
   | none=>findS p b
  | _=>none
def isSR (r : Nat) : Code→Bool
 | .region n _ _=>Nat.beq n r
 | _=>false
def headS (r : Nat) : Code→Bool
 | .seq a _=>isSR r a
 | _=>false
def isSB (r : Nat) : Code→Bool
 | .block n _=>Nat.beq n r
 | _=>false
def cutS (p : Code→Bool) : Code→Option (Code × Code)
 | .seq a b=>match p a with
  | true=>some (a,b)
  | false=>match cutS p a with
   | some c=>some c
   | none=>cutS p b
 | .block _ c=>cutS p c
 | .loop c=>cutS p c
 | .scope c=>cutS p c
 | .cond _ a b=>match cutS p a with
  | some c=>some c
  | none=>cutS p b
 | _=>none
set_option maxRecDepth 1000000 in
set_option maxHeartbeats 12800000 in
theorem steps_sw0 {wS w0 : World} {B4 B5 PB BS BPp BN BQ BA : Nat} {m : Mon} {k : Nat} {x1 x2 x3 a5 pva : Option Addr} {y1 y2 y3 c5 pvc : Nat} {ps : List Ptr} {s1 s2 s3 s4 pa po pt : Int} {lc : List Cell} {lb lo cl2 : Nat}
  {x_0 x_1 x_2 x_3 x_17 x_18 x_19 x_20 x_21 x_22 x_23 x_24 x_25 x_26 x_27 x_28 x_29 x_30 x_31 x_32 x_33 x_34 x_35 x_36 x_37 x_38 x_39 x_40 x_41 x_42 x_43 x_44 x_45 x_46 x_47 x_48 x_49 x_50 x_51 x_52 x_53 x_54 x_55 x_56 x_57 x_58 x_59 x_60 x_61 x_62 x_63 x_64 x_65 x_66 x_67 x_68 x_69 x_71 x_72 x_73 x_74 x_75 x_76 x_77 x_78 x_79 x_80 x_81 x_82 x_83 x_84 x_85 x_86 x_87 x_88 x_89 x_90 x_91 x_92 x_93 x_94 x_95 x_96 x_97 x_98 x_99 x_100 x_101 x_102 x_103 x_104 x_105 x_106 x_107 x_108 x_109 x_110 x_111 x_112 x_113 x_114 x_115 x_116 x_117 x_118 x_119 x_120 x_121 x_122 x_123 x_124 x_125 x_126 x_127 x_128 x_129 x_130 x_131 x_132 x_133 x_134 x_135 x_136 x_137 x_138 x_139 x_140 x_141 x_142 x_143 x_144 x_145 x_146 x_147 x_148 x_149 x_150 x_151 x_152 x_153 x_154 x_155 x_156 x_157 x_158 x_159 x_160 x_161 x_162 x_163 x_164 x_165 x_166 x_167 x_168 x_169 x_170 x_171 x_172 x_173 x_174 x_175 x_176 x_177 x_178 x_179 x_180 x_181 x_182 x_183 x_184 x_185 x_186 x_187 x_188 x_189 x_190 x_191 x_192 x_193 x_194 x_195 x_196 x_197 x_198 x_199 x_200 x_201 x_202 x_203 x_204 x_205 x_206 x_207 x_208 x_209 x_210 x_211 x_212 x_213 x_214 x_215 x_216 x_217 x_218 x_219 x_220 x_221 x_222 x_223 x_224 x_225 x_226 x_227 x_228 x_229 x_230 x_231 x_232 x_233 x_234 x_235 x_236 x_237 x_238 x_239 x_240 x_241 x_242 x_243 x_244 x_245 x_246 : Value} {J K : Act→World→Prop} {Q : Exit→Act→World→Prop}
  (hK : ∀ a w,Met J a w→K a w)
  (hJ : ∀ {v13 v14 v16 u28 u29 u30 u31 u32 u33 u34 u35 u36 u37 u38 u39 u40 u41 u42 u43 u44 u45 u46 u47 u48 u49 u50 u51 u52 u53 u54 u55 u56 u57 u58 u59 u60 u61 u62 u63 u64 u65 u66 u67 u68 u69 u70 u71 u72 u73 u74 u75 u76 u77 u78 u79 u80 u81 u82 u83 u84 u85 u86 u87 u88 u89 u90 u91 u92 u93 u94 u95 u96 u97 u98 u99 u100 u101 u102 u103 u104 u105 u106 u107 u108 u109 u110 u111 u112 u113 u114 u115 u116 u117 u118 u119 u120 u121 u122 u123 u124 u125 u126 u127 u128 u129 u130 u131 u132 u133 u134 u135 u136 u137 u138 u139 u140 u141 u142 u143 u144 u145 u146 u147 u148 u149 u150 u151 u152 u153 u154 u155 u156 u157 u158 u159 u160 u161 u162 u163 u164 u165 u166 u167 u168 u169 u170 u171 u172 u173 u174 u175 u176 u177 u178 u179 u180 u181 u182 u183 u184 u185 u186 u187 u188 u189 u190 u191 u192 u193 u194 u195 u196 u197 u198 u199 u200 u201 u202 u203 u204 u205 u206 u207 u208 u209 u210 u211 u212 u213 u214 u215 u216 u217 u218 u219 u220 u221 u222 u223 u224 u225 u226 u227 u228 u229 u230 u231 u232 u233 u234 u235 u236 u237 u238 u239 u240 u241 u242 u243 u244 u245 : Value} {wx : World},StepRes (fun b=>b≠B4∧b≠B5∧b≠PB∧b≠BPp∧b≠BN∧b≠BQ∧b≠BA∧True) (fun b=>b=BN∨b=BQ∨b=BA∨False) w0 BN BQ BA m k v13 v14 v16 wx→J ⟨#[x_0,x_1,x_2,x_3,.pointer (some ⟨B4,0,none⟩),.pointer (some ⟨B5,0,none⟩),.slice pva ps.length pvc,.int .i64 (k : Int),.pointer (some ⟨BS,0,none⟩),.pointer (some ⟨BPp,0,none⟩),.slice (some ⟨lb,lo,none⟩) lc.length cl2,.pointer (some ⟨BN,0,none⟩),.pointer (some ⟨BQ,0,none⟩),v13,v14,.pointer (some ⟨BA,0,none⟩),v16,x_17,x_18,x_19,x_20,x_21,x_22,x_23,x_24,x_25,x_26,x_27,u28,u29,u30,u31,u32,u33,u34,u35,u36,u37,u38,u39,u40,u41,u42,u43,u44,u45,u46,u47,u48,u49,u50,u51,u52,u53,u54,u55,u56,u57,u58,u59,u60,u61,u62,u63,u64,u65,u66,u67,u68,u69,u70,u71,u72,u73,u74,u75,u76,u77,u78,u79,u80,u81,u82,u83,u84,u85,u86,u87,u88,u89,u90,u91,u92,u93,u94,u95,u96,u97,u98,u99,u100,u101,u102,u103,u104,u105,u106,u107,u108,u109,u110,u111,u112,u113,u114,u115,u116,u117,u118,u119,u120,u121,u122,u123,u124,u125,u126,u127,u128,u129,u130,u131,u132,u133,u134,u135,u136,u137,u138,u139,u140,u141,u142,u143,u144,u145,u146,u147,u148,u149,u150,u151,u152,u153,u154,u155,u156,u157,u158,u159,u160,u161,u162,u163,u164,u165,u166,u167,u168,u169,u170,u171,u172,u173,u174,u175,u176,u177,u178,u179,u180,u181,u182,u183,u184,u185,u186,u187,u188,u189,u190,u191,u192,u193,u194,u195,u196,u197,u198,u199,u200,u201,u202,u203,u204,u205,u206,u207,u208,u209,u210,u211,u212,u213,u214,u215,u216,u217,u218,u219,u220,u221,u222,u223,u224,u225,u226,u227,u228,u229,u230,u231,u232,u233,u234,u235,u236,u237,u238,u239,u240,u241,u242,u243,u244,u245,x_246],[]⟩ wx)
  (hp : Hid (Perms wS))
  (hF0 : Ext wS w0)
  (hok : Hid (okMon m=true))
  (hfew : Hid (Few m k))
  (hk30 : Hid (k < 30))
  (ne_bN_bM : Hid (BN≠B4))
  (ne_bN_bY : Hid (BN≠B5))
  (ne_bN_bG : Hid (BN≠PB))
  (ne_bN_bS : Hid (BN≠BS))
  (ne_bN_bP : Hid (BN≠BPp))
  (ne_bN_bQ : Hid (BN≠BQ))
  (ne_bN_bA : Hid (BN≠BA))
  (ne_bQ_bM : Hid (BQ≠B4))
  (ne_bQ_bY : Hid (BQ≠B5))
  (ne_bQ_bG : Hid (BQ≠PB))
  (ne_bQ_bS : Hid (BQ≠BS))
  (ne_bQ_bP : Hid (BQ≠BPp))
  (ne_bQ_bN : Hid (BQ≠BN))
  (ne_bQ_bA : Hid (BQ≠BA))
  (ne_bA_bM : Hid (BA≠B4))
  (ne_bA_bY : Hid (BA≠B5))
  (ne_bA_bG : Hid (BA≠PB))
  (ne_bA_bS : Hid (BA≠BS))
  (ne_bA_bP : Hid (BA≠BPp))
  (ne_bA_bN : Hid (BA≠BN))
  (ne_bA_bQ : Hid (BA≠BQ))
  (lowbM : Hid (wS.heap.size≤B4))
  (lowbY : Hid (wS.heap.size≤B5))
  (lowbG : Hid (wS.heap.size≤PB))
  (lowbP : Hid (wS.heap.size≤BPp))
  (lowbN : Hid (wS.heap.size≤BN))
  (lowbQ : Hid (wS.heap.size≤BQ))
  (lowbA : Hid (wS.heap.size≤BA))
  (bM : Box w0 B4 30 #[.slice x1 m.mem.al.length y1,.int .i64 m.mem.next,.slice x2 m.stks.length y2,.slice x3 m.run.length y3,.int .i64 m.tag,.int .i64 m.call])
  (bY : Box w0 B5 26 #[.slice a5 m.mem.al.length c5,.int .i64 m.mem.next])
  (bG : Pvb w0 wS.heap.size PB (.slice pva ps.length pvc) ps)
  (bS : Box w0 BS 33 #[.int .i64 0,.int .i64 s1,.int .i64 s2,.int .i64 s3,.int .i64 s4])
  (bP : Box w0 BPp 35 #[.int .i64 pa,.int .i64 po,.int .i64 pt])
  (bN : Box w0 BN 30 #[.slice x1 m.mem.al.length y1,.int .i64 m.mem.next,.slice x2 m.stks.length y2,.slice x3 m.run.length y3,.int .i64 m.tag,.int .i64 m.call])
  (bQ : Box w0 BQ 35 #[.int .i64 0,.int .i64 0,.int .i64 0])
  (bA : Box w0 BA 26 #[.slice a5 m.mem.al.length c5,.int .i64 m.mem.next])
  (Gm : Hid (Fq (fun b=>b≠B4∧b≠B5∧b≠PB∧b≠BPp∧b≠BN∧b≠BQ∧b≠BA∧True) w0 (RdA m ⟨x1,y1,x2,y2,x3,y3⟩)))
  (Gp : Hid (Fq (fun b=>b≠B4∧b≠B5∧b≠PB∧b≠BPp∧b≠BN∧b≠BQ∧b≠BA∧True) w0 (fun w=>Als w (.slice a5 m.mem.al.length c5) m.mem.al)))
  (qL : Hid (Fq (fun b=>b≠B4∧b≠B5∧b≠PB∧b≠BPp∧b≠BN∧b≠BQ∧b≠BA∧True) w0 (fun w=>Cls w (.slice (some ⟨lb,lo,none⟩) lc.length cl2) lc))) :
  Code.wp Tryz.prog ((Tryz.f3.body.bind (findS (isSB 2))).getD .skip) (Exit.then K Q) ⟨#[x_0,x_1,x_2,x_3,.pointer (some ⟨B4,0,none⟩),.pointer (some ⟨B5,0,none⟩),.slice pva ps.length pvc,.int .i64 (k : Int),.pointer (some ⟨BS,0,none⟩),.pointer (some ⟨BPp,0,none⟩),.slice (some ⟨lb,lo,none⟩) lc.length cl2,.pointer (some ⟨BN,0,none⟩),.pointer (some ⟨BQ,0,none⟩),.int .u8 0,.int .i64 0,.pointer (some ⟨BA,0,none⟩),.int .i64 0,x_17,x_18,x_19,x_20,x_21,x_22,x_23,x_24,x_25,x_26,x_27,x_28,x_29,x_30,x_31,x_32,x_33,x_34,x_35,x_36,x_37,x_38,x_39,x_40,x_41,x_42,x_43,x_44,x_45,x_46,x_47,x_48,x_49,x_50,x_51,x_52,x_53,x_54,x_55,x_56,x_57,x_58,x_59,x_60,x_61,x_62,x_63,x_64,x_65,x_66,x_67,x_68,x_69,.int .i64 0,x_71,x_72,x_73,x_74,x_75,x_76,x_77,x_78,x_79,x_80,x_81,x_82,x_83,x_84,x_85,x_86,x_87,x_88,x_89,x_90,x_91,x_92,x_93,x_94,x_95,x_96,x_97,x_98,x_99,x_100,x_101,x_102,x_103,x_104,x_105,x_106,x_107,x_108,x_109,x_110,x_111,x_112,x_113,x_114,x_115,x_116,x_117,x_118,x_119,x_120,x_121,x_122,x_123,x_124,x_125,x_126,x_127,x_128,x_129,x_130,x_131,x_132,x_133,x_134,x_135,x_136,x_137,x_138,x_139,x_140,x_141,x_142,x_143,x_144,x_145,x_146,x_147,x_148,x_149,x_150,x_151,x_152,x_153,x_154,x_155,x_156,x_157,x_158,x_159,x_160,x_161,x_162,x_163,x_164,x_165,x_166,x_167,x_168,x_169,x_170,x_171,x_172,x_173,x_174,x_175,x_176,x_177,x_178,x_179,x_180,x_181,x_182,x_183,x_184,x_185,x_186,x_187,x_188,x_189,x_190,x_191,x_192,x_193,x_194,x_195,x_196,x_197,x_198,x_199,x_200,x_201,x_202,x_203,x_204,x_205,x_206,x_207,x_208,x_209,x_210,x_211,x_212,x_213,x_214,x_215,x_216,x_217,x_218,x_219,x_220,x_221,x_222,x_223,x_224,x_225,x_226,x_227,x_228,x_229,x_230,x_231,x_232,x_233,x_234,x_235,x_236,x_237,x_238,x_239,x_240,x_241,x_242,x_243,x_244,x_245,x_246],[]⟩ w0:=by
 conv=>arg 2;whnf
 have hXt:=Lib.hid (ExtBut.refl (fun b=>b=BN∨b=BQ∨b=BA∨False) w0)
 obtain ⟨⟨x,⟨qa,qo,qt⟩,e⟩,h1⟩ : ∃ z,allocM m (lc.length : Int)=z:=⟨_,rfl⟩
 obtain ⟨⟨am,no,f⟩,h2⟩ : ∃ z,addR m.mem (lc.length : Int)=z:=⟨_,rfl⟩
 have st:=Lib.hid (step_alloc hok.out hfew.out hk30.out h1 h2)
 replace h1:=Lib.hid h1;replace h2:=Lib.hid h2
 obtain ⟨bM_0,bM_1,bM_2,bM_3,bM_4,bM_5,bM_l⟩:=bM.c6
 go_wp2_with fail
 clear bM_0 bM_1 bM_2 bM_3 bM_4 bM_5 bM_l
 have ltbM:=Lib.hid bM.lt
 have ltbY:=Lib.hid bY.lt
 have ltbG:=Lib.hid bG.lt
 have ltbP:=Lib.hid bP.lt
 have ltbN:=Lib.hid bN.lt
 have ltbQ:=Lib.hid bQ.lt
 have ltbA:=Lib.hid bA.lt
 refine (monitor_Alloc (lc.length : Int) Gm.out.read.1 (i64_of_ok hok.out) Gm.out.read.2.1 Gm.out.read.2.2).mono ?_
 rintro e w1 ⟨vt,rfl,fM,hE1⟩
 replace hXt:=Lib.hid (hXt.out.trans (ExtBut.of_ext hE1))
 replace bM:=bM.ext hE1
 replace bY:=bY.ext hE1
 replace bG:=bG.ext hE1
 replace bS:=bS.ext hE1
 replace bP:=bP.ext hE1
 replace bN:=bN.ext hE1
 replace bQ:=bQ.ext hE1
 replace bA:=bA.ext hE1
 replace Gm:=Lib.hid (Fq.ext Gm.out hE1)
 replace Gp:=Lib.hid (Fq.ext Gp.out hE1)
 replace qL:=Lib.hid (Fq.ext qL.out hE1)
 have hF1:=Ext.trans hF0 hE1
 rw [h1.out] at fM ⊢
 try dsimp only [Ptr.val] at fM ⊢
 obtain ⟨nsa,nss,nsr,rfl,qn⟩:=FrMon.parts fM
 clear fM
 obtain ⟨v_na,v_nac,rfl,-⟩:=(qn.read).1.form
 obtain ⟨v_nk,v_nkc,rfl,-⟩:=(qn.read).2.1.form
 obtain ⟨v_nr,v_nrc,rfl,-⟩:=(qn.read).2.2.form
 try dsimp only at qn ⊢
 have Gn:=Lib.hid (Fq.mono (S':=(fun b=>b≠B4∧b≠B5∧b≠PB∧b≠BPp∧b≠BN∧b≠BQ∧b≠BA∧True)) qn (fun b h1 _=>by have gbM:=ltbM.out;have gbY:=ltbY.out;have gbG:=ltbG.out;have gbP:=ltbP.out;have gbN:=ltbN.out;have gbQ:=ltbQ.out;have gbA:=ltbA.out;exact ⟨by omega,by omega,by omega,by omega,by omega,by omega,by omega,trivial⟩))
 clear qn ltbM ltbY ltbG ltbP ltbN ltbQ ltbA
 have nNQ : BN≠BQ:=ne_bN_bQ.out;have nQN : BQ≠BN:=ne_bQ_bN.out
 have bN_0 : World.cell? w1 ⟨BN,0,none⟩=some (.slice x1 m.mem.al.length y1):=bN.cell 0
 have bN_1 : World.cell? w1 ⟨BN,1,none⟩=some (.int .i64 m.mem.next):=bN.cell 1
 have bN_2 : World.cell? w1 ⟨BN,2,none⟩=some (.slice x2 m.stks.length y2):=bN.cell 2
 have bN_3 : World.cell? w1 ⟨BN,3,none⟩=some (.slice x3 m.run.length y3):=bN.cell 3
 have bN_4 : World.cell? w1 ⟨BN,4,none⟩=some (.int .i64 m.tag):=bN.cell 4
 have bN_5 : World.cell? w1 ⟨BN,5,none⟩=some (.int .i64 m.call):=bN.cell 5
 have bN_f0 : World.frozen? w1 ⟨BN,0,none⟩=false:=bN.frozen 0
 have bN_f1 : World.frozen? w1 ⟨BN,1,none⟩=false:=bN.frozen 1
 have bN_f2 : World.frozen? w1 ⟨BN,2,none⟩=false:=bN.frozen 2
 have bN_f3 : World.frozen? w1 ⟨BN,3,none⟩=false:=bN.frozen 3
 have bN_f4 : World.frozen? w1 ⟨BN,4,none⟩=false:=bN.frozen 4
 have bN_f5 : World.frozen? w1 ⟨BN,5,none⟩=false:=bN.frozen 5
 have bN_l:=bN.lt
 have bQ_0 : World.cell? w1 ⟨BQ,0,none⟩=some (.int .i64 0):=bQ.cell 0
 have bQ_1 : World.cell? w1 ⟨BQ,1,none⟩=some (.int .i64 0):=bQ.cell 1
 have bQ_2 : World.cell? w1 ⟨BQ,2,none⟩=some (.int .i64 0):=bQ.cell 2
 have bQ_f0 : World.frozen? w1 ⟨BQ,0,none⟩=false:=bQ.frozen 0
 have bQ_f1 : World.frozen? w1 ⟨BQ,1,none⟩=false:=bQ.frozen 1
 have bQ_f2 : World.frozen? w1 ⟨BQ,2,none⟩=false:=bQ.frozen 2
 have bQ_l:=bQ.lt
 go_upto_region 22 with fail
 clear bN_0 bN_1 bN_2 bN_3 bN_4 bN_5 bN_f0 bN_f1 bN_f2 bN_f3 bN_f4 bN_f5 bN_l bQ_0 bQ_1 bQ_2 bQ_f0 bQ_f1 bQ_f2 bQ_l
 have hS2:=(ExtBut.sc (ExtBut.sc (ExtBut.sc (ExtBut.sc (ExtBut.sc (ExtBut.sc (ExtBut.sc (ExtBut.sc (ExtBut.sc (ExtBut.refl (fun b=>b=BN∨b=BQ∨False) w1) (p:=⟨BN,0,none⟩) (u := .slice v_na x.mem.al.length v_nac) (.inl rfl)) (p:=⟨BN,1,none⟩) (u := .int .i64 x.mem.next) (.inl rfl)) (p:=⟨BN,2,none⟩) (u := .slice v_nk x.stks.length v_nkc) (.inl rfl)) (p:=⟨BN,3,none⟩) (u := .slice v_nr x.run.length v_nrc) (.inl rfl)) (p:=⟨BN,4,none⟩) (u := .int .i64 x.tag) (.inl rfl)) (p:=⟨BN,5,none⟩) (u := .int .i64 x.call) (.inl rfl)) (p:=⟨BQ,0,none⟩) (u := .int .i64 qa) (.inr (.inl rfl))) (p:=⟨BQ,1,none⟩) (u := .int .i64 qo) (.inr (.inl rfl))) (p:=⟨BQ,2,none⟩) (u := .int .i64 qt) (.inr (.inl rfl)))
 replace bN:=(Box.other (Box.other (Box.other (Box.setL (Box.setL (Box.setL (Box.setL (Box.setL (Box.setL bN 0 (.slice v_na x.mem.al.length v_nac)) 1 (.int .i64 x.mem.next)) 2 (.slice v_nk x.stks.length v_nkc)) 3 (.slice v_nr x.run.length v_nrc)) 4 (.int .i64 x.tag)) 5 (.int .i64 x.call)) (p:=⟨BQ,0,none⟩) (ne_bQ_bN.out) (.int .i64 qa)) (p:=⟨BQ,1,none⟩) (ne_bQ_bN.out) (.int .i64 qo)) (p:=⟨BQ,2,none⟩) (ne_bQ_bN.out) (.int .i64 qt))
 simp only [List.set_cons_zero,List.set_cons_succ] at bN
 replace bQ:=(Box.setL (Box.setL (Box.setL (Box.other (Box.other (Box.other (Box.other (Box.other (Box.other bQ (p:=⟨BN,0,none⟩) (ne_bN_bQ.out) (.slice v_na x.mem.al.length v_nac)) (p:=⟨BN,1,none⟩) (ne_bN_bQ.out) (.int .i64 x.mem.next)) (p:=⟨BN,2,none⟩) (ne_bN_bQ.out) (.slice v_nk x.stks.length v_nkc)) (p:=⟨BN,3,none⟩) (ne_bN_bQ.out) (.slice v_nr x.run.length v_nrc)) (p:=⟨BN,4,none⟩) (ne_bN_bQ.out) (.int .i64 x.tag)) (p:=⟨BN,5,none⟩) (ne_bN_bQ.out) (.int .i64 x.call)) 0 (.int .i64 qa)) 1 (.int .i64 qo)) 2 (.int .i64 qt))
 simp only [List.set_cons_zero,List.set_cons_succ] at bQ
 obtain ⟨w2s,hw2⟩ : ∃ z,(World.setCell (World.setCell (World.setCell (World.setCell (World.setCell (World.setCell (World.setCell (World.setCell (World.setCell w1 ⟨BN,0,none⟩ (.slice v_na x.mem.al.length v_nac)) ⟨BN,1,none⟩ (.int .i64 x.mem.next)) ⟨BN,2,none⟩ (.slice v_nk x.stks.length v_nkc)) ⟨BN,3,none⟩ (.slice v_nr x.run.length v_nrc)) ⟨BN,4,none⟩ (.int .i64 x.tag)) ⟨BN,5,none⟩ (.int .i64 x.call)) ⟨BQ,0,none⟩ (.int .i64 qa)) ⟨BQ,1,none⟩ (.int .i64 qo)) ⟨BQ,2,none⟩ (.int .i64 qt))=z:=⟨_,rfl⟩
 rw [hw2] at hS2 bN bQ ⊢
 clear hw2
 replace hXt:=Lib.hid (hXt.out.trans (hS2.mono (fun b _ h=>by rcases h with h | h | h;exact .inl h;exact .inr (.inl h);exact h.elim)))
 replace bM:=Box.but bM hS2 (fun h=>by rcases h with h | h | h;exact ne_bN_bM.out h.symm;exact ne_bQ_bM.out h.symm;exact h)
 replace bY:=Box.but bY hS2 (fun h=>by rcases h with h | h | h;exact ne_bN_bY.out h.symm;exact ne_bQ_bY.out h.symm;exact h)
 replace bG:=Pvb.but bG hS2 (fun h=>by rcases h with h | h | h;exact ne_bN_bG.out h.symm;exact ne_bQ_bG.out h.symm;exact h)
 replace bS:=Box.but bS hS2 (fun h=>by rcases h with h | h | h;exact ne_bN_bS.out h.symm;exact ne_bQ_bS.out h.symm;exact h)
 replace bP:=Box.but bP hS2 (fun h=>by rcases h with h | h | h;exact ne_bN_bP.out h.symm;exact ne_bQ_bP.out h.symm;exact h)
 replace bA:=Box.but bA hS2 (fun h=>by rcases h with h | h | h;exact ne_bN_bA.out h.symm;exact ne_bQ_bA.out h.symm;exact h)
 replace Gm:=Lib.hid (Fq.but Gm.out hS2 (fun b h _ h2=>by rcases h2 with h2 | h2 | h2;exact h.2.2.2.2.1 h2;exact h.2.2.2.2.2.1 h2;exact h2))
 replace Gp:=Lib.hid (Fq.but Gp.out hS2 (fun b h _ h2=>by rcases h2 with h2 | h2 | h2;exact h.2.2.2.2.1 h2;exact h.2.2.2.2.2.1 h2;exact h2))
 replace qL:=Lib.hid (Fq.but qL.out hS2 (fun b h _ h2=>by rcases h2 with h2 | h2 | h2;exact h.2.2.2.2.1 h2;exact h.2.2.2.2.2.1 h2;exact h2))
 replace Gn:=Lib.hid (Fq.but Gn.out hS2 (fun b h _ h2=>by rcases h2 with h2 | h2 | h2;exact h.2.2.2.2.1 h2;exact h.2.2.2.2.2.1 h2;exact h2))
 have hF3:=ExtBut.ext hF1 hS2 (fun b h=>by rcases h with h | h | h;(rw [h];exact lowbN.out);(rw [h];exact lowbQ.out);exact h.elim)
 clear hS2
 clear nNQ nQN
 obtain ⟨bY_0,bY_1,bY_l⟩:=bY.c2
 go_wp2_with fail
 clear bY_0 bY_1 bY_l
 have ltbM:=Lib.hid bM.lt
 have ltbY:=Lib.hid bY.lt
 have ltbG:=Lib.hid bG.lt
 have ltbP:=Lib.hid bP.lt
 have ltbN:=Lib.hid bN.lt
 have ltbQ:=Lib.hid bQ.lt
 have ltbA:=Lib.hid bA.lt
 refine (allocs_Add (m:=m.mem) (lc.length : Int) Gp.out.read (i64_of_ok hok.out)).mono ?_
 rintro e w4 ⟨v,rfl,fM,hE4⟩
 replace hXt:=Lib.hid (hXt.out.trans (ExtBut.of_ext hE4))
 replace bM:=bM.ext hE4
 replace bY:=bY.ext hE4
 replace bG:=bG.ext hE4
 replace bS:=bS.ext hE4
 replace bP:=bP.ext hE4
 replace bN:=bN.ext hE4
 replace bQ:=bQ.ext hE4
 replace bA:=bA.ext hE4
 replace Gm:=Lib.hid (Fq.ext Gm.out hE4)
 replace Gp:=Lib.hid (Fq.ext Gp.out hE4)
 replace qL:=Lib.hid (Fq.ext qL.out hE4)
 replace Gn:=Lib.hid (Fq.ext Gn.out hE4)
 have hF4:=Ext.trans hF3 hE4
 rw [h2.out] at fM ⊢
 obtain ⟨sy,rfl,hyz⟩:=FrM.fs fM
 clear fM
 have hvy:=hyz.read.form
 obtain ⟨yza,yzc,rfl,-⟩:=hvy
 dsimp only at hyz ⊢
 have Gz:=Lib.hid (Fq.mono (S':=(fun b=>b≠B4∧b≠B5∧b≠PB∧b≠BPp∧b≠BN∧b≠BQ∧b≠BA∧True)) hyz (fun b h1 _=>by have gbM:=ltbM.out;have gbY:=ltbY.out;have gbG:=ltbG.out;have gbP:=ltbP.out;have gbN:=ltbN.out;have gbQ:=ltbQ.out;have gbA:=ltbA.out;exact ⟨by omega,by omega,by omega,by omega,by omega,by omega,by omega,trivial⟩))
 clear hyz ltbM ltbY ltbG ltbP ltbN ltbQ ltbA
 have bA_0 : World.cell? w4 ⟨BA,0,none⟩=some (.slice a5 m.mem.al.length c5):=bA.cell 0
 have bA_1 : World.cell? w4 ⟨BA,1,none⟩=some (.int .i64 m.mem.next):=bA.cell 1
 have bA_f0 : World.frozen? w4 ⟨BA,0,none⟩=false:=bA.frozen 0
 have bA_f1 : World.frozen? w4 ⟨BA,1,none⟩=false:=bA.frozen 1
 have bA_l:=bA.lt
 go_wp2_with fail
 clear bA_0 bA_1 bA_f0 bA_f1 bA_l
 have hS5:=(ExtBut.sc (ExtBut.sc (ExtBut.refl (fun b=>b=BA∨False) w4) (p:=⟨BA,0,none⟩) (u := .slice yza am.al.length yzc) (.inl rfl)) (p:=⟨BA,1,none⟩) (u := .int .i64 am.next) (.inl rfl))
 replace bA:=(Box.setL (Box.setL bA 0 (.slice yza am.al.length yzc)) 1 (.int .i64 am.next))
 simp only [List.set_cons_zero,List.set_cons_succ] at bA
 obtain ⟨w5s,hw5⟩ : ∃ z,(World.setCell (World.setCell w4 ⟨BA,0,none⟩ (.slice yza am.al.length yzc)) ⟨BA,1,none⟩ (.int .i64 am.next))=z:=⟨_,rfl⟩
 rw [hw5] at hS5 bA ⊢
 clear hw5
 replace hXt:=Lib.hid (hXt.out.trans (hS5.mono (fun b _ h=>by rcases h with h | h;exact .inr (.inr (.inl h));exact h.elim)))
 replace bM:=Box.but bM hS5 (fun h=>by rcases h with h | h;exact ne_bA_bM.out h.symm;exact h)
 replace bY:=Box.but bY hS5 (fun h=>by rcases h with h | h;exact ne_bA_bY.out h.symm;exact h)
 replace bG:=Pvb.but bG hS5 (fun h=>by rcases h with h | h;exact ne_bA_bG.out h.symm;exact h)
 replace bS:=Box.but bS hS5 (fun h=>by rcases h with h | h;exact ne_bA_bS.out h.symm;exact h)
 replace bP:=Box.but bP hS5 (fun h=>by rcases h with h | h;exact ne_bA_bP.out h.symm;exact h)
 replace bN:=Box.but bN hS5 (fun h=>by rcases h with h | h;exact ne_bA_bN.out h.symm;exact h)
 replace bQ:=Box.but bQ hS5 (fun h=>by rcases h with h | h;exact ne_bA_bQ.out h.symm;exact h)
 replace Gm:=Lib.hid (Fq.but Gm.out hS5 (fun b h _ h2=>by rcases h2 with h2 | h2;exact h.2.2.2.2.2.2.1 h2;exact h2))
 replace Gp:=Lib.hid (Fq.but Gp.out hS5 (fun b h _ h2=>by rcases h2 with h2 | h2;exact h.2.2.2.2.2.2.1 h2;exact h2))
 replace qL:=Lib.hid (Fq.but qL.out hS5 (fun b h _ h2=>by rcases h2 with h2 | h2;exact h.2.2.2.2.2.2.1 h2;exact h2))
 replace Gn:=Lib.hid (Fq.but Gn.out hS5 (fun b h _ h2=>by rcases h2 with h2 | h2;exact h.2.2.2.2.2.2.1 h2;exact h2))
 replace Gz:=Lib.hid (Fq.but Gz.out hS5 (fun b h _ h2=>by rcases h2 with h2 | h2;exact h.2.2.2.2.2.2.1 h2;exact h2))
 have hF6:=ExtBut.ext hF4 hS5 (fun b h=>by rcases h with h | h;(rw [h];exact lowbA.out);exact h.elim)
 clear hS5
 refine Met.intro ?_
 refine hJ ?_
 exact ⟨x,⟨qa,qo,qt⟩,0,e,f,am,⟨v_na,v_nac,v_nk,v_nkc,v_nr,v_nrc⟩,yza,yzc,rfl,rfl,rfl,st.out,bN,bQ,bA,Gn.out,Gz.out,hXt.out⟩
set_option maxRecDepth 1000000 in
set_option maxHeartbeats 12800000 in
theorem steps_sw1 {wS w0 : World} {B4 B5 PB BS BPp BN BQ BA : Nat} {m : Mon} {k : Nat} {x1 x2 x3 a5 pva : Option Addr} {y1 y2 y3 c5 pvc : Nat} {ps : List Ptr} {s1 s2 s3 s4 pa po pt : Int} {lc : List Cell} {lb lo cl2 : Nat}
  {x_0 x_1 x_2 x_3 x_17 x_18 x_19 x_20 x_21 x_22 x_23 x_24 x_25 x_26 x_27 x_28 x_29 x_30 x_31 x_32 x_33 x_34 x_35 x_36 x_37 x_38 x_39 x_40 x_41 x_42 x_43 x_44 x_45 x_46 x_47 x_48 x_49 x_50 x_51 x_52 x_53 x_54 x_55 x_56 x_57 x_58 x_59 x_60 x_61 x_62 x_63 x_64 x_65 x_66 x_67 x_68 x_69 x_71 x_72 x_73 x_74 x_75 x_76 x_77 x_78 x_79 x_80 x_81 x_82 x_83 x_84 x_85 x_86 x_87 x_88 x_89 x_90 x_91 x_92 x_93 x_94 x_95 x_96 x_97 x_98 x_99 x_100 x_101 x_102 x_103 x_104 x_105 x_106 x_107 x_108 x_109 x_110 x_111 x_112 x_113 x_114 x_115 x_116 x_117 x_118 x_119 x_120 x_121 x_122 x_123 x_124 x_125 x_126 x_127 x_128 x_129 x_130 x_131 x_132 x_133 x_134 x_135 x_136 x_137 x_138 x_139 x_140 x_141 x_142 x_143 x_144 x_145 x_146 x_147 x_148 x_149 x_150 x_151 x_152 x_153 x_154 x_155 x_156 x_157 x_158 x_159 x_160 x_161 x_162 x_163 x_164 x_165 x_166 x_167 x_168 x_169 x_170 x_171 x_172 x_173 x_174 x_175 x_176 x_177 x_178 x_179 x_180 x_181 x_182 x_183 x_184 x_185 x_186 x_187 x_188 x_189 x_190 x_191 x_192 x_193 x_194 x_195 x_196 x_197 x_198 x_199 x_200 x_201 x_202 x_203 x_204 x_205 x_206 x_207 x_208 x_209 x_210 x_211 x_212 x_213 x_214 x_215 x_216 x_217 x_218 x_219 x_220 x_221 x_222 x_223 x_224 x_225 x_226 x_227 x_228 x_229 x_230 x_231 x_232 x_233 x_234 x_235 x_236 x_237 x_238 x_239 x_240 x_241 x_242 x_243 x_244 x_245 x_246 : Value} {J K : Act→World→Prop} {Q : Exit→Act→World→Prop}
  (hK : ∀ a w,Met J a w→K a w)
  (hJ : ∀ {v13 v14 v16 u28 u29 u30 u31 u32 u33 u34 u35 u36 u37 u38 u39 u40 u41 u42 u43 u44 u45 u46 u47 u48 u49 u50 u51 u52 u53 u54 u55 u56 u57 u58 u59 u60 u61 u62 u63 u64 u65 u66 u67 u68 u69 u70 u71 u72 u73 u74 u75 u76 u77 u78 u79 u80 u81 u82 u83 u84 u85 u86 u87 u88 u89 u90 u91 u92 u93 u94 u95 u96 u97 u98 u99 u100 u101 u102 u103 u104 u105 u106 u107 u108 u109 u110 u111 u112 u113 u114 u115 u116 u117 u118 u119 u120 u121 u122 u123 u124 u125 u126 u127 u128 u129 u130 u131 u132 u133 u134 u135 u136 u137 u138 u139 u140 u141 u142 u143 u144 u145 u146 u147 u148 u149 u150 u151 u152 u153 u154 u155 u156 u157 u158 u159 u160 u161 u162 u163 u164 u165 u166 u167 u168 u169 u170 u171 u172 u173 u174 u175 u176 u177 u178 u179 u180 u181 u182 u183 u184 u185 u186 u187 u188 u189 u190 u191 u192 u193 u194 u195 u196 u197 u198 u199 u200 u201 u202 u203 u204 u205 u206 u207 u208 u209 u210 u211 u212 u213 u214 u215 u216 u217 u218 u219 u220 u221 u222 u223 u224 u225 u226 u227 u228 u229 u230 u231 u232 u233 u234 u235 u236 u237 u238 u239 u240 u241 u242 u243 u244 u245 : Value} {wx : World},StepRes (fun b=>b≠B4∧b≠B5∧b≠PB∧b≠BPp∧b≠BN∧b≠BQ∧b≠BA∧True) (fun b=>b=BN∨b=BQ∨b=BA∨False) w0 BN BQ BA m k v13 v14 v16 wx→J ⟨#[x_0,x_1,x_2,x_3,.pointer (some ⟨B4,0,none⟩),.pointer (some ⟨B5,0,none⟩),.slice pva ps.length pvc,.int .i64 (k : Int),.pointer (some ⟨BS,0,none⟩),.pointer (some ⟨BPp,0,none⟩),.slice (some ⟨lb,lo,none⟩) lc.length cl2,.pointer (some ⟨BN,0,none⟩),.pointer (some ⟨BQ,0,none⟩),v13,v14,.pointer (some ⟨BA,0,none⟩),v16,x_17,x_18,x_19,x_20,x_21,x_22,x_23,x_24,x_25,x_26,x_27,u28,u29,u30,u31,u32,u33,u34,u35,u36,u37,u38,u39,u40,u41,u42,u43,u44,u45,u46,u47,u48,u49,u50,u51,u52,u53,u54,u55,u56,u57,u58,u59,u60,u61,u62,u63,u64,u65,u66,u67,u68,u69,u70,u71,u72,u73,u74,u75,u76,u77,u78,u79,u80,u81,u82,u83,u84,u85,u86,u87,u88,u89,u90,u91,u92,u93,u94,u95,u96,u97,u98,u99,u100,u101,u102,u103,u104,u105,u106,u107,u108,u109,u110,u111,u112,u113,u114,u115,u116,u117,u118,u119,u120,u121,u122,u123,u124,u125,u126,u127,u128,u129,u130,u131,u132,u133,u134,u135,u136,u137,u138,u139,u140,u141,u142,u143,u144,u145,u146,u147,u148,u149,u150,u151,u152,u153,u154,u155,u156,u157,u158,u159,u160,u161,u162,u163,u164,u165,u166,u167,u168,u169,u170,u171,u172,u173,u174,u175,u176,u177,u178,u179,u180,u181,u182,u183,u184,u185,u186,u187,u188,u189,u190,u191,u192,u193,u194,u195,u196,u197,u198,u199,u200,u201,u202,u203,u204,u205,u206,u207,u208,u209,u210,u211,u212,u213,u214,u215,u216,u217,u218,u219,u220,u221,u222,u223,u224,u225,u226,u227,u228,u229,u230,u231,u232,u233,u234,u235,u236,u237,u238,u239,u240,u241,u242,u243,u244,u245,x_246],[]⟩ wx)
  (hp : Hid (Perms wS))
  (hF0 : Ext wS w0)
  (hok : Hid (okMon m=true))
  (hfew : Hid (Few m k))
  (hk30 : Hid (k < 30))
  (ne_bN_bM : Hid (BN≠B4))
  (ne_bN_bY : Hid (BN≠B5))
  (ne_bN_bG : Hid (BN≠PB))
  (ne_bN_bS : Hid (BN≠BS))
  (ne_bN_bP : Hid (BN≠BPp))
  (ne_bN_bQ : Hid (BN≠BQ))
  (ne_bN_bA : Hid (BN≠BA))
  (ne_bQ_bM : Hid (BQ≠B4))
  (ne_bQ_bY : Hid (BQ≠B5))
  (ne_bQ_bG : Hid (BQ≠PB))
  (ne_bQ_bS : Hid (BQ≠BS))
  (ne_bQ_bP : Hid (BQ≠BPp))
  (ne_bQ_bN : Hid (BQ≠BN))
  (ne_bQ_bA : Hid (BQ≠BA))
  (ne_bA_bM : Hid (BA≠B4))
  (ne_bA_bY : Hid (BA≠B5))
  (ne_bA_bG : Hid (BA≠PB))
  (ne_bA_bS : Hid (BA≠BS))
  (ne_bA_bP : Hid (BA≠BPp))
  (ne_bA_bN : Hid (BA≠BN))
  (ne_bA_bQ : Hid (BA≠BQ))
  (lowbM : Hid (wS.heap.size≤B4))
  (lowbY : Hid (wS.heap.size≤B5))
  (lowbG : Hid (wS.heap.size≤PB))
  (lowbP : Hid (wS.heap.size≤BPp))
  (lowbN : Hid (wS.heap.size≤BN))
  (lowbQ : Hid (wS.heap.size≤BQ))
  (lowbA : Hid (wS.heap.size≤BA))
  (bM : Box w0 B4 30 #[.slice x1 m.mem.al.length y1,.int .i64 m.mem.next,.slice x2 m.stks.length y2,.slice x3 m.run.length y3,.int .i64 m.tag,.int .i64 m.call])
  (bY : Box w0 B5 26 #[.slice a5 m.mem.al.length c5,.int .i64 m.mem.next])
  (bG : Pvb w0 wS.heap.size PB (.slice pva ps.length pvc) ps)
  (bS : Box w0 BS 33 #[.int .i64 1,.int .i64 s1,.int .i64 s2,.int .i64 s3,.int .i64 s4])
  (bP : Box w0 BPp 35 #[.int .i64 pa,.int .i64 po,.int .i64 pt])
  (bN : Box w0 BN 30 #[.slice x1 m.mem.al.length y1,.int .i64 m.mem.next,.slice x2 m.stks.length y2,.slice x3 m.run.length y3,.int .i64 m.tag,.int .i64 m.call])
  (bQ : Box w0 BQ 35 #[.int .i64 0,.int .i64 0,.int .i64 0])
  (bA : Box w0 BA 26 #[.slice a5 m.mem.al.length c5,.int .i64 m.mem.next])
  (Gm : Hid (Fq (fun b=>b≠B4∧b≠B5∧b≠PB∧b≠BPp∧b≠BN∧b≠BQ∧b≠BA∧True) w0 (RdA m ⟨x1,y1,x2,y2,x3,y3⟩)))
  (Gp : Hid (Fq (fun b=>b≠B4∧b≠B5∧b≠PB∧b≠BPp∧b≠BN∧b≠BQ∧b≠BA∧True) w0 (fun w=>Als w (.slice a5 m.mem.al.length c5) m.mem.al)))
  (qL : Hid (Fq (fun b=>b≠B4∧b≠B5∧b≠PB∧b≠BPp∧b≠BN∧b≠BQ∧b≠BA∧True) w0 (fun w=>Cls w (.slice (some ⟨lb,lo,none⟩) lc.length cl2) lc))) :
  Code.wp Tryz.prog ((Tryz.f3.body.bind (findS (isSB 2))).getD .skip) (Exit.then K Q) ⟨#[x_0,x_1,x_2,x_3,.pointer (some ⟨B4,0,none⟩),.pointer (some ⟨B5,0,none⟩),.slice pva ps.length pvc,.int .i64 (k : Int),.pointer (some ⟨BS,0,none⟩),.pointer (some ⟨BPp,0,none⟩),.slice (some ⟨lb,lo,none⟩) lc.length cl2,.pointer (some ⟨BN,0,none⟩),.pointer (some ⟨BQ,0,none⟩),.int .u8 0,.int .i64 0,.pointer (some ⟨BA,0,none⟩),.int .i64 0,x_17,x_18,x_19,x_20,x_21,x_22,x_23,x_24,x_25,x_26,x_27,x_28,x_29,x_30,x_31,x_32,x_33,x_34,x_35,x_36,x_37,x_38,x_39,x_40,x_41,x_42,x_43,x_44,x_45,x_46,x_47,x_48,x_49,x_50,x_51,x_52,x_53,x_54,x_55,x_56,x_57,x_58,x_59,x_60,x_61,x_62,x_63,x_64,x_65,x_66,x_67,x_68,x_69,.int .i64 1,x_71,x_72,x_73,x_74,x_75,x_76,x_77,x_78,x_79,x_80,x_81,x_82,x_83,x_84,x_85,x_86,x_87,x_88,x_89,x_90,x_91,x_92,x_93,x_94,x_95,x_96,x_97,x_98,x_99,x_100,x_101,x_102,x_103,x_104,x_105,x_106,x_107,x_108,x_109,x_110,x_111,x_112,x_113,x_114,x_115,x_116,x_117,x_118,x_119,x_120,x_121,x_122,x_123,x_124,x_125,x_126,x_127,x_128,x_129,x_130,x_131,x_132,x_133,x_134,x_135,x_136,x_137,x_138,x_139,x_140,x_141,x_142,x_143,x_144,x_145,x_146,x_147,x_148,x_149,x_150,x_151,x_152,x_153,x_154,x_155,x_156,x_157,x_158,x_159,x_160,x_161,x_162,x_163,x_164,x_165,x_166,x_167,x_168,x_169,x_170,x_171,x_172,x_173,x_174,x_175,x_176,x_177,x_178,x_179,x_180,x_181,x_182,x_183,x_184,x_185,x_186,x_187,x_188,x_189,x_190,x_191,x_192,x_193,x_194,x_195,x_196,x_197,x_198,x_199,x_200,x_201,x_202,x_203,x_204,x_205,x_206,x_207,x_208,x_209,x_210,x_211,x_212,x_213,x_214,x_215,x_216,x_217,x_218,x_219,x_220,x_221,x_222,x_223,x_224,x_225,x_226,x_227,x_228,x_229,x_230,x_231,x_232,x_233,x_234,x_235,x_236,x_237,x_238,x_239,x_240,x_241,x_242,x_243,x_244,x_245,x_246],[]⟩ w0:=by
 conv=>arg 2;whnf
 have hXt:=Lib.hid (ExtBut.refl (fun b=>b=BN∨b=BQ∨b=BA∨False) w0)
 obtain ⟨⟨x,why,e⟩,h1⟩ : ∃ z,storeM m ⟨pa,po,pt⟩ lc=z:=⟨_,rfl⟩
 obtain ⟨⟨am,wy,f⟩,h2⟩ : ∃ z,storeR m.mem ⟨pa,po,pt⟩ lc=z:=⟨_,rfl⟩
 have st:=Lib.hid (step_store hok.out hfew.out h1 h2)
 replace h1:=Lib.hid h1;replace h2:=Lib.hid h2
 obtain ⟨bM_0,bM_1,bM_2,bM_3,bM_4,bM_5,bM_l⟩:=bM.c6
 obtain ⟨bP_0,bP_1,bP_2,bP_l⟩:=bP.c3
 go_wp2_with fail
 clear bM_0 bM_1 bM_2 bM_3 bM_4 bM_5 bM_l bP_0 bP_1 bP_2 bP_l
 have ltbM:=Lib.hid bM.lt
 have ltbY:=Lib.hid bY.lt
 have ltbG:=Lib.hid bG.lt
 have ltbP:=Lib.hid bP.lt
 have ltbN:=Lib.hid bN.lt
 have ltbQ:=Lib.hid bQ.lt
 have ltbA:=Lib.hid bA.lt
 refine (monitor_Store pa po pt Gm.out.read.1 (i64_of_ok hok.out) Gm.out.read.2.1 Gm.out.read.2.2 qL.out.read).mono ?_
 rintro e w1 ⟨vt,rfl,fM,hE1⟩
 replace hXt:=Lib.hid (hXt.out.trans (ExtBut.of_ext hE1))
 replace bM:=bM.ext hE1
 replace bY:=bY.ext hE1
 replace bG:=bG.ext hE1
 replace bS:=bS.ext hE1
 replace bP:=bP.ext hE1
 replace bN:=bN.ext hE1
 replace bQ:=bQ.ext hE1
 replace bA:=bA.ext hE1
 replace Gm:=Lib.hid (Fq.ext Gm.out hE1)
 replace Gp:=Lib.hid (Fq.ext Gp.out hE1)
 replace qL:=Lib.hid (Fq.ext qL.out hE1)
 have hF1:=Ext.trans hF0 hE1
 rw [h1.out] at fM ⊢
 try dsimp only [Ptr.val] at fM ⊢
 obtain ⟨nsa,nss,nsr,rfl,qn⟩:=FrMon.parts fM
 clear fM
 obtain ⟨v_na,v_nac,rfl,-⟩:=(qn.read).1.form
 obtain ⟨v_nk,v_nkc,rfl,-⟩:=(qn.read).2.1.form
 obtain ⟨v_nr,v_nrc,rfl,-⟩:=(qn.read).2.2.form
 try dsimp only at qn ⊢
 have Gn:=Lib.hid (Fq.mono (S':=(fun b=>b≠B4∧b≠B5∧b≠PB∧b≠BPp∧b≠BN∧b≠BQ∧b≠BA∧True)) qn (fun b h1 _=>by have gbM:=ltbM.out;have gbY:=ltbY.out;have gbG:=ltbG.out;have gbP:=ltbP.out;have gbN:=ltbN.out;have gbQ:=ltbQ.out;have gbA:=ltbA.out;exact ⟨by omega,by omega,by omega,by omega,by omega,by omega,by omega,trivial⟩))
 clear qn ltbM ltbY ltbG ltbP ltbN ltbQ ltbA
 have bN_0 : World.cell? w1 ⟨BN,0,none⟩=some (.slice x1 m.mem.al.length y1):=bN.cell 0
 have bN_1 : World.cell? w1 ⟨BN,1,none⟩=some (.int .i64 m.mem.next):=bN.cell 1
 have bN_2 : World.cell? w1 ⟨BN,2,none⟩=some (.slice x2 m.stks.length y2):=bN.cell 2
 have bN_3 : World.cell? w1 ⟨BN,3,none⟩=some (.slice x3 m.run.length y3):=bN.cell 3
 have bN_4 : World.cell? w1 ⟨BN,4,none⟩=some (.int .i64 m.tag):=bN.cell 4
 have bN_5 : World.cell? w1 ⟨BN,5,none⟩=some (.int .i64 m.call):=bN.cell 5
 have bN_f0 : World.frozen? w1 ⟨BN,0,none⟩=false:=bN.frozen 0
 have bN_f1 : World.frozen? w1 ⟨BN,1,none⟩=false:=bN.frozen 1
 have bN_f2 : World.frozen? w1 ⟨BN,2,none⟩=false:=bN.frozen 2
 have bN_f3 : World.frozen? w1 ⟨BN,3,none⟩=false:=bN.frozen 3
 have bN_f4 : World.frozen? w1 ⟨BN,4,none⟩=false:=bN.frozen 4
 have bN_f5 : World.frozen? w1 ⟨BN,5,none⟩=false:=bN.frozen 5
 have bN_l:=bN.lt
 go_upto_region 25 with fail
 clear bN_0 bN_1 bN_2 bN_3 bN_4 bN_5 bN_f0 bN_f1 bN_f2 bN_f3 bN_f4 bN_f5 bN_l
 have hS2:=(ExtBut.sc (ExtBut.sc (ExtBut.sc (ExtBut.sc (ExtBut.sc (ExtBut.sc (ExtBut.refl (fun b=>b=BN∨False) w1) (p:=⟨BN,0,none⟩) (u := .slice v_na x.mem.al.length v_nac) (.inl rfl)) (p:=⟨BN,1,none⟩) (u := .int .i64 x.mem.next) (.inl rfl)) (p:=⟨BN,2,none⟩) (u := .slice v_nk x.stks.length v_nkc) (.inl rfl)) (p:=⟨BN,3,none⟩) (u := .slice v_nr x.run.length v_nrc) (.inl rfl)) (p:=⟨BN,4,none⟩) (u := .int .i64 x.tag) (.inl rfl)) (p:=⟨BN,5,none⟩) (u := .int .i64 x.call) (.inl rfl))
 replace bN:=(Box.setL (Box.setL (Box.setL (Box.setL (Box.setL (Box.setL bN 0 (.slice v_na x.mem.al.length v_nac)) 1 (.int .i64 x.mem.next)) 2 (.slice v_nk x.stks.length v_nkc)) 3 (.slice v_nr x.run.length v_nrc)) 4 (.int .i64 x.tag)) 5 (.int .i64 x.call))
 simp only [List.set_cons_zero,List.set_cons_succ] at bN
 obtain ⟨w2s,hw2⟩ : ∃ z,(World.setCell (World.setCell (World.setCell (World.setCell (World.setCell (World.setCell w1 ⟨BN,0,none⟩ (.slice v_na x.mem.al.length v_nac)) ⟨BN,1,none⟩ (.int .i64 x.mem.next)) ⟨BN,2,none⟩ (.slice v_nk x.stks.length v_nkc)) ⟨BN,3,none⟩ (.slice v_nr x.run.length v_nrc)) ⟨BN,4,none⟩ (.int .i64 x.tag)) ⟨BN,5,none⟩ (.int .i64 x.call))=z:=⟨_,rfl⟩
 rw [hw2] at hS2 bN ⊢
 clear hw2
 replace hXt:=Lib.hid (hXt.out.trans (hS2.mono (fun b _ h=>by rcases h with h | h;exact .inl h;exact h.elim)))
 replace bM:=Box.but bM hS2 (fun h=>by rcases h with h | h;exact ne_bN_bM.out h.symm;exact h)
 replace bY:=Box.but bY hS2 (fun h=>by rcases h with h | h;exact ne_bN_bY.out h.symm;exact h)
 replace bG:=Pvb.but bG hS2 (fun h=>by rcases h with h | h;exact ne_bN_bG.out h.symm;exact h)
 replace bS:=Box.but bS hS2 (fun h=>by rcases h with h | h;exact ne_bN_bS.out h.symm;exact h)
 replace bP:=Box.but bP hS2 (fun h=>by rcases h with h | h;exact ne_bN_bP.out h.symm;exact h)
 replace bQ:=Box.but bQ hS2 (fun h=>by rcases h with h | h;exact ne_bN_bQ.out h.symm;exact h)
 replace bA:=Box.but bA hS2 (fun h=>by rcases h with h | h;exact ne_bN_bA.out h.symm;exact h)
 replace Gm:=Lib.hid (Fq.but Gm.out hS2 (fun b h _ h2=>by rcases h2 with h2 | h2;exact h.2.2.2.2.1 h2;exact h2))
 replace Gp:=Lib.hid (Fq.but Gp.out hS2 (fun b h _ h2=>by rcases h2 with h2 | h2;exact h.2.2.2.2.1 h2;exact h2))
 replace qL:=Lib.hid (Fq.but qL.out hS2 (fun b h _ h2=>by rcases h2 with h2 | h2;exact h.2.2.2.2.1 h2;exact h2))
 replace Gn:=Lib.hid (Fq.but Gn.out hS2 (fun b h _ h2=>by rcases h2 with h2 | h2;exact h.2.2.2.2.1 h2;exact h2))
 have hF3:=ExtBut.ext hF1 hS2 (fun b h=>by rcases h with h | h;(rw [h];exact lowbN.out);exact h.elim)
 clear hS2
 obtain ⟨bY_0,bY_1,bY_l⟩:=bY.c2
 obtain ⟨bP_0,bP_1,bP_2,bP_l⟩:=bP.c3
 go_wp2_with fail
 clear bY_0 bY_1 bY_l bP_0 bP_1 bP_2 bP_l
 have ltbM:=Lib.hid bM.lt
 have ltbY:=Lib.hid bY.lt
 have ltbG:=Lib.hid bG.lt
 have ltbP:=Lib.hid bP.lt
 have ltbN:=Lib.hid bN.lt
 have ltbQ:=Lib.hid bQ.lt
 have ltbA:=Lib.hid bA.lt
 refine (cells_StoreAll (m:=m.mem) (l:=lc) ⟨pa,po,pt⟩ Gp.out.read (i64_of_ok hok.out) qL.out.read).mono ?_
 rintro e w4 ⟨v,rfl,fM,hE4⟩
 replace hXt:=Lib.hid (hXt.out.trans (ExtBut.of_ext hE4))
 replace bM:=bM.ext hE4
 replace bY:=bY.ext hE4
 replace bG:=bG.ext hE4
 replace bS:=bS.ext hE4
 replace bP:=bP.ext hE4
 replace bN:=bN.ext hE4
 replace bQ:=bQ.ext hE4
 replace bA:=bA.ext hE4
 replace Gm:=Lib.hid (Fq.ext Gm.out hE4)
 replace Gp:=Lib.hid (Fq.ext Gp.out hE4)
 replace qL:=Lib.hid (Fq.ext qL.out hE4)
 replace Gn:=Lib.hid (Fq.ext Gn.out hE4)
 have hF4:=Ext.trans hF3 hE4
 rw [h2.out] at fM ⊢
 obtain ⟨sy,rfl,hyz⟩:=FrM.fs fM
 clear fM
 have hvy:=hyz.read.form
 obtain ⟨yza,yzc,rfl,-⟩:=hvy
 dsimp only at hyz ⊢
 have Gz:=Lib.hid (Fq.mono (S':=(fun b=>b≠B4∧b≠B5∧b≠PB∧b≠BPp∧b≠BN∧b≠BQ∧b≠BA∧True)) hyz (fun b h1 _=>by have gbM:=ltbM.out;have gbY:=ltbY.out;have gbG:=ltbG.out;have gbP:=ltbP.out;have gbN:=ltbN.out;have gbQ:=ltbQ.out;have gbA:=ltbA.out;exact ⟨by omega,by omega,by omega,by omega,by omega,by omega,by omega,trivial⟩))
 clear hyz ltbM ltbY ltbG ltbP ltbN ltbQ ltbA
 have bA_0 : World.cell? w4 ⟨BA,0,none⟩=some (.slice a5 m.mem.al.length c5):=bA.cell 0
 have bA_1 : World.cell? w4 ⟨BA,1,none⟩=some (.int .i64 m.mem.next):=bA.cell 1
 have bA_f0 : World.frozen? w4 ⟨BA,0,none⟩=false:=bA.frozen 0
 have bA_f1 : World.frozen? w4 ⟨BA,1,none⟩=false:=bA.frozen 1
 have bA_l:=bA.lt
 go_wp2_with fail
 clear bA_0 bA_1 bA_f0 bA_f1 bA_l
 have hS5:=(ExtBut.sc (ExtBut.sc (ExtBut.refl (fun b=>b=BA∨False) w4) (p:=⟨BA,0,none⟩) (u := .slice yza am.al.length yzc) (.inl rfl)) (p:=⟨BA,1,none⟩) (u := .int .i64 am.next) (.inl rfl))
 replace bA:=(Box.setL (Box.setL bA 0 (.slice yza am.al.length yzc)) 1 (.int .i64 am.next))
 simp only [List.set_cons_zero,List.set_cons_succ] at bA
 obtain ⟨w5s,hw5⟩ : ∃ z,(World.setCell (World.setCell w4 ⟨BA,0,none⟩ (.slice yza am.al.length yzc)) ⟨BA,1,none⟩ (.int .i64 am.next))=z:=⟨_,rfl⟩
 rw [hw5] at hS5 bA ⊢
 clear hw5
 replace hXt:=Lib.hid (hXt.out.trans (hS5.mono (fun b _ h=>by rcases h with h | h;exact .inr (.inr (.inl h));exact h.elim)))
 replace bM:=Box.but bM hS5 (fun h=>by rcases h with h | h;exact ne_bA_bM.out h.symm;exact h)
 replace bY:=Box.but bY hS5 (fun h=>by rcases h with h | h;exact ne_bA_bY.out h.symm;exact h)
 replace bG:=Pvb.but bG hS5 (fun h=>by rcases h with h | h;exact ne_bA_bG.out h.symm;exact h)
 replace bS:=Box.but bS hS5 (fun h=>by rcases h with h | h;exact ne_bA_bS.out h.symm;exact h)
 replace bP:=Box.but bP hS5 (fun h=>by rcases h with h | h;exact ne_bA_bP.out h.symm;exact h)
 replace bN:=Box.but bN hS5 (fun h=>by rcases h with h | h;exact ne_bA_bN.out h.symm;exact h)
 replace bQ:=Box.but bQ hS5 (fun h=>by rcases h with h | h;exact ne_bA_bQ.out h.symm;exact h)
 replace Gm:=Lib.hid (Fq.but Gm.out hS5 (fun b h _ h2=>by rcases h2 with h2 | h2;exact h.2.2.2.2.2.2.1 h2;exact h2))
 replace Gp:=Lib.hid (Fq.but Gp.out hS5 (fun b h _ h2=>by rcases h2 with h2 | h2;exact h.2.2.2.2.2.2.1 h2;exact h2))
 replace qL:=Lib.hid (Fq.but qL.out hS5 (fun b h _ h2=>by rcases h2 with h2 | h2;exact h.2.2.2.2.2.2.1 h2;exact h2))
 replace Gn:=Lib.hid (Fq.but Gn.out hS5 (fun b h _ h2=>by rcases h2 with h2 | h2;exact h.2.2.2.2.2.2.1 h2;exact h2))
 replace Gz:=Lib.hid (Fq.but Gz.out hS5 (fun b h _ h2=>by rcases h2 with h2 | h2;exact h.2.2.2.2.2.2.1 h2;exact h2))
 have hF6:=ExtBut.ext hF4 hS5 (fun b h=>by rcases h with h | h;(rw [h];exact lowbA.out);exact h.elim)
 clear hS5
 refine Met.intro ?_
 refine hJ ?_
 exact ⟨x,⟨0,0,0⟩,why,e,f,am,⟨v_na,v_nac,v_nk,v_nkc,v_nr,v_nrc⟩,yza,yzc,rfl,rfl,rfl,st.out,bN,bQ,bA,Gn.out,Gz.out,hXt.out⟩
set_option maxRecDepth 1000000 in
set_option maxHeartbeats 12800000 in
theorem steps_sw2 {wS w0 : World} {B4 B5 PB BS BPp BN BQ BA : Nat} {m : Mon} {k : Nat} {x1 x2 x3 a5 pva : Option Addr} {y1 y2 y3 c5 pvc : Nat} {ps : List Ptr} {s1 s2 s3 s4 pa po pt : Int} {lc : List Cell} {lb lo cl2 : Nat}
  {x_0 x_1 x_2 x_3 x_17 x_18 x_19 x_20 x_21 x_22 x_23 x_24 x_25 x_26 x_27 x_28 x_29 x_30 x_31 x_32 x_33 x_34 x_35 x_36 x_37 x_38 x_39 x_40 x_41 x_42 x_43 x_44 x_45 x_46 x_47 x_48 x_49 x_50 x_51 x_52 x_53 x_54 x_55 x_56 x_57 x_58 x_59 x_60 x_61 x_62 x_63 x_64 x_65 x_66 x_67 x_68 x_69 x_71 x_72 x_73 x_74 x_75 x_76 x_77 x_78 x_79 x_80 x_81 x_82 x_83 x_84 x_85 x_86 x_87 x_88 x_89 x_90 x_91 x_92 x_93 x_94 x_95 x_96 x_97 x_98 x_99 x_100 x_101 x_102 x_103 x_104 x_105 x_106 x_107 x_108 x_109 x_110 x_111 x_112 x_113 x_114 x_115 x_116 x_117 x_118 x_119 x_120 x_121 x_122 x_123 x_124 x_125 x_126 x_127 x_128 x_129 x_130 x_131 x_132 x_133 x_134 x_135 x_136 x_137 x_138 x_139 x_140 x_141 x_142 x_143 x_144 x_145 x_146 x_147 x_148 x_149 x_150 x_151 x_152 x_153 x_154 x_155 x_156 x_157 x_158 x_159 x_160 x_161 x_162 x_163 x_164 x_165 x_166 x_167 x_168 x_169 x_170 x_171 x_172 x_173 x_174 x_175 x_176 x_177 x_178 x_179 x_180 x_181 x_182 x_183 x_184 x_185 x_186 x_187 x_188 x_189 x_190 x_191 x_192 x_193 x_194 x_195 x_196 x_197 x_198 x_199 x_200 x_201 x_202 x_203 x_204 x_205 x_206 x_207 x_208 x_209 x_210 x_211 x_212 x_213 x_214 x_215 x_216 x_217 x_218 x_219 x_220 x_221 x_222 x_223 x_224 x_225 x_226 x_227 x_228 x_229 x_230 x_231 x_232 x_233 x_234 x_235 x_236 x_237 x_238 x_239 x_240 x_241 x_242 x_243 x_244 x_245 x_246 : Value} {J K : Act→World→Prop} {Q : Exit→Act→World→Prop}
  (hK : ∀ a w,Met J a w→K a w)
  (hJ : ∀ {v13 v14 v16 u28 u29 u30 u31 u32 u33 u34 u35 u36 u37 u38 u39 u40 u41 u42 u43 u44 u45 u46 u47 u48 u49 u50 u51 u52 u53 u54 u55 u56 u57 u58 u59 u60 u61 u62 u63 u64 u65 u66 u67 u68 u69 u70 u71 u72 u73 u74 u75 u76 u77 u78 u79 u80 u81 u82 u83 u84 u85 u86 u87 u88 u89 u90 u91 u92 u93 u94 u95 u96 u97 u98 u99 u100 u101 u102 u103 u104 u105 u106 u107 u108 u109 u110 u111 u112 u113 u114 u115 u116 u117 u118 u119 u120 u121 u122 u123 u124 u125 u126 u127 u128 u129 u130 u131 u132 u133 u134 u135 u136 u137 u138 u139 u140 u141 u142 u143 u144 u145 u146 u147 u148 u149 u150 u151 u152 u153 u154 u155 u156 u157 u158 u159 u160 u161 u162 u163 u164 u165 u166 u167 u168 u169 u170 u171 u172 u173 u174 u175 u176 u177 u178 u179 u180 u181 u182 u183 u184 u185 u186 u187 u188 u189 u190 u191 u192 u193 u194 u195 u196 u197 u198 u199 u200 u201 u202 u203 u204 u205 u206 u207 u208 u209 u210 u211 u212 u213 u214 u215 u216 u217 u218 u219 u220 u221 u222 u223 u224 u225 u226 u227 u228 u229 u230 u231 u232 u233 u234 u235 u236 u237 u238 u239 u240 u241 u242 u243 u244 u245 : Value} {wx : World},StepRes (fun b=>b≠B4∧b≠B5∧b≠PB∧b≠BPp∧b≠BN∧b≠BQ∧b≠BA∧True) (fun b=>b=BN∨b=BQ∨b=BA∨False) w0 BN BQ BA m k v13 v14 v16 wx→J ⟨#[x_0,x_1,x_2,x_3,.pointer (some ⟨B4,0,none⟩),.pointer (some ⟨B5,0,none⟩),.slice pva ps.length pvc,.int .i64 (k : Int),.pointer (some ⟨BS,0,none⟩),.pointer (some ⟨BPp,0,none⟩),.slice (some ⟨lb,lo,none⟩) lc.length cl2,.pointer (some ⟨BN,0,none⟩),.pointer (some ⟨BQ,0,none⟩),v13,v14,.pointer (some ⟨BA,0,none⟩),v16,x_17,x_18,x_19,x_20,x_21,x_22,x_23,x_24,x_25,x_26,x_27,u28,u29,u30,u31,u32,u33,u34,u35,u36,u37,u38,u39,u40,u41,u42,u43,u44,u45,u46,u47,u48,u49,u50,u51,u52,u53,u54,u55,u56,u57,u58,u59,u60,u61,u62,u63,u64,u65,u66,u67,u68,u69,u70,u71,u72,u73,u74,u75,u76,u77,u78,u79,u80,u81,u82,u83,u84,u85,u86,u87,u88,u89,u90,u91,u92,u93,u94,u95,u96,u97,u98,u99,u100,u101,u102,u103,u104,u105,u106,u107,u108,u109,u110,u111,u112,u113,u114,u115,u116,u117,u118,u119,u120,u121,u122,u123,u124,u125,u126,u127,u128,u129,u130,u131,u132,u133,u134,u135,u136,u137,u138,u139,u140,u141,u142,u143,u144,u145,u146,u147,u148,u149,u150,u151,u152,u153,u154,u155,u156,u157,u158,u159,u160,u161,u162,u163,u164,u165,u166,u167,u168,u169,u170,u171,u172,u173,u174,u175,u176,u177,u178,u179,u180,u181,u182,u183,u184,u185,u186,u187,u188,u189,u190,u191,u192,u193,u194,u195,u196,u197,u198,u199,u200,u201,u202,u203,u204,u205,u206,u207,u208,u209,u210,u211,u212,u213,u214,u215,u216,u217,u218,u219,u220,u221,u222,u223,u224,u225,u226,u227,u228,u229,u230,u231,u232,u233,u234,u235,u236,u237,u238,u239,u240,u241,u242,u243,u244,u245,x_246],[]⟩ wx)
  (hp : Hid (Perms wS))
  (hF0 : Ext wS w0)
  (hok : Hid (okMon m=true))
  (hfew : Hid (Few m k))
  (hk30 : Hid (k < 30))
  (ne_bN_bM : Hid (BN≠B4))
  (ne_bN_bY : Hid (BN≠B5))
  (ne_bN_bG : Hid (BN≠PB))
  (ne_bN_bS : Hid (BN≠BS))
  (ne_bN_bP : Hid (BN≠BPp))
  (ne_bN_bQ : Hid (BN≠BQ))
  (ne_bN_bA : Hid (BN≠BA))
  (ne_bQ_bM : Hid (BQ≠B4))
  (ne_bQ_bY : Hid (BQ≠B5))
  (ne_bQ_bG : Hid (BQ≠PB))
  (ne_bQ_bS : Hid (BQ≠BS))
  (ne_bQ_bP : Hid (BQ≠BPp))
  (ne_bQ_bN : Hid (BQ≠BN))
  (ne_bQ_bA : Hid (BQ≠BA))
  (ne_bA_bM : Hid (BA≠B4))
  (ne_bA_bY : Hid (BA≠B5))
  (ne_bA_bG : Hid (BA≠PB))
  (ne_bA_bS : Hid (BA≠BS))
  (ne_bA_bP : Hid (BA≠BPp))
  (ne_bA_bN : Hid (BA≠BN))
  (ne_bA_bQ : Hid (BA≠BQ))
  (lowbM : Hid (wS.heap.size≤B4))
  (lowbY : Hid (wS.heap.size≤B5))
  (lowbG : Hid (wS.heap.size≤PB))
  (lowbP : Hid (wS.heap.size≤BPp))
  (lowbN : Hid (wS.heap.size≤BN))
  (lowbQ : Hid (wS.heap.size≤BQ))
  (lowbA : Hid (wS.heap.size≤BA))
  (bM : Box w0 B4 30 #[.slice x1 m.mem.al.length y1,.int .i64 m.mem.next,.slice x2 m.stks.length y2,.slice x3 m.run.length y3,.int .i64 m.tag,.int .i64 m.call])
  (bY : Box w0 B5 26 #[.slice a5 m.mem.al.length c5,.int .i64 m.mem.next])
  (bG : Pvb w0 wS.heap.size PB (.slice pva ps.length pvc) ps)
  (bS : Box w0 BS 33 #[.int .i64 2,.int .i64 s1,.int .i64 s2,.int .i64 s3,.int .i64 s4])
  (bP : Box w0 BPp 35 #[.int .i64 pa,.int .i64 po,.int .i64 pt])
  (bN : Box w0 BN 30 #[.slice x1 m.mem.al.length y1,.int .i64 m.mem.next,.slice x2 m.stks.length y2,.slice x3 m.run.length y3,.int .i64 m.tag,.int .i64 m.call])
  (bQ : Box w0 BQ 35 #[.int .i64 0,.int .i64 0,.int .i64 0])
  (bA : Box w0 BA 26 #[.slice a5 m.mem.al.length c5,.int .i64 m.mem.next])
  (Gm : Hid (Fq (fun b=>b≠B4∧b≠B5∧b≠PB∧b≠BPp∧b≠BN∧b≠BQ∧b≠BA∧True) w0 (RdA m ⟨x1,y1,x2,y2,x3,y3⟩)))
  (Gp : Hid (Fq (fun b=>b≠B4∧b≠B5∧b≠PB∧b≠BPp∧b≠BN∧b≠BQ∧b≠BA∧True) w0 (fun w=>Als w (.slice a5 m.mem.al.length c5) m.mem.al)))
  (qL : Hid (Fq (fun b=>b≠B4∧b≠B5∧b≠PB∧b≠BPp∧b≠BN∧b≠BQ∧b≠BA∧True) w0 (fun w=>Cls w (.slice (some ⟨lb,lo,none⟩) lc.length cl2) lc))) :
  Code.wp Tryz.prog ((Tryz.f3.body.bind (findS (isSB 2))).getD .skip) (Exit.then K Q) ⟨#[x_0,x_1,x_2,x_3,.pointer (some ⟨B4,0,none⟩),.pointer (some ⟨B5,0,none⟩),.slice pva ps.length pvc,.int .i64 (k : Int),.pointer (some ⟨BS,0,none⟩),.pointer (some ⟨BPp,0,none⟩),.slice (some ⟨lb,lo,none⟩) lc.length cl2,.pointer (some ⟨BN,0,none⟩),.pointer (some ⟨BQ,0,none⟩),.int .u8 0,.int .i64 0,.pointer (some ⟨BA,0,none⟩),.int .i64 0,x_17,x_18,x_19,x_20,x_21,x_22,x_23,x_24,x_25,x_26,x_27,x_28,x_29,x_30,x_31,x_32,x_33,x_34,x_35,x_36,x_37,x_38,x_39,x_40,x_41,x_42,x_43,x_44,x_45,x_46,x_47,x_48,x_49,x_50,x_51,x_52,x_53,x_54,x_55,x_56,x_57,x_58,x_59,x_60,x_61,x_62,x_63,x_64,x_65,x_66,x_67,x_68,x_69,.int .i64 2,x_71,x_72,x_73,x_74,x_75,x_76,x_77,x_78,x_79,x_80,x_81,x_82,x_83,x_84,x_85,x_86,x_87,x_88,x_89,x_90,x_91,x_92,x_93,x_94,x_95,x_96,x_97,x_98,x_99,x_100,x_101,x_102,x_103,x_104,x_105,x_106,x_107,x_108,x_109,x_110,x_111,x_112,x_113,x_114,x_115,x_116,x_117,x_118,x_119,x_120,x_121,x_122,x_123,x_124,x_125,x_126,x_127,x_128,x_129,x_130,x_131,x_132,x_133,x_134,x_135,x_136,x_137,x_138,x_139,x_140,x_141,x_142,x_143,x_144,x_145,x_146,x_147,x_148,x_149,x_150,x_151,x_152,x_153,x_154,x_155,x_156,x_157,x_158,x_159,x_160,x_161,x_162,x_163,x_164,x_165,x_166,x_167,x_168,x_169,x_170,x_171,x_172,x_173,x_174,x_175,x_176,x_177,x_178,x_179,x_180,x_181,x_182,x_183,x_184,x_185,x_186,x_187,x_188,x_189,x_190,x_191,x_192,x_193,x_194,x_195,x_196,x_197,x_198,x_199,x_200,x_201,x_202,x_203,x_204,x_205,x_206,x_207,x_208,x_209,x_210,x_211,x_212,x_213,x_214,x_215,x_216,x_217,x_218,x_219,x_220,x_221,x_222,x_223,x_224,x_225,x_226,x_227,x_228,x_229,x_230,x_231,x_232,x_233,x_234,x_235,x_236,x_237,x_238,x_239,x_240,x_241,x_242,x_243,x_244,x_245,x_246],[]⟩ w0:=by
 conv=>arg 2;whnf
 have hXt:=Lib.hid (ExtBut.refl (fun b=>b=BN∨b=BQ∨b=BA∨False) w0)
 obtain ⟨⟨x,ll,why,e⟩,h1⟩ : ∃ z,loadM m ⟨pa,po,pt⟩ (lc.length : Int)=z:=⟨_,rfl⟩
 obtain ⟨⟨ly,wy,f⟩,h2⟩ : ∃ z,loadR m.mem ⟨pa,po,pt⟩ (lc.length : Int)=z:=⟨_,rfl⟩
 have st:=Lib.hid (step_load hok.out hfew.out h1 h2)
 replace h1:=Lib.hid h1;replace h2:=Lib.hid h2
 obtain ⟨bM_0,bM_1,bM_2,bM_3,bM_4,bM_5,bM_l⟩:=bM.c6
 obtain ⟨bP_0,bP_1,bP_2,bP_l⟩:=bP.c3
 go_wp2_with fail
 clear bM_0 bM_1 bM_2 bM_3 bM_4 bM_5 bM_l bP_0 bP_1 bP_2 bP_l
 have ltbM:=Lib.hid bM.lt
 have ltbY:=Lib.hid bY.lt
 have ltbG:=Lib.hid bG.lt
 have ltbP:=Lib.hid bP.lt
 have ltbN:=Lib.hid bN.lt
 have ltbQ:=Lib.hid bQ.lt
 have ltbA:=Lib.hid bA.lt
 refine (monitor_Load pa po pt (lc.length : Int) Gm.out.read.1 (i64_of_ok hok.out) Gm.out.read.2.1 Gm.out.read.2.2).mono ?_
 rintro e w1 ⟨vt,vl,rfl,fM,fL,hE1⟩
 replace hXt:=Lib.hid (hXt.out.trans (ExtBut.of_ext hE1))
 replace bM:=bM.ext hE1
 replace bY:=bY.ext hE1
 replace bG:=bG.ext hE1
 replace bS:=bS.ext hE1
 replace bP:=bP.ext hE1
 replace bN:=bN.ext hE1
 replace bQ:=bQ.ext hE1
 replace bA:=bA.ext hE1
 replace Gm:=Lib.hid (Fq.ext Gm.out hE1)
 replace Gp:=Lib.hid (Fq.ext Gp.out hE1)
 replace qL:=Lib.hid (Fq.ext qL.out hE1)
 have hF1:=Ext.trans hF0 hE1
 clear fL
 rw [h1.out] at fM ⊢
 try dsimp only [Ptr.val] at fM ⊢
 obtain ⟨nsa,nss,nsr,rfl,qn⟩:=FrMon.parts fM
 clear fM
 obtain ⟨v_na,v_nac,rfl,-⟩:=(qn.read).1.form
 obtain ⟨v_nk,v_nkc,rfl,-⟩:=(qn.read).2.1.form
 obtain ⟨v_nr,v_nrc,rfl,-⟩:=(qn.read).2.2.form
 try dsimp only at qn ⊢
 have Gn:=Lib.hid (Fq.mono (S':=(fun b=>b≠B4∧b≠B5∧b≠PB∧b≠BPp∧b≠BN∧b≠BQ∧b≠BA∧True)) qn (fun b h1 _=>by have gbM:=ltbM.out;have gbY:=ltbY.out;have gbG:=ltbG.out;have gbP:=ltbP.out;have gbN:=ltbN.out;have gbQ:=ltbQ.out;have gbA:=ltbA.out;exact ⟨by omega,by omega,by omega,by omega,by omega,by omega,by omega,trivial⟩))
 clear qn ltbM ltbY ltbG ltbP ltbN ltbQ ltbA
 have bN_0 : World.cell? w1 ⟨BN,0,none⟩=some (.slice x1 m.mem.al.length y1):=bN.cell 0
 have bN_1 : World.cell? w1 ⟨BN,1,none⟩=some (.int .i64 m.mem.next):=bN.cell 1
 have bN_2 : World.cell? w1 ⟨BN,2,none⟩=some (.slice x2 m.stks.length y2):=bN.cell 2
 have bN_3 : World.cell? w1 ⟨BN,3,none⟩=some (.slice x3 m.run.length y3):=bN.cell 3
 have bN_4 : World.cell? w1 ⟨BN,4,none⟩=some (.int .i64 m.tag):=bN.cell 4
 have bN_5 : World.cell? w1 ⟨BN,5,none⟩=some (.int .i64 m.call):=bN.cell 5
 have bN_f0 : World.frozen? w1 ⟨BN,0,none⟩=false:=bN.frozen 0
 have bN_f1 : World.frozen? w1 ⟨BN,1,none⟩=false:=bN.frozen 1
 have bN_f2 : World.frozen? w1 ⟨BN,2,none⟩=false:=bN.frozen 2
 have bN_f3 : World.frozen? w1 ⟨BN,3,none⟩=false:=bN.frozen 3
 have bN_f4 : World.frozen? w1 ⟨BN,4,none⟩=false:=bN.frozen 4
 have bN_f5 : World.frozen? w1 ⟨BN,5,none⟩=false:=bN.frozen 5
 have bN_l:=bN.lt
 go_upto_region 28 with fail
 clear bN_0 bN_1 bN_2 bN_3 bN_4 bN_5 bN_f0 bN_f1 bN_f2 bN_f3 bN_f4 bN_f5 bN_l
 have hS2:=(ExtBut.sc (ExtBut.sc (ExtBut.sc (ExtBut.sc (ExtBut.sc (ExtBut.sc (ExtBut.refl (fun b=>b=BN∨False) w1) (p:=⟨BN,0,none⟩) (u := .slice v_na x.mem.al.length v_nac) (.inl rfl)) (p:=⟨BN,1,none⟩) (u := .int .i64 x.mem.next) (.inl rfl)) (p:=⟨BN,2,none⟩) (u := .slice v_nk x.stks.length v_nkc) (.inl rfl)) (p:=⟨BN,3,none⟩) (u := .slice v_nr x.run.length v_nrc) (.inl rfl)) (p:=⟨BN,4,none⟩) (u := .int .i64 x.tag) (.inl rfl)) (p:=⟨BN,5,none⟩) (u := .int .i64 x.call) (.inl rfl))
 replace bN:=(Box.setL (Box.setL (Box.setL (Box.setL (Box.setL (Box.setL bN 0 (.slice v_na x.mem.al.length v_nac)) 1 (.int .i64 x.mem.next)) 2 (.slice v_nk x.stks.length v_nkc)) 3 (.slice v_nr x.run.length v_nrc)) 4 (.int .i64 x.tag)) 5 (.int .i64 x.call))
 simp only [List.set_cons_zero,List.set_cons_succ] at bN
 obtain ⟨w2s,hw2⟩ : ∃ z,(World.setCell (World.setCell (World.setCell (World.setCell (World.setCell (World.setCell w1 ⟨BN,0,none⟩ (.slice v_na x.mem.al.length v_nac)) ⟨BN,1,none⟩ (.int .i64 x.mem.next)) ⟨BN,2,none⟩ (.slice v_nk x.stks.length v_nkc)) ⟨BN,3,none⟩ (.slice v_nr x.run.length v_nrc)) ⟨BN,4,none⟩ (.int .i64 x.tag)) ⟨BN,5,none⟩ (.int .i64 x.call))=z:=⟨_,rfl⟩
 rw [hw2] at hS2 bN ⊢
 clear hw2
 replace hXt:=Lib.hid (hXt.out.trans (hS2.mono (fun b _ h=>by rcases h with h | h;exact .inl h;exact h.elim)))
 replace bM:=Box.but bM hS2 (fun h=>by rcases h with h | h;exact ne_bN_bM.out h.symm;exact h)
 replace bY:=Box.but bY hS2 (fun h=>by rcases h with h | h;exact ne_bN_bY.out h.symm;exact h)
 replace bG:=Pvb.but bG hS2 (fun h=>by rcases h with h | h;exact ne_bN_bG.out h.symm;exact h)
 replace bS:=Box.but bS hS2 (fun h=>by rcases h with h | h;exact ne_bN_bS.out h.symm;exact h)
 replace bP:=Box.but bP hS2 (fun h=>by rcases h with h | h;exact ne_bN_bP.out h.symm;exact h)
 replace bQ:=Box.but bQ hS2 (fun h=>by rcases h with h | h;exact ne_bN_bQ.out h.symm;exact h)
 replace bA:=Box.but bA hS2 (fun h=>by rcases h with h | h;exact ne_bN_bA.out h.symm;exact h)
 replace Gm:=Lib.hid (Fq.but Gm.out hS2 (fun b h _ h2=>by rcases h2 with h2 | h2;exact h.2.2.2.2.1 h2;exact h2))
 replace Gp:=Lib.hid (Fq.but Gp.out hS2 (fun b h _ h2=>by rcases h2 with h2 | h2;exact h.2.2.2.2.1 h2;exact h2))
 replace qL:=Lib.hid (Fq.but qL.out hS2 (fun b h _ h2=>by rcases h2 with h2 | h2;exact h.2.2.2.2.1 h2;exact h2))
 replace Gn:=Lib.hid (Fq.but Gn.out hS2 (fun b h _ h2=>by rcases h2 with h2 | h2;exact h.2.2.2.2.1 h2;exact h2))
 have hF3:=ExtBut.ext hF1 hS2 (fun b h=>by rcases h with h | h;(rw [h];exact lowbN.out);exact h.elim)
 clear hS2
 obtain ⟨bY_0,bY_1,bY_l⟩:=bY.c2
 obtain ⟨bP_0,bP_1,bP_2,bP_l⟩:=bP.c3
 go_wp2_with fail
 clear bY_0 bY_1 bY_l bP_0 bP_1 bP_2 bP_l
 have ltbM:=Lib.hid bM.lt
 have ltbY:=Lib.hid bY.lt
 have ltbG:=Lib.hid bG.lt
 have ltbP:=Lib.hid bP.lt
 have ltbN:=Lib.hid bN.lt
 have ltbQ:=Lib.hid bQ.lt
 have ltbA:=Lib.hid bA.lt
 refine (cells_LoadAll (m:=m.mem) ⟨pa,po,pt⟩ (lc.length : Int) Gp.out.read (i64_of_ok hok.out)).mono ?_
 rintro e w4 ⟨vl,rfl,hOl,hE4⟩
 replace hXt:=Lib.hid (hXt.out.trans (ExtBut.of_ext hE4))
 replace bM:=bM.ext hE4
 replace bY:=bY.ext hE4
 replace bG:=bG.ext hE4
 replace bS:=bS.ext hE4
 replace bP:=bP.ext hE4
 replace bN:=bN.ext hE4
 replace bQ:=bQ.ext hE4
 replace bA:=bA.ext hE4
 replace Gm:=Lib.hid (Fq.ext Gm.out hE4)
 replace Gp:=Lib.hid (Fq.ext Gp.out hE4)
 replace qL:=Lib.hid (Fq.ext qL.out hE4)
 replace Gn:=Lib.hid (Fq.ext Gn.out hE4)
 have hF4:=Ext.trans hF3 hE4
 rw [h2.out]
 dsimp only
 clear hOl
 clear ltbM ltbY ltbG ltbP ltbN ltbQ ltbA
 go_wp2_with fail
 refine Met.intro ?_
 refine hJ ?_
 exact ⟨x,⟨0,0,0⟩,why,e,f,m.mem,⟨v_na,v_nac,v_nk,v_nkc,v_nr,v_nrc⟩,a5,c5,rfl,rfl,rfl,st.out,bN,bQ,bA,Gn.out,Gp.out,hXt.out⟩
set_option maxRecDepth 1000000 in
set_option maxHeartbeats 12800000 in
theorem steps_sw3 {wS w0 : World} {B4 B5 PB BS BPp BN BQ BA : Nat} {m : Mon} {k : Nat} {x1 x2 x3 a5 pva : Option Addr} {y1 y2 y3 c5 pvc : Nat} {ps : List Ptr} {s1 s2 s3 s4 pa po pt : Int} {lc : List Cell} {lb lo cl2 : Nat}
  {x_0 x_1 x_2 x_3 x_17 x_18 x_19 x_20 x_21 x_22 x_23 x_24 x_25 x_26 x_27 x_28 x_29 x_30 x_31 x_32 x_33 x_34 x_35 x_36 x_37 x_38 x_39 x_40 x_41 x_42 x_43 x_44 x_45 x_46 x_47 x_48 x_49 x_50 x_51 x_52 x_53 x_54 x_55 x_56 x_57 x_58 x_59 x_60 x_61 x_62 x_63 x_64 x_65 x_66 x_67 x_68 x_69 x_71 x_72 x_73 x_74 x_75 x_76 x_77 x_78 x_79 x_80 x_81 x_82 x_83 x_84 x_85 x_86 x_87 x_88 x_89 x_90 x_91 x_92 x_93 x_94 x_95 x_96 x_97 x_98 x_99 x_100 x_101 x_102 x_103 x_104 x_105 x_106 x_107 x_108 x_109 x_110 x_111 x_112 x_113 x_114 x_115 x_116 x_117 x_118 x_119 x_120 x_121 x_122 x_123 x_124 x_125 x_126 x_127 x_128 x_129 x_130 x_131 x_132 x_133 x_134 x_135 x_136 x_137 x_138 x_139 x_140 x_141 x_142 x_143 x_144 x_145 x_146 x_147 x_148 x_149 x_150 x_151 x_152 x_153 x_154 x_155 x_156 x_157 x_158 x_159 x_160 x_161 x_162 x_163 x_164 x_165 x_166 x_167 x_168 x_169 x_170 x_171 x_172 x_173 x_174 x_175 x_176 x_177 x_178 x_179 x_180 x_181 x_182 x_183 x_184 x_185 x_186 x_187 x_188 x_189 x_190 x_191 x_192 x_193 x_194 x_195 x_196 x_197 x_198 x_199 x_200 x_201 x_202 x_203 x_204 x_205 x_206 x_207 x_208 x_209 x_210 x_211 x_212 x_213 x_214 x_215 x_216 x_217 x_218 x_219 x_220 x_221 x_222 x_223 x_224 x_225 x_226 x_227 x_228 x_229 x_230 x_231 x_232 x_233 x_234 x_235 x_236 x_237 x_238 x_239 x_240 x_241 x_242 x_243 x_244 x_245 x_246 : Value} {J K : Act→World→Prop} {Q : Exit→Act→World→Prop}
  (hK : ∀ a w,Met J a w→K a w)
  (hJ : ∀ {v13 v14 v16 u28 u29 u30 u31 u32 u33 u34 u35 u36 u37 u38 u39 u40 u41 u42 u43 u44 u45 u46 u47 u48 u49 u50 u51 u52 u53 u54 u55 u56 u57 u58 u59 u60 u61 u62 u63 u64 u65 u66 u67 u68 u69 u70 u71 u72 u73 u74 u75 u76 u77 u78 u79 u80 u81 u82 u83 u84 u85 u86 u87 u88 u89 u90 u91 u92 u93 u94 u95 u96 u97 u98 u99 u100 u101 u102 u103 u104 u105 u106 u107 u108 u109 u110 u111 u112 u113 u114 u115 u116 u117 u118 u119 u120 u121 u122 u123 u124 u125 u126 u127 u128 u129 u130 u131 u132 u133 u134 u135 u136 u137 u138 u139 u140 u141 u142 u143 u144 u145 u146 u147 u148 u149 u150 u151 u152 u153 u154 u155 u156 u157 u158 u159 u160 u161 u162 u163 u164 u165 u166 u167 u168 u169 u170 u171 u172 u173 u174 u175 u176 u177 u178 u179 u180 u181 u182 u183 u184 u185 u186 u187 u188 u189 u190 u191 u192 u193 u194 u195 u196 u197 u198 u199 u200 u201 u202 u203 u204 u205 u206 u207 u208 u209 u210 u211 u212 u213 u214 u215 u216 u217 u218 u219 u220 u221 u222 u223 u224 u225 u226 u227 u228 u229 u230 u231 u232 u233 u234 u235 u236 u237 u238 u239 u240 u241 u242 u243 u244 u245 : Value} {wx : World},StepRes (fun b=>b≠B4∧b≠B5∧b≠PB∧b≠BPp∧b≠BN∧b≠BQ∧b≠BA∧True) (fun b=>b=BN∨b=BQ∨b=BA∨False) w0 BN BQ BA m k v13 v14 v16 wx→J ⟨#[x_0,x_1,x_2,x_3,.pointer (some ⟨B4,0,none⟩),.pointer (some ⟨B5,0,none⟩),.slice pva ps.length pvc,.int .i64 (k : Int),.pointer (some ⟨BS,0,none⟩),.pointer (some ⟨BPp,0,none⟩),.slice (some ⟨lb,lo,none⟩) lc.length cl2,.pointer (some ⟨BN,0,none⟩),.pointer (some ⟨BQ,0,none⟩),v13,v14,.pointer (some ⟨BA,0,none⟩),v16,x_17,x_18,x_19,x_20,x_21,x_22,x_23,x_24,x_25,x_26,x_27,u28,u29,u30,u31,u32,u33,u34,u35,u36,u37,u38,u39,u40,u41,u42,u43,u44,u45,u46,u47,u48,u49,u50,u51,u52,u53,u54,u55,u56,u57,u58,u59,u60,u61,u62,u63,u64,u65,u66,u67,u68,u69,u70,u71,u72,u73,u74,u75,u76,u77,u78,u79,u80,u81,u82,u83,u84,u85,u86,u87,u88,u89,u90,u91,u92,u93,u94,u95,u96,u97,u98,u99,u100,u101,u102,u103,u104,u105,u106,u107,u108,u109,u110,u111,u112,u113,u114,u115,u116,u117,u118,u119,u120,u121,u122,u123,u124,u125,u126,u127,u128,u129,u130,u131,u132,u133,u134,u135,u136,u137,u138,u139,u140,u141,u142,u143,u144,u145,u146,u147,u148,u149,u150,u151,u152,u153,u154,u155,u156,u157,u158,u159,u160,u161,u162,u163,u164,u165,u166,u167,u168,u169,u170,u171,u172,u173,u174,u175,u176,u177,u178,u179,u180,u181,u182,u183,u184,u185,u186,u187,u188,u189,u190,u191,u192,u193,u194,u195,u196,u197,u198,u199,u200,u201,u202,u203,u204,u205,u206,u207,u208,u209,u210,u211,u212,u213,u214,u215,u216,u217,u218,u219,u220,u221,u222,u223,u224,u225,u226,u227,u228,u229,u230,u231,u232,u233,u234,u235,u236,u237,u238,u239,u240,u241,u242,u243,u244,u245,x_246],[]⟩ wx)
  (hp : Hid (Perms wS))
  (hF0 : Ext wS w0)
  (hok : Hid (okMon m=true))
  (hfew : Hid (Few m k))
  (hk30 : Hid (k < 30))
  (ne_bN_bM : Hid (BN≠B4))
  (ne_bN_bY : Hid (BN≠B5))
  (ne_bN_bG : Hid (BN≠PB))
  (ne_bN_bS : Hid (BN≠BS))
  (ne_bN_bP : Hid (BN≠BPp))
  (ne_bN_bQ : Hid (BN≠BQ))
  (ne_bN_bA : Hid (BN≠BA))
  (ne_bQ_bM : Hid (BQ≠B4))
  (ne_bQ_bY : Hid (BQ≠B5))
  (ne_bQ_bG : Hid (BQ≠PB))
  (ne_bQ_bS : Hid (BQ≠BS))
  (ne_bQ_bP : Hid (BQ≠BPp))
  (ne_bQ_bN : Hid (BQ≠BN))
  (ne_bQ_bA : Hid (BQ≠BA))
  (ne_bA_bM : Hid (BA≠B4))
  (ne_bA_bY : Hid (BA≠B5))
  (ne_bA_bG : Hid (BA≠PB))
  (ne_bA_bS : Hid (BA≠BS))
  (ne_bA_bP : Hid (BA≠BPp))
  (ne_bA_bN : Hid (BA≠BN))
  (ne_bA_bQ : Hid (BA≠BQ))
  (lowbM : Hid (wS.heap.size≤B4))
  (lowbY : Hid (wS.heap.size≤B5))
  (lowbG : Hid (wS.heap.size≤PB))
  (lowbP : Hid (wS.heap.size≤BPp))
  (lowbN : Hid (wS.heap.size≤BN))
  (lowbQ : Hid (wS.heap.size≤BQ))
  (lowbA : Hid (wS.heap.size≤BA))
  (bM : Box w0 B4 30 #[.slice x1 m.mem.al.length y1,.int .i64 m.mem.next,.slice x2 m.stks.length y2,.slice x3 m.run.length y3,.int .i64 m.tag,.int .i64 m.call])
  (bY : Box w0 B5 26 #[.slice a5 m.mem.al.length c5,.int .i64 m.mem.next])
  (bG : Pvb w0 wS.heap.size PB (.slice pva ps.length pvc) ps)
  (bS : Box w0 BS 33 #[.int .i64 3,.int .i64 s1,.int .i64 s2,.int .i64 s3,.int .i64 s4])
  (bP : Box w0 BPp 35 #[.int .i64 pa,.int .i64 po,.int .i64 pt])
  (bN : Box w0 BN 30 #[.slice x1 m.mem.al.length y1,.int .i64 m.mem.next,.slice x2 m.stks.length y2,.slice x3 m.run.length y3,.int .i64 m.tag,.int .i64 m.call])
  (bQ : Box w0 BQ 35 #[.int .i64 0,.int .i64 0,.int .i64 0])
  (bA : Box w0 BA 26 #[.slice a5 m.mem.al.length c5,.int .i64 m.mem.next])
  (Gm : Hid (Fq (fun b=>b≠B4∧b≠B5∧b≠PB∧b≠BPp∧b≠BN∧b≠BQ∧b≠BA∧True) w0 (RdA m ⟨x1,y1,x2,y2,x3,y3⟩)))
  (Gp : Hid (Fq (fun b=>b≠B4∧b≠B5∧b≠PB∧b≠BPp∧b≠BN∧b≠BQ∧b≠BA∧True) w0 (fun w=>Als w (.slice a5 m.mem.al.length c5) m.mem.al)))
  (qL : Hid (Fq (fun b=>b≠B4∧b≠B5∧b≠PB∧b≠BPp∧b≠BN∧b≠BQ∧b≠BA∧True) w0 (fun w=>Cls w (.slice (some ⟨lb,lo,none⟩) lc.length cl2) lc))) :
  Code.wp Tryz.prog ((Tryz.f3.body.bind (findS (isSB 2))).getD .skip) (Exit.then K Q) ⟨#[x_0,x_1,x_2,x_3,.pointer (some ⟨B4,0,none⟩),.pointer (some ⟨B5,0,none⟩),.slice pva ps.length pvc,.int .i64 (k : Int),.pointer (some ⟨BS,0,none⟩),.pointer (some ⟨BPp,0,none⟩),.slice (some ⟨lb,lo,none⟩) lc.length cl2,.pointer (some ⟨BN,0,none⟩),.pointer (some ⟨BQ,0,none⟩),.int .u8 0,.int .i64 0,.pointer (some ⟨BA,0,none⟩),.int .i64 0,x_17,x_18,x_19,x_20,x_21,x_22,x_23,x_24,x_25,x_26,x_27,x_28,x_29,x_30,x_31,x_32,x_33,x_34,x_35,x_36,x_37,x_38,x_39,x_40,x_41,x_42,x_43,x_44,x_45,x_46,x_47,x_48,x_49,x_50,x_51,x_52,x_53,x_54,x_55,x_56,x_57,x_58,x_59,x_60,x_61,x_62,x_63,x_64,x_65,x_66,x_67,x_68,x_69,.int .i64 3,x_71,x_72,x_73,x_74,x_75,x_76,x_77,x_78,x_79,x_80,x_81,x_82,x_83,x_84,x_85,x_86,x_87,x_88,x_89,x_90,x_91,x_92,x_93,x_94,x_95,x_96,x_97,x_98,x_99,x_100,x_101,x_102,x_103,x_104,x_105,x_106,x_107,x_108,x_109,x_110,x_111,x_112,x_113,x_114,x_115,x_116,x_117,x_118,x_119,x_120,x_121,x_122,x_123,x_124,x_125,x_126,x_127,x_128,x_129,x_130,x_131,x_132,x_133,x_134,x_135,x_136,x_137,x_138,x_139,x_140,x_141,x_142,x_143,x_144,x_145,x_146,x_147,x_148,x_149,x_150,x_151,x_152,x_153,x_154,x_155,x_156,x_157,x_158,x_159,x_160,x_161,x_162,x_163,x_164,x_165,x_166,x_167,x_168,x_169,x_170,x_171,x_172,x_173,x_174,x_175,x_176,x_177,x_178,x_179,x_180,x_181,x_182,x_183,x_184,x_185,x_186,x_187,x_188,x_189,x_190,x_191,x_192,x_193,x_194,x_195,x_196,x_197,x_198,x_199,x_200,x_201,x_202,x_203,x_204,x_205,x_206,x_207,x_208,x_209,x_210,x_211,x_212,x_213,x_214,x_215,x_216,x_217,x_218,x_219,x_220,x_221,x_222,x_223,x_224,x_225,x_226,x_227,x_228,x_229,x_230,x_231,x_232,x_233,x_234,x_235,x_236,x_237,x_238,x_239,x_240,x_241,x_242,x_243,x_244,x_245,x_246],[]⟩ w0:=by
 conv=>arg 2;whnf
 have hXt:=Lib.hid (ExtBut.refl (fun b=>b=BN∨b=BQ∨b=BA∨False) w0)
 have hko : kindOk (wrap64 (1+bits BinOp.and IntKind.i64 s2 3) % 256)=true:=kindStep_ok s2
 have hku : Hid (u8B (wrap64 (1+bits BinOp.and IntKind.i64 s2 3) % 256)):=Hid.mk (by have:=kind_yes hko;unfold u8B;omega)
 obtain ⟨⟨x,⟨qa,qo,qt⟩,why,e⟩,h1⟩ : ∃ z,retagM m ⟨pa,po,pt⟩ (lc.length : Int) (wrap64 (1+bits BinOp.and IntKind.i64 s2 3) % 256) 0=z:=⟨_,rfl⟩
 obtain ⟨⟨ly,wy,f⟩,h2⟩ : ∃ z,loadR m.mem ⟨pa,po,pt⟩ (lc.length : Int)=z:=⟨_,rfl⟩
 have st:=Lib.hid (step_retag hok.out hfew.out hk30.out hko h1 h2)
 replace h1:=Lib.hid h1;replace h2:=Lib.hid h2
 clear hko
 obtain ⟨bM_0,bM_1,bM_2,bM_3,bM_4,bM_5,bM_l⟩:=bM.c6
 obtain ⟨bS_0,bS_1,bS_2,bS_3,bS_4,bS_l⟩:=bS.c5
 obtain ⟨bP_0,bP_1,bP_2,bP_l⟩:=bP.c3
 go_wp2_with fail
 clear bM_0 bM_1 bM_2 bM_3 bM_4 bM_5 bM_l bS_0 bS_1 bS_2 bS_3 bS_4 bS_l bP_0 bP_1 bP_2 bP_l
 have ltbM:=Lib.hid bM.lt
 have ltbY:=Lib.hid bY.lt
 have ltbG:=Lib.hid bG.lt
 have ltbP:=Lib.hid bP.lt
 have ltbN:=Lib.hid bN.lt
 have ltbQ:=Lib.hid bQ.lt
 have ltbA:=Lib.hid bA.lt
 refine (monitor_Retag (kind:=wrap64 (1+bits BinOp.and IntKind.i64 s2 3) % 256) pa po pt (lc.length : Int) 0 (hp.out.ext hF0) hku.out Gm.out.read.1 (i64_of_ok hok.out) Gm.out.read.2.1 Gm.out.read.2.2).mono ?_
 rintro e w1 ⟨vt,rfl,fM,hE1⟩
 replace hXt:=Lib.hid (hXt.out.trans (ExtBut.of_ext hE1))
 replace bM:=bM.ext hE1
 replace bY:=bY.ext hE1
 replace bG:=bG.ext hE1
 replace bS:=bS.ext hE1
 replace bP:=bP.ext hE1
 replace bN:=bN.ext hE1
 replace bQ:=bQ.ext hE1
 replace bA:=bA.ext hE1
 replace Gm:=Lib.hid (Fq.ext Gm.out hE1)
 replace Gp:=Lib.hid (Fq.ext Gp.out hE1)
 replace qL:=Lib.hid (Fq.ext qL.out hE1)
 have hF1:=Ext.trans hF0 hE1
 rw [h1.out] at fM ⊢
 try dsimp only [Ptr.val] at fM ⊢
 obtain ⟨nsa,nss,nsr,rfl,qn⟩:=FrMon.parts fM
 clear fM
 obtain ⟨v_na,v_nac,rfl,-⟩:=(qn.read).1.form
 obtain ⟨v_nk,v_nkc,rfl,-⟩:=(qn.read).2.1.form
 obtain ⟨v_nr,v_nrc,rfl,-⟩:=(qn.read).2.2.form
 try dsimp only at qn ⊢
 have Gn:=Lib.hid (Fq.mono (S':=(fun b=>b≠B4∧b≠B5∧b≠PB∧b≠BPp∧b≠BN∧b≠BQ∧b≠BA∧True)) qn (fun b h1 _=>by have gbM:=ltbM.out;have gbY:=ltbY.out;have gbG:=ltbG.out;have gbP:=ltbP.out;have gbN:=ltbN.out;have gbQ:=ltbQ.out;have gbA:=ltbA.out;exact ⟨by omega,by omega,by omega,by omega,by omega,by omega,by omega,trivial⟩))
 clear qn ltbM ltbY ltbG ltbP ltbN ltbQ ltbA
 have nNQ : BN≠BQ:=ne_bN_bQ.out;have nQN : BQ≠BN:=ne_bQ_bN.out
 have bN_0 : World.cell? w1 ⟨BN,0,none⟩=some (.slice x1 m.mem.al.length y1):=bN.cell 0
 have bN_1 : World.cell? w1 ⟨BN,1,none⟩=some (.int .i64 m.mem.next):=bN.cell 1
 have bN_2 : World.cell? w1 ⟨BN,2,none⟩=some (.slice x2 m.stks.length y2):=bN.cell 2
 have bN_3 : World.cell? w1 ⟨BN,3,none⟩=some (.slice x3 m.run.length y3):=bN.cell 3
 have bN_4 : World.cell? w1 ⟨BN,4,none⟩=some (.int .i64 m.tag):=bN.cell 4
 have bN_5 : World.cell? w1 ⟨BN,5,none⟩=some (.int .i64 m.call):=bN.cell 5
 have bN_f0 : World.frozen? w1 ⟨BN,0,none⟩=false:=bN.frozen 0
 have bN_f1 : World.frozen? w1 ⟨BN,1,none⟩=false:=bN.frozen 1
 have bN_f2 : World.frozen? w1 ⟨BN,2,none⟩=false:=bN.frozen 2
 have bN_f3 : World.frozen? w1 ⟨BN,3,none⟩=false:=bN.frozen 3
 have bN_f4 : World.frozen? w1 ⟨BN,4,none⟩=false:=bN.frozen 4
 have bN_f5 : World.frozen? w1 ⟨BN,5,none⟩=false:=bN.frozen 5
 have bN_l:=bN.lt
 have bQ_0 : World.cell? w1 ⟨BQ,0,none⟩=some (.int .i64 0):=bQ.cell 0
 have bQ_1 : World.cell? w1 ⟨BQ,1,none⟩=some (.int .i64 0):=bQ.cell 1
 have bQ_2 : World.cell? w1 ⟨BQ,2,none⟩=some (.int .i64 0):=bQ.cell 2
 have bQ_f0 : World.frozen? w1 ⟨BQ,0,none⟩=false:=bQ.frozen 0
 have bQ_f1 : World.frozen? w1 ⟨BQ,1,none⟩=false:=bQ.frozen 1
 have bQ_f2 : World.frozen? w1 ⟨BQ,2,none⟩=false:=bQ.frozen 2
 have bQ_l:=bQ.lt
 go_upto_region 31 with fail
 clear bN_0 bN_1 bN_2 bN_3 bN_4 bN_5 bN_f0 bN_f1 bN_f2 bN_f3 bN_f4 bN_f5 bN_l bQ_0 bQ_1 bQ_2 bQ_f0 bQ_f1 bQ_f2 bQ_l
 have hS2:=(ExtBut.sc (ExtBut.sc (ExtBut.sc (ExtBut.sc (ExtBut.sc (ExtBut.sc (ExtBut.sc (ExtBut.sc (ExtBut.sc (ExtBut.refl (fun b=>b=BN∨b=BQ∨False) w1) (p:=⟨BN,0,none⟩) (u := .slice v_na x.mem.al.length v_nac) (.inl rfl)) (p:=⟨BN,1,none⟩) (u := .int .i64 x.mem.next) (.inl rfl)) (p:=⟨BN,2,none⟩) (u := .slice v_nk x.stks.length v_nkc) (.inl rfl)) (p:=⟨BN,3,none⟩) (u := .slice v_nr x.run.length v_nrc) (.inl rfl)) (p:=⟨BN,4,none⟩) (u := .int .i64 x.tag) (.inl rfl)) (p:=⟨BN,5,none⟩) (u := .int .i64 x.call) (.inl rfl)) (p:=⟨BQ,0,none⟩) (u := .int .i64 qa) (.inr (.inl rfl))) (p:=⟨BQ,1,none⟩) (u := .int .i64 qo) (.inr (.inl rfl))) (p:=⟨BQ,2,none⟩) (u := .int .i64 qt) (.inr (.inl rfl)))
 replace bN:=(Box.other (Box.other (Box.other (Box.setL (Box.setL (Box.setL (Box.setL (Box.setL (Box.setL bN 0 (.slice v_na x.mem.al.length v_nac)) 1 (.int .i64 x.mem.next)) 2 (.slice v_nk x.stks.length v_nkc)) 3 (.slice v_nr x.run.length v_nrc)) 4 (.int .i64 x.tag)) 5 (.int .i64 x.call)) (p:=⟨BQ,0,none⟩) (ne_bQ_bN.out) (.int .i64 qa)) (p:=⟨BQ,1,none⟩) (ne_bQ_bN.out) (.int .i64 qo)) (p:=⟨BQ,2,none⟩) (ne_bQ_bN.out) (.int .i64 qt))
 simp only [List.set_cons_zero,List.set_cons_succ] at bN
 replace bQ:=(Box.setL (Box.setL (Box.setL (Box.other (Box.other (Box.other (Box.other (Box.other (Box.other bQ (p:=⟨BN,0,none⟩) (ne_bN_bQ.out) (.slice v_na x.mem.al.length v_nac)) (p:=⟨BN,1,none⟩) (ne_bN_bQ.out) (.int .i64 x.mem.next)) (p:=⟨BN,2,none⟩) (ne_bN_bQ.out) (.slice v_nk x.stks.length v_nkc)) (p:=⟨BN,3,none⟩) (ne_bN_bQ.out) (.slice v_nr x.run.length v_nrc)) (p:=⟨BN,4,none⟩) (ne_bN_bQ.out) (.int .i64 x.tag)) (p:=⟨BN,5,none⟩) (ne_bN_bQ.out) (.int .i64 x.call)) 0 (.int .i64 qa)) 1 (.int .i64 qo)) 2 (.int .i64 qt))
 simp only [List.set_cons_zero,List.set_cons_succ] at bQ
 obtain ⟨w2s,hw2⟩ : ∃ z,(World.setCell (World.setCell (World.setCell (World.setCell (World.setCell (World.setCell (World.setCell (World.setCell (World.setCell w1 ⟨BN,0,none⟩ (.slice v_na x.mem.al.length v_nac)) ⟨BN,1,none⟩ (.int .i64 x.mem.next)) ⟨BN,2,none⟩ (.slice v_nk x.stks.length v_nkc)) ⟨BN,3,none⟩ (.slice v_nr x.run.length v_nrc)) ⟨BN,4,none⟩ (.int .i64 x.tag)) ⟨BN,5,none⟩ (.int .i64 x.call)) ⟨BQ,0,none⟩ (.int .i64 qa)) ⟨BQ,1,none⟩ (.int .i64 qo)) ⟨BQ,2,none⟩ (.int .i64 qt))=z:=⟨_,rfl⟩
 rw [hw2] at hS2 bN bQ ⊢
 clear hw2
 replace hXt:=Lib.hid (hXt.out.trans (hS2.mono (fun b _ h=>by rcases h with h | h | h;exact .inl h;exact .inr (.inl h);exact h.elim)))
 replace bM:=Box.but bM hS2 (fun h=>by rcases h with h | h | h;exact ne_bN_bM.out h.symm;exact ne_bQ_bM.out h.symm;exact h)
 replace bY:=Box.but bY hS2 (fun h=>by rcases h with h | h | h;exact ne_bN_bY.out h.symm;exact ne_bQ_bY.out h.symm;exact h)
 replace bG:=Pvb.but bG hS2 (fun h=>by rcases h with h | h | h;exact ne_bN_bG.out h.symm;exact ne_bQ_bG.out h.symm;exact h)
 replace bS:=Box.but bS hS2 (fun h=>by rcases h with h | h | h;exact ne_bN_bS.out h.symm;exact ne_bQ_bS.out h.symm;exact h)
 replace bP:=Box.but bP hS2 (fun h=>by rcases h with h | h | h;exact ne_bN_bP.out h.symm;exact ne_bQ_bP.out h.symm;exact h)
 replace bA:=Box.but bA hS2 (fun h=>by rcases h with h | h | h;exact ne_bN_bA.out h.symm;exact ne_bQ_bA.out h.symm;exact h)
 replace Gm:=Lib.hid (Fq.but Gm.out hS2 (fun b h _ h2=>by rcases h2 with h2 | h2 | h2;exact h.2.2.2.2.1 h2;exact h.2.2.2.2.2.1 h2;exact h2))
 replace Gp:=Lib.hid (Fq.but Gp.out hS2 (fun b h _ h2=>by rcases h2 with h2 | h2 | h2;exact h.2.2.2.2.1 h2;exact h.2.2.2.2.2.1 h2;exact h2))
 replace qL:=Lib.hid (Fq.but qL.out hS2 (fun b h _ h2=>by rcases h2 with h2 | h2 | h2;exact h.2.2.2.2.1 h2;exact h.2.2.2.2.2.1 h2;exact h2))
 replace Gn:=Lib.hid (Fq.but Gn.out hS2 (fun b h _ h2=>by rcases h2 with h2 | h2 | h2;exact h.2.2.2.2.1 h2;exact h.2.2.2.2.2.1 h2;exact h2))
 have hF3:=ExtBut.ext hF1 hS2 (fun b h=>by rcases h with h | h | h;(rw [h];exact lowbN.out);(rw [h];exact lowbQ.out);exact h.elim)
 clear hS2
 clear nNQ nQN
 obtain ⟨bY_0,bY_1,bY_l⟩:=bY.c2
 obtain ⟨bP_0,bP_1,bP_2,bP_l⟩:=bP.c3
 go_wp2_with fail
 clear bY_0 bY_1 bY_l bP_0 bP_1 bP_2 bP_l
 have ltbM:=Lib.hid bM.lt
 have ltbY:=Lib.hid bY.lt
 have ltbG:=Lib.hid bG.lt
 have ltbP:=Lib.hid bP.lt
 have ltbN:=Lib.hid bN.lt
 have ltbQ:=Lib.hid bQ.lt
 have ltbA:=Lib.hid bA.lt
 refine (cells_LoadAll (m:=m.mem) ⟨pa,po,pt⟩ (lc.length : Int) Gp.out.read (i64_of_ok hok.out)).mono ?_
 rintro e w4 ⟨vl,rfl,hOl,hE4⟩
 replace hXt:=Lib.hid (hXt.out.trans (ExtBut.of_ext hE4))
 replace bM:=bM.ext hE4
 replace bY:=bY.ext hE4
 replace bG:=bG.ext hE4
 replace bS:=bS.ext hE4
 replace bP:=bP.ext hE4
 replace bN:=bN.ext hE4
 replace bQ:=bQ.ext hE4
 replace bA:=bA.ext hE4
 replace Gm:=Lib.hid (Fq.ext Gm.out hE4)
 replace Gp:=Lib.hid (Fq.ext Gp.out hE4)
 replace qL:=Lib.hid (Fq.ext qL.out hE4)
 replace Gn:=Lib.hid (Fq.ext Gn.out hE4)
 have hF4:=Ext.trans hF3 hE4
 rw [h2.out]
 dsimp only
 clear hOl
 clear ltbM ltbY ltbG ltbP ltbN ltbQ ltbA
 go_wp2_with fail
 refine Met.intro ?_
 refine hJ ?_
 exact ⟨x,⟨qa,qo,qt⟩,why,e,f,m.mem,⟨v_na,v_nac,v_nk,v_nkc,v_nr,v_nrc⟩,a5,c5,rfl,rfl,rfl,st.out,bN,bQ,bA,Gn.out,Gp.out,hXt.out⟩
set_option maxRecDepth 1000000 in
set_option maxHeartbeats 12800000 in
theorem steps_sw4 {wS w0 : World} {B4 B5 PB BS BPp BN BQ BA : Nat} {m : Mon} {k : Nat} {x1 x2 x3 a5 pva : Option Addr} {y1 y2 y3 c5 pvc : Nat} {ps : List Ptr} {s1 s2 s3 s4 pa po pt : Int} {lc : List Cell} {lb lo cl2 : Nat}
  {x_0 x_1 x_2 x_3 x_17 x_18 x_19 x_20 x_21 x_22 x_23 x_24 x_25 x_26 x_27 x_28 x_29 x_30 x_31 x_32 x_33 x_34 x_35 x_36 x_37 x_38 x_39 x_40 x_41 x_42 x_43 x_44 x_45 x_46 x_47 x_48 x_49 x_50 x_51 x_52 x_53 x_54 x_55 x_56 x_57 x_58 x_59 x_60 x_61 x_62 x_63 x_64 x_65 x_66 x_67 x_68 x_69 x_71 x_72 x_73 x_74 x_75 x_76 x_77 x_78 x_79 x_80 x_81 x_82 x_83 x_84 x_85 x_86 x_87 x_88 x_89 x_90 x_91 x_92 x_93 x_94 x_95 x_96 x_97 x_98 x_99 x_100 x_101 x_102 x_103 x_104 x_105 x_106 x_107 x_108 x_109 x_110 x_111 x_112 x_113 x_114 x_115 x_116 x_117 x_118 x_119 x_120 x_121 x_122 x_123 x_124 x_125 x_126 x_127 x_128 x_129 x_130 x_131 x_132 x_133 x_134 x_135 x_136 x_137 x_138 x_139 x_140 x_141 x_142 x_143 x_144 x_145 x_146 x_147 x_148 x_149 x_150 x_151 x_152 x_153 x_154 x_155 x_156 x_157 x_158 x_159 x_160 x_161 x_162 x_163 x_164 x_165 x_166 x_167 x_168 x_169 x_170 x_171 x_172 x_173 x_174 x_175 x_176 x_177 x_178 x_179 x_180 x_181 x_182 x_183 x_184 x_185 x_186 x_187 x_188 x_189 x_190 x_191 x_192 x_193 x_194 x_195 x_196 x_197 x_198 x_199 x_200 x_201 x_202 x_203 x_204 x_205 x_206 x_207 x_208 x_209 x_210 x_211 x_212 x_213 x_214 x_215 x_216 x_217 x_218 x_219 x_220 x_221 x_222 x_223 x_224 x_225 x_226 x_227 x_228 x_229 x_230 x_231 x_232 x_233 x_234 x_235 x_236 x_237 x_238 x_239 x_240 x_241 x_242 x_243 x_244 x_245 x_246 : Value} {J K : Act→World→Prop} {Q : Exit→Act→World→Prop}
  (hK : ∀ a w,Met J a w→K a w)
  (hJ : ∀ {v13 v14 v16 u28 u29 u30 u31 u32 u33 u34 u35 u36 u37 u38 u39 u40 u41 u42 u43 u44 u45 u46 u47 u48 u49 u50 u51 u52 u53 u54 u55 u56 u57 u58 u59 u60 u61 u62 u63 u64 u65 u66 u67 u68 u69 u70 u71 u72 u73 u74 u75 u76 u77 u78 u79 u80 u81 u82 u83 u84 u85 u86 u87 u88 u89 u90 u91 u92 u93 u94 u95 u96 u97 u98 u99 u100 u101 u102 u103 u104 u105 u106 u107 u108 u109 u110 u111 u112 u113 u114 u115 u116 u117 u118 u119 u120 u121 u122 u123 u124 u125 u126 u127 u128 u129 u130 u131 u132 u133 u134 u135 u136 u137 u138 u139 u140 u141 u142 u143 u144 u145 u146 u147 u148 u149 u150 u151 u152 u153 u154 u155 u156 u157 u158 u159 u160 u161 u162 u163 u164 u165 u166 u167 u168 u169 u170 u171 u172 u173 u174 u175 u176 u177 u178 u179 u180 u181 u182 u183 u184 u185 u186 u187 u188 u189 u190 u191 u192 u193 u194 u195 u196 u197 u198 u199 u200 u201 u202 u203 u204 u205 u206 u207 u208 u209 u210 u211 u212 u213 u214 u215 u216 u217 u218 u219 u220 u221 u222 u223 u224 u225 u226 u227 u228 u229 u230 u231 u232 u233 u234 u235 u236 u237 u238 u239 u240 u241 u242 u243 u244 u245 : Value} {wx : World},StepRes (fun b=>b≠B4∧b≠B5∧b≠PB∧b≠BPp∧b≠BN∧b≠BQ∧b≠BA∧True) (fun b=>b=BN∨b=BQ∨b=BA∨False) w0 BN BQ BA m k v13 v14 v16 wx→J ⟨#[x_0,x_1,x_2,x_3,.pointer (some ⟨B4,0,none⟩),.pointer (some ⟨B5,0,none⟩),.slice pva ps.length pvc,.int .i64 (k : Int),.pointer (some ⟨BS,0,none⟩),.pointer (some ⟨BPp,0,none⟩),.slice (some ⟨lb,lo,none⟩) lc.length cl2,.pointer (some ⟨BN,0,none⟩),.pointer (some ⟨BQ,0,none⟩),v13,v14,.pointer (some ⟨BA,0,none⟩),v16,x_17,x_18,x_19,x_20,x_21,x_22,x_23,x_24,x_25,x_26,x_27,u28,u29,u30,u31,u32,u33,u34,u35,u36,u37,u38,u39,u40,u41,u42,u43,u44,u45,u46,u47,u48,u49,u50,u51,u52,u53,u54,u55,u56,u57,u58,u59,u60,u61,u62,u63,u64,u65,u66,u67,u68,u69,u70,u71,u72,u73,u74,u75,u76,u77,u78,u79,u80,u81,u82,u83,u84,u85,u86,u87,u88,u89,u90,u91,u92,u93,u94,u95,u96,u97,u98,u99,u100,u101,u102,u103,u104,u105,u106,u107,u108,u109,u110,u111,u112,u113,u114,u115,u116,u117,u118,u119,u120,u121,u122,u123,u124,u125,u126,u127,u128,u129,u130,u131,u132,u133,u134,u135,u136,u137,u138,u139,u140,u141,u142,u143,u144,u145,u146,u147,u148,u149,u150,u151,u152,u153,u154,u155,u156,u157,u158,u159,u160,u161,u162,u163,u164,u165,u166,u167,u168,u169,u170,u171,u172,u173,u174,u175,u176,u177,u178,u179,u180,u181,u182,u183,u184,u185,u186,u187,u188,u189,u190,u191,u192,u193,u194,u195,u196,u197,u198,u199,u200,u201,u202,u203,u204,u205,u206,u207,u208,u209,u210,u211,u212,u213,u214,u215,u216,u217,u218,u219,u220,u221,u222,u223,u224,u225,u226,u227,u228,u229,u230,u231,u232,u233,u234,u235,u236,u237,u238,u239,u240,u241,u242,u243,u244,u245,x_246],[]⟩ wx)
  (hp : Hid (Perms wS))
  (hF0 : Ext wS w0)
  (hok : Hid (okMon m=true))
  (hfew : Hid (Few m k))
  (hk30 : Hid (k < 30))
  (ne_bN_bM : Hid (BN≠B4))
  (ne_bN_bY : Hid (BN≠B5))
  (ne_bN_bG : Hid (BN≠PB))
  (ne_bN_bS : Hid (BN≠BS))
  (ne_bN_bP : Hid (BN≠BPp))
  (ne_bN_bQ : Hid (BN≠BQ))
  (ne_bN_bA : Hid (BN≠BA))
  (ne_bQ_bM : Hid (BQ≠B4))
  (ne_bQ_bY : Hid (BQ≠B5))
  (ne_bQ_bG : Hid (BQ≠PB))
  (ne_bQ_bS : Hid (BQ≠BS))
  (ne_bQ_bP : Hid (BQ≠BPp))
  (ne_bQ_bN : Hid (BQ≠BN))
  (ne_bQ_bA : Hid (BQ≠BA))
  (ne_bA_bM : Hid (BA≠B4))
  (ne_bA_bY : Hid (BA≠B5))
  (ne_bA_bG : Hid (BA≠PB))
  (ne_bA_bS : Hid (BA≠BS))
  (ne_bA_bP : Hid (BA≠BPp))
  (ne_bA_bN : Hid (BA≠BN))
  (ne_bA_bQ : Hid (BA≠BQ))
  (lowbM : Hid (wS.heap.size≤B4))
  (lowbY : Hid (wS.heap.size≤B5))
  (lowbG : Hid (wS.heap.size≤PB))
  (lowbP : Hid (wS.heap.size≤BPp))
  (lowbN : Hid (wS.heap.size≤BN))
  (lowbQ : Hid (wS.heap.size≤BQ))
  (lowbA : Hid (wS.heap.size≤BA))
  (bM : Box w0 B4 30 #[.slice x1 m.mem.al.length y1,.int .i64 m.mem.next,.slice x2 m.stks.length y2,.slice x3 m.run.length y3,.int .i64 m.tag,.int .i64 m.call])
  (bY : Box w0 B5 26 #[.slice a5 m.mem.al.length c5,.int .i64 m.mem.next])
  (bG : Pvb w0 wS.heap.size PB (.slice pva ps.length pvc) ps)
  (bS : Box w0 BS 33 #[.int .i64 4,.int .i64 s1,.int .i64 s2,.int .i64 s3,.int .i64 s4])
  (bP : Box w0 BPp 35 #[.int .i64 pa,.int .i64 po,.int .i64 pt])
  (bN : Box w0 BN 30 #[.slice x1 m.mem.al.length y1,.int .i64 m.mem.next,.slice x2 m.stks.length y2,.slice x3 m.run.length y3,.int .i64 m.tag,.int .i64 m.call])
  (bQ : Box w0 BQ 35 #[.int .i64 0,.int .i64 0,.int .i64 0])
  (bA : Box w0 BA 26 #[.slice a5 m.mem.al.length c5,.int .i64 m.mem.next])
  (Gm : Hid (Fq (fun b=>b≠B4∧b≠B5∧b≠PB∧b≠BPp∧b≠BN∧b≠BQ∧b≠BA∧True) w0 (RdA m ⟨x1,y1,x2,y2,x3,y3⟩)))
  (Gp : Hid (Fq (fun b=>b≠B4∧b≠B5∧b≠PB∧b≠BPp∧b≠BN∧b≠BQ∧b≠BA∧True) w0 (fun w=>Als w (.slice a5 m.mem.al.length c5) m.mem.al)))
  (qL : Hid (Fq (fun b=>b≠B4∧b≠B5∧b≠PB∧b≠BPp∧b≠BN∧b≠BQ∧b≠BA∧True) w0 (fun w=>Cls w (.slice (some ⟨lb,lo,none⟩) lc.length cl2) lc))) :
  Code.wp Tryz.prog ((Tryz.f3.body.bind (findS (isSB 2))).getD .skip) (Exit.then K Q) ⟨#[x_0,x_1,x_2,x_3,.pointer (some ⟨B4,0,none⟩),.pointer (some ⟨B5,0,none⟩),.slice pva ps.length pvc,.int .i64 (k : Int),.pointer (some ⟨BS,0,none⟩),.pointer (some ⟨BPp,0,none⟩),.slice (some ⟨lb,lo,none⟩) lc.length cl2,.pointer (some ⟨BN,0,none⟩),.pointer (some ⟨BQ,0,none⟩),.int .u8 0,.int .i64 0,.pointer (some ⟨BA,0,none⟩),.int .i64 0,x_17,x_18,x_19,x_20,x_21,x_22,x_23,x_24,x_25,x_26,x_27,x_28,x_29,x_30,x_31,x_32,x_33,x_34,x_35,x_36,x_37,x_38,x_39,x_40,x_41,x_42,x_43,x_44,x_45,x_46,x_47,x_48,x_49,x_50,x_51,x_52,x_53,x_54,x_55,x_56,x_57,x_58,x_59,x_60,x_61,x_62,x_63,x_64,x_65,x_66,x_67,x_68,x_69,.int .i64 4,x_71,x_72,x_73,x_74,x_75,x_76,x_77,x_78,x_79,x_80,x_81,x_82,x_83,x_84,x_85,x_86,x_87,x_88,x_89,x_90,x_91,x_92,x_93,x_94,x_95,x_96,x_97,x_98,x_99,x_100,x_101,x_102,x_103,x_104,x_105,x_106,x_107,x_108,x_109,x_110,x_111,x_112,x_113,x_114,x_115,x_116,x_117,x_118,x_119,x_120,x_121,x_122,x_123,x_124,x_125,x_126,x_127,x_128,x_129,x_130,x_131,x_132,x_133,x_134,x_135,x_136,x_137,x_138,x_139,x_140,x_141,x_142,x_143,x_144,x_145,x_146,x_147,x_148,x_149,x_150,x_151,x_152,x_153,x_154,x_155,x_156,x_157,x_158,x_159,x_160,x_161,x_162,x_163,x_164,x_165,x_166,x_167,x_168,x_169,x_170,x_171,x_172,x_173,x_174,x_175,x_176,x_177,x_178,x_179,x_180,x_181,x_182,x_183,x_184,x_185,x_186,x_187,x_188,x_189,x_190,x_191,x_192,x_193,x_194,x_195,x_196,x_197,x_198,x_199,x_200,x_201,x_202,x_203,x_204,x_205,x_206,x_207,x_208,x_209,x_210,x_211,x_212,x_213,x_214,x_215,x_216,x_217,x_218,x_219,x_220,x_221,x_222,x_223,x_224,x_225,x_226,x_227,x_228,x_229,x_230,x_231,x_232,x_233,x_234,x_235,x_236,x_237,x_238,x_239,x_240,x_241,x_242,x_243,x_244,x_245,x_246],[]⟩ w0:=by
 conv=>arg 2;whnf
 have hXt:=Lib.hid (ExtBut.refl (fun b=>b=BN∨b=BQ∨b=BA∨False) w0)
 obtain ⟨⟨x,c,e⟩,h1⟩ : ∃ z,enterM m=z:=⟨_,rfl⟩
 have st:=Lib.hid (step_enter hok.out hfew.out hk30.out h1)
 replace h1:=Lib.hid h1
 obtain ⟨bM_0,bM_1,bM_2,bM_3,bM_4,bM_5,bM_l⟩:=bM.c6
 go_wp2_with fail
 clear bM_0 bM_1 bM_2 bM_3 bM_4 bM_5 bM_l
 have ltbM:=Lib.hid bM.lt
 have ltbY:=Lib.hid bY.lt
 have ltbG:=Lib.hid bG.lt
 have ltbP:=Lib.hid bP.lt
 have ltbN:=Lib.hid bN.lt
 have ltbQ:=Lib.hid bQ.lt
 have ltbA:=Lib.hid bA.lt
 refine (monitor_Enter Gm.out.read.1 (i64_of_ok hok.out) Gm.out.read.2.1 Gm.out.read.2.2).mono ?_
 rintro e w1 ⟨vt,rfl,fM,hE1⟩
 replace hXt:=Lib.hid (hXt.out.trans (ExtBut.of_ext hE1))
 replace bM:=bM.ext hE1
 replace bY:=bY.ext hE1
 replace bG:=bG.ext hE1
 replace bS:=bS.ext hE1
 replace bP:=bP.ext hE1
 replace bN:=bN.ext hE1
 replace bQ:=bQ.ext hE1
 replace bA:=bA.ext hE1
 replace Gm:=Lib.hid (Fq.ext Gm.out hE1)
 replace Gp:=Lib.hid (Fq.ext Gp.out hE1)
 replace qL:=Lib.hid (Fq.ext qL.out hE1)
 have hF1:=Ext.trans hF0 hE1
 rw [h1.out] at fM ⊢
 try dsimp only [Ptr.val] at fM ⊢
 obtain ⟨nsa,nss,nsr,rfl,qn⟩:=FrMon.parts fM
 clear fM
 obtain ⟨v_na,v_nac,rfl,-⟩:=(qn.read).1.form
 obtain ⟨v_nk,v_nkc,rfl,-⟩:=(qn.read).2.1.form
 obtain ⟨v_nr,v_nrc,rfl,-⟩:=(qn.read).2.2.form
 try dsimp only at qn ⊢
 have Gn:=Lib.hid (Fq.mono (S':=(fun b=>b≠B4∧b≠B5∧b≠PB∧b≠BPp∧b≠BN∧b≠BQ∧b≠BA∧True)) qn (fun b h1 _=>by have gbM:=ltbM.out;have gbY:=ltbY.out;have gbG:=ltbG.out;have gbP:=ltbP.out;have gbN:=ltbN.out;have gbQ:=ltbQ.out;have gbA:=ltbA.out;exact ⟨by omega,by omega,by omega,by omega,by omega,by omega,by omega,trivial⟩))
 clear qn ltbM ltbY ltbG ltbP ltbN ltbQ ltbA
 have bN_0 : World.cell? w1 ⟨BN,0,none⟩=some (.slice x1 m.mem.al.length y1):=bN.cell 0
 have bN_1 : World.cell? w1 ⟨BN,1,none⟩=some (.int .i64 m.mem.next):=bN.cell 1
 have bN_2 : World.cell? w1 ⟨BN,2,none⟩=some (.slice x2 m.stks.length y2):=bN.cell 2
 have bN_3 : World.cell? w1 ⟨BN,3,none⟩=some (.slice x3 m.run.length y3):=bN.cell 3
 have bN_4 : World.cell? w1 ⟨BN,4,none⟩=some (.int .i64 m.tag):=bN.cell 4
 have bN_5 : World.cell? w1 ⟨BN,5,none⟩=some (.int .i64 m.call):=bN.cell 5
 have bN_f0 : World.frozen? w1 ⟨BN,0,none⟩=false:=bN.frozen 0
 have bN_f1 : World.frozen? w1 ⟨BN,1,none⟩=false:=bN.frozen 1
 have bN_f2 : World.frozen? w1 ⟨BN,2,none⟩=false:=bN.frozen 2
 have bN_f3 : World.frozen? w1 ⟨BN,3,none⟩=false:=bN.frozen 3
 have bN_f4 : World.frozen? w1 ⟨BN,4,none⟩=false:=bN.frozen 4
 have bN_f5 : World.frozen? w1 ⟨BN,5,none⟩=false:=bN.frozen 5
 have bN_l:=bN.lt
 go_wp2_with fail
 clear bN_0 bN_1 bN_2 bN_3 bN_4 bN_5 bN_f0 bN_f1 bN_f2 bN_f3 bN_f4 bN_f5 bN_l
 have hS2:=(ExtBut.sc (ExtBut.sc (ExtBut.sc (ExtBut.sc (ExtBut.sc (ExtBut.sc (ExtBut.refl (fun b=>b=BN∨False) w1) (p:=⟨BN,0,none⟩) (u := .slice v_na x.mem.al.length v_nac) (.inl rfl)) (p:=⟨BN,1,none⟩) (u := .int .i64 x.mem.next) (.inl rfl)) (p:=⟨BN,2,none⟩) (u := .slice v_nk x.stks.length v_nkc) (.inl rfl)) (p:=⟨BN,3,none⟩) (u := .slice v_nr x.run.length v_nrc) (.inl rfl)) (p:=⟨BN,4,none⟩) (u := .int .i64 x.tag) (.inl rfl)) (p:=⟨BN,5,none⟩) (u := .int .i64 x.call) (.inl rfl))
 replace bN:=(Box.setL (Box.setL (Box.setL (Box.setL (Box.setL (Box.setL bN 0 (.slice v_na x.mem.al.length v_nac)) 1 (.int .i64 x.mem.next)) 2 (.slice v_nk x.stks.length v_nkc)) 3 (.slice v_nr x.run.length v_nrc)) 4 (.int .i64 x.tag)) 5 (.int .i64 x.call))
 simp only [List.set_cons_zero,List.set_cons_succ] at bN
 obtain ⟨w2s,hw2⟩ : ∃ z,(World.setCell (World.setCell (World.setCell (World.setCell (World.setCell (World.setCell w1 ⟨BN,0,none⟩ (.slice v_na x.mem.al.length v_nac)) ⟨BN,1,none⟩ (.int .i64 x.mem.next)) ⟨BN,2,none⟩ (.slice v_nk x.stks.length v_nkc)) ⟨BN,3,none⟩ (.slice v_nr x.run.length v_nrc)) ⟨BN,4,none⟩ (.int .i64 x.tag)) ⟨BN,5,none⟩ (.int .i64 x.call))=z:=⟨_,rfl⟩
 rw [hw2] at hS2 bN ⊢
 clear hw2
 replace hXt:=Lib.hid (hXt.out.trans (hS2.mono (fun b _ h=>by rcases h with h | h;exact .inl h;exact h.elim)))
 replace bM:=Box.but bM hS2 (fun h=>by rcases h with h | h;exact ne_bN_bM.out h.symm;exact h)
 replace bY:=Box.but bY hS2 (fun h=>by rcases h with h | h;exact ne_bN_bY.out h.symm;exact h)
 replace bG:=Pvb.but bG hS2 (fun h=>by rcases h with h | h;exact ne_bN_bG.out h.symm;exact h)
 replace bS:=Box.but bS hS2 (fun h=>by rcases h with h | h;exact ne_bN_bS.out h.symm;exact h)
 replace bP:=Box.but bP hS2 (fun h=>by rcases h with h | h;exact ne_bN_bP.out h.symm;exact h)
 replace bQ:=Box.but bQ hS2 (fun h=>by rcases h with h | h;exact ne_bN_bQ.out h.symm;exact h)
 replace bA:=Box.but bA hS2 (fun h=>by rcases h with h | h;exact ne_bN_bA.out h.symm;exact h)
 replace Gm:=Lib.hid (Fq.but Gm.out hS2 (fun b h _ h2=>by rcases h2 with h2 | h2;exact h.2.2.2.2.1 h2;exact h2))
 replace Gp:=Lib.hid (Fq.but Gp.out hS2 (fun b h _ h2=>by rcases h2 with h2 | h2;exact h.2.2.2.2.1 h2;exact h2))
 replace qL:=Lib.hid (Fq.but qL.out hS2 (fun b h _ h2=>by rcases h2 with h2 | h2;exact h.2.2.2.2.1 h2;exact h2))
 replace Gn:=Lib.hid (Fq.but Gn.out hS2 (fun b h _ h2=>by rcases h2 with h2 | h2;exact h.2.2.2.2.1 h2;exact h2))
 have hF3:=ExtBut.ext hF1 hS2 (fun b h=>by rcases h with h | h;(rw [h];exact lowbN.out);exact h.elim)
 clear hS2
 refine Met.intro ?_
 refine hJ ?_
 exact ⟨x,⟨0,0,0⟩,0,e,0,m.mem,⟨v_na,v_nac,v_nk,v_nkc,v_nr,v_nrc⟩,a5,c5,rfl,rfl,rfl,st.out,bN,bQ,bA,Gn.out,Gp.out,hXt.out⟩
set_option maxRecDepth 1000000 in
set_option maxHeartbeats 12800000 in
theorem steps_sw5 {wS w0 : World} {B4 B5 PB BS BPp BN BQ BA : Nat} {m : Mon} {k : Nat} {x1 x2 x3 a5 pva : Option Addr} {y1 y2 y3 c5 pvc : Nat} {ps : List Ptr} {s1 s2 s3 s4 pa po pt : Int} {lc : List Cell} {lb lo cl2 : Nat}
  {x_0 x_1 x_2 x_3 x_17 x_18 x_19 x_20 x_21 x_22 x_23 x_24 x_25 x_26 x_27 x_28 x_29 x_30 x_31 x_32 x_33 x_34 x_35 x_36 x_37 x_38 x_39 x_40 x_41 x_42 x_43 x_44 x_45 x_46 x_47 x_48 x_49 x_50 x_51 x_52 x_53 x_54 x_55 x_56 x_57 x_58 x_59 x_60 x_61 x_62 x_63 x_64 x_65 x_66 x_67 x_68 x_69 x_71 x_72 x_73 x_74 x_75 x_76 x_77 x_78 x_79 x_80 x_81 x_82 x_83 x_84 x_85 x_86 x_87 x_88 x_89 x_90 x_91 x_92 x_93 x_94 x_95 x_96 x_97 x_98 x_99 x_100 x_101 x_102 x_103 x_104 x_105 x_106 x_107 x_108 x_109 x_110 x_111 x_112 x_113 x_114 x_115 x_116 x_117 x_118 x_119 x_120 x_121 x_122 x_123 x_124 x_125 x_126 x_127 x_128 x_129 x_130 x_131 x_132 x_133 x_134 x_135 x_136 x_137 x_138 x_139 x_140 x_141 x_142 x_143 x_144 x_145 x_146 x_147 x_148 x_149 x_150 x_151 x_152 x_153 x_154 x_155 x_156 x_157 x_158 x_159 x_160 x_161 x_162 x_163 x_164 x_165 x_166 x_167 x_168 x_169 x_170 x_171 x_172 x_173 x_174 x_175 x_176 x_177 x_178 x_179 x_180 x_181 x_182 x_183 x_184 x_185 x_186 x_187 x_188 x_189 x_190 x_191 x_192 x_193 x_194 x_195 x_196 x_197 x_198 x_199 x_200 x_201 x_202 x_203 x_204 x_205 x_206 x_207 x_208 x_209 x_210 x_211 x_212 x_213 x_214 x_215 x_216 x_217 x_218 x_219 x_220 x_221 x_222 x_223 x_224 x_225 x_226 x_227 x_228 x_229 x_230 x_231 x_232 x_233 x_234 x_235 x_236 x_237 x_238 x_239 x_240 x_241 x_242 x_243 x_244 x_245 x_246 : Value} {J K : Act→World→Prop} {Q : Exit→Act→World→Prop}
  (hK : ∀ a w,Met J a w→K a w)
  (hJ : ∀ {v13 v14 v16 u28 u29 u30 u31 u32 u33 u34 u35 u36 u37 u38 u39 u40 u41 u42 u43 u44 u45 u46 u47 u48 u49 u50 u51 u52 u53 u54 u55 u56 u57 u58 u59 u60 u61 u62 u63 u64 u65 u66 u67 u68 u69 u70 u71 u72 u73 u74 u75 u76 u77 u78 u79 u80 u81 u82 u83 u84 u85 u86 u87 u88 u89 u90 u91 u92 u93 u94 u95 u96 u97 u98 u99 u100 u101 u102 u103 u104 u105 u106 u107 u108 u109 u110 u111 u112 u113 u114 u115 u116 u117 u118 u119 u120 u121 u122 u123 u124 u125 u126 u127 u128 u129 u130 u131 u132 u133 u134 u135 u136 u137 u138 u139 u140 u141 u142 u143 u144 u145 u146 u147 u148 u149 u150 u151 u152 u153 u154 u155 u156 u157 u158 u159 u160 u161 u162 u163 u164 u165 u166 u167 u168 u169 u170 u171 u172 u173 u174 u175 u176 u177 u178 u179 u180 u181 u182 u183 u184 u185 u186 u187 u188 u189 u190 u191 u192 u193 u194 u195 u196 u197 u198 u199 u200 u201 u202 u203 u204 u205 u206 u207 u208 u209 u210 u211 u212 u213 u214 u215 u216 u217 u218 u219 u220 u221 u222 u223 u224 u225 u226 u227 u228 u229 u230 u231 u232 u233 u234 u235 u236 u237 u238 u239 u240 u241 u242 u243 u244 u245 : Value} {wx : World},StepRes (fun b=>b≠B4∧b≠B5∧b≠PB∧b≠BPp∧b≠BN∧b≠BQ∧b≠BA∧True) (fun b=>b=BN∨b=BQ∨b=BA∨False) w0 BN BQ BA m k v13 v14 v16 wx→J ⟨#[x_0,x_1,x_2,x_3,.pointer (some ⟨B4,0,none⟩),.pointer (some ⟨B5,0,none⟩),.slice pva ps.length pvc,.int .i64 (k : Int),.pointer (some ⟨BS,0,none⟩),.pointer (some ⟨BPp,0,none⟩),.slice (some ⟨lb,lo,none⟩) lc.length cl2,.pointer (some ⟨BN,0,none⟩),.pointer (some ⟨BQ,0,none⟩),v13,v14,.pointer (some ⟨BA,0,none⟩),v16,x_17,x_18,x_19,x_20,x_21,x_22,x_23,x_24,x_25,x_26,x_27,u28,u29,u30,u31,u32,u33,u34,u35,u36,u37,u38,u39,u40,u41,u42,u43,u44,u45,u46,u47,u48,u49,u50,u51,u52,u53,u54,u55,u56,u57,u58,u59,u60,u61,u62,u63,u64,u65,u66,u67,u68,u69,u70,u71,u72,u73,u74,u75,u76,u77,u78,u79,u80,u81,u82,u83,u84,u85,u86,u87,u88,u89,u90,u91,u92,u93,u94,u95,u96,u97,u98,u99,u100,u101,u102,u103,u104,u105,u106,u107,u108,u109,u110,u111,u112,u113,u114,u115,u116,u117,u118,u119,u120,u121,u122,u123,u124,u125,u126,u127,u128,u129,u130,u131,u132,u133,u134,u135,u136,u137,u138,u139,u140,u141,u142,u143,u144,u145,u146,u147,u148,u149,u150,u151,u152,u153,u154,u155,u156,u157,u158,u159,u160,u161,u162,u163,u164,u165,u166,u167,u168,u169,u170,u171,u172,u173,u174,u175,u176,u177,u178,u179,u180,u181,u182,u183,u184,u185,u186,u187,u188,u189,u190,u191,u192,u193,u194,u195,u196,u197,u198,u199,u200,u201,u202,u203,u204,u205,u206,u207,u208,u209,u210,u211,u212,u213,u214,u215,u216,u217,u218,u219,u220,u221,u222,u223,u224,u225,u226,u227,u228,u229,u230,u231,u232,u233,u234,u235,u236,u237,u238,u239,u240,u241,u242,u243,u244,u245,x_246],[]⟩ wx)
  (hp : Hid (Perms wS))
  (hF0 : Ext wS w0)
  (hok : Hid (okMon m=true))
  (hfew : Hid (Few m k))
  (hk30 : Hid (k < 30))
  (ne_bN_bM : Hid (BN≠B4))
  (ne_bN_bY : Hid (BN≠B5))
  (ne_bN_bG : Hid (BN≠PB))
  (ne_bN_bS : Hid (BN≠BS))
  (ne_bN_bP : Hid (BN≠BPp))
  (ne_bN_bQ : Hid (BN≠BQ))
  (ne_bN_bA : Hid (BN≠BA))
  (ne_bQ_bM : Hid (BQ≠B4))
  (ne_bQ_bY : Hid (BQ≠B5))
  (ne_bQ_bG : Hid (BQ≠PB))
  (ne_bQ_bS : Hid (BQ≠BS))
  (ne_bQ_bP : Hid (BQ≠BPp))
  (ne_bQ_bN : Hid (BQ≠BN))
  (ne_bQ_bA : Hid (BQ≠BA))
  (ne_bA_bM : Hid (BA≠B4))
  (ne_bA_bY : Hid (BA≠B5))
  (ne_bA_bG : Hid (BA≠PB))
  (ne_bA_bS : Hid (BA≠BS))
  (ne_bA_bP : Hid (BA≠BPp))
  (ne_bA_bN : Hid (BA≠BN))
  (ne_bA_bQ : Hid (BA≠BQ))
  (lowbM : Hid (wS.heap.size≤B4))
  (lowbY : Hid (wS.heap.size≤B5))
  (lowbG : Hid (wS.heap.size≤PB))
  (lowbP : Hid (wS.heap.size≤BPp))
  (lowbN : Hid (wS.heap.size≤BN))
  (lowbQ : Hid (wS.heap.size≤BQ))
  (lowbA : Hid (wS.heap.size≤BA))
  (bM : Box w0 B4 30 #[.slice x1 m.mem.al.length y1,.int .i64 m.mem.next,.slice x2 m.stks.length y2,.slice x3 m.run.length y3,.int .i64 m.tag,.int .i64 m.call])
  (bY : Box w0 B5 26 #[.slice a5 m.mem.al.length c5,.int .i64 m.mem.next])
  (bG : Pvb w0 wS.heap.size PB (.slice pva ps.length pvc) ps)
  (bS : Box w0 BS 33 #[.int .i64 5,.int .i64 s1,.int .i64 s2,.int .i64 s3,.int .i64 s4])
  (bP : Box w0 BPp 35 #[.int .i64 pa,.int .i64 po,.int .i64 pt])
  (bN : Box w0 BN 30 #[.slice x1 m.mem.al.length y1,.int .i64 m.mem.next,.slice x2 m.stks.length y2,.slice x3 m.run.length y3,.int .i64 m.tag,.int .i64 m.call])
  (bQ : Box w0 BQ 35 #[.int .i64 0,.int .i64 0,.int .i64 0])
  (bA : Box w0 BA 26 #[.slice a5 m.mem.al.length c5,.int .i64 m.mem.next])
  (Gm : Hid (Fq (fun b=>b≠B4∧b≠B5∧b≠PB∧b≠BPp∧b≠BN∧b≠BQ∧b≠BA∧True) w0 (RdA m ⟨x1,y1,x2,y2,x3,y3⟩)))
  (Gp : Hid (Fq (fun b=>b≠B4∧b≠B5∧b≠PB∧b≠BPp∧b≠BN∧b≠BQ∧b≠BA∧True) w0 (fun w=>Als w (.slice a5 m.mem.al.length c5) m.mem.al)))
  (qL : Hid (Fq (fun b=>b≠B4∧b≠B5∧b≠PB∧b≠BPp∧b≠BN∧b≠BQ∧b≠BA∧True) w0 (fun w=>Cls w (.slice (some ⟨lb,lo,none⟩) lc.length cl2) lc))) :
  Code.wp Tryz.prog ((Tryz.f3.body.bind (findS (isSB 2))).getD .skip) (Exit.then K Q) ⟨#[x_0,x_1,x_2,x_3,.pointer (some ⟨B4,0,none⟩),.pointer (some ⟨B5,0,none⟩),.slice pva ps.length pvc,.int .i64 (k : Int),.pointer (some ⟨BS,0,none⟩),.pointer (some ⟨BPp,0,none⟩),.slice (some ⟨lb,lo,none⟩) lc.length cl2,.pointer (some ⟨BN,0,none⟩),.pointer (some ⟨BQ,0,none⟩),.int .u8 0,.int .i64 0,.pointer (some ⟨BA,0,none⟩),.int .i64 0,x_17,x_18,x_19,x_20,x_21,x_22,x_23,x_24,x_25,x_26,x_27,x_28,x_29,x_30,x_31,x_32,x_33,x_34,x_35,x_36,x_37,x_38,x_39,x_40,x_41,x_42,x_43,x_44,x_45,x_46,x_47,x_48,x_49,x_50,x_51,x_52,x_53,x_54,x_55,x_56,x_57,x_58,x_59,x_60,x_61,x_62,x_63,x_64,x_65,x_66,x_67,x_68,x_69,.int .i64 5,x_71,x_72,x_73,x_74,x_75,x_76,x_77,x_78,x_79,x_80,x_81,x_82,x_83,x_84,x_85,x_86,x_87,x_88,x_89,x_90,x_91,x_92,x_93,x_94,x_95,x_96,x_97,x_98,x_99,x_100,x_101,x_102,x_103,x_104,x_105,x_106,x_107,x_108,x_109,x_110,x_111,x_112,x_113,x_114,x_115,x_116,x_117,x_118,x_119,x_120,x_121,x_122,x_123,x_124,x_125,x_126,x_127,x_128,x_129,x_130,x_131,x_132,x_133,x_134,x_135,x_136,x_137,x_138,x_139,x_140,x_141,x_142,x_143,x_144,x_145,x_146,x_147,x_148,x_149,x_150,x_151,x_152,x_153,x_154,x_155,x_156,x_157,x_158,x_159,x_160,x_161,x_162,x_163,x_164,x_165,x_166,x_167,x_168,x_169,x_170,x_171,x_172,x_173,x_174,x_175,x_176,x_177,x_178,x_179,x_180,x_181,x_182,x_183,x_184,x_185,x_186,x_187,x_188,x_189,x_190,x_191,x_192,x_193,x_194,x_195,x_196,x_197,x_198,x_199,x_200,x_201,x_202,x_203,x_204,x_205,x_206,x_207,x_208,x_209,x_210,x_211,x_212,x_213,x_214,x_215,x_216,x_217,x_218,x_219,x_220,x_221,x_222,x_223,x_224,x_225,x_226,x_227,x_228,x_229,x_230,x_231,x_232,x_233,x_234,x_235,x_236,x_237,x_238,x_239,x_240,x_241,x_242,x_243,x_244,x_245,x_246],[]⟩ w0:=by
 conv=>arg 2;whnf
 have hXt:=Lib.hid (ExtBut.refl (fun b=>b=BN∨b=BQ∨b=BA∨False) w0)
 obtain ⟨⟨x,e⟩,h1⟩ : ∃ z,leaveM m=z:=⟨_,rfl⟩
 have st:=Lib.hid (step_leave hok.out hfew.out h1)
 replace h1:=Lib.hid h1
 obtain ⟨bM_0,bM_1,bM_2,bM_3,bM_4,bM_5,bM_l⟩:=bM.c6
 go_wp2_with fail
 clear bM_0 bM_1 bM_2 bM_3 bM_4 bM_5 bM_l
 have ltbM:=Lib.hid bM.lt
 have ltbY:=Lib.hid bY.lt
 have ltbG:=Lib.hid bG.lt
 have ltbP:=Lib.hid bP.lt
 have ltbN:=Lib.hid bN.lt
 have ltbQ:=Lib.hid bQ.lt
 have ltbA:=Lib.hid bA.lt
 refine (monitor_Leave Gm.out.read.1 (i64_of_ok hok.out) Gm.out.read.2.1 Gm.out.read.2.2).mono ?_
 rintro e w1 ⟨vt,rfl,fM,hE1⟩
 replace hXt:=Lib.hid (hXt.out.trans (ExtBut.of_ext hE1))
 replace bM:=bM.ext hE1
 replace bY:=bY.ext hE1
 replace bG:=bG.ext hE1
 replace bS:=bS.ext hE1
 replace bP:=bP.ext hE1
 replace bN:=bN.ext hE1
 replace bQ:=bQ.ext hE1
 replace bA:=bA.ext hE1
 replace Gm:=Lib.hid (Fq.ext Gm.out hE1)
 replace Gp:=Lib.hid (Fq.ext Gp.out hE1)
 replace qL:=Lib.hid (Fq.ext qL.out hE1)
 have hF1:=Ext.trans hF0 hE1
 rw [h1.out] at fM ⊢
 try dsimp only [Ptr.val] at fM ⊢
 obtain ⟨nsa,nss,nsr,rfl,qn⟩:=FrMon.parts fM
 clear fM
 obtain ⟨v_na,v_nac,rfl,-⟩:=(qn.read).1.form
 obtain ⟨v_nk,v_nkc,rfl,-⟩:=(qn.read).2.1.form
 obtain ⟨v_nr,v_nrc,rfl,-⟩:=(qn.read).2.2.form
 try dsimp only at qn ⊢
 have Gn:=Lib.hid (Fq.mono (S':=(fun b=>b≠B4∧b≠B5∧b≠PB∧b≠BPp∧b≠BN∧b≠BQ∧b≠BA∧True)) qn (fun b h1 _=>by have gbM:=ltbM.out;have gbY:=ltbY.out;have gbG:=ltbG.out;have gbP:=ltbP.out;have gbN:=ltbN.out;have gbQ:=ltbQ.out;have gbA:=ltbA.out;exact ⟨by omega,by omega,by omega,by omega,by omega,by omega,by omega,trivial⟩))
 clear qn ltbM ltbY ltbG ltbP ltbN ltbQ ltbA
 have bN_0 : World.cell? w1 ⟨BN,0,none⟩=some (.slice x1 m.mem.al.length y1):=bN.cell 0
 have bN_1 : World.cell? w1 ⟨BN,1,none⟩=some (.int .i64 m.mem.next):=bN.cell 1
 have bN_2 : World.cell? w1 ⟨BN,2,none⟩=some (.slice x2 m.stks.length y2):=bN.cell 2
 have bN_3 : World.cell? w1 ⟨BN,3,none⟩=some (.slice x3 m.run.length y3):=bN.cell 3
 have bN_4 : World.cell? w1 ⟨BN,4,none⟩=some (.int .i64 m.tag):=bN.cell 4
 have bN_5 : World.cell? w1 ⟨BN,5,none⟩=some (.int .i64 m.call):=bN.cell 5
 have bN_f0 : World.frozen? w1 ⟨BN,0,none⟩=false:=bN.frozen 0
 have bN_f1 : World.frozen? w1 ⟨BN,1,none⟩=false:=bN.frozen 1
 have bN_f2 : World.frozen? w1 ⟨BN,2,none⟩=false:=bN.frozen 2
 have bN_f3 : World.frozen? w1 ⟨BN,3,none⟩=false:=bN.frozen 3
 have bN_f4 : World.frozen? w1 ⟨BN,4,none⟩=false:=bN.frozen 4
 have bN_f5 : World.frozen? w1 ⟨BN,5,none⟩=false:=bN.frozen 5
 have bN_l:=bN.lt
 go_wp2_with fail
 clear bN_0 bN_1 bN_2 bN_3 bN_4 bN_5 bN_f0 bN_f1 bN_f2 bN_f3 bN_f4 bN_f5 bN_l
 have hS2:=(ExtBut.sc (ExtBut.sc (ExtBut.sc (ExtBut.sc (ExtBut.sc (ExtBut.sc (ExtBut.refl (fun b=>b=BN∨False) w1) (p:=⟨BN,0,none⟩) (u := .slice v_na x.mem.al.length v_nac) (.inl rfl)) (p:=⟨BN,1,none⟩) (u := .int .i64 x.mem.next) (.inl rfl)) (p:=⟨BN,2,none⟩) (u := .slice v_nk x.stks.length v_nkc) (.inl rfl)) (p:=⟨BN,3,none⟩) (u := .slice v_nr x.run.length v_nrc) (.inl rfl)) (p:=⟨BN,4,none⟩) (u := .int .i64 x.tag) (.inl rfl)) (p:=⟨BN,5,none⟩) (u := .int .i64 x.call) (.inl rfl))
 replace bN:=(Box.setL (Box.setL (Box.setL (Box.setL (Box.setL (Box.setL bN 0 (.slice v_na x.mem.al.length v_nac)) 1 (.int .i64 x.mem.next)) 2 (.slice v_nk x.stks.length v_nkc)) 3 (.slice v_nr x.run.length v_nrc)) 4 (.int .i64 x.tag)) 5 (.int .i64 x.call))
 simp only [List.set_cons_zero,List.set_cons_succ] at bN
 obtain ⟨w2s,hw2⟩ : ∃ z,(World.setCell (World.setCell (World.setCell (World.setCell (World.setCell (World.setCell w1 ⟨BN,0,none⟩ (.slice v_na x.mem.al.length v_nac)) ⟨BN,1,none⟩ (.int .i64 x.mem.next)) ⟨BN,2,none⟩ (.slice v_nk x.stks.length v_nkc)) ⟨BN,3,none⟩ (.slice v_nr x.run.length v_nrc)) ⟨BN,4,none⟩ (.int .i64 x.tag)) ⟨BN,5,none⟩ (.int .i64 x.call))=z:=⟨_,rfl⟩
 rw [hw2] at hS2 bN ⊢
 clear hw2
 replace hXt:=Lib.hid (hXt.out.trans (hS2.mono (fun b _ h=>by rcases h with h | h;exact .inl h;exact h.elim)))
 replace bM:=Box.but bM hS2 (fun h=>by rcases h with h | h;exact ne_bN_bM.out h.symm;exact h)
 replace bY:=Box.but bY hS2 (fun h=>by rcases h with h | h;exact ne_bN_bY.out h.symm;exact h)
 replace bG:=Pvb.but bG hS2 (fun h=>by rcases h with h | h;exact ne_bN_bG.out h.symm;exact h)
 replace bS:=Box.but bS hS2 (fun h=>by rcases h with h | h;exact ne_bN_bS.out h.symm;exact h)
 replace bP:=Box.but bP hS2 (fun h=>by rcases h with h | h;exact ne_bN_bP.out h.symm;exact h)
 replace bQ:=Box.but bQ hS2 (fun h=>by rcases h with h | h;exact ne_bN_bQ.out h.symm;exact h)
 replace bA:=Box.but bA hS2 (fun h=>by rcases h with h | h;exact ne_bN_bA.out h.symm;exact h)
 replace Gm:=Lib.hid (Fq.but Gm.out hS2 (fun b h _ h2=>by rcases h2 with h2 | h2;exact h.2.2.2.2.1 h2;exact h2))
 replace Gp:=Lib.hid (Fq.but Gp.out hS2 (fun b h _ h2=>by rcases h2 with h2 | h2;exact h.2.2.2.2.1 h2;exact h2))
 replace qL:=Lib.hid (Fq.but qL.out hS2 (fun b h _ h2=>by rcases h2 with h2 | h2;exact h.2.2.2.2.1 h2;exact h2))
 replace Gn:=Lib.hid (Fq.but Gn.out hS2 (fun b h _ h2=>by rcases h2 with h2 | h2;exact h.2.2.2.2.1 h2;exact h2))
 have hF3:=ExtBut.ext hF1 hS2 (fun b h=>by rcases h with h | h;(rw [h];exact lowbN.out);exact h.elim)
 clear hS2
 refine Met.intro ?_
 refine hJ ?_
 exact ⟨x,⟨0,0,0⟩,0,e,e,m.mem,⟨v_na,v_nac,v_nk,v_nkc,v_nr,v_nrc⟩,a5,c5,rfl,rfl,rfl,st.out,bN,bQ,bA,Gn.out,Gp.out,hXt.out⟩
set_option maxRecDepth 1000000 in
set_option maxHeartbeats 12800000 in
theorem steps_sw6 {wS w0 : World} {B4 B5 PB BS BPp BN BQ BA : Nat} {m : Mon} {k : Nat} {x1 x2 x3 a5 pva : Option Addr} {y1 y2 y3 c5 pvc : Nat} {ps : List Ptr} {s1 s2 s3 s4 pa po pt : Int} {lc : List Cell} {lb lo cl2 : Nat}
  {x_0 x_1 x_2 x_3 x_17 x_18 x_19 x_20 x_21 x_22 x_23 x_24 x_25 x_26 x_27 x_28 x_29 x_30 x_31 x_32 x_33 x_34 x_35 x_36 x_37 x_38 x_39 x_40 x_41 x_42 x_43 x_44 x_45 x_46 x_47 x_48 x_49 x_50 x_51 x_52 x_53 x_54 x_55 x_56 x_57 x_58 x_59 x_60 x_61 x_62 x_63 x_64 x_65 x_66 x_67 x_68 x_69 x_71 x_72 x_73 x_74 x_75 x_76 x_77 x_78 x_79 x_80 x_81 x_82 x_83 x_84 x_85 x_86 x_87 x_88 x_89 x_90 x_91 x_92 x_93 x_94 x_95 x_96 x_97 x_98 x_99 x_100 x_101 x_102 x_103 x_104 x_105 x_106 x_107 x_108 x_109 x_110 x_111 x_112 x_113 x_114 x_115 x_116 x_117 x_118 x_119 x_120 x_121 x_122 x_123 x_124 x_125 x_126 x_127 x_128 x_129 x_130 x_131 x_132 x_133 x_134 x_135 x_136 x_137 x_138 x_139 x_140 x_141 x_142 x_143 x_144 x_145 x_146 x_147 x_148 x_149 x_150 x_151 x_152 x_153 x_154 x_155 x_156 x_157 x_158 x_159 x_160 x_161 x_162 x_163 x_164 x_165 x_166 x_167 x_168 x_169 x_170 x_171 x_172 x_173 x_174 x_175 x_176 x_177 x_178 x_179 x_180 x_181 x_182 x_183 x_184 x_185 x_186 x_187 x_188 x_189 x_190 x_191 x_192 x_193 x_194 x_195 x_196 x_197 x_198 x_199 x_200 x_201 x_202 x_203 x_204 x_205 x_206 x_207 x_208 x_209 x_210 x_211 x_212 x_213 x_214 x_215 x_216 x_217 x_218 x_219 x_220 x_221 x_222 x_223 x_224 x_225 x_226 x_227 x_228 x_229 x_230 x_231 x_232 x_233 x_234 x_235 x_236 x_237 x_238 x_239 x_240 x_241 x_242 x_243 x_244 x_245 x_246 : Value} {J K : Act→World→Prop} {Q : Exit→Act→World→Prop}
  (hK : ∀ a w,Met J a w→K a w)
  (hJ : ∀ {v13 v14 v16 u28 u29 u30 u31 u32 u33 u34 u35 u36 u37 u38 u39 u40 u41 u42 u43 u44 u45 u46 u47 u48 u49 u50 u51 u52 u53 u54 u55 u56 u57 u58 u59 u60 u61 u62 u63 u64 u65 u66 u67 u68 u69 u70 u71 u72 u73 u74 u75 u76 u77 u78 u79 u80 u81 u82 u83 u84 u85 u86 u87 u88 u89 u90 u91 u92 u93 u94 u95 u96 u97 u98 u99 u100 u101 u102 u103 u104 u105 u106 u107 u108 u109 u110 u111 u112 u113 u114 u115 u116 u117 u118 u119 u120 u121 u122 u123 u124 u125 u126 u127 u128 u129 u130 u131 u132 u133 u134 u135 u136 u137 u138 u139 u140 u141 u142 u143 u144 u145 u146 u147 u148 u149 u150 u151 u152 u153 u154 u155 u156 u157 u158 u159 u160 u161 u162 u163 u164 u165 u166 u167 u168 u169 u170 u171 u172 u173 u174 u175 u176 u177 u178 u179 u180 u181 u182 u183 u184 u185 u186 u187 u188 u189 u190 u191 u192 u193 u194 u195 u196 u197 u198 u199 u200 u201 u202 u203 u204 u205 u206 u207 u208 u209 u210 u211 u212 u213 u214 u215 u216 u217 u218 u219 u220 u221 u222 u223 u224 u225 u226 u227 u228 u229 u230 u231 u232 u233 u234 u235 u236 u237 u238 u239 u240 u241 u242 u243 u244 u245 : Value} {wx : World},StepRes (fun b=>b≠B4∧b≠B5∧b≠PB∧b≠BPp∧b≠BN∧b≠BQ∧b≠BA∧True) (fun b=>b=BN∨b=BQ∨b=BA∨False) w0 BN BQ BA m k v13 v14 v16 wx→J ⟨#[x_0,x_1,x_2,x_3,.pointer (some ⟨B4,0,none⟩),.pointer (some ⟨B5,0,none⟩),.slice pva ps.length pvc,.int .i64 (k : Int),.pointer (some ⟨BS,0,none⟩),.pointer (some ⟨BPp,0,none⟩),.slice (some ⟨lb,lo,none⟩) lc.length cl2,.pointer (some ⟨BN,0,none⟩),.pointer (some ⟨BQ,0,none⟩),v13,v14,.pointer (some ⟨BA,0,none⟩),v16,x_17,x_18,x_19,x_20,x_21,x_22,x_23,x_24,x_25,x_26,x_27,u28,u29,u30,u31,u32,u33,u34,u35,u36,u37,u38,u39,u40,u41,u42,u43,u44,u45,u46,u47,u48,u49,u50,u51,u52,u53,u54,u55,u56,u57,u58,u59,u60,u61,u62,u63,u64,u65,u66,u67,u68,u69,u70,u71,u72,u73,u74,u75,u76,u77,u78,u79,u80,u81,u82,u83,u84,u85,u86,u87,u88,u89,u90,u91,u92,u93,u94,u95,u96,u97,u98,u99,u100,u101,u102,u103,u104,u105,u106,u107,u108,u109,u110,u111,u112,u113,u114,u115,u116,u117,u118,u119,u120,u121,u122,u123,u124,u125,u126,u127,u128,u129,u130,u131,u132,u133,u134,u135,u136,u137,u138,u139,u140,u141,u142,u143,u144,u145,u146,u147,u148,u149,u150,u151,u152,u153,u154,u155,u156,u157,u158,u159,u160,u161,u162,u163,u164,u165,u166,u167,u168,u169,u170,u171,u172,u173,u174,u175,u176,u177,u178,u179,u180,u181,u182,u183,u184,u185,u186,u187,u188,u189,u190,u191,u192,u193,u194,u195,u196,u197,u198,u199,u200,u201,u202,u203,u204,u205,u206,u207,u208,u209,u210,u211,u212,u213,u214,u215,u216,u217,u218,u219,u220,u221,u222,u223,u224,u225,u226,u227,u228,u229,u230,u231,u232,u233,u234,u235,u236,u237,u238,u239,u240,u241,u242,u243,u244,u245,x_246],[]⟩ wx)
  (hp : Hid (Perms wS))
  (hF0 : Ext wS w0)
  (hok : Hid (okMon m=true))
  (hfew : Hid (Few m k))
  (hk30 : Hid (k < 30))
  (ne_bN_bM : Hid (BN≠B4))
  (ne_bN_bY : Hid (BN≠B5))
  (ne_bN_bG : Hid (BN≠PB))
  (ne_bN_bS : Hid (BN≠BS))
  (ne_bN_bP : Hid (BN≠BPp))
  (ne_bN_bQ : Hid (BN≠BQ))
  (ne_bN_bA : Hid (BN≠BA))
  (ne_bQ_bM : Hid (BQ≠B4))
  (ne_bQ_bY : Hid (BQ≠B5))
  (ne_bQ_bG : Hid (BQ≠PB))
  (ne_bQ_bS : Hid (BQ≠BS))
  (ne_bQ_bP : Hid (BQ≠BPp))
  (ne_bQ_bN : Hid (BQ≠BN))
  (ne_bQ_bA : Hid (BQ≠BA))
  (ne_bA_bM : Hid (BA≠B4))
  (ne_bA_bY : Hid (BA≠B5))
  (ne_bA_bG : Hid (BA≠PB))
  (ne_bA_bS : Hid (BA≠BS))
  (ne_bA_bP : Hid (BA≠BPp))
  (ne_bA_bN : Hid (BA≠BN))
  (ne_bA_bQ : Hid (BA≠BQ))
  (lowbM : Hid (wS.heap.size≤B4))
  (lowbY : Hid (wS.heap.size≤B5))
  (lowbG : Hid (wS.heap.size≤PB))
  (lowbP : Hid (wS.heap.size≤BPp))
  (lowbN : Hid (wS.heap.size≤BN))
  (lowbQ : Hid (wS.heap.size≤BQ))
  (lowbA : Hid (wS.heap.size≤BA))
  (bM : Box w0 B4 30 #[.slice x1 m.mem.al.length y1,.int .i64 m.mem.next,.slice x2 m.stks.length y2,.slice x3 m.run.length y3,.int .i64 m.tag,.int .i64 m.call])
  (bY : Box w0 B5 26 #[.slice a5 m.mem.al.length c5,.int .i64 m.mem.next])
  (bG : Pvb w0 wS.heap.size PB (.slice pva ps.length pvc) ps)
  (bS : Box w0 BS 33 #[.int .i64 6,.int .i64 s1,.int .i64 s2,.int .i64 s3,.int .i64 s4])
  (bP : Box w0 BPp 35 #[.int .i64 pa,.int .i64 po,.int .i64 pt])
  (bN : Box w0 BN 30 #[.slice x1 m.mem.al.length y1,.int .i64 m.mem.next,.slice x2 m.stks.length y2,.slice x3 m.run.length y3,.int .i64 m.tag,.int .i64 m.call])
  (bQ : Box w0 BQ 35 #[.int .i64 0,.int .i64 0,.int .i64 0])
  (bA : Box w0 BA 26 #[.slice a5 m.mem.al.length c5,.int .i64 m.mem.next])
  (Gm : Hid (Fq (fun b=>b≠B4∧b≠B5∧b≠PB∧b≠BPp∧b≠BN∧b≠BQ∧b≠BA∧True) w0 (RdA m ⟨x1,y1,x2,y2,x3,y3⟩)))
  (Gp : Hid (Fq (fun b=>b≠B4∧b≠B5∧b≠PB∧b≠BPp∧b≠BN∧b≠BQ∧b≠BA∧True) w0 (fun w=>Als w (.slice a5 m.mem.al.length c5) m.mem.al)))
  (qL : Hid (Fq (fun b=>b≠B4∧b≠B5∧b≠PB∧b≠BPp∧b≠BN∧b≠BQ∧b≠BA∧True) w0 (fun w=>Cls w (.slice (some ⟨lb,lo,none⟩) lc.length cl2) lc))) :
  Code.wp Tryz.prog ((Tryz.f3.body.bind (findS (isSB 2))).getD .skip) (Exit.then K Q) ⟨#[x_0,x_1,x_2,x_3,.pointer (some ⟨B4,0,none⟩),.pointer (some ⟨B5,0,none⟩),.slice pva ps.length pvc,.int .i64 (k : Int),.pointer (some ⟨BS,0,none⟩),.pointer (some ⟨BPp,0,none⟩),.slice (some ⟨lb,lo,none⟩) lc.length cl2,.pointer (some ⟨BN,0,none⟩),.pointer (some ⟨BQ,0,none⟩),.int .u8 0,.int .i64 0,.pointer (some ⟨BA,0,none⟩),.int .i64 0,x_17,x_18,x_19,x_20,x_21,x_22,x_23,x_24,x_25,x_26,x_27,x_28,x_29,x_30,x_31,x_32,x_33,x_34,x_35,x_36,x_37,x_38,x_39,x_40,x_41,x_42,x_43,x_44,x_45,x_46,x_47,x_48,x_49,x_50,x_51,x_52,x_53,x_54,x_55,x_56,x_57,x_58,x_59,x_60,x_61,x_62,x_63,x_64,x_65,x_66,x_67,x_68,x_69,.int .i64 6,x_71,x_72,x_73,x_74,x_75,x_76,x_77,x_78,x_79,x_80,x_81,x_82,x_83,x_84,x_85,x_86,x_87,x_88,x_89,x_90,x_91,x_92,x_93,x_94,x_95,x_96,x_97,x_98,x_99,x_100,x_101,x_102,x_103,x_104,x_105,x_106,x_107,x_108,x_109,x_110,x_111,x_112,x_113,x_114,x_115,x_116,x_117,x_118,x_119,x_120,x_121,x_122,x_123,x_124,x_125,x_126,x_127,x_128,x_129,x_130,x_131,x_132,x_133,x_134,x_135,x_136,x_137,x_138,x_139,x_140,x_141,x_142,x_143,x_144,x_145,x_146,x_147,x_148,x_149,x_150,x_151,x_152,x_153,x_154,x_155,x_156,x_157,x_158,x_159,x_160,x_161,x_162,x_163,x_164,x_165,x_166,x_167,x_168,x_169,x_170,x_171,x_172,x_173,x_174,x_175,x_176,x_177,x_178,x_179,x_180,x_181,x_182,x_183,x_184,x_185,x_186,x_187,x_188,x_189,x_190,x_191,x_192,x_193,x_194,x_195,x_196,x_197,x_198,x_199,x_200,x_201,x_202,x_203,x_204,x_205,x_206,x_207,x_208,x_209,x_210,x_211,x_212,x_213,x_214,x_215,x_216,x_217,x_218,x_219,x_220,x_221,x_222,x_223,x_224,x_225,x_226,x_227,x_228,x_229,x_230,x_231,x_232,x_233,x_234,x_235,x_236,x_237,x_238,x_239,x_240,x_241,x_242,x_243,x_244,x_245,x_246],[]⟩ w0:=by
 conv=>arg 2;whnf
 have hXt:=Lib.hid (ExtBut.refl (fun b=>b=BN∨b=BQ∨b=BA∨False) w0)
 obtain ⟨⟨x,why,e⟩,h1⟩ : ∃ z,endM m pa=z:=⟨_,rfl⟩
 obtain ⟨⟨am,f⟩,h2⟩ : ∃ z,endR m.mem pa=z:=⟨_,rfl⟩
 have st:=Lib.hid (step_end hok.out hfew.out h1 h2)
 replace h1:=Lib.hid h1;replace h2:=Lib.hid h2
 obtain ⟨bM_0,bM_1,bM_2,bM_3,bM_4,bM_5,bM_l⟩:=bM.c6
 obtain ⟨bP_0,bP_1,bP_2,bP_l⟩:=bP.c3
 go_wp2_with fail
 clear bM_0 bM_1 bM_2 bM_3 bM_4 bM_5 bM_l bP_0 bP_1 bP_2 bP_l
 have ltbM:=Lib.hid bM.lt
 have ltbY:=Lib.hid bY.lt
 have ltbG:=Lib.hid bG.lt
 have ltbP:=Lib.hid bP.lt
 have ltbN:=Lib.hid bN.lt
 have ltbQ:=Lib.hid bQ.lt
 have ltbA:=Lib.hid bA.lt
 refine (monitor_End pa Gm.out.read.1 (i64_of_ok hok.out) Gm.out.read.2.1 Gm.out.read.2.2).mono ?_
 rintro e w1 ⟨vt,rfl,fM,hE1⟩
 replace hXt:=Lib.hid (hXt.out.trans (ExtBut.of_ext hE1))
 replace bM:=bM.ext hE1
 replace bY:=bY.ext hE1
 replace bG:=bG.ext hE1
 replace bS:=bS.ext hE1
 replace bP:=bP.ext hE1
 replace bN:=bN.ext hE1
 replace bQ:=bQ.ext hE1
 replace bA:=bA.ext hE1
 replace Gm:=Lib.hid (Fq.ext Gm.out hE1)
 replace Gp:=Lib.hid (Fq.ext Gp.out hE1)
 replace qL:=Lib.hid (Fq.ext qL.out hE1)
 have hF1:=Ext.trans hF0 hE1
 rw [h1.out] at fM ⊢
 try dsimp only [Ptr.val] at fM ⊢
 obtain ⟨nsa,nss,nsr,rfl,qn⟩:=FrMon.parts fM
 clear fM
 obtain ⟨v_na,v_nac,rfl,-⟩:=(qn.read).1.form
 obtain ⟨v_nk,v_nkc,rfl,-⟩:=(qn.read).2.1.form
 obtain ⟨v_nr,v_nrc,rfl,-⟩:=(qn.read).2.2.form
 try dsimp only at qn ⊢
 have Gn:=Lib.hid (Fq.mono (S':=(fun b=>b≠B4∧b≠B5∧b≠PB∧b≠BPp∧b≠BN∧b≠BQ∧b≠BA∧True)) qn (fun b h1 _=>by have gbM:=ltbM.out;have gbY:=ltbY.out;have gbG:=ltbG.out;have gbP:=ltbP.out;have gbN:=ltbN.out;have gbQ:=ltbQ.out;have gbA:=ltbA.out;exact ⟨by omega,by omega,by omega,by omega,by omega,by omega,by omega,trivial⟩))
 clear qn ltbM ltbY ltbG ltbP ltbN ltbQ ltbA
 have bN_0 : World.cell? w1 ⟨BN,0,none⟩=some (.slice x1 m.mem.al.length y1):=bN.cell 0
 have bN_1 : World.cell? w1 ⟨BN,1,none⟩=some (.int .i64 m.mem.next):=bN.cell 1
 have bN_2 : World.cell? w1 ⟨BN,2,none⟩=some (.slice x2 m.stks.length y2):=bN.cell 2
 have bN_3 : World.cell? w1 ⟨BN,3,none⟩=some (.slice x3 m.run.length y3):=bN.cell 3
 have bN_4 : World.cell? w1 ⟨BN,4,none⟩=some (.int .i64 m.tag):=bN.cell 4
 have bN_5 : World.cell? w1 ⟨BN,5,none⟩=some (.int .i64 m.call):=bN.cell 5
 have bN_f0 : World.frozen? w1 ⟨BN,0,none⟩=false:=bN.frozen 0
 have bN_f1 : World.frozen? w1 ⟨BN,1,none⟩=false:=bN.frozen 1
 have bN_f2 : World.frozen? w1 ⟨BN,2,none⟩=false:=bN.frozen 2
 have bN_f3 : World.frozen? w1 ⟨BN,3,none⟩=false:=bN.frozen 3
 have bN_f4 : World.frozen? w1 ⟨BN,4,none⟩=false:=bN.frozen 4
 have bN_f5 : World.frozen? w1 ⟨BN,5,none⟩=false:=bN.frozen 5
 have bN_l:=bN.lt
 go_upto_region 39 with fail
 clear bN_0 bN_1 bN_2 bN_3 bN_4 bN_5 bN_f0 bN_f1 bN_f2 bN_f3 bN_f4 bN_f5 bN_l
 have hS2:=(ExtBut.sc (ExtBut.sc (ExtBut.sc (ExtBut.sc (ExtBut.sc (ExtBut.sc (ExtBut.refl (fun b=>b=BN∨False) w1) (p:=⟨BN,0,none⟩) (u := .slice v_na x.mem.al.length v_nac) (.inl rfl)) (p:=⟨BN,1,none⟩) (u := .int .i64 x.mem.next) (.inl rfl)) (p:=⟨BN,2,none⟩) (u := .slice v_nk x.stks.length v_nkc) (.inl rfl)) (p:=⟨BN,3,none⟩) (u := .slice v_nr x.run.length v_nrc) (.inl rfl)) (p:=⟨BN,4,none⟩) (u := .int .i64 x.tag) (.inl rfl)) (p:=⟨BN,5,none⟩) (u := .int .i64 x.call) (.inl rfl))
 replace bN:=(Box.setL (Box.setL (Box.setL (Box.setL (Box.setL (Box.setL bN 0 (.slice v_na x.mem.al.length v_nac)) 1 (.int .i64 x.mem.next)) 2 (.slice v_nk x.stks.length v_nkc)) 3 (.slice v_nr x.run.length v_nrc)) 4 (.int .i64 x.tag)) 5 (.int .i64 x.call))
 simp only [List.set_cons_zero,List.set_cons_succ] at bN
 obtain ⟨w2s,hw2⟩ : ∃ z,(World.setCell (World.setCell (World.setCell (World.setCell (World.setCell (World.setCell w1 ⟨BN,0,none⟩ (.slice v_na x.mem.al.length v_nac)) ⟨BN,1,none⟩ (.int .i64 x.mem.next)) ⟨BN,2,none⟩ (.slice v_nk x.stks.length v_nkc)) ⟨BN,3,none⟩ (.slice v_nr x.run.length v_nrc)) ⟨BN,4,none⟩ (.int .i64 x.tag)) ⟨BN,5,none⟩ (.int .i64 x.call))=z:=⟨_,rfl⟩
 rw [hw2] at hS2 bN ⊢
 clear hw2
 replace hXt:=Lib.hid (hXt.out.trans (hS2.mono (fun b _ h=>by rcases h with h | h;exact .inl h;exact h.elim)))
 replace bM:=Box.but bM hS2 (fun h=>by rcases h with h | h;exact ne_bN_bM.out h.symm;exact h)
 replace bY:=Box.but bY hS2 (fun h=>by rcases h with h | h;exact ne_bN_bY.out h.symm;exact h)
 replace bG:=Pvb.but bG hS2 (fun h=>by rcases h with h | h;exact ne_bN_bG.out h.symm;exact h)
 replace bS:=Box.but bS hS2 (fun h=>by rcases h with h | h;exact ne_bN_bS.out h.symm;exact h)
 replace bP:=Box.but bP hS2 (fun h=>by rcases h with h | h;exact ne_bN_bP.out h.symm;exact h)
 replace bQ:=Box.but bQ hS2 (fun h=>by rcases h with h | h;exact ne_bN_bQ.out h.symm;exact h)
 replace bA:=Box.but bA hS2 (fun h=>by rcases h with h | h;exact ne_bN_bA.out h.symm;exact h)
 replace Gm:=Lib.hid (Fq.but Gm.out hS2 (fun b h _ h2=>by rcases h2 with h2 | h2;exact h.2.2.2.2.1 h2;exact h2))
 replace Gp:=Lib.hid (Fq.but Gp.out hS2 (fun b h _ h2=>by rcases h2 with h2 | h2;exact h.2.2.2.2.1 h2;exact h2))
 replace qL:=Lib.hid (Fq.but qL.out hS2 (fun b h _ h2=>by rcases h2 with h2 | h2;exact h.2.2.2.2.1 h2;exact h2))
 replace Gn:=Lib.hid (Fq.but Gn.out hS2 (fun b h _ h2=>by rcases h2 with h2 | h2;exact h.2.2.2.2.1 h2;exact h2))
 have hF3:=ExtBut.ext hF1 hS2 (fun b h=>by rcases h with h | h;(rw [h];exact lowbN.out);exact h.elim)
 clear hS2
 obtain ⟨bY_0,bY_1,bY_l⟩:=bY.c2
 obtain ⟨bP_0,bP_1,bP_2,bP_l⟩:=bP.c3
 go_wp2_with fail
 clear bY_0 bY_1 bY_l bP_0 bP_1 bP_2 bP_l
 have ltbM:=Lib.hid bM.lt
 have ltbY:=Lib.hid bY.lt
 have ltbG:=Lib.hid bG.lt
 have ltbP:=Lib.hid bP.lt
 have ltbN:=Lib.hid bN.lt
 have ltbQ:=Lib.hid bQ.lt
 have ltbA:=Lib.hid bA.lt
 refine (allocs_End (m:=m.mem) pa Gp.out.read (i64_of_ok hok.out)).mono ?_
 rintro e w4 ⟨v,rfl,fM,hE4⟩
 replace hXt:=Lib.hid (hXt.out.trans (ExtBut.of_ext hE4))
 replace bM:=bM.ext hE4
 replace bY:=bY.ext hE4
 replace bG:=bG.ext hE4
 replace bS:=bS.ext hE4
 replace bP:=bP.ext hE4
 replace bN:=bN.ext hE4
 replace bQ:=bQ.ext hE4
 replace bA:=bA.ext hE4
 replace Gm:=Lib.hid (Fq.ext Gm.out hE4)
 replace Gp:=Lib.hid (Fq.ext Gp.out hE4)
 replace qL:=Lib.hid (Fq.ext qL.out hE4)
 replace Gn:=Lib.hid (Fq.ext Gn.out hE4)
 have hF4:=Ext.trans hF3 hE4
 rw [h2.out] at fM ⊢
 obtain ⟨sy,rfl,hyz⟩:=FrM.fs fM
 clear fM
 have hvy:=hyz.read.form
 obtain ⟨yza,yzc,rfl,-⟩:=hvy
 dsimp only at hyz ⊢
 have Gz:=Lib.hid (Fq.mono (S':=(fun b=>b≠B4∧b≠B5∧b≠PB∧b≠BPp∧b≠BN∧b≠BQ∧b≠BA∧True)) hyz (fun b h1 _=>by have gbM:=ltbM.out;have gbY:=ltbY.out;have gbG:=ltbG.out;have gbP:=ltbP.out;have gbN:=ltbN.out;have gbQ:=ltbQ.out;have gbA:=ltbA.out;exact ⟨by omega,by omega,by omega,by omega,by omega,by omega,by omega,trivial⟩))
 clear hyz ltbM ltbY ltbG ltbP ltbN ltbQ ltbA
 have bA_0 : World.cell? w4 ⟨BA,0,none⟩=some (.slice a5 m.mem.al.length c5):=bA.cell 0
 have bA_1 : World.cell? w4 ⟨BA,1,none⟩=some (.int .i64 m.mem.next):=bA.cell 1
 have bA_f0 : World.frozen? w4 ⟨BA,0,none⟩=false:=bA.frozen 0
 have bA_f1 : World.frozen? w4 ⟨BA,1,none⟩=false:=bA.frozen 1
 have bA_l:=bA.lt
 go_wp2_with fail
 clear bA_0 bA_1 bA_f0 bA_f1 bA_l
 have hS5:=(ExtBut.sc (ExtBut.sc (ExtBut.refl (fun b=>b=BA∨False) w4) (p:=⟨BA,0,none⟩) (u := .slice yza am.al.length yzc) (.inl rfl)) (p:=⟨BA,1,none⟩) (u := .int .i64 am.next) (.inl rfl))
 replace bA:=(Box.setL (Box.setL bA 0 (.slice yza am.al.length yzc)) 1 (.int .i64 am.next))
 simp only [List.set_cons_zero,List.set_cons_succ] at bA
 obtain ⟨w5s,hw5⟩ : ∃ z,(World.setCell (World.setCell w4 ⟨BA,0,none⟩ (.slice yza am.al.length yzc)) ⟨BA,1,none⟩ (.int .i64 am.next))=z:=⟨_,rfl⟩
 rw [hw5] at hS5 bA ⊢
 clear hw5
 replace hXt:=Lib.hid (hXt.out.trans (hS5.mono (fun b _ h=>by rcases h with h | h;exact .inr (.inr (.inl h));exact h.elim)))
 replace bM:=Box.but bM hS5 (fun h=>by rcases h with h | h;exact ne_bA_bM.out h.symm;exact h)
 replace bY:=Box.but bY hS5 (fun h=>by rcases h with h | h;exact ne_bA_bY.out h.symm;exact h)
 replace bG:=Pvb.but bG hS5 (fun h=>by rcases h with h | h;exact ne_bA_bG.out h.symm;exact h)
 replace bS:=Box.but bS hS5 (fun h=>by rcases h with h | h;exact ne_bA_bS.out h.symm;exact h)
 replace bP:=Box.but bP hS5 (fun h=>by rcases h with h | h;exact ne_bA_bP.out h.symm;exact h)
 replace bN:=Box.but bN hS5 (fun h=>by rcases h with h | h;exact ne_bA_bN.out h.symm;exact h)
 replace bQ:=Box.but bQ hS5 (fun h=>by rcases h with h | h;exact ne_bA_bQ.out h.symm;exact h)
 replace Gm:=Lib.hid (Fq.but Gm.out hS5 (fun b h _ h2=>by rcases h2 with h2 | h2;exact h.2.2.2.2.2.2.1 h2;exact h2))
 replace Gp:=Lib.hid (Fq.but Gp.out hS5 (fun b h _ h2=>by rcases h2 with h2 | h2;exact h.2.2.2.2.2.2.1 h2;exact h2))
 replace qL:=Lib.hid (Fq.but qL.out hS5 (fun b h _ h2=>by rcases h2 with h2 | h2;exact h.2.2.2.2.2.2.1 h2;exact h2))
 replace Gn:=Lib.hid (Fq.but Gn.out hS5 (fun b h _ h2=>by rcases h2 with h2 | h2;exact h.2.2.2.2.2.2.1 h2;exact h2))
 replace Gz:=Lib.hid (Fq.but Gz.out hS5 (fun b h _ h2=>by rcases h2 with h2 | h2;exact h.2.2.2.2.2.2.1 h2;exact h2))
 have hF6:=ExtBut.ext hF4 hS5 (fun b h=>by rcases h with h | h;(rw [h];exact lowbA.out);exact h.elim)
 clear hS5
 refine Met.intro ?_
 refine hJ ?_
 exact ⟨x,⟨0,0,0⟩,why,e,f,am,⟨v_na,v_nac,v_nk,v_nkc,v_nr,v_nrc⟩,yza,yzc,rfl,rfl,rfl,st.out,bN,bQ,bA,Gn.out,Gz.out,hXt.out⟩
set_option maxRecDepth 1000000 in
set_option maxHeartbeats 12800000 in
theorem steps_sw7 {wS w0 : World} {B4 B5 PB BS BPp BN BQ BA : Nat} {m : Mon} {k : Nat} {x1 x2 x3 a5 pva : Option Addr} {y1 y2 y3 c5 pvc : Nat} {ps : List Ptr} {s1 s2 s3 s4 pa po pt : Int} {lc : List Cell} {lb lo cl2 : Nat}
  {x_0 x_1 x_2 x_3 x_17 x_18 x_19 x_20 x_21 x_22 x_23 x_24 x_25 x_26 x_27 x_28 x_29 x_30 x_31 x_32 x_33 x_34 x_35 x_36 x_37 x_38 x_39 x_40 x_41 x_42 x_43 x_44 x_45 x_46 x_47 x_48 x_49 x_50 x_51 x_52 x_53 x_54 x_55 x_56 x_57 x_58 x_59 x_60 x_61 x_62 x_63 x_64 x_65 x_66 x_67 x_68 x_69 x_71 x_72 x_73 x_74 x_75 x_76 x_77 x_78 x_79 x_80 x_81 x_82 x_83 x_84 x_85 x_86 x_87 x_88 x_89 x_90 x_91 x_92 x_93 x_94 x_95 x_96 x_97 x_98 x_99 x_100 x_101 x_102 x_103 x_104 x_105 x_106 x_107 x_108 x_109 x_110 x_111 x_112 x_113 x_114 x_115 x_116 x_117 x_118 x_119 x_120 x_121 x_122 x_123 x_124 x_125 x_126 x_127 x_128 x_129 x_130 x_131 x_132 x_133 x_134 x_135 x_136 x_137 x_138 x_139 x_140 x_141 x_142 x_143 x_144 x_145 x_146 x_147 x_148 x_149 x_150 x_151 x_152 x_153 x_154 x_155 x_156 x_157 x_158 x_159 x_160 x_161 x_162 x_163 x_164 x_165 x_166 x_167 x_168 x_169 x_170 x_171 x_172 x_173 x_174 x_175 x_176 x_177 x_178 x_179 x_180 x_181 x_182 x_183 x_184 x_185 x_186 x_187 x_188 x_189 x_190 x_191 x_192 x_193 x_194 x_195 x_196 x_197 x_198 x_199 x_200 x_201 x_202 x_203 x_204 x_205 x_206 x_207 x_208 x_209 x_210 x_211 x_212 x_213 x_214 x_215 x_216 x_217 x_218 x_219 x_220 x_221 x_222 x_223 x_224 x_225 x_226 x_227 x_228 x_229 x_230 x_231 x_232 x_233 x_234 x_235 x_236 x_237 x_238 x_239 x_240 x_241 x_242 x_243 x_244 x_245 x_246 : Value} {J K : Act→World→Prop} {Q : Exit→Act→World→Prop}
  (hK : ∀ a w,Met J a w→K a w)
  (hJ : ∀ {v13 v14 v16 u28 u29 u30 u31 u32 u33 u34 u35 u36 u37 u38 u39 u40 u41 u42 u43 u44 u45 u46 u47 u48 u49 u50 u51 u52 u53 u54 u55 u56 u57 u58 u59 u60 u61 u62 u63 u64 u65 u66 u67 u68 u69 u70 u71 u72 u73 u74 u75 u76 u77 u78 u79 u80 u81 u82 u83 u84 u85 u86 u87 u88 u89 u90 u91 u92 u93 u94 u95 u96 u97 u98 u99 u100 u101 u102 u103 u104 u105 u106 u107 u108 u109 u110 u111 u112 u113 u114 u115 u116 u117 u118 u119 u120 u121 u122 u123 u124 u125 u126 u127 u128 u129 u130 u131 u132 u133 u134 u135 u136 u137 u138 u139 u140 u141 u142 u143 u144 u145 u146 u147 u148 u149 u150 u151 u152 u153 u154 u155 u156 u157 u158 u159 u160 u161 u162 u163 u164 u165 u166 u167 u168 u169 u170 u171 u172 u173 u174 u175 u176 u177 u178 u179 u180 u181 u182 u183 u184 u185 u186 u187 u188 u189 u190 u191 u192 u193 u194 u195 u196 u197 u198 u199 u200 u201 u202 u203 u204 u205 u206 u207 u208 u209 u210 u211 u212 u213 u214 u215 u216 u217 u218 u219 u220 u221 u222 u223 u224 u225 u226 u227 u228 u229 u230 u231 u232 u233 u234 u235 u236 u237 u238 u239 u240 u241 u242 u243 u244 u245 : Value} {wx : World},StepRes (fun b=>b≠B4∧b≠B5∧b≠PB∧b≠BPp∧b≠BN∧b≠BQ∧b≠BA∧True) (fun b=>b=BN∨b=BQ∨b=BA∨False) w0 BN BQ BA m k v13 v14 v16 wx→J ⟨#[x_0,x_1,x_2,x_3,.pointer (some ⟨B4,0,none⟩),.pointer (some ⟨B5,0,none⟩),.slice pva ps.length pvc,.int .i64 (k : Int),.pointer (some ⟨BS,0,none⟩),.pointer (some ⟨BPp,0,none⟩),.slice (some ⟨lb,lo,none⟩) lc.length cl2,.pointer (some ⟨BN,0,none⟩),.pointer (some ⟨BQ,0,none⟩),v13,v14,.pointer (some ⟨BA,0,none⟩),v16,x_17,x_18,x_19,x_20,x_21,x_22,x_23,x_24,x_25,x_26,x_27,u28,u29,u30,u31,u32,u33,u34,u35,u36,u37,u38,u39,u40,u41,u42,u43,u44,u45,u46,u47,u48,u49,u50,u51,u52,u53,u54,u55,u56,u57,u58,u59,u60,u61,u62,u63,u64,u65,u66,u67,u68,u69,u70,u71,u72,u73,u74,u75,u76,u77,u78,u79,u80,u81,u82,u83,u84,u85,u86,u87,u88,u89,u90,u91,u92,u93,u94,u95,u96,u97,u98,u99,u100,u101,u102,u103,u104,u105,u106,u107,u108,u109,u110,u111,u112,u113,u114,u115,u116,u117,u118,u119,u120,u121,u122,u123,u124,u125,u126,u127,u128,u129,u130,u131,u132,u133,u134,u135,u136,u137,u138,u139,u140,u141,u142,u143,u144,u145,u146,u147,u148,u149,u150,u151,u152,u153,u154,u155,u156,u157,u158,u159,u160,u161,u162,u163,u164,u165,u166,u167,u168,u169,u170,u171,u172,u173,u174,u175,u176,u177,u178,u179,u180,u181,u182,u183,u184,u185,u186,u187,u188,u189,u190,u191,u192,u193,u194,u195,u196,u197,u198,u199,u200,u201,u202,u203,u204,u205,u206,u207,u208,u209,u210,u211,u212,u213,u214,u215,u216,u217,u218,u219,u220,u221,u222,u223,u224,u225,u226,u227,u228,u229,u230,u231,u232,u233,u234,u235,u236,u237,u238,u239,u240,u241,u242,u243,u244,u245,x_246],[]⟩ wx)
  (hp : Hid (Perms wS))
  (hF0 : Ext wS w0)
  (hok : Hid (okMon m=true))
  (hfew : Hid (Few m k))
  (hk30 : Hid (k < 30))
  (ne_bN_bM : Hid (BN≠B4))
  (ne_bN_bY : Hid (BN≠B5))
  (ne_bN_bG : Hid (BN≠PB))
  (ne_bN_bS : Hid (BN≠BS))
  (ne_bN_bP : Hid (BN≠BPp))
  (ne_bN_bQ : Hid (BN≠BQ))
  (ne_bN_bA : Hid (BN≠BA))
  (ne_bQ_bM : Hid (BQ≠B4))
  (ne_bQ_bY : Hid (BQ≠B5))
  (ne_bQ_bG : Hid (BQ≠PB))
  (ne_bQ_bS : Hid (BQ≠BS))
  (ne_bQ_bP : Hid (BQ≠BPp))
  (ne_bQ_bN : Hid (BQ≠BN))
  (ne_bQ_bA : Hid (BQ≠BA))
  (ne_bA_bM : Hid (BA≠B4))
  (ne_bA_bY : Hid (BA≠B5))
  (ne_bA_bG : Hid (BA≠PB))
  (ne_bA_bS : Hid (BA≠BS))
  (ne_bA_bP : Hid (BA≠BPp))
  (ne_bA_bN : Hid (BA≠BN))
  (ne_bA_bQ : Hid (BA≠BQ))
  (lowbM : Hid (wS.heap.size≤B4))
  (lowbY : Hid (wS.heap.size≤B5))
  (lowbG : Hid (wS.heap.size≤PB))
  (lowbP : Hid (wS.heap.size≤BPp))
  (lowbN : Hid (wS.heap.size≤BN))
  (lowbQ : Hid (wS.heap.size≤BQ))
  (lowbA : Hid (wS.heap.size≤BA))
  (bM : Box w0 B4 30 #[.slice x1 m.mem.al.length y1,.int .i64 m.mem.next,.slice x2 m.stks.length y2,.slice x3 m.run.length y3,.int .i64 m.tag,.int .i64 m.call])
  (bY : Box w0 B5 26 #[.slice a5 m.mem.al.length c5,.int .i64 m.mem.next])
  (bG : Pvb w0 wS.heap.size PB (.slice pva ps.length pvc) ps)
  (bS : Box w0 BS 33 #[.int .i64 7,.int .i64 s1,.int .i64 s2,.int .i64 s3,.int .i64 s4])
  (bP : Box w0 BPp 35 #[.int .i64 pa,.int .i64 po,.int .i64 pt])
  (bN : Box w0 BN 30 #[.slice x1 m.mem.al.length y1,.int .i64 m.mem.next,.slice x2 m.stks.length y2,.slice x3 m.run.length y3,.int .i64 m.tag,.int .i64 m.call])
  (bQ : Box w0 BQ 35 #[.int .i64 0,.int .i64 0,.int .i64 0])
  (bA : Box w0 BA 26 #[.slice a5 m.mem.al.length c5,.int .i64 m.mem.next])
  (Gm : Hid (Fq (fun b=>b≠B4∧b≠B5∧b≠PB∧b≠BPp∧b≠BN∧b≠BQ∧b≠BA∧True) w0 (RdA m ⟨x1,y1,x2,y2,x3,y3⟩)))
  (Gp : Hid (Fq (fun b=>b≠B4∧b≠B5∧b≠PB∧b≠BPp∧b≠BN∧b≠BQ∧b≠BA∧True) w0 (fun w=>Als w (.slice a5 m.mem.al.length c5) m.mem.al)))
  (qL : Hid (Fq (fun b=>b≠B4∧b≠B5∧b≠PB∧b≠BPp∧b≠BN∧b≠BQ∧b≠BA∧True) w0 (fun w=>Cls w (.slice (some ⟨lb,lo,none⟩) lc.length cl2) lc))) :
  Code.wp Tryz.prog ((Tryz.f3.body.bind (findS (isSB 2))).getD .skip) (Exit.then K Q) ⟨#[x_0,x_1,x_2,x_3,.pointer (some ⟨B4,0,none⟩),.pointer (some ⟨B5,0,none⟩),.slice pva ps.length pvc,.int .i64 (k : Int),.pointer (some ⟨BS,0,none⟩),.pointer (some ⟨BPp,0,none⟩),.slice (some ⟨lb,lo,none⟩) lc.length cl2,.pointer (some ⟨BN,0,none⟩),.pointer (some ⟨BQ,0,none⟩),.int .u8 0,.int .i64 0,.pointer (some ⟨BA,0,none⟩),.int .i64 0,x_17,x_18,x_19,x_20,x_21,x_22,x_23,x_24,x_25,x_26,x_27,x_28,x_29,x_30,x_31,x_32,x_33,x_34,x_35,x_36,x_37,x_38,x_39,x_40,x_41,x_42,x_43,x_44,x_45,x_46,x_47,x_48,x_49,x_50,x_51,x_52,x_53,x_54,x_55,x_56,x_57,x_58,x_59,x_60,x_61,x_62,x_63,x_64,x_65,x_66,x_67,x_68,x_69,.int .i64 7,x_71,x_72,x_73,x_74,x_75,x_76,x_77,x_78,x_79,x_80,x_81,x_82,x_83,x_84,x_85,x_86,x_87,x_88,x_89,x_90,x_91,x_92,x_93,x_94,x_95,x_96,x_97,x_98,x_99,x_100,x_101,x_102,x_103,x_104,x_105,x_106,x_107,x_108,x_109,x_110,x_111,x_112,x_113,x_114,x_115,x_116,x_117,x_118,x_119,x_120,x_121,x_122,x_123,x_124,x_125,x_126,x_127,x_128,x_129,x_130,x_131,x_132,x_133,x_134,x_135,x_136,x_137,x_138,x_139,x_140,x_141,x_142,x_143,x_144,x_145,x_146,x_147,x_148,x_149,x_150,x_151,x_152,x_153,x_154,x_155,x_156,x_157,x_158,x_159,x_160,x_161,x_162,x_163,x_164,x_165,x_166,x_167,x_168,x_169,x_170,x_171,x_172,x_173,x_174,x_175,x_176,x_177,x_178,x_179,x_180,x_181,x_182,x_183,x_184,x_185,x_186,x_187,x_188,x_189,x_190,x_191,x_192,x_193,x_194,x_195,x_196,x_197,x_198,x_199,x_200,x_201,x_202,x_203,x_204,x_205,x_206,x_207,x_208,x_209,x_210,x_211,x_212,x_213,x_214,x_215,x_216,x_217,x_218,x_219,x_220,x_221,x_222,x_223,x_224,x_225,x_226,x_227,x_228,x_229,x_230,x_231,x_232,x_233,x_234,x_235,x_236,x_237,x_238,x_239,x_240,x_241,x_242,x_243,x_244,x_245,x_246],[]⟩ w0:=by
 conv=>arg 2;whnf
 have hXt:=Lib.hid (ExtBut.refl (fun b=>b=BN∨b=BQ∨b=BA∨False) w0)
 obtain ⟨⟨x,e⟩,h1⟩ : ∃ z,forgetM m=z:=⟨_,rfl⟩
 obtain ⟨⟨am,f⟩,h2⟩ : ∃ z,forgetR m.mem=z:=⟨_,rfl⟩
 have st:=Lib.hid (step_forget hok.out hfew.out h1 h2)
 replace h1:=Lib.hid h1;replace h2:=Lib.hid h2
 obtain ⟨bM_0,bM_1,bM_2,bM_3,bM_4,bM_5,bM_l⟩:=bM.c6
 go_wp2_with fail
 clear bM_0 bM_1 bM_2 bM_3 bM_4 bM_5 bM_l
 have ltbM:=Lib.hid bM.lt
 have ltbY:=Lib.hid bY.lt
 have ltbG:=Lib.hid bG.lt
 have ltbP:=Lib.hid bP.lt
 have ltbN:=Lib.hid bN.lt
 have ltbQ:=Lib.hid bQ.lt
 have ltbA:=Lib.hid bA.lt
 refine (monitor_Forget Gm.out.read.1 (i64_of_ok hok.out) Gm.out.read.2.1 Gm.out.read.2.2).mono ?_
 rintro e w1 ⟨vt,rfl,fM,hE1⟩
 replace hXt:=Lib.hid (hXt.out.trans (ExtBut.of_ext hE1))
 replace bM:=bM.ext hE1
 replace bY:=bY.ext hE1
 replace bG:=bG.ext hE1
 replace bS:=bS.ext hE1
 replace bP:=bP.ext hE1
 replace bN:=bN.ext hE1
 replace bQ:=bQ.ext hE1
 replace bA:=bA.ext hE1
 replace Gm:=Lib.hid (Fq.ext Gm.out hE1)
 replace Gp:=Lib.hid (Fq.ext Gp.out hE1)
 replace qL:=Lib.hid (Fq.ext qL.out hE1)
 have hF1:=Ext.trans hF0 hE1
 rw [h1.out] at fM ⊢
 try dsimp only [Ptr.val] at fM ⊢
 obtain ⟨nsa,nss,nsr,rfl,qn⟩:=FrMon.parts fM
 clear fM
 obtain ⟨v_na,v_nac,rfl,-⟩:=(qn.read).1.form
 obtain ⟨v_nk,v_nkc,rfl,-⟩:=(qn.read).2.1.form
 obtain ⟨v_nr,v_nrc,rfl,-⟩:=(qn.read).2.2.form
 try dsimp only at qn ⊢
 have Gn:=Lib.hid (Fq.mono (S':=(fun b=>b≠B4∧b≠B5∧b≠PB∧b≠BPp∧b≠BN∧b≠BQ∧b≠BA∧True)) qn (fun b h1 _=>by have gbM:=ltbM.out;have gbY:=ltbY.out;have gbG:=ltbG.out;have gbP:=ltbP.out;have gbN:=ltbN.out;have gbQ:=ltbQ.out;have gbA:=ltbA.out;exact ⟨by omega,by omega,by omega,by omega,by omega,by omega,by omega,trivial⟩))
 clear qn ltbM ltbY ltbG ltbP ltbN ltbQ ltbA
 have bN_0 : World.cell? w1 ⟨BN,0,none⟩=some (.slice x1 m.mem.al.length y1):=bN.cell 0
 have bN_1 : World.cell? w1 ⟨BN,1,none⟩=some (.int .i64 m.mem.next):=bN.cell 1
 have bN_2 : World.cell? w1 ⟨BN,2,none⟩=some (.slice x2 m.stks.length y2):=bN.cell 2
 have bN_3 : World.cell? w1 ⟨BN,3,none⟩=some (.slice x3 m.run.length y3):=bN.cell 3
 have bN_4 : World.cell? w1 ⟨BN,4,none⟩=some (.int .i64 m.tag):=bN.cell 4
 have bN_5 : World.cell? w1 ⟨BN,5,none⟩=some (.int .i64 m.call):=bN.cell 5
 have bN_f0 : World.frozen? w1 ⟨BN,0,none⟩=false:=bN.frozen 0
 have bN_f1 : World.frozen? w1 ⟨BN,1,none⟩=false:=bN.frozen 1
 have bN_f2 : World.frozen? w1 ⟨BN,2,none⟩=false:=bN.frozen 2
 have bN_f3 : World.frozen? w1 ⟨BN,3,none⟩=false:=bN.frozen 3
 have bN_f4 : World.frozen? w1 ⟨BN,4,none⟩=false:=bN.frozen 4
 have bN_f5 : World.frozen? w1 ⟨BN,5,none⟩=false:=bN.frozen 5
 have bN_l:=bN.lt
 go_upto_region 42 with fail
 clear bN_0 bN_1 bN_2 bN_3 bN_4 bN_5 bN_f0 bN_f1 bN_f2 bN_f3 bN_f4 bN_f5 bN_l
 have hS2:=(ExtBut.sc (ExtBut.sc (ExtBut.sc (ExtBut.sc (ExtBut.sc (ExtBut.sc (ExtBut.refl (fun b=>b=BN∨False) w1) (p:=⟨BN,0,none⟩) (u := .slice v_na x.mem.al.length v_nac) (.inl rfl)) (p:=⟨BN,1,none⟩) (u := .int .i64 x.mem.next) (.inl rfl)) (p:=⟨BN,2,none⟩) (u := .slice v_nk x.stks.length v_nkc) (.inl rfl)) (p:=⟨BN,3,none⟩) (u := .slice v_nr x.run.length v_nrc) (.inl rfl)) (p:=⟨BN,4,none⟩) (u := .int .i64 x.tag) (.inl rfl)) (p:=⟨BN,5,none⟩) (u := .int .i64 x.call) (.inl rfl))
 replace bN:=(Box.setL (Box.setL (Box.setL (Box.setL (Box.setL (Box.setL bN 0 (.slice v_na x.mem.al.length v_nac)) 1 (.int .i64 x.mem.next)) 2 (.slice v_nk x.stks.length v_nkc)) 3 (.slice v_nr x.run.length v_nrc)) 4 (.int .i64 x.tag)) 5 (.int .i64 x.call))
 simp only [List.set_cons_zero,List.set_cons_succ] at bN
 obtain ⟨w2s,hw2⟩ : ∃ z,(World.setCell (World.setCell (World.setCell (World.setCell (World.setCell (World.setCell w1 ⟨BN,0,none⟩ (.slice v_na x.mem.al.length v_nac)) ⟨BN,1,none⟩ (.int .i64 x.mem.next)) ⟨BN,2,none⟩ (.slice v_nk x.stks.length v_nkc)) ⟨BN,3,none⟩ (.slice v_nr x.run.length v_nrc)) ⟨BN,4,none⟩ (.int .i64 x.tag)) ⟨BN,5,none⟩ (.int .i64 x.call))=z:=⟨_,rfl⟩
 rw [hw2] at hS2 bN ⊢
 clear hw2
 replace hXt:=Lib.hid (hXt.out.trans (hS2.mono (fun b _ h=>by rcases h with h | h;exact .inl h;exact h.elim)))
 replace bM:=Box.but bM hS2 (fun h=>by rcases h with h | h;exact ne_bN_bM.out h.symm;exact h)
 replace bY:=Box.but bY hS2 (fun h=>by rcases h with h | h;exact ne_bN_bY.out h.symm;exact h)
 replace bG:=Pvb.but bG hS2 (fun h=>by rcases h with h | h;exact ne_bN_bG.out h.symm;exact h)
 replace bS:=Box.but bS hS2 (fun h=>by rcases h with h | h;exact ne_bN_bS.out h.symm;exact h)
 replace bP:=Box.but bP hS2 (fun h=>by rcases h with h | h;exact ne_bN_bP.out h.symm;exact h)
 replace bQ:=Box.but bQ hS2 (fun h=>by rcases h with h | h;exact ne_bN_bQ.out h.symm;exact h)
 replace bA:=Box.but bA hS2 (fun h=>by rcases h with h | h;exact ne_bN_bA.out h.symm;exact h)
 replace Gm:=Lib.hid (Fq.but Gm.out hS2 (fun b h _ h2=>by rcases h2 with h2 | h2;exact h.2.2.2.2.1 h2;exact h2))
 replace Gp:=Lib.hid (Fq.but Gp.out hS2 (fun b h _ h2=>by rcases h2 with h2 | h2;exact h.2.2.2.2.1 h2;exact h2))
 replace qL:=Lib.hid (Fq.but qL.out hS2 (fun b h _ h2=>by rcases h2 with h2 | h2;exact h.2.2.2.2.1 h2;exact h2))
 replace Gn:=Lib.hid (Fq.but Gn.out hS2 (fun b h _ h2=>by rcases h2 with h2 | h2;exact h.2.2.2.2.1 h2;exact h2))
 have hF3:=ExtBut.ext hF1 hS2 (fun b h=>by rcases h with h | h;(rw [h];exact lowbN.out);exact h.elim)
 clear hS2
 obtain ⟨bY_0,bY_1,bY_l⟩:=bY.c2
 go_wp2_with fail
 clear bY_0 bY_1 bY_l
 have ltbM:=Lib.hid bM.lt
 have ltbY:=Lib.hid bY.lt
 have ltbG:=Lib.hid bG.lt
 have ltbP:=Lib.hid bP.lt
 have ltbN:=Lib.hid bN.lt
 have ltbQ:=Lib.hid bQ.lt
 have ltbA:=Lib.hid bA.lt
 refine (allocs_Forget (m:=m.mem) Gp.out.read (i64_of_ok hok.out)).mono ?_
 rintro e w4 ⟨v,rfl,fM,hE4⟩
 replace hXt:=Lib.hid (hXt.out.trans (ExtBut.of_ext hE4))
 replace bM:=bM.ext hE4
 replace bY:=bY.ext hE4
 replace bG:=bG.ext hE4
 replace bS:=bS.ext hE4
 replace bP:=bP.ext hE4
 replace bN:=bN.ext hE4
 replace bQ:=bQ.ext hE4
 replace bA:=bA.ext hE4
 replace Gm:=Lib.hid (Fq.ext Gm.out hE4)
 replace Gp:=Lib.hid (Fq.ext Gp.out hE4)
 replace qL:=Lib.hid (Fq.ext qL.out hE4)
 replace Gn:=Lib.hid (Fq.ext Gn.out hE4)
 have hF4:=Ext.trans hF3 hE4
 rw [h2.out] at fM ⊢
 obtain ⟨sy,rfl,hyz⟩:=FrM.fs fM
 clear fM
 have hvy:=hyz.read.form
 obtain ⟨yza,yzc,rfl,-⟩:=hvy
 dsimp only at hyz ⊢
 have Gz:=Lib.hid (Fq.mono (S':=(fun b=>b≠B4∧b≠B5∧b≠PB∧b≠BPp∧b≠BN∧b≠BQ∧b≠BA∧True)) hyz (fun b h1 _=>by have gbM:=ltbM.out;have gbY:=ltbY.out;have gbG:=ltbG.out;have gbP:=ltbP.out;have gbN:=ltbN.out;have gbQ:=ltbQ.out;have gbA:=ltbA.out;exact ⟨by omega,by omega,by omega,by omega,by omega,by omega,by omega,trivial⟩))
 clear hyz ltbM ltbY ltbG ltbP ltbN ltbQ ltbA
 have bA_0 : World.cell? w4 ⟨BA,0,none⟩=some (.slice a5 m.mem.al.length c5):=bA.cell 0
 have bA_1 : World.cell? w4 ⟨BA,1,none⟩=some (.int .i64 m.mem.next):=bA.cell 1
 have bA_f0 : World.frozen? w4 ⟨BA,0,none⟩=false:=bA.frozen 0
 have bA_f1 : World.frozen? w4 ⟨BA,1,none⟩=false:=bA.frozen 1
 have bA_l:=bA.lt
 go_wp2_with fail
 clear bA_0 bA_1 bA_f0 bA_f1 bA_l
 have hS5:=(ExtBut.sc (ExtBut.sc (ExtBut.refl (fun b=>b=BA∨False) w4) (p:=⟨BA,0,none⟩) (u := .slice yza am.al.length yzc) (.inl rfl)) (p:=⟨BA,1,none⟩) (u := .int .i64 am.next) (.inl rfl))
 replace bA:=(Box.setL (Box.setL bA 0 (.slice yza am.al.length yzc)) 1 (.int .i64 am.next))
 simp only [List.set_cons_zero,List.set_cons_succ] at bA
 obtain ⟨w5s,hw5⟩ : ∃ z,(World.setCell (World.setCell w4 ⟨BA,0,none⟩ (.slice yza am.al.length yzc)) ⟨BA,1,none⟩ (.int .i64 am.next))=z:=⟨_,rfl⟩
 rw [hw5] at hS5 bA ⊢
 clear hw5
 replace hXt:=Lib.hid (hXt.out.trans (hS5.mono (fun b _ h=>by rcases h with h | h;exact .inr (.inr (.inl h));exact h.elim)))
 replace bM:=Box.but bM hS5 (fun h=>by rcases h with h | h;exact ne_bA_bM.out h.symm;exact h)
 replace bY:=Box.but bY hS5 (fun h=>by rcases h with h | h;exact ne_bA_bY.out h.symm;exact h)
 replace bG:=Pvb.but bG hS5 (fun h=>by rcases h with h | h;exact ne_bA_bG.out h.symm;exact h)
 replace bS:=Box.but bS hS5 (fun h=>by rcases h with h | h;exact ne_bA_bS.out h.symm;exact h)
 replace bP:=Box.but bP hS5 (fun h=>by rcases h with h | h;exact ne_bA_bP.out h.symm;exact h)
 replace bN:=Box.but bN hS5 (fun h=>by rcases h with h | h;exact ne_bA_bN.out h.symm;exact h)
 replace bQ:=Box.but bQ hS5 (fun h=>by rcases h with h | h;exact ne_bA_bQ.out h.symm;exact h)
 replace Gm:=Lib.hid (Fq.but Gm.out hS5 (fun b h _ h2=>by rcases h2 with h2 | h2;exact h.2.2.2.2.2.2.1 h2;exact h2))
 replace Gp:=Lib.hid (Fq.but Gp.out hS5 (fun b h _ h2=>by rcases h2 with h2 | h2;exact h.2.2.2.2.2.2.1 h2;exact h2))
 replace qL:=Lib.hid (Fq.but qL.out hS5 (fun b h _ h2=>by rcases h2 with h2 | h2;exact h.2.2.2.2.2.2.1 h2;exact h2))
 replace Gn:=Lib.hid (Fq.but Gn.out hS5 (fun b h _ h2=>by rcases h2 with h2 | h2;exact h.2.2.2.2.2.2.1 h2;exact h2))
 replace Gz:=Lib.hid (Fq.but Gz.out hS5 (fun b h _ h2=>by rcases h2 with h2 | h2;exact h.2.2.2.2.2.2.1 h2;exact h2))
 have hF6:=ExtBut.ext hF4 hS5 (fun b h=>by rcases h with h | h;(rw [h];exact lowbA.out);exact h.elim)
 clear hS5
 refine Met.intro ?_
 refine hJ ?_
 exact ⟨x,⟨0,0,0⟩,0,e,f,am,⟨v_na,v_nac,v_nk,v_nkc,v_nr,v_nrc⟩,yza,yzc,rfl,rfl,rfl,st.out,bN,bQ,bA,Gn.out,Gz.out,hXt.out⟩
set_option maxRecDepth 1000000 in
set_option maxHeartbeats 12800000 in
theorem steps_switch {wS w0 : World} {B4 B5 PB BS BPp BN BQ BA : Nat} {m : Mon} {k : Nat} {x1 x2 x3 a5 pva : Option Addr} {y1 y2 y3 c5 pvc : Nat} {ps : List Ptr} {s0 s1 s2 s3 s4 pa po pt : Int} {lc : List Cell} {lb lo cl2 : Nat}
  {x_0 x_1 x_2 x_3 x_17 x_18 x_19 x_20 x_21 x_22 x_23 x_24 x_25 x_26 x_27 x_28 x_29 x_30 x_31 x_32 x_33 x_34 x_35 x_36 x_37 x_38 x_39 x_40 x_41 x_42 x_43 x_44 x_45 x_46 x_47 x_48 x_49 x_50 x_51 x_52 x_53 x_54 x_55 x_56 x_57 x_58 x_59 x_60 x_61 x_62 x_63 x_64 x_65 x_66 x_67 x_68 x_69 x_71 x_72 x_73 x_74 x_75 x_76 x_77 x_78 x_79 x_80 x_81 x_82 x_83 x_84 x_85 x_86 x_87 x_88 x_89 x_90 x_91 x_92 x_93 x_94 x_95 x_96 x_97 x_98 x_99 x_100 x_101 x_102 x_103 x_104 x_105 x_106 x_107 x_108 x_109 x_110 x_111 x_112 x_113 x_114 x_115 x_116 x_117 x_118 x_119 x_120 x_121 x_122 x_123 x_124 x_125 x_126 x_127 x_128 x_129 x_130 x_131 x_132 x_133 x_134 x_135 x_136 x_137 x_138 x_139 x_140 x_141 x_142 x_143 x_144 x_145 x_146 x_147 x_148 x_149 x_150 x_151 x_152 x_153 x_154 x_155 x_156 x_157 x_158 x_159 x_160 x_161 x_162 x_163 x_164 x_165 x_166 x_167 x_168 x_169 x_170 x_171 x_172 x_173 x_174 x_175 x_176 x_177 x_178 x_179 x_180 x_181 x_182 x_183 x_184 x_185 x_186 x_187 x_188 x_189 x_190 x_191 x_192 x_193 x_194 x_195 x_196 x_197 x_198 x_199 x_200 x_201 x_202 x_203 x_204 x_205 x_206 x_207 x_208 x_209 x_210 x_211 x_212 x_213 x_214 x_215 x_216 x_217 x_218 x_219 x_220 x_221 x_222 x_223 x_224 x_225 x_226 x_227 x_228 x_229 x_230 x_231 x_232 x_233 x_234 x_235 x_236 x_237 x_238 x_239 x_240 x_241 x_242 x_243 x_244 x_245 x_246 : Value} {J K : Act→World→Prop} {Q : Exit→Act→World→Prop}
  (hdef : Hid (isStep s0))
  (hK : ∀ a w,Met J a w→K a w)
  (hJ : ∀ {v13 v14 v16 u28 u29 u30 u31 u32 u33 u34 u35 u36 u37 u38 u39 u40 u41 u42 u43 u44 u45 u46 u47 u48 u49 u50 u51 u52 u53 u54 u55 u56 u57 u58 u59 u60 u61 u62 u63 u64 u65 u66 u67 u68 u69 u70 u71 u72 u73 u74 u75 u76 u77 u78 u79 u80 u81 u82 u83 u84 u85 u86 u87 u88 u89 u90 u91 u92 u93 u94 u95 u96 u97 u98 u99 u100 u101 u102 u103 u104 u105 u106 u107 u108 u109 u110 u111 u112 u113 u114 u115 u116 u117 u118 u119 u120 u121 u122 u123 u124 u125 u126 u127 u128 u129 u130 u131 u132 u133 u134 u135 u136 u137 u138 u139 u140 u141 u142 u143 u144 u145 u146 u147 u148 u149 u150 u151 u152 u153 u154 u155 u156 u157 u158 u159 u160 u161 u162 u163 u164 u165 u166 u167 u168 u169 u170 u171 u172 u173 u174 u175 u176 u177 u178 u179 u180 u181 u182 u183 u184 u185 u186 u187 u188 u189 u190 u191 u192 u193 u194 u195 u196 u197 u198 u199 u200 u201 u202 u203 u204 u205 u206 u207 u208 u209 u210 u211 u212 u213 u214 u215 u216 u217 u218 u219 u220 u221 u222 u223 u224 u225 u226 u227 u228 u229 u230 u231 u232 u233 u234 u235 u236 u237 u238 u239 u240 u241 u242 u243 u244 u245 : Value} {wx : World},StepRes (fun b=>b≠B4∧b≠B5∧b≠PB∧b≠BPp∧b≠BN∧b≠BQ∧b≠BA∧True) (fun b=>b=BN∨b=BQ∨b=BA∨False) w0 BN BQ BA m k v13 v14 v16 wx→J ⟨#[x_0,x_1,x_2,x_3,.pointer (some ⟨B4,0,none⟩),.pointer (some ⟨B5,0,none⟩),.slice pva ps.length pvc,.int .i64 (k : Int),.pointer (some ⟨BS,0,none⟩),.pointer (some ⟨BPp,0,none⟩),.slice (some ⟨lb,lo,none⟩) lc.length cl2,.pointer (some ⟨BN,0,none⟩),.pointer (some ⟨BQ,0,none⟩),v13,v14,.pointer (some ⟨BA,0,none⟩),v16,x_17,x_18,x_19,x_20,x_21,x_22,x_23,x_24,x_25,x_26,x_27,u28,u29,u30,u31,u32,u33,u34,u35,u36,u37,u38,u39,u40,u41,u42,u43,u44,u45,u46,u47,u48,u49,u50,u51,u52,u53,u54,u55,u56,u57,u58,u59,u60,u61,u62,u63,u64,u65,u66,u67,u68,u69,u70,u71,u72,u73,u74,u75,u76,u77,u78,u79,u80,u81,u82,u83,u84,u85,u86,u87,u88,u89,u90,u91,u92,u93,u94,u95,u96,u97,u98,u99,u100,u101,u102,u103,u104,u105,u106,u107,u108,u109,u110,u111,u112,u113,u114,u115,u116,u117,u118,u119,u120,u121,u122,u123,u124,u125,u126,u127,u128,u129,u130,u131,u132,u133,u134,u135,u136,u137,u138,u139,u140,u141,u142,u143,u144,u145,u146,u147,u148,u149,u150,u151,u152,u153,u154,u155,u156,u157,u158,u159,u160,u161,u162,u163,u164,u165,u166,u167,u168,u169,u170,u171,u172,u173,u174,u175,u176,u177,u178,u179,u180,u181,u182,u183,u184,u185,u186,u187,u188,u189,u190,u191,u192,u193,u194,u195,u196,u197,u198,u199,u200,u201,u202,u203,u204,u205,u206,u207,u208,u209,u210,u211,u212,u213,u214,u215,u216,u217,u218,u219,u220,u221,u222,u223,u224,u225,u226,u227,u228,u229,u230,u231,u232,u233,u234,u235,u236,u237,u238,u239,u240,u241,u242,u243,u244,u245,x_246],[]⟩ wx)
  (hp : Hid (Perms wS))
  (hF0 : Ext wS w0)
  (hok : Hid (okMon m=true))
  (hfew : Hid (Few m k))
  (hk30 : Hid (k < 30))
  (ne_bN_bM : Hid (BN≠B4))
  (ne_bN_bY : Hid (BN≠B5))
  (ne_bN_bG : Hid (BN≠PB))
  (ne_bN_bS : Hid (BN≠BS))
  (ne_bN_bP : Hid (BN≠BPp))
  (ne_bN_bQ : Hid (BN≠BQ))
  (ne_bN_bA : Hid (BN≠BA))
  (ne_bQ_bM : Hid (BQ≠B4))
  (ne_bQ_bY : Hid (BQ≠B5))
  (ne_bQ_bG : Hid (BQ≠PB))
  (ne_bQ_bS : Hid (BQ≠BS))
  (ne_bQ_bP : Hid (BQ≠BPp))
  (ne_bQ_bN : Hid (BQ≠BN))
  (ne_bQ_bA : Hid (BQ≠BA))
  (ne_bA_bM : Hid (BA≠B4))
  (ne_bA_bY : Hid (BA≠B5))
  (ne_bA_bG : Hid (BA≠PB))
  (ne_bA_bS : Hid (BA≠BS))
  (ne_bA_bP : Hid (BA≠BPp))
  (ne_bA_bN : Hid (BA≠BN))
  (ne_bA_bQ : Hid (BA≠BQ))
  (lowbM : Hid (wS.heap.size≤B4))
  (lowbY : Hid (wS.heap.size≤B5))
  (lowbG : Hid (wS.heap.size≤PB))
  (lowbP : Hid (wS.heap.size≤BPp))
  (lowbN : Hid (wS.heap.size≤BN))
  (lowbQ : Hid (wS.heap.size≤BQ))
  (lowbA : Hid (wS.heap.size≤BA))
  (bM : Box w0 B4 30 #[.slice x1 m.mem.al.length y1,.int .i64 m.mem.next,.slice x2 m.stks.length y2,.slice x3 m.run.length y3,.int .i64 m.tag,.int .i64 m.call])
  (bY : Box w0 B5 26 #[.slice a5 m.mem.al.length c5,.int .i64 m.mem.next])
  (bG : Pvb w0 wS.heap.size PB (.slice pva ps.length pvc) ps)
  (bS : Box w0 BS 33 #[.int .i64 s0,.int .i64 s1,.int .i64 s2,.int .i64 s3,.int .i64 s4])
  (bP : Box w0 BPp 35 #[.int .i64 pa,.int .i64 po,.int .i64 pt])
  (bN : Box w0 BN 30 #[.slice x1 m.mem.al.length y1,.int .i64 m.mem.next,.slice x2 m.stks.length y2,.slice x3 m.run.length y3,.int .i64 m.tag,.int .i64 m.call])
  (bQ : Box w0 BQ 35 #[.int .i64 0,.int .i64 0,.int .i64 0])
  (bA : Box w0 BA 26 #[.slice a5 m.mem.al.length c5,.int .i64 m.mem.next])
  (Gm : Hid (Fq (fun b=>b≠B4∧b≠B5∧b≠PB∧b≠BPp∧b≠BN∧b≠BQ∧b≠BA∧True) w0 (RdA m ⟨x1,y1,x2,y2,x3,y3⟩)))
  (Gp : Hid (Fq (fun b=>b≠B4∧b≠B5∧b≠PB∧b≠BPp∧b≠BN∧b≠BQ∧b≠BA∧True) w0 (fun w=>Als w (.slice a5 m.mem.al.length c5) m.mem.al)))
  (qL : Hid (Fq (fun b=>b≠B4∧b≠B5∧b≠PB∧b≠BPp∧b≠BN∧b≠BQ∧b≠BA∧True) w0 (fun w=>Cls w (.slice (some ⟨lb,lo,none⟩) lc.length cl2) lc))) :
  Code.wp Tryz.prog ((Tryz.f3.body.bind (findS (isSB 2))).getD .skip) (Exit.then K Q) ⟨#[x_0,x_1,x_2,x_3,.pointer (some ⟨B4,0,none⟩),.pointer (some ⟨B5,0,none⟩),.slice pva ps.length pvc,.int .i64 (k : Int),.pointer (some ⟨BS,0,none⟩),.pointer (some ⟨BPp,0,none⟩),.slice (some ⟨lb,lo,none⟩) lc.length cl2,.pointer (some ⟨BN,0,none⟩),.pointer (some ⟨BQ,0,none⟩),.int .u8 0,.int .i64 0,.pointer (some ⟨BA,0,none⟩),.int .i64 0,x_17,x_18,x_19,x_20,x_21,x_22,x_23,x_24,x_25,x_26,x_27,x_28,x_29,x_30,x_31,x_32,x_33,x_34,x_35,x_36,x_37,x_38,x_39,x_40,x_41,x_42,x_43,x_44,x_45,x_46,x_47,x_48,x_49,x_50,x_51,x_52,x_53,x_54,x_55,x_56,x_57,x_58,x_59,x_60,x_61,x_62,x_63,x_64,x_65,x_66,x_67,x_68,x_69,.int .i64 s0,x_71,x_72,x_73,x_74,x_75,x_76,x_77,x_78,x_79,x_80,x_81,x_82,x_83,x_84,x_85,x_86,x_87,x_88,x_89,x_90,x_91,x_92,x_93,x_94,x_95,x_96,x_97,x_98,x_99,x_100,x_101,x_102,x_103,x_104,x_105,x_106,x_107,x_108,x_109,x_110,x_111,x_112,x_113,x_114,x_115,x_116,x_117,x_118,x_119,x_120,x_121,x_122,x_123,x_124,x_125,x_126,x_127,x_128,x_129,x_130,x_131,x_132,x_133,x_134,x_135,x_136,x_137,x_138,x_139,x_140,x_141,x_142,x_143,x_144,x_145,x_146,x_147,x_148,x_149,x_150,x_151,x_152,x_153,x_154,x_155,x_156,x_157,x_158,x_159,x_160,x_161,x_162,x_163,x_164,x_165,x_166,x_167,x_168,x_169,x_170,x_171,x_172,x_173,x_174,x_175,x_176,x_177,x_178,x_179,x_180,x_181,x_182,x_183,x_184,x_185,x_186,x_187,x_188,x_189,x_190,x_191,x_192,x_193,x_194,x_195,x_196,x_197,x_198,x_199,x_200,x_201,x_202,x_203,x_204,x_205,x_206,x_207,x_208,x_209,x_210,x_211,x_212,x_213,x_214,x_215,x_216,x_217,x_218,x_219,x_220,x_221,x_222,x_223,x_224,x_225,x_226,x_227,x_228,x_229,x_230,x_231,x_232,x_233,x_234,x_235,x_236,x_237,x_238,x_239,x_240,x_241,x_242,x_243,x_244,x_245,x_246],[]⟩ w0:=by
 rcases hdef.out with rfl | rfl | rfl | rfl | rfl | rfl | rfl | rfl
 ·exact steps_sw0 hK hJ hp hF0 hok hfew hk30 ne_bN_bM ne_bN_bY ne_bN_bG ne_bN_bS ne_bN_bP ne_bN_bQ ne_bN_bA ne_bQ_bM ne_bQ_bY ne_bQ_bG ne_bQ_bS ne_bQ_bP ne_bQ_bN ne_bQ_bA ne_bA_bM ne_bA_bY ne_bA_bG ne_bA_bS ne_bA_bP ne_bA_bN ne_bA_bQ lowbM lowbY lowbG lowbP lowbN lowbQ lowbA bM bY bG bS bP bN bQ bA Gm Gp qL
 ·exact steps_sw1 hK hJ hp hF0 hok hfew hk30 ne_bN_bM ne_bN_bY ne_bN_bG ne_bN_bS ne_bN_bP ne_bN_bQ ne_bN_bA ne_bQ_bM ne_bQ_bY ne_bQ_bG ne_bQ_bS ne_bQ_bP ne_bQ_bN ne_bQ_bA ne_bA_bM ne_bA_bY ne_bA_bG ne_bA_bS ne_bA_bP ne_bA_bN ne_bA_bQ lowbM lowbY lowbG lowbP lowbN lowbQ lowbA bM bY bG bS bP bN bQ bA Gm Gp qL
 ·exact steps_sw2 hK hJ hp hF0 hok hfew hk30 ne_bN_bM ne_bN_bY ne_bN_bG ne_bN_bS ne_bN_bP ne_bN_bQ ne_bN_bA ne_bQ_bM ne_bQ_bY ne_bQ_bG ne_bQ_bS ne_bQ_bP ne_bQ_bN ne_bQ_bA ne_bA_bM ne_bA_bY ne_bA_bG ne_bA_bS ne_bA_bP ne_bA_bN ne_bA_bQ lowbM lowbY lowbG lowbP lowbN lowbQ lowbA bM bY bG bS bP bN bQ bA Gm Gp qL
 ·exact steps_sw3 hK hJ hp hF0 hok hfew hk30 ne_bN_bM ne_bN_bY ne_bN_bG ne_bN_bS ne_bN_bP ne_bN_bQ ne_bN_bA ne_bQ_bM ne_bQ_bY ne_bQ_bG ne_bQ_bS ne_bQ_bP ne_bQ_bN ne_bQ_bA ne_bA_bM ne_bA_bY ne_bA_bG ne_bA_bS ne_bA_bP ne_bA_bN ne_bA_bQ lowbM lowbY lowbG lowbP lowbN lowbQ lowbA bM bY bG bS bP bN bQ bA Gm Gp qL
 ·exact steps_sw4 hK hJ hp hF0 hok hfew hk30 ne_bN_bM ne_bN_bY ne_bN_bG ne_bN_bS ne_bN_bP ne_bN_bQ ne_bN_bA ne_bQ_bM ne_bQ_bY ne_bQ_bG ne_bQ_bS ne_bQ_bP ne_bQ_bN ne_bQ_bA ne_bA_bM ne_bA_bY ne_bA_bG ne_bA_bS ne_bA_bP ne_bA_bN ne_bA_bQ lowbM lowbY lowbG lowbP lowbN lowbQ lowbA bM bY bG bS bP bN bQ bA Gm Gp qL
 ·exact steps_sw5 hK hJ hp hF0 hok hfew hk30 ne_bN_bM ne_bN_bY ne_bN_bG ne_bN_bS ne_bN_bP ne_bN_bQ ne_bN_bA ne_bQ_bM ne_bQ_bY ne_bQ_bG ne_bQ_bS ne_bQ_bP ne_bQ_bN ne_bQ_bA ne_bA_bM ne_bA_bY ne_bA_bG ne_bA_bS ne_bA_bP ne_bA_bN ne_bA_bQ lowbM lowbY lowbG lowbP lowbN lowbQ lowbA bM bY bG bS bP bN bQ bA Gm Gp qL
 ·exact steps_sw6 hK hJ hp hF0 hok hfew hk30 ne_bN_bM ne_bN_bY ne_bN_bG ne_bN_bS ne_bN_bP ne_bN_bQ ne_bN_bA ne_bQ_bM ne_bQ_bY ne_bQ_bG ne_bQ_bS ne_bQ_bP ne_bQ_bN ne_bQ_bA ne_bA_bM ne_bA_bY ne_bA_bG ne_bA_bS ne_bA_bP ne_bA_bN ne_bA_bQ lowbM lowbY lowbG lowbP lowbN lowbQ lowbA bM bY bG bS bP bN bQ bA Gm Gp qL
 ·exact steps_sw7 hK hJ hp hF0 hok hfew hk30 ne_bN_bM ne_bN_bY ne_bN_bG ne_bN_bS ne_bN_bP ne_bN_bQ ne_bN_bA ne_bQ_bM ne_bQ_bY ne_bQ_bG ne_bQ_bS ne_bQ_bP ne_bQ_bN ne_bQ_bA ne_bA_bM ne_bA_bY ne_bA_bG ne_bA_bS ne_bA_bP ne_bA_bN ne_bA_bQ lowbM lowbY lowbG lowbP lowbN lowbQ lowbA bM bY bG bS bP bN bQ bA Gm Gp qL
end Go.Proofs.YtoanoodfacmieaaGreatDoor
