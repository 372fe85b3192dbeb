/- Several texts in one: NmsD, Door. -/
import Derived.Test.YtepdbdckjmkbhaaGreatDoorQ25
import Derived.Test.YtepdbdckjmkbhaaGreatDoorQ03
import Derived.Test.YtepdbdckjmkbhaaGreatDoorQ10
import Derived.Test.YtepdbdckjmkbhaaGreatDoorCards
import Derived.Test.YtepdbdckjmkbhaaGreatDoorTie
import Derived.ProofKit
import Derived.OpenShut
import Derived.Deep.DeepHandedRow
import Derived.Lib.LaidTab
/- MonitorNames: its last part, from the region behind its second loop on. (printed by gen/names35.py) -/
namespace Go.Proofs.YtepdbdckjmkbhaaGreatDoor
set_option maxRecDepth 100000
open Go.ChangeShapes Go.WideShapes Go.ChangeAt Go.RowKit
def isR (r : Nat) : Code→Bool
 | .region n _ _=>Nat.beq n r
 | _=>false
def cutR (r : Nat) : Code→Option (Code × Code)
 | .seq a b=>match isR r a with
  | true=>some (a,b)
  | false=>match cutR r a with
   | some c=>some c
   | none=>cutR r b
 | .block _ c=>cutR r c
 | .loop c=>cutR r c
 | .scope c=>cutR r c
 | .cond _ a b=>match cutR r a with
  | some c=>some c
  | none=>cutR r b
 | _=>none
set_option maxRecDepth 1000000 in
set_option maxHeartbeats 25600000 in
theorem names35_rest {wS w0 : World} {AF AN AO BP : Nat} {xo xr xw : Mon} {lw : List Cell} {na nk nr v_fa v_fk v_fr v_oa v_ok v_or : Option Addr} {nac nkc nrc v_fac v_fkc v_frc v_oac v_okc v_orc : Nat}
  {x0 x1 x2 x3 x6 x7 x9 x10 x12 x13 x14 x16 x17 x18 x20 x21 x22 x24 x25 x26 x28 x29 x30 x32 x33 x36 x37 x40 x41 x44 x47 x48 x50 x51 x56 x57 x60 x63 x66 x68 x71 x74 x75 x76 x77 x78 x79 x80 x81 x82 x83 x84 x85 x86 x87 x88 x89 x90 x91 x92 x93 x94 x95 x96 x97 x98 x99 x100 x101 x102 x103 x104 x105 x106 x107 x108 x109 x110 x111 x112 x113 x114 x115 x116 x117 x118 x119 x120 x121 x122 x123 x124 x125 x126 x127 x128 x129 x130 x131 x132 x133 x134 x135 x136 x137 x138 x139 x140 x141 x142 x143 x144 x145 x146 x147 x148 x149 x150 x151 x152 x153 x154 x155 x156 x157 x158 x159 x160 x161 x162 x163 x164 x165 x166 x167 x168 x169 x170 x171 x172 x173 x174 x175 x176 x177 x178 x179 x180 x181 x182 x183 x184 x185 x186 x187 x188 x189 x190 x191 x192 x193 x194 x195 x196 x197 x198 x199 x200 x201 x202 x203 x204 x205 x206 x207 x208 x209 x210 x211 x212 x213 x214 x215 x216 x217 x218 x219 x220 x221 x222 x223 x224 x225 x226 x227 x228 x229 x230 x231 x232 x233 x234 x235 x236 x237 x238 x239 x240 x241 x242 x243 x244 x245 x246 x247 x248 x249 x250 x251 x252 x253 x254 x255 x256 x257 x258 x259 x260 x261 x262 x263 x264 x265 x266 x267 x268 x269 x270 x271 x272 x273 x274 x275 x276 x277 x278 x279 x280 x281 x282 x283 x284 x285 x286 x287 x288 x289 x290 x291 x292 x293 x294 x295 x296 x297 x298 x299 x300 x301 x302 x303 x304 x305 x306 x307 x308 x309 x310 x311 x312 x313 x314 x315 x316 x317 x318 x319 x320 x321 x322 x323 x324 x325 x326 x327 x328 x329 x330 x331 x332 x333 x334 x335 x336 x337 x338 x339 x340 x341 x342 x343 x344 x345 x346 x347 x348 x349 x350 x351 x352 x353 x354 x355 x356 x357 x358 x359 x360 x361 x362 x363 x364 x365 x366 x367 x368 x369 x370 x371 x372 x373 x374 x375 x376 x377 x378 x379 x380 x381 x382 x383 x384 x385 x386 x387 x388 x389 x390 x391 x392 x393 x394 x395 x396 x397 x398 x399 x400 x401 x402 x403 x404 x405 x406 x407 x408 x409 x410 x411 x412 x413 x414 x415 x416 x417 x418 x419 x420 x421 x422 x423 x424 x425 x426 x427 x428 x429 x430 x431 x432 x433 x434 x435 x436 x437 x438 x439 x440 x441 x442 x443 x444 x445 x446 x447 x448 x449 x450 x451 x452 x453 x454 x455 x456 x457 x458 x459 x460 x461 x462 x463 x464 x465 x466 x467 x468 x469 x470 x471 x472 x473 x474 x475 x476 x477 x478 x479 x480 x481 x482 x483 x484 x485 x486 x487 x488 x489 x490 x491 x492 x493 x494 x495 x496 x497 x498 x499 x500 x501 x502 x503 x504 x505 x506 x507 x508 x509 x510 x511 x512 x513 x514 x515 x516 x517 x518 x519 x520 x521 x522 x523 x524 x525 x526 x527 x528 x529 x530 x531 x532 x533 x534 x535 x536 x537 x538 x539 x540 x541 x542 x543 x544 x545 x546 x547 x548 x549 x550 x551 x552 x553 x554 x555 x556 x557 x558 : Value} {K : Act→World→Prop} (hK : ∀ a w,Code.wp Tryz.prog ((Tryz.f3.body.bind (cutR 62)).getD (.skip,.skip)).2 (bodyPost Tryz.prog Tryz.f3 fun e w'=>e=Ending.returned (Value.bool true)∧Ext wS w') a w→K a w)
  (hp : Perms wS) (hF0 : Ext wS w0) (lowbF : wS.heap.size≤AF)
  (ne_bF_bN : AF≠AN) (ne_bF_bO : AF≠AO) (ne_bF_bP : AF≠BP)
  (bF : Box w0 AF 28 #[.slice v_fa fullM.mem.al.length v_fac,.int .i64 fullM.mem.next,.slice v_fk fullM.stks.length v_fkc,.slice v_fr fullM.run.length v_frc,.int .i64 fullM.tag,.int .i64 fullM.call])
  (bN : Box w0 AN 28 #[.slice na manyM.mem.al.length nac,.int .i64 manyM.mem.next,.slice nk manyM.stks.length nkc,.slice nr manyM.run.length nrc,.int .i64 manyM.tag,.int .i64 manyM.call])
  (bO : Box w0 AO 28 #[.slice v_oa xo.mem.al.length v_oac,.int .i64 xo.mem.next,.slice v_ok xo.stks.length v_okc,.slice v_or xo.run.length v_orc,.int .i64 xo.tag,.int .i64 xo.call])
  (bP : Box w0 BP 43 #[.int .i64 0,.int .i64 0,.int .i64 1])
  (Gf : Fq (fun b=>b≠AF∧True) w0 (RdA fullM ⟨v_fa,v_fac,v_fk,v_fkc,v_fr,v_frc⟩))
  (Go : Fq (fun b=>b≠AF∧True) w0 (RdA xo ⟨v_oa,v_oac,v_ok,v_okc,v_or,v_orc⟩))
  (hAN : Als w0 (.slice na manyM.mem.al.length nac) manyM.mem.al) (hKN : Kts w0 (.slice nk manyM.stks.length nkc) manyM.stks) (hRN : Nts w0 (.slice nr manyM.run.length nrc) manyM.run)
  (nxo : i64B xo.mem.next) (hr : forgetM xo=(xr,0)) (hw : loadM xo ⟨0,0,1⟩ 1=(xw,lw,3,0)) (hr1 : xr.stks=[]) (hr2 : xr.mem.al=[]) (hr3 : xr.mem.next=2) :
  Code.wp Tryz.prog ((Tryz.f3.body.bind (cutR 62)).getD (.skip,.skip)).1 (Exit.then K (bodyPost Tryz.prog Tryz.f3 fun e w'=>e=Ending.returned (Value.bool true)∧Ext wS w')) ⟨#[x0,x1,x2,x3,.pointer (some ⟨BP,0,none⟩),.pointer (some ⟨AF,0,none⟩),x6,x7,.int .i64 18,x9,x10,.int .i64 2,x12,x13,x14,.int .i64 18,x16,x17,x18,.int .i64 2,x20,x21,x22,.int .i64 2,x24,x25,x26,.int .i64 2,x28,x29,x30,.int .i64 2,x32,x33,.int .u8 3,.int .i64 0,x36,x37,.int .u8 4,.int .i64 0,x40,x41,.int .u8 1,.int .i64 0,x44,.int .u8 3,.int .i64 0,x47,x48,.int .i64 8,x50,x51,.int .i64 6,.pointer (some ⟨AO,0,none⟩),.int .u8 0,.int .i64 0,x56,x57,.int .u8 0,.int .i64 0,x60,.int .u8 2,.int .i64 0,x63,.int .u8 2,.int .i64 0,x66,.int .i64 0,x68,.int .u8 0,.int .i64 0,x71,.int .i64 6,.pointer (some ⟨AN,0,none⟩),x74,x75,x76,x77,x78,x79,x80,x81,x82,x83,x84,x85,x86,x87,x88,x89,x90,x91,x92,x93,x94,x95,x96,x97,x98,x99,x100,x101,x102,x103,x104,x105,x106,x107,x108,x109,x110,x111,x112,x113,x114,x115,x116,x117,x118,x119,x120,x121,x122,x123,x124,x125,x126,x127,x128,x129,x130,x131,x132,x133,x134,x135,x136,x137,x138,x139,x140,x141,x142,x143,x144,x145,x146,x147,x148,x149,x150,x151,x152,x153,x154,x155,x156,x157,x158,x159,x160,x161,x162,x163,x164,x165,x166,x167,x168,x169,x170,x171,x172,x173,x174,x175,x176,x177,x178,x179,x180,x181,x182,x183,x184,x185,x186,x187,x188,x189,x190,x191,x192,x193,x194,x195,x196,x197,x198,x199,x200,x201,x202,x203,x204,x205,x206,x207,x208,x209,x210,x211,x212,x213,x214,x215,x216,x217,x218,x219,x220,x221,x222,x223,x224,x225,x226,x227,x228,x229,x230,x231,x232,x233,x234,x235,x236,x237,x238,x239,x240,x241,x242,x243,x244,x245,x246,x247,x248,x249,x250,x251,x252,x253,x254,x255,x256,x257,x258,x259,x260,x261,x262,x263,x264,x265,x266,x267,x268,x269,x270,x271,x272,x273,x274,x275,x276,x277,x278,x279,x280,x281,x282,x283,x284,x285,x286,x287,x288,x289,x290,x291,x292,x293,x294,x295,x296,x297,x298,x299,x300,x301,x302,x303,x304,x305,x306,x307,x308,x309,x310,x311,x312,x313,x314,x315,x316,x317,x318,x319,x320,x321,x322,x323,x324,x325,x326,x327,x328,x329,x330,x331,x332,x333,x334,x335,x336,x337,x338,x339,x340,x341,x342,x343,x344,x345,x346,x347,x348,x349,x350,x351,x352,x353,x354,x355,x356,x357,x358,x359,x360,x361,x362,x363,x364,x365,x366,x367,x368,x369,x370,x371,x372,x373,x374,x375,x376,x377,x378,x379,x380,x381,x382,x383,x384,x385,x386,x387,x388,x389,x390,x391,x392,x393,x394,x395,x396,x397,x398,x399,x400,x401,x402,x403,x404,x405,x406,x407,x408,x409,x410,x411,x412,x413,x414,x415,x416,x417,x418,x419,x420,x421,x422,x423,x424,x425,x426,x427,x428,x429,x430,x431,x432,x433,x434,x435,x436,x437,x438,x439,x440,x441,x442,x443,x444,x445,x446,x447,x448,x449,x450,x451,x452,x453,x454,x455,x456,x457,x458,x459,x460,x461,x462,x463,x464,x465,x466,x467,x468,x469,x470,x471,x472,x473,x474,x475,x476,x477,x478,x479,x480,x481,x482,x483,x484,x485,x486,x487,x488,x489,x490,x491,x492,x493,x494,x495,x496,x497,x498,x499,x500,x501,x502,x503,x504,x505,x506,x507,x508,x509,x510,x511,x512,x513,x514,x515,x516,x517,x518,x519,x520,x521,x522,x523,x524,x525,x526,x527,x528,x529,x530,x531,x532,x533,x534,x535,x536,x537,x538,x539,x540,x541,x542,x543,x544,x545,x546,x547,x548,x549,x550,x551,x552,x553,x554,x555,x556,x557,x558],[]⟩ w0:=by
 replace hp:=Lib.hid hp;replace lowbF:=Lib.hid lowbF;replace ne_bF_bN:=Lib.hid ne_bF_bN;replace ne_bF_bO:=Lib.hid ne_bF_bO;replace ne_bF_bP:=Lib.hid ne_bF_bP;replace Gf:=Lib.hid Gf;replace Go:=Lib.hid Go;replace hAN:=Lib.hid hAN;replace hKN:=Lib.hid hKN;replace hRN:=Lib.hid hRN;replace nxo:=Lib.hid nxo;replace hr:=Lib.hid hr;replace hw:=Lib.hid hw;replace hr1:=Lib.hid hr1;replace hr2:=Lib.hid hr2;replace hr3:=Lib.hid hr3
 conv=>arg 2;whnf
 conv at hK=>intro a w;arg 1;arg 2;whnf
 obtain ⟨xx,cx,hx⟩:=d35x
 replace hx:=Lib.hid hx
 obtain ⟨bN_0,bN_1,bN_2,bN_3,bN_4,bN_5,bN_l⟩:=bN.c6
 go_wp2_with fail
 clear bN_0 bN_1 bN_2 bN_3 bN_4 bN_5 bN_l
 have ltbF:=Lib.hid bF.lt
 refine (monitor_Enter (m:=manyM) hAN.out nx35 hKN.out hRN.out).mono ?_
 rintro e w1 ⟨vt,rfl,fM,hE1⟩
 replace bF:=bF.ext hE1
 replace bN:=bN.ext hE1
 replace bO:=bO.ext hE1
 replace bP:=bP.ext hE1
 replace Gf:=Lib.hid (Fq.ext Gf.out hE1)
 replace Go:=Lib.hid (Fq.ext Go.out hE1)
 have hF1:=Ext.trans hF0 hE1
 rw [hx.out] at fM ⊢
 try dsimp only [Ptr.val] at fM ⊢
 obtain ⟨xsa,xss,xsr,rfl,qx⟩:=FrMon.parts fM
 clear fM
 obtain ⟨v_xa,v_xac,rfl,-⟩:=(qx.read).1.form
 obtain ⟨v_xk,v_xkc,rfl,-⟩:=(qx.read).2.1.form
 obtain ⟨v_xr,v_xrc,rfl,-⟩:=(qx.read).2.2.form
 try dsimp only at qx ⊢
 have Gx:=Lib.hid (Fq.mono (S':=(fun b=>b≠AF∧True)) qx (fun b h1 _=>by have gbF:=ltbF.out;exact ⟨by omega,trivial⟩))
 clear qx ltbF
 clear Gx
 clear bN
 clear hAN hKN hRN
 go_upto_region 63 with fail
 have ne_bF_bZ : Hid (AF≠w1.heap.size):=Hid.mk (by have h9:=bF.lt;omega)
 have bZ:=Box.new w1 28 #[.slice v_xa xx.mem.al.length v_xac,.int .i64 xx.mem.next,.slice v_xk xx.stks.length v_xkc,.slice v_xr xx.run.length v_xrc,.int .i64 xx.tag,.int .i64 xx.call]
 have hza : (World.alloc w1 (.cells #[.slice v_xa xx.mem.al.length v_xac,.int .i64 xx.mem.next,.slice v_xk xx.stks.length v_xkc,.slice v_xr xx.run.length v_xrc,.int .i64 xx.tag,.int .i64 xx.call] 28)).heap.size=w1.heap.size+1:=by rw [World.size_alloc]
 have hx2 : Ext w1 (World.alloc w1 (.cells #[.slice v_xa xx.mem.al.length v_xac,.int .i64 xx.mem.next,.slice v_xk xx.stks.length v_xkc,.slice v_xr xx.run.length v_xrc,.int .i64 xx.tag,.int .i64 xx.call] 28)):=(Ext.refl _).alloc _
 obtain ⟨w2b,hw2⟩ : ∃ z,World.alloc w1 (.cells #[.slice v_xa xx.mem.al.length v_xac,.int .i64 xx.mem.next,.slice v_xk xx.stks.length v_xkc,.slice v_xr xx.run.length v_xrc,.int .i64 xx.tag,.int .i64 xx.call] 28)=z:=⟨_,rfl⟩
 rw [hw2] at bZ hx2 hza ⊢
 clear hw2
 have hzb0:=hza
 clear hza
 replace bF:=bF.ext hx2
 replace bO:=bO.ext hx2
 replace bP:=bP.ext hx2
 replace Gf:=Lib.hid (Fq.ext Gf.out hx2)
 replace Go:=Lib.hid (Fq.ext Go.out hx2)
 have hF3:=Ext.trans hF1 hx2
 clear hzb0
 clear bZ
 have bF_0 : World.cell? w2b ⟨AF,0,none⟩=some (.slice v_fa fullM.mem.al.length v_fac):=bF.cell 0
 have bF_1 : World.cell? w2b ⟨AF,1,none⟩=some (.int .i64 fullM.mem.next):=bF.cell 1
 have bF_2 : World.cell? w2b ⟨AF,2,none⟩=some (.slice v_fk fullM.stks.length v_fkc):=bF.cell 2
 have bF_3 : World.cell? w2b ⟨AF,3,none⟩=some (.slice v_fr fullM.run.length v_frc):=bF.cell 3
 have bF_4 : World.cell? w2b ⟨AF,4,none⟩=some (.int .i64 fullM.tag):=bF.cell 4
 have bF_5 : World.cell? w2b ⟨AF,5,none⟩=some (.int .i64 fullM.call):=bF.cell 5
 have bF_f0 : World.frozen? w2b ⟨AF,0,none⟩=false:=bF.frozen 0
 have bF_f1 : World.frozen? w2b ⟨AF,1,none⟩=false:=bF.frozen 1
 have bF_f2 : World.frozen? w2b ⟨AF,2,none⟩=false:=bF.frozen 2
 have bF_f3 : World.frozen? w2b ⟨AF,3,none⟩=false:=bF.frozen 3
 have bF_f4 : World.frozen? w2b ⟨AF,4,none⟩=false:=bF.frozen 4
 have bF_f5 : World.frozen? w2b ⟨AF,5,none⟩=false:=bF.frozen 5
 have bF_l:=bF.lt
 go_upto_region 64 with fail
 clear bF_0 bF_1 bF_2 bF_3 bF_4 bF_5 bF_f0 bF_f1 bF_f2 bF_f3 bF_f4 bF_f5 bF_l
 have hS4 : ExtBut (fun b=>b=AF∨False) w2b (World.setCell w2b ⟨AF,5,none⟩ (.int .i64 1000000)):=((ExtBut.setCell w2b ⟨AF,5,none⟩ (.int .i64 1000000)).mono (S':=(fun b=>b=AF∨False)) (fun b _ h => .inl h))
 replace bF:=(Box.setL bF 5 (.int .i64 1000000))
 simp only [List.set_cons_zero,List.set_cons_succ] at bF
 replace bO:=(Box.other bO (p:=⟨AF,5,none⟩) (ne_bF_bO.out) (.int .i64 1000000))
 replace bP:=(Box.other bP (p:=⟨AF,5,none⟩) (ne_bF_bP.out) (.int .i64 1000000))
 obtain ⟨w4s,hw4⟩ : ∃ z,(World.setCell w2b ⟨AF,5,none⟩ (.int .i64 1000000))=z:=⟨_,rfl⟩
 rw [hw4] at hS4 bF bO bP ⊢
 clear hw4
 have hF4:=ExtBut.ext hF3 hS4 (fun b h=>by rcases h with h | h;(rw [h];exact lowbF.out);exact h.elim)
 replace Gf:=Lib.hid (Fq.but Gf.out hS4 (fun b h _ h2=>by rcases h2 with h2 | h2;exact h.1 h2;exact h2))
 replace Go:=Lib.hid (Fq.but Go.out hS4 (fun b h _ h2=>by rcases h2 with h2 | h2;exact h.1 h2;exact h2))
 clear hS4
 have bF9 : Box w4s AF 28 #[.slice v_fa full2M.mem.al.length v_fac,.int .i64 full2M.mem.next,.slice v_fk full2M.stks.length v_fkc,.slice v_fr full2M.run.length v_frc,.int .i64 full2M.tag,.int .i64 full2M.call]:=bF
 clear bF
 have bF:=bF9
 clear bF9
 replace Gf : Hid (Fq (fun b=>b≠AF∧True) w4s (RdA full2M ⟨v_fa,v_fac,v_fk,v_fkc,v_fr,v_frc⟩)):=Lib.hid Gf.out
 obtain ⟨xy,cy,hy⟩:=d35y
 replace hy:=Lib.hid hy
 obtain ⟨bF_0,bF_1,bF_2,bF_3,bF_4,bF_5,bF_l⟩:=bF.c6
 go_wp2_with fail
 clear bF_0 bF_1 bF_2 bF_3 bF_4 bF_5 bF_l
 have ltbF:=Lib.hid bF.lt
 refine (monitor_Enter (m:=full2M) Gf.out.read.1 nx35 Gf.out.read.2.1 Gf.out.read.2.2).mono ?_
 rintro e w5 ⟨vt,rfl,fM,hE5⟩
 replace bF:=bF.ext hE5
 replace bO:=bO.ext hE5
 replace bP:=bP.ext hE5
 replace Gf:=Lib.hid (Fq.ext Gf.out hE5)
 replace Go:=Lib.hid (Fq.ext Go.out hE5)
 have hF5:=Ext.trans hF4 hE5
 rw [hy.out] at fM ⊢
 try dsimp only [Ptr.val] at fM ⊢
 obtain ⟨ysa,yss,ysr,rfl,qy⟩:=FrMon.parts fM
 clear fM
 obtain ⟨v_ya,v_yac,rfl,-⟩:=(qy.read).1.form
 obtain ⟨v_yk,v_ykc,rfl,-⟩:=(qy.read).2.1.form
 obtain ⟨v_yr,v_yrc,rfl,-⟩:=(qy.read).2.2.form
 try dsimp only at qy ⊢
 have Gy:=Lib.hid (Fq.mono (S':=(fun b=>b≠AF∧True)) qy (fun b h1 _=>by have gbF:=ltbF.out;exact ⟨by omega,trivial⟩))
 clear qy ltbF
 clear Gy
 obtain ⟨bO_0,bO_1,bO_2,bO_3,bO_4,bO_5,bO_l⟩:=bO.c6
 go_wp2_with fail
 clear bO_0 bO_1 bO_2 bO_3 bO_4 bO_5 bO_l
 have ne_bF_bZ : Hid (AF≠w5.heap.size):=Hid.mk (by have h9:=bF.lt;omega)
 have bZ:=Box.new w5 28 #[.slice v_ya xy.mem.al.length v_yac,.int .i64 xy.mem.next,.slice v_yk xy.stks.length v_ykc,.slice v_yr xy.run.length v_yrc,.int .i64 xy.tag,.int .i64 xy.call]
 have hza : (World.alloc w5 (.cells #[.slice v_ya xy.mem.al.length v_yac,.int .i64 xy.mem.next,.slice v_yk xy.stks.length v_ykc,.slice v_yr xy.run.length v_yrc,.int .i64 xy.tag,.int .i64 xy.call] 28)).heap.size=w5.heap.size+1:=by rw [World.size_alloc]
 have hx6 : Ext w5 (World.alloc w5 (.cells #[.slice v_ya xy.mem.al.length v_yac,.int .i64 xy.mem.next,.slice v_yk xy.stks.length v_ykc,.slice v_yr xy.run.length v_yrc,.int .i64 xy.tag,.int .i64 xy.call] 28)):=(Ext.refl _).alloc _
 obtain ⟨w6b,hw6⟩ : ∃ z,World.alloc w5 (.cells #[.slice v_ya xy.mem.al.length v_yac,.int .i64 xy.mem.next,.slice v_yk xy.stks.length v_ykc,.slice v_yr xy.run.length v_yrc,.int .i64 xy.tag,.int .i64 xy.call] 28)=z:=⟨_,rfl⟩
 rw [hw6] at bZ hx6 hza ⊢
 clear hw6
 have hzb0:=hza
 clear hza
 replace bF:=bF.ext hx6
 replace bO:=bO.ext hx6
 replace bP:=bP.ext hx6
 replace Gf:=Lib.hid (Fq.ext Gf.out hx6)
 replace Go:=Lib.hid (Fq.ext Go.out hx6)
 have hF7:=Ext.trans hF5 hx6
 clear hzb0
 have ltbF:=Lib.hid bF.lt
 refine (monitor_Forget (m:=xo) Go.out.read.1 nxo.out Go.out.read.2.1 Go.out.read.2.2).mono ?_
 rintro e w8 ⟨vt,rfl,fM,hE8⟩
 replace bF:=bF.ext hE8
 replace bO:=bO.ext hE8
 replace bP:=bP.ext hE8
 replace bZ:=bZ.ext hE8
 replace Gf:=Lib.hid (Fq.ext Gf.out hE8)
 replace Go:=Lib.hid (Fq.ext Go.out hE8)
 have hF8:=Ext.trans hF7 hE8
 rw [hr.out] at fM ⊢
 try dsimp only [Ptr.val] at fM ⊢
 obtain ⟨rsa,rss,rsr,rfl,qr⟩:=FrMon.parts fM
 clear fM
 obtain ⟨v_ra,v_rac,rfl,-⟩:=(qr.read).1.form
 obtain ⟨v_rk,v_rkc,rfl,-⟩:=(qr.read).2.1.form
 obtain ⟨v_rr,v_rrc,rfl,-⟩:=(qr.read).2.2.form
 try dsimp only at qr ⊢
 have Gr:=Lib.hid (Fq.mono (S':=(fun b=>b≠AF∧True)) qr (fun b h1 _=>by have gbF:=ltbF.out;exact ⟨by omega,trivial⟩))
 clear qr ltbF
 clear bZ
 obtain ⟨bO_0,bO_1,bO_2,bO_3,bO_4,bO_5,bO_l⟩:=bO.c6
 obtain ⟨bP_0,bP_1,bP_2,bP_l⟩:=bP.c3
 go_wp2_with fail
 clear bO_0 bO_1 bO_2 bO_3 bO_4 bO_5 bO_l bP_0 bP_1 bP_2 bP_l
 have ne_bF_bR : Hid (AF≠w8.heap.size):=Hid.mk (by have h9:=bF.lt;omega)
 have bR:=Box.new w8 28 #[.slice v_ra xr.mem.al.length v_rac,.int .i64 xr.mem.next,.slice v_rk xr.stks.length v_rkc,.slice v_rr xr.run.length v_rrc,.int .i64 xr.tag,.int .i64 xr.call]
 have hza : (World.alloc w8 (.cells #[.slice v_ra xr.mem.al.length v_rac,.int .i64 xr.mem.next,.slice v_rk xr.stks.length v_rkc,.slice v_rr xr.run.length v_rrc,.int .i64 xr.tag,.int .i64 xr.call] 28)).heap.size=w8.heap.size+1:=by rw [World.size_alloc]
 have hx9 : Ext w8 (World.alloc w8 (.cells #[.slice v_ra xr.mem.al.length v_rac,.int .i64 xr.mem.next,.slice v_rk xr.stks.length v_rkc,.slice v_rr xr.run.length v_rrc,.int .i64 xr.tag,.int .i64 xr.call] 28)):=(Ext.refl _).alloc _
 obtain ⟨w9b,hw9⟩ : ∃ z,World.alloc w8 (.cells #[.slice v_ra xr.mem.al.length v_rac,.int .i64 xr.mem.next,.slice v_rk xr.stks.length v_rkc,.slice v_rr xr.run.length v_rrc,.int .i64 xr.tag,.int .i64 xr.call] 28)=z:=⟨_,rfl⟩
 rw [hw9] at bR hx9 hza ⊢
 clear hw9
 have hzb0:=hza
 clear hza
 replace bF:=bF.ext hx9
 replace bO:=bO.ext hx9
 replace bP:=bP.ext hx9
 replace Gf:=Lib.hid (Fq.ext Gf.out hx9)
 replace Go:=Lib.hid (Fq.ext Go.out hx9)
 replace Gr:=Lib.hid (Fq.ext Gr.out hx9)
 have hF10:=Ext.trans hF8 hx9
 clear hzb0
 have ltbF:=Lib.hid bF.lt
 refine (monitor_Load (m:=xo) 0 0 1 1 Go.out.read.1 nxo.out Go.out.read.2.1 Go.out.read.2.2).mono ?_
 rintro e w11 ⟨vt,vl,rfl,fM,fL,hE11⟩
 replace bF:=bF.ext hE11
 replace bO:=bO.ext hE11
 replace bP:=bP.ext hE11
 replace bR:=bR.ext hE11
 replace Gf:=Lib.hid (Fq.ext Gf.out hE11)
 replace Go:=Lib.hid (Fq.ext Go.out hE11)
 replace Gr:=Lib.hid (Fq.ext Gr.out hE11)
 have hF11:=Ext.trans hF10 hE11
 rw [hw.out] at fM fL ⊢
 try dsimp only [Ptr.val] at fM fL ⊢
 obtain ⟨wsa,wss,wsr,rfl,qw⟩:=FrMon.parts fM
 clear fM
 obtain ⟨v_wa,v_wac,rfl,-⟩:=(qw.read).1.form
 obtain ⟨v_wk,v_wkc,rfl,-⟩:=(qw.read).2.1.form
 obtain ⟨v_wr,v_wrc,rfl,-⟩:=(qw.read).2.2.form
 try dsimp only at qw ⊢
 obtain ⟨aw,cw,rfl,-⟩:=fL.read.form
 clear fL
 have Gw:=Lib.hid (Fq.mono (S':=(fun b=>b≠AF∧True)) qw (fun b h1 _=>by have gbF:=ltbF.out;exact ⟨by omega,trivial⟩))
 clear qw ltbF
 clear Gw
 go_upto_region 67 with fail
 have ne_bF_bZ : Hid (AF≠w11.heap.size):=Hid.mk (by have h9:=bF.lt;omega)
 have bZ:=Box.new w11 28 #[.slice v_wa xw.mem.al.length v_wac,.int .i64 xw.mem.next,.slice v_wk xw.stks.length v_wkc,.slice v_wr xw.run.length v_wrc,.int .i64 xw.tag,.int .i64 xw.call]
 have hza : (World.alloc w11 (.cells #[.slice v_wa xw.mem.al.length v_wac,.int .i64 xw.mem.next,.slice v_wk xw.stks.length v_wkc,.slice v_wr xw.run.length v_wrc,.int .i64 xw.tag,.int .i64 xw.call] 28)).heap.size=w11.heap.size+1:=by rw [World.size_alloc]
 have hx12 : Ext w11 (World.alloc w11 (.cells #[.slice v_wa xw.mem.al.length v_wac,.int .i64 xw.mem.next,.slice v_wk xw.stks.length v_wkc,.slice v_wr xw.run.length v_wrc,.int .i64 xw.tag,.int .i64 xw.call] 28)):=(Ext.refl _).alloc _
 obtain ⟨w12b,hw12⟩ : ∃ z,World.alloc w11 (.cells #[.slice v_wa xw.mem.al.length v_wac,.int .i64 xw.mem.next,.slice v_wk xw.stks.length v_wkc,.slice v_wr xw.run.length v_wrc,.int .i64 xw.tag,.int .i64 xw.call] 28)=z:=⟨_,rfl⟩
 rw [hw12] at bZ hx12 hza ⊢
 clear hw12
 have hzb0:=hza
 clear hza
 replace bF:=bF.ext hx12
 replace bO:=bO.ext hx12
 replace bP:=bP.ext hx12
 replace bR:=bR.ext hx12
 replace Gf:=Lib.hid (Fq.ext Gf.out hx12)
 replace Go:=Lib.hid (Fq.ext Go.out hx12)
 replace Gr:=Lib.hid (Fq.ext Gr.out hx12)
 have hF13:=Ext.trans hF11 hx12
 clear hzb0
 clear bZ
 clear Gf Go Gr
 have e1 : xr.stks.length=0:=by rw [hr1.out];rfl
 have e2 : xr.mem.al.length=0:=by rw [hr2.out];rfl
 rw [e1,e2,hr3.out] at bR
 clear e1 e2
 go_upto_region 68 with fail
 go_upto_region 69 with fail
 go_upto_region 69 with fail
 have cR_0 : World.cell? w12b ⟨w8.heap.size,0,none⟩=some (.slice v_ra 0 v_rac):=bR.cell 0
 have cR_1 : World.cell? w12b ⟨w8.heap.size,1,none⟩=some (.int .i64 2):=bR.cell 1
 have cR_2 : World.cell? w12b ⟨w8.heap.size,2,none⟩=some (.slice v_rk 0 v_rkc):=bR.cell 2
 refine wp_region_seq (L:=[Pr.eq (.int .i64 6),Pr.eq (.bool true),Pr.eq (.bool true),Pr.eq (.int .u8 0),Pr.eq (.bool true),Pr.eq (.bool true),Pr.eq (.bool true),Pr.eq (.int .i64 0),Pr.eq (.bool true),Pr.eq (.bool true),Pr.eq (.bool true),Pr.eq (.int .u8 0),Pr.eq (.bool true),Pr.eq (.bool true),Pr.eq (.bool true),Pr.eq (.int .i64 0),Pr.eq (.bool true),Pr.eq (.bool true),Pr.eq (.bool true),Pr.eq (.int .u8 2),Pr.eq (.bool true),Pr.eq (.bool true),Pr.eq (.bool true),Pr.eq (.int .i64 0),Pr.eq (.bool true),Pr.eq (.bool true),Pr.eq (.bool true),Pr.eq (.int .u8 2),Pr.eq (.bool true),Pr.eq (.bool true),Pr.eq (.bool true),Pr.eq (.int .i64 0),Pr.eq (.bool true),Pr.eq (.bool true),Pr.eq (.bool true),Pr.eq (.int .i64 0),Pr.eq (.bool true),Pr.eq (.bool true),Pr.eq (.bool true),Pr.eq (.int .u8 0),Pr.eq (.bool true),Pr.eq (.bool true),Pr.eq (.bool true),Pr.eq (.int .i64 0),Pr.eq (.bool true),Pr.eq (.bool true),Pr.eq (.bool true),Pr.eq (.int .i64 6),Pr.eq (.bool true),Pr.eq (.bool true),Pr.eq (.bool true),Pr.eq (.int .i64 18),Pr.eq (.bool true),Pr.eq (.bool true),Pr.eq (.bool true),Pr.eq (.int .i64 18),Pr.eq (.bool true),Pr.eq (.bool true),Pr.eq (.bool true),Pr.eq (.int .i64 0),Pr.eq (.bool true),Pr.eq (.bool true),Pr.eq (.bool true),Pr.eq (.pointer (some ⟨w8.heap.size,2,none⟩)),Pr.eq (.slice v_rk 0 v_rkc),Pr.eq (.int .i64 0),Pr.eq (.bool true),Pr.eq (.bool true),Pr.eq (.bool true),Pr.eq (.pointer (some ⟨w8.heap.size,0,none⟩)),Pr.eq (.pointer (some ⟨w8.heap.size,0,none⟩)),Pr.eq (.slice v_ra 0 v_rac),Pr.eq (.int .i64 0),Pr.eq (.bool true),Pr.eq (.bool true),Pr.eq (.bool true),Pr.eq (.pointer (some ⟨w8.heap.size,0,none⟩)),Pr.eq (.pointer (some ⟨w8.heap.size,1,none⟩)),Pr.eq (.int .i64 2),Pr.eq (.bool true),Pr.eq (.bool true),Pr.eq (.bool true)]) (by kernel_rfl) ?_ ?_
 ·refine ⟨?_,?_,?_,?_,?_,?_,?_,?_,?_,?_,?_,?_,?_,?_,?_,?_,?_,?_,?_,?_,?_,?_,?_,?_,?_,?_,?_,?_,?_,?_,?_,?_,?_,?_,?_,?_,?_,?_,?_,?_,?_,?_,?_,?_,?_,?_,?_,?_,?_,?_,?_,?_,?_,?_,?_,?_,?_,?_,?_,?_,?_,?_,?_,?_,?_,?_,?_,?_,?_,?_,?_,?_,?_,?_,?_,?_,?_,?_,?_,?_,?_,?_,trivial⟩
  ·intro a w hE hd ho
   refine .inl ⟨rfl,?_⟩
   intro K hK
   have hF : Ext w12b w:=hE
   have e52 : a.eval (.tmp 52) = .int .i64 6:=ho 52 (by kernel_rfl)
   rw [eval_tmp] at e52
   clear cR_0 cR_1 cR_2
   clear hd ho
   replace hK:=Lib.hid hK
   go_simp
   exact hK.out _ _ rfl (Ext.refl _)
  ·intro a w hE hd ho
   refine .inl ⟨rfl,?_⟩
   intro K hK
   have hF : Ext w12b w:=hE
   have e444 : a.eval (.tmp 444) = .int .i64 6:=hd 0 (by kernel_rfl)
   rw [eval_tmp] at e444
   clear cR_0 cR_1 cR_2
   clear hd ho
   replace hK:=Lib.hid hK
   go_simp
   exact hK.out _ _ rfl (Ext.refl _)
  ·intro a w hE hd ho
   refine .inl ⟨rfl,?_⟩
   intro K hK
   have hF : Ext w12b w:=hE
   have e445 : a.eval (.tmp 445) = .bool true:=hd 1 (by kernel_rfl)
   rw [eval_tmp] at e445
   clear cR_0 cR_1 cR_2
   clear hd ho
   replace hK:=Lib.hid hK
   go_simp
   exact hK.out _ _ rfl (Ext.refl _)
  ·intro a w hE hd ho
   refine .inl ⟨wanted_by 446 rfl rfl (hd 2 (by kernel_rfl)),?_⟩
   intro K hK
   have hF : Ext w12b w:=hE
   have e54 : a.eval (.tmp 54) = .int .u8 0:=ho 54 (by kernel_rfl)
   rw [eval_tmp] at e54
   clear cR_0 cR_1 cR_2
   clear hd ho
   replace hK:=Lib.hid hK
   go_simp
   exact hK.out _ _ rfl (Ext.refl _)
  ·intro a w hE hd ho
   refine .inl ⟨wanted_by 446 rfl rfl (hd 2 (by kernel_rfl)),?_⟩
   intro K hK
   have hF : Ext w12b w:=hE
   have e447 : a.eval (.tmp 447) = .int .u8 0:=hd 3 (by kernel_rfl)
   rw [eval_tmp] at e447
   clear cR_0 cR_1 cR_2
   clear hd ho
   replace hK:=Lib.hid hK
   go_simp
   exact hK.out _ _ rfl (Ext.refl _)
  ·intro a w hE hd ho
   refine .inl ⟨rfl,?_⟩
   intro K hK
   have hF : Ext w12b w:=hE
   have e446 : a.eval (.tmp 446) = .bool true:=hd 2 (by kernel_rfl)
   rw [eval_tmp] at e446
   have e448 : a.eval (.tmp 448) = .bool true:=hd 4 (by kernel_rfl)
   rw [eval_tmp] at e448
   clear cR_0 cR_1 cR_2
   clear hd ho
   replace hK:=Lib.hid hK
   go_simp
   exact hK.out _ _ rfl (Ext.refl _)
  ·intro a w hE hd ho
   refine .inl ⟨rfl,?_⟩
   intro K hK
   have hF : Ext w12b w:=hE
   have e449 : a.eval (.tmp 449) = .bool true:=hd 5 (by kernel_rfl)
   rw [eval_tmp] at e449
   clear cR_0 cR_1 cR_2
   clear hd ho
   replace hK:=Lib.hid hK
   go_simp
   exact hK.out _ _ rfl (Ext.refl _)
  ·intro a w hE hd ho
   refine .inl ⟨wanted_by 450 rfl rfl (hd 6 (by kernel_rfl)),?_⟩
   intro K hK
   have hF : Ext w12b w:=hE
   have e55 : a.eval (.tmp 55) = .int .i64 0:=ho 55 (by kernel_rfl)
   rw [eval_tmp] at e55
   clear cR_0 cR_1 cR_2
   clear hd ho
   replace hK:=Lib.hid hK
   go_simp
   exact hK.out _ _ rfl (Ext.refl _)
  ·intro a w hE hd ho
   refine .inl ⟨wanted_by 450 rfl rfl (hd 6 (by kernel_rfl)),?_⟩
   intro K hK
   have hF : Ext w12b w:=hE
   have e451 : a.eval (.tmp 451) = .int .i64 0:=hd 7 (by kernel_rfl)
   rw [eval_tmp] at e451
   clear cR_0 cR_1 cR_2
   clear hd ho
   replace hK:=Lib.hid hK
   go_simp
   exact hK.out _ _ rfl (Ext.refl _)
  ·intro a w hE hd ho
   refine .inl ⟨rfl,?_⟩
   intro K hK
   have hF : Ext w12b w:=hE
   have e450 : a.eval (.tmp 450) = .bool true:=hd 6 (by kernel_rfl)
   rw [eval_tmp] at e450
   have e452 : a.eval (.tmp 452) = .bool true:=hd 8 (by kernel_rfl)
   rw [eval_tmp] at e452
   clear cR_0 cR_1 cR_2
   clear hd ho
   replace hK:=Lib.hid hK
   go_simp
   exact hK.out _ _ rfl (Ext.refl _)
  ·intro a w hE hd ho
   refine .inl ⟨rfl,?_⟩
   intro K hK
   have hF : Ext w12b w:=hE
   have e453 : a.eval (.tmp 453) = .bool true:=hd 9 (by kernel_rfl)
   rw [eval_tmp] at e453
   clear cR_0 cR_1 cR_2
   clear hd ho
   replace hK:=Lib.hid hK
   go_simp
   exact hK.out _ _ rfl (Ext.refl _)
  ·intro a w hE hd ho
   refine .inl ⟨wanted_by 454 rfl rfl (hd 10 (by kernel_rfl)),?_⟩
   intro K hK
   have hF : Ext w12b w:=hE
   have e58 : a.eval (.tmp 58) = .int .u8 0:=ho 58 (by kernel_rfl)
   rw [eval_tmp] at e58
   clear cR_0 cR_1 cR_2
   clear hd ho
   replace hK:=Lib.hid hK
   go_simp
   exact hK.out _ _ rfl (Ext.refl _)
  ·intro a w hE hd ho
   refine .inl ⟨wanted_by 454 rfl rfl (hd 10 (by kernel_rfl)),?_⟩
   intro K hK
   have hF : Ext w12b w:=hE
   have e455 : a.eval (.tmp 455) = .int .u8 0:=hd 11 (by kernel_rfl)
   rw [eval_tmp] at e455
   clear cR_0 cR_1 cR_2
   clear hd ho
   replace hK:=Lib.hid hK
   go_simp
   exact hK.out _ _ rfl (Ext.refl _)
  ·intro a w hE hd ho
   refine .inl ⟨rfl,?_⟩
   intro K hK
   have hF : Ext w12b w:=hE
   have e454 : a.eval (.tmp 454) = .bool true:=hd 10 (by kernel_rfl)
   rw [eval_tmp] at e454
   have e456 : a.eval (.tmp 456) = .bool true:=hd 12 (by kernel_rfl)
   rw [eval_tmp] at e456
   clear cR_0 cR_1 cR_2
   clear hd ho
   replace hK:=Lib.hid hK
   go_simp
   exact hK.out _ _ rfl (Ext.refl _)
  ·intro a w hE hd ho
   refine .inl ⟨rfl,?_⟩
   intro K hK
   have hF : Ext w12b w:=hE
   have e457 : a.eval (.tmp 457) = .bool true:=hd 13 (by kernel_rfl)
   rw [eval_tmp] at e457
   clear cR_0 cR_1 cR_2
   clear hd ho
   replace hK:=Lib.hid hK
   go_simp
   exact hK.out _ _ rfl (Ext.refl _)
  ·intro a w hE hd ho
   refine .inl ⟨wanted_by 458 rfl rfl (hd 14 (by kernel_rfl)),?_⟩
   intro K hK
   have hF : Ext w12b w:=hE
   have e59 : a.eval (.tmp 59) = .int .i64 0:=ho 59 (by kernel_rfl)
   rw [eval_tmp] at e59
   clear cR_0 cR_1 cR_2
   clear hd ho
   replace hK:=Lib.hid hK
   go_simp
   exact hK.out _ _ rfl (Ext.refl _)
  ·intro a w hE hd ho
   refine .inl ⟨wanted_by 458 rfl rfl (hd 14 (by kernel_rfl)),?_⟩
   intro K hK
   have hF : Ext w12b w:=hE
   have e459 : a.eval (.tmp 459) = .int .i64 0:=hd 15 (by kernel_rfl)
   rw [eval_tmp] at e459
   clear cR_0 cR_1 cR_2
   clear hd ho
   replace hK:=Lib.hid hK
   go_simp
   exact hK.out _ _ rfl (Ext.refl _)
  ·intro a w hE hd ho
   refine .inl ⟨rfl,?_⟩
   intro K hK
   have hF : Ext w12b w:=hE
   have e458 : a.eval (.tmp 458) = .bool true:=hd 14 (by kernel_rfl)
   rw [eval_tmp] at e458
   have e460 : a.eval (.tmp 460) = .bool true:=hd 16 (by kernel_rfl)
   rw [eval_tmp] at e460
   clear cR_0 cR_1 cR_2
   clear hd ho
   replace hK:=Lib.hid hK
   go_simp
   exact hK.out _ _ rfl (Ext.refl _)
  ·intro a w hE hd ho
   refine .inl ⟨rfl,?_⟩
   intro K hK
   have hF : Ext w12b w:=hE
   have e461 : a.eval (.tmp 461) = .bool true:=hd 17 (by kernel_rfl)
   rw [eval_tmp] at e461
   clear cR_0 cR_1 cR_2
   clear hd ho
   replace hK:=Lib.hid hK
   go_simp
   exact hK.out _ _ rfl (Ext.refl _)
  ·intro a w hE hd ho
   refine .inl ⟨wanted_by 462 rfl rfl (hd 18 (by kernel_rfl)),?_⟩
   intro K hK
   have hF : Ext w12b w:=hE
   have e61 : a.eval (.tmp 61) = .int .u8 2:=ho 61 (by kernel_rfl)
   rw [eval_tmp] at e61
   clear cR_0 cR_1 cR_2
   clear hd ho
   replace hK:=Lib.hid hK
   go_simp
   exact hK.out _ _ rfl (Ext.refl _)
  ·intro a w hE hd ho
   refine .inl ⟨wanted_by 462 rfl rfl (hd 18 (by kernel_rfl)),?_⟩
   intro K hK
   have hF : Ext w12b w:=hE
   have e463 : a.eval (.tmp 463) = .int .u8 2:=hd 19 (by kernel_rfl)
   rw [eval_tmp] at e463
   clear cR_0 cR_1 cR_2
   clear hd ho
   replace hK:=Lib.hid hK
   go_simp
   exact hK.out _ _ rfl (Ext.refl _)
  ·intro a w hE hd ho
   refine .inl ⟨rfl,?_⟩
   intro K hK
   have hF : Ext w12b w:=hE
   have e462 : a.eval (.tmp 462) = .bool true:=hd 18 (by kernel_rfl)
   rw [eval_tmp] at e462
   have e464 : a.eval (.tmp 464) = .bool true:=hd 20 (by kernel_rfl)
   rw [eval_tmp] at e464
   clear cR_0 cR_1 cR_2
   clear hd ho
   replace hK:=Lib.hid hK
   go_simp
   exact hK.out _ _ rfl (Ext.refl _)
  ·intro a w hE hd ho
   refine .inl ⟨rfl,?_⟩
   intro K hK
   have hF : Ext w12b w:=hE
   have e465 : a.eval (.tmp 465) = .bool true:=hd 21 (by kernel_rfl)
   rw [eval_tmp] at e465
   clear cR_0 cR_1 cR_2
   clear hd ho
   replace hK:=Lib.hid hK
   go_simp
   exact hK.out _ _ rfl (Ext.refl _)
  ·intro a w hE hd ho
   refine .inl ⟨wanted_by 466 rfl rfl (hd 22 (by kernel_rfl)),?_⟩
   intro K hK
   have hF : Ext w12b w:=hE
   have e62 : a.eval (.tmp 62) = .int .i64 0:=ho 62 (by kernel_rfl)
   rw [eval_tmp] at e62
   clear cR_0 cR_1 cR_2
   clear hd ho
   replace hK:=Lib.hid hK
   go_simp
   exact hK.out _ _ rfl (Ext.refl _)
  ·intro a w hE hd ho
   refine .inl ⟨wanted_by 466 rfl rfl (hd 22 (by kernel_rfl)),?_⟩
   intro K hK
   have hF : Ext w12b w:=hE
   have e467 : a.eval (.tmp 467) = .int .i64 0:=hd 23 (by kernel_rfl)
   rw [eval_tmp] at e467
   clear cR_0 cR_1 cR_2
   clear hd ho
   replace hK:=Lib.hid hK
   go_simp
   exact hK.out _ _ rfl (Ext.refl _)
  ·intro a w hE hd ho
   refine .inl ⟨rfl,?_⟩
   intro K hK
   have hF : Ext w12b w:=hE
   have e466 : a.eval (.tmp 466) = .bool true:=hd 22 (by kernel_rfl)
   rw [eval_tmp] at e466
   have e468 : a.eval (.tmp 468) = .bool true:=hd 24 (by kernel_rfl)
   rw [eval_tmp] at e468
   clear cR_0 cR_1 cR_2
   clear hd ho
   replace hK:=Lib.hid hK
   go_simp
   exact hK.out _ _ rfl (Ext.refl _)
  ·intro a w hE hd ho
   refine .inl ⟨rfl,?_⟩
   intro K hK
   have hF : Ext w12b w:=hE
   have e469 : a.eval (.tmp 469) = .bool true:=hd 25 (by kernel_rfl)
   rw [eval_tmp] at e469
   clear cR_0 cR_1 cR_2
   clear hd ho
   replace hK:=Lib.hid hK
   go_simp
   exact hK.out _ _ rfl (Ext.refl _)
  ·intro a w hE hd ho
   refine .inl ⟨wanted_by 470 rfl rfl (hd 26 (by kernel_rfl)),?_⟩
   intro K hK
   have hF : Ext w12b w:=hE
   have e64 : a.eval (.tmp 64) = .int .u8 2:=ho 64 (by kernel_rfl)
   rw [eval_tmp] at e64
   clear cR_0 cR_1 cR_2
   clear hd ho
   replace hK:=Lib.hid hK
   go_simp
   exact hK.out _ _ rfl (Ext.refl _)
  ·intro a w hE hd ho
   refine .inl ⟨wanted_by 470 rfl rfl (hd 26 (by kernel_rfl)),?_⟩
   intro K hK
   have hF : Ext w12b w:=hE
   have e471 : a.eval (.tmp 471) = .int .u8 2:=hd 27 (by kernel_rfl)
   rw [eval_tmp] at e471
   clear cR_0 cR_1 cR_2
   clear hd ho
   replace hK:=Lib.hid hK
   go_simp
   exact hK.out _ _ rfl (Ext.refl _)
  ·intro a w hE hd ho
   refine .inl ⟨rfl,?_⟩
   intro K hK
   have hF : Ext w12b w:=hE
   have e470 : a.eval (.tmp 470) = .bool true:=hd 26 (by kernel_rfl)
   rw [eval_tmp] at e470
   have e472 : a.eval (.tmp 472) = .bool true:=hd 28 (by kernel_rfl)
   rw [eval_tmp] at e472
   clear cR_0 cR_1 cR_2
   clear hd ho
   replace hK:=Lib.hid hK
   go_simp
   exact hK.out _ _ rfl (Ext.refl _)
  ·intro a w hE hd ho
   refine .inl ⟨rfl,?_⟩
   intro K hK
   have hF : Ext w12b w:=hE
   have e473 : a.eval (.tmp 473) = .bool true:=hd 29 (by kernel_rfl)
   rw [eval_tmp] at e473
   clear cR_0 cR_1 cR_2
   clear hd ho
   replace hK:=Lib.hid hK
   go_simp
   exact hK.out _ _ rfl (Ext.refl _)
  ·intro a w hE hd ho
   refine .inl ⟨wanted_by 474 rfl rfl (hd 30 (by kernel_rfl)),?_⟩
   intro K hK
   have hF : Ext w12b w:=hE
   have e65 : a.eval (.tmp 65) = .int .i64 0:=ho 65 (by kernel_rfl)
   rw [eval_tmp] at e65
   clear cR_0 cR_1 cR_2
   clear hd ho
   replace hK:=Lib.hid hK
   go_simp
   exact hK.out _ _ rfl (Ext.refl _)
  ·intro a w hE hd ho
   refine .inl ⟨wanted_by 474 rfl rfl (hd 30 (by kernel_rfl)),?_⟩
   intro K hK
   have hF : Ext w12b w:=hE
   have e475 : a.eval (.tmp 475) = .int .i64 0:=hd 31 (by kernel_rfl)
   rw [eval_tmp] at e475
   clear cR_0 cR_1 cR_2
   clear hd ho
   replace hK:=Lib.hid hK
   go_simp
   exact hK.out _ _ rfl (Ext.refl _)
  ·intro a w hE hd ho
   refine .inl ⟨rfl,?_⟩
   intro K hK
   have hF : Ext w12b w:=hE
   have e474 : a.eval (.tmp 474) = .bool true:=hd 30 (by kernel_rfl)
   rw [eval_tmp] at e474
   have e476 : a.eval (.tmp 476) = .bool true:=hd 32 (by kernel_rfl)
   rw [eval_tmp] at e476
   clear cR_0 cR_1 cR_2
   clear hd ho
   replace hK:=Lib.hid hK
   go_simp
   exact hK.out _ _ rfl (Ext.refl _)
  ·intro a w hE hd ho
   refine .inl ⟨rfl,?_⟩
   intro K hK
   have hF : Ext w12b w:=hE
   have e477 : a.eval (.tmp 477) = .bool true:=hd 33 (by kernel_rfl)
   rw [eval_tmp] at e477
   clear cR_0 cR_1 cR_2
   clear hd ho
   replace hK:=Lib.hid hK
   go_simp
   exact hK.out _ _ rfl (Ext.refl _)
  ·intro a w hE hd ho
   refine .inl ⟨wanted_by 478 rfl rfl (hd 34 (by kernel_rfl)),?_⟩
   intro K hK
   have hF : Ext w12b w:=hE
   have e67 : a.eval (.tmp 67) = .int .i64 0:=ho 67 (by kernel_rfl)
   rw [eval_tmp] at e67
   clear cR_0 cR_1 cR_2
   clear hd ho
   replace hK:=Lib.hid hK
   go_simp
   exact hK.out _ _ rfl (Ext.refl _)
  ·intro a w hE hd ho
   refine .inl ⟨wanted_by 478 rfl rfl (hd 34 (by kernel_rfl)),?_⟩
   intro K hK
   have hF : Ext w12b w:=hE
   have e479 : a.eval (.tmp 479) = .int .i64 0:=hd 35 (by kernel_rfl)
   rw [eval_tmp] at e479
   clear cR_0 cR_1 cR_2
   clear hd ho
   replace hK:=Lib.hid hK
   go_simp
   exact hK.out _ _ rfl (Ext.refl _)
  ·intro a w hE hd ho
   refine .inl ⟨rfl,?_⟩
   intro K hK
   have hF : Ext w12b w:=hE
   have e478 : a.eval (.tmp 478) = .bool true:=hd 34 (by kernel_rfl)
   rw [eval_tmp] at e478
   have e480 : a.eval (.tmp 480) = .bool true:=hd 36 (by kernel_rfl)
   rw [eval_tmp] at e480
   clear cR_0 cR_1 cR_2
   clear hd ho
   replace hK:=Lib.hid hK
   go_simp
   exact hK.out _ _ rfl (Ext.refl _)
  ·intro a w hE hd ho
   refine .inl ⟨rfl,?_⟩
   intro K hK
   have hF : Ext w12b w:=hE
   have e481 : a.eval (.tmp 481) = .bool true:=hd 37 (by kernel_rfl)
   rw [eval_tmp] at e481
   clear cR_0 cR_1 cR_2
   clear hd ho
   replace hK:=Lib.hid hK
   go_simp
   exact hK.out _ _ rfl (Ext.refl _)
  ·intro a w hE hd ho
   refine .inl ⟨wanted_by 482 rfl rfl (hd 38 (by kernel_rfl)),?_⟩
   intro K hK
   have hF : Ext w12b w:=hE
   have e69 : a.eval (.tmp 69) = .int .u8 0:=ho 69 (by kernel_rfl)
   rw [eval_tmp] at e69
   clear cR_0 cR_1 cR_2
   clear hd ho
   replace hK:=Lib.hid hK
   go_simp
   exact hK.out _ _ rfl (Ext.refl _)
  ·intro a w hE hd ho
   refine .inl ⟨wanted_by 482 rfl rfl (hd 38 (by kernel_rfl)),?_⟩
   intro K hK
   have hF : Ext w12b w:=hE
   have e483 : a.eval (.tmp 483) = .int .u8 0:=hd 39 (by kernel_rfl)
   rw [eval_tmp] at e483
   clear cR_0 cR_1 cR_2
   clear hd ho
   replace hK:=Lib.hid hK
   go_simp
   exact hK.out _ _ rfl (Ext.refl _)
  ·intro a w hE hd ho
   refine .inl ⟨rfl,?_⟩
   intro K hK
   have hF : Ext w12b w:=hE
   have e482 : a.eval (.tmp 482) = .bool true:=hd 38 (by kernel_rfl)
   rw [eval_tmp] at e482
   have e484 : a.eval (.tmp 484) = .bool true:=hd 40 (by kernel_rfl)
   rw [eval_tmp] at e484
   clear cR_0 cR_1 cR_2
   clear hd ho
   replace hK:=Lib.hid hK
   go_simp
   exact hK.out _ _ rfl (Ext.refl _)
  ·intro a w hE hd ho
   refine .inl ⟨rfl,?_⟩
   intro K hK
   have hF : Ext w12b w:=hE
   have e485 : a.eval (.tmp 485) = .bool true:=hd 41 (by kernel_rfl)
   rw [eval_tmp] at e485
   clear cR_0 cR_1 cR_2
   clear hd ho
   replace hK:=Lib.hid hK
   go_simp
   exact hK.out _ _ rfl (Ext.refl _)
  ·intro a w hE hd ho
   refine .inl ⟨wanted_by 486 rfl rfl (hd 42 (by kernel_rfl)),?_⟩
   intro K hK
   have hF : Ext w12b w:=hE
   have e70 : a.eval (.tmp 70) = .int .i64 0:=ho 70 (by kernel_rfl)
   rw [eval_tmp] at e70
   clear cR_0 cR_1 cR_2
   clear hd ho
   replace hK:=Lib.hid hK
   go_simp
   exact hK.out _ _ rfl (Ext.refl _)
  ·intro a w hE hd ho
   refine .inl ⟨wanted_by 486 rfl rfl (hd 42 (by kernel_rfl)),?_⟩
   intro K hK
   have hF : Ext w12b w:=hE
   have e487 : a.eval (.tmp 487) = .int .i64 0:=hd 43 (by kernel_rfl)
   rw [eval_tmp] at e487
   clear cR_0 cR_1 cR_2
   clear hd ho
   replace hK:=Lib.hid hK
   go_simp
   exact hK.out _ _ rfl (Ext.refl _)
  ·intro a w hE hd ho
   refine .inl ⟨rfl,?_⟩
   intro K hK
   have hF : Ext w12b w:=hE
   have e486 : a.eval (.tmp 486) = .bool true:=hd 42 (by kernel_rfl)
   rw [eval_tmp] at e486
   have e488 : a.eval (.tmp 488) = .bool true:=hd 44 (by kernel_rfl)
   rw [eval_tmp] at e488
   clear cR_0 cR_1 cR_2
   clear hd ho
   replace hK:=Lib.hid hK
   go_simp
   exact hK.out _ _ rfl (Ext.refl _)
  ·intro a w hE hd ho
   refine .inl ⟨rfl,?_⟩
   intro K hK
   have hF : Ext w12b w:=hE
   have e489 : a.eval (.tmp 489) = .bool true:=hd 45 (by kernel_rfl)
   rw [eval_tmp] at e489
   clear cR_0 cR_1 cR_2
   clear hd ho
   replace hK:=Lib.hid hK
   go_simp
   exact hK.out _ _ rfl (Ext.refl _)
  ·intro a w hE hd ho
   refine .inl ⟨wanted_by 490 rfl rfl (hd 46 (by kernel_rfl)),?_⟩
   intro K hK
   have hF : Ext w12b w:=hE
   have e72 : a.eval (.tmp 72) = .int .i64 6:=ho 72 (by kernel_rfl)
   rw [eval_tmp] at e72
   clear cR_0 cR_1 cR_2
   clear hd ho
   replace hK:=Lib.hid hK
   go_simp
   exact hK.out _ _ rfl (Ext.refl _)
  ·intro a w hE hd ho
   refine .inl ⟨wanted_by 490 rfl rfl (hd 46 (by kernel_rfl)),?_⟩
   intro K hK
   have hF : Ext w12b w:=hE
   have e491 : a.eval (.tmp 491) = .int .i64 6:=hd 47 (by kernel_rfl)
   rw [eval_tmp] at e491
   clear cR_0 cR_1 cR_2
   clear hd ho
   replace hK:=Lib.hid hK
   go_simp
   exact hK.out _ _ rfl (Ext.refl _)
  ·intro a w hE hd ho
   refine .inl ⟨rfl,?_⟩
   intro K hK
   have hF : Ext w12b w:=hE
   have e490 : a.eval (.tmp 490) = .bool true:=hd 46 (by kernel_rfl)
   rw [eval_tmp] at e490
   have e492 : a.eval (.tmp 492) = .bool true:=hd 48 (by kernel_rfl)
   rw [eval_tmp] at e492
   clear cR_0 cR_1 cR_2
   clear hd ho
   replace hK:=Lib.hid hK
   go_simp
   exact hK.out _ _ rfl (Ext.refl _)
  ·intro a w hE hd ho
   refine .inl ⟨rfl,?_⟩
   intro K hK
   have hF : Ext w12b w:=hE
   have e493 : a.eval (.tmp 493) = .bool true:=hd 49 (by kernel_rfl)
   rw [eval_tmp] at e493
   clear cR_0 cR_1 cR_2
   clear hd ho
   replace hK:=Lib.hid hK
   go_simp
   exact hK.out _ _ rfl (Ext.refl _)
  ·intro a w hE hd ho
   refine .inl ⟨wanted_by 494 rfl rfl (hd 50 (by kernel_rfl)),?_⟩
   intro K hK
   have hF : Ext w12b w:=hE
   have e77 : a.eval (.tmp 77) = .int .i64 18:=ho 77 (by kernel_rfl)
   rw [eval_tmp] at e77
   clear cR_0 cR_1 cR_2
   clear hd ho
   replace hK:=Lib.hid hK
   go_simp
   exact hK.out _ _ rfl (Ext.refl _)
  ·intro a w hE hd ho
   refine .inl ⟨wanted_by 494 rfl rfl (hd 50 (by kernel_rfl)),?_⟩
   intro K hK
   have hF : Ext w12b w:=hE
   have e495 : a.eval (.tmp 495) = .int .i64 18:=hd 51 (by kernel_rfl)
   rw [eval_tmp] at e495
   clear cR_0 cR_1 cR_2
   clear hd ho
   replace hK:=Lib.hid hK
   go_simp
   exact hK.out _ _ rfl (Ext.refl _)
  ·intro a w hE hd ho
   refine .inl ⟨rfl,?_⟩
   intro K hK
   have hF : Ext w12b w:=hE
   have e494 : a.eval (.tmp 494) = .bool true:=hd 50 (by kernel_rfl)
   rw [eval_tmp] at e494
   have e496 : a.eval (.tmp 496) = .bool true:=hd 52 (by kernel_rfl)
   rw [eval_tmp] at e496
   clear cR_0 cR_1 cR_2
   clear hd ho
   replace hK:=Lib.hid hK
   go_simp
   exact hK.out _ _ rfl (Ext.refl _)
  ·intro a w hE hd ho
   refine .inl ⟨rfl,?_⟩
   intro K hK
   have hF : Ext w12b w:=hE
   have e497 : a.eval (.tmp 497) = .bool true:=hd 53 (by kernel_rfl)
   rw [eval_tmp] at e497
   clear cR_0 cR_1 cR_2
   clear hd ho
   replace hK:=Lib.hid hK
   go_simp
   exact hK.out _ _ rfl (Ext.refl _)
  ·intro a w hE hd ho
   refine .inl ⟨wanted_by 498 rfl rfl (hd 54 (by kernel_rfl)),?_⟩
   intro K hK
   have hF : Ext w12b w:=hE
   have e80 : a.eval (.tmp 80) = .int .i64 18:=ho 80 (by kernel_rfl)
   rw [eval_tmp] at e80
   clear cR_0 cR_1 cR_2
   clear hd ho
   replace hK:=Lib.hid hK
   go_simp
   exact hK.out _ _ rfl (Ext.refl _)
  ·intro a w hE hd ho
   refine .inl ⟨wanted_by 498 rfl rfl (hd 54 (by kernel_rfl)),?_⟩
   intro K hK
   have hF : Ext w12b w:=hE
   have e499 : a.eval (.tmp 499) = .int .i64 18:=hd 55 (by kernel_rfl)
   rw [eval_tmp] at e499
   clear cR_0 cR_1 cR_2
   clear hd ho
   replace hK:=Lib.hid hK
   go_simp
   exact hK.out _ _ rfl (Ext.refl _)
  ·intro a w hE hd ho
   refine .inl ⟨rfl,?_⟩
   intro K hK
   have hF : Ext w12b w:=hE
   have e498 : a.eval (.tmp 498) = .bool true:=hd 54 (by kernel_rfl)
   rw [eval_tmp] at e498
   have e500 : a.eval (.tmp 500) = .bool true:=hd 56 (by kernel_rfl)
   rw [eval_tmp] at e500
   clear cR_0 cR_1 cR_2
   clear hd ho
   replace hK:=Lib.hid hK
   go_simp
   exact hK.out _ _ rfl (Ext.refl _)
  ·intro a w hE hd ho
   refine .inl ⟨rfl,?_⟩
   intro K hK
   have hF : Ext w12b w:=hE
   have e501 : a.eval (.tmp 501) = .bool true:=hd 57 (by kernel_rfl)
   rw [eval_tmp] at e501
   clear cR_0 cR_1 cR_2
   clear hd ho
   replace hK:=Lib.hid hK
   go_simp
   exact hK.out _ _ rfl (Ext.refl _)
  ·intro a w hE hd ho
   refine .inl ⟨wanted_by 502 rfl rfl (hd 58 (by kernel_rfl)),?_⟩
   intro K hK
   have hF : Ext w12b w:=hE
   have e82 : a.eval (.tmp 82) = .int .i64 0:=ho 82 (by kernel_rfl)
   rw [eval_tmp] at e82
   clear cR_0 cR_1 cR_2
   clear hd ho
   replace hK:=Lib.hid hK
   go_simp
   exact hK.out _ _ rfl (Ext.refl _)
  ·intro a w hE hd ho
   refine .inl ⟨wanted_by 502 rfl rfl (hd 58 (by kernel_rfl)),?_⟩
   intro K hK
   have hF : Ext w12b w:=hE
   have e503 : a.eval (.tmp 503) = .int .i64 0:=hd 59 (by kernel_rfl)
   rw [eval_tmp] at e503
   clear cR_0 cR_1 cR_2
   clear hd ho
   replace hK:=Lib.hid hK
   go_simp
   exact hK.out _ _ rfl (Ext.refl _)
  ·intro a w hE hd ho
   refine .inl ⟨rfl,?_⟩
   intro K hK
   have hF : Ext w12b w:=hE
   have e502 : a.eval (.tmp 502) = .bool true:=hd 58 (by kernel_rfl)
   rw [eval_tmp] at e502
   have e504 : a.eval (.tmp 504) = .bool true:=hd 60 (by kernel_rfl)
   rw [eval_tmp] at e504
   clear cR_0 cR_1 cR_2
   clear hd ho
   replace hK:=Lib.hid hK
   go_simp
   exact hK.out _ _ rfl (Ext.refl _)
  ·intro a w hE hd ho
   refine .inl ⟨rfl,?_⟩
   intro K hK
   have hF : Ext w12b w:=hE
   have e505 : a.eval (.tmp 505) = .bool true:=hd 61 (by kernel_rfl)
   rw [eval_tmp] at e505
   clear cR_0 cR_1 cR_2
   clear hd ho
   replace hK:=Lib.hid hK
   go_simp
   exact hK.out _ _ rfl (Ext.refl _)
  ·intro a w hE hd ho
   refine .inl ⟨wanted_by 506 rfl rfl (hd 62 (by kernel_rfl)),?_⟩
   intro K hK
   have hF : Ext w12b w:=hE
   have e81 : a.eval (.tmp 81) = .pointer (some ⟨w8.heap.size,0,none⟩):=ho 81 (by kernel_rfl)
   rw [eval_tmp] at e81
   clear cR_0 cR_1 cR_2
   clear hd ho
   replace hK:=Lib.hid hK
   go_simp
   exact hK.out _ _ rfl (Ext.refl _)
  ·intro a w hE hd ho
   refine .inl ⟨wanted_by 506 rfl rfl (hd 62 (by kernel_rfl)),?_⟩
   intro K hK
   have hF : Ext w12b w:=hE
   have e507 : a.eval (.tmp 507) = .pointer (some ⟨w8.heap.size,2,none⟩):=hd 63 (by kernel_rfl)
   rw [eval_tmp] at e507
   have cR_2w:=Ext.cell hF cR_2
   clear cR_0 cR_1 cR_2
   clear hd ho
   replace hK:=Lib.hid hK
   go_simp
   exact hK.out _ _ rfl (Ext.refl _)
  ·intro a w hE hd ho
   refine .inl ⟨wanted_by 506 rfl rfl (hd 62 (by kernel_rfl)),?_⟩
   intro K hK
   have hF : Ext w12b w:=hE
   have e508 : a.eval (.tmp 508) = .slice v_rk 0 v_rkc:=hd 64 (by kernel_rfl)
   rw [eval_tmp] at e508
   clear cR_0 cR_1 cR_2
   clear hd ho
   replace hK:=Lib.hid hK
   go_simp
   exact hK.out _ _ rfl (Ext.refl _)
  ·intro a w hE hd ho
   refine .inl ⟨wanted_by 506 rfl rfl (hd 62 (by kernel_rfl)),?_⟩
   intro K hK
   have hF : Ext w12b w:=hE
   have e509 : a.eval (.tmp 509) = .int .i64 0:=hd 65 (by kernel_rfl)
   rw [eval_tmp] at e509
   clear cR_0 cR_1 cR_2
   clear hd ho
   replace hK:=Lib.hid hK
   go_simp
   exact hK.out _ _ rfl (Ext.refl _)
  ·intro a w hE hd ho
   refine .inl ⟨rfl,?_⟩
   intro K hK
   have hF : Ext w12b w:=hE
   have e506 : a.eval (.tmp 506) = .bool true:=hd 62 (by kernel_rfl)
   rw [eval_tmp] at e506
   have e510 : a.eval (.tmp 510) = .bool true:=hd 66 (by kernel_rfl)
   rw [eval_tmp] at e510
   clear cR_0 cR_1 cR_2
   clear hd ho
   replace hK:=Lib.hid hK
   go_simp
   exact hK.out _ _ rfl (Ext.refl _)
  ·intro a w hE hd ho
   refine .inl ⟨rfl,?_⟩
   intro K hK
   have hF : Ext w12b w:=hE
   have e511 : a.eval (.tmp 511) = .bool true:=hd 67 (by kernel_rfl)
   rw [eval_tmp] at e511
   clear cR_0 cR_1 cR_2
   clear hd ho
   replace hK:=Lib.hid hK
   go_simp
   exact hK.out _ _ rfl (Ext.refl _)
  ·intro a w hE hd ho
   refine .inl ⟨wanted_by 512 rfl rfl (hd 68 (by kernel_rfl)),?_⟩
   intro K hK
   have hF : Ext w12b w:=hE
   have e81 : a.eval (.tmp 81) = .pointer (some ⟨w8.heap.size,0,none⟩):=ho 81 (by kernel_rfl)
   rw [eval_tmp] at e81
   clear cR_0 cR_1 cR_2
   clear hd ho
   replace hK:=Lib.hid hK
   go_simp
   exact hK.out _ _ rfl (Ext.refl _)
  ·intro a w hE hd ho
   refine .inl ⟨wanted_by 512 rfl rfl (hd 68 (by kernel_rfl)),?_⟩
   intro K hK
   have hF : Ext w12b w:=hE
   have e513 : a.eval (.tmp 513) = .pointer (some ⟨w8.heap.size,0,none⟩):=hd 69 (by kernel_rfl)
   rw [eval_tmp] at e513
   clear cR_0 cR_1 cR_2
   clear hd ho
   replace hK:=Lib.hid hK
   go_simp
   exact hK.out _ _ rfl (Ext.refl _)
  ·intro a w hE hd ho
   refine .inl ⟨wanted_by 512 rfl rfl (hd 68 (by kernel_rfl)),?_⟩
   intro K hK
   have hF : Ext w12b w:=hE
   have e514 : a.eval (.tmp 514) = .pointer (some ⟨w8.heap.size,0,none⟩):=hd 70 (by kernel_rfl)
   rw [eval_tmp] at e514
   have cR_0w:=Ext.cell hF cR_0
   clear cR_0 cR_1 cR_2
   clear hd ho
   replace hK:=Lib.hid hK
   go_simp
   exact hK.out _ _ rfl (Ext.refl _)
  ·intro a w hE hd ho
   refine .inl ⟨wanted_by 512 rfl rfl (hd 68 (by kernel_rfl)),?_⟩
   intro K hK
   have hF : Ext w12b w:=hE
   have e515 : a.eval (.tmp 515) = .slice v_ra 0 v_rac:=hd 71 (by kernel_rfl)
   rw [eval_tmp] at e515
   clear cR_0 cR_1 cR_2
   clear hd ho
   replace hK:=Lib.hid hK
   go_simp
   exact hK.out _ _ rfl (Ext.refl _)
  ·intro a w hE hd ho
   refine .inl ⟨wanted_by 512 rfl rfl (hd 68 (by kernel_rfl)),?_⟩
   intro K hK
   have hF : Ext w12b w:=hE
   have e516 : a.eval (.tmp 516) = .int .i64 0:=hd 72 (by kernel_rfl)
   rw [eval_tmp] at e516
   clear cR_0 cR_1 cR_2
   clear hd ho
   replace hK:=Lib.hid hK
   go_simp
   exact hK.out _ _ rfl (Ext.refl _)
  ·intro a w hE hd ho
   refine .inl ⟨rfl,?_⟩
   intro K hK
   have hF : Ext w12b w:=hE
   have e512 : a.eval (.tmp 512) = .bool true:=hd 68 (by kernel_rfl)
   rw [eval_tmp] at e512
   have e517 : a.eval (.tmp 517) = .bool true:=hd 73 (by kernel_rfl)
   rw [eval_tmp] at e517
   clear cR_0 cR_1 cR_2
   clear hd ho
   replace hK:=Lib.hid hK
   go_simp
   exact hK.out _ _ rfl (Ext.refl _)
  ·intro a w hE hd ho
   refine .inl ⟨rfl,?_⟩
   intro K hK
   have hF : Ext w12b w:=hE
   have e518 : a.eval (.tmp 518) = .bool true:=hd 74 (by kernel_rfl)
   rw [eval_tmp] at e518
   clear cR_0 cR_1 cR_2
   clear hd ho
   replace hK:=Lib.hid hK
   go_simp
   exact hK.out _ _ rfl (Ext.refl _)
  ·intro a w hE hd ho
   refine .inl ⟨wanted_by 519 rfl rfl (hd 75 (by kernel_rfl)),?_⟩
   intro K hK
   have hF : Ext w12b w:=hE
   have e81 : a.eval (.tmp 81) = .pointer (some ⟨w8.heap.size,0,none⟩):=ho 81 (by kernel_rfl)
   rw [eval_tmp] at e81
   clear cR_0 cR_1 cR_2
   clear hd ho
   replace hK:=Lib.hid hK
   go_simp
   exact hK.out _ _ rfl (Ext.refl _)
  ·intro a w hE hd ho
   refine .inl ⟨wanted_by 519 rfl rfl (hd 75 (by kernel_rfl)),?_⟩
   intro K hK
   have hF : Ext w12b w:=hE
   have e520 : a.eval (.tmp 520) = .pointer (some ⟨w8.heap.size,0,none⟩):=hd 76 (by kernel_rfl)
   rw [eval_tmp] at e520
   clear cR_0 cR_1 cR_2
   clear hd ho
   replace hK:=Lib.hid hK
   go_simp
   exact hK.out _ _ rfl (Ext.refl _)
  ·intro a w hE hd ho
   refine .inl ⟨wanted_by 519 rfl rfl (hd 75 (by kernel_rfl)),?_⟩
   intro K hK
   have hF : Ext w12b w:=hE
   have e521 : a.eval (.tmp 521) = .pointer (some ⟨w8.heap.size,1,none⟩):=hd 77 (by kernel_rfl)
   rw [eval_tmp] at e521
   have cR_1w:=Ext.cell hF cR_1
   clear cR_0 cR_1 cR_2
   clear hd ho
   replace hK:=Lib.hid hK
   go_simp
   exact hK.out _ _ rfl (Ext.refl _)
  ·intro a w hE hd ho
   refine .inl ⟨wanted_by 519 rfl rfl (hd 75 (by kernel_rfl)),?_⟩
   intro K hK
   have hF : Ext w12b w:=hE
   have e522 : a.eval (.tmp 522) = .int .i64 2:=hd 78 (by kernel_rfl)
   rw [eval_tmp] at e522
   clear cR_0 cR_1 cR_2
   clear hd ho
   replace hK:=Lib.hid hK
   go_simp
   exact hK.out _ _ rfl (Ext.refl _)
  ·intro a w hE hd ho
   refine .inl ⟨rfl,?_⟩
   intro K hK
   have hF : Ext w12b w:=hE
   have e519 : a.eval (.tmp 519) = .bool true:=hd 75 (by kernel_rfl)
   rw [eval_tmp] at e519
   have e523 : a.eval (.tmp 523) = .bool true:=hd 79 (by kernel_rfl)
   rw [eval_tmp] at e523
   clear cR_0 cR_1 cR_2
   clear hd ho
   replace hK:=Lib.hid hK
   go_simp
   exact hK.out _ _ rfl (Ext.refl _)
  ·intro a w hE hd ho
   refine .inl ⟨rfl,?_⟩
   intro K hK
   have hF : Ext w12b w:=hE
   have e524 : a.eval (.tmp 524) = .bool true:=hd 80 (by kernel_rfl)
   rw [eval_tmp] at e524
   clear cR_0 cR_1 cR_2
   clear hd ho
   replace hK:=Lib.hid hK
   go_simp
   exact hK.out _ _ rfl (Ext.refl _)
 ·intro vals wq hE hv
  have hF : Ext w12b wq:=hE
  have ee : vals 81 = .bool true:=hv 81 (by decide)
  clear hv hE cR_0 cR_1 cR_2
  try dsimp only [List.append]
  simp only [putAll]
  simp (maxSteps:=10000000) [go_sem]
  try rw [ee]
  clear ee
  obtain ⟨wf69,hwq⟩ : ∃ z,wq=z:=⟨_,rfl⟩
  rw [hwq] at hF ⊢
  clear hwq
  replace bF:=bF.ext hF
  replace bO:=bO.ext hF
  replace bP:=bP.ext hF
  replace bR:=bR.ext hF
  have hF14:=Ext.trans hF13 hF
  clear bR
  go_wp2_with fail
  have ltbF:=Lib.hid bF.lt
  refine (monitor_New wf69).mono ?_
  rintro e w15 ⟨rfl,hE15⟩
  replace bF:=bF.ext hE15
  replace bO:=bO.ext hE15
  replace bP:=bP.ext hE15
  have hF15:=Ext.trans hF14 hE15
  clear ltbF
  go_wp2_with fail
  have ne_bF_bI : Hid (AF≠w15.heap.size):=Hid.mk (by have h9:=bF.lt;omega)
  have bI:=Box.new w15 28 #[.slice none 0 0,.int .i64 0,.slice none 0 0,.slice none 0 0,.int .i64 1,.int .i64 1]
  have hza : (World.alloc w15 (.cells #[.slice none 0 0,.int .i64 0,.slice none 0 0,.slice none 0 0,.int .i64 1,.int .i64 1] 28)).heap.size=w15.heap.size+1:=by rw [World.size_alloc]
  have hx16 : Ext w15 (World.alloc w15 (.cells #[.slice none 0 0,.int .i64 0,.slice none 0 0,.slice none 0 0,.int .i64 1,.int .i64 1] 28)):=(Ext.refl _).alloc _
  obtain ⟨w16b,hw16⟩ : ∃ z,World.alloc w15 (.cells #[.slice none 0 0,.int .i64 0,.slice none 0 0,.slice none 0 0,.int .i64 1,.int .i64 1] 28)=z:=⟨_,rfl⟩
  rw [hw16] at bI hx16 hza ⊢
  clear hw16
  have hzb0:=hza
  clear hza
  replace bF:=bF.ext hx16
  replace bO:=bO.ext hx16
  replace bP:=bP.ext hx16
  have hF17:=Ext.trans hF15 hx16
  clear hzb0
  have ltbF:=Lib.hid bF.lt
  refine (law35_alive (hp.out.ext hF17)).mono ?_
  rintro e w18 ⟨rfl,hE18⟩
  replace bF:=bF.ext hE18
  replace bO:=bO.ext hE18
  replace bP:=bP.ext hE18
  replace bI:=bI.ext hE18
  have hF18:=Ext.trans hF17 hE18
  clear ltbF
  obtain ⟨bI_0,bI_1,bI_2,bI_3,bI_4,bI_5,bI_l⟩:=bI.c6
  go_wp2_with fail
  clear bI_0 bI_1 bI_2 bI_3 bI_4 bI_5 bI_l
  have ltbF:=Lib.hid bF.lt
  refine (mon_Check' (m:=newMon) (Als.nil _) (i64_of_ok (m:=newMon) (by decide +kernel)) (Kts.nil _) (Nts.nil _)).mono ?_
  rintro e w19 ⟨rfl,hE19⟩
  replace bF:=bF.ext hE19
  replace bO:=bO.ext hE19
  replace bP:=bP.ext hE19
  replace bI:=bI.ext hE19
  have hF19:=Ext.trans hF18 hE19
  rw [show monErr newMon=0 by decide +kernel]
  clear ltbF
  obtain ⟨bI_0,bI_1,bI_2,bI_3,bI_4,bI_5,bI_l⟩:=bI.c6
  go_wp2
  go_ret
  exact ⟨rfl,hF19⟩
set_option maxRecDepth 1000000 in
set_option maxHeartbeats 25600000 in
theorem names35_loop {wS w0 : World} {AF AN AO BP : Nat} {xo xr xw : Mon} {lw : List Cell} {na nk nr v_fa v_fk v_fr v_oa v_ok v_or : Option Addr} {nac nkc nrc v_fac v_fkc v_frc v_oac v_okc v_orc : Nat}
  {x0 x1 x2 x3 x6 x7 x9 x10 x12 x13 x14 x16 x17 x18 x20 x21 x22 x24 x25 x26 x28 x29 x30 x32 x33 x36 x37 x40 x41 x44 x47 x48 x50 x51 x56 x57 x60 x63 x66 x68 x71 x74 x75 x76 x77 x78 x79 x80 x81 x82 x83 x84 x85 x86 x87 x88 x89 x90 x91 x92 x93 x94 x95 x96 x97 x98 x99 x100 x101 x102 x103 x104 x105 x106 x107 x108 x109 x110 x111 x112 x113 x114 x115 x116 x117 x118 x119 x120 x121 x122 x123 x124 x125 x126 x127 x128 x129 x130 x131 x132 x133 x134 x135 x136 x137 x138 x139 x140 x141 x142 x143 x144 x145 x146 x147 x148 x149 x150 x151 x152 x153 x154 x155 x156 x157 x158 x159 x160 x161 x162 x163 x164 x165 x166 x167 x168 x169 x170 x171 x172 x173 x174 x175 x176 x177 x178 x179 x180 x181 x182 x183 x184 x185 x186 x187 x188 x189 x190 x191 x192 x193 x194 x195 x196 x197 x198 x199 x200 x201 x202 x203 x204 x205 x206 x207 x208 x209 x210 x211 x212 x213 x214 x215 x216 x217 x218 x219 x220 x221 x222 x223 x224 x225 x226 x227 x228 x229 x230 x231 x232 x233 x234 x235 x236 x237 x238 x239 x240 x241 x242 x243 x244 x245 x246 x247 x248 x249 x250 x251 x252 x253 x254 x255 x256 x257 x258 x259 x260 x261 x262 x263 x264 x265 x266 x267 x268 x269 x270 x271 x272 x273 x274 x275 x276 x277 x278 x279 x280 x281 x282 x283 x284 x285 x286 x287 x288 x289 x290 x291 x292 x293 x294 x295 x296 x297 x298 x299 x300 x301 x302 x303 x304 x305 x306 x307 x308 x309 x310 x311 x312 x313 x314 x315 x316 x317 x318 x319 x320 x321 x322 x323 x324 x325 x326 x327 x328 x329 x330 x331 x332 x333 x334 x335 x336 x337 x338 x339 x340 x341 x342 x343 x344 x345 x346 x347 x348 x349 x350 x351 x352 x353 x354 x355 x356 x357 x358 x359 x360 x361 x362 x363 x364 x365 x366 x367 x368 x369 x370 x371 x372 x373 x374 x375 x376 x377 x378 x379 x380 x381 x382 x383 x384 x385 x386 x387 x388 x389 x390 x391 x392 x393 x394 x395 x396 x397 x398 x399 x400 x401 x402 x403 x404 x405 x406 x407 x408 x409 x410 x411 x412 x413 x414 x415 x416 x417 x418 x419 x420 x421 x422 x423 x424 x425 x426 x427 x428 x429 x430 x431 x432 x433 x434 x435 x436 x437 x438 x439 x440 x441 x442 x443 x444 x445 x446 x447 x448 x449 x450 x451 x452 x453 x454 x455 x456 x457 x458 x459 x460 x461 x462 x463 x464 x465 x466 x467 x468 x469 x470 x471 x472 x473 x474 x475 x476 x477 x478 x479 x480 x481 x482 x483 x484 x485 x486 x487 x488 x489 x490 x491 x492 x493 x494 x495 x496 x497 x498 x499 x500 x501 x502 x503 x504 x505 x506 x507 x508 x509 x510 x511 x512 x513 x514 x515 x516 x517 x518 x519 x520 x521 x522 x523 x524 x525 x526 x527 x528 x529 x530 x531 x532 x533 x534 x535 x536 x537 x538 x539 x540 x541 x542 x543 x544 x545 x546 x547 x548 x549 x550 x551 x552 x553 x554 x555 x556 x557 x558 : Value} {K K2 : Act→World→Prop} (hK : ∀ a w,Code.wp Tryz.prog ((Tryz.f3.body.bind (cutR 58)).getD (.skip,.skip)).2 (Exit.then K2 (bodyPost Tryz.prog Tryz.f3 fun e w'=>e=Ending.returned (Value.bool true)∧Ext wS w')) a w→K a w) (hK2 : ∀ a w,Code.wp Tryz.prog (Code.seq ((Tryz.f3.body.bind (cutR 62)).getD (.skip,.skip)).1 ((Tryz.f3.body.bind (cutR 62)).getD (.skip,.skip)).2) (bodyPost Tryz.prog Tryz.f3 fun e w'=>e=Ending.returned (Value.bool true)∧Ext wS w') a w→K2 a w)
  (hp : Perms wS) (hF0 : Ext wS w0) (lowbF : wS.heap.size≤AF) (lowbN : wS.heap.size≤AN)
  (ne_bF_bN : AF≠AN) (ne_bN_bF : AN≠AF) (ne_bF_bO : AF≠AO) (ne_bN_bO : AN≠AO) (ne_bF_bP : AF≠BP) (ne_bN_bP : AN≠BP)
  (bF : Box w0 AF 28 #[.slice v_fa fullM.mem.al.length v_fac,.int .i64 fullM.mem.next,.slice v_fk fullM.stks.length v_fkc,.slice v_fr fullM.run.length v_frc,.int .i64 fullM.tag,.int .i64 fullM.call])
  (bN : Box w0 AN 28 #[.slice na 1 nac,.int .i64 2,.slice nk 1 nkc,.slice none 0 0,.int .i64 2,.int .i64 50])
  (bO : Box w0 AO 28 #[.slice v_oa xo.mem.al.length v_oac,.int .i64 xo.mem.next,.slice v_ok xo.stks.length v_okc,.slice v_or xo.run.length v_orc,.int .i64 xo.tag,.int .i64 xo.call])
  (bP : Box w0 BP 43 #[.int .i64 0,.int .i64 0,.int .i64 1])
  (Gf : Fq (fun b=>b≠AF∧b≠AN∧True) w0 (RdA fullM ⟨v_fa,v_fac,v_fk,v_fkc,v_fr,v_frc⟩))
  (Go : Fq (fun b=>b≠AF∧b≠AN∧True) w0 (RdA xo ⟨v_oa,v_oac,v_ok,v_okc,v_or,v_orc⟩))
  (Gn : Fq (fun b=>b≠AF∧b≠AN∧True) w0 (RdA givenM ⟨na,nac,nk,nkc,nr,nrc⟩))
  (nxo : i64B xo.mem.next) (hr : forgetM xo=(xr,0)) (hw : loadM xo ⟨0,0,1⟩ 1=(xw,lw,3,0)) (hr1 : xr.stks=[]) (hr2 : xr.mem.al=[]) (hr3 : xr.mem.next=2) :
  Code.wp Tryz.prog ((Tryz.f3.body.bind (cutR 58)).getD (.skip,.skip)).1 (Exit.then K (Exit.then K2 (bodyPost Tryz.prog Tryz.f3 fun e w'=>e=Ending.returned (Value.bool true)∧Ext wS w'))) ⟨#[x0,x1,x2,x3,.pointer (some ⟨BP,0,none⟩),.pointer (some ⟨AF,0,none⟩),x6,x7,.int .i64 18,x9,x10,.int .i64 2,x12,x13,x14,.int .i64 18,x16,x17,x18,.int .i64 2,x20,x21,x22,.int .i64 2,x24,x25,x26,.int .i64 2,x28,x29,x30,.int .i64 2,x32,x33,.int .u8 3,.int .i64 0,x36,x37,.int .u8 4,.int .i64 0,x40,x41,.int .u8 1,.int .i64 0,x44,.int .u8 3,.int .i64 0,x47,x48,.int .i64 8,x50,x51,.int .i64 6,.pointer (some ⟨AO,0,none⟩),.int .u8 0,.int .i64 0,x56,x57,.int .u8 0,.int .i64 0,x60,.int .u8 2,.int .i64 0,x63,.int .u8 2,.int .i64 0,x66,.int .i64 0,x68,.int .u8 0,.int .i64 0,x71,.int .i64 6,.pointer (some ⟨AN,0,none⟩),x74,x75,x76,x77,x78,x79,x80,x81,x82,x83,x84,x85,x86,x87,x88,x89,x90,x91,x92,x93,x94,x95,x96,x97,x98,x99,x100,x101,x102,x103,x104,x105,x106,x107,x108,x109,x110,x111,x112,x113,x114,x115,x116,x117,x118,x119,x120,x121,x122,x123,x124,x125,x126,x127,x128,x129,x130,x131,x132,x133,x134,x135,x136,x137,x138,x139,x140,x141,x142,x143,x144,x145,x146,x147,x148,x149,x150,x151,x152,x153,x154,x155,x156,x157,x158,x159,x160,x161,x162,x163,x164,x165,x166,x167,x168,x169,x170,x171,x172,x173,x174,x175,x176,x177,x178,x179,x180,x181,x182,x183,x184,x185,x186,x187,x188,x189,x190,x191,x192,x193,x194,x195,x196,x197,x198,x199,x200,x201,x202,x203,x204,x205,x206,x207,x208,x209,x210,x211,x212,x213,x214,x215,x216,x217,x218,x219,x220,x221,x222,x223,x224,x225,x226,x227,x228,x229,x230,x231,x232,x233,x234,x235,x236,x237,x238,x239,x240,x241,x242,x243,x244,x245,x246,x247,x248,x249,x250,x251,x252,x253,x254,x255,x256,x257,x258,x259,x260,x261,x262,x263,x264,x265,x266,x267,x268,x269,x270,x271,x272,x273,x274,x275,x276,x277,x278,x279,x280,x281,x282,x283,x284,x285,x286,x287,x288,x289,x290,x291,x292,x293,x294,x295,x296,x297,x298,x299,x300,x301,x302,x303,x304,x305,x306,x307,x308,x309,x310,x311,x312,x313,x314,x315,x316,x317,x318,x319,x320,x321,x322,x323,x324,x325,x326,x327,x328,x329,x330,x331,x332,x333,x334,x335,x336,x337,x338,x339,x340,x341,x342,x343,x344,x345,x346,x347,x348,x349,x350,x351,x352,x353,x354,x355,x356,x357,x358,x359,x360,x361,x362,x363,x364,x365,x366,x367,x368,x369,x370,x371,x372,x373,x374,x375,x376,x377,x378,x379,x380,x381,x382,x383,x384,x385,x386,x387,x388,x389,x390,x391,x392,x393,x394,x395,x396,x397,x398,x399,x400,x401,x402,x403,x404,x405,x406,x407,x408,x409,x410,x411,x412,x413,x414,x415,x416,x417,x418,x419,x420,x421,x422,x423,x424,x425,x426,x427,x428,x429,x430,x431,x432,x433,x434,x435,x436,x437,x438,x439,x440,x441,x442,x443,x444,x445,x446,x447,x448,x449,x450,x451,x452,x453,x454,x455,x456,x457,x458,x459,x460,x461,x462,x463,x464,x465,x466,x467,x468,x469,x470,x471,x472,x473,x474,x475,x476,x477,x478,x479,x480,x481,x482,x483,x484,x485,x486,x487,x488,x489,x490,x491,x492,x493,x494,x495,x496,x497,x498,x499,x500,x501,x502,x503,x504,x505,x506,x507,x508,x509,x510,x511,x512,x513,x514,x515,x516,x517,x518,x519,x520,x521,x522,x523,x524,x525,x526,x527,x528,x529,x530,x531,x532,x533,x534,x535,x536,x537,x538,x539,x540,x541,x542,x543,x544,x545,x546,x547,x548,x549,x550,x551,x552,x553,x554,x555,x556,x557,x558],[]⟩ w0:=by
 replace hp:=Lib.hid hp;replace lowbF:=Lib.hid lowbF;replace lowbN:=Lib.hid lowbN;replace ne_bF_bN:=Lib.hid ne_bF_bN;replace ne_bN_bF:=Lib.hid ne_bN_bF;replace ne_bF_bO:=Lib.hid ne_bF_bO;replace ne_bN_bO:=Lib.hid ne_bN_bO;replace ne_bF_bP:=Lib.hid ne_bF_bP;replace ne_bN_bP:=Lib.hid ne_bN_bP;replace Gf:=Lib.hid Gf;replace Go:=Lib.hid Go;replace Gn:=Lib.hid Gn;replace nxo:=Lib.hid nxo;replace hr:=Lib.hid hr;replace hw:=Lib.hid hw;replace hr1:=Lib.hid hr1;replace hr2:=Lib.hid hr2;replace hr3:=Lib.hid hr3
 conv=>arg 2;whnf
 conv at hK=>intro a w;arg 1;arg 2;whnf
 conv at hK2=>intro a w;arg 1;arg 2;arg 1;whnf
 conv at hK2=>intro a w;arg 1;arg 2;arg 2;whnf
 have ltN:=Lib.hid bN.lt
 go_wp2
 go_loopw [74] (fun jv wr => ∃ (j : Nat) (v : Value),j≤32∧jv = .int .i64 ((j : Int)+1)∧Own wr w0.heap.size 3 1 v j ((upto35 j).flatMap irow)∧Box wr AN 28 #[.slice na 1 nac,.int .i64 2,.slice nk 1 nkc,v,.int .i64 2,.int .i64 50]∧ExtBut (fun b=>b=AN∨False) w0 wr) (fun jv _=>33 - (intOf jv).toNat)
 case atStart=>exact ⟨0,.slice none 0 0,by omega,rfl,Own.nil _ _ _ _,bN,ExtBut.refl _ _⟩
 case round =>
  obtain ⟨j,v,hj,rfl,hOv,bN2,hX⟩:=hrel
  obtain ⟨va,vc,rfl,hvc,hvm,-⟩:=hOv.sl.slice_form
  by_cases hlt : j < 32
  ·skip
   have hle : decide ((j : Int)+1≤32)=true:=decide_eq_true (by omega)
   obtain ⟨ni,nz,hni,hnz,hni3,hnz3,hnby⟩:=Int.infoE
   replace hni:=Lib.hid hni;replace hnz:=Lib.hid hnz;replace hni3:=Lib.hid hni3;replace hnz3:=Lib.hid hnz3;replace hnby:=Lib.hid hnby
   have hE6 : Ext wr (World.alloc wr (.cells #[.int .i64 ((j : Int)+1)] 3)):=(Ext.refl _).alloc _
   have hS6 : Sl (World.alloc wr (.cells #[.int .i64 ((j : Int)+1)] 3)) 1 (.slice (some ⟨wr.heap.size,0,none⟩) 1 1) 1 [.int .i64 ((j : Int)+1)]:=(Own.lit' (B:=0) (e:=3) (k:=1) wr #[.int .i64 ((j : Int)+1)] 1 (Nat.zero_le _) (by simp [maxLen]) rfl).sl
   replace hS6:=Lib.hid hS6;replace hE6:=Lib.hid hE6;have hO6:=Lib.hid (hOv.ext hE6.out);have hXs:=Lib.hid hX.size;replace hX:=Lib.hid hX;replace hOv:=Lib.hid hOv;have hj9:=Lib.hid hlt;clear hj hvc hvm
   obtain ⟨bN2_0,bN2_1,bN2_2,bN2_3,bN2_4,bN2_5,bN2_l⟩:=bN2.c6
   go_wp2_with (at_builtin;refine Hid.out ?_)
   clear bN2_0 bN2_1 bN2_2 bN2_3 bN2_4 bN2_5 bN2_l
   refine Hid.mk ?_
   refine wpList_append_any rfl _ _ 26 26 rfl rfl rfl Tryz.underlying26 Tryz.underlying26 hni.out hnz.out hni3.out hnz3.out hO6.out hS6.out (by simp [Value.oneCell']) (by have:=hj9.out;simp [maxLen];omega) (by rw [hnby.out];have:=hj9.out;omega) (Nat.le_trans hXs.out hE6.out.size) ?_
   intro v' w6 hOv6 hKv hbv hgv
   have hX6 : ExtBut (fun b=>b=AN∨False) w0 w6:=(hX.out.trans (ExtBut.of_ext hE6.out)).trans' (ExtBut.of_keeps hKv) (fun x hx h=>by have h1:=(hOv.out.lt h).1;omega)
   have bN6:=(bN2.ext hE6.out).but (ExtBut.of_keeps hKv) (fun h=>by have h1:=(hOv.out.lt h).1;have h2:=ltN.out;omega)
   obtain ⟨va',vc',rfl,-⟩:=hOv6.sl.slice_form
   clear hbv hgv hKv bN2 hO6 hS6 hE6 hOv hX
   replace hOv6:=Lib.hid hOv6;replace hX6:=Lib.hid hX6
   have bN6_0 : World.cell? w6 ⟨AN,0,none⟩=some (.slice na 1 nac):=bN6.cell 0
   have bN6_1 : World.cell? w6 ⟨AN,1,none⟩=some (.int .i64 2):=bN6.cell 1
   have bN6_2 : World.cell? w6 ⟨AN,2,none⟩=some (.slice nk 1 nkc):=bN6.cell 2
   have bN6_3 : World.cell? w6 ⟨AN,3,none⟩=some (.slice va j vc):=bN6.cell 3
   have bN6_4 : World.cell? w6 ⟨AN,4,none⟩=some (.int .i64 2):=bN6.cell 4
   have bN6_5 : World.cell? w6 ⟨AN,5,none⟩=some (.int .i64 50):=bN6.cell 5
   have bN6_f0 : World.frozen? w6 ⟨AN,0,none⟩=false:=bN6.frozen 0
   have bN6_f1 : World.frozen? w6 ⟨AN,1,none⟩=false:=bN6.frozen 1
   have bN6_f2 : World.frozen? w6 ⟨AN,2,none⟩=false:=bN6.frozen 2
   have bN6_f3 : World.frozen? w6 ⟨AN,3,none⟩=false:=bN6.frozen 3
   have bN6_f4 : World.frozen? w6 ⟨AN,4,none⟩=false:=bN6.frozen 4
   have bN6_f5 : World.frozen? w6 ⟨AN,5,none⟩=false:=bN6.frozen 5
   have bN6_l:=bN6.lt
   go_wp2
   clear bN6_0 bN6_1 bN6_2 bN6_3 bN6_4 bN6_5 bN6_f0 bN6_f1 bN6_f2 bN6_f3 bN6_f4 bN6_f5 bN6_l
   go_roundw
   case rel=>exact ⟨j+1,.slice va' (j+1) vc',by have:=hj9.out;omega,by go_num,by rw [upto35_succ,List.flatMap_append];exact ExtBut.own hOv6.out (ExtBut.setCell w6 ⟨AN,3,none⟩ (.slice va' (j+1) vc')) (fun g e h=>by have h1:=(hOv6.out.lt e).1;have h2:=ltN.out;have h3 : g=AN:=h;omega),Box.setL bN6 3 (.slice va' (j+1) vc'),hX6.out.trans ((ExtBut.setCell w6 ⟨AN,3,none⟩ (.slice va' (j+1) vc')).mono (fun b _ h => .inl h))⟩
   case measure=>simp [intOf];omega
  obtain rfl : j=32:=by omega
  clear hlt hj hvc hvm
  have hle : decide (((32 : Nat) : Int)+1≤32)=false:=by decide
  clear bN
  have bN : Box wr AN 28 #[.slice na manyM.mem.al.length nac,.int .i64 manyM.mem.next,.slice nk manyM.stks.length nkc,.slice va manyM.run.length vc,.int .i64 manyM.tag,.int .i64 manyM.call]:=bN2
  clear bN2
  replace bF:=Box.but bF hX (fun h=>by rcases h with h | h;exact ne_bN_bF.out h.symm;exact h)
  replace bO:=Box.but bO hX (fun h=>by rcases h with h | h;exact ne_bN_bO.out h.symm;exact h)
  replace bP:=Box.but bP hX (fun h=>by rcases h with h | h;exact ne_bN_bP.out h.symm;exact h)
  replace Gf:=Lib.hid (Fq.but Gf.out hX (fun b h _ h2=>by rcases h2 with h2 | h2;exact h.2.1 h2;exact h2))
  replace Go:=Lib.hid (Fq.but Go.out hX (fun b h _ h2=>by rcases h2 with h2 | h2;exact h.2.1 h2;exact h2))
  replace Gn:=Lib.hid (Fq.but Gn.out hX (fun b h _ h2=>by rcases h2 with h2 | h2;exact h.2.1 h2;exact h2))
  have hF1:=ExtBut.ext hF0 hX (fun b h=>by rcases h with h | h;(rw [h];exact lowbN.out);exact h.elim)
  clear hX
  have hN9 : Nts wr (.slice va manyM.run.length vc) manyM.run:=hOv.sl
  have hAN9 : Als wr (.slice na manyM.mem.al.length nac) manyM.mem.al:=Gn.out.read.1
  have hKN9 : Kts wr (.slice nk manyM.stks.length nkc) manyM.stks:=Gn.out.read.2.1
  clear Gn hOv
  replace hN9:=Lib.hid hN9;replace hAN9:=Lib.hid hAN9;replace hKN9:=Lib.hid hKN9
  go_upto_region 62 with fail
  refine names35_rest ?_ hp.out hF1 lowbF.out ne_bF_bN.out ne_bF_bO.out ne_bF_bP.out bF bN bO bP (Fq.mono Gf.out (fun b h _=>⟨h.1,trivial⟩)) (Fq.mono Go.out (fun b h _=>⟨h.1,trivial⟩)) hAN9.out hKN9.out hN9.out nxo.out hr.out hw.out hr1.out hr2.out hr3.out
  assumption
end Go.Proofs.YtepdbdckjmkbhaaGreatDoor

/- How a statement is closed whose row lists the variable perms: what it holds at the start. -/
namespace Go.Proofs.YtepdbdckjmkbhaaGreatDoor
set_option maxRecDepth 100000
open Go.ChangeShapes Go.WideShapes Go.ChangeAt Go.RowKit
theorem gPerms : Tryz.prog.globalNamed "pawnshop/grant.perms" = some 0 := by kernel_rfl
theorem gPermsType : (Tryz.prog.globals[0]?).map (·.type)=some 141:=by kernel_rfl
theorem cellsPerms : Tryz.prog.cellsOf 141=5:=by kernel_rfl
theorem cellsU8 : Tryz.prog.cellsOf 5=1:=by kernel_rfl
theorem perms_of_laid {W : World} (h : laidMetH Tryz.prog [("pawnshop/grant.perms", Rows.laid_pawnshop_grant_perms)] W) : Perms W := by
 have hT : Lib.TabIs Tryz.prog W "pawnshop/grant.perms" .u8 [0, 4, 1, 2, 3] := Lib.tabIs_of_head (rest := []) gPerms gPermsType Tryz.underlying141 Tryz.underlying5 cellsU8 cellsPerms h
 exact ⟨hT.cell gPerms 0 (by decide),hT.cell gPerms 1 (by decide),hT.cell gPerms 2 (by decide),hT.cell gPerms 3 (by decide),hT.cell gPerms 4 (by decide)⟩
noncomputable def doorWorld (os : Os) : World :=
 { World.holding Tryz.prog os ⟨#[],#[],[]⟩ with heap:=(World.holding Tryz.prog os ⟨#[],#[],[]⟩).heap.modify 0 fun
   | .cells _ t frozen => .cells #[.int .u8 0,.int .u8 4,.int .u8 1,.int .u8 2,.int .u8 3] t frozen
   | o=>o }
end Go.Proofs.YtepdbdckjmkbhaaGreatDoor
