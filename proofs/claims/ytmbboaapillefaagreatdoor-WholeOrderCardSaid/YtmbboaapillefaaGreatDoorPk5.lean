/- Zru, Ev11, Ev12, Ev13, Ev15, Ev16, Ev17, Gn0, Wgn1, Wgn2, Ev18, Ev19, Ev20, Ev21, Ev22, Ev23, Ev24, Ev25, Ev26, Ev27, Ev31, Ev33, Wp1, Wo1, Wp2, Wo2, Wo3, Wo4, put together. -/
import Derived.Test.YtmbboaapillefaaGreatDoorPk4
import Derived.KernelRfl
namespace Go.Proofs.YtmbboaapillefaaGreatDoor
open Go Xe Pm
set_option maxRecDepth 100000
abbrev yZ : Sig:=⟨23,⟨[(0,.a 2),(1,.a 3)],[]⟩,.t [.a 31,.c .bo],[],false⟩
abbrev s4 : Sig:=⟨4,⟨[(0,.c .d),(1,.c .i),(2,.c .i),(3,.c .i)],[]⟩,.c .bo,[],true⟩
abbrev s9 : Sig:=⟨9,⟨[(0,.a 2),(1,.c .i),(2,.c .i),(3,.c .i)],[]⟩,.g [.w 0,.w 1],[(0,.w 60 6),(1,.w 52 31)],false⟩
abbrev s37 : Sig:=⟨37,⟨[(0,.a 15)],[]⟩,.c .i,[],true⟩
abbrev s36 : Sig:=⟨36,⟨[(0,.a 15),(1,.c .i),(2,.c .i),(3,.a 3)],[]⟩,.a 15,[],false⟩
abbrev Bi : Sig:=⟨127,⟨[(0,.a 15),(1,.c .i),(2,.c .i),(3,.a 3)],[]⟩,.t [.a 15,.c .i],[],false⟩
abbrev s15 : Sig:=⟨15,⟨[(0,.a 2)],[]⟩,.t [.c (.w 0),.c (.w 1)],[(0,.w 42 3),(1,.w 42 3)],false⟩
abbrev s63 : Sig:=⟨63,⟨[(0,.a 2)],[]⟩,.c (.w 0),[(0,.w 42 3)],false⟩
abbrev s78 : Sig:=⟨78,⟨[(0,.c (.w 0)),(1,.c (.f 55 []))],[(0,.w 42 3)]⟩,.t [],[(0,.w 42 3)],false⟩
abbrev s79 : Sig:=⟨79,⟨[(0,.c (.w 0))],[(0,.w 42 3)]⟩,.c (.w 1),[(1,.w 42 3)],false⟩
abbrev s18 : Sig:=⟨18,⟨[(0,.a 2),(1,.a 3)],[]⟩,.c (.w 0),[(0,.w 42 3)],false⟩
abbrev s46 : Sig:=⟨46,⟨[(0,.a 2),(1,.a 3)],[]⟩,.t [.a 31,.c .bo],[],false⟩
abbrev s146 : Sig:=⟨146,⟨[(0,.c .d),(1,.c (.f 147 [.p 0 0]))],[(0,.a 42 3)]⟩,.c .i,[(0,.a 42 3)],false⟩
abbrev s147 : Sig:=⟨147,⟨[(0,.a 31),(1,.c (.p 0 0))],[(0,.a 42 3)]⟩,.c .bo,[(0,.a 42 3)],false⟩
abbrev s73 : Sig:=⟨73,⟨[(0,.a 5)],[]⟩,.c (.w 0),[(0,.w 42 3)],false⟩
abbrev s49 : Sig:=⟨49,⟨[(0,.a 31)],[]⟩,.c .bo,[],true⟩
abbrev s74 : Sig:=⟨74,⟨[(0,.a 15),(1,.c (.f 75 [.p 0 0]))],[(0,.b 36 [.w 1]),(1,.w 42 3)]⟩,.t [],[(0,.b 36 [.w 2]),(2,.w 42 3)],false⟩
abbrev s75 : Sig:=⟨75,⟨[(0,.a 15),(1,.c (.p 0 0))],[(0,.b 36 [.w 1]),(1,.w 42 3)]⟩,.t [],[(0,.b 36 [.w 2]),(2,.w 42 3)],false⟩
abbrev s76 : Sig:=⟨76,⟨[(0,.c (.w 0)),(1,.c (.f 77 [.p 1 0]))],[(0,.w 42 3),(1,.a 26 2)]⟩,.c (.w 2),[(2,.w 42 3),(1,.a 26 2)],false⟩
abbrev s64 : Sig:=⟨64,⟨[(0,.c (.w 0)),(1,.c (.f 77 [.p 1 0]))],[(0,.w 42 3),(1,.a 26 2)]⟩,.c .i,[(0,.w 42 3),(1,.a 26 2)],false⟩
abbrev CV : Sig:=⟨64,⟨[(0,.c (.w 0)),(1,.c (.f 65 [.p 1 0,.p 2 0]))],[(0,.w 42 3),(1,.b 122 [.m 3]),(2,.b 36 [.w 4]),(3,.m 122 false 1),(4,.w 42 3)]⟩,.c .i,[(0,.w 42 3),(1,.b 122 [.m 3]),(2,.b 36 [.w 4]),(3,.m 122 false 1),(4,.w 42 3)],false⟩
abbrev CU : Sig:=⟨64,⟨[(0,.c .d),(1,.c (.f 67 [.p 0 0]))],[(0,.b 36 [.w 1]),(1,.w 42 3)]⟩,.c .i,[(0,.b 36 [.w 1]),(1,.w 42 3)],false⟩
abbrev s77 : Sig:=⟨77,⟨[(0,.a 3),(1,.c (.p 0 0))],[(0,.a 26 2)]⟩,.c .bo,[(0,.a 26 2)],false⟩
abbrev s65 : Sig:=⟨65,⟨[(0,.a 3),(1,.c (.p 0 0)),(2,.c (.p 1 0))],[(0,.b 122 [.m 2]),(1,.b 36 [.w 3]),(2,.m 122 false 1),(3,.w 42 3)]⟩,.c .bo,[(0,.b 122 [.m 2]),(1,.b 36 [.w 3]),(2,.m 122 false 1),(3,.w 42 3)],false⟩
abbrev s66 : Sig:=⟨66,⟨[(0,.c .d),(1,.c (.f 67 [.p 0 0]))],[(0,.b 36 [.w 1]),(1,.w 42 3)]⟩,.c .bo,[(0,.b 36 [.w 1]),(1,.w 42 3)],false⟩
abbrev s67 : Sig:=⟨67,⟨[(0,.a 3),(1,.c (.p 0 0))],[(0,.b 36 [.w 1]),(1,.w 42 3)]⟩,.c .bo,[(0,.b 36 [.w 1]),(1,.w 42 3)],false⟩
abbrev s68 : Sig:=⟨68,⟨[(0,.c (.w 0)),(1,.a 3)],[(0,.w 42 3)]⟩,.c .bo,[(0,.w 42 3)],false⟩
abbrev s160 : Sig:=⟨160,⟨[(0,.c (.w 0)),(1,.a 3)],[(0,.w 42 3)]⟩,.c .i,[(0,.w 42 3)],false⟩
abbrev s69 : Sig:=⟨69,⟨[(0,.c (.w 0)),(1,.c .i),(2,.c .i)],[(0,.w 42 3)]⟩,.c (.w 1),[(1,.w 42 3)],false⟩
abbrev s16 : Sig:=⟨16,⟨[(0,.a 2)],[]⟩,.t [.c (.w 0),.c .d],[(0,.w 42 3)],false⟩
abbrev s70 : Sig:=⟨70,⟨[(0,.c .d),(1,.a 3)],[]⟩,.c (.w 0),[(0,.w 42 3)],false⟩
abbrev s161 : Sig:=⟨161,⟨[(0,.a 3),(1,.a 3)],[]⟩,.c .bo,[],true⟩
abbrev s19 : Sig:=⟨19,⟨[(0,.a 2),(1,.a 3)],[]⟩,.c (.w 0),[(0,.w 42 3)],false⟩
abbrev s80 : Sig:=⟨80,⟨[(0,.a 31)],[]⟩,.c .d,[],false⟩
abbrev y7 : Sig:=⟨163,⟨[(0,.c .d),(1,.a 5)],[]⟩,.c .d,[],false⟩
abbrev s27 : Sig:=⟨27,⟨[(0,.c .i)],[]⟩,.c .bo,[],true⟩
abbrev Ew : Sig:=⟨164,⟨[(0,.a 15)],[]⟩,.c (.w 0),[(0,.w 50 15)],false⟩
abbrev s71 : Sig:=⟨71,⟨[(0,.c .d),(1,.c .d)],[]⟩,.c .bo,[],true⟩
abbrev s20 : Sig:=⟨20,⟨[(0,.c .d),(1,.a 3)],[]⟩,.c .bo,[],true⟩
abbrev s72 : Sig:=⟨72,⟨[(0,.c .d),(1,.a 3)],[]⟩,.c (.w 0),[(0,.w 42 3)],false⟩
abbrev s17 : Sig:=⟨17,⟨[(0,.c .d),(1,.c .d)],[]⟩,.c .bo,[],true⟩
abbrev s14 : Sig:=⟨14,⟨[],[]⟩,.c .bo,[],false⟩
def g23_1 : Tx:=fun _ a K=>jn (fun k1=>Lp (fun fQ st4=>ah (cell (ent st4 0) 0) fun z5=>aa 31 (cell (ent st4 1) 1) fun n6 _=>ifK
 (decide (z5 < (n6 : Int))) (aa 31 (cell (ent st4 1) 1) fun n8 c9=>ckK (0<=z5/\z5 < (n8 : Int)) (ah (cell (sub (el c9 31 (Int.toNat z5)) 0 3)
 0) fun z10=>ah (cell (sub (el c9 31 (Int.toNat z5)) 0 3) 1) fun z11=>ah (cell (sub (el c9 31 (Int.toNat z5)) 0 3) 2) fun z12=>ah (cell
 (ent st4 2) 0) fun z13=>ah (cell (ent st4 2) 1) fun z14=>ah (cell (ent st4 2) 2) fun z15=>ifK (decide (z10 = z13/\z11 = z14/\z12 = z15))
 (aa 31 (cell (ent st4 1) 1) fun n16 c17=>ckK (0<=z5/\z5 < (n16 : Int)) (K [el c17 31 (Int.toNat z5),[vB true]])) (ckK (okI (z5+1)) (fQ
 [[vI (z5+1)],ent st4 1,ent st4 2,ent st4 3])))) (k1 [ent st4 3])) [[vI 0],ent a 0,ent a 1,[vI 0,vI 0,vI 0,vI 0,vI 0,vI 0,vI 0,.v
 (.string (ByteArray.mk #[])),.sl 0 11 [],vI 0,vI 0,vI 0,vI 0,.sl 0 5 [],vI 0,vI 0,vI 0,vI 0,vI 0,vI 0,vI 0,vI 0,vI 0,vI 0,vI 0,vI
 0,.sl 0 5 [],.sl 0 15 [],.sl 0 1 [],vI 0,.sl 0 1 []]]) (fun _=>K [[vI 0,vI 0,vI 0,vI 0,vI 0,vI 0,vI 0,.v (.string (ByteArray.mk #[])),
 .sl 0 11 [],vI 0,vI 0,vI 0,vI 0,.sl 0 5 [],vI 0,vI 0,vI 0,vI 0,vI 0,vI 0,vI 0,vI 0,vI 0,vI 0,vI 0,vI 0,.sl 0 5 [],.sl 0 15 [],
 .sl 0 1 [],vI 0,.sl 0 1 []],[vB false]])
theorem w23_1 : Wd ⟨[],[42],[],[],aJ,aI,false,av,false,false,[]⟩ ⟨[(2,⟨[(2,.c (.p 0 0)),(3,.c (.p 1 0)),(4,.c (.p 2 0)),(6,.c .i)],[(0,.a 26 2),(1,.a 42 3),(2,.a 52 31)]⟩)],[(6,⟨[(4,.c (.p 0 0))],[(0,.a 52 31)]⟩)],[]⟩ yZ g23_1:=fun _ _ _=>by kernel_rfl
def g4 : Tx:=fun Is a K=>ah (cell (ent a 1) 0) fun z1=>ah (cell (ent a 2) 0) fun z2=>ah (cell (ent a 3) 0) fun z3=>caK Is s8 [[cell
 (ent a 0) 0]] fun r4=>caK Is s9 [ent r4 0,[vI z1],[vI z2],[vI z3]] fun r5=>aa 6 (cell (ent r5 0) 0) fun n6 c7=>aa 31 (cell (ent r5 1)
 0) fun n8 c9=>caK Is s9 [ent r4 0,[vI z3],[vI 14],[vI z1]] fun r10=>aa 6 (cell (ent r10 0) 0) fun n11 c12=>aa 31 (cell (ent r10 1) 0)
 fun n13 c14=>Lp (fun tH mB=>ah (cell (ent mB 0) 0) fun z17=>aa 2 (cell (ent mB 1) 0) fun n18 c19=>ifK (decide (z17 < (n18 :
 Int))) (ckK (0<=z17/\z17 < (n18 : Int)) (caK Is s15 [el c19 2 (Int.toNat z17)] fun r20=>aa 3 (cell (ent r20 0) 0) fun n21 c22=>aa 3 (cell
 (ent r20 1) 0) fun n23 c24=>ckK (0<=z17/\z17 < (n18 : Int)) (caK Is s16 [el c19 2 (Int.toNat z17)] fun r25=>aa 3 (cell (ent r25 1) 0) fun
 n26 c27=>caK Is s17 [[.sl n21 3 c22],[.sl n26 3 c27]] fun r28=>bU (cell (ent r28 0) 0) fun b29=>ifK (!b29) (K [[vB false]]) (caK Is s17
 [[.sl n23 3 c24],[cell (ent r25 0) 0]] fun r30=>bU (cell (ent r30 0) 0) fun b31=>ifK (!b31) (K [[vB false]]) (ckK (0<=z17/\z17 < (n18 :
 Int)) (caK Is s18 [el c19 2 (Int.toNat z17),[vI 7,vI 0,vI 0]] fun r32=>aa 3 (cell (ent r32 0) 0) fun n33 _=>ifK (decide ((0 : Int) < (n33 :
 Int))) (K [[vB false]]) (Lp (fun next35 st36=>ah (cell (ent st36 0) 0) fun z37=>ah (cell (ent st36 1) 0) fun z38=>aa 2 (cell (ent st36
 2) 0) fun n39 c40=>ckK (0<=z37/\z37 < (n39 : Int)) (aa 31 (cell (el c40 2 (Int.toNat z37)) 1) fun n41 _=>ifK (decide (z38 < (n41 : Int)))
 (ckK (0<=z37/\z37 < (n39 : Int)) (aa 31 (cell (el c40 2 (Int.toNat z37)) 1) fun n43 c44=>ckK (0<=z38/\z38 < (n43 : Int)) (ckK (0<=z37/\z37
 < (n39 : Int)) (caK Is s18 [el c40 2 (Int.toNat z37),sub (el c44 31 (Int.toNat z38)) 0 3] fun r45=>aa 3 (cell (ent r45 0) 0) fun n46 c47=>ckK
 (0<=z37/\z37 < (n39 : Int)) (caK Is s19 [el c40 2 (Int.toNat z37),sub (el c44 31 (Int.toNat z38)) 0 3] fun r48=>aa 3 (cell (ent r48 0) 0) fun
 n49 c50=>caK Is s17 [[.sl n46 3 c47],[.sl n49 3 c50]] fun r51=>bU (cell (ent r51 0) 0) fun b52=>ifK (!b52) (K [[vB false]]) (ckK (okI (z38
 + 1)) (next35 [[vI z37],[vI (z38+1)],[.sl n39 2 c40]]))))))) (ckK (okI (z37+1)) (tH [[vI (z37+1)],[.sl n39 2 c40]])))) [[vI z17],[vI
 0],[.sl n18 2 c19]]))))))) (caK Is s14 [] fun r53=>bU (cell (ent r53 0) 0) fun b54=>K [[vB b54]])) [[vI 0],[.sl 4 2 ((ent r4 0)++([.sl n6
 6 c7,.sl n8 31 c9,.sl n11 6 c12,.sl n13 31 c14,.sl 0 6 [],.sl 0 31 []]))]]
theorem w4 : Wd ⟨[s8,s9,s14,s15,s16,s17,s18,s19],[42],[],[],aJ,aI,false,av,false,false,[]⟩ ⟨[(4,⟨[(10,.c (.w 0)),(11,.c .i)],[(0,.w 26 2)]⟩),(11,⟨[(10,.c (.w 0)),(11,.c .i),(16,.c .i)],[(0,.w 26 2)]⟩)],[],[]⟩ s4 g4:=fun _ _ _=>by kernel_rfl
def g9 : Tx:=fun Is a K=>ah (cell (ent a 1) 0) fun z1=>ah (cell (ent a 2) 0) fun z2=>ah (cell (ent a 3) 0) fun z3=>aa 6 (cell (ent a
 0) 0) fun n4 c5=>ckK (room (0+n4) 89) (aa 31 (cell (ent a 0) 1) fun n6 c7=>ckK (room (0+n6) 353) (ifK (decide (((0+n6 : Nat) : Int) = (0
 : Int))) (K [[.sl (0+n4) 6 c5],[.sl (0+n6) 31 c7]]) (ifK (decide (((0+n4 : Nat) : Int) = (0 : Int))) (K [[.sl (0+n4) 6 c5],[.sl (0+n6)
 31 c7]]) (caK Is s22 [[vI z1],[vI ((0+n6 : Nat) : Int)]] fun r8=>ah (cell (ent r8 0) 0) fun z9=>caK Is s22 [[vI z1],[vI ((0+n4 : Nat) :
 Int)]] fun r10=>ah (cell (ent r10 0) 0) fun z11=>ckK (0<=z9/\z9 < ((0+n6 : Nat) : Int)) (aa 11 (cell (el c7 31 (Int.toNat z9)) 8) fun
 n12 c13=>ckK (room (0+n12) 113) (ckK ((9 : Int) ≠ 0/\okI (Int.tdiv z1 9)) (caK Is s22 [[vI (Int.tdiv z1 9)],[vI (max 1 ((0+n12 : Nat) :
 Int))]] fun r14=>ah (cell (ent r14 0) 0) fun z15=>caK Is s22 [[vI z3],[vI ((0+n6 : Nat) : Int)]] fun r16=>ah (cell (ent r16 0) 0) fun
 z17=>ckK (0<=z17/\z17 < ((0+n6 : Nat) : Int)) (jn (fun k18=>caK Is s22 [[vI z2],[vI 16]] fun r20=>ah (cell (ent r20 0) 0) fun z21 =>
 ifK (decide (z21 = (0 : Int))) (ckK ((8 : Int) ≠ 0/\okI (Int.tdiv z3 8)) (caK Is s22 [[vI (Int.tdiv z3 8)],[vI 5]] fun r22=>ah (cell (ent r22
 0) 0) fun z23=>ckK (0<=z23/\z23 < (5 : Int)) (k18 [[vI z9],[.sl 0 6 [],.sl 0 31 []],cls (el c7 31 (Int.toNat z9)) 0 7 (cell (el ([vS
 (ByteArray.mk #[]),vS (ByteArray.mk #[105,102]),cell (el c7 31 (Int.toNat z17)) 7,vS (ByteArray.mk #[97,32,98]),vS (ByteArray.mk #[102,105,
 110,101,55])]) 1 (Int.toNat z23)) 0::.sl (0+n12) 11 c13::cls (el c7 31 (Int.toNat z9)) 9 22 []),[.sl (0+n4) 6 c5],[.sl (0+n6) 31
 c7]]))) (ifK (decide (z21 = (1 : Int))) (ckK (0<=(0 : Int)/\(0 : Int) < ((0+n4 : Nat) : Int)) (ckK ((8 : Int) ≠ 0/\okI (Int.tdiv z3 8)) (caK Is
 s22 [[vI (Int.tdiv z3 8)],[vI 5]] fun r24=>ah (cell (ent r24 0) 0) fun z25=>ckK (0<=z25/\z25 < (5 : Int)) (ckK (0<=z11/\z11 < ((0+n4 :
 Nat) : Int)) (k18 [[vI z9],[.sl 0 6 [],.sl 0 31 []],cls (el c7 31 (Int.toNat z9)) 0 8 (.sl (0+n12) 11 c13::cls (el c7 31 (Int.toNat z9)) 9 22
 []),[.sl (0+n4) 6 (upd c5 ((Int.toNat z11) * 6+3) ([cell (el ([vS (ByteArray.mk #[]),vS (ByteArray.mk #[105,110]),cell (el c5 6 0) 3,vS
 (ByteArray.mk #[57]),vS (ByteArray.mk #[102,105,110,101,55])]) 1 (Int.toNat z25)) 0]))],[.sl (0+n6) 31 c7]]))))) (ifK (decide (z21 = (2 :
 Int))) (ifK (decide ((0 : Int) < ((0+n12 : Nat) : Int))) (ckK (0<=(0 : Int)/\(0 : Int) < ((0+n12 : Nat) : Int)) (caK Is s22 [[vI z3],[vI 4]]
 fun r26=>ah (cell (ent r26 0) 0) fun z27=>ckK (0<=z27/\z27 < (4 : Int)) (ckK (0<=z15/\z15 < ((0+n12 : Nat) : Int)) (k18 [[vI z9],[.sl 0
 6 [],.sl 0 31 []],cls (el c7 31 (Int.toNat z9)) 0 8 (.sl (0+n12) 11 (upd c13 ((Int.toNat z15) * 11+3) ([cell (el ([vS (ByteArray.mk #[]),vS
 (ByteArray.mk #[108,101,116]),cell (el c13 11 0) 3,vS (ByteArray.mk #[95])]) 1 (Int.toNat z27)) 0]))::cls (el c7 31 (Int.toNat z9)) 9 22 []),
 [.sl (0+n4) 6 c5],[.sl (0+n6) 31 c7]])))) (k18 [[vI z9],[.sl 0 6 [],.sl 0 31 []],cls (el c7 31 (Int.toNat z9)) 0 8 (.sl (0+n12) 11 c13 ::
 cls (el c7 31 (Int.toNat z9)) 9 22 []),[.sl (0+n4) 6 c5],[.sl (0+n6) 31 c7]])) (ifK (decide (z21 = (3 : Int))) (ckK (0<=z11/\z11 < ((0+n4
 : Nat) : Int)) (k18 [[vI z9],[.sl 0 6 [],.sl 0 31 []],cls (el c7 31 (Int.toNat z9)) 0 8 (.sl (0+n12) 11 c13::cls (el c7 31 (Int.toNat z9)) 9
 22 []),[.sl (0+n4) 6 (upd c5 ((Int.toNat z11) * 6+4) ([.sl 0 3 []]))],[.sl (0+n6) 31 c7]])) (ifK (decide (z21 = (4 : Int))) (ckK (0<=z11 /\
 z11 < ((0+n4 : Nat) : Int)) (aa 3 (cell (el c5 6 (Int.toNat z11)) 4) fun n28 c29=>ckK (room (0+n28) 25) (ckK (0<=(0 : Int)/\(0 : Int) <
 ((0+n4 : Nat) : Int)) (ckK (room (0+n28+1) 25) (ckK (0<=z11/\z11 < ((0+n4 : Nat) : Int)) (k18 [[vI z9],[.sl 0 6 [],.sl 0 31 []],cls (el
 c7 31 (Int.toNat z9)) 0 8 (.sl (0+n12) 11 c13::cls (el c7 31 (Int.toNat z9)) 9 22 []),[.sl (0+n4) 6 (upd c5 ((Int.toNat z11) * 6+4) ([.sl
 (0+n28+1) 3 (c29++((sub (el c5 6 0) 0 3)++[]))]))],[.sl (0+n6) 31 c7]])))))) (ifK (decide (z21 = (5 : Int))) (ifK (decide ((0 : Int) <
 ((0+n12 : Nat) : Int))) (ckK (0<=z15/\z15 < ((0+n12 : Nat) : Int)) (k18 [[vI z9],[.sl 0 6 [],.sl 0 31 []],cls (el c7 31 (Int.toNat z9)) 0 8
 (.sl (0+n12) 11 (upd c13 ((Int.toNat z15) * 11+4) (vI 3::cls (sub (el c7 31 (Int.toNat z17)) 0 3) 0 3 ([.sl 0 5 []])))::cls (el c7 31
 (Int.toNat z9)) 9 22 []),[.sl (0+n4) 6 c5],[.sl (0+n6) 31 c7]])) (k18 [[vI z9],[.sl 0 6 [],.sl 0 31 []],cls (el c7 31 (Int.toNat z9)) 0 8
 (.sl (0+n12) 11 c13::cls (el c7 31 (Int.toNat z9)) 9 22 []),[.sl (0+n4) 6 c5],[.sl (0+n6) 31 c7]])) (ifK (decide (z21 = (6 : Int))) (k18
 [[vI z9],[.sl 0 6 [],.sl 0 31 []],cls (el c7 31 (Int.toNat z9)) 0 8 (.sl (0+n12) 11 c13::vI 3::cls (sub (el c7 31 (Int.toNat z17)) 0 3) 0 3
 (.sl 0 5 []::cls (el c7 31 (Int.toNat z9)) 14 17 [])),[.sl (0+n4) 6 c5],[.sl (0+n6) 31 c7]]) (ifK (decide (z21 = (7 : Int))) (caK Is s22
 [[vI z3],[vI 7]] fun r30=>ah (cell (ent r30 0) 0) fun z31=>ckK (okI (z31 - 1)) (k18 [[vI z9],[.sl 0 6 [],.sl 0 31 []],cls (el c7 31
 (Int.toNat z9)) 0 3 (vI (z31 - 1)::cls (el c7 31 (Int.toNat z9)) 4 4 (.sl (0+n12) 11 c13::cls (el c7 31 (Int.toNat z9)) 9 22 [])),[.sl (0 +
 n4) 6 c5],[.sl (0+n6) 31 c7]])) (ifK (decide (z21 = (8 : Int))) (ckK ((2 : Int) ≠ 0/\okI (Int.tdiv ((0+n12 : Nat) : Int) 2)) (ckK (0<=(0 :
 Int)/\(0 : Int)<=(Int.tdiv ((0+n12 : Nat) : Int) 2)/\(Int.tdiv ((0+n12 : Nat) : Int) 2)<=((0+n12 : Nat) : Int)) (k18 [[vI z9],[.sl 0 6
 [],.sl 0 31 []],cls (el c7 31 (Int.toNat z9)) 0 8 (.sl (Int.toNat (Int.tdiv ((0+n12 : Nat) : Int) 2) - Int.toNat (0 : Int)) 11 (sub c13
 (Int.toNat (0 : Int) * 11) ((Int.toNat (Int.tdiv ((0+n12 : Nat) : Int) 2) - Int.toNat (0 : Int)) * 11))::cls (el c7 31 (Int.toNat z9)) 9 22 []),
 [.sl (0+n4) 6 c5],[.sl (0+n6) 31 c7]]))) (ifK (decide (z21 = (9 : Int))) (k18 [[vI z9],[.sl 0 6 [],.sl 0 31 []],cls (sub (el c7 31
 (Int.toNat z17)) 0 3) 0 3 (cls (el c7 31 (Int.toNat z9)) 3 5 (.sl (0+n12) 11 c13::cls (el c7 31 (Int.toNat z9)) 9 22 [])),[.sl (0+n4) 6 c5],
 [.sl (0+n6) 31 c7]]) (ifK (decide (z21 = (10 : Int))) (k18 [[vI z9],[.sl 0 6 [],.sl 0 31 []],cls (el c7 31 (Int.toNat z9)) 0 4 (vI 6::vI 1 ::
 vI 0::cell (el c7 31 (Int.toNat z9)) 7::.sl (0+n12) 11 c13::cls (el c7 31 (Int.toNat z9)) 9 22 []),[.sl (0+n4) 6 c5],[.sl (0+n6) 31
 c7]]) (ifK (decide (z21 = (11 : Int))) (ckK (0<=(0 : Int)/\(0 : Int)<=z9/\((0 : Nat) : Int)+z9<=((0+n6 : Nat) : Int)) (ckK (room (0 +
 ((Int.toNat z9) - 0)) 353) (ckK (okI (z9+1)) (ckK (0<=(z9+1)/\(z9+1)<=((0+n6 : Nat) : Int)/\((0 : Nat) : Int)+((0+n6 : Nat) : Int) <=
 ((0+n6 : Nat) : Int)) (ckK (room (0+((Int.toNat z9) - 0)+((Int.toNat ((0+n6 : Nat) : Int)) - (Int.toNat (z9+1)))) 353) (K [[.sl (0+n4) 6
 c5],[.sl (0+((Int.toNat z9) - 0)+((Int.toNat ((0+n6 : Nat) : Int)) - (Int.toNat (z9+1)))) 31 ((sub c7 (0 * 31) (((Int.toNat z9) - 0) * 31))
 ++ (sub c7 ((0+(Int.toNat (z9+1))) * 31) (((Int.toNat ((0+n6 : Nat) : Int)) - (Int.toNat (z9+1))) * 31)))]])))))) (ifK (decide (z21 = (12 :
 Int))) (ckK (0<=z11/\z11 < ((0+n4 : Nat) : Int)) (ckK (0<=z11/\z11 < ((0+n4 : Nat) : Int)) (aa 3 (cell (el c5 6 (Int.toNat z11)) 5) fun
 n32 _=>ckK ((2 : Int) ≠ 0/\okI (Int.tdiv (n32 : Int) 2)) (aa 3 (cell (el c5 6 (Int.toNat z11)) 5) fun n34 c35=>ckK (0<=(0 : Int)/\(0 : Int)
 <= (Int.tdiv (n32 : Int) 2)/\(Int.tdiv (n32 : Int) 2)<=(n34 : Int)) (ckK (0<=z11/\z11 < ((0+n4 : Nat) : Int)) (k18 [[vI z9],[.sl 0 6 [],.sl 0
 31 []],cls (el c7 31 (Int.toNat z9)) 0 8 (.sl (0+n12) 11 c13::cls (el c7 31 (Int.toNat z9)) 9 22 []),[.sl (0+n4) 6 (upd c5 ((Int.toNat z11)
 * 6+5) [.sl (Int.toNat (Int.tdiv (n32 : Int) 2) - Int.toNat (0 : Int)) 3 (sub c35 (Int.toNat (0 : Int) * 3) ((Int.toNat (Int.tdiv (n32 : Int) 2) -
 Int.toNat (0 : Int)) * 3))])],[.sl (0+n6) 31 c7]])))))) (ifK (decide (z21 = (13 : Int))) (ckK ((9 : Int) ≠ 0/\okI (Int.tdiv z1 9)) (caK Is s37
 [cls (el c7 31 (Int.toNat z9)) 14 15 []] fun r36=>ah (cell (ent r36 0) 0) fun z37=>caK Is s22 [[vI (Int.tdiv z1 9)],[vI z37]] fun r38=>ah
 (cell (ent r38 0) 0) fun z39=>caK Is s36 [cls (el c7 31 (Int.toNat z9)) 14 15 [],[vI z39],[vI z3],sub (el c7 31 (Int.toNat z17)) 0 3] fun r40
 => k18 [[vI z9],[.sl 0 6 [],.sl 0 31 []],cls (el c7 31 (Int.toNat z9)) 0 8 (.sl (0+n12) 11 c13::cls (el c7 31 (Int.toNat z9)) 9 5 (cls (ent
 r40 0) 0 15 [cell (el c7 31 (Int.toNat z9)) 29,cell (el c7 31 (Int.toNat z9)) 30])),[.sl (0+n4) 6 c5],[.sl (0+n6) 31 c7]])) (ifK (decide (z21
 = (14 : Int))) (ckK ((9 : Int) ≠ 0/\okI (Int.tdiv z1 9)) (caK Is s37 [cls (el c7 31 (Int.toNat z9)) 14 15 []] fun r41=>ah (cell (ent r41 0) 0)
 fun z42=>caK Is s22 [[vI (Int.tdiv z1 9)],[vI z42]] fun r43=>ah (cell (ent r43 0) 0) fun z44=>caK Is s36 [cls (el c7 31 (Int.toNat z9)) 14
 15 [],[vI z44],[vI z3],cls (el c7 31 (Int.toNat z9)) 0 3 []] fun r45=>k18 [[vI z9],[.sl 0 6 [],.sl 0 31 []],cls (el c7 31 (Int.toNat z9)) 0
 8 (.sl (0+n12) 11 c13::cls (el c7 31 (Int.toNat z9)) 9 5 (cls (ent r45 0) 0 15 [cell (el c7 31 (Int.toNat z9)) 29,cell (el c7 31 (Int.toNat
 z9)) 30])),[.sl (0+n4) 6 c5],[.sl (0+n6) 31 c7]])) (ifK (decide (z21 = (15 : Int))) (k18 [[vI z9],[.sl 0 6 [],.sl 0 31 []],cls (el c7 31
 (Int.toNat z9)) 0 8 (.sl (0+n12) 11 c13::cls (el c7 31 (Int.toNat z9)) 9 20 [vI z3,cell (el c7 31 (Int.toNat z9)) 30]),[.sl (0+n4) 6 c5],
 [.sl (0+n6) 31 c7]]) (k18 [[vI z9],[.sl 0 6 [],.sl 0 31 []],cls (el c7 31 (Int.toNat z9)) 0 8 (.sl (0+n12) 11 c13::cls (el c7 31 (Int.toNat
 z9)) 9 22 []),[.sl (0+n4) 6 c5],[.sl (0+n6) 31 c7]]))))))))))))))))) (fun st19=>ah (cell (ent st19 0) 0) fun z46=>aa 6 (cell (ent st19
 3) 0) fun n47 c48=>aa 31 (cell (ent st19 4) 0) fun n49 c50=>ckK (0<=z46/\z46 < (n49 : Int)) (K [[.sl n47 6 c48],[.sl n49 31 (upd c50
 ((Int.toNat z46) * 31+0) (ent st19 2))]]))))))))))
theorem w9 : Wd ⟨[s22,s36,s37],[42],[],[],aJ,aI,false,av,false,false,[1000203,1000209]⟩ ⟨[],[(47,⟨[(4,.c (.p 0 0)),(8,.c (.p 1 0)),(9,.c .i),(11,.c (.p 2 0))],[(0,.b 26 [.w 3,.w 4]),(1,.a 26 2),(2,.a 52 31),(3,.w 60 6),(4,.w 52 31)]⟩)],[]⟩ s9 g9:=fun _ _ _=>by kernel_rfl
def g37 : Tx:=fun Is a K=>Lp (fun kT st2=>ah (cell (ent st2 0) 0) fun z3=>ah (cell (ent st2 1) 0) fun z4=>aa 15 (cell (ent st2 2)
 13) fun n5 _=>ifK (decide (z4 < (n5 : Int))) (aa 15 (cell (ent st2 2) 13) fun n7 c8=>ckK (0<=z4/\z4 < (n7 : Int)) (caK Is s37 [el c8 15
 (Int.toNat z4)] fun r9=>ah (cell (ent r9 0) 0) fun z10=>ckK (okI (z3+z10)) (ckK (okI (z4+1)) (kT [[vI (z3+z10)],[vI (z4+1)],ent
 st2 2])))) (K [[vI z3]])) [[vI 1],[vI 0],ent a 0]
theorem w37 : Wd ⟨[s37],[42],[],[],aJ,aI,false,av,false,false,[]⟩ ⟨[(3,⟨[(1,.c (.p 0 0)),(3,.c .i),(4,.c .i)],[(0,.a 50 15)]⟩)],[],[]⟩ s37 g37:=fun _ _ _=>by kernel_rfl
def g36 : Tx:=fun Is a K=>ah (cell (ent a 1) 0) fun z1=>ah (cell (ent a 2) 0) fun z2=>caK Is Bi [ent a 0,[vI z1],[vI z2],ent a 3] fun
 r3=>ah (cell (ent r3 1) 0) fun _=>K [ent r3 0]
theorem w36 : Wd ⟨[Bi],[42],[],[],aJ,aI,false,av,false,false,[]⟩ ⟨[],[],[]⟩ s36 g36:=fun _ _ _=>by kernel_rfl
def g127 : Tx:=fun Is a K=>ah (cell (ent a 1) 0) fun z1=>ah (cell (ent a 2) 0) fun z2=>ifK (decide (z1 = (0 : Int))) (aa 15 (cell (ent a
 0) 13) fun n3 c4=>ckK (room (0+n3) 169) (jn (fun k5=>caK Is s22 [[vI z2],[vI 9]] fun r7=>ah (cell (ent r7 0) 0) fun z8=>ifK (decide (z8
 = (0 : Int))) (ckK ((9 : Int) ≠ 0/\okI (Int.tdiv z2 9)) (caK Is s22 [[vI (Int.tdiv z2 9)],[vI 16]] fun r9=>ah (cell (ent r9 0) 0) fun z10 =>
 ckK (okI (z10 - 2)) (k5 [cls (ent a 0) 0 4 (vI (z10 - 2)::cls (ent a 0) 5 10 []),[vI 0,vI 0,vI 0,vI 0,vI 0,vI 0,vI 0,vI 0,vI 0,vI 0,vI
 0,vI 0,.sl 0 5 [],.sl 0 15 [],.sl 0 1 []]]))) (ifK (decide (z8 = (1 : Int))) (ckK ((9 : Int) ≠ 0/\okI (Int.tdiv z2 9)) (caK Is s22 [[vI
 (Int.tdiv z2 9)],[vI 15]] fun r11=>ah (cell (ent r11 0) 0) fun z12=>ckK (okI (z12 - 1)) (k5 [cls (ent a 0) 0 3 (vI (z12 - 1)::cls (ent a 0)
 4 11 []),[vI 0,vI 0,vI 0,vI 0,vI 0,vI 0,vI 0,vI 0,vI 0,vI 0,vI 0,vI 0,.sl 0 5 [],.sl 0 15 [],.sl 0 1 []]]))) (ifK (decide (z8 = (2 :
 Int))) (k5 [cls (ent a 0) 0 5 (cls (ent a 3) 0 3 (cls (ent a 0) 8 7 [])),[vI 0,vI 0,vI 0,vI 0,vI 0,vI 0,vI 0,vI 0,vI 0,vI 0,vI 0,vI 0,
 .sl 0 5 [],.sl 0 15 [],.sl 0 1 []]]) (ifK (decide (z8 = (3 : Int))) (aa 1 (cell (ent a 0) 14) fun n13 c14=>ckK (room (0+n13) 17) (ckK (room
 (0+n13+1) 17) (k5 [cls (ent a 0) 0 14 ([.sl (0+n13+1) 1 (c14++([vS (ByteArray.mk #[120])]))]),[vI 0,vI 0,vI 0,vI 0,vI 0,vI 0,vI 0,
 vI 0,vI 0,vI 0,vI 0,vI 0,.sl 0 5 [],.sl 0 15 [],.sl 0 1 []]]))) (ifK (decide (z8 = (4 : Int))) (aa 1 (cell (ent a 0) 14) fun n15 _=>ifK
 (decide ((0 : Int) < (n15 : Int))) (aa 1 (cell (ent a 0) 14) fun n17 c18=>ckK (0<=(1 : Int)/\(1 : Int)<=(n17 : Int)/\(n17 : Int)<=(n17 :
 Int)) (ckK (room (1+(Int.toNat (n17 : Int) - Int.toNat 1)) 17) (k5 [cls (ent a 0) 0 14 ([.sl (1+(Int.toNat (n17 : Int) - Int.toNat 1)) 1 (([vS
 (ByteArray.mk #[100,111])])++(sub c18 (Int.toNat 1 * 1) ((Int.toNat (n17 : Int) - Int.toNat 1) * 1)))]),[vI 0,vI 0,vI 0,vI 0,vI 0,vI 0,vI
 0,vI 0,vI 0,vI 0,vI 0,vI 0,.sl 0 5 [],.sl 0 15 [],.sl 0 1 []]]))) (k5 [ent a 0,[vI 0,vI 0,vI 0,vI 0,vI 0,vI 0,vI 0,vI 0,vI 0,vI 0,
 vI 0,vI 0,.sl 0 5 [],.sl 0 15 [],.sl 0 1 []]])) (ifK (decide (z8 = (5 : Int))) (ifK (decide ((0 : Int) < ((0+n3 : Nat) : Int))) (ckK (0<=(1 :
 Int)/\(1 : Int)<=((0+n3 : Nat) : Int)/\((0+n3 : Nat) : Int)<=((0+n3 : Nat) : Int)) (k5 [cls (ent a 0) 0 13 [.sl (Int.toNat ((0+n3 : Nat)
 : Int) - Int.toNat 1) 15 (sub c4 (Int.toNat 1 * 15) ((Int.toNat ((0+n3 : Nat) : Int) - Int.toNat 1) * 15)),cell (ent a 0) 14],[vI 0,vI 0,vI 0,
 vI 0,vI 0,vI 0,vI 0,vI 0,vI 0,vI 0,vI 0,vI 0,.sl 0 5 [],.sl 0 15 [],.sl 0 1 []]])) (k5 [ent a 0,[vI 0,vI 0,vI 0,vI 0,vI 0,vI 0,vI
 0,vI 0,vI 0,vI 0,vI 0,vI 0,.sl 0 5 [],.sl 0 15 [],.sl 0 1 []]])) (ifK (decide (z8 = (6 : Int))) (ckK ((9 : Int) ≠ 0/\okI (Int.tdiv z2 9))
 (caK Is s22 [[vI (Int.tdiv z2 9)],[vI 3]] fun r19=>ah (cell (ent r19 0) 0) fun z20=>ckK (room (0+n3+1) 169) (k5 [cls (ent a 0) 0 13 ([.sl
 (0+n3+1) 15 (c4++([vI 6,vI 2,vI z20,vI 0,vI 0,vI 0,vI 0,vI 0,vI 0,vI 0,vI 0,vI 0,.sl 0 5 [],.sl 0 15 [],.sl 0 1 []])),cell (ent
 a 0) 14]),[vI 0,vI 0,vI 0,vI 0,vI 0,vI 0,vI 0,vI 0,vI 0,vI 0,vI 0,vI 0,.sl 0 5 [],.sl 0 15 [],.sl 0 1 []]]))) (ifK (decide (z8 = (7 :
 Int))) (k5 [cls (ent a 0) 0 8 (vI 3::cls (ent a 3) 0 3 ([.sl 0 5 [],cell (ent a 0) 13,cell (ent a 0) 14])),[vI 0,vI 0,vI 0,vI 0,vI 0,vI 0,
 vI 0,vI 0,vI 0,vI 0,vI 0,vI 0,.sl 0 5 [],.sl 0 15 [],.sl 0 1 []]]) (ifK (decide (z8 = (8 : Int))) (ifK (decide ((1 : Int) < ((0+n3 : Nat)
 : Int))) (ckK (okI (((0+n3 : Nat) : Int) - 1)) (ckK (okI (((0+n3 : Nat) : Int) - 1)) (ckK (0<=(((0+n3 : Nat) : Int) - 1)/\(((0+n3 : Nat) :
 Int) - 1) < ((0+n3 : Nat) : Int)) (ckK (0<=(0 : Int)/\(0 : Int) < ((0+n3 : Nat) : Int)) (ckK (0<=(0 : Int)/\(0 : Int) < ((0+n3 : Nat) :
 Int)) (ckK (0<=(((0+n3 : Nat) : Int) - 1)/\(((0+n3 : Nat) : Int) - 1) < ((0+n3 : Nat) : Int)) (k5 [cls (ent a 0) 0 13 [.sl (0+n3) 15 (upd
 (upd c4 (0 * 15+0) (el c4 15 (Int.toNat (((0+n3 : Nat) : Int) - 1)))) ((Int.toNat (((0+n3 : Nat) : Int) - 1)) * 15+0) (el c4 15 0)),cell
 (ent a 0) 14],[vI 0,vI 0,vI 0,vI 0,vI 0,vI 0,vI 0,vI 0,vI 0,vI 0,vI 0,vI 0,.sl 0 5 [],.sl 0 15 [],.sl 0 1 []]]))))))) (k5 [ent a 0,
 [vI 0,vI 0,vI 0,vI 0,vI 0,vI 0,vI 0,vI 0,vI 0,vI 0,vI 0,vI 0,.sl 0 5 [],.sl 0 15 [],.sl 0 1 []]])) (k5 [ent a 0,[vI 0,vI 0,vI 0,vI
 0,vI 0,vI 0,vI 0,vI 0,vI 0,vI 0,vI 0,vI 0,.sl 0 5 [],.sl 0 15 [],.sl 0 1 []]])))))))))) (fun st6=>K [ent st6 0,[vI (-1)]]))) (ckK (okI
 (z1 - 1)) (jn (fun k21=>Lp (fun next23 gz=>ah (cell (ent gz 0) 0) fun z25=>ah (cell (ent gz 1) 0) fun z26=>ah (cell (ent gz 2)
 0) fun z27=>aa 15 (cell (ent gz 6) 0) fun n28 c29=>aa 15 (cell (ent gz 3) 13) fun n30 _=>ifK (decide (z27 < (n30 : Int))) (aa 15
 (cell (ent gz 3) 13) fun n32 c33=>ckK (0<=z27/\z27 < (n32 : Int)) (jn (fun k34=>ifK (decide ((0 : Int)<=z25)) (caK Is Bi [el c33 15
 (Int.toNat z27),[vI z25],[vI z26],ent gz 4] fun r36=>ah (cell (ent r36 1) 0) fun z37=>k34 [[vI z37],[vI z26],[vI z27],ent gz 3,ent
 gz 4,ent gz 5,[.sl n28 15 c29],ent r36 0]) (k34 [[vI z25],[vI z26],[vI z27],ent gz 3,ent gz 4,ent gz 5,[.sl n28 15 c29],el c33
 15 (Int.toNat z27)])) (fun yN=>ah (cell (ent yN 0) 0) fun z38=>ah (cell (ent yN 1) 0) fun z39=>ah (cell (ent yN 2) 0) fun z40 =>
 aa 15 (cell (ent yN 6) 0) fun n41 c42=>ckK (room (n41+1) 169) (ckK (okI (z40+1)) (next23 [[vI z38],[vI z39],[vI (z40+1)],ent yN 3,
 ent yN 4,ent yN 5,[.sl (n41+1) 15 (c42++((ent yN 7)++[]))]]))))) (k21 [[vI z25],ent gz 3,ent gz 5,[.sl n28 15 c29]])) [[vI (z1
 - 1)],[vI z2],[vI 0],ent a 0,ent a 3,[vI 0,vI 0,vI 0,vI 0,vI 0,vI 0,vI 0,vI 0,vI 0,vI 0,vI 0,vI 0,.sl 0 5 [],.sl 0 15 [],.sl 0 1
 []],[.sl 0 15 []]]) (fun mA=>ah (cell (ent mA 0) 0) fun z43=>aa 15 (cell (ent mA 3) 0) fun n44 c45=>K [cls (ent mA 1) 0 13 [.sl
 n44 15 c45,cell (ent mA 1) 14],[vI z43]])))
theorem w127 : Wd ⟨[s22,Bi],[42],[],[],aJ,aI,false,av,false,false,[]⟩ ⟨[(30,⟨[(1,.c .i),(2,.c .i),(4,.c (.p 0 0)),(7,.c (.p 1 0)),(8,.c (.p 2 0)),(11,.c (.w 3)),(12,.c .i)],[(0,.a 50 15),(1,.a 42 3),(2,.a 50 15),(3,.w 50 15)]⟩)],[(26,⟨[(4,.c (.p 0 0)),(8,.c (.p 1 0))],[(0,.a 50 15),(1,.a 50 15)]⟩),(35,⟨[(1,.c .i),(2,.c .i),(4,.c (.p 0 0)),(7,.c (.p 1 0)),(8,.c (.p 2 0)),(11,.c (.w 3)),(12,.c .i),(13,.c (.p 4 0))],[(0,.a 50 15),(1,.a 42 3),(2,.a 50 15),(3,.w 50 15),(4,.a 50 15)]⟩),(36,⟨[(1,.c .i),(4,.c (.p 0 0)),(8,.c (.p 1 0)),(11,.c (.w 2))],[(0,.a 50 15),(1,.a 50 15),(2,.w 50 15)]⟩)],[]⟩ Bi g127:=fun _ _ _=>by kernel_rfl
def g15 : Tx:=fun Is a K=>caK Is s63 [ent a 0] fun r1=>aa 3 (cell (ent r1 0) 0) fun n2 c3=>jn (fun k4=>Lp (fun oF st7=>ah (cell
 (ent st7 0) 0) fun z8=>ah (cell (ent st7 1) 0) fun z9=>aa 3 (cell (ent st7 3) 0) fun n10 c11=>aa 3 (cell (ent st7 4) 0) fun n12 c13 =>
 aa 4 (cell (ent st7 5) 0) fun n14 c15=>ifK (decide (z9 < z8)) (ckK (0<=z9/\z9 < (n10 : Int)) (caK Is s18 [ent st7 2,el c11 3 (Int.toNat z9)]
 fun r16=>aa 3 (cell (ent r16 0) 0) fun n17 c18=>ah (cell (el c11 3 (Int.toNat z9)) 0) fun z19=>ah (cell (el c11 3 (Int.toNat z9)) 1) fun
 z20=>ah (cell (el c11 3 (Int.toNat z9)) 2) fun z21=>ckK (okI (z9+1)) (oF [[vI z8],[vI (z9+1)],ent st7 2,[.sl n10 3 c11],[.sl n12 3
 c13],[.sl (ja 4 z19 z20 z21 n14 c15) 4 (gD 4 z19 z20 z21 [.sl n17 3 c18] n14 c15)]]))) (k4 [[.sl n10 3 c11],[.sl n12 3 c13],[.sl n14 4
 c15]])) [[vI (n2 : Int)],[vI 0],ent a 0,[.sl n2 3 c3],[.sl 0 3 []],[.sl 0 4 []]]) (fun st5=>aa 3 (cell (ent st5 0) 0) fun n22 c23=>aa 3
 (cell (ent st5 1) 0) fun n24 c25=>aa 4 (cell (ent st5 2) 0) fun n26 c27=>Lp (fun next28 st29=>aa 3 (cell (ent st29 0) 0) fun n30 c31 =>
 aa 3 (cell (ent st29 1) 0) fun n32 c33=>aa 4 (cell (ent st29 2) 0) fun n34 c35=>caK Is CV [[.sl n30 3 c31],[.sl n34 4 c35],[.sl n32 3
 c33]] fun r36=>ah (cell (ent r36 0) 0) fun z37=>aa 3 (cell (ent r36 1) 0) fun n38 c39=>aa 4 (cell (ent r36 2) 0) fun n40 c41=>aa 3
 (cell (ent r36 3) 0) fun n42 c43=>ifK (decide (z37 < (0 : Int))) (K [[.sl n42 3 c43],[.sl n38 3 c39]]) (ckK (0<=z37/\z37 < (n38 : Int)) (ckK
 (room (n42+1) 25) (ckK (okI (z37+1)) (caK Is s69 [[vI z37],[vI (z37+1)],[.sl n38 3 c39]] fun r44=>aa 3 (cell (ent r44 0) 0) fun n45 c46
 => next28 [[.sl n45 3 c46],[.sl (n42+1) 3 (c43++((el c39 3 (Int.toNat z37))++[]))],[.sl n40 4 c41]]))))) [[.sl n22 3 c23],[.sl n24 3 c25],
 [.sl n26 4 c27]])
theorem w15 : Wd ⟨[s18,s63,CV,s69],[42],[],[],aJ,aI,false,av,false,false,[]⟩ ⟨[(5,⟨[(1,.c (.p 0 0)),(4,.c (.p 1 0)),(5,.c (.w 2)),(6,.c (.p 3 0)),(13,.c (.w 2)),(14,.c .i),(15,.c .i)],[(0,.a 26 2),(1,.b 36 [.w 4]),(2,.w 42 3),(3,.b 122 [.m 5]),(4,.w 42 3),(5,.m 122 false 1)]⟩),(9,⟨[(4,.c (.p 0 0)),(5,.c (.w 1)),(6,.c (.p 2 0))],[(0,.b 36 [.w 3]),(1,.w 42 3),(2,.b 122 [.m 4]),(3,.w 42 3),(4,.m 122 false 1)]⟩)],[(9,⟨[(4,.c (.p 0 0)),(5,.c (.w 1)),(6,.c (.p 2 0))],[(0,.b 36 [.w 3]),(1,.w 42 3),(2,.b 122 [.m 4]),(3,.w 42 3),(4,.m 122 false 1)]⟩)],[]⟩ s15 g15:=fun _ _ _=>by kernel_rfl
def g63 : Tx:=fun Is a K=>jn (fun k1=>aa 31 (cell (ent a 0) 1) fun n3 _=>Lp (fun oH st6=>ah (cell (ent st6 1) 0) fun z7=>ah (cell
 (ent st6 2) 0) fun z8=>aa 3 (cell (ent st6 3) 0) fun n9 c10=>ifK (decide (z8 < z7)) (aa 31 (cell (ent st6 0) 0) fun n11 c12=>ckK (0<=z8 /\
 z8 < (n11 : Int)) (ckK (room (n9+1) 25) (ckK (okI (z8+1)) (oH [[cell (ent st6 0) 0],[vI z7],[vI (z8+1)],[.sl (n9+1) 3 (c10++((sub
 (el c12 31 (Int.toNat z8)) 0 3)++[]))]])))) (k1 [[.sl n9 3 c10]])) [[cell (ent a 0) 1],[vI (n3 : Int)],[vI 0],[.sl 0 3 []]]) (fun st2=>aa 3
 (cell (ent st2 0) 0) fun n13 c14=>caK Is s78 [[.sl n13 3 c14]] fun r15=>aa 3 (cell (ent r15 0) 0) fun n16 c17=>caK Is s79 [[.sl n16 3 c17]]
 fun r18=>aa 3 (cell (ent r18 0) 0) fun n19 c20=>K [[.sl n19 3 c20]])
theorem w63 : Wd ⟨[s78,s79],[42],[],[],aJ,aI,false,av,false,false,[]⟩ ⟨[(3,⟨[(3,.c (.w 0)),(7,.c .d),(8,.c .i),(9,.c .i)],[(0,.w 42 3)]⟩)],[(7,⟨[(3,.c (.w 0))],[(0,.w 42 3)]⟩)],[]⟩ s63 g63:=fun _ _ _=>by kernel_rfl
def g79 : Tx:=fun _ a K=>aa 3 (cell (ent a 0) 0) fun n1 c2=>ifK (decide ((n1 : Int) < (2 : Int))) (K [[.sl n1 3 c2]]) (Lp (fun fQ st4 =>
 ah (cell (ent st4 0) 0) fun z5=>aa 3 (cell (ent st4 1) 0) fun n6 c7=>ifK (decide (z5 < (n6 : Int))) (ckK (0<=z5/\z5 < (n6 : Int)) (ckK
 (okI (z5 - 1)) (ckK (0<=(z5 - 1)/\(z5 - 1) < (n6 : Int)) (ah (cell (el c7 3 (Int.toNat z5)) 0) fun z8=>ah (cell (el c7 3 (Int.toNat z5)) 1)
 fun z9=>ah (cell (el c7 3 (Int.toNat z5)) 2) fun z10=>ah (cell (el c7 3 (Int.toNat (z5 - 1))) 0) fun z11=>ah (cell (el c7 3 (Int.toNat
 (z5 - 1))) 1) fun z12=>ah (cell (el c7 3 (Int.toNat (z5 - 1))) 2) fun z13=>ifK (decide (z8 = z11/\z9 = z12/\z10 = z13)) (ckK (0<=z5/\z5 <=
 (n6 : Int)/\((0 : Nat) : Int)+(n6 : Int)<=((n6 : Nat) : Int)) (Lp (fun next14 eE=>ah (cell (ent eE 0) 0) fun z16=>ah (cell (ent eE
 1) 0) fun z17=>ah (cell (ent eE 1) 1) fun z18=>ah (cell (ent eE 2) 0) fun z19=>aa 3 (cell (ent eE 3) 0) fun n20 c21=>ifK (decide
 (z19 < (((Int.toNat z18) : Nat) : Int))) (jn (fun k22=>ckK (0<=z19/\z19 < (((Int.toNat z18) : Nat) : Int)) (ckK (okI (z19 - 1)) (ckK (0<=(z19 -
 1)/\(z19 - 1) < (((Int.toNat z18) : Nat) : Int)) (ah (cell (el c21 3 ((Int.toNat z17)+(Int.toNat z19))) 0) fun z24=>ah (cell (el c21 3
 ((Int.toNat z17)+(Int.toNat z19))) 1) fun z25=>ah (cell (el c21 3 ((Int.toNat z17)+(Int.toNat z19))) 2) fun z26=>ah (cell (el c21 3
 ((Int.toNat z17)+(Int.toNat (z19 - 1)))) 0) fun z27=>ah (cell (el c21 3 ((Int.toNat z17)+(Int.toNat (z19 - 1)))) 1) fun z28=>ah (cell
 (el c21 3 ((Int.toNat z17)+(Int.toNat (z19 - 1)))) 2) fun z29=>ifK (!(decide (z24 = z27/\z25 = z28/\z26 = z29))) (ckK (0<=z19/\z19 <
 (((Int.toNat z18) : Nat) : Int)) (ckK (0<=z16/\z16 < (n20 : Int)) (ckK (okI (z16+1)) (k22 [[vI (z16+1)],[vI (((Int.toNat z17) : Nat) : Int),
 vI (((Int.toNat z18) : Nat) : Int)],[vI z19],[.sl n20 3 (upd c21 ((Int.toNat z16) * 3+0) (el c21 3 ((Int.toNat z17)+(Int.toNat z19))))]]))))
 (k22 [[vI z16],[vI (((Int.toNat z17) : Nat) : Int),vI (((Int.toNat z18) : Nat) : Int)],[vI z19],[.sl n20 3 c21]]))))) (fun sC=>ah (cell
 (ent sC 0) 0) fun z30=>ah (cell (ent sC 1) 0) fun z31=>ah (cell (ent sC 1) 1) fun z32=>ah (cell (ent sC 2) 0) fun z33=>aa 3
 (cell (ent sC 3) 0) fun n34 c35=>ckK (okI (z33+1)) (next14 [[vI z30],[vI (((Int.toNat z31) : Nat) : Int),vI (((Int.toNat z32) : Nat) :
 Int)],[vI (z33+1)],[.sl n34 3 c35]]))) (ckK (0<=z16/\z16<=(n20 : Int)/\((0 : Nat) : Int)+(n20 : Int)<=((n20 : Nat) : Int)) (ckK (3 = 3 /\
 ((0+(Int.toNat z16))+((Int.toNat (n20 : Int)) - (Int.toNat z16)))<=n20/\((Int.toNat (n20 : Int)) - (Int.toNat z16))<=1000000000000000) (ckK
 (0<=z16/\z16<=((n20 : Nat) : Int)) (K [[.sl (Int.toNat z16) 3 (sub (upd c21 ((0+(Int.toNat z16)) * 3) (List.flatten (List.replicate ((Int.toNat
 (n20 : Int)) - (Int.toNat z16)) [vI 0,vI 0,vI 0]))) (0 * 3) ((Int.toNat z16) * 3))]]))))) [[vI z5],[vI (((0+(Int.toNat z5)) : Nat) : Int),vI
 ((((Int.toNat (n6 : Int)) - (Int.toNat z5)) : Nat) : Int)],[vI 1],[.sl n6 3 c7]])) (ckK (okI (z5+1)) (fQ [[vI (z5+1)],[.sl n6 3 c7]]))))))
 (K [[.sl n6 3 c7]])) [[vI 1],[.sl n1 3 c2]])
theorem w79 : Wd ⟨[],[42],[],[],aJ,aI,true,av,false,false,[59]⟩ ⟨[(4,⟨[(0,.c (.w 0)),(3,.c .i)],[(0,.w 42 3)]⟩),(9,⟨[(0,.c (.w 0)),(3,.c .i),(4,.c (.y 0 3)),(5,.c .i)],[(0,.w 42 3)]⟩)],[(10,⟨[(0,.c (.w 0)),(3,.c .i),(4,.c (.y 0 3)),(5,.c .i)],[(0,.w 42 3)]⟩)],[]⟩ s79 g79:=fun _ _ _=>by kernel_rfl
def g18 : Tx:=fun Is a K=>caK Is s46 [ent a 0,ent a 1] fun r1=>bU (cell (ent r1 1) 0) fun b2=>ifK (!b2) (K [[.sl 0 3 []]]) (caK Is s73 [sub
 (ent r1 0) 9 5] fun r3=>aa 3 (cell (ent r3 0) 0) fun n4 c5=>aa 11 (cell (ent r1 0) 8) fun n6 _=>Lp (fun zF st9=>ah (cell (ent st9
 1) 0) fun z10=>ah (cell (ent st9 2) 0) fun z11=>aa 3 (cell (ent st9 5) 0) fun n12 c13=>ifK (decide (z11 < z10)) (aa 11 (cell (ent st9 0)
 0) fun n14 c15=>ckK (0<=z11/\z11 < (n14 : Int)) (caK Is s73 [sub (el c15 11 (Int.toNat z11)) 4 5] fun r16=>aa 3 (cell (ent r16 0) 0) fun n17
 c18=>ckK (room (n12+n17) 25) (ckK (okI (z11+1)) (zF [[cell (ent st9 0) 0],[vI z10],[vI (z11+1)],ent st9 3,ent st9 4,[.sl (n12+n17)
 3 (c13++c18)]])))) (jn (fun k19=>caK Is s49 [ent st9 4] fun r21=>bU (cell (ent r21 0) 0) fun b22=>ifK b22 (caK Is s74 [sub (ent st9 4) 14
 15,[.sl n12 3 c13]] fun r23=>aa 3 (cell (ent r23 0) 0) fun n24 c25=>k19 [ent st9 3,[.sl n24 3 c25]]) (k19 [ent st9 3,[.sl n12 3 c13]]))
 (fun sD=>aa 3 (cell (ent sD 1) 0) fun n26 c27=>caK Is s76 [[.sl n26 3 c27],ent sD 0] fun r28=>aa 3 (cell (ent r28 0) 0) fun n29 c30
 => caK Is s78 [[.sl n29 3 c30]] fun r31=>aa 3 (cell (ent r31 0) 0) fun n32 c33=>caK Is s79 [[.sl n32 3 c33]] fun r34=>aa 3 (cell (ent r34
 0) 0) fun n35 c36=>K [[.sl n35 3 c36]]))) [[cell (ent r1 0) 8],[vI (n6 : Int)],[vI 0],ent a 0,ent r1 0,[.sl n4 3 c5]])
theorem w18 : Wd ⟨[s46,s49,s73,s74,s76,s78,s79],[42],[],[],aJ,aI,false,av,false,false,[]⟩ ⟨[(6,⟨[(2,.c (.p 0 0)),(5,.c (.p 1 0)),(7,.c (.p 2 0)),(22,.c .d),(23,.c .i),(24,.c .i)],[(0,.a 26 2),(1,.a 52 31),(2,.b 36 [.w 3]),(3,.w 42 3)]⟩)],[(12,⟨[(2,.c (.p 0 0)),(7,.c (.p 1 0))],[(0,.a 26 2),(1,.b 36 [.w 2]),(2,.w 42 3)]⟩)],[]⟩ s18 g18:=fun _ _ _=>by kernel_rfl
def g46 : Tx:=fun Is a K=>caK Is s146 [[cell (ent a 0) 1],ent a 1] fun r1=>ah (cell (ent r1 0) 0) fun z2=>ifK (decide (z2 < (0 : Int))) (K
 [[vI 0,vI 0,vI 0,vI 0,vI 0,vI 0,vI 0,.v (.string (ByteArray.mk #[])),.sl 0 11 [],vI 0,vI 0,vI 0,vI 0,.sl 0 5 [],vI 0,vI 0,vI 0,vI
 0,vI 0,vI 0,vI 0,vI 0,vI 0,vI 0,vI 0,vI 0,.sl 0 5 [],.sl 0 15 [],.sl 0 1 [],vI 0,.sl 0 1 []],[vB false]]) (aa 31 (cell (ent a 0) 1)
 fun n3 c4=>ckK (0<=z2/\z2 < (n3 : Int)) (K [el c4 31 (Int.toNat z2),[vB true]]))
theorem w46 : Wd ⟨[s146],[42],[],[],aJ,aI,false,av,false,false,[]⟩ ⟨[],[],[]⟩ s46 g46:=fun _ _ _=>by kernel_rfl
def g146 : Tx:=fun Is a K=>aa 31 (cell (ent a 0) 0) fun n1 _=>Lp (fun fQ st4=>ah (cell (ent st4 1) 0) fun z5=>ah (cell (ent st4 2)
 0) fun z6=>ifK (decide (z6 < z5)) (aa 31 (cell (ent st4 0) 0) fun n7 c8=>ckK (0<=z6/\z6 < (n7 : Int)) (caK Is s147 [el c8 31 (Int.toNat z6),
 ent st4 3] fun r9=>bU (cell (ent r9 0) 0) fun b10=>ifK b10 (K [[vI z6],ent r9 1]) (ckK (okI (z6+1)) (fQ [[cell (ent st4 0) 0],[vI z5],
 [vI (z6+1)],ent r9 1])))) (K [[vI (-1)],ent st4 3])) [[cell (ent a 0) 0],[vI (n1 : Int)],[vI 0],ent a 1]
theorem w146 : Wd ⟨[s147],[42],[],[],aJ,aI,false,av,false,false,[]⟩ ⟨[(2,⟨[(0,.c .d),(1,.c (.f 147 [.p 0 0])),(7,.c .i),(8,.c .i)],[(0,.a 42 3)]⟩)],[],[]⟩ s146 g146:=fun _ _ _=>by kernel_rfl
def g147 : Tx:=fun _ a K=>ah (cell (sub (ent a 0) 0 3) 0) fun z1=>ah (cell (sub (ent a 0) 0 3) 1) fun z2=>ah (cell (sub (ent a 0) 0 3)
 2) fun z3=>ah (cell (ent a 1) 0) fun z4=>ah (cell (ent a 1) 1) fun z5=>ah (cell (ent a 1) 2) fun z6=>K [[vB (decide (z1 = z4/\z2 = z5
 /\ z3 = z6))],ent a 1]
theorem w147 : Wd ⟨[],[42],[],[],aJ,aI,false,av,false,false,[]⟩ ⟨[],[],[]⟩ s147 g147:=fun _ _ _=>by kernel_rfl
def g73 : Tx:=fun Is a K=>jn (fun k1=>ah (cell (ent a 0) 0) fun z3=>ifK (decide (z3 = (3 : Int))) (ckK (room (0+1) 25) (k1 [ent a 0,[.sl
 (0+1) 3 ((sub (ent a 0) 1 3)++[])]])) (k1 [ent a 0,[.sl 0 3 []]])) (fun st2=>aa 3 (cell (ent st2 1) 0) fun n4 c5=>aa 5 (cell (ent st2
 0) 4) fun n6 _=>Lp (fun zF st9=>ah (cell (ent st9 1) 0) fun z10=>ah (cell (ent st9 2) 0) fun z11=>aa 3 (cell (ent st9 3) 0) fun n12
 c13=>ifK (decide (z11 < z10)) (aa 5 (cell (ent st9 0) 0) fun n14 c15=>ckK (0<=z11/\z11 < (n14 : Int)) (caK Is s73 [el c15 5 (Int.toNat z11)]
 fun r16=>aa 3 (cell (ent r16 0) 0) fun n17 c18=>ckK (room (n12+n17) 25) (ckK (okI (z11+1)) (zF [[cell (ent st9 0) 0],[vI z10],[vI
 (z11+1)],[.sl (n12+n17) 3 (c13++c18)]])))) (K [[.sl n12 3 c13]])) [[cell (ent st2 0) 4],[vI (n6 : Int)],[vI 0],[.sl n4 3 c5]])
theorem w73 : Wd ⟨[s73],[42],[],[],aJ,aI,false,av,false,false,[]⟩ ⟨[(5,⟨[(3,.c (.w 0)),(15,.c .d),(16,.c .i),(17,.c .i)],[(0,.w 42 3)]⟩)],[(4,⟨[(1,.c (.p 0 0)),(3,.c (.w 1))],[(0,.a 46 5),(1,.w 42 3)]⟩)],[]⟩ s73 g73:=fun _ _ _=>by kernel_rfl
def g49 : Tx:=fun _ a K=>ah (cell (ent a 0) 3) fun z1=>ifK (decide (z1 = (2 : Int))) (K [[vB true]]) (ah (cell (ent a 0) 3) fun z2=>ifK
 (decide (z2 = (3 : Int))) (K [[vB true]]) (ah (cell (ent a 0) 3) fun z3=>ifK (decide (z3 = (4 : Int))) (K [[vB true]]) (ah (cell (ent a 0) 3)
 fun z4=>K [[vB (decide (z4 = (5 : Int)))]])))
theorem w49 : Wd ⟨[],[42],[],[],aJ,aI,false,av,false,false,[]⟩ ⟨[],[],[]⟩ s49 g49:=fun _ _ _=>by kernel_rfl
def g74 : Tx:=fun Is a K=>aa 3 (cell (ent a 1) 0) fun n1 c2=>caK Is s75 [ent a 0,[.sl n1 3 c2]] fun r3=>aa 3 (cell (ent r3 0) 0) fun n4
 c5=>aa 15 (cell (ent a 0) 13) fun n6 _=>Lp (fun zF st9=>ah (cell (ent st9 1) 0) fun z10=>ah (cell (ent st9 2) 0) fun z11=>aa 3
 (cell (ent st9 3) 0) fun n12 c13=>ifK (decide (z11 < z10)) (aa 15 (cell (ent st9 0) 0) fun n14 c15=>ckK (0<=z11/\z11 < (n14 : Int)) (caK Is
 s74 [el c15 15 (Int.toNat z11),[.sl n12 3 c13]] fun r16=>aa 3 (cell (ent r16 0) 0) fun n17 c18=>ckK (okI (z11+1)) (zF [[cell (ent st9 0)
 0],[vI z10],[vI (z11+1)],[.sl n17 3 c18]]))) (K [[.sl n12 3 c13]])) [[cell (ent a 0) 13],[vI (n6 : Int)],[vI 0],[.sl n4 3 c5]]
theorem w74 : Wd ⟨[s74,s75],[42],[],[],aJ,aI,false,av,false,false,[]⟩ ⟨[(3,⟨[(1,.c (.f 75 [.p 0 0])),(10,.c .d),(11,.c .i),(12,.c .i)],[(0,.b 36 [.w 1]),(1,.w 42 3)]⟩)],[],[]⟩ s74 g74:=fun _ _ _=>by kernel_rfl
def g75 : Tx:=fun Is a K=>aa 3 (cell (ent a 1) 0) fun n1 c2=>jn (fun k3=>ah (cell (ent a 0) 3) fun z5=>ifK (!(decide (((lkI z5
 iF).getD 0) = (0 : Int)))) (ckK (room (n1+1) 25) (k3 [ent a 0,[.sl (n1+1) 3 (c2++((sub (ent a 0) 5 3)++[]))]])) (k3 [ent a 0,[.sl n1 3
 c2]])) (fun st4=>aa 3 (cell (ent st4 1) 0) fun n6 c7=>ah (cell (ent st4 0) 3) fun z8=>ifK (decide (z8 = (11 : Int))) (caK Is s73 [sub (ent
 st4 0) 8 5] fun r9=>aa 3 (cell (ent r9 0) 0) fun n10 c11=>ckK (room (n6+n10) 25) (K [[.sl (n6+n10) 3 (c7++c11)]])) (K [[.sl n6 3 c7]]))
theorem w75 : Wd ⟨[s73],[42],[],[],aJ,aI,true,av,false,false,[]⟩ ⟨[],[(3,⟨[(1,.c (.p 0 0)),(2,.c (.p 1 0))],[(0,.b 36 [.w 2]),(1,.a 50 15),(2,.w 42 3)]⟩)],[]⟩ s75 g75:=fun _ _ _=>by kernel_rfl
def g76 : Tx:=fun Is a K=>aa 3 (cell (ent a 0) 0) fun n1 c2=>caK Is s64 [[.sl n1 3 c2],ent a 1] fun r3=>ah (cell (ent r3 0) 0) fun z4 =>
 aa 3 (cell (ent r3 1) 0) fun n5 c6=>ifK (decide (z4 = (-1 : Int))) (K [[.sl n5 3 c6],ent r3 2]) (ckK (okI (z4+1)) (Lp (fun oE st8=>ah
 (cell (ent st8 0) 0) fun z9=>ah (cell (ent st8 1) 0) fun z10=>aa 3 (cell (ent st8 2) 0) fun n11 c12=>ifK (decide (z10 < (n11 : Int))) (jn
 (fun k13=>ckK (0<=z10/\z10 < (n11 : Int)) (caK Is s77 [el c12 3 (Int.toNat z10),ent st8 3] fun r15=>bU (cell (ent r15 0) 0) fun b16=>ifK
 (!b16) (ckK (0<=z9/\z9 < (n11 : Int)) (ckK (okI (z9+1)) (k13 [[vI (z9+1)],[vI z10],[.sl n11 3 (upd c12 ((Int.toNat z9) * 3+0) (el c12 3
 (Int.toNat z10)))],ent r15 1]))) (k13 [[vI z9],[vI z10],[.sl n11 3 c12],ent r15 1]))) (fun eF=>ah (cell (ent eF 0) 0) fun z17=>ah
 (cell (ent eF 1) 0) fun z18=>aa 3 (cell (ent eF 2) 0) fun n19 c20=>ckK (okI (z18+1)) (oE [[vI z17],[vI (z18+1)],[.sl n19 3 c20],
 ent eF 3]))) (ckK (0<=z9/\z9<=(n11 : Int)/\((0 : Nat) : Int)+(n11 : Int)<=((n11 : Nat) : Int)) (ckK (3 = 3/\((0+(Int.toNat z9)) +
 ((Int.toNat (n11 : Int)) - (Int.toNat z9)))<=n11/\((Int.toNat (n11 : Int)) - (Int.toNat z9))<=1000000000000000) (ckK (0<=z9/\z9<=((n11 : Nat)
 : Int)) (K [[.sl (Int.toNat z9) 3 (sub (upd c12 ((0+(Int.toNat z9)) * 3) (List.flatten (List.replicate ((Int.toNat (n11 : Int)) - (Int.toNat z9))
 [vI 0,vI 0,vI 0]))) (0 * 3) ((Int.toNat z9) * 3))],ent st8 3]))))) [[vI z4],[vI (z4+1)],[.sl n5 3 c6],ent r3 2]))
theorem w76 : Wd ⟨[s64,s77],[42],[],[],aJ,aI,true,av,false,false,[41]⟩ ⟨[(5,⟨[(0,.c (.w 2)),(1,.c (.f 77 [.p 1 0])),(5,.c .i),(6,.c .i)],[(2,.w 42 3),(1,.a 26 2)]⟩)],[(6,⟨[(0,.c (.w 2)),(1,.c (.f 77 [.p 1 0])),(5,.c .i),(6,.c .i)],[(2,.w 42 3),(1,.a 26 2)]⟩)],[]⟩ s76 g76:=fun _ _ _=>by kernel_rfl
def g64 : Tx:=fun Is a K=>aa 3 (cell (ent a 0) 0) fun n1 c2=>Lp (fun fQ st4=>ah (cell (ent st4 0) 0) fun z5=>ah (cell (ent st4 1)
 0) fun z6=>aa 3 (cell (ent st4 2) 0) fun n7 c8=>ifK (decide (z6 < z5)) (ckK (0<=z6/\z6 < (n7 : Int)) (caK Is s77 [el c8 3 (Int.toNat z6),
 ent st4 3] fun r9=>bU (cell (ent r9 0) 0) fun b10=>ifK b10 (K [[vI z6],[.sl n7 3 c8],ent r9 1]) (ckK (okI (z6+1)) (fQ [[vI z5],[vI (z6
 + 1)],[.sl n7 3 c8],ent r9 1])))) (K [[vI (-1)],[.sl n7 3 c8],ent st4 3])) [[vI (n1 : Int)],[vI 0],[.sl n1 3 c2],ent a 1]
theorem w64 : Wd ⟨[s77],[42],[],[],aJ,aI,false,av,false,false,[]⟩ ⟨[(2,⟨[(0,.c (.w 0)),(1,.c (.f 77 [.p 1 0])),(7,.c .i),(8,.c .i)],[(0,.w 42 3),(1,.a 26 2)]⟩)],[],[]⟩ s64 g64:=fun _ _ _=>by kernel_rfl
def g64_1 : Tx:=fun Is a K=>aa 3 (cell (ent a 0) 0) fun n1 c2=>aa 4 (cell (ent a 1) 0) fun n3 c4=>aa 3 (cell (ent a 2) 0) fun n5 c6 =>
 Lp (fun oE st8=>ah (cell (ent st8 0) 0) fun z9=>ah (cell (ent st8 1) 0) fun z10=>aa 3 (cell (ent st8 2) 0) fun n11 c12=>aa 4
 (cell (ent st8 3) 0) fun n13 c14=>aa 3 (cell (ent st8 4) 0) fun n15 c16=>ifK (decide (z10 < z9)) (ckK (0<=z10/\z10 < (n11 : Int)) (caK Is
 s65 [el c12 3 (Int.toNat z10),[.sl n13 4 c14],[.sl n15 3 c16]] fun r17=>bU (cell (ent r17 0) 0) fun b18=>aa 4 (cell (ent r17 1) 0) fun n19
 c20=>aa 3 (cell (ent r17 2) 0) fun n21 c22=>ifK b18 (K [[vI z10],[.sl n11 3 c12],[.sl n19 4 c20],[.sl n21 3 c22]]) (ckK (okI (z10+1))
 (oE [[vI z9],[vI (z10+1)],[.sl n11 3 c12],[.sl n19 4 c20],[.sl n21 3 c22]])))) (K [[vI (-1)],[.sl n11 3 c12],[.sl n13 4 c14],[.sl n15 3
 c16]])) [[vI (n1 : Int)],[vI 0],[.sl n1 3 c2],[.sl n3 4 c4],[.sl n5 3 c6]]
theorem w64_1 : Wd ⟨[s65],[42],[],[],aJ,aI,false,av,false,false,[]⟩ ⟨[(2,⟨[(0,.c (.w 0)),(1,.c (.f 65 [.p 1 0,.p 2 0])),(7,.c .i),(8,.c .i)],[(0,.w 42 3),(1,.b 122 [.m 3]),(2,.b 36 [.w 4]),(3,.m 122 false 1),(4,.w 42 3)]⟩)],[],[]⟩ CV g64_1:=fun _ _ _=>by kernel_rfl
def HR : Tx:=fun Is a K=>aa 3 (cell (ent a 1) 0) fun n1 c2=>aa 3 (cell (ent a 0) 0) fun n3 _=>Lp (fun oH st6=>ah (cell (ent st6
 1) 0) fun z7=>ah (cell (ent st6 2) 0) fun z8=>aa 3 (cell (ent st6 3) 0) fun n9 c10=>ifK (decide (z8 < z7)) (aa 3 (cell (ent st6 0) 0)
 fun n11 c12=>ckK (0<=z8/\z8 < (n11 : Int)) (caK Is s67 [el c12 3 (Int.toNat z8),[.sl n9 3 c10]] fun r13=>bU (cell (ent r13 0) 0) fun b14 =>
 aa 3 (cell (ent r13 1) 0) fun n15 c16=>ifK b14 (K [[vI z8],[.sl n15 3 c16]]) (ckK (okI (z8+1)) (oH [[cell (ent st6 0) 0],[vI z7],[vI (z8
 + 1)],[.sl n15 3 c16]])))) (K [[vI (-1)],[.sl n9 3 c10]])) [[cell (ent a 0) 0],[vI (n3 : Int)],[vI 0],[.sl n1 3 c2]]
theorem w64_2 : Wd ⟨[s67],[42],[],[],aJ,aI,false,av,false,false,[]⟩ ⟨[(2,⟨[(0,.c .d),(1,.c (.f 67 [.p 0 0])),(7,.c .i),(8,.c .i)],[(0,.b 36 [.w 1]),(1,.w 42 3)]⟩)],[],[]⟩ CU HR:=fun _ _ _=>by kernel_rfl
def g77 : Tx:=fun Is a K=>caK Is s46 [ent a 1,ent a 0] fun r1=>bU (cell (ent r1 1) 0) fun b2=>K [[vB (!b2)],ent a 1]
theorem w77 : Wd ⟨[s46],[42],[],[],aJ,aI,false,av,false,false,[]⟩ ⟨[],[],[]⟩ s77 g77:=fun _ _ _=>by kernel_rfl
def g65 : Tx:=fun Is a K=>aa 4 (cell (ent a 1) 0) fun n1 c2=>aa 3 (cell (ent a 2) 0) fun n3 c4=>ah (cell (ent a 0) 0) fun z5=>ah
 (cell (ent a 0) 1) fun z6=>ah (cell (ent a 0) 2) fun z7=>caK Is s66 [[cell ((cI 4 z5 z6 z7 n1 c2).getD [.sl 0 3 []]) 0],[.sl n3 3 c4]]
 fun r8=>bU (cell (ent r8 0) 0) fun b9=>aa 3 (cell (ent r8 1) 0) fun n10 c11=>K [[vB (!b9)],[.sl n1 4 c2],[.sl n10 3 c11]]
theorem w65 : Wd ⟨[s66],[42],[],[],aJ,aI,false,av,false,false,[]⟩ ⟨[],[],[]⟩ s65 g65:=fun _ _ _=>by kernel_rfl
def g66 : Tx:=fun Is a K=>aa 3 (cell (ent a 1) 0) fun n1 c2=>caK Is CU [[cell (ent a 0) 0],[.sl n1 3 c2]] fun r3=>ah (cell (ent r3 0)
 0) fun z4=>aa 3 (cell (ent r3 1) 0) fun n5 c6=>K [[vB (decide ((0 : Int)<=z4))],[.sl n5 3 c6]]
theorem w66 : Wd ⟨[CU],[42],[],[],aJ,aI,false,av,false,false,[]⟩ ⟨[],[],[]⟩ s66 g66:=fun _ _ _=>by kernel_rfl
def g67 : Tx:=fun Is a K=>aa 3 (cell (ent a 1) 0) fun n1 c2=>caK Is s68 [ent a 0,[.sl n1 3 c2]] fun r3=>bU (cell (ent r3 0) 0) fun b4 =>
 aa 3 (cell (ent r3 1) 0) fun n5 c6=>K [[vB (!b4)],[.sl n5 3 c6]]
theorem w67 : Wd ⟨[s68],[42],[],[],aJ,aI,false,av,false,false,[]⟩ ⟨[],[],[]⟩ s67 g67:=fun _ _ _=>by kernel_rfl
def g68 : Tx:=fun Is a K=>aa 3 (cell (ent a 1) 0) fun n1 c2=>caK Is s160 [ent a 0,[.sl n1 3 c2]] fun r3=>ah (cell (ent r3 0) 0) fun z4 =>
 aa 3 (cell (ent r3 1) 0) fun n5 c6=>K [[vB (decide ((0 : Int)<=z4))],[.sl n5 3 c6]]
theorem w68 : Wd ⟨[s160],[42],[],[],aJ,aI,false,av,false,false,[]⟩ ⟨[],[],[]⟩ s68 g68:=fun _ _ _=>by kernel_rfl
def g160 : Tx:=fun _ a K=>aa 3 (cell (ent a 1) 0) fun n1 c2=>Lp (fun fQ st4=>ah (cell (ent st4 0) 0) fun z5=>ah (cell (ent st4 1)
 0) fun z6=>aa 3 (cell (ent st4 2) 0) fun n7 c8=>ifK (decide (z6 < z5)) (ckK (0<=z6/\z6 < (n7 : Int)) (ah (cell (ent st4 3) 0) fun z9 =>
 ah (cell (ent st4 3) 1) fun z10=>ah (cell (ent st4 3) 2) fun z11=>ah (cell (el c8 3 (Int.toNat z6)) 0) fun z12=>ah (cell (el c8 3
 (Int.toNat z6)) 1) fun z13=>ah (cell (el c8 3 (Int.toNat z6)) 2) fun z14=>ifK (decide (z9 = z12/\z10 = z13/\z11 = z14)) (K [[vI z6],[.sl n7
 3 c8]]) (ckK (okI (z6+1)) (fQ [[vI z5],[vI (z6+1)],[.sl n7 3 c8],ent st4 3])))) (K [[vI (-1)],[.sl n7 3 c8]])) [[vI (n1 : Int)],[vI 0],
 [.sl n1 3 c2],ent a 0]
theorem w160 : Wd ⟨[],[42],[],[],aJ,aI,false,av,false,false,[]⟩ ⟨[(2,⟨[(0,.c (.w 0)),(3,.c (.p 1 0)),(7,.c .i),(8,.c .i)],[(0,.w 42 3),(1,.a 42 3)]⟩)],[],[]⟩ s160 g160:=fun _ _ _=>by kernel_rfl
def g69 : Tx:=fun _ a K=>ah (cell (ent a 0) 0) fun z1=>ah (cell (ent a 1) 0) fun z2=>aa 3 (cell (ent a 2) 0) fun n3 c4=>ckK (true =
 true/\0<=z1/\z1<=z2/\z2<=(n3 : Int)/\((0 : Nat) : Int)+(n3 : Int)<=((n3 : Nat) : Int)) (ifK (decide (z1 = z2)) (K [[.sl n3 3 c4]]) (ckK (0
 <= (0 : Int)/\(0 : Int)<=z1/\((0 : Nat) : Int)+z1<=((n3 : Nat) : Int)) (ckK (0<=z2/\z2<=(n3 : Int)/\((0 : Nat) : Int)+(n3 : Int)<=((n3 :
 Nat) : Int)) (ifK (decide (((Int.toNat (n3 : Int)) - (Int.toNat z2)) = 0)) (ckK (0<=((((Int.toNat z1) - 0) : Nat) : Int)/\((((Int.toNat z1) - 0) :
 Nat) : Int)<=(n3 : Int)/\((0 : Nat) : Int)+(n3 : Int)<=((n3 : Nat) : Int)) (ckK (3 = 3/\((0+(Int.toNat ((((Int.toNat z1) - 0) : Nat) :
 Int)))+((Int.toNat (n3 : Int)) - (Int.toNat ((((Int.toNat z1) - 0) : Nat) : Int))))<=n3/\((Int.toNat (n3 : Int)) - (Int.toNat ((((Int.toNat z1)
 - 0) : Nat) : Int)))<=1000000000000000) (ckK (0 < n3/\((Int.toNat z1) - 0)<=n3) (K [[.sl ((Int.toNat z1) - 0) 3 (sub (upd c4 ((0+(Int.toNat
 ((((Int.toNat z1) - 0) : Nat) : Int))) * 3) (List.flatten (List.replicate ((Int.toNat (n3 : Int)) - (Int.toNat ((((Int.toNat z1) - 0) : Nat) :
 Int))) [vI 0,vI 0,vI 0]))) (0 * 3) (((Int.toNat z1) - 0) * 3))]])))) (ifK (decide (((0+((Int.toNat z1) - 0))+((Int.toNat (n3 : Int)) -
 (Int.toNat z2)))<=n3)) (ckK (0<=(((((Int.toNat z1) - 0)+((Int.toNat (n3 : Int)) - (Int.toNat z2))) : Nat) : Int)/\(((((Int.toNat z1) - 0) +
 ((Int.toNat (n3 : Int)) - (Int.toNat z2))) : Nat) : Int)<=(n3 : Int)/\((0 : Nat) : Int)+(n3 : Int)<=((n3 : Nat) : Int)) (ckK (3 = 3/\((0 +
 (Int.toNat (((((Int.toNat z1) - 0)+((Int.toNat (n3 : Int)) - (Int.toNat z2))) : Nat) : Int)))+((Int.toNat (n3 : Int)) - (Int.toNat
 (((((Int.toNat z1) - 0)+((Int.toNat (n3 : Int)) - (Int.toNat z2))) : Nat) : Int))))<=n3/\((Int.toNat (n3 : Int)) - (Int.toNat (((((Int.toNat z1)
 - 0)+((Int.toNat (n3 : Int)) - (Int.toNat z2))) : Nat) : Int)))<=1000000000000000) (ckK (0 < n3/\(((Int.toNat z1) - 0)+((Int.toNat (n3 : Int))
 - (Int.toNat z2)))<=n3) (K [[.sl (((Int.toNat z1) - 0)+((Int.toNat (n3 : Int)) - (Int.toNat z2))) 3 (sub (upd (upd c4 ((0+((Int.toNat z1) - 0))
 * 3) (sub c4 ((0+(Int.toNat z2)) * 3) (((Int.toNat (n3 : Int)) - (Int.toNat z2)) * 3))) ((0+(Int.toNat (((((Int.toNat z1) - 0)+((Int.toNat (n3
 : Int)) - (Int.toNat z2))) : Nat) : Int))) * 3) (List.flatten (List.replicate ((Int.toNat (n3 : Int)) - (Int.toNat (((((Int.toNat z1) - 0) +
 ((Int.toNat (n3 : Int)) - (Int.toNat z2))) : Nat) : Int))) [vI 0,vI 0,vI 0]))) (0 * 3) ((((Int.toNat z1) - 0)+((Int.toNat (n3 : Int)) -
 (Int.toNat z2))) * 3))]])))) (ckK ((0+((Int.toNat z1) - 0)) = n3/\room ((((Int.toNat z1) - 0)+((Int.toNat (n3 : Int)) - (Int.toNat z2)))) 25)
 (ckK (0<=(((((Int.toNat z1) - 0)+((Int.toNat (n3 : Int)) - (Int.toNat z2))) : Nat) : Int)/\(((((Int.toNat z1) - 0)+((Int.toNat (n3 : Int)) -
 (Int.toNat z2))) : Nat) : Int)<=(n3 : Int)/\((0 : Nat) : Int)+(n3 : Int)<=(((((Int.toNat z1) - 0)+((Int.toNat (n3 : Int)) - (Int.toNat z2)))
 : Nat) : Int)) (False))))))))
theorem w69 : Wd ⟨[],[42],[],[],aJ,aI,true,av,false,false,[32]⟩ ⟨[],[],[]⟩ s69 g69:=fun _ _ _=>by kernel_rfl
def g16 : Tx:=fun Is a K=>jn (fun k1=>Lp (fun fQ st4=>ah (cell (ent st4 0) 0) fun z5=>aa 3 (cell (ent st4 2) 0) fun n6 c7=>aa 31
 (cell (ent st4 1) 1) fun n8 _=>ifK (decide (z5 < (n8 : Int))) (aa 31 (cell (ent st4 1) 1) fun n10 c11=>ckK (0<=z5/\z5 < (n10 : Int)) (caK Is
 s70 [[.sl n6 3 c7],sub (el c11 31 (Int.toNat z5)) 0 3] fun r12=>aa 3 (cell (ent r12 0) 0) fun n13 c14=>ckK (okI (z5+1)) (fQ [[vI (z5 +
 1)],ent st4 1,[.sl n13 3 c14]]))) (k1 [[.sl n6 3 c7],ent st4 1])) [[vI 0],ent a 0,[.sl 0 3 []]]) (fun st2=>Lp (fun tH mB=>aa 3
 (cell (ent mB 2) 0) fun n17 c18=>jn (fun k19=>Lp (fun next21 mA=>ah (cell (ent mA 1) 0) fun z23=>aa 3 (cell (ent mA 3) 0) fun
 n24 c25=>aa 3 (cell (ent mA 0) 0) fun n26 _=>ifK (decide (z23 < (n26 : Int))) (aa 3 (cell (ent mA 0) 0) fun n28 c29=>ckK (0<=z23 /\
 z23 < (n28 : Int)) (caK Is s19 [ent mA 2,el c29 3 (Int.toNat z23)] fun r30=>aa 3 (cell (ent r30 0) 0) fun n31 c32=>caK Is s71 [[.sl n31 3
 c32],[.sl n24 3 c25]] fun r33=>bU (cell (ent r33 0) 0) fun b34=>ifK (!b34) (ckK (okI (z23+1)) (next21 [[cell (ent mA 0) 0],[vI (z23 +
 1)],ent mA 2,[.sl n24 3 c25]])) (k19 [[cell (ent mA 0) 0],[vI z23],ent mA 2,[.sl n24 3 c25]]))) (k19 [[cell (ent mA 0) 0],[vI z23],
 ent mA 2,[.sl n24 3 c25]])) [[cell (ent mB 0) 0],[vI 0],ent mB 1,[.sl n17 3 c18]]) (fun sD=>ah (cell (ent sD 1) 0) fun z35=>aa
 3 (cell (ent sD 3) 0) fun n36 c37=>aa 3 (cell (ent sD 0) 0) fun n38 _=>ifK (decide (z35 = (n38 : Int))) (K [[cell (ent sD 0) 0],[.sl
 n36 3 c37]]) (aa 3 (cell (ent sD 0) 0) fun n40 c41=>ckK (0<=z35/\z35 < (n40 : Int)) (ckK (room (n36+1) 25) (aa 3 (cell (ent sD 0) 0)
 fun n42 c43=>ckK (0<=z35/\z35 < (n42 : Int)) (caK Is s72 [[cell (ent sD 0) 0],el c43 3 (Int.toNat z35)] fun r44=>aa 3 (cell (ent r44 0)
 0) fun n45 c46=>tH [[.sl n45 3 c46],ent sD 2,[.sl (n36+1) 3 (c37++((el c41 3 (Int.toNat z35))++[]))]])))))) [[cell (ent st2 0) 0],
 ent st2 1,[.sl 0 3 []]])
theorem w16 : Wd ⟨[s19,s70,s71,s72],[42],[],[],aJ,aI,false,av,false,false,[]⟩ ⟨[(3,⟨[(1,.c (.p 0 0)),(4,.c (.w 1)),(5,.c .i)],[(0,.a 26 2),(1,.w 42 3)]⟩),(7,⟨[(1,.c (.p 0 0)),(4,.c .d),(6,.c (.w 1))],[(0,.a 26 2),(1,.w 42 3)]⟩),(8,⟨[(1,.c (.p 0 0)),(4,.c .d),(6,.c (.w 1)),(7,.c .i)],[(0,.a 26 2),(1,.w 42 3)]⟩)],[(6,⟨[(1,.c (.p 0 0)),(4,.c .d)],[(0,.a 26 2)]⟩),(10,⟨[(1,.c (.p 0 0)),(4,.c .d),(6,.c (.w 1)),(7,.c .i)],[(0,.a 26 2),(1,.w 42 3)]⟩)],[]⟩ s16 g16:=fun _ _ _=>by kernel_rfl
def g70 : Tx:=fun Is a K=>jn (fun k1=>Lp (fun fQ st4=>bU (cell (ent st4 1) 0) fun b5=>ah (cell (ent st4 2) 0) fun z6=>aa 3 (cell
 (ent st4 4) 0) fun n7 c8=>aa 3 (cell (ent st4 0) 0) fun n9 _=>ifK (decide (z6 < (n9 : Int))) (jn (fun k11=>jn (fun k13=>ifK (!b5) (aa 3
 (cell (ent st4 0) 0) fun n15 c16=>ckK (0<=z6/\z6 < (n15 : Int)) (caK Is s161 [el c16 3 (Int.toNat z6),ent st4 3] fun r17=>bU (cell (ent r17
 0) 0) fun b18=>ifK (!b18) (ckK (room (n7+1) 25) (k13 [[cell (ent st4 0) 0],[vB true],[vI z6],ent st4 3,[.sl (n7+1) 3 (c8++((ent st4 3)
 ++ []))]])) (k13 [[cell (ent st4 0) 0],[vB b5],[vI z6],ent st4 3,[.sl n7 3 c8]]))) (k13 [[cell (ent st4 0) 0],[vB b5],[vI z6],ent st4 3,[.sl
 n7 3 c8]])) (fun eF=>bU (cell (ent eF 1) 0) fun b19=>ah (cell (ent eF 2) 0) fun z20=>aa 3 (cell (ent eF 4) 0) fun n21 c22 =>
 aa 3 (cell (ent eF 0) 0) fun n23 c24=>ckK (0<=z20/\z20 < (n23 : Int)) (ah (cell (el c24 3 (Int.toNat z20)) 0) fun z25=>ah (cell (el
 c24 3 (Int.toNat z20)) 1) fun z26=>ah (cell (el c24 3 (Int.toNat z20)) 2) fun z27=>ah (cell (ent eF 3) 0) fun z28=>ah (cell (ent eF
 3) 1) fun z29=>ah (cell (ent eF 3) 2) fun z30=>ifK (!(decide (z25 = z28/\z26 = z29/\z27 = z30))) (aa 3 (cell (ent eF 0) 0) fun n31 c32
 => ckK (0<=z20/\z20 < (n31 : Int)) (ckK (room (n21+1) 25) (k11 [[cell (ent eF 0) 0],[vB b19],[vI z20],ent eF 3,[.sl (n21+1) 3 (c22 ++
 ((el c32 3 (Int.toNat z20))++[]))]]))) (k11 [[cell (ent eF 0) 0],[vB b19],[vI z20],ent eF 3,[.sl n21 3 c22]])))) (fun dJ=>bU (cell
 (ent dJ 1) 0) fun b33=>ah (cell (ent dJ 2) 0) fun z34=>aa 3 (cell (ent dJ 4) 0) fun n35 c36=>ckK (okI (z34+1)) (fQ [[cell (ent
 dJ 0) 0],[vB b33],[vI (z34+1)],ent dJ 3,[.sl n35 3 c36]]))) (k1 [[vB b5],ent st4 3,[.sl n7 3 c8]])) [[cell (ent a 0) 0],[vB false],[vI
 0],ent a 1,[.sl 0 3 []]]) (fun st2=>bU (cell (ent st2 0) 0) fun b37=>aa 3 (cell (ent st2 2) 0) fun n38 c39=>ifK (!b37) (ckK (room (n38 +
 1) 25) (K [[.sl (n38+1) 3 (c39++((ent st2 1)++[]))]])) (K [[.sl n38 3 c39]]))
theorem w70 : Wd ⟨[s161],[42],[],[],aJ,aI,false,av,false,false,[]⟩ ⟨[(4,⟨[(0,.c .d),(3,.c (.p 0 0)),(5,.c (.w 1)),(6,.c .bo),(7,.c .i)],[(0,.a 42 3),(1,.w 42 3)]⟩)],[(5,⟨[(0,.c .d),(3,.c (.p 0 0)),(5,.c (.w 1)),(6,.c .bo),(7,.c .i)],[(0,.a 42 3),(1,.w 42 3)]⟩),(9,⟨[(0,.c .d),(3,.c (.p 0 0)),(5,.c (.w 1)),(6,.c .bo),(7,.c .i)],[(0,.a 42 3),(1,.w 42 3)]⟩),(11,⟨[(3,.c (.p 0 0)),(5,.c (.w 1)),(6,.c .bo)],[(0,.a 42 3),(1,.w 42 3)]⟩)],[]⟩ s70 g70:=fun _ _ _=>by kernel_rfl
def g161 : Tx:=fun _ a K=>ah (cell (ent a 0) 0) fun z1=>ah (cell (ent a 1) 0) fun z2=>ifK (!(decide (z1 = z2))) (ah (cell (ent a 0) 0)
 fun z3=>ah (cell (ent a 1) 0) fun z4=>K [[vB (decide (z3 < z4))]]) (ah (cell (ent a 0) 1) fun z5=>ah (cell (ent a 1) 1) fun z6=>ifK
 (!(decide (z5 = z6))) (ah (cell (ent a 0) 1) fun z7=>ah (cell (ent a 1) 1) fun z8=>K [[vB (decide (z7 < z8))]]) (ah (cell (ent a 0) 2) fun
 z9=>ah (cell (ent a 1) 2) fun z10=>K [[vB (decide (z9 < z10))]]))
theorem w161 : Wd ⟨[],[42],[],[],aJ,aI,false,av,false,false,[]⟩ ⟨[],[],[]⟩ s161 g161:=fun _ _ _=>by kernel_rfl
def g19 : Tx:=fun Is a K=>caK Is yZ [ent a 0,ent a 1] fun r1=>bU (cell (ent r1 1) 0) fun b2=>ifK (!b2) (K [[.sl 0 3 []]]) (caK Is s80
 [ent r1 0] fun r3=>Lp (fun next4 st5=>ah (cell (ent st5 1) 0) fun z6=>aa 3 (cell (ent st5 3) 0) fun n7 c8=>aa 3 (cell (ent st5 0) 0)
 fun n9 _=>ifK (decide (z6 < (n9 : Int))) (jn (fun k11=>aa 3 (cell (ent st5 0) 0) fun n13 c14=>ckK (0<=z6/\z6 < (n13 : Int)) (caK Is yZ
 [ent st5 2,el c14 3 (Int.toNat z6)] fun r15=>bU (cell (ent r15 1) 0) fun b16=>ifK b16 (aa 3 (cell (ent st5 0) 0) fun n17 c18=>ckK (0<=z6
 /\ z6 < (n17 : Int)) (ckK (room (n7+1) 25) (k11 [[cell (ent st5 0) 0],[vI z6],ent st5 2,[.sl (n7+1) 3 (c8++((el c18 3 (Int.toNat z6)) ++
 []))]]))) (k11 [[cell (ent st5 0) 0],[vI z6],ent st5 2,[.sl n7 3 c8]]))) (fun dJ=>ah (cell (ent dJ 1) 0) fun z19=>aa 3 (cell (ent
 dJ 3) 0) fun n20 c21=>ckK (okI (z19+1)) (next4 [[cell (ent dJ 0) 0],[vI (z19+1)],ent dJ 2,[.sl n20 3 c21]]))) (K [[.sl n7 3 c8]]))
 [[cell (ent r3 0) 0],[vI 0],ent a 0,[.sl 0 3 []]])
theorem w19 : Wd ⟨[yZ,s80],[42],[],[],aJ,aI,false,av,false,false,[]⟩ ⟨[(7,⟨[(2,.c (.p 0 0)),(7,.c .d),(8,.c (.w 1)),(9,.c .i)],[(0,.a 26 2),(1,.w 42 3)]⟩)],[(8,⟨[(2,.c (.p 0 0)),(7,.c .d),(8,.c (.w 1)),(9,.c .i)],[(0,.a 26 2),(1,.w 42 3)]⟩)],[]⟩ s19 g19:=fun _ _ _=>by kernel_rfl
def g80 : Tx:=fun Is a K=>caK Is y7 [[.sl 0 3 []],sub (ent a 0) 9 5] fun r1=>Lp (fun vV st3=>ah (cell (ent st3 1) 0) fun z4=>aa 11
 (cell (ent st3 2) 8) fun n5 _=>ifK (decide (z4 < (n5 : Int))) (aa 11 (cell (ent st3 2) 8) fun n7 c8=>ckK (0<=z4/\z4 < (n7 : Int)) (caK Is
 y7 [[cell (ent st3 0) 0],sub (el c8 11 (Int.toNat z4)) 4 5] fun r9=>ckK (okI (z4+1)) (vV [[cell (ent r9 0) 0],[vI (z4+1)],ent st3
 2]))) (caK Is s27 [[cell (ent st3 2) 3]] fun r10=>bU (cell (ent r10 0) 0) fun b11=>ifK (!b11) (K [[cell (ent st3 0) 0]]) (caK Is Ew [sub
 (ent st3 2) 14 15] fun r12=>aa 15 (cell (ent r12 0) 0) fun n13 c14=>Lp (fun tH mB=>ah (cell (ent mB 1) 0) fun z17=>aa 15 (cell
 (ent mB 2) 0) fun n18 c19=>ifK (decide (z17 < (n18 : Int))) (jn (fun k20=>ckK (0<=z17/\z17 < (n18 : Int)) (jn (fun k22=>ah (cell (el c19
 15 (Int.toNat z17)) 3) fun z24=>ifK (decide (z24 = (3 : Int))) (ckK (0<=z17/\z17 < (n18 : Int)) (caK Is s70 [[cell (ent mB 0) 0],sub (el c19
 15 (Int.toNat z17)) 5 3] fun r25=>aa 3 (cell (ent r25 0) 0) fun n26 c27=>k22 [[.sl n26 3 c27],[vI z17],[cell (el c19 15 (Int.toNat z17)) 3],
 [.sl n18 15 c19]])) (ah (cell (el c19 15 (Int.toNat z17)) 3) fun z28=>ifK (decide (z28 = (7 : Int))) (ckK (0<=z17/\z17 < (n18 : Int)) (caK Is
 s70 [[cell (ent mB 0) 0],sub (el c19 15 (Int.toNat z17)) 5 3] fun r29=>aa 3 (cell (ent r29 0) 0) fun n30 c31=>k22 [[.sl n30 3 c31],[vI
 z17],[cell (el c19 15 (Int.toNat z17)) 3],[.sl n18 15 c19]])) (ah (cell (el c19 15 (Int.toNat z17)) 3) fun z32=>ifK (decide (z32 = (8 : Int)))
 (ckK (0<=z17/\z17 < (n18 : Int)) (caK Is s70 [[cell (ent mB 0) 0],sub (el c19 15 (Int.toNat z17)) 5 3] fun r33=>aa 3 (cell (ent r33 0) 0)
 fun n34 c35=>k22 [[.sl n34 3 c35],[vI z17],[cell (el c19 15 (Int.toNat z17)) 3],[.sl n18 15 c19]])) (ah (cell (el c19 15 (Int.toNat z17)) 3)
 fun z36=>ifK (decide (z36 = (9 : Int))) (ckK (0<=z17/\z17 < (n18 : Int)) (caK Is s70 [[cell (ent mB 0) 0],sub (el c19 15 (Int.toNat z17)) 5
 3] fun r37=>aa 3 (cell (ent r37 0) 0) fun n38 c39=>k22 [[.sl n38 3 c39],[vI z17],[cell (el c19 15 (Int.toNat z17)) 3],[.sl n18 15 c19]]))
 (ah (cell (el c19 15 (Int.toNat z17)) 3) fun z40=>ifK (decide (z40 = (10 : Int))) (ckK (0<=z17/\z17 < (n18 : Int)) (caK Is s70 [[cell (ent
 mB 0) 0],sub (el c19 15 (Int.toNat z17)) 5 3] fun r41=>aa 3 (cell (ent r41 0) 0) fun n42 c43=>k22 [[.sl n42 3 c43],[vI z17],[cell (el c19
 15 (Int.toNat z17)) 3],[.sl n18 15 c19]])) (k22 [[cell (ent mB 0) 0],[vI z17],[cell (el c19 15 (Int.toNat z17)) 3],[.sl n18 15 c19]]))))))
 (fun sC=>ah (cell (ent sC 1) 0) fun z44=>ah (cell (ent sC 2) 0) fun z45=>aa 15 (cell (ent sC 3) 0) fun n46 c47=>ifK (decide
 (z45 = (11 : Int))) (ckK (0<=z44/\z44 < (n46 : Int)) (caK Is y7 [[cell (ent sC 0) 0],sub (el c47 15 (Int.toNat z44)) 8 5] fun r48=>k20
 [[cell (ent r48 0) 0],[vI z44],[.sl n46 15 c47]])) (k20 [[cell (ent sC 0) 0],[vI z44],[.sl n46 15 c47]])))) (fun bS=>ah (cell (ent bS
 1) 0) fun z49=>aa 15 (cell (ent bS 2) 0) fun n50 c51=>ckK (okI (z49+1)) (tH [[cell (ent bS 0) 0],[vI (z49+1)],[.sl n50 15
 c51]]))) (K [[cell (ent mB 0) 0]])) [[cell (ent st3 0) 0],[vI 0],[.sl n13 15 c14]]))) [[cell (ent r1 0) 0],[vI 0],ent a 0]
theorem w80 : Wd ⟨[s27,s70,y7,Ew],[42],[],[],aJ,aI,false,av,false,false,[]⟩ ⟨[(3,⟨[(1,.c (.p 0 0)),(3,.c .d),(4,.c .i)],[(0,.a 52 31)]⟩),(10,⟨[(3,.c .d),(5,.c (.w 0)),(6,.c .i)],[(0,.w 50 15)]⟩)],[(11,⟨[(3,.c .d),(5,.c (.w 0)),(6,.c .i)],[(0,.w 50 15)]⟩),(15,⟨[(3,.c .d),(5,.c (.w 0)),(6,.c .i),(7,.c .i)],[(0,.w 50 15)]⟩)],[]⟩ s80 g80:=fun _ _ _=>by kernel_rfl
def g163 : Tx:=fun Is a K=>jn (fun k1=>ah (cell (ent a 1) 0) fun z3=>ifK (decide (z3 = (3 : Int))) (caK Is s70 [[cell (ent a 0) 0],sub (ent
 a 1) 1 3] fun r4=>aa 3 (cell (ent r4 0) 0) fun n5 c6=>k1 [[.sl n5 3 c6],ent a 1]) (k1 [[cell (ent a 0) 0],ent a 1])) (fun st2=>Lp (fun
 oE st8=>ah (cell (ent st8 1) 0) fun z9=>aa 5 (cell (ent st8 2) 4) fun n10 _=>ifK (decide (z9 < (n10 : Int))) (aa 5 (cell (ent st8 2)
 4) fun n12 c13=>ckK (0<=z9/\z9 < (n12 : Int)) (caK Is y7 [[cell (ent st8 0) 0],el c13 5 (Int.toNat z9)] fun r14=>ckK (okI (z9+1)) (oE
 [[cell (ent r14 0) 0],[vI (z9+1)],ent st8 2]))) (K [[cell (ent st8 0) 0]])) [[cell (ent st2 0) 0],[vI 0],ent st2 1])
theorem w163 : Wd ⟨[s70,y7],[42],[],[],aJ,aI,false,av,false,false,[]⟩ ⟨[(4,⟨[(0,.c .d),(3,.c (.p 0 0)),(5,.c .i)],[(0,.a 46 5)]⟩)],[(3,⟨[(0,.c .d),(3,.c (.p 0 0))],[(0,.a 46 5)]⟩)],[]⟩ y7 g163:=fun _ _ _=>by kernel_rfl
def g27 : Tx:=fun _ a K=>ah (cell (ent a 0) 0) fun z1=>ifK (decide (z1 = (2 : Int))) (K [[vB true]]) (ifK (decide (z1 = (3 : Int))) (K [[vB
 true]]) (ifK (decide (z1 = (4 : Int))) (K [[vB true]]) (K [[vB (decide (z1 = (5 : Int)))]])))
theorem w27 : Wd ⟨[],[42],[],[],aJ,aI,false,av,false,false,[]⟩ ⟨[],[],[]⟩ s27 g27:=fun _ _ _=>by kernel_rfl
def g164 : Tx:=fun Is a K=>jn (fun k1=>Lp (fun fQ st4=>ah (cell (ent st4 0) 0) fun z5=>aa 15 (cell (ent st4 2) 0) fun n6 c7=>aa
 15 (cell (ent st4 1) 13) fun n8 _=>ifK (decide (z5 < (n8 : Int))) (aa 15 (cell (ent st4 1) 13) fun n10 c11=>ckK (0<=z5/\z5 < (n10 : Int))
 (caK Is Ew [el c11 15 (Int.toNat z5)] fun r12=>aa 15 (cell (ent r12 0) 0) fun n13 c14=>ckK (room (n6+n13) 169) (ckK (okI (z5+1)) (fQ
 [[vI (z5+1)],ent st4 1,[.sl (n6+n13) 15 (c7++c14)]])))) (k1 [ent st4 1,[.sl n6 15 c7]])) [[vI 0],ent a 0,[.sl 0 15 []]]) (fun st2=>aa
 15 (cell (ent st2 1) 0) fun n15 c16=>ckK (room (n15+1) 169) (K [[.sl (n15+1) 15 (c16++((ent st2 0)++[]))]]))
theorem w164 : Wd ⟨[Ew],[42],[],[],aJ,aI,false,av,false,false,[]⟩ ⟨[(3,⟨[(1,.c (.p 0 0)),(3,.c (.w 1)),(4,.c .i)],[(0,.a 50 15),(1,.w 50 15)]⟩)],[(6,⟨[(1,.c (.p 0 0)),(3,.c (.w 1))],[(0,.a 50 15),(1,.w 50 15)]⟩)],[]⟩ Ew g164:=fun _ _ _=>by kernel_rfl
def g71 : Tx:=fun Is a K=>Lp (fun kT st2=>ah (cell (ent st2 2) 0) fun z3=>aa 3 (cell (ent st2 0) 0) fun n4 _=>ifK (decide (z3 < (n4 :
 Int))) (aa 3 (cell (ent st2 0) 0) fun n6 c7=>ckK (0<=z3/\z3 < (n6 : Int)) (caK Is s20 [[cell (ent st2 1) 0],el c7 3 (Int.toNat z3)] fun r8 =>
 bU (cell (ent r8 0) 0) fun b9=>ifK (!b9) (K [[vB false]]) (ckK (okI (z3+1)) (kT [[cell (ent st2 0) 0],[cell (ent st2 1) 0],[vI (z3 +
 1)]])))) (K [[vB true]])) [[cell (ent a 0) 0],[cell (ent a 1) 0],[vI 0]]
theorem w71 : Wd ⟨[s20],[42],[],[],aJ,aI,false,av,false,false,[]⟩ ⟨[(2,⟨[(0,.c .d),(1,.c .d),(5,.c .i)],[]⟩)],[],[]⟩ s71 g71:=fun _ _ _=>by kernel_rfl
def g20 : Tx:=fun _ a K=>Lp (fun kT st2=>ah (cell (ent st2 1) 0) fun z3=>aa 3 (cell (ent st2 0) 0) fun n4 _=>ifK (decide (z3 < (n4 :
 Int))) (aa 3 (cell (ent st2 0) 0) fun n6 c7=>ckK (0<=z3/\z3 < (n6 : Int)) (ah (cell (el c7 3 (Int.toNat z3)) 0) fun z8=>ah (cell (el c7
 3 (Int.toNat z3)) 1) fun z9=>ah (cell (el c7 3 (Int.toNat z3)) 2) fun z10=>ah (cell (ent st2 2) 0) fun z11=>ah (cell (ent st2 2) 1) fun
 z12=>ah (cell (ent st2 2) 2) fun z13=>ifK (decide (z8 = z11/\z9 = z12/\z10 = z13)) (K [[vB true]]) (ckK (okI (z3+1)) (kT [[cell (ent
 st2 0) 0],[vI (z3+1)],ent st2 2])))) (K [[vB false]])) [[cell (ent a 0) 0],[vI 0],ent a 1]
theorem w20 : Wd ⟨[],[42],[],[],aJ,aI,false,av,false,false,[]⟩ ⟨[(2,⟨[(0,.c .d),(3,.c (.p 0 0)),(5,.c .i)],[(0,.a 42 3)]⟩)],[],[]⟩ s20 g20:=fun _ _ _=>by kernel_rfl
def g72 : Tx:=fun _ a K=>Lp (fun kT st2=>ah (cell (ent st2 1) 0) fun z3=>aa 3 (cell (ent st2 3) 0) fun n4 c5=>aa 3 (cell (ent st2
 0) 0) fun n6 _=>ifK (decide (z3 < (n6 : Int))) (jn (fun k8=>aa 3 (cell (ent st2 0) 0) fun n10 c11=>ckK (0<=z3/\z3 < (n10 : Int)) (ah
 (cell (el c11 3 (Int.toNat z3)) 0) fun z12=>ah (cell (el c11 3 (Int.toNat z3)) 1) fun z13=>ah (cell (el c11 3 (Int.toNat z3)) 2) fun z14 =>
 ah (cell (ent st2 2) 0) fun z15=>ah (cell (ent st2 2) 1) fun z16=>ah (cell (ent st2 2) 2) fun z17=>ifK (!(decide (z12 = z15/\z13 = z16
 /\ z14 = z17))) (aa 3 (cell (ent st2 0) 0) fun n18 c19=>ckK (0<=z3/\z3 < (n18 : Int)) (ckK (room (n4+1) 25) (k8 [[cell (ent st2 0) 0],[vI
 z3],ent st2 2,[.sl (n4+1) 3 (c5++((el c19 3 (Int.toNat z3))++[]))]]))) (k8 [[cell (ent st2 0) 0],[vI z3],ent st2 2,[.sl n4 3 c5]]))) (fun
 st9=>ah (cell (ent st9 1) 0) fun z20=>aa 3 (cell (ent st9 3) 0) fun n21 c22=>ckK (okI (z20+1)) (kT [[cell (ent st9 0) 0],[vI (z20 +
 1)],ent st9 2,[.sl n21 3 c22]]))) (K [[.sl n4 3 c5]])) [[cell (ent a 0) 0],[vI 0],ent a 1,[.sl 0 3 []]]
theorem w72 : Wd ⟨[],[42],[],[],aJ,aI,false,av,false,false,[]⟩ ⟨[(3,⟨[(0,.c .d),(3,.c (.p 0 0)),(5,.c (.w 1)),(6,.c .i)],[(0,.a 42 3),(1,.w 42 3)]⟩)],[(4,⟨[(0,.c .d),(3,.c (.p 0 0)),(5,.c (.w 1)),(6,.c .i)],[(0,.a 42 3),(1,.w 42 3)]⟩)],[]⟩ s72 g72:=fun _ _ _=>by kernel_rfl
def g17 : Tx:=fun _ a K=>aa 3 (cell (ent a 0) 0) fun n1 _=>aa 3 (cell (ent a 1) 0) fun n3 _=>ifK (!(decide ((n1 : Int) = (n3 : Int)))) (K
 [[vB false]]) (Lp (fun oH st6=>ah (cell (ent st6 2) 0) fun z7=>aa 3 (cell (ent st6 0) 0) fun n8 _=>ifK (decide (z7 < (n8 : Int))) (aa
 3 (cell (ent st6 0) 0) fun n10 c11=>ckK (0<=z7/\z7 < (n10 : Int)) (aa 3 (cell (ent st6 1) 0) fun n12 c13=>ckK (0<=z7/\z7 < (n12 : Int))
 (ah (cell (el c11 3 (Int.toNat z7)) 0) fun z14=>ah (cell (el c11 3 (Int.toNat z7)) 1) fun z15=>ah (cell (el c11 3 (Int.toNat z7)) 2) fun
 z16=>ah (cell (el c13 3 (Int.toNat z7)) 0) fun z17=>ah (cell (el c13 3 (Int.toNat z7)) 1) fun z18=>ah (cell (el c13 3 (Int.toNat z7)) 2)
 fun z19=>ifK (!(decide (z14 = z17/\z15 = z18/\z16 = z19))) (K [[vB false]]) (ckK (okI (z7+1)) (oH [[cell (ent st6 0) 0],[cell (ent st6 1)
 0],[vI (z7+1)]]))))) (K [[vB true]])) [[cell (ent a 0) 0],[cell (ent a 1) 0],[vI 0]])
theorem w17 : Wd ⟨[],[42],[],[],aJ,aI,false,av,false,false,[]⟩ ⟨[(4,⟨[(0,.c .d),(1,.c .d),(5,.c .i)],[]⟩)],[],[]⟩ s17 g17:=fun _ _ _=>by kernel_rfl
end Go.Proofs.YtmbboaapillefaaGreatDoor

namespace Xe
open Go
def kJ (dn : List Ex) (r : List Ex×MkS) : List Ex×MkS:=(dn++r.1,r.2)
theorem HF (r : List Ex×MkS) : r = kJ [] r:=by unfold kJ;rw [List.nil_append]
theorem BQ {g : GX} {t : Ty} {env : List Bnd} {d : Int} {m : Nat} {s : MkS} {dn : List Ex} {z : List Ex×MkS} (hz : z = kJ dn (di g t env d (m+1) s)) (h : 0 < s.left) : z = kJ (dn++[(g t env d s).1]) (di g t env d m (g t env d s).2):=by
 rw [hz,di,if_pos h]
 simp [kJ]
theorem BP {g : GX} {t : Ty} {env : List Bnd} {d : Int} {m : Nat} {s : MkS} {dn : List Ex} {z : List Ex×MkS} (hz : z = kJ dn (di g t env d m s)) (h : m = 0\/¬ 0 < s.left) : z = (dn,s):=by
 rw [hz]
 cases m with
 | zero=>rw [di];simp [kJ]
 | succ m=>rw [di,if_neg Q0];simp [kJ]
theorem BO {g : GX} {env : List Bnd} {d : Int} {ts : List Ty} {k : Nat} {s : MkS} {dn : List Ex} {z : List Ex×MkS} (hk : k < ts.length) (hz : z = kJ dn (dQ g env d (ts.drop k) s)) : z = kJ (dn++[(g ts[k] env d s).1]) (dQ g env d (ts.drop (k+1)) (g ts[k] env d s).2):=by
 rw [hz,List.drop_eq_getElem_cons hk,dQ]
 simp [kJ]
theorem Fb {g : GX} {env : List Bnd} {d : Int} {ts : List Ty} {k : Nat} {s : MkS} {dn : List Ex} {z : List Ex×MkS} (hk : k = ts.length) (hz : z = kJ dn (dQ g env d (ts.drop k) s)) : z = (dn,s):=by
 rw [hz,hk,List.drop_length,dQ]
 simp [kJ]
def bJ (dn : List Ex) (ns : List ByteArray) (r : (List Ex×List ByteArray)×MkS) : (List Ex×List ByteArray)×MkS:=((dn++r.1.1,ns++r.1.2),r.2)
theorem bJ_nil (r : (List Ex×List ByteArray)×MkS) : r = bJ [] [] r:=by unfold bJ;rw [List.nil_append,List.nil_append]
theorem vk {g : GX} {t : Ty} {env : List Bnd} {d : Int} {id : IdT} {sl : List SlotT} {k : Nat} {s : MkS} {dn : List Ex} {ns : List ByteArray} {z : (List Ex×List ByteArray)×MkS} (hk : k < sl.length) (hz : z = bJ dn ns (aP g t env d id (sl.drop k) k s)) :
  z = bJ (dn++[(g t (env++[⟨id,k,sl[k].ty⟩]) d s).1]) (ns++[(cR (g t (env++[⟨id,k,sl[k].ty⟩]) d s).2).1]) (aP g t env d id (sl.drop (k+1)) (k+1) (cR (g t (env++[⟨id,k,sl[k].ty⟩]) d s).2).2):=by
 rw [hz,List.drop_eq_getElem_cons hk,aP]
 simp [bJ]
theorem yp {g : GX} {t : Ty} {env : List Bnd} {d : Int} {id : IdT} {sl : List SlotT} {k : Nat} {s : MkS} {dn : List Ex} {ns : List ByteArray} {z : (List Ex×List ByteArray)×MkS} (hk : k = sl.length) (hz : z = bJ dn ns (aP g t env d id (sl.drop k) k s)) : z = ((dn,ns),s):=by
 rw [hz,hk,List.drop_length,aP]
 simp [bJ]
def GBd (q : Int) (g : GX) : Prop:=∀ (t : Ty) (env : List Bnd) (d : Int) (s : MkS) (B : Int),0<=B->Bd (q+B) s->Bd B (g t env d s).2
theorem tR {q : Int} {g : GX} (hg : GBd q g) (hq : 1<=q) {t : Ty} {env : List Bnd} {d B : Int} (hB : 0<=B) : ∀ (k : Nat) (s : MkS),Bd (k * q+B) s->Bd B (di g t env d k s).2
 | 0,s,h=>by rw [di];exact h.mono Q2
 | k+1,s,h=>by
  rw [di]
  have e : ((k+1 : Nat) : Int) * q = k * q+q:=by rw [Int.natCast_add,Int.add_mul];simp
  have h0 : 0<=(k : Int) * q:=Int.mul_nonneg Q0 Q0
  split
  ·exact tR hg hq hB k _ (hg t env d s _ Q0 (h.mono Q0))
  ·exact h.mono Q0
theorem kX {q : Int} {g : GX} (hg : GBd q g) (hq : 1<=q) {env : List Bnd} {d B : Int} (hB : 0<=B) : ∀ (ts : List Ty) (s : MkS),Bd (ts.length * q+B) s->Bd B (dQ g env d ts s).2
 | [],s,h=>by rw [dQ];exact h.mono Q2
 | t::ts,s,h=>by
  rw [dQ]
  have e : ((t::ts).length : Int) * q = ts.length * q+q:=by rw [List.length_cons,Int.natCast_add,Int.add_mul];simp
  have h0 : 0<=(ts.length : Int) * q:=Int.mul_nonneg Q0 Q0
  exact kX hg hq hB ts _ (hg t env d s _ Q0 (h.mono Q0))
theorem qU {q : Int} {g : GX} (hg : GBd q g) (hq : 1<=q) {t : Ty} {env : List Bnd} {d B : Int} {id : IdT} (hB : 0<=B) : ∀ (sl : List SlotT) (k : Nat) (s : MkS),Bd (sl.length * (q+1)+B) s->Bd B (aP g t env d id sl k s).2
 | [],k,s,h=>by rw [aP];exact h.mono Q2
 | x::xs,k,s,h=>by
  rw [aP]
  have e : ((x::xs).length : Int) * (q+1) = xs.length * (q+1)+(q+1):=by rw [List.length_cons,Int.natCast_add,Int.add_mul];simp
  have h0 : 0<=(xs.length : Int) * (q+1):=Int.mul_nonneg Q0 Q0
  refine qU hg hq hB xs (k+1) _ (Bd.name' (A:=xs.length * (q+1)+B+1) (hg t _ d s _ Q0 (h.mono Q0)) Q0)
theorem sy (p : ProgT) (id : IdT) : an p id = gQ\/an p id∈p.defs:=by
 unfold an
 cases h : p.defs.find? fun d=>decide (d.id = id) with
 | none=>exact .inl rfl
 | some d=>exact .inr (List.mem_of_find?_eq_some h)
def jC (p : ProgT) : Prop:=∀ d∈p.defs,d.slots.length<=3
theorem jC.the {p : ProgT} (h : jC p) (id : IdT) : (an p id).slots.length<=3:=by
 rcases sy p id with e | e
 ·rw [e];exact Nat.zero_le _
 ·exact h _ e
theorem jC.at {c : MkC} (h : jC c.p) (k : Nat) : (bk c k).slots.length<=3:=by
 unfold bk
 rcases Nat.lt_or_ge k c.p.defs.length with hk | hk
 ·rw [List.getD_eq_getElem?_getD,List.getElem?_eq_getElem hk];exact h _ (List.getElem_mem hk)
 ·rw [List.getD_eq_getElem?_getD,List.getElem?_eq_none hk];exact Nat.zero_le _
theorem le3 {n : Nat} {q : Int} (h : n<=3) (hq : 0<=q) : (n : Int) * q<=3 * q:=Int.mul_le_mul_of_nonneg_right Q0 hq
theorem Dn {q : Int} {g : GX} {c : MkC} (hg : GBd q g) (hq : 1<=q) (hs : jC c.p) {t : Ty} {env : List Bnd} {x d B : Int} {s : MkS} (hB : 0<=B) (h : Bd (3 * q+1+B) s) : Bd B (kq c g t env x d s).2:=by
 unfold kq
 split
 ·exact h.node Q0
 split
 ·exact h.node Q0
 split
 ·have h3 : (if 0<=d then (x.tmod 3).toNat else 0)<=3:=by
   split
   ·have:=Int.tmod_lt_of_pos x (show (0 : Int) < 3 by omega);omega
   ·omega
  dsimp only
  exact Bd.node (tR hg hq (B:=B+1) Q0 _ s (h.mono (by have:=le3 h3 (show 0<=q by omega);omega))) Q0
 split
 ·dsimp only
  exact Bd.node (hg _ _ _ s (B+1) Q0 (h.mono Q0)) Q0
 ·have h3:=hs.the t.df
  dsimp only
  exact Bd.node (kX hg hq (B:=B+1) Q0 _ s (h.mono (by have:=le3 h3 (show 0<=q by omega);rw [List.length_map];omega))) Q0
theorem uH {q : Int} {g : GX} (hg : GBd q g) (hq : 1<=q) {n : Int} {u : Ty} {env : List Bnd} {d B : Int} {s : MkS} (hB : 0<=B) (h : Bd (2 * q+1+B) s) : Bd B (lI g n u env d s).2:=by
 unfold lI
 exact Bd.node (hg _ _ _ _ (B+1) Q0 (hg _ _ _ s (q+(B+1)) Q0 (h.mono Q0))) Q0
theorem De {q : Int} {g : GX} (hg : GBd q g) {n : Int} {u : Ty} {env : List Bnd} {d B : Int} {s : MkS} (hB : 0<=B) (h : Bd (q+1+B) s) : Bd B (oneG g n u env d s).2:=by
 unfold oneG
 exact Bd.node (hg _ _ _ s (B+1) Q0 (h.mono Q0)) Q0
theorem xK {q : Int} {g : GX} {c : MkC} (hg : GBd q g) (hq : 1<=q) (hs : jC c.p) {t : Ty} {env : List Bnd} {x d B : Int} {s : MkS} (hB : 0<=B) (h : Bd (3 * q+1+B) s) : Bd B (opG c g t env x d s).2:=by
 unfold opG
 split
 ·split
  ·exact De hg hB (h.mono Q0)
  ·exact uH hg hq hB (h.mono Q0)
 split
 ·split
  ·exact De hg hB (h.mono Q0)
  ·exact uH hg hq hB (h.mono Q0)
 split
 ·exact uH hg hq hB (h.mono Q0)
 ·exact Dn hg hq hs hB h
theorem E7 {q : Int} {g : GX} {c : MkC} (hg : GBd q g) (hq : 1<=q) (hs : jC c.p) {t : Ty} {env : List Bnd} {x d B : Int} {s : MkS} (hB : 0<=B) (h : Bd (4 * q+4+B) s) : Bd B (jU c g t env x d s).2:=by
 unfold jU
 split
 ·exact xK hg hq hs hB (h.mono Q0)
 ·have h3:=le3 (hs.at (c:=c) (ofG c 1 x.toNat).toNat) (show 0<=q+1 by omega)
  dsimp only
  exact qU hg hq hB _ _ _ (Bd.node (A:=3 * (q+1)+B+1) (hg _ _ _ s _ Q0 (h.mono Q0)) Q0)
theorem Fw {q : Int} {g : GX} {c : MkC} (hg : GBd q g) (hq : 1<=q) (hs : jC c.p) {t : Ty} {env : List Bnd} {x d B : Int} {s : MkS} (hB : 0<=B) (h : Bd (4 * q+4+B) s) : Bd B (jZ c g t env x d s).2:=by
 unfold jZ
 split
 ·dsimp only
  exact Bd.node (hg _ _ _ s (B+1) Q0 (h.mono Q0)) Q0
 ·exact xK hg hq hs hB (h.mono Q0)
theorem IA {q : Int} {g : GX} {c : MkC} (hg : GBd q g) (hq : 1<=q) (hs : jC c.p) {t : Ty} {env : List Bnd} {x d B : Int} {s : MkS} (hB : 0<=B) (h : Bd (4 * q+4+B) s) : Bd B (pq c g t env x d s).2:=by
 unfold pq
 split
 ·rename_i k _
  have h3:=le3 (hs.at (c:=c) k) (show 0<=q by omega)
  dsimp only
  exact Bd.node (kX hg hq (B:=B+1) Q0 _ s (h.mono (by rw [List.length_map];omega))) Q0
 ·exact xK hg hq hs hB (h.mono Q0)
theorem Gp {q : Int} {g : GX} {c : MkC} (hg : GBd q g) (hq : 1<=q) (hs : jC c.p) {t : Ty} {env : List Bnd} {k x d B : Int} {s : MkS} (hB : 0<=B) (h : Bd (4 * q+4+B) s) : Bd B (qx c g t env k x d s).2:=by
 unfold qx
 split
 ·dsimp only [ifG]
  exact Bd.node (hg _ _ _ _ (B+1) Q0 (hg _ _ _ _ (q+(B+1)) Q0 (hg _ _ _ s (q+(q+(B+1))) Q0 (h.mono Q0)))) Q0
 split
 ·dsimp only [letG]
  exact hg _ _ _ _ B Q0 (Bd.name' (A:=q+B+1) (Bd.node (A:=q+B+2) (hg _ _ _ s _ Q0 (h.mono Q0)) Q0) Q0)
 split
 ·exact E7 hg hq hs hB h
 split
 ·exact Fw hg hq hs hB h
 split
 ·exact IA hg hq hs hB h
 split
 ·dsimp only [HV]
  exact hg _ _ _ _ B Q0 (Bd.name' (A:=q+B+1) (Bd.name' (A:=q+B+2) (Bd.node (A:=q+B+3) (hg _ _ _ _ _ Q0 (hg _ _ _ s (q+(q+B+3)) Q0 (h.mono Q0))) Q0) Q0) Q0)
 ·exact xK hg hq hs hB (h.mono Q0)
theorem Ao {q : Int} {g : GX} {c : MkC} (hg : GBd q g) (hq : 1<=q) (hs : jC c.p) : GBd (9 * q) (uu c g):=by
 intro t env d s B hB h
 have h1 : Bd (4 * q+4+B) (fF c 65536 s).2:=h.num Q0
 unfold uu
 dsimp only
 generalize (if (fF c 65536 s).2.left<=0 then min d 0 else d) = dd
 split
 ·dsimp only [FO]
  exact Bd.node (A:=4 * q+4+B) h1 Q0
 split
 ·exact Dn hg hq hs hB (h1.mono Q0)
 ·exact Gp hg hq hs hB h1
theorem cq {c : MkC} (hs : jC c.p) : ∀ n : Nat,GBd (9 ^ n) (ak c n)
 | 0=>fun t env d s B hB h=>h.mono (by have e : (9 : Int) ^ 0 = 1:=rfl;omega)
 | n+1=>by
  have h:=Ao (cq hs n) (Int.pow_pos Q1) hs
  rw [show (9 : Int) ^ (n+1) = 9 * 9 ^ n by rw [Int.pow_succ,Int.mul_comm]]
  exact h
structure GenOk (p : ProgT) (R : Nat) : Prop where
 short : jC p
 kase : ∀ d∈p.defs,d.kind = 1->0 < d.slots.length
 slot : ∀ d∈p.defs,∀ s∈d.slots,wfT p R s.ty
 res : ∀ d∈p.defs,d.kind = 2->wfT p R d.result
 own : ∀ d∈p.defs,d.kind = 0\/d.kind = 1->wfT p R (ofT d.id)
 R2 : 2<=R
def okT (p : ProgT) (R n : Nat) (t : Ty) (depth : Int) : Prop:=(depth<=0/\wfT p n t)\/(0 < depth/\wfT p R t/\(R : Int)+depth<=n)
theorem okT.wf {p : ProgT} {R n : Nat} {t : Ty} {depth : Int} (h : okT p R n t depth) : wfT p n t:=by
 rcases h with h | h
 ·exact h.2
 ·exact bh Q0 h.2.1
theorem okT.pos {p : ProgT} {R n : Nat} {t : Ty} {depth : Int} (h : okT p R n t depth) : 0 < n:=by
 have:=h.wf
 cases n with
 | zero=>exact this.elim
 | succ n=>omega
theorem okT.any {p : ProgT} {R n : Nat} {t u : Ty} {depth : Int} (h : okT p R (n+1) t depth) (h0 : 0 < depth) (hu : wfT p R u) {j : Int} (hj : 1<=j) : okT p R n u (depth - j):=by
 rcases h with h | h
 ·omega
 ·by_cases h1 : depth - j<=0
  ·exact .inl ⟨h1,bh Q0 hu⟩
  ·exact .inr ⟨Q0,hu,Q0⟩
theorem okT.part {p : ProgT} {R n : Nat} {t u : Ty} {depth : Int} (h : okT p R (n+1) t depth) (hu : ∀ m,wfT p (m+1) t->wfT p m u) : okT p R n u (depth - 1):=by
 by_cases h0 : 0 < depth
 ·rcases h with h1 | h1
  ·omega
  ·exact okT.any (.inr h1) h0 (hu R (bh Q0 h1.2.1)) Q0
 ·rcases h with h1 | h1
  ·exact .inl ⟨Q0,hu n h1.2⟩
  ·omega
theorem okT.low {p : ProgT} {R n : Nat} {t : Ty} {depth : Int} (h : okT p R n t depth) : okT p R n t (min depth 0):=.inl ⟨Q0,h.wf⟩
abbrev bp (env : List Bnd) : D:=.sl env.length 9 (env.flatMap Bnd.enc)
theorem kz {p : ProgT} {R : Nat} (h : 2<=R) : wfT p R (bN ty0):=bh h (Ed (wY p 0))
theorem fit_mem {env : List Bnd} {t : Ty} {b : Bnd} (h : b∈cW env t) : b∈env:=(List.mem_filter.1 h).1
def dpt (s1 : MkS) (depth : Int) : Int:=if s1.left<=0 then min depth 0 else depth
theorem Ii {p : ProgT} {R n : Nat} {t : Ty} {s1 : MkS} {depth : Int} (h : okT p R n t depth) : okT p R n t (dpt s1 depth):=by
 unfold dpt
 split
 ·exact h.low
 ·exact h
theorem uv (c : MkC) (n : Nat) (t : Ty) (env : List Bnd) (depth : Int) (s : MkS) : ak c (n+1) t env depth s =
  if 0 < (cW env t).length/\(dpt (fF c 65536 s).2 depth<=0\/(fF c 65536 s).1.tmod 3 = 0) then FO ((cW env t).getD (((fF c 65536 s).1.tdiv 3).tmod (cW env t).length).toNat default) (fF c 65536 s).2
  else if dpt (fF c 65536 s).2 depth<=0 then kq c (ak c n) t env ((fF c 65536 s).1.tdiv 3) (dpt (fF c 65536 s).2 depth) (fF c 65536 s).2
  else qx c (ak c n) t env (((fF c 65536 s).1.tdiv 3).tmod 12) ((fF c 65536 s).1.tdiv 36) (dpt (fF c 65536 s).2 depth) (fF c 65536 s).2:=rfl
mutual
def Ex.post : Ex->List Int
 | .mk i _ _ _ _ l _=>Ex.er l++[i.index]
def Ex.er : List Ex->List Int
 | []=>[]
 | e::es=>e.post++Ex.er es
end
theorem Ex.post_eq (e : Ex) : e.post = Ex.er e.kids++[e.id.index]:=by cases e;rw [Ex.post];rfl
theorem Ex.oo : ∀ (l m : List Ex),Ex.er (l++m) = Ex.er l++Ex.er m
 | [],m=>by simp [Ex.er]
 | x::xs,m=>by rw [List.cons_append,Ex.er,Ex.er,Ex.oo xs m,List.append_assoc]
theorem Ex.Bq (l : List Ex) (k : Nat) (h : k < l.length) : Ex.er (l.take (k+1)) = Ex.er (l.take k)++l[k].post:=by
 rw [List.take_succ_eq_append_getElem h,Ex.oo]
 simp [Ex.er]
mutual
theorem Ex.oq : ∀ e : Ex,e.post.length = e.size
 | .mk i k n r t l s=>by rw [Ex.post,Ex.size,List.length_append,Ex.pZ l];simp;omega
theorem Ex.pZ : ∀ l : List Ex,(Ex.er l).length = Ex.sizes l
 | []=>by simp [Ex.er,Ex.sizes]
 | e::es=>by rw [Ex.er,Ex.sizes,List.length_append,Ex.oq e,Ex.pZ es]
end
def tV (ids : List IdT) (z : Int) : IdT:=ids.getD z.toNat default
def qy (ids : List IdT) (k : Int) (r : IdT) : IdT:=if k = 2/\r.seq = 0 then tV ids r.index else r
mutual
def jJ (ids : List IdT) : Ex->Ex
 | .mk i k n r t l s=>.mk (tV ids i.index) k n (qy ids k r) t (og ids l) s
def og (ids : List IdT) : List Ex->List Ex
 | []=>[]
 | e::es=>jJ ids e::og ids es
end
theorem renE_eq (ids : List IdT) (e : Ex) : jJ ids e = .mk (tV ids e.id.index) e.kind e.n (qy ids e.kind e.ref) e.ty (og ids e.kids) e.names:=by cases e;rw [jJ];rfl
theorem zh (ids : List IdT) : ∀ l : List Ex,og ids l = l.map (jJ ids)
 | []=>by simp [og]
 | e::es=>by rw [og,zh ids es,List.map_cons]
mutual
def inB (m : Int) : Ex->Prop
 | .mk i k _ r _ l _=>(0<=i.index/\i.index < m)/\(k = 2/\r.seq = 0->0<=r.index/\r.index < m)/\oS m l
def oS (m : Int) : List Ex->Prop
 | []=>True
 | e::es=>inB m e/\oS m es
end
theorem inB_eq (m : Int) (e : Ex) : inB m e↔(0<=e.id.index/\e.id.index < m)/\(e.kind = 2/\e.ref.seq = 0->0<=e.ref.index/\e.ref.index < m)/\oS m e.kids:=by cases e;rw [inB];rfl
theorem zW {m : Int} : ∀ {l : List Ex} {e : Ex},oS m l->e∈l->inB m e
 | x::xs,e,h,he=>by
  rw [oS] at h
  rcases List.mem_cons.1 he with rfl | he
  ·exact h.1
  ·exact zW h.2 he
theorem idAt_eq {ids : List IdT} {k : Nat} {z : Int} (h : z = (k : Int)) (hk : k < ids.length) : tV ids z = ids[k]:=by
 unfold tV
 rw [h,Int.toNat_natCast,List.getD_eq_getElem?_getD,List.getElem?_eq_getElem hk]
 rfl
def Eu (a b : Ty) : List Ty:=[ty0,.mk 1 id0 [],bN ty0,a,b,ty0]
def bu (n : Int) (a b : Ty) : Ty:=(Eu a b).getD (around n 6).toNat ty0
abbrev tyL : Ty:=.mk 1 id0 []
def inT1 (a : Int) : Ty:=if a = 1 then tyL else ty0
def inT2 (a : Int) : Ty:=if a = 2 then bN ty0 else inT1 a
def inT (a : Int) (T : Ty) : Ty:=if a = 3 then T else inT2 a
def inZ1 (l : List Int) (i a : Int) : Int:=if a = 1 then 0 else 1+atL l (i+1) 3
def inZ2 (l : List Int) (i a : Int) : Int:=if a = 2 then 1+atL l (i+1) 2 else inZ1 l i a
def inZ (l : List Int) (i a : Int) : Int:=if a = 3 then 1 else inZ2 l i a
def in1 (c : Int) : List Ty:=if c = 1 then [ty0] else []
def zY (c : Int) : List Int:=if c = 1 then [1] else []
def in2 (c : Int) : List Ty:=if c = 2 then [tyL] else in1 c
def HL (c : Int) : List Int:=if c = 2 then [0] else zY c
def x7 (l : List Int) (i : Int) (T : Ty) : List Ty:=inT (atL l i 5) T::in2 (atL l (i+2) 3)
def Fm (l : List Int) (i : Int) : List Int:=inZ l i (atL l i 5)::HL (atL l (i+2) 3)
theorem inZ_rng (l : List Int) (i a : Int) : 0<=inZ l i a/\inZ l i a<=3:=by
 have h2:=dc l (i+1) 2 Q0
 have h3:=dc l (i+1) 3 Q0
 unfold inZ inZ2 inZ1
 split
 ·omega
 split
 ·omega
 split <;> omega
theorem in2_len (c : Int) : (in2 c).length = (HL c).length:=by
 unfold in2 HL in1 zY
 split
 ·rfl
 split <;> rfl
theorem HK (c : Int) : (in2 c).length<=1:=by
 unfold in2 in1
 split
 ·simp
 split <;> simp
structure PlanT where
 kind : Int
 name : ByteArray
 types : List Ty
 names : List ByteArray
 bases : List Int
 result : Ty
 mod : Int
def PlanT.enc (p : PlanT) : List D:=[aj p.kind,bA p.name,.sl p.types.length 5 (p.types.flatMap Ty.enc),DY p.names,aY p.bases]++p.result.enc++[aj p.mod]
theorem PlanT.aM (p : PlanT) : p.enc.length = 11:=by rw [PlanT.enc,Ty.aT];rfl
abbrev nPoint : ByteArray:=⟨#[80,111,105,110,116]⟩
abbrev BE : ByteArray:=⟨#[69,118,101,110,116]⟩
abbrev G9 : ByteArray:=⟨#[83,116,97,116,101]⟩
abbrev nOut : ByteArray:=⟨#[79,117,116]⟩
abbrev n_a : ByteArray:=⟨#[97]⟩
abbrev n_b : ByteArray:=⟨#[98]⟩
abbrev n_c : ByteArray:=⟨#[99]⟩
abbrev n_e : ByteArray:=⟨#[101]⟩
abbrev n_f : ByteArray:=⟨#[102]⟩
abbrev n_g : ByteArray:=⟨#[103]⟩
abbrev n_s : ByteArray:=⟨#[115]⟩
abbrev n_t : ByteArray:=⟨#[116]⟩
abbrev n_x : ByteArray:=⟨#[120]⟩
abbrev n_y : ByteArray:=⟨#[121]⟩
abbrev n_z : ByteArray:=⟨#[122]⟩
abbrev G8 : ByteArray:=⟨#[84,105,99,107]⟩
abbrev He : ByteArray:=⟨#[80,117,115,104]⟩
abbrev nSet : ByteArray:=⟨#[83,101,116]⟩
abbrev Hf : ByteArray:=⟨#[99,111,117,110,116]⟩
abbrev nLog : ByteArray:=⟨#[108,111,103]⟩
abbrev nMore : ByteArray:=⟨#[109,111,114,101]⟩
abbrev G1 : ByteArray:=⟨#[115,116,97,116,101]⟩
abbrev zI : ByteArray:=⟨#[115,105,103,110,97,108,115]⟩
abbrev nNext : ByteArray:=⟨#[110,101,120,116]⟩
abbrev nStep : ByteArray:=⟨#[115,116,101,112]⟩
abbrev nOld : ByteArray:=⟨#[111,108,100]⟩
def dz (l : List Int) : Bool:=decide (0 < atL l 1 4)
abbrev tyD (n : Int) : Ty:=ofT (idK n)
def fN (l : List Int) (q : Int) (m : Int) (T : Ty) (k : Nat) : List Ty:=(List.range k).map fun (i : Nat)=>bu (atL l (q+(i : Int)) m) T T
theorem nr (l : List Int) (q m : Int) (T : Ty) (k : Nat) : fN l q m T (k+1) = fN l q m T k++[bu (atL l (q+(k : Int)) m) T T]:=by
 simp [fN,List.range_succ]
theorem gV (l : List Int) (q m : Int) (T : Ty) (k : Nat) : (fN l q m T k).length = k:=by simp [fN]
def jN (l : List Int) (n : Int) : PlanT:=⟨0,nPoint,fN l 3 3 (tyD n) (1+(atL l 2 3).toNat),[n_x,n_y,n_z],[],ty0,0⟩
def kR (l : List Int) (n : Int) : PlanT:=⟨1,BE,ty0::fN l 7 4 (tyD n) (1+(atL l 6 2).toNat),[G8,He,nSet],[],ty0,0⟩
def iy (l : List Int) (n : Int) : PlanT:=⟨0,G9,ty0::fN l 10 4 (tyD n) (atL l 9 3).toNat,[Hf,nLog,nMore],[],ty0,0⟩
def nD (n : Int) : PlanT:=⟨0,nOut,[tyD (n+2),bN ty0,ty0],[G1,zI,nNext],[],ty0,0⟩
def tyS (l : List Int) (n : Int) : Ty:=if dz l then tyD (n+2) else tyD n
def An (l : List Int) (n : Int) : List Ty:=bu (atL l 12 6) (tyD n) (tyD (n+1))::(if atL l 13 2 = 1 then [bu (atL l 14 6) (tyD n) (tyD (n+1))] else [])
def kr (l : List Int) (n : Int) : Ty:=bu (atL l 16 6) (tyD n) (tyD n)
def pF (l : List Int) (n : Int) : PlanT:=⟨2,n_f,An l n,[n_a,n_b],[],kr l n,atL l 15 n⟩
def kQ (n : Int) : PlanT:=⟨3,nStep,[tyD (n+2),tyD (n+1)],[n_s,n_e],[],tyD (n+3),n - 1⟩
def pG (l : List Int) (n : Int) : PlanT:=⟨2,n_g,[tyD (n+1)],[n_e],[],bu (atL l 17 6) (tyD n) (tyD (n+1)),n - 1⟩
def pT (l : List Int) (n : Int) : PlanT:=⟨4,n_t,x7 l 18 (tyD n),[n_a,n_b],Fm l 18,bu (atL l 21 6) (tyD n) (kr l n),n - 1⟩
def pC (l : List Int) (n : Int) : PlanT:=⟨5,n_c,[tyS l n],[nOld],[],bu (atL l 23 6) (tyD n) (tyS l n),n - 1⟩
def jL (l : List Int) (n : Int) : List PlanT:=[jN l n,kR l n]
def dK (l : List Int) (n : Int) : List PlanT:=jL l n++(if dz l then [iy l n,nD n] else [])
def dZ (l : List Int) (n : Int) : List PlanT:=dK l n++[pF l n]++[if dz l then kQ n else pG l n]
def aN (l : List Int) (n : Int) : List PlanT:=dZ l n++[pT l n]++(if 0 < atL l 22 4 then [pC l n] else [])
def aq (l : List Int) : Int:=1+atL l 0 2
def cM (p : PlanT) (next : Int) : List SlotT :=
 (List.range p.types.length).map fun (j : Nat)=>⟨idK (next+(j : Int)),p.names.getD j ByteArray.empty,p.types.getD j ty0,if p.kind = 4 then p.bases.getD j 0 else 0,(j : Int)⟩
def iz (p : PlanT) (i next : Int) : DefT:=⟨idK i,p.kind,idK p.mod,p.name,cM p next,p.result,ex0,0,[]⟩
def aF : List PlanT->Int->Int->List DefT
 | [],_,_=>[]
 | p::ps,i,next=>iz p i next::aF ps (i+1) (next+p.types.length)
theorem bV : ∀ (ps : List PlanT) (i next : Int),(aF ps i next).length = ps.length
 | [],_,_=>rfl
 | _::ps,_,_=>by rw [aF,List.length_cons,bV ps,List.length_cons]
end Xe

namespace Pm
open Go Xe
theorem fR (xs : List DefT) {k : Nat} (hk : k < xs.length) : el (xs.flatMap DefT.enc) 31 k = xs[k].enc:=gP DefT.aM xs hk
theorem pe (xs : List SlotT) {k : Nat} (hk : k < xs.length) : el (xs.flatMap SlotT.enc) 11 k = xs[k].enc:=gP SlotT.aM xs hk
theorem DX (xs : List Bnd) {k : Nat} (hk : k < xs.length) : el (xs.flatMap Bnd.enc) 9 k = xs[k].enc:=gP Bnd.aM xs hk
theorem Ax (xs : List ModT) {k : Nat} (hk : k < xs.length) : el (xs.flatMap ModT.enc) 6 k = xs[k].enc:=gP ModT.aM xs hk
theorem dB (xs : List IdT) {k : Nat} (hk : k < xs.length) : el (xs.flatMap IdT.enc) 3 k = xs[k].enc:=gP (enc:=IdT.enc) (fun _=>rfl) xs hk
theorem el_Pl (xs : List PlanT) {k : Nat} (hk : k < xs.length) : el (xs.flatMap PlanT.enc) 11 k = xs[k].enc:=gP PlanT.aM xs hk
theorem id_eq (a b : IdT) : (a.shop = b.shop/\a.seq = b.seq/\a.index = b.index) = (a = b):=propext ⟨fun h=>IdT.ext' h.1 h.2.1 h.2.2,fun h=>by rw [h];exact ⟨rfl,rfl,rfl⟩⟩
theorem ifK_nd (p : Prop) (_ : Decidable p) (k h : Prop) : ifK (!decide p) k h = ((p->h)/\(¬ p->k)):=by
 by_cases hp : p <;> simp [ifK,hp]
theorem pms : (∀ (d : D) (ds : List D) (o n : Nat),sub (d::ds) (o+1) n = sub ds o n)/\(∀ (d : D) (ds : List D) (n : Nat),sub (d::ds) 0 (n+1) = d::sub ds 0 n)/\(∀ (ds : List D),sub ds 0 0 = []) /\
  (∀ (p : Prop) (_ : Decidable p) (k h : Prop),ifK (!decide p) k h = ((p->h)/\(¬ p->k))) /\
  (∀ (t : Ty) (o n : Nat),sub t.enc o n = sub [aj t.kind,aj t.df.shop,aj t.df.seq,aj t.df.index,.sl t.kids.length 5 (t.kids.flatMap Ty.enc)] o n) /\
  (∀ (b : Bnd) (i : Nat),cell b.enc i = cell [aj b.id.shop,aj b.id.seq,aj b.id.index,aj b.n,aj b.ty.kind,aj b.ty.df.shop,aj b.ty.df.seq,aj b.ty.df.index,.sl b.ty.kids.length 5 (b.ty.kids.flatMap Ty.enc)] i) /\
  (∀ (b : Bnd),sub b.enc 4 5 = b.ty.enc)/\(∀ (b : Bnd),sub b.enc 0 3 = b.id.enc) /\
  (∀ (x : SlotT),sub x.enc 4 5 = x.ty.enc)/\(∀ (x : SlotT),sub x.enc 0 3 = x.id.enc) /\
  (∀ (x : DefT),sub x.enc 0 3 = x.id.enc)/\(∀ (x : DefT),sub x.enc 4 3 = x.mod.enc)/\(∀ (x : DefT),sub x.enc 9 5 = x.result.enc)/\(∀ (x : DefT),sub x.enc 14 15 = x.body.enc) /\
  (∀ (x : DefT),cell x.enc 3 = aj x.kind)/\(∀ (x : DefT),cell x.enc 8 = .sl x.slots.length 11 (x.slots.flatMap SlotT.enc))/\(∀ (x : ModT),sub x.enc 0 3 = x.id.enc) /\
  (∀ (x : IdT) (i : Nat),cell x.enc i = cell [aj x.shop,aj x.seq,aj x.index] i)/\(∀ a b : IdT,(a.shop = b.shop/\a.seq = b.seq/\a.index = b.index) = (a = b))/\(∀ e : Ex,sub e.enc 5 3 = e.ref.enc)/\(∀ e : Ex,sub e.enc 0 3 = e.id.enc)/\(∀ e : Ex,sub e.enc 8 5 = e.ty.enc):=by
 refine ⟨fun _ _ _ _=>rfl,fun _ _ _=>rfl,fun _=>rfl,fun _ _ _ _=>ifK_nd _ _ _ _,fun t o n=>by rw [Ty.aT],fun _ _=>rfl,fun b=>by rw [Ty.aT];rfl,fun _=>rfl,fun b=>by rw [Ty.aT];rfl,fun _=>rfl,fun _=>rfl,fun _=>rfl,fun b=>by rw [Ty.aT];rfl,fun b=>by rw [Ex.aT];rfl,fun _=>rfl,fun _=>rfl,fun _=>rfl,fun _ _=>rfl,id_eq,fun e=>by rw [Ex.aT];rfl,fun e=>by rw [Ex.aT];rfl,fun e=>by rw [Ex.aT,Ty.aT];rfl⟩
def mkL (c : MkC) (s : MkS) : List D:=[.sl c.p.mods.length 6 (c.p.mods.flatMap ModT.enc),aY c.l,vI s.pos,vI s.temp,vI s.left,vI c.own,vI c.home.shop,vI c.home.seq,vI c.home.index,vI s.name]
def dfL (c : MkC) : List D:=[.sl c.p.defs.length 31 (c.p.defs.flatMap DefT.enc)]
def exL (e : Ex) : List D:=[aj e.id.shop,aj e.id.seq,aj e.id.index,aj e.kind,aj e.n,aj e.ref.shop,aj e.ref.seq,aj e.ref.index,aj e.ty.kind,aj e.ty.df.shop,aj e.ty.df.seq,aj e.ty.df.index,
  .sl e.ty.kids.length 5 (e.ty.kids.flatMap Ty.enc),.sl e.kids.length 15 (e.kids.flatMap Ex.enc)]
def nmL (e : Ex) : List D:=[DY e.names]
theorem bY {X : (St'->Prop)->Prop} {k : St'->Prop} (r : St') (h : X fun st=>st = r) (hk : k r) : jn X k:=⟨_,h,fun _ e=>e ▸ hk⟩
def mkR (c : MkC) (r : Ex×MkS) : St':=[exL r.1,nmL r.1,mkL c r.2,dfL c]
theorem pmg : (∀ c s,mkL c s = [.sl c.p.mods.length 6 (c.p.mods.flatMap ModT.enc),aY c.l,vI s.pos,vI s.temp,vI s.left,vI c.own,vI c.home.shop,vI c.home.seq,vI c.home.index,vI s.name]) /\
  (∀ c,dfL c = [.sl c.p.defs.length 31 (c.p.defs.flatMap DefT.enc)])/\(∀ e,nmL e = [.sl e.names.length 1 (e.names.map bA)]) /\
  (∀ e,exL e = [aj e.id.shop,aj e.id.seq,aj e.id.index,aj e.kind,aj e.n,aj e.ref.shop,aj e.ref.seq,aj e.ref.index,aj e.ty.kind,aj e.ty.df.shop,aj e.ty.df.seq,aj e.ty.df.index,.sl e.ty.kids.length 5 (e.ty.kids.flatMap Ty.enc),.sl e.kids.length 15 (e.kids.flatMap Ex.enc)]) /\
  (∀ c r,mkR c r = [exL r.1,nmL r.1,mkL c r.2,dfL c]):=⟨fun _ _=>rfl,fun _=>rfl,fun _=>rfl,fun _=>rfl,fun _ _=>rfl⟩
structure Ctx (c : MkC) (R : Nat) : Prop where
 gen : GenOk c.p R
 li : ∀ x∈c.l,InI x
 m0 : 0 < c.p.mods.length
 d0 : 0 < c.p.defs.length
 d1 : c.p.defs.length<=100
 sty : ∀ d∈c.p.defs,∀ x∈d.slots,x.ty.size<=1000
 rty : ∀ d∈c.p.defs,d.result.size<=1000
structure Fit (c : MkC) (R n : Nat) (t : Ty) (env : List Bnd) (depth : Int) : Prop where
 e0 : 0 < env.length
 e1 : env.length+2 * n<=1000
 ew : ∀ b∈env,wfT c.p R b.ty
 es : ∀ b∈env,b.ty.size<=1000
 ts : t.size<=1000
 ok : okT c.p R n t depth
 dp : (n : Int) - 1000<=depth/\depth<=1000
theorem Fit.kid {c : MkC} {R n : Nat} {t : Ty} {env : List Bnd} {depth : Int} (h : Fit c R (n+1) t env depth) {u : Ty} (hu : ∀ m,wfT c.p (m+1) t->wfT c.p m u) (hs : u.size<=1000) : Fit c R n u env (depth - 1) :=
 ⟨h.e0,by have:=h.e1;omega,h.ew,h.es,hs,h.ok.part hu,by have:=h.dp;omega⟩
theorem Fit.any {c : MkC} {R n : Nat} {t : Ty} {env : List Bnd} {depth : Int} (h : Fit c R (n+1) t env depth) (h0 : 0 < depth) {u : Ty} (hu : wfT c.p R u) (hs : u.size<=1000) {j : Int} (hj : 1<=j) (hj2 : j<=2) : Fit c R n u env (depth - j) :=
 ⟨h.e0,by have:=h.e1;omega,h.ew,h.es,hs,h.ok.any h0 hu hj,by have:=h.dp;have:=h.e1;omega⟩
theorem Fit.wt {c : MkC} {R n : Nat} {t : Ty} {env : List Bnd} {depth : Int} (h : Fit c R n t env depth) (h0 : 0 < depth) : wfT c.p R t:=by
 rcases h.ok with h1 | h1
 ·omega
 ·exact h1.2.1
theorem Fit.more {c : MkC} {R n : Nat} {t : Ty} {env : List Bnd} {depth : Int} (h : Fit c R n t env depth) {b : Bnd} (hw : wfT c.p R b.ty) (hs : b.ty.size<=1000) (hl : env.length+1+2 * n<=1000) : Fit c R n t (env++[b]) depth :=
 ⟨Q2,Qc,fun x hx=>by
  rcases List.mem_append.1 hx with hx | hx
  ·exact h.ew x hx
  ·rw [List.mem_singleton.1 hx];exact hw,fun x hx=>by
  rcases List.mem_append.1 hx with hx | hx
  ·exact h.es x hx
  ·rw [List.mem_singleton.1 hx];exact hs,h.ts,h.ok,h.dp⟩
theorem lQ {p : ProgT} {R : Nat} (hR : 2<=R) {t : Ty} (h : t.kind = 0\/t.kind = 1) : wfT p R t:=by
 obtain ⟨m,rfl⟩ : ∃ m,R = m+1:=⟨R - 1,Q0⟩
 rw [wfT]
 rcases h with h | h
 ·exact .inl h
 ·exact .inr (.inl h)
theorem fm : ty0.enc = [vI 0,vI 0,vI 0,vI 0,.sl 0 5 []]:=by rw [Ty.aT];rfl
theorem rH : (bN ty0).enc = [vI 2,vI 0,vI 0,vI 0,.sl 1 5 [vI 0,vI 0,vI 0,vI 0,.sl 0 5 []]]:=by
 rw [Ty.aT]
 show [aj 2,aj 0,aj 0,aj 0,.sl 1 5 ([ty0].flatMap Ty.enc)] = _
 simp [fm]
theorem ru : (Ty.mk 1 id0 []).enc = [vI 1,vI 0,vI 0,vI 0,.sl 0 5 []]:=by rw [Ty.aT];rfl
theorem HP {α : Type} {l : List α} {d : α} (h : 0 < l.length) : l.headD d = l[0]:=by
 cases l with
 | nil=>cases h
 | cons a l=>rfl
theorem cv {z n : Int} (hz : 0<=z) : z.tmod n = z % n:=Int.tmod_eq_emod_of_nonneg hz
theorem fu {z n : Int} (hz : 0<=z) : z.tdiv n = z / n:=Int.tdiv_eq_ediv_of_nonneg hz
end Pm

namespace Go.Proofs.YtmbboaapillefaaGreatDoor
open Xe Pm
abbrev IS:=Pm.Is Tryz.prog
theorem bB {z n : Int} (hn : 1<=n) (hz : InI z) : IS s22 [[vI z],[vI n]] [[vI (around z n)]]:=by
 refine w22.is ?_
 unfold g22
 simp only [pmr]
 refine dA ?_
 simp only [pmr]
 rw [FM z n hn]
 unfold okI InI at *
 refine ⟨fun h=>⟨Q0,Q0,Q0,?_⟩,fun h=>⟨Q0,?_⟩⟩
 ·rw [if_pos h]
 ·rw [if_neg h]
theorem iY {z : Int} (h0 : 0<=z) (hz : InI z) : IS s30 [[vI z]] [(idK z).enc]:=by
 refine w30.is ?_
 unfold g30
 simp only [pmr]
 unfold okI InI at *
 have e:=fu (n:=32) h0
 refine ⟨⟨Q1,Q0,Q0⟩,Q0,Q1,?_⟩
 rfl
theorem IW {l : List Int} {i n : Int} (hn : 1<=n) (hl : ∀ x∈l,InI x) : IS s29 [[aY l],[vI i],[vI n]] [[vI (atL l i n)]]:=by
 refine w29.is ?_
 unfold g29 aY atL
 simp only [pmr]
 refine ⟨fun h=>by rw [if_pos (.inl h)],fun h=>⟨fun h1=>by rw [if_pos (.inr h1)],fun h1=>⟨Q0,?_⟩⟩⟩
 have hk : i.toNat < l.length:=Q0
 rw [lD l hk]
 simp only [pmr]
 refine ai (bB hn (hl _ (List.getElem_mem hk))) ?_
 simp only [pmr]
 rw [if_neg Q0,List.getD_eq_getElem?_getD,List.getElem?_eq_getElem hk]
 rfl
section
variable {c : MkC} {s : MkS}
theorem num_is {n : Int} (hn : 1<=n) (hl : ∀ x∈c.l,InI x) (hb : Bd 1 s) : IS s116 [[vI n],mkL c s,dfL c] [[vI (fF c n s).1],mkL c (fF c n s).2,dfL c]:=by
 refine w116.is ?_
 unfold g116 mkL dfL
 simp only [pmr]
 unfold okI Bd at *
 refine ⟨Q0,Q0,?_⟩
 refine ai (IW hn hl) ?_
 simp only [pmr,fF,Int.add_sub_cancel]
theorem eC {k n : Int} {kids : List Ex} (hb : Bd 1 s) : IS fe [[vI k],[vI n],[.sl kids.length 15 (kids.flatMap Ex.enc)],mkL c s,dfL c] (mkR c (aO k n kids s)):=by
 refine w120.is ?_
 unfold g120 mkL dfL
 simp only [pmr]
 unfold okI Bd at *
 refine ⟨Q0,Q0,Q0,?_⟩
 simp only [aO,Int.add_sub_cancel]
 rfl
theorem rE (hb : Bd 1 s) : IS y9 [mkL c s,dfL c] [[vS (cR s).1],mkL c (cR s).2,dfL c]:=by
 refine w121.is ?_
 unfold g121 mkL dfL
 simp only [pmr]
 unfold okI Bd at *
 obtain ⟨i,j,h1,h2,h3,h4,h5⟩:=nm_rng (k:=s.name+1) Q0
 have e2 : (s.name+1).tdiv 3 = (s.name+1) / 3:=fu Q0
 refine ⟨Q0,Q1,Q0,⟨Q1,Q0⟩,Q1,Q0,?_⟩
 rw [h1,h3,Int.toNat_natCast,Int.toNat_natCast]
 have e1 : cell (el [vS ⟨#[117]⟩,vS ⟨#[118]⟩,vS ⟨#[119]⟩] 1 i) 0 = vS (nm1.getD i ⟨#[]⟩):=by
  rcases i with _ | _ | _ | i <;> first | rfl | omega
 have e3 : cell (el [vS ⟨#[]⟩,vS ⟨#[49]⟩,vS ⟨#[50]⟩,vS ⟨#[51]⟩,vS ⟨#[52]⟩,vS ⟨#[53]⟩,vS ⟨#[54]⟩,vS ⟨#[55]⟩] 1 j) 0 = vS (nm2.getD j ⟨#[]⟩):=by
  rcases j with _ | _ | _ | _ | _ | _ | _ | _ | j <;> first | rfl | omega
 rw [e1,e3]
 simp only [pmr]
 have:=nm1_rng i h2
 have:=nm2_rng j h4
 refine ⟨Q0,?_⟩
 unfold cR
 rw [h5]
end
theorem Eb (t : Ty) : IS pV [t.enc] [[vI 2,vI 0,vI 0,vI 0],[.sl 1 5 t.enc]]:=by
 refine w114.is ?_
 unfold g114
 simp only [pmr,List.append_nil]
theorem wU (i : IdT) : IS sP [i.enc] [(ofT i).enc]:=by
 refine w112.is ?_
 unfold g112
 rw [Ty.aT]
 rfl
theorem Ty.all_eq {a b : Ty} (h1 : a.kind = b.kind) (h2 : a.df = b.df) (h3 : a.kids = b.kids) : a = b:=by
 cases a;cases b
 simp only [Ty.kind,Ty.df,Ty.kids] at h1 h2 h3
 rw [h1,h2,h3]
theorem Ty.lY : ∀ l : List Ty,l.length<=Ty.sizes l
 | []=>Nat.zero_le _
 | t::l=>by
  have:=Ty.lY l
  have : 1<=t.size:=by cases t;simp [Ty.size]
  simp only [List.length_cons,Ty.sizes]
  omega
theorem Ty.kids_lt (a : Ty) : a.kids.length < a.size:=by
 have:=Ty.lY a.kids
 cases a
 simp only [Ty.size,Ty.kids] at *
 omega
theorem rX (a b : Ty) (hs : a.size<=1000000000000) : IS uY [a.enc,b.enc] [[vB (decide (a = b))]]:=by
 refine w186.is ?_
 unfold g186
 simp only [pmr,pms]
 refine ⟨fun h1=>⟨fun h2'=>?_,fun h2=>?_⟩,fun h1=>by rw [decide_eq_false (fun e=>h1 (by rw [e]))]⟩
 ·refine ⟨fun h3=>?_,fun h3=>by rw [decide_eq_false (fun e=>h3 (by rw [e]))]⟩
  have h3' : a.kids.length = b.kids.length:=Q0
  refine bl a.kids.length (fun i=>[[vI (i : Int)],a.enc,b.enc]) (fun i=>a.kids.take i = b.kids.take i) Q2 rfl fun i next hi hI hn=>?_
  simp only [pmr]
  refine ⟨fun h=>?_,fun h=>?_⟩
  ·have hk : i < a.kids.length:=Q0
   have hk' : i < b.kids.length:=Q0
   rw [qO _ hk,qO _ hk']
   have:=Ty.iu (List.getElem_mem hk)
   have hl:=Ty.kids_lt a
   refine ⟨Q0,Q0,ai (rX _ _ Q0) ?_⟩
   simp only [pmr,pms]
   refine ⟨fun e=>⟨Q4,hn hk ?_⟩,fun e=>?_⟩
   ·rw [List.take_succ_eq_append_getElem hk,List.take_succ_eq_append_getElem hk',hI,e]
   ·rw [decide_eq_false (fun e'=>e (by subst e';rfl))]
  ·obtain rfl : i = a.kids.length:=Q0
   have e : a.kids = b.kids:=by
    rw [List.take_length] at hI
    rw [hI,h3',List.take_length]
   rw [decide_eq_true (Ty.all_eq h1 h2' e)]
 ·rw [decide_eq_false (fun e=>h2 (by rw [e]))]
 termination_by a.size
theorem Def_is (p : ProgT) (i : IdT) (hs : p.defs.length<=1000000000000) (md : D) : IS s23 [[md],i.enc,[.sl p.defs.length 31 (p.defs.flatMap DefT.enc)]] [(an p i).enc,[vB (decide (dR p i))],[.sl p.defs.length 31 (p.defs.flatMap DefT.enc)]]:=by
 refine w23.is ?_
 unfold g23
 simp only [pmr]
 refine dA ?_
 refine bl p.defs.length (fun k=>[[md],[vI (k : Int)],[.sl p.defs.length 31 (p.defs.flatMap DefT.enc)],[md],i.enc,gQ.enc]) (fun k=>∀ j (hj : j < p.defs.length),j < k->p.defs[j].id ≠ i) (fun _ _ h=>absurd h (Nat.not_lt_zero _)) rfl fun k next hi hI hn=>?_
 simp only [pmr,pms]
 refine ⟨fun h=>?_,fun h=>?_⟩
 ·have hk : k < p.defs.length:=Q0
  rw [fR _ hk]
  simp only [pmr,pms]
  refine ⟨Q0,fun e=>⟨Q0,?_⟩,fun e=>⟨Q4,hn hk fun j hj h=>?_⟩⟩
  ·obtain ⟨h1,h2⟩:=ig hk hI e
   rw [h2,decide_eq_true h1]
  ·by_cases e' : j = k
   ·subst e'
    exact e
   ·exact hI j hj Q0
 ·obtain rfl : k = p.defs.length:=Q0
  obtain ⟨h1,h2⟩:=kC fun j hj=>hI j hj hj
  rw [h2,decide_eq_false h1]
  rfl
section
variable {c : MkC} {s : MkS}
theorem mZ {k : Nat} (hk : k < c.p.defs.length) (hm : 0 < c.p.mods.length) : IS y5 [[vI k],mkL c s,dfL c] [[vB (decide (iK c k))],mkL c s,dfL c]:=by
 refine w188.is ?_
 unfold g188 mkL dfL
 simp only [pmr]
 rw [fR _ hk,Ax _ hm]
 simp only [pmr,pms]
 have e1:=gb hk
 have e2:=modA_eq hm
 refine ⟨Q0,fun h=>⟨fun h1=>?_,fun h1=>⟨Q0,?_⟩⟩,fun h=>?_⟩
 ·rw [decide_eq_true (show iK c k from ⟨h,.inl (by rw [e1];exact h1)⟩)]
 ·refine congrArg (fun b=>[[vB b],mkL c s,dfL c]) (decide_eq_decide.2 ?_)
  unfold iK
  rw [e1,e2]
  exact ⟨fun h2=>⟨h,.inr h2⟩,fun h2=>h2.2.resolve_left h1⟩
 ·rw [decide_eq_false (fun hv=>h hv.1)]
theorem of_is {kind : Int} {frm : Nat} (hm : 0 < c.p.mods.length) (hd : 0 < c.p.defs.length) (hl : c.p.defs.length<=1000) (hf : frm<=1000000000000) : IS s187 [[vI kind],[vI frm],mkL c s,dfL c] [[vI (ofG c kind frm)],mkL c s,dfL c]:=by
 refine w187.is ?_
 unfold g187 mkL dfL
 simp only [pmr]
 refine bl c.p.defs.length (fun i=>[[vI kind],[vI frm],[vI (c.p.defs.length : Int)],[vI (i : Int)],mkL c s,dfL c]) (fun i=>ofG c kind frm = eN c kind frm i (c.p.defs.length - i)) rfl rfl fun i next hi hI hn=>?_
 unfold mkL dfL
 simp only [pmr]
 refine ⟨fun h=>?_,fun h=>?_⟩
 ·have hk : i < c.p.defs.length:=Q0
  have ht : (((frm : Int)+i).tmod (c.p.defs.length : Int)) = ((frm+i) % c.p.defs.length : Nat):=by
   rw [cv Q0];simp
  have hlt : (frm+i) % c.p.defs.length < c.p.defs.length:=Nat.mod_lt _ hd
  rw [zx hk] at hI
  refine dA ?_
  rw [ht,Int.toNat_natCast,fR _ hlt]
  simp only [pmr,pms]
  rw [gb hlt] at hI
  have fin : ofG c kind frm = eN c kind frm (i+1) (c.p.defs.length - (i+1))->okI ((i : Int)+1)/\next [[vI kind],[vI frm],[vI (c.p.defs.length : Int)],[vI ((i : Int)+1)],mkL c s,dfL c]:=fun e=>⟨Q4,hn hk e⟩
  refine ⟨Q4,Q0,Q0,fun h1=>ai (mZ hlt hm) ?_,fun h1=>?_⟩
  ·unfold mkL dfL
   simp only [pmr]
   refine ⟨fun h2=>?_,fun h2=>fin ?_⟩
   ·rw [if_pos ⟨h1,h2⟩] at hI
    rw [hI]
   ·rwa [if_neg (fun h=>h2 h.2)] at hI
  ·refine fin ?_
   rwa [if_neg (fun h=>h1 h.1)] at hI
 ·obtain rfl : i = c.p.defs.length:=Q0
  rw [hI,Nat.sub_self]
  rfl
theorem B6 {env : List Bnd} {t : Ty} (ht : ∀ b∈env,b.ty.size<=1000000000000) (hl : env.length<=1000000) : IS s117 [[bp env],t.enc] [[bp (cW env t)]]:=by
 refine w117.is ?_
 unfold g117 bp
 simp only [pmr]
 refine bl env.length (fun i=>[[.sl env.length 9 (env.flatMap Bnd.enc)],[vI (i : Int)],t.enc,[bp (cW (env.take i) t)]]) (fun _=>True) trivial rfl fun i next hi _ hn=>?_
 unfold bp
 simp only [pmr]
 refine ⟨fun h=>?_,fun h=>?_⟩
 ·have hk : i < env.length:=Q0
  refine dA ?_
  rw [DX _ hk]
  simp only [pmr,pms]
  have hf:=uj (t:=t) hk
  have:=Ah (l:=env) (t:=t) i
  have hn':=hn hk trivial
  rw [hf] at hn'
  refine ⟨Q0,ai (rX _ _ (ht _ (List.getElem_mem hk))) ?_⟩
  simp only [pmr]
  refine ⟨fun h1=>?_,fun h1=>?_⟩
  ·rw [if_pos h1] at hn'
   refine ⟨Q0,Qa,Q4,?_⟩
   simpa [bp] using hn'
  ·rw [if_neg h1] at hn'
   exact ⟨Q4,hn'⟩
 ·obtain rfl : i = env.length:=Q0
  rw [List.take_length]
theorem var_is {b : Bnd} (hb : Bd 1 s) : IS Ez [b.enc,mkL c s,dfL c] (mkR c (FO b s)):=by
 refine w118.is ?_
 unfold g118 mkL dfL
 simp only [pmr,pms]
 refine ai (eC (kids:=[]) hb) ?_
 simp only [pmg,pmr]
 rfl
theorem rj {env : List Bnd} {b : Bnd} (hl : env.length<=1000000) : IS y8 [[bp env],b.enc] [[bp (env++[b])]]:=by
 refine w122.is ?_
 unfold g122 bp
 simp only [pmr]
 refine ⟨Qa,Qa,?_⟩
 simp
end
end Go.Proofs.YtmbboaapillefaaGreatDoor

namespace Xe
open Go
def TyS (l : List Int) (n : Int) (t : Ty) : Prop:=t = ty0\/t = tyL\/t = bN ty0\/t = tyD n\/t = tyD (n+1)\/(dz l = true/\t = tyD (n+2))
def mF (l : List Int) (n : Int) (t : Ty) : Prop:=t = ty0\/t = tyL\/t = bN ty0\/t = tyD n\/t = tyD (n+1)\/(dz l = true/\(t = tyD (n+2)\/t = tyD (n+3)))
theorem TyS.up {l : List Int} {n : Int} {t : Ty} (h : TyS l n t) : mF l n t:=by
 rcases h with h | h | h | h | h | ⟨h,k⟩
 ·exact .inl h
 ·exact .inr (.inl h)
 ·exact .inr (.inr (.inl h))
 ·exact .inr (.inr (.inr (.inl h)))
 ·exact .inr (.inr (.inr (.inr (.inl h))))
 ·exact .inr (.inr (.inr (.inr (.inr ⟨h,.inl k⟩))))
theorem vz (z : Int) (a b : Ty) : bu z a b = ty0\/bu z a b = tyL\/bu z a b = bN ty0\/bu z a b = a\/bu z a b = b:=by
 unfold bu
 have:=bM z 6 Q0
 obtain ⟨k,hk,hk6⟩ : ∃ k : Nat,around z 6 = k/\k < 6:=⟨(around z 6).toNat,Q0,Q0⟩
 rw [hk,Int.toNat_natCast]
 rcases k with _ | _ | _ | _ | _ | _ | k
 ·exact .inl rfl
 ·exact .inr (.inl rfl)
 ·exact .inr (.inr (.inl rfl))
 ·exact .inr (.inr (.inr (.inl rfl)))
 ·exact .inr (.inr (.inr (.inr rfl)))
 ·exact .inl rfl
 ·omega
theorem Et {z : Int} (h : 0<=z/\z < 3) (a b : Ty) : bu z a b = ty0\/bu z a b = tyL\/bu z a b = bN ty0:=by
 unfold bu around
 rw [if_neg Q0]
 have : z = 0\/z = 1\/z = 2:=Q0
 rcases this with rfl | rfl | rfl
 ·exact .inl rfl
 ·exact .inr (.inl rfl)
 ·exact .inr (.inr rfl)
theorem gf {l : List Int} {n z : Int} {a b : Ty} (ha : TyS l n a) (hb : TyS l n b) : TyS l n (bu z a b):=by
 rcases vz z a b with e | e | e | e | e <;> rw [e]
 ·exact .inl rfl
 ·exact .inr (.inl rfl)
 ·exact .inr (.inr (.inl rfl))
 ·exact ha
 ·exact hb
theorem sL {l : List Int} {n q m : Int} {T : Ty} (hT : TyS l n T) {k : Nat} : ∀ t∈fN l q m T k,TyS l n t:=fun t ht=>by
 obtain ⟨i,_,rfl⟩:=List.mem_map.1 ht
 exact gf hT hT
theorem TyS.ls {l : List Int} {n : Int} : TyS l n (bN Xe.ty0):=.inr (.inr (.inl rfl))
theorem TyS.p {l : List Int} {n : Int} : TyS l n (tyD n):=.inr (.inr (.inr (.inl rfl)))
theorem TyS.e {l : List Int} {n : Int} : TyS l n (tyD (n+1)):=.inr (.inr (.inr (.inr (.inl rfl))))
theorem TyS.s {l : List Int} {n : Int} : TyS l n (tyS l n):=by
 unfold tyS
 split
 ·rename_i h;exact .inr (.inr (.inr (.inr (.inr ⟨h,rfl⟩))))
 ·exact TyS.p
theorem mF.p {l : List Int} {n : Int} : mF l n (tyD n):=TyS.p.up
theorem mF.e {l : List Int} {n : Int} : mF l n (tyD (n+1)):=TyS.e.up
theorem inTs_in {l : List Int} {n i : Int} : ∀ t∈x7 l i (tyD n),TyS l n t:=by
 intro t ht
 unfold x7 at ht
 rcases List.mem_cons.1 ht with rfl | ht
 ·unfold inT inT2 inT1
  split
  ·exact TyS.p
  split
  ·exact TyS.ls
  split
  ·exact .inr (.inl rfl)
  ·exact .inl rfl
 ·unfold in2 in1 at ht
  split at ht
  ·rw [List.mem_singleton.1 ht];exact .inr (.inl rfl)
  split at ht
  ·rw [List.mem_singleton.1 ht];exact .inl rfl
  ·cases ht
structure PlanOk (l : List Int) (n : Int) (p : PlanT) : Prop where
 tys : ∀ t∈p.types,TyS l n t
 res : mF l n p.result
 mod : 0<=p.mod/\p.mod < n
 t1 : 1<=p.types.length
 t3 : p.types.length<=3
 names : p.types.length<=p.names.length
 bases : p.kind = 4->p.types.length = p.bases.length
 kind : 0<=p.kind/\p.kind<=5
theorem vN {l : List Int} {n : Int} (hn : 1<=n) : PlanOk l n (jN l n):=by
 have h:=dc l 2 3 Q0
 refine ⟨sL TyS.p,.inl rfl,⟨Int.le_refl _,hn⟩,?_,?_,?_,fun e=>by simp [jN] at e,by simp [jN]⟩
 all_goals simp only [jN,gV];first | omega | (show _<=3;omega)
theorem vO {l : List Int} {n : Int} (hn : 1<=n) : PlanOk l n (kR l n):=by
 have h:=dc l 6 2 Q0
 refine ⟨fun t ht=>?_,.inl rfl,⟨Int.le_refl _,hn⟩,?_,?_,?_,fun e=>by simp [kR] at e,by simp [kR]⟩
 ·rcases List.mem_cons.1 ht with rfl | ht
  ·exact .inl rfl
  ·exact sL TyS.p t ht
 all_goals simp only [kR,gV,List.length_cons];first | omega | (show _<=3;omega)
theorem vM {l : List Int} {n : Int} (hn : 1<=n) : PlanOk l n (iy l n):=by
 have h:=dc l 9 3 Q0
 refine ⟨fun t ht=>?_,.inl rfl,⟨Int.le_refl _,hn⟩,?_,?_,?_,fun e=>by simp [iy] at e,by simp [iy]⟩
 ·rcases List.mem_cons.1 ht with rfl | ht
  ·exact .inl rfl
  ·exact sL TyS.p t ht
 all_goals simp only [iy,gV,List.length_cons];first | omega | (show _<=3;omega)
theorem Db {l : List Int} {n : Int} (hn : 1<=n) (hf : dz l = true) : PlanOk l n (nD n):=by
 refine ⟨fun t ht=>?_,.inl rfl,⟨Int.le_refl _,hn⟩,by simp [nD],by simp [nD],by simp [nD],fun e=>by simp [nD] at e,by simp [nD]⟩
 simp only [nD,List.mem_cons,List.not_mem_nil,or_false] at ht
 rcases ht with rfl | rfl | rfl
 ·exact .inr (.inr (.inr (.inr (.inr ⟨hf,rfl⟩))))
 ·exact TyS.ls
 ·exact .inl rfl
theorem pF_ok {l : List Int} {n : Int} (hn : 1<=n) : PlanOk l n (pF l n):=by
 have h:=dc l 15 n hn
 refine ⟨fun t ht=>?_,(gf TyS.p TyS.p).up,h,?_,?_,?_,fun e=>by simp [pF] at e,by simp [pF]⟩
 ·simp only [pF,An] at ht
  rcases List.mem_cons.1 ht with rfl | ht
  ·exact gf TyS.p TyS.e
  ·split at ht
   ·rw [List.mem_singleton.1 ht];exact gf TyS.p TyS.e
   ·cases ht
 all_goals simp only [pF,An];split <;> simp
theorem GD {l : List Int} {n : Int} (hn : 1<=n) (hf : dz l = true) : PlanOk l n (kQ n):=by
 refine ⟨fun t ht=>?_,.inr (.inr (.inr (.inr (.inr ⟨hf,.inr rfl⟩)))),⟨show 0<=n - 1 by omega,show n - 1 < n by omega⟩,by simp [kQ],by simp [kQ],by simp [kQ],fun e=>by simp [kQ] at e,by simp [kQ]⟩
 simp only [kQ,List.mem_cons,List.not_mem_nil,or_false] at ht
 rcases ht with rfl | rfl
 ·exact .inr (.inr (.inr (.inr (.inr ⟨hf,rfl⟩))))
 ·exact TyS.e
theorem pG_ok {l : List Int} {n : Int} (hn : 1<=n) : PlanOk l n (pG l n):=by
 refine ⟨fun t ht=>?_,(gf TyS.p TyS.e).up,⟨show 0<=n - 1 by omega,show n - 1 < n by omega⟩,by show 1<=[_].length;simp,by show [_].length<=3;simp,by show [_].length<=[_].length;simp,fun e=>absurd e (show ¬ (2 : Int) = 4 by decide),show (0 : Int)<=2/\(2 : Int)<=5 by decide⟩
 simp only [pG,List.mem_cons,List.not_mem_nil,or_false] at ht
 rw [ht];exact TyS.e
theorem pT_ok {l : List Int} {n : Int} (hn : 1<=n) : PlanOk l n (pT l n):=by
 have h1:=in2_len (atL l (18+2) 3)
 have h2:=HK (atL l (18+2) 3)
 refine ⟨inTs_in,(gf TyS.p (gf TyS.p TyS.p)).up,⟨show 0<=n - 1 by omega,show n - 1 < n by omega⟩,?_,?_,?_,fun _=>?_,show (0 : Int)<=4/\(4 : Int)<=5 by decide⟩
 all_goals simp only [pT,x7,Fm,List.length_cons,List.length_nil];omega
theorem pC_ok {l : List Int} {n : Int} (hn : 1<=n) : PlanOk l n (pC l n):=by
 refine ⟨fun t ht=>?_,(gf TyS.p TyS.s).up,⟨show 0<=n - 1 by omega,show n - 1 < n by omega⟩,by show 1<=[_].length;simp,by show [_].length<=3;simp,by show [_].length<=[_].length;simp,fun e=>absurd e (show ¬ (5 : Int) = 4 by decide),show (0 : Int)<=5/\(5 : Int)<=5 by decide⟩
 simp only [pC,List.mem_cons,List.not_mem_nil,or_false] at ht
 rw [ht];exact TyS.s
theorem kM {l : List Int} {n : Int} (hn : 1<=n) : ∀ p∈aN l n,PlanOk l n p:=by
 intro p hp
 simp only [aN,dZ,dK,jL,List.mem_append,List.mem_cons,List.not_mem_nil,or_false] at hp
 rcases hp with ((((hp | hp) | hp) | hp) | hp) | hp
 ·rcases hp with rfl | rfl
  ·exact vN hn
  ·exact vO hn
 ·split at hp
  ·rename_i hf
   simp only [List.mem_cons,List.not_mem_nil,or_false] at hp
   rcases hp with rfl | rfl
   ·exact vM hn
   ·exact Db hn hf
  ·cases hp
 ·rw [hp];exact pF_ok hn
 ·rw [hp]
  split
  ·rename_i hf;exact GD hn hf
  ·exact pG_ok hn
 ·rw [hp];exact pT_ok hn
 ·split at hp
  ·rw [List.mem_singleton.1 hp];exact pC_ok hn
  ·cases hp
theorem dw (l : List Int) (n : Int) : 5<=(aN l n).length/\(aN l n).length<=8:=by
 unfold aN dZ dK jL
 split <;> split <;> simp
theorem BY {a b : Int} (ha : 0<=a) (hb : 0<=b) (h : a ≠ b) : idK a ≠ idK b:=fun e=>by
 unfold idK at e
 simp only [IdT.mk.injEq] at e
 have h1 : a.tdiv 32 = a / 32:=Int.tdiv_eq_ediv_of_nonneg ha
 have h2 : b.tdiv 32 = b / 32:=Int.tdiv_eq_ediv_of_nonneg hb
 have h3 : a.tmod 32 = a % 32:=Int.tmod_eq_emod_of_nonneg ha
 have h4 : b.tmod 32 = b % 32:=Int.tmod_eq_emod_of_nonneg hb
 omega
def cO (ps : List PlanT) : Nat:=(ps.map fun p=>p.types.length).sum
theorem l7 (p : PlanT) (ps : List PlanT) : cO (p::ps) = p.types.length+cO ps:=by simp [cO]
theorem qz (a b : List PlanT) : cO (a++b) = cO a+cO b:=by simp [cO]
theorem jO : ∀ (a b : List PlanT) (i next : Int),aF (a++b) i next = aF a i next++aF b (i+a.length) (next+cO a)
 | [],b,i,next=>by simp [aF,cO]
 | p::a,b,i,next=>by
  rw [List.cons_append,aF,aF,jO a b,List.cons_append,l7,List.length_cons]
  rw [show i+1+(a.length : Int) = i+((a.length+1 : Nat) : Int) by omega,show next+(p.types.length : Int)+(cO a : Int) = next+((p.types.length+cO a : Nat) : Int) by omega]
theorem cN (ps : List PlanT) (i next : Int) {j : Nat} (hj : j < ps.length) (hj' : j < (aF ps i next).length) : (aF ps i next)[j] = iz ps[j] (i+j) (next+cO (ps.take j)):=by
 have e : ps = ps.take j++ps[j]::ps.drop (j+1):=by rw [<-List.drop_eq_getElem_cons hj,List.take_append_drop]
 have hl : (aF (ps.take j) i next).length = j:=by rw [bV,List.length_take];omega
 have h1 : aF ps i next = aF (ps.take j) i next++aF (ps[j]::ps.drop (j+1)) (i+j) (next+cO (ps.take j)):=by
  conv=>lhs;rw [e]
  rw [jO,List.length_take,Nat.min_eq_left Q0]
 have : (aF ps i next)[j]? = some (iz ps[j] (i+j) (next+cO (ps.take j))):=by
  rw [h1,List.getElem?_append_right Q0,hl,Nat.sub_self,aF]
  rfl
 rw [List.getElem?_eq_getElem hj'] at this
 exact Option.some.inj this
theorem EM (p : PlanT) (next : Int) : (cM p next).map SlotT.ty = p.types:=by
 unfold cM
 rw [List.map_map]
 apply List.ext_getElem
 ·simp
 ·intro i h1 h2
  simp [List.getD_eq_getElem?_getD,List.getElem?_eq_getElem h2]
theorem bE (p : PlanT) (next : Int) : (cM p next).length = p.types.length:=by simp [cM]
theorem dO {p : PlanT} {next : Int} {s : SlotT} (h : s∈cM p next) : s.ty∈p.types:=by
 rw [<-EM p next]
 exact List.mem_map_of_mem h
def DefT.setBody (d : DefT) (e : Ex) : DefT:=⟨d.id,d.kind,d.mod,d.name,d.slots,d.result,e,d.place,d.layout⟩
def DefT.sh (d : DefT) : DefT:=d.setBody ex0
theorem cw {a b : DefT} (h : a.sh = b.sh) : a.id = b.id/\a.kind = b.kind/\a.mod = b.mod/\a.name = b.name/\a.slots = b.slots/\a.result = b.result/\a.place = b.place/\a.layout = b.layout:=by
 unfold DefT.sh DefT.setBody at h
 simp only [DefT.mk.injEq] at h
 exact ⟨h.1,h.2.1,h.2.2.1,h.2.2.2.1,h.2.2.2.2.1,h.2.2.2.2.2.1,h.2.2.2.2.2.2.2.1,h.2.2.2.2.2.2.2.2⟩
def dm (a b : List DefT) : Prop:=a.map DefT.sh = b.map DefT.sh
theorem dm.refl (a : List DefT) : dm a a:=rfl
theorem dm.len {a b : List DefT} (h : dm a b) : a.length = b.length:=by have:=congrArg List.length h;simpa using this
theorem dm.get {a b : List DefT} (h : dm a b) {k : Nat} (ha : k < a.length) (hb : k < b.length) : a[k].sh = b[k].sh:=by
 have : (a.map DefT.sh)[k]? = (b.map DefT.sh)[k]?:=by rw [h]
 simpa [List.getElem?_eq_getElem ha,List.getElem?_eq_getElem hb] using this
theorem dm.set {a b : List DefT} (h : dm a b) {k : Nat} (ha : k < a.length) (e : Ex) : dm (a.set k (a[k].setBody e)) b:=by
 unfold dm at *
 rw [<-h]
 apply List.ext_getElem
 ·simp
 ·intro i h1 h2
  simp only [List.getElem_map,List.getElem_set]
  split
  ·rename_i he;subst he;rfl
  ·rfl
theorem dm.the {ms ns : List ModT} {a b : List DefT} (h : dm a b) (i : IdT) : (an ⟨ms,a⟩ i).sh = (an ⟨ns,b⟩ i).sh:=by
 unfold an
 dsimp only
 induction a generalizing b with
 | nil =>
  cases b with
  | nil=>rfl
  | cons y b=>have:=h.len;simp at this
 | cons x a ih =>
  cases b with
  | nil=>have:=h.len;simp at this
  | cons y b =>
   unfold dm at h
   simp only [List.map_cons,List.cons.injEq] at h
   have hid:=(cw h.1).1
   rw [List.find?_cons,List.find?_cons,hid]
   cases decide (y.id = i) with
   | true=>exact h.1
   | false=>exact ih h.2
theorem dm.mem {a b : List DefT} (h : dm a b) {d : DefT} (hd : d∈a) : ∃ e∈b,d.sh = e.sh:=by
 obtain ⟨k,hk,rfl⟩:=List.mem_iff_getElem.1 hd
 have hk' : k < b.length:=by rw [<-h.len];exact hk
 exact ⟨_,List.getElem_mem hk',h.get hk hk'⟩
theorem dm.wf {ms ns : List ModT} {a b : List DefT} (h : dm a b) : ∀ (n : Nat) (t : Ty),wfT ⟨ns,b⟩ n t->wfT ⟨ms,a⟩ n t
 | 0,_,w=>w
 | n+1,t,w=>by
  have hp:=cw (h.the (ms:=ms) (ns:=ns) t.df)
  rw [wfT] at w ⊢
  rcases w with w | w | w | w
  ·exact .inl w
  ·exact .inr (.inl w)
  ·exact .inr (.inr (.inl ⟨w.1,w.2.1,h.wf n _ w.2.2⟩))
  ·refine .inr (.inr (.inr ⟨w.1,w.2.1,w.2.2.1,?_,?_,?_⟩))
   ·rw [hp.2.2.2.2.1];exact w.2.2.2.1
   ·rw [hp.2.2.2.2.1,hp.2.1];exact w.2.2.2.2.1
   ·rw [hp.2.2.2.2.1];exact fun s hs=>h.wf n _ (w.2.2.2.2.2 s hs)
structure Base (p : ProgT) (R : Nat) : Prop where
 gen : GenOk p R
 resA : ∀ d∈p.defs,wfT p R d.result
 sty : ∀ d∈p.defs,∀ x∈d.slots,x.ty.size<=1000
 rty : ∀ d∈p.defs,d.result.size<=1000
 e0 : ∀ d∈p.defs,0 < d.slots.length
 d0 : 0 < p.defs.length
 d1 : p.defs.length<=100
theorem Base.like {ms : List ModT} {a b : List DefT} {R : Nat} (hb : Base ⟨ms,b⟩ R) (h : dm a b) : Base ⟨ms,a⟩ R:=by
 have get : ∀ d∈a,∃ e∈b,d.id = e.id/\d.kind = e.kind/\d.slots = e.slots/\d.result = e.result:=fun d hd=>by
  obtain ⟨e,he,hs⟩:=h.mem hd
  have:=cw hs
  exact ⟨e,he,this.1,this.2.1,this.2.2.2.2.1,this.2.2.2.2.2.1⟩
 refine ⟨⟨fun d hd=>?_,fun d hd hk=>?_,fun d hd s hs=>?_,fun d hd hk=>?_,fun d hd hk=>?_,hb.gen.R2⟩,fun d hd=>?_,fun d hd x hx=>?_,fun d hd=>?_,fun d hd=>?_,by rw [h.len];exact hb.d0,by rw [h.len];exact hb.d1⟩
 all_goals obtain ⟨e,he,h1,h2,h3,h4⟩:=get d hd
 ·rw [h3];exact hb.gen.short e he
 ·rw [h3];exact hb.gen.kase e he (by rw [<-h2];exact hk)
 ·rw [h3] at hs;exact h.wf _ _ (hb.gen.slot e he s hs)
 ·rw [h4];exact h.wf _ _ (hb.gen.res e he (by rw [<-h2];exact hk))
 ·rw [h1];exact h.wf _ _ (hb.gen.own e he (by rw [<-h2];exact hk))
 ·rw [h4];exact h.wf _ _ (hb.resA e he)
 ·rw [h3] at hx;exact hb.sty e he x hx
 ·rw [h4];exact hb.rty e he
 ·rw [h3];exact hb.e0 e he
def qF : ByteArray:=⟨#[99,111,114,101]⟩
def Dk : ByteArray:=⟨#[109,105,108,108]⟩
def aV (m : Int) : List PlanT->Int->List IdT
 | [],_=>[]
 | p::ps,i=>(if p.mod = m then [idK i] else [])++aV m ps (i+1)
theorem mO (m : Int) : ∀ (a b : List PlanT) (i : Int),aV m (a++b) i = aV m a i++aV m b (i+a.length)
 | [],b,i=>by simp [aV]
 | p::a,b,i=>by rw [List.cons_append,aV,aV,mO m a b,List.length_cons,List.append_assoc,show i+1+(a.length : Int) = i+((a.length+1 : Nat) : Int) by omega]
def cg (l : List Int) : List ModT :=
 if aq l = 1 then [⟨idK 0,qF,[],aV 0 (aN l 1) 1⟩] else [⟨idK 0,qF,[],aV 0 (aN l 2) 2⟩,⟨idK 1,Dk,[idK 0],aV 1 (aN l 2) 2⟩]
def iO (l : List Int) : List PlanT:=aN l (aq l)
def aL (l : List Int) : List DefT:=aF (iO l) (aq l) (aq l+(iO l).length)
def gJ (l : List Int) : Int:=aq l+(iO l).length+cO (iO l)
theorem jq (l : List Int) : aq l = 1\/aq l = 2:=by
 have:=dc l 0 2 Q0
 unfold aq
 omega
section
variable {l : List Int} {n : Int}
theorem EG {j : Nat} (hj : j < (aN l n).length) (h : (aN l n)[j].kind = 0\/(aN l n)[j].kind = 1) : j < 2\/(dz l = true/\j < 4):=by
 have e : (aN l n)[j]? = some (aN l n)[j]:=List.getElem?_eq_getElem hj
 generalize (aN l n)[j] = p at h e
 unfold aN dZ dK jL at e
 by_cases hf : dz l = true
 ·rw [if_pos hf,if_pos hf] at e
  rcases j with _ | _ | _ | _ | j
  ·exact .inl Q0
  ·exact .inl Q0
  ·exact .inr ⟨hf,Q0⟩
  ·exact .inr ⟨hf,Q0⟩
  ·exfalso
   simp only [List.cons_append,List.nil_append,List.getElem?_cons_succ] at e
   rcases j with _ | _ | _ | j
   ·simp only [List.getElem?_cons_zero,Option.some.injEq] at e;subst e;simp [pF] at h
   ·simp only [List.getElem?_cons_succ,List.getElem?_cons_zero,Option.some.injEq] at e;subst e;simp [kQ] at h
   ·simp only [List.getElem?_cons_succ,List.getElem?_cons_zero,Option.some.injEq] at e;subst e;simp [pT] at h
   ·simp only [List.getElem?_cons_succ] at e
    split at e
    ·rcases j with _ | j
     ·simp only [List.getElem?_cons_zero,Option.some.injEq] at e;subst e;simp [pC] at h
     ·simp at e
    ·simp at e
 ·rw [if_neg hf,if_neg hf] at e
  rcases j with _ | _ | j
  ·exact .inl Q0
  ·exact .inl Q0
  ·exfalso
   simp only [List.cons_append,List.nil_append,List.append_nil,List.getElem?_cons_succ] at e
   rcases j with _ | _ | _ | j
   ·simp only [List.getElem?_cons_zero,Option.some.injEq] at e;subst e;simp [pF] at h
   ·simp only [List.getElem?_cons_succ,List.getElem?_cons_zero,Option.some.injEq] at e;subst e;simp [pG] at h
   ·simp only [List.getElem?_cons_succ,List.getElem?_cons_zero,Option.some.injEq] at e;subst e;simp [pT] at h
   ·simp only [List.getElem?_cons_succ] at e
    split at e
    ·rcases j with _ | j
     ·simp only [List.getElem?_cons_zero,Option.some.injEq] at e;subst e;simp [pC] at h
     ·simp at e
    ·simp at e
theorem nV {ms : List ModT} (hn : 0<=n) {ps : List PlanT} {next : Int} {j : Nat} (hj : j < ps.length) : dR ⟨ms,aF ps n next⟩ (idK (n+j))/\an ⟨ms,aF ps n next⟩ (idK (n+j)) = iz ps[j] (n+j) (next+cO (ps.take j)):=by
 have hl:=bV ps n next
 have h:=ig (p:=⟨ms,aF ps n next⟩) (id:=idK (n+j)) (k:=j) (by rw [hl];exact hj) (fun i hi hlt=>by
  rw [cN ps n next (by rw [hl] at hi;exact hi) hi]
  exact BY Q0 Q0 Q0) (by rw [cN ps n next hj (by rw [hl];exact hj)];rfl)
 rwa [cN ps n next hj (by rw [hl];exact hj)] at h
theorem Cu {p : ProgT} {k : Nat} {i : IdT} {d : DefT} (h : an p i = d) (h3 : d.slots.length<=3) (h1 : 0 < d.slots.length) (hs : ∀ s∈d.slots,wfT p k s.ty) : wfT p (k+1) (ofT i):=by
 rw [wfT]
 refine .inr (.inr (.inr ⟨show (3 : Int) ≠ 0 by decide,show (3 : Int) ≠ 1 by decide,show (3 : Int) ≠ 2 by decide,?_⟩))
 rw [show (ofT i).df = i from rfl,h]
 exact ⟨h3,fun _=>h1,hs⟩
theorem wf_s {p : ProgT} {k : Nat} {t : Ty} (h : t = ty0\/t = tyL\/t = bN ty0) : wfT p (k+2) t:=by
 rcases h with rfl | rfl | rfl
 ·rw [wfT];exact .inl rfl
 ·rw [wfT];exact .inr (.inl rfl)
 ·exact kz Q0
end
theorem mF.size {l : List Int} {n : Int} {t : Ty} (h : mF l n t) : t.size<=1000:=by
 rcases h with rfl | rfl | rfl | rfl | rfl | ⟨_,rfl | rfl⟩ <;> first | decide | simp [ofT,Ty.size,Ty.sizes]
theorem base04 (l : List Int) : Base ⟨cg l,aL l⟩ 5/\∀ d∈aL l,∀ s∈d.slots,wfT ⟨cg l,aL l⟩ 4 s.ty:=by
 have hn : 1<=aq l:=by rcases jq l with h | h <;> omega
 unfold aL
 generalize hps : iO l = ps
 have hok : ∀ p∈ps,PlanOk l (aq l) p:=by rw [<-hps];exact kM hn
 have hlen:=dw l (aq l)
 unfold iO at hps
 rw [hps] at hlen
 generalize hnx : aq l+(ps.length : Int) = next
 generalize cg l = ms
 have hdl:=bV ps (aq l) next
 -- the types of definitions
 have point : wfT ⟨ms,aF ps (aq l) next⟩ 3 (tyD (aq l)):=by
  have h0 : 0 < ps.length:=Q0
  have e:=(nV (ms:=ms) (n:=aq l) Q0 (next:=next) h0).2
  have ep : ps[0] = jN l (aq l):=by subst hps;rfl
  rw [ep,show aq l+((0 : Nat) : Int) = aq l by omega] at e
  have ok:=vN (l:=l) (n:=aq l) hn
  refine Cu e (by rw [iz,bE];exact ok.t3) (by rw [iz,bE];exact ok.t1) fun s hs=>?_
  obtain ⟨i,_,hi⟩:=List.mem_map.1 (show s.ty∈fN l 3 3 (tyD (aq l)) _ from dO hs)
  rw [<-hi]
  exact wf_s (Et (dc l _ 3 Q0) _ _)
 have mid : ∀ t,(t = ty0\/t = tyL\/t = bN ty0\/t = tyD (aq l))->wfT ⟨ms,aF ps (aq l) next⟩ 3 t:=fun t h=>by
  rcases h with h | h | h | h
  ·exact wf_s (.inl h)
  ·exact wf_s (.inr (.inl h))
  ·exact wf_s (.inr (.inr h))
  ·rw [h];exact point
 have mids : ∀ q m k,∀ t∈ty0::fN l q m (tyD (aq l)) k,wfT ⟨ms,aF ps (aq l) next⟩ 3 t:=fun q m k t ht=>by
  rcases List.mem_cons.1 ht with rfl | ht
  ·exact mid _ (.inl rfl)
  ·obtain ⟨i,_,hi⟩:=List.mem_map.1 ht
   rw [<-hi]
   refine mid _ ?_
   rcases vz (atL l (q+(i : Int)) m) (tyD (aq l)) (tyD (aq l)) with h | h | h | h | h
   ·exact .inl h
   ·exact .inr (.inl h)
   ·exact .inr (.inr (.inl h))
   ·exact .inr (.inr (.inr h))
   ·exact .inr (.inr (.inr h))
 have event : wfT ⟨ms,aF ps (aq l) next⟩ 4 (tyD (aq l+1)):=by
  have h0 : 1 < ps.length:=Q0
  have e:=(nV (ms:=ms) (n:=aq l) Q0 (next:=next) h0).2
  have ep : ps[1] = kR l (aq l):=by subst hps;rfl
  rw [ep,show aq l+((1 : Nat) : Int) = aq l+1 by omega] at e
  have ok:=vO (l:=l) (n:=aq l) hn
  exact Cu e (by rw [iz,bE];exact ok.t3) (by rw [iz,bE];exact ok.t1) fun s hs=>mids _ _ _ _ (dO hs)
 have B5 : dz l = true->wfT ⟨ms,aF ps (aq l) next⟩ 4 (tyD (aq l+2))/\wfT ⟨ms,aF ps (aq l) next⟩ 5 (tyD (aq l+3)):=fun hf=>by
  have h2 : 2 < ps.length:=Q0
  have h3 : 3 < ps.length:=Q0
  have e2:=(nV (ms:=ms) (n:=aq l) Q0 (next:=next) h2).2
  have e3:=(nV (ms:=ms) (n:=aq l) Q0 (next:=next) h3).2
  have ep2 : ps[2] = iy l (aq l):=by
   have : ps[2]? = some (iy l (aq l)):=by rw [<-hps];unfold aN dZ dK;rw [if_pos hf];rfl
   rw [List.getElem?_eq_getElem h2] at this
   exact Option.some.inj this
  have ep3 : ps[3] = nD (aq l):=by
   have : ps[3]? = some (nD (aq l)):=by rw [<-hps];unfold aN dZ dK;rw [if_pos hf];rfl
   rw [List.getElem?_eq_getElem h3] at this
   exact Option.some.inj this
  rw [ep2,show aq l+((2 : Nat) : Int) = aq l+2 by omega] at e2
  rw [ep3,show aq l+((3 : Nat) : Int) = aq l+3 by omega] at e3
  have ok2:=vM (l:=l) (n:=aq l) hn
  have ok3:=Db (l:=l) (n:=aq l) hn hf
  have state:=Cu e2 (by rw [iz,bE];exact ok2.t3) (by rw [iz,bE];exact ok2.t1) fun s hs=>mids _ _ _ _ (dO hs)
  refine ⟨state,Cu e3 (by rw [iz,bE];exact ok3.t3) (by rw [iz,bE];exact ok3.t1) fun s hs=>?_⟩
  have:=dO hs
  simp only [nD,List.mem_cons,List.not_mem_nil,or_false] at this
  rcases this with h | h | h <;> rw [h]
  ·exact state
  ·exact bh Q0 (mid _ (.inr (.inr (.inl rfl))))
  ·exact bh Q0 (mid _ (.inl rfl))
 have all : ∀ t,mF l (aq l) t->wfT ⟨ms,aF ps (aq l) next⟩ 5 t:=fun t h=>by
  rcases h with h | h | h | h | h | ⟨hf,h | h⟩
  ·exact bh Q0 (mid _ (.inl h))
  ·exact bh Q0 (mid _ (.inr (.inl h)))
  ·exact bh Q0 (mid _ (.inr (.inr (.inl h))))
  ·rw [h];exact bh Q0 point
  ·rw [h];exact bh Q0 event
  ·rw [h];exact bh Q0 (B5 hf).1
  ·rw [h];exact (B5 hf).2
 have four : ∀ t,TyS l (aq l) t->wfT ⟨ms,aF ps (aq l) next⟩ 4 t:=fun t h=>by
  rcases h with h | h | h | h | h | ⟨hf,h⟩
  ·exact bh Q0 (mid _ (.inl h))
  ·exact bh Q0 (mid _ (.inr (.inl h)))
  ·exact bh Q0 (mid _ (.inr (.inr (.inl h))))
  ·rw [h];exact bh Q0 point
  ·rw [h];exact event
  ·rw [h];exact (B5 hf).1
 have get : ∀ d∈aF ps (aq l) next,∃ j,∃ hj : j < ps.length,d = iz ps[j] (aq l+j) (next+cO (ps.take j)):=fun d hd=>by
  obtain ⟨j,hj,rfl⟩:=List.mem_iff_getElem.1 hd
  exact ⟨j,by rw [hdl] at hj;exact hj,cN ps _ _ _ _⟩
 refine ⟨⟨⟨fun d hd=>?_,fun d hd hk=>?_,fun d hd s hs=>?_,fun d hd hk=>?_,fun d hd hk=>?_,Q0⟩,fun d hd=>?_,fun d hd x hx=>?_,fun d hd=>?_,fun d hd=>?_,by show 0 < (aF ps (aq l) next).length;omega,by show (aF ps (aq l) next).length<=100;omega⟩,fun d hd s hs=>?_⟩
 all_goals obtain ⟨j,hj,rfl⟩:=get d hd
 all_goals have ok:=hok _ (List.getElem_mem hj)
 ·rw [iz,bE];exact ok.t3
 ·rw [iz,bE];exact ok.t1
 ·exact all _ (ok.tys _ (dO hs)).up
 ·exact all _ ok.res
 ·refine all _ ?_
  have hk' : ps[j].kind = 0\/ps[j].kind = 1:=hk
  subst hps
  rcases EG hj hk' with h | ⟨hf,h⟩
  ·rcases j with _ | _ | j
   ·show mF l (aq l) (tyD (aq l+((0 : Nat) : Int)));rw [show aq l+((0 : Nat) : Int) = aq l by omega];exact mF.p
   ·exact mF.e
   ·omega
  ·rcases j with _ | _ | _ | _ | j
   ·show mF l (aq l) (tyD (aq l+((0 : Nat) : Int)));rw [show aq l+((0 : Nat) : Int) = aq l by omega];exact mF.p
   ·exact mF.e
   ·exact .inr (.inr (.inr (.inr (.inr ⟨hf,.inl rfl⟩))))
   ·exact .inr (.inr (.inr (.inr (.inr ⟨hf,.inr rfl⟩))))
   ·omega
 ·exact all _ ok.res
 ·exact (ok.tys _ (dO hx)).up.size
 ·exact ok.res.size
 ·rw [iz,bE];exact ok.t1
 ·exact four _ (ok.tys _ (dO hs))
theorem IF (l : List Int) : Base ⟨cg l,aL l⟩ 5:=(base04 l).1
def iB (k n : Int) (kids : List Ex) (T : Int) : Ex:=.mk ⟨0,0,T⟩ k n id0 ty0 kids []
def opTy (n : Int) (u t : Ty) : Prop:=(0<=n/\n<=4/\u = ty0/\t = ty0)\/(n = 5/\u = ty0/\t = tyL)\/(n = 6/\t = tyL)\/((n = 7\/n = 8)/\u = tyL/\t = tyL)\/(n = 10/\u = bN ty0/\t = bN ty0)
inductive Mk (c : MkC) : Ty->List Bnd->Int->Ex->Int->Prop
 | int {env : List Bnd} {T n : Int} : -1099511627776<=n/\n<=1099511627776->Mk c ty0 env T (iB 0 n [] T) (T+1)
 | bool {env : List Bnd} {T n : Int} : 0<=n/\n<=1->Mk c tyL env T (iB 1 n [] T) (T+1)
 | var {env : List Bnd} {T : Int} {b : Bnd} : b∈env->Mk c b.ty env T ((iB 2 b.n [] T).setRef b.id) (T+1)
 | list {env : List Bnd} {T : Int} {kids : List Ex} (Ts : Nat->Int) (hl : kids.length<=2) : Ts 0 = T->(∀ i (h : i < kids.length),Mk c ty0 env (Ts i) kids[i] (Ts (i+1)))->Mk c (bN ty0) env T ((iB 11 0 kids (Ts kids.length)).F9 ty0) (Ts kids.length+1)
 | kase {env : List Bnd} {T T1 : Int} {d : DefT} {k : Nat} {e : Ex} (hd : d∈c.p.defs) (hk : d.kind = 1) (h : k < d.slots.length) : Mk c d.slots[k].ty env T e T1->Mk c (ofT d.id) env T ((iB 9 k [e] T1).setRef d.id) (T1+1)
 | recd {env : List Bnd} {T : Int} {d : DefT} {kids : List Ex} (hd : d∈c.p.defs) (hk : d.kind = 0) (Ts : Nat->Int) (hl : kids.length = d.slots.length) : Ts 0 = T->(∀ i (h : i < kids.length),Mk c (d.slots[i]'Q0).ty env (Ts i) kids[i] (Ts (i+1)))->Mk c (ofT d.id) env T ((iB 7 0 kids (Ts kids.length)).setRef d.id) (Ts kids.length+1)
 | len {env : List Bnd} {T T1 : Int} {a : Ex} : Mk c (bN ty0) env T a T1->Mk c ty0 env T (iB 4 11 [a] T1) (T1+1)
 | not {env : List Bnd} {T T1 : Int} {a : Ex} : Mk c tyL env T a T1->Mk c tyL env T (iB 4 9 [a] T1) (T1+1)
 | both {t u : Ty} {env : List Bnd} {T T1 T2 n : Int} {a b : Ex} : opTy n u t->Mk c u env T a T1->Mk c u env T1 b T2->Mk c t env T (iB 4 n [a,b] T2) (T2+1)
 | ife {t : Ty} {env : List Bnd} {T T1 T2 T3 : Int} {a b e : Ex} : Mk c tyL env T a T1->Mk c t env T1 b T2->Mk c t env T2 e T3->Mk c t env T (iB 5 0 [a,b,e] T3) (T3+1)
 | lete {t u : Ty} {env : List Bnd} {T T1 T2 : Int} {a b : Ex} {m : ByteArray} : Mk c u env T a T1->Mk c t (env++[⟨⟨0,0,T1⟩,0,u⟩]) (T1+1) b T2->Mk c t env T ((iB 6 0 [] T1).gM [a,b] [m]) T2
 | fold {t : Ty} {env : List Bnd} {T T1 T2 T3 : Int} {a b e : Ex} {m m2 : ByteArray} : Mk c (bN ty0) env T a T1->Mk c t env T1 b T2->Mk c t (env++[⟨⟨0,0,T2⟩,0,ty0⟩]++[⟨⟨0,0,T2⟩,1,t⟩]) (T2+1) e T3->Mk c t env T ((iB 12 0 [] T2).gM [a,b,e] [m,m2]) T3
 | mat {t : Ty} {env : List Bnd} {T T1 : Int} {d : DefT} {a : Ex} {kids : List Ex} {ms : List ByteArray} (hd : d∈c.p.defs) (hk : d.kind = 1) (Ts : Nat->Int) (hl : kids.length = d.slots.length) (hm : ms.length = d.slots.length) : Mk c (ofT d.id) env T a T1->Ts 0 = T1+1 ->
   (∀ i (h : i < kids.length),Mk c t (env++[⟨⟨0,0,T1⟩,i,(d.slots[i]'Q0).ty⟩]) (Ts i) kids[i] (Ts (i+1)))->Mk c t env T (((iB 10 0 [] T1).setRef d.id).gM (a::kids) ms) (Ts kids.length)
 | field {env : List Bnd} {T T1 : Int} {d : DefT} {j : Nat} {a : Ex} (hd : d∈c.p.defs) (hk : d.kind = 0) (h : j < d.slots.length) : Mk c (ofT d.id) env T a T1->Mk c d.slots[j].ty env T ((iB 8 j [a] T1).setRef d.id) (T1+1)
 | call {env : List Bnd} {T : Int} {k : Nat} {kids : List Ex} (hd : k < c.p.defs.length) (hk : c.p.defs[k].kind = 2) (hv : iK c k) (Ts : Nat->Int) (hl : kids.length = c.p.defs[k].slots.length) : Ts 0 = T->(∀ i (h : i < kids.length),Mk c (c.p.defs[k].slots[i]'Q0).ty env (Ts i) kids[i] (Ts (i+1))) ->
   Mk c c.p.defs[k].result env T ((iB 3 0 kids (Ts kids.length)).setRef c.p.defs[k].id) (Ts kids.length+1)
def gTy (p : ProgT) (t : Ty) : Prop:=t = ty0\/t = tyL\/t = bN ty0\/∃ d∈p.defs,(d.kind = 0\/d.kind = 1)/\t = ofT d.id
structure GCtx (c : MkC) (R : Nat) : Prop where
 gen : GenOk c.p R
 d0 : 0 < c.p.defs.length
 the : ∀ d∈c.p.defs,an c.p d.id = d
 gs : ∀ d∈c.p.defs,∀ s∈d.slots,gTy c.p s.ty
 gr : ∀ d∈c.p.defs,gTy c.p d.result
def GMk (c : MkC) (R n : Nat) (g : GX) : Prop:=∀ (t : Ty) (env : List Bnd) (depth : Int) (s : MkS),0 < env.length->(∀ b∈env,wfT c.p R b.ty/\gTy c.p b.ty)->okT c.p R n t depth->gTy c.p t->Mk c t env s.temp (g t env depth s).1 (g t env depth s).2.temp
theorem gTy0 {p : ProgT} {t : Ty} (h : gTy p t) (hk : t.kind = 0) : t = ty0:=by
 rcases h with h | h | h | ⟨d,_,_,h⟩ <;> rw [h] at hk ⊢
 all_goals exact absurd hk (show ¬ (_ : Int) = 0 by first | exact (show ¬ (1 : Int) = 0 by decide) | exact (show ¬ (2 : Int) = 0 by decide) | exact (show ¬ (3 : Int) = 0 by decide))
theorem gTy1 {p : ProgT} {t : Ty} (h : gTy p t) (hk : t.kind = 1) : t = tyL:=by
 rcases h with h | h | h | ⟨d,_,_,h⟩ <;> rw [h] at hk ⊢
 ·exact absurd hk (show ¬ (0 : Int) = 1 by decide)
 ·exact absurd hk (show ¬ (2 : Int) = 1 by decide)
 ·exact absurd hk (show ¬ (3 : Int) = 1 by decide)
theorem gTy2 {p : ProgT} {t : Ty} (h : gTy p t) (hk : t.kind = 2) : t = bN ty0:=by
 rcases h with h | h | h | ⟨d,_,_,h⟩ <;> rw [h] at hk ⊢
 ·exact absurd hk (show ¬ (0 : Int) = 2 by decide)
 ·exact absurd hk (show ¬ (1 : Int) = 2 by decide)
 ·exact absurd hk (show ¬ (3 : Int) = 2 by decide)
theorem gTy3 {p : ProgT} {t : Ty} (h : gTy p t) (h0 : ¬ t.kind = 0) (h1 : ¬ t.kind = 1) (h2 : ¬ t.kind = 2) : ∃ d∈p.defs,(d.kind = 0\/d.kind = 1)/\t = ofT d.id:=by
 rcases h with h | h | h | h
 ·rw [h] at h0;exact absurd rfl h0
 ·rw [h] at h1;exact absurd rfl h1
 ·rw [h] at h2;exact absurd rfl h2
 ·exact h
section
variable {c : MkC} {R n : Nat} {g : GX}
theorem zS (hg : GMk c R n g) {t : Ty} {env : List Bnd} {d : Int} (h0 : 0 < env.length) (he : ∀ b∈env,wfT c.p R b.ty/\gTy c.p b.ty) (hk : okT c.p R n t d) (ht : gTy c.p t) : ∀ (m : Nat) (s : MkS),(di g t env d m s).1.length<=m/\∃ Ts : Nat->Int,Ts 0 = s.temp/\Ts (di g t env d m s).1.length = (di g t env d m s).2.temp/\∀ i (h : i < (di g t env d m s).1.length),Mk c t env (Ts i) (di g t env d m s).1[i] (Ts (i+1))
 | 0,s=>⟨Nat.le_refl _,fun _=>s.temp,rfl,rfl,fun i h=>absurd h (Nat.not_lt_zero _)⟩
 | m+1,s=>by
  by_cases hl : 0 < s.left
  ·obtain ⟨h0',Ts,h1,h2,h3⟩:=zS hg h0 he hk ht m (g t env d s).2
   have e : di g t env d (m+1) s = ((g t env d s).1::(di g t env d m (g t env d s).2).1,(di g t env d m (g t env d s).2).2):=by rw [di,if_pos hl]
   rw [e]
   refine ⟨Nat.succ_le_succ h0',fun i=>match i with | 0=>s.temp | i+1=>Ts i,rfl,h2,fun i h=>?_⟩
   cases i with
   | zero=>show Mk c t env s.temp _ (Ts 0);rw [h1];exact hg t env d s h0 he hk ht
   | succ i=>exact h3 i (by simpa using h)
  ·have e : di g t env d (m+1) s = ([],s):=by rw [di,if_neg hl]
   rw [e]
   exact ⟨Nat.zero_le _,fun _=>s.temp,rfl,rfl,fun i h=>absurd h (Nat.not_lt_zero _)⟩
theorem tP (hg : GMk c R n g) {env : List Bnd} {d : Int} (h0 : 0 < env.length) (he : ∀ b∈env,wfT c.p R b.ty/\gTy c.p b.ty) : ∀ (ts : List Ty) (s : MkS),(∀ t∈ts,okT c.p R n t d/\gTy c.p t)->∃ Ts : Nat->Int,∃ hl : (dQ g env d ts s).1.length = ts.length,Ts 0 = s.temp/\Ts (dQ g env d ts s).1.length = (dQ g env d ts s).2.temp/\∀ i (h : i < (dQ g env d ts s).1.length),Mk c (ts[i]'Q0) env (Ts i) (dQ g env d ts s).1[i] (Ts (i+1))
 | [],s,_=>⟨fun _=>s.temp,rfl,rfl,rfl,fun i h=>absurd h (Nat.not_lt_zero _)⟩
 | t::ts,s,hk=>by
  obtain ⟨Ts,hl,h1,h2,h3⟩:=tP hg h0 he ts (g t env d s).2 fun u hu=>hk u (List.mem_cons_of_mem _ hu)
  refine ⟨fun i=>match i with | 0=>s.temp | i+1=>Ts i,by rw [dQ];simp [hl],rfl,h2,fun i h=>?_⟩
  cases i with
  | zero=>show Mk c t env s.temp _ (Ts 0);rw [h1];have:=hk t (List.mem_cons_self ..);exact hg t env d s h0 he this.1 this.2
  | succ i=>exact h3 i (by rw [dQ] at h;simpa using h)
end
section
variable {c : MkC} {R n : Nat} {t : Ty} {env : List Bnd} {x depth : Int} {s : MkS}
theorem D8 {α : Type} {l : List α} {b : α} : 0 < (l++[b]).length:=Q2
theorem Mk.cast {t' : Ty} {T T' : Int} {e e' : Ex} (h : Mk c t env T e T') (ht : t = t') (he : e = e') {S : Int} (hS : T' = S) : Mk c t' env T e' S:=ht ▸ he ▸ hS ▸ h
theorem Dm (hc : GCtx c R) (hg : GMk c R n (ak c n)) (h0 : 0 < env.length) (he : ∀ b∈env,wfT c.p R b.ty/\gTy c.p b.ty) (hk : okT c.p R (n+1) t depth) (ht : gTy c.p t) (hx : 0<=x) : Mk c t env s.temp (kq c (ak c n) t env x depth s).1 (kq c (ak c n) t env x depth s).2.temp:=by
 unfold kq
 have e29 : x.tmod 29 = x % 29:=Int.tmod_eq_emod_of_nonneg hx
 have e9 : x.tmod 9 = x % 9:=Int.tmod_eq_emod_of_nonneg hx
 have e2 : x.tmod 2 = x % 2:=Int.tmod_eq_emod_of_nonneg hx
 split
 ·rename_i k0
  rw [gTy0 ht k0]
  exact Mk.int (by unfold HA;split <;> omega)
 rename_i k0
 split
 ·rename_i k1
  rw [gTy1 ht k1]
  exact Mk.bool Q0
 rename_i k1
 split
 ·rename_i k2
  obtain rfl:=gTy2 ht k2
  dsimp only
  obtain ⟨hkl,Ts,h1,h2,h3⟩:=zS hg h0 he (t:=ty0) (d:=depth - 1) (hk.part fun m hm=>(sn hm k2).2) (.inl rfl) (if 0<=depth then (x.tmod 3).toNat else 0) s
  refine (Mk.list Ts (Nat.le_trans hkl (by have:=Int.tmod_lt_of_pos x (show (0 : Int) < 3 by omega);split <;> omega)) h1 h3).cast rfl ?_ ?_
  ·rw [h2];rfl
  ·rw [h2];rfl
 rename_i k2
 obtain ⟨d,hd,hdk,rfl⟩:=gTy3 ht k0 k1 k2
 have e : an c.p (ofT d.id).df = d:=hc.the d hd
 have hw:=lR hk.wf k0 k1 k2
 rw [e] at hw ⊢
 split
 ·rename_i k3
  dsimp only
  have hs0:=hc.gen.kase d hd k3
  obtain ⟨k,hk1,hk2⟩ : ∃ k : Nat,gK d x depth = k/\k < d.slots.length:=by
   have e : x.tmod (d.slots.length : Int) = x % (d.slots.length : Int):=Int.tmod_eq_emod_of_nonneg hx
   have h1:=Int.emod_nonneg x (show (d.slots.length : Int) ≠ 0 by omega)
   have h2:=Int.emod_lt_of_pos x (show (0 : Int) < d.slots.length by omega)
   unfold gK
   split
   ·exact ⟨0,rfl,hs0⟩
   ·exact ⟨(x % (d.slots.length : Int)).toNat,Q0,Q0⟩
  rw [hk1,Int.toNat_natCast,show (d.slots.map SlotT.ty).getD k ty0 = d.slots[k].ty by simp [List.getD_eq_getElem?_getD,List.getElem?_eq_getElem hk2]]
  have hm:=List.getElem_mem hk2
  exact Mk.kase hd k3 hk2 (hg _ env (depth - 1) s h0 he (hk.part fun m hm'=>by have:=(lR hm' k0 k1 k2).2.2;rw [e] at this;exact this _ hm) (hc.gs d hd _ hm))
 ·rename_i k3
  dsimp only
  obtain ⟨Ts,hl,h1,h2,h3⟩:=tP hg h0 he (d:=depth - 1) (d.slots.map SlotT.ty) s fun u hu=>by
   obtain ⟨y,hy,rfl⟩:=List.mem_map.1 hu
   exact ⟨hk.part fun m hm'=>by have:=(lR hm' k0 k1 k2).2.2;rw [e] at this;exact this _ hy,hc.gs d hd _ hy⟩
  rw [List.length_map] at hl
  refine (Mk.recd hd (hdk.resolve_right k3) Ts hl h1 fun i h=>?_).cast rfl ?_ ?_
  ·have:=h3 i h
   rwa [List.getElem_map] at this
  ·rw [h2];rfl
  ·rw [h2];rfl
theorem uG (hg : GMk c R n (ak c n)) (h0 : 0 < env.length) (he : ∀ b∈env,wfT c.p R b.ty/\gTy c.p b.ty) {u : Ty} {d k : Int} (hk : okT c.p R n u d) (hu : gTy c.p u) (ho : opTy k u t) : Mk c t env s.temp (lI (ak c n) k u env d s).1 (lI (ak c n) k u env d s).2.temp :=
 Mk.both ho (hg u env d s h0 he hk hu) (hg u env d _ h0 he hk hu)
theorem opG_mk (hc : GCtx c R) (hg : GMk c R n (ak c n)) (h0 : 0 < env.length) (he : ∀ b∈env,wfT c.p R b.ty/\gTy c.p b.ty) (hk : okT c.p R (n+1) t depth) (hd0 : 0 < depth) (ht : gTy c.p t) (hx : 0<=x) : Mk c t env s.temp (opG c (ak c n) t env x depth s).1 (opG c (ak c n) t env x depth s).2.temp:=by
 unfold opG
 have hR2:=hc.gen.R2
 have e6 : x.tmod 6 = x % 6:=Int.tmod_eq_emod_of_nonneg hx
 have e5 : x.tmod 5 = x % 5:=Int.tmod_eq_emod_of_nonneg hx
 have d2 : x.tdiv 2 = x / 2:=Int.tdiv_eq_ediv_of_nonneg hx
 have d6 : x.tdiv 6 = x / 6:=Int.tdiv_eq_ediv_of_nonneg hx
 have wt : wfT c.p R t:=by
  rcases hk with h | h
  ·omega
  ·exact h.2.1
 have w0 : wfT c.p R ty0:=bh hR2 (wY c.p 1)
 split
 ·rename_i k0
  obtain rfl:=gTy0 ht k0
  split
  ·exact Mk.len (hg _ env (depth - 1) s h0 he (hk.any hd0 (kz hR2) Q0) (.inr (.inr (.inl rfl))))
  ·exact uG hg h0 he (hk.any hd0 wt Q0) ht (.inl ⟨Q0,Q0,rfl,rfl⟩)
 rename_i k0
 split
 ·rename_i k1
  obtain rfl:=gTy1 ht k1
  split
  ·exact Mk.not (hg _ env (depth - 1) s h0 he (hk.any hd0 wt Q0) ht)
  ·rename_i h6
   have hu : wfT c.p R (gF tyL env x)/\gTy c.p (gF tyL env x):=by
    unfold gF
    split
    ·exact ⟨wt,ht⟩
    split
    ·have e : (x.tdiv 6).tmod (env.length : Int) = x.tdiv 6 % (env.length : Int):=Int.tmod_eq_emod_of_nonneg Q0
     have h1:=Int.emod_nonneg (x.tdiv 6) (show (env.length : Int) ≠ 0 by omega)
     have h2:=Int.emod_lt_of_pos (x.tdiv 6) (show (0 : Int) < env.length by omega)
     unfold jy
     rw [e,List.getD_eq_getElem?_getD,List.getElem?_eq_getElem (show (x.tdiv 6 % (env.length : Int)).toNat < env.length by omega)]
     exact he _ (List.getElem_mem _)
    ·exact ⟨w0,.inl rfl⟩
   refine uG hg h0 he (hk.any hd0 hu.1 Q0) hu.2 ?_
   unfold uI gF
   split
   ·exact .inr (.inr (.inr (.inl ⟨Q0,rfl,rfl⟩)))
   split
   ·exact .inr (.inr (.inl ⟨rfl,rfl⟩))
   split
   ·exact .inr (.inr (.inl ⟨rfl,rfl⟩))
   ·exact .inr (.inl ⟨rfl,rfl,rfl⟩)
 rename_i k1
 split
 ·rename_i h2
  obtain rfl:=gTy2 ht h2.1
  exact uG hg h0 he (hk.any hd0 wt Q0) ht (.inr (.inr (.inr (.inr ⟨rfl,rfl,rfl⟩))))
 ·exact Dm hc hg h0 he hk ht Q0
theorem qT (hg : GMk c R n (ak c n)) {d : Int} {id : IdT} (ht : okT c.p R n t d) (hgt : gTy c.p t) (he : ∀ b∈env,wfT c.p R b.ty/\gTy c.p b.ty) : ∀ (sl : List SlotT) (j : Nat) (s : MkS),(∀ x∈sl,wfT c.p R x.ty/\gTy c.p x.ty)->∃ Ts : Nat->Int,∃ hl : (aP (ak c n) t env d id sl j s).1.1.length = sl.length,(aP (ak c n) t env d id sl j s).1.2.length = sl.length/\Ts 0 = s.temp/\Ts sl.length = (aP (ak c n) t env d id sl j s).2.temp /\
  ∀ i (h : i < (aP (ak c n) t env d id sl j s).1.1.length),Mk c t (env++[⟨id,(j+i : Nat),(sl[i]'Q0).ty⟩]) (Ts i) (aP (ak c n) t env d id sl j s).1.1[i] (Ts (i+1))
 | [],j,s,_=>⟨fun _=>s.temp,rfl,rfl,rfl,rfl,fun i h=>absurd h (Nat.not_lt_zero _)⟩
 | x::xs,j,s,hs=>by
  obtain ⟨Ts,hl,hl2,h1,h2,h3⟩:=qT hg (id:=id) ht hgt he xs (j+1) (cR (ak c n t (env++[⟨id,j,x.ty⟩]) d s).2).2 fun u hu=>hs u (List.mem_cons_of_mem _ hu)
  have e : aP (ak c n) t env d id (x::xs) j s = (((ak c n t (env++[⟨id,j,x.ty⟩]) d s).1::(aP (ak c n) t env d id xs (j+1) (cR (ak c n t (env++[⟨id,j,x.ty⟩]) d s).2).2).1.1,(cR (ak c n t (env++[⟨id,j,x.ty⟩]) d s).2).1::(aP (ak c n) t env d id xs (j+1) (cR (ak c n t (env++[⟨id,j,x.ty⟩]) d s).2).2).1.2),(aP (ak c n) t env d id xs (j+1) (cR (ak c n t (env++[⟨id,j,x.ty⟩]) d s).2).2).2):=by rw [aP]
  refine ⟨fun i=>match i with | 0=>s.temp | i+1=>Ts i,by rw [e];simp [hl],by rw [e];simp [hl2],rfl,h2,fun i h=>?_⟩
  cases i with
  | zero =>
   show Mk c t (env++[⟨id,j,x.ty⟩]) s.temp _ (Ts 0)
   rw [h1]
   refine hg t _ d s Q2 (fun b hb=>?_) ht hgt
   rcases List.mem_append.1 hb with hb | hb
   ·exact he b hb
   ·rw [List.mem_singleton.1 hb];exact hs x (List.mem_cons_self ..)
  | succ i =>
   have:=h3 i (by rw [e] at h;simpa using h)
   rw [show j+1+i = j+(i+1) by omega] at this
   exact this
theorem pz : ∀ (m i : Nat) {k : Nat},eA c t i m = some k->i<=k/\k < i+m/\(bk c k).kind = 2/\iK c k/\(bk c k).result = t
 | 0,i,k,h=>by simp [eA] at h
 | m+1,i,k,h=>by
  rw [eA] at h
  split at h
  ·rename_i h1
   obtain rfl : i = k:=by simpa using h
   exact ⟨Q0,Q0,h1.1.1,h1.1.2,h1.2⟩
  ·have:=pz m (i+1) h
   exact ⟨Q0,Q0,this.2.2⟩
theorem jd {xn : Nat} (hd : 0 < c.p.defs.length) : ∀ (m i : Nat) {k j : Nat},dy c t xn i m = some (k,j)->k < c.p.defs.length/\(bk c k).kind = 0/\iK c k/\∃ h : j < (bk c k).slots.length,(bk c k).slots[j].ty = t
 | 0,i,k,j,h=>by simp [dy] at h
 | m+1,i,k,j,h=>by
  rw [dy] at h
  by_cases hc : (bk c ((xn+i) % c.p.defs.length)).kind = 0/\iK c ((xn+i) % c.p.defs.length)
  ·rw [if_pos hc] at h
   cases hs : jH (bk c ((xn+i) % c.p.defs.length)).slots t with
   | none=>rw [hs] at h;exact jd hd m (i+1) h
   | some q =>
    rw [hs] at h
    simp only [Option.some.injEq,Prod.mk.injEq] at h
    obtain ⟨rfl,rfl⟩:=h
    unfold jH at hs
    obtain ⟨h1,h2,_⟩:=List.findIdx?_eq_some_iff_getElem.1 hs
    exact ⟨Nat.mod_lt _ hd,hc.1,hc.2,h1,by simpa using h2⟩
  ·rw [if_neg hc] at h
   exact jd hd m (i+1) h
theorem tE {kind : Int} {frm : Nat} (hd : 0 < c.p.defs.length) : ∀ m i,¬ eN c kind frm i m < 0->∃ k : Nat,eN c kind frm i m = k/\k < c.p.defs.length/\(bk c k).kind = kind/\iK c k
 | 0,i,h=>absurd (show eN c kind frm i 0 < 0 by rw [eN];omega) h
 | m+1,i,h=>by
  rw [eN] at h ⊢
  split
  ·rename_i h1
   exact ⟨_,rfl,Nat.mod_lt _ hd,h1⟩
  ·rename_i h1
   rw [if_neg h1] at h
   exact tE hd m (i+1) h
theorem rest_mk (hc : GCtx c R) (hg : GMk c R n (ak c n)) (h0 : 0 < env.length) (he : ∀ b∈env,wfT c.p R b.ty/\gTy c.p b.ty) (hk : okT c.p R (n+1) t depth) (hd0 : 0 < depth) (ht : gTy c.p t) {k : Int} (hx : 0<=x) : Mk c t env s.temp (qx c (ak c n) t env k x depth s).1 (qx c (ak c n) t env k x depth s).2.temp:=by
 have hR2:=hc.gen.R2
 have wt : wfT c.p R t:=by
  rcases hk with h | h
  ·omega
  ·exact h.2.1
 have wb : wfT c.p R tyL:=by
  refine bh hR2 ?_
  rw [wfT];exact .inr (.inl rfl)
 have w0 : wfT c.p R ty0:=bh hR2 (wY c.p 1)
 have any : ∀ {u : Ty} {j : Int},wfT c.p R u->1<=j->okT c.p R n u (depth - j):=fun hu hj=>hk.any hd0 hu hj
 have op:=opG_mk (s:=s) hc hg h0 he hk hd0 ht hx
 unfold qx
 split
 ·exact Mk.ife (hg tyL env (depth - 1) s h0 he (any wb Q0) (.inr (.inl rfl))) (hg t env (depth - 1) _ h0 he (any wt Q0) ht) (hg t env (depth - 1) _ h0 he (any wt Q0) ht)
 split
 ·have e : x.tmod (env.length : Int) = x % (env.length : Int):=Int.tmod_eq_emod_of_nonneg Q0
  have h1:=Int.emod_nonneg x (show (env.length : Int) ≠ 0 by omega)
  have h2:=Int.emod_lt_of_pos x (show (0 : Int) < env.length by omega)
  have hu : wfT c.p R (jy env x).ty/\gTy c.p (jy env x).ty:=by
   unfold jy
   rw [e,List.getD_eq_getElem?_getD,List.getElem?_eq_getElem (show (x % (env.length : Int)).toNat < env.length by omega)]
   exact he _ (List.getElem_mem _)
  have hb:=hg t (env++[⟨(aO 6 0 [] (ak c n (jy env x).ty env (depth - 1) s).2).1.id,0,(jy env x).ty⟩]) (depth - 1) (cR (aO 6 0 [] (ak c n (jy env x).ty env (depth - 1) s).2).2).2 D8
  refine Mk.lete (u:=(jy env x).ty) (hg _ env (depth - 1) s h0 he (any hu.1 Q0) hu.2) (hb (fun b hb=>?_) (any wt Q0) ht)
  rcases List.mem_append.1 hb with hb | hb
  ·exact he b hb
  ·rw [List.mem_singleton.1 hb];exact hu
 split
 ·unfold jU
  split
  ·exact op
  ·rename_i hm
   obtain ⟨q,hq,hlt,hkind,hvis⟩:=tE (kind:=1) (frm:=x.toNat) hc.d0 c.p.defs.length 0 hm
   rw [show ofG c 1 x.toNat = q from hq,Int.toNat_natCast]
   have hmem : bk c q∈c.p.defs:=by rw [gb hlt];exact List.getElem_mem hlt
   dsimp only
   generalize bk c q = d at hkind hmem ⊢
   have ha:=hg (ofT d.id) env (depth - 2) s h0 he (any (hc.gen.own d hmem (.inr hkind)) Q0) (.inr (.inr (.inr ⟨d,hmem,.inr hkind,rfl⟩)))
   obtain ⟨Ts,hl,hl2,h1,h2,h3⟩:=qT hg (id:=(aO 10 0 [] (ak c n (ofT d.id) env (depth - 2) s).2).1.id) (any wt (show (1 : Int)<=1 by omega)) ht he d.slots 0 (aO 10 0 [] (ak c n (ofT d.id) env (depth - 2) s).2).2 fun u hu=>⟨hc.gen.slot d hmem u hu,hc.gs d hmem u hu⟩
   refine (Mk.mat hmem hkind Ts hl hl2 ha h1 fun i h=>?_).cast rfl rfl (by rw [hl];exact h2)
   have:=h3 i h
   rw [Nat.zero_add] at this
   exact this
 split
 ·unfold jZ
  split
  ·rename_i q j hf
   obtain ⟨hlt,hkind,hvis,hj,hty⟩:=jd hc.d0 _ _ hf
   have hmem : bk c q∈c.p.defs:=by rw [gb hlt];exact List.getElem_mem hlt
   dsimp only
   rw [<-hty]
   exact Mk.field hmem hkind hj (hg _ env (depth - 1) s h0 he (any (hc.gen.own _ hmem (.inl hkind)) Q0) (.inr (.inr (.inr ⟨_,hmem,.inl hkind,rfl⟩))))
  ·exact op
 split
 ·unfold pq
  split
  ·rename_i q hf
   obtain ⟨_,hlt,hkind,hvis,hty⟩:=pz _ _ hf
   rw [Nat.zero_add] at hlt
   have ed:=gb hlt
   have hmem : c.p.defs[q]∈c.p.defs:=List.getElem_mem hlt
   dsimp only
   rw [ed] at hkind hty ⊢
   obtain ⟨Ts,hl,h1,h2,h3⟩:=tP hg h0 he (d:=depth - 1) (c.p.defs[q].slots.map SlotT.ty) s fun u hu=>by
    obtain ⟨y,hy,rfl⟩:=List.mem_map.1 hu
    exact ⟨any (hc.gen.slot _ hmem _ hy) Q0,hc.gs _ hmem _ hy⟩
   rw [List.length_map] at hl
   refine (Mk.call hlt hkind hvis Ts hl h1 fun i h=>?_).cast hty ?_ ?_
   ·have:=h3 i h
    rwa [List.getElem_map] at this
   ·rw [h2];rfl
   ·rw [h2];rfl
  ·exact op
 split
 ·have hb:=hg t (env++[⟨(aO 12 0 [] (ak c n t env (depth - 1) (ak c n (bN ty0) env (depth - 1) s).2).2).1.id,0,ty0⟩]++[⟨(aO 12 0 [] (ak c n t env (depth - 1) (ak c n (bN ty0) env (depth - 1) s).2).2).1.id,1,t⟩]) (depth - 1) (cR (cR (aO 12 0 [] (ak c n t env (depth - 1) (ak c n (bN ty0) env (depth - 1) s).2).2).2).2).2 D8
  refine Mk.fold (hg _ env (depth - 1) s h0 he (any (kz hR2) Q0) (.inr (.inr (.inl rfl)))) (hg t env (depth - 1) _ h0 he (any wt Q0) ht) (hb (fun b hb=>?_) (any wt Q0) ht)
  rcases List.mem_append.1 hb with hb | hb
  ·rcases List.mem_append.1 hb with hb | hb
   ·exact he b hb
   ·rw [List.mem_singleton.1 hb];exact ⟨w0,.inl rfl⟩
  ·rw [List.mem_singleton.1 hb];exact ⟨wt,ht⟩
 ·exact op
theorem o6 (hc : GCtx c R) : ∀ n,GMk c R n (ak c n)
 | 0=>fun t env depth s h0 he hk ht=>absurd hk.pos (Nat.lt_irrefl _)
 | n+1=>fun t env depth s h0 he hk ht=>by
  have hg:=o6 hc n
  rw [uv]
  have hx : 0<=(fF c 65536 s).1/\(fF c 65536 s).1 < 65536:=dc c.l s.pos 65536 Q0
  have hd:=Ii (s1:=(fF c 65536 s).2) hk
  show Mk c t env (fF c 65536 s).2.temp _ _
  generalize fF c 65536 s = y at hx hd ⊢
  obtain ⟨x,s1⟩:=y
  dsimp only at hx hd ⊢
  have d3 : x.tdiv 3 = x / 3:=Int.tdiv_eq_ediv_of_nonneg hx.1
  have d36 : x.tdiv 36 = x / 36:=Int.tdiv_eq_ediv_of_nonneg hx.1
  split
  ·rename_i hv
   have e : (x.tdiv 3).tmod ((cW env t).length : Int) = x.tdiv 3 % ((cW env t).length : Int):=Int.tmod_eq_emod_of_nonneg Q0
   have h1:=Int.emod_nonneg (x.tdiv 3) (show ((cW env t).length : Int) ≠ 0 by omega)
   have h2:=Int.emod_lt_of_pos (x.tdiv 3) (show (0 : Int) < (cW env t).length by omega)
   have hlt : (x.tdiv 3 % ((cW env t).length : Int)).toNat < (cW env t).length:=Q0
   rw [e,List.getD_eq_getElem?_getD,List.getElem?_eq_getElem hlt]
   have hm:=List.getElem_mem hlt
   have hty : (cW env t)[(x.tdiv 3 % ((cW env t).length : Int)).toNat].ty = t:=by have:=(List.mem_filter.1 hm).2;simpa using this
   exact (Mk.var (fit_mem hm)).cast hty rfl rfl
  split
  ·exact Dm hc hg h0 he hd ht Q0
  ·rename_i hd0
   exact rest_mk hc hg h0 he hd Q0 ht Q0
end
theorem bt {m m' : Int} (h : m<=m') : ∀ {e : Ex},inB m e->inB m' e
 | .mk i k n r t l s,hb=>by
  rw [inB] at hb ⊢
  refine ⟨Q0,fun hk=>by have:=hb.2.1 hk;omega,?_⟩
  exact go l hb.2.2
 where go : ∀ l : List Ex,oS m l->oS m' l
 | [],_=>by rw [oS];trivial
 | e::es,hb=>by
  rw [oS] at hb ⊢
  exact ⟨bt h hb.1,go es hb.2⟩
theorem Dx {m : Int} : ∀ {l : List Ex},(∀ e∈l,inB m e)->oS m l
 | [],_=>by rw [oS];trivial
 | e::es,h=>by
  rw [oS]
  exact ⟨h e (List.mem_cons_self ..),Dx fun x hx=>h x (List.mem_cons_of_mem _ hx)⟩
theorem ef {Ts : Nat->Int} : ∀ (n : Nat),(∀ i,i < n->Ts i < Ts (i+1))->∀ i,i<=n->Ts 0<=Ts i/\Ts i<=Ts n
 | 0,_,i,hi=>by
  obtain rfl : i = 0:=Q0
  exact ⟨Int.le_refl _,Int.le_refl _⟩
 | n+1,h,i,hi=>by
  have h1:=h n Q0
  by_cases e : i = n+1
  ·subst e
   have:=ef n (fun j hj=>h j Q0) n Q0
   exact ⟨Q0,Int.le_refl _⟩
  ·have:=ef n (fun j hj=>h j Q0) i Q0
   exact ⟨this.1,Q0⟩
section
variable {c : MkC} {t : Ty} {env : List Bnd} {T T' : Int} {e : Ex}
theorem Mk.lt (h : Mk c t env T e T') : T < T':=by
 induction h with
 | int _=>omega
 | bool _=>omega
 | var _=>omega
 | list Ts _ h0 _ ih=>have:=(ef (Ts:=Ts) _ (fun i hi=>ih i hi) _ (Nat.le_refl _)).1;omega
 | kase _ _ _ _ ih=>omega
 | recd _ _ Ts _ h0 _ ih=>have:=(ef (Ts:=Ts) _ (fun i hi=>ih i hi) _ (Nat.le_refl _)).1;omega
 | len _ ih=>omega
 | not _ ih=>omega
 | both _ _ _ ih1 ih2=>omega
 | ife _ _ _ ih1 ih2 ih3=>omega
 | lete _ _ ih1 ih2=>omega
 | fold _ _ _ ih1 ih2 ih3=>omega
 | mat _ _ Ts _ _ _ h0 _ ih1 ih=>have:=(ef (Ts:=Ts) _ (fun i hi=>ih i hi) _ (Nat.le_refl _)).1;omega
 | field _ _ _ _ ih=>omega
 | call _ _ _ Ts _ h0 _ ih=>have:=(ef (Ts:=Ts) _ (fun i hi=>ih i hi) _ (Nat.le_refl _)).1;omega
def Low (env : List Bnd) (T : Int) : Prop:=∀ b∈env,b.id.seq = 0->0<=b.id.index/\b.id.index < T
theorem Low.mono {T1 : Int} (h : Low env T) (hT : T<=T1) : Low env T1:=fun b hb hs=>by have:=h b hb hs;omega
theorem Low.add {T1 : Int} (h : Low env T) (hT : T<=T1) (h0 : 0<=T1) {k : Int} {u : Ty} {S : Int} (hS : T1+1<=S) : Low (env++[⟨⟨0,0,T1⟩,k,u⟩]) S:=fun b hb hs=>by
 rcases List.mem_append.1 hb with hb | hb
 ·have:=h b hb hs;omega
 ·rw [List.mem_singleton.1 hb];exact ⟨h0,by show T1 < S;omega⟩
theorem cn {m k n : Int} {l : List Ex} {T : Int} {r : IdT} {u : Ty} {ns : List ByteArray} (hT : 0<=T/\T < m) (hr : k = 2->r.seq = 0->0<=r.index/\r.index < m) (hl : ∀ e∈l,inB m e) : inB m (.mk ⟨0,0,T⟩ k n r u l ns):=by
 rw [inB]
 exact ⟨hT,fun h=>hr h.1 h.2,Dx hl⟩
theorem Mk.inB (h : Mk c t env T e T') : 0<=T->Low env T->inB T' e:=by
 induction h with
 | int _=>exact fun h0 _=>cn (k:=0) (l:=[]) ⟨h0,Q0⟩ (fun h=>absurd h Q1) (fun _ h=>by cases h)
 | bool _=>exact fun h0 _=>cn (k:=1) (l:=[]) ⟨h0,Q0⟩ (fun h=>absurd h Q1) (fun _ h=>by cases h)
 | var hb=>exact fun h0 hl=>cn (k:=2) (l:=[]) ⟨h0,Q0⟩ (fun _ hs=>by have:=hl _ hb hs;omega) (fun _ h=>by cases h)
 | @list env T kids Ts _ h0 hm ih =>
  intro h1 hl
  have st:=ef (Ts:=Ts) _ (fun i hi=>(hm i hi).lt)
  have:=(st _ (Nat.le_refl _)).1
  refine cn (k:=11) (l:=kids) ⟨Q0,Q0⟩ (fun h=>absurd h Q1) fun x hx=>?_
  obtain ⟨i,hi,rfl⟩:=List.mem_iff_getElem.1 hx
  have h2:=st i Q0
  have h3:=st (i+1) Q0
  exact bt Q0 (ih i hi Q0 (hl.mono Q0))
 | @kase env T T1 d k e _ _ _ hm ih =>
  intro h1 hl
  have:=hm.lt
  refine cn (k:=9) (l:=[e]) ⟨Q0,Q0⟩ (fun h=>absurd h Q1) fun x hx=>?_
  rw [List.mem_singleton.1 hx]
  exact bt Q0 (ih h1 hl)
 | @recd env T d kids _ _ Ts _ h0 hm ih =>
  intro h1 hl
  have st:=ef (Ts:=Ts) _ (fun i hi=>(hm i hi).lt)
  have:=(st _ (Nat.le_refl _)).1
  refine cn (k:=7) (l:=kids) ⟨Q0,Q0⟩ (fun h=>absurd h Q1) fun x hx=>?_
  obtain ⟨i,hi,rfl⟩:=List.mem_iff_getElem.1 hx
  have h2:=st i Q0
  have h3:=st (i+1) Q0
  exact bt Q0 (ih i hi Q0 (hl.mono Q0))
 | @len env T T1 a hm ih =>
  intro h1 hl
  have:=hm.lt
  refine cn (k:=4) (l:=[a]) ⟨Q0,Q0⟩ (fun h=>absurd h Q1) fun x hx=>?_
  rw [List.mem_singleton.1 hx]
  exact bt Q0 (ih h1 hl)
 | @not env T T1 a hm ih =>
  intro h1 hl
  have:=hm.lt
  refine cn (k:=4) (l:=[a]) ⟨Q0,Q0⟩ (fun h=>absurd h Q1) fun x hx=>?_
  rw [List.mem_singleton.1 hx]
  exact bt Q0 (ih h1 hl)
 | @both t u env T T1 T2 n a b _ ha hb ih1 ih2 =>
  intro h1 hl
  have:=ha.lt
  have:=hb.lt
  refine cn (k:=4) (l:=[a,b]) ⟨Q0,Q0⟩ (fun h=>absurd h Q1) fun x hx=>?_
  simp only [List.mem_cons,List.not_mem_nil,or_false] at hx
  rcases hx with rfl | rfl
  ·exact bt Q0 (ih1 h1 hl)
  ·exact bt Q0 (ih2 Q0 (hl.mono Q0))
 | @ife t env T T1 T2 T3 a b e ha hb he ih1 ih2 ih3 =>
  intro h1 hl
  have:=ha.lt
  have:=hb.lt
  have:=he.lt
  refine cn (k:=5) (l:=[a,b,e]) ⟨Q0,Q0⟩ (fun h=>absurd h Q1) fun x hx=>?_
  simp only [List.mem_cons,List.not_mem_nil,or_false] at hx
  rcases hx with rfl | rfl | rfl
  ·exact bt Q0 (ih1 h1 hl)
  ·exact bt Q0 (ih2 Q0 (hl.mono Q0))
  ·exact bt Q0 (ih3 Q0 (hl.mono Q0))
 | @lete t u env T T1 T2 a b m ha hb ih1 ih2 =>
  intro h1 hl
  have:=ha.lt
  have:=hb.lt
  refine cn (k:=6) (l:=[a,b]) ⟨Q0,Q0⟩ (fun h=>absurd h Q1) fun x hx=>?_
  simp only [List.mem_cons,List.not_mem_nil,or_false] at hx
  rcases hx with rfl | rfl
  ·exact bt Q0 (ih1 h1 hl)
  ·exact bt Q0 (ih2 Q0 (hl.add Q0 Q0 Q0))
 | @fold t env T T1 T2 T3 a b e m m2 ha hb he ih1 ih2 ih3 =>
  intro h1 hl
  have:=ha.lt
  have:=hb.lt
  have:=he.lt
  refine cn (k:=12) (l:=[a,b,e]) ⟨Q0,Q0⟩ (fun h=>absurd h Q1) fun x hx=>?_
  simp only [List.mem_cons,List.not_mem_nil,or_false] at hx
  rcases hx with rfl | rfl | rfl
  ·exact bt Q0 (ih1 h1 hl)
  ·exact bt Q0 (ih2 Q0 (hl.mono Q0))
  ·refine bt Q0 (ih3 Q0 ?_)
   refine fun b hb hs=>?_
   rcases List.mem_append.1 hb with hb | hb
   ·exact (hl.add Q0 Q0 (Int.le_refl _)) b hb hs
   ·rw [List.mem_singleton.1 hb];exact ⟨show 0<=T2 by omega,show T2 < T2+1 by omega⟩
 | @mat t env T T1 d a kids ms _ _ Ts _ _ ha h0 hm ih1 ih =>
  intro h1 hl
  have:=ha.lt
  have st:=ef (Ts:=Ts) _ (fun i hi=>(hm i hi).lt)
  have:=(st _ (Nat.le_refl _)).1
  refine cn (k:=10) (l:=a::kids) ⟨Q0,Q0⟩ (fun h=>absurd h Q1) fun x hx=>?_
  rcases List.mem_cons.1 hx with rfl | hx
  ·exact bt Q0 (ih1 h1 hl)
  ·obtain ⟨i,hi,rfl⟩:=List.mem_iff_getElem.1 hx
   have h2:=st i Q0
   have h3:=st (i+1) Q0
   exact bt Q0 (ih i hi Q0 (hl.add Q0 Q0 Q0))
 | @field env T T1 d j a _ _ _ hm ih =>
  intro h1 hl
  have:=hm.lt
  refine cn (k:=8) (l:=[a]) ⟨Q0,Q0⟩ (fun h=>absurd h Q1) fun x hx=>?_
  rw [List.mem_singleton.1 hx]
  exact bt Q0 (ih h1 hl)
 | @call env T k kids _ _ _ Ts _ h0 hm ih =>
  intro h1 hl
  have st:=ef (Ts:=Ts) _ (fun i hi=>(hm i hi).lt)
  have:=(st _ (Nat.le_refl _)).1
  refine cn (k:=3) (l:=kids) ⟨Q0,Q0⟩ (fun h=>absurd h Q1) fun x hx=>?_
  obtain ⟨i,hi,rfl⟩:=List.mem_iff_getElem.1 hx
  have h2:=st i Q0
  have h3:=st (i+1) Q0
  exact bt Q0 (ih i hi Q0 (hl.mono Q0))
end
theorem zX {m : Int} : ∀ {e : Ex},inB m e->∀ x∈e.post,0<=x/\x < m
 | .mk i k n r t l s,h,x,hx=>by
  rw [inB] at h
  rw [Ex.post] at hx
  rcases List.mem_append.1 hx with hx | hx
  ·exact go l h.2.2 x hx
  ·rw [List.mem_singleton.1 hx];exact h.1
 where go : ∀ l : List Ex,oS m l->∀ x∈Ex.er l,0<=x/\x < m
 | [],_,x,hx=>by rw [Ex.er] at hx;cases hx
 | e::es,h,x,hx=>by
  rw [oS] at h
  rw [Ex.er] at hx
  rcases List.mem_append.1 hx with hx | hx
  ·exact zX h.1 x hx
  ·exact go es h.2 x hx
def bF (d : DefT) : List Bnd:=d.slots.map fun x=>⟨x.id,0,x.ty⟩
def MkC.with (c : MkC) (d : DefT) (e : Ex) : MkC:=⟨⟨c.p.mods,c.p.defs.set c.own.toNat (d.setBody e)⟩,c.l,c.own,c.home⟩
def iI (c : MkC) (d : DefT) (s : MkS) : Ex×MkS :=
 if 30 < (ak c 9 d.result (bF d) 4 s).1.size then ak (c.with d (ak c 9 d.result (bF d) 4 s).1) 9 d.result (bF d) 0 ⟨(ak c 9 d.result (bF d) 4 s).2.pos,(ak c 9 d.result (bF d) 4 s).2.temp,0,(ak c 9 d.result (bF d) 4 s).2.name⟩ else ak c 9 d.result (bF d) 4 s
def bare (d : DefT) : Prop:=d.kind = 0\/d.kind = 1
instance (d : DefT) : Decidable (bare d):=by unfold bare;exact inferInstance
def bg (ms : List ModT) (l : List Int) : Nat->Nat->List DefT->MkS->List DefT×MkS
 | 0,_,ds,s=>(ds,s)
 | m+1,i,ds,s=>if bare (ds.getD i gQ) then bg ms l m (i+1) ds s
  else bg ms l m (i+1) (ds.set i ((ds.getD i gQ).setBody (iI ⟨⟨ms,ds⟩,l,i,(ds.getD i gQ).mod⟩ (ds.getD i gQ) ⟨s.pos,s.temp,14,0⟩).1)) (iI ⟨⟨ms,ds⟩,l,i,(ds.getD i gQ).mod⟩ (ds.getD i gQ) ⟨s.pos,s.temp,14,0⟩).2
def b8 : List IdT->List Int->Int->List IdT
 | ids,[],_=>ids
 | ids,k::ks,nx=>b8 (ids.set k.toNat (idK nx)) ks (nx+1)
theorem iw : ∀ (ids : List IdT) (ks : List Int) (nx : Int),(b8 ids ks nx).length = ids.length
 | ids,[],_=>rfl
 | ids,k::ks,nx=>by rw [b8,iw,List.length_set]
theorem mM : ∀ (ids : List IdT) (a b : List Int) (nx : Int),b8 ids (a++b) nx = b8 (b8 ids a nx) b (nx+a.length)
 | ids,[],b,nx=>by simp [b8]
 | ids,k::a,b,nx=>by rw [List.cons_append,b8,b8,mM,List.length_cons,show nx+1+(a.length : Int) = nx+((a.length+1 : Nat) : Int) by omega]
def fM : Nat->Nat->List DefT->List IdT->Int->List DefT
 | 0,_,ds,_,_=>ds
 | m+1,i,ds,ids,nx=>if bare (ds.getD i gQ) then fM m (i+1) ds ids nx
  else fM m (i+1) (ds.set i ((ds.getD i gQ).setBody (jJ (b8 ids (ds.getD i gQ).body.post nx) (ds.getD i gQ).body))) (b8 ids (ds.getD i gQ).body.post nx) (nx+(ds.getD i gQ).body.post.length)
def iD (l : List Int) : List DefT×MkS:=bg (cg l) l (aL l).length 0 (aL l) ⟨24,0,0,0⟩
def fP (l : List Int) : ProgT:=⟨cg l,fM (aL l).length 0 (iD l).1 (List.replicate (iD l).2.temp.toNat id0) (gJ l)⟩
structure Names (p : ProgT) : Prop where
 inj : ∀ i j (hi : i < p.defs.length) (hj : j < p.defs.length),p.defs[i].id = p.defs[j].id->i = j
 gs : ∀ d∈p.defs,∀ s∈d.slots,gTy p s.ty
 gr : ∀ d∈p.defs,gTy p d.result
 kd : ∀ d∈p.defs,0<=d.kind/\d.kind<=5
theorem Names.the {p : ProgT} (h : Names p) {d : DefT} (hd : d∈p.defs) : an p d.id = d:=by
 obtain ⟨k,hk,rfl⟩:=List.mem_iff_getElem.1 hd
 exact (ig hk (fun j hj hlt e=>by have:=h.inj j k hj hk e;omega) rfl).2
theorem o5 {ms ns : List ModT} {a b : List DefT} (h : dm a b) {t : Ty} (ht : gTy ⟨ns,b⟩ t) : gTy ⟨ms,a⟩ t:=by
 rcases ht with ht | ht | ht | ⟨d,hd,hk,ht⟩
 ·exact .inl ht
 ·exact .inr (.inl ht)
 ·exact .inr (.inr (.inl ht))
 ·have h' : dm b a:=h.symm
  obtain ⟨e,he,hs⟩:=h'.mem hd
  have:=cw hs
  exact .inr (.inr (.inr ⟨e,he,by rw [<-this.2.1];exact hk,by rw [<-this.1];exact ht⟩))
theorem Names.like {ms ns : List ModT} {a b : List DefT} (hb : Names ⟨ns,b⟩) (h : dm a b) : Names ⟨ms,a⟩:=by
 have get : ∀ d∈a,∃ e∈b,d.id = e.id/\d.kind = e.kind/\d.slots = e.slots/\d.result = e.result:=fun d hd=>by
  obtain ⟨e,he,hs⟩:=h.mem hd
  have:=cw hs
  exact ⟨e,he,this.1,this.2.1,this.2.2.2.2.1,this.2.2.2.2.2.1⟩
 have hl:=h.len
 refine ⟨fun i j hi hj e=>?_,fun d hd s hs=>?_,fun d hd=>?_,fun d hd=>?_⟩
 ·have hi' : i < b.length:=by rw [<-hl];exact hi
  have hj' : j < b.length:=by rw [<-hl];exact hj
  have e1:=(cw (h.get hi hi')).1
  have e2:=(cw (h.get hj hj')).1
  exact hb.inj i j hi' hj' (by rw [<-e1,<-e2];exact e)
 all_goals obtain ⟨e,he,h1,h2,h3,h4⟩:=get d hd
 ·rw [h3] at hs;exact o5 h (hb.gs e he s hs)
 ·rw [h4];exact o5 h (hb.gr e he)
 ·rw [h2];exact hb.kd e he
theorem Base.gctx {c : MkC} {R : Nat} (hb : Base c.p R) (hn : Names c.p) : GCtx c R :=
 ⟨hb.gen,hb.d0,fun _ hd=>hn.the hd,hn.gs,hn.gr⟩
theorem xV (l : List Int) : Names ⟨cg l,aL l⟩:=by
 have hn : 1<=aq l:=by rcases jq l with h | h <;> omega
 unfold aL
 generalize hps : iO l = ps
 have hok : ∀ p∈ps,PlanOk l (aq l) p:=by rw [<-hps];exact kM hn
 have hlen:=dw l (aq l)
 unfold iO at hps
 rw [hps] at hlen
 generalize aq l+(ps.length : Int) = next
 generalize cg l = ms
 have hdl:=bV ps (aq l) next
 have own : ∀ {k : Int} {j : Nat},k = aq l+j->∀ hj : j < ps.length,(ps[j].kind = 0\/ps[j].kind = 1)->gTy ⟨ms,aF ps (aq l) next⟩ (tyD k):=fun {k j} hkj hj hk=>by
  refine .inr (.inr (.inr ⟨(aF ps (aq l) next)[j]'Q0,List.getElem_mem _,?_,?_⟩))
  ·rw [cN ps _ _ hj];exact hk
  ·rw [cN ps _ _ hj,hkj];rfl
 have g0 : gTy ⟨ms,aF ps (aq l) next⟩ (tyD (aq l)):=own (j:=0) Q0 Q0 (by subst hps;exact .inl rfl)
 have g1 : gTy ⟨ms,aF ps (aq l) next⟩ (tyD (aq l+1)):=own (j:=1) Q0 Q0 (by subst hps;exact .inr rfl)
 have g23 : dz l = true->gTy ⟨ms,aF ps (aq l) next⟩ (tyD (aq l+2))/\gTy ⟨ms,aF ps (aq l) next⟩ (tyD (aq l+3)):=fun hf=>by
  have h2 : 2 < ps.length:=Q0
  have h3 : 3 < ps.length:=Q0
  have ep2 : ps[2] = iy l (aq l):=by
   have : ps[2]? = some (iy l (aq l)):=by rw [<-hps];unfold aN dZ dK;rw [if_pos hf];rfl
   rw [List.getElem?_eq_getElem h2] at this
   exact Option.some.inj this
  have ep3 : ps[3] = nD (aq l):=by
   have : ps[3]? = some (nD (aq l)):=by rw [<-hps];unfold aN dZ dK;rw [if_pos hf];rfl
   rw [List.getElem?_eq_getElem h3] at this
   exact Option.some.inj this
  exact ⟨own (j:=2) Q0 h2 (by rw [ep2];exact .inl rfl),own (j:=3) Q0 h3 (by rw [ep3];exact .inl rfl)⟩
 have all : ∀ t,mF l (aq l) t->gTy ⟨ms,aF ps (aq l) next⟩ t:=fun t h=>by
  rcases h with h | h | h | h | h | ⟨hf,h | h⟩
  ·exact .inl h
  ·exact .inr (.inl h)
  ·exact .inr (.inr (.inl h))
  ·rw [h];exact g0
  ·rw [h];exact g1
  ·rw [h];exact (g23 hf).1
  ·rw [h];exact (g23 hf).2
 have get : ∀ d∈aF ps (aq l) next,∃ j,∃ hj : j < ps.length,d = iz ps[j] (aq l+j) (next+cO (ps.take j)):=fun d hd=>by
  obtain ⟨j,hj,rfl⟩:=List.mem_iff_getElem.1 hd
  exact ⟨j,by rw [hdl] at hj;exact hj,cN ps _ _ _ _⟩
 refine ⟨fun i j hi hj e=>?_,fun d hd s hs=>?_,fun d hd=>?_,fun d hd=>?_⟩
 ·have hi' : i < ps.length:=by have : i < (aF ps (aq l) next).length:=hi;omega
  have hj' : j < ps.length:=by have : j < (aF ps (aq l) next).length:=hj;omega
  have e' : idK (aq l+i) = idK (aq l+j):=by
   have h1:=cN ps (aq l) next hi' hi
   have h2:=cN ps (aq l) next hj' hj
   dsimp only at e
   rw [h1,h2] at e
   exact e
  rcases Nat.lt_trichotomy i j with h | h | h
  ·exact absurd e' (BY Q0 Q0 Q0)
  ·exact h
  ·exact absurd e' (BY Q0 Q0 Q0)
 all_goals obtain ⟨j,hj,rfl⟩:=get d hd
 all_goals have ok:=hok _ (List.getElem_mem hj)
 ·exact all _ (ok.tys _ (dO hs)).up
 ·exact all _ ok.res
 ·exact ok.kind
theorem sH (l : List Int) : ∀ d∈aL l,∀ s∈d.slots,s.id.seq ≠ 0:=by
 intro d hd s hs
 have hn : 1<=aq l:=by rcases jq l with h | h <;> omega
 obtain ⟨j,hj,rfl⟩:=List.mem_iff_getElem.1 hd
 unfold aL at hs hj
 rw [cN _ _ _ (by rw [bV] at hj;exact hj)] at hs
 unfold iz cM at hs
 dsimp only at hs
 obtain ⟨k,hk,rfl⟩:=List.mem_map.1 hs
 unfold idK
 dsimp only
 rw [Int.tdiv_eq_ediv_of_nonneg Q0]
 omega
theorem A7 {a b : List DefT} (h : dm a b) (hb : ∀ d∈b,∀ s∈d.slots,s.id.seq ≠ 0) : ∀ d∈a,∀ s∈d.slots,s.id.seq ≠ 0:=fun d hd s hs=>by
 obtain ⟨e,he,hse⟩:=h.mem hd
 rw [(cw hse).2.2.2.2.1] at hs
 exact hb e he s hs
theorem qv {Ts : Nat->Int} : ∀ (l : List Ex) (k : Nat),(∀ i (h : i < l.length),(l[i].size : Int)+Ts (k+i)<=Ts (k+i+1))->(Ex.sizes l : Int)+Ts k<=Ts (k+l.length)
 | [],k,_=>by simp [Ex.sizes]
 | e::l,k,h=>by
  have h0:=h 0 Q2
  have h1:=qv l (k+1) fun i hi=>by
   have:=h (i+1) (by simpa using hi)
   rw [show k+1+i = k+(i+1) by omega]
   exact this
  simp only [Ex.sizes,List.length_cons]
  rw [show k+(l.length+1) = k+1+l.length by omega]
  simp only [List.getElem_cons_zero,Nat.add_zero] at h0
  omega
theorem Mk.size {c : MkC} {t : Ty} {env : List Bnd} {T T' : Int} {e : Ex} (h : Mk c t env T e T') : (e.size : Int)+T<=T':=by
 have row : ∀ {l : List Ex} {Ts : Nat->Int},(∀ i (h : i < l.length),(l[i].size : Int)+Ts i<=Ts (i+1))->(Ex.sizes l : Int)+Ts 0<=Ts l.length:=fun {l Ts} h=>by
  have:=qv (Ts:=Ts) l 0 fun i hi=>by rw [Nat.zero_add];exact h i hi
  rwa [Nat.zero_add] at this
 induction h with
 | int _=>rw [Ex.size_eq];show ((1+0 : Nat) : Int)+_<=_;omega
 | bool _=>rw [Ex.size_eq];show ((1+0 : Nat) : Int)+_<=_;omega
 | var _=>rw [Ex.size_eq];show ((1+0 : Nat) : Int)+_<=_;omega
 | @list env T kids Ts _ h0 _ ih=>rw [Ex.size_eq];have:=row ih;show ((1+Ex.sizes kids : Nat) : Int)+_<=_;omega
 | @kase env T T1 d k e _ _ _ hm ih=>rw [Ex.size_eq];show ((1+(e.size+0) : Nat) : Int)+_<=_;omega
 | @recd env T d kids _ _ Ts _ h0 hm ih=>rw [Ex.size_eq];have:=row ih;show ((1+Ex.sizes kids : Nat) : Int)+_<=_;omega
 | @len env T T1 a hm ih=>rw [Ex.size_eq];show ((1+(a.size+0) : Nat) : Int)+_<=_;omega
 | @not env T T1 a hm ih=>rw [Ex.size_eq];show ((1+(a.size+0) : Nat) : Int)+_<=_;omega
 | @both t u env T T1 T2 n a b _ ha hb ih1 ih2=>rw [Ex.size_eq];show ((1+(a.size+(b.size+0)) : Nat) : Int)+_<=_;omega
 | @ife t env T T1 T2 T3 a b e ha hb he ih1 ih2 ih3=>rw [Ex.size_eq];show ((1+(a.size+(b.size+(e.size+0))) : Nat) : Int)+_<=_;omega
 | @lete t u env T T1 T2 a b m ha hb ih1 ih2=>rw [Ex.size_eq];show ((1+(a.size+(b.size+0)) : Nat) : Int)+_<=_;omega
 | @fold t env T T1 T2 T3 a b e m m2 ha hb he ih1 ih2 ih3=>rw [Ex.size_eq];show ((1+(a.size+(b.size+(e.size+0))) : Nat) : Int)+_<=_;omega
 | @mat t env T T1 d a kids ms _ _ Ts _ _ ha h0 hm ih1 ih=>rw [Ex.size_eq];have:=row ih;show ((1+(a.size+Ex.sizes kids) : Nat) : Int)+_<=_;omega
 | @field env T T1 d j a _ _ _ hm ih=>rw [Ex.size_eq];show ((1+(a.size+0) : Nat) : Int)+_<=_;omega
 | @call env T k kids _ _ _ Ts _ h0 hm ih=>rw [Ex.size_eq];have:=row ih;show ((1+Ex.sizes kids : Nat) : Int)+_<=_;omega
def Us (P : Int) (s : MkS) : Prop:=0<=s.pos/\s.pos<=P/\0<=s.temp/\s.temp<=P/\-P<=s.left/\s.left<=1099511627776/\0<=s.name/\s.name<=P
theorem Us.bd {P B : Int} {s : MkS} (h : Us P s) (hP : P+B<=1099511627776) : Bd B s:=by unfold Us at h;unfold Bd;omega
theorem AZ {g : GX} {q P : Int} (hg : GBd q g) (_ : 0<=q) {t : Ty} {env : List Bnd} {d : Int} {s : MkS} (h : Us P s) (hP : P+q<=1099511627776) : Us (P+q) (g t env d s).2:=by
 have:=hg t env d s (1099511627776 - P - q) Q0 (h.bd Q0)
 unfold Us at *
 unfold Bd at this
 omega
theorem qk (d : DefT) : (bF d).length = d.slots.length:=by simp [bF]
theorem jx {d : DefT} {b : Bnd} (h : b∈bF d) : ∃ s∈d.slots,b = ⟨s.id,0,s.ty⟩:=by
 obtain ⟨s,hs,rfl⟩:=List.mem_map.1 h
 exact ⟨s,hs,rfl⟩
theorem GY {p : ProgT} {t : Ty} (h : wfT p 5 t) : okT p 5 9 t 4:=.inr ⟨Q0,h,Q0⟩
theorem GZ {p : ProgT} {t : Ty} (h : wfT p 5 t) : okT p 5 9 t 0:=.inl ⟨Q0,bh Q0 h⟩
theorem Mk.like {c c' : MkC} (hl : dm c.p.defs c'.p.defs) (hm : c.p.mods = c'.p.mods) (ho : c.own = c'.own) (hh : c.home = c'.home) {t : Ty} {env : List Bnd} {T T' : Int} {e : Ex} (h : Mk c t env T e T') : Mk c' t env T e T':=by
 have get : ∀ d∈c.p.defs,∃ d'∈c'.p.defs,d'.id = d.id/\d'.kind = d.kind/\d'.slots = d.slots:=fun d hd=>by
  obtain ⟨d',hd',hs⟩:=hl.mem hd
  have:=cw hs
  exact ⟨d',hd',this.1.symm,this.2.1.symm,this.2.2.2.2.1.symm⟩
 induction h with
 | int h=>exact Mk.int h
 | bool h=>exact Mk.bool h
 | var h=>exact Mk.var h
 | list Ts hl h0 _ ih=>exact Mk.list Ts hl h0 ih
 | kase hd hk h _ ih =>
  obtain ⟨d',hd',e1,e2,e3⟩:=get _ hd
  have:=Mk.kase hd' (by rw [e2];exact hk) (by rw [e3];exact h) (by rw [List.getElem_of_eq e3];exact ih)
  rwa [e1] at this
 | recd hd hk Ts hn h0 _ ih =>
  obtain ⟨d',hd',e1,e2,e3⟩:=get _ hd
  have:=Mk.recd hd' (by rw [e2];exact hk) Ts (by rw [e3];exact hn) h0 fun i hi=>by rw [List.getElem_of_eq e3];exact ih i hi
  rwa [e1] at this
 | len _ ih=>exact Mk.len ih
 | not _ ih=>exact Mk.not ih
 | both h _ _ ih1 ih2=>exact Mk.both h ih1 ih2
 | ife _ _ _ ih1 ih2 ih3=>exact Mk.ife ih1 ih2 ih3
 | lete _ _ ih1 ih2=>exact Mk.lete ih1 ih2
 | fold _ _ _ ih1 ih2 ih3=>exact Mk.fold ih1 ih2 ih3
 | mat hd hk Ts hn hms _ h0 _ ih1 ih =>
  obtain ⟨d',hd',e1,e2,e3⟩:=get _ hd
  have:=Mk.mat hd' (by rw [e2];exact hk) Ts (by rw [e3];exact hn) (by rw [e3];exact hms) (by rw [e1];exact ih1) h0 fun i hi=>by rw [List.getElem_of_eq e3];exact ih i hi
  rwa [e1] at this
 | field hd hk h _ ih =>
  obtain ⟨d',hd',e1,e2,e3⟩:=get _ hd
  have:=Mk.field hd' (by rw [e2];exact hk) (by rw [e3];exact h) (by rw [e1];exact ih)
  rwa [e1,List.getElem_of_eq e3] at this
 | @call env T k kids hd hk hv Ts hn h0 _ ih =>
  have hd' : k < c'.p.defs.length:=by rw [<-hl.len];exact hd
  have e:=cw (hl.get hd hd')
  have hv' : iK c' k:=by
   unfold iK bk modA at hv ⊢
   rw [List.getD_eq_getElem?_getD,List.getElem?_eq_getElem hd] at hv
   rw [List.getD_eq_getElem?_getD,List.getElem?_eq_getElem hd']
   rw [<-ho,<-hh,<-hm]
   have e3:=e.2.2.1
   simp only [Option.getD_some] at hv ⊢
   rw [<-e3]
   exact hv
  have:=Mk.call (c:=c') (env:=env) (kids:=kids) hd' (by rw [<-e.2.1];exact hk) hv' Ts (by rw [<-e.2.2.2.2.1];exact hn) h0 fun i hi=>by rw [List.getElem_of_eq e.2.2.2.2.1.symm];exact ih i hi
  rwa [<-e.1,<-e.2.2.2.2.2.1] at this
theorem D4 {c : MkC} {d : DefT} {s : MkS} (hb : Base c.p 5) (hn : Names c.p) {i : Nat} (hi : i < c.p.defs.length) (hd' : c.p.defs[i] = d) (ho : c.own = i) {P : Int} (hs : Us P s) (hP : P+2 * 9 ^ 9<=1000000000000) :
  Us (P+2 * 9 ^ 9) (iI c d s).2/\∃ T,s.temp<=T/\Mk c d.result (bF d) T (iI c d s).1 (iI c d s).2.temp:=by
 have hd : d∈c.p.defs:=by rw [<-hd'];exact List.getElem_mem hi
 have hg:=o6 (hb.gctx hn) 9
 have bd:=cq hb.gen.short 9
 have h0 : 0 < (bF d).length:=by rw [qk];exact hb.e0 d hd
 have he : ∀ b∈bF d,wfT c.p 5 b.ty/\gTy c.p b.ty:=fun b hb'=>by
  obtain ⟨x,hx,rfl⟩:=jx hb'
  exact ⟨hb.gen.slot d hd x hx,hn.gs d hd x hx⟩
 have h9 : (9 : Int) ^ 9 = 387420489:=Q1
 have w:=hb.resA d hd
 have m1:=hg d.result (bF d) 4 s h0 he (GY w) (hn.gr d hd)
 have u1:=AZ bd Q0 (t:=d.result) (env:=bF d) (d:=4) hs Q0
 unfold iI
 generalize ak c 9 d.result (bF d) 4 s = r at m1 u1 ⊢
 split
 ·have hlk : dm (c.with d r.1).p.defs c.p.defs:=by
   show dm (c.p.defs.set c.own.toNat (d.setBody r.1)) c.p.defs
   rw [ho,Int.toNat_natCast,<-hd']
   exact (dm.refl _).set hi r.1
  have hb2 : Base (c.with d r.1).p 5:=Base.like (ms:=c.p.mods) hb hlk
  have hn2 : Names (c.with d r.1).p:=Names.like (ms:=c.p.mods) (ns:=c.p.mods) hn hlk
  have u0 : Us (P+9 ^ 9) ⟨r.2.pos,r.2.temp,0,r.2.name⟩:=by unfold Us at u1 ⊢;dsimp only;omega
  have m2:=o6 (hb2.gctx hn2) 9 d.result (bF d) 0 ⟨r.2.pos,r.2.temp,0,r.2.name⟩ h0 (fun b hb'=>⟨hlk.wf (ms:=c.p.mods) (ns:=c.p.mods) _ _ (he b hb').1,o5 (ms:=c.p.mods) (ns:=c.p.mods) hlk (he b hb').2⟩) (GZ (hlk.wf (ms:=c.p.mods) (ns:=c.p.mods) _ _ w)) (o5 (ms:=c.p.mods) (ns:=c.p.mods) hlk (hn.gr d hd))
  have u2:=AZ (cq hb2.gen.short 9) Q0 (t:=d.result) (env:=bF d) (d:=0) u0 Q0
  exact ⟨by unfold Us at u2 ⊢;omega,r.2.temp,by have:=m1.lt;omega,m2.like hlk rfl rfl rfl⟩
 ·exact ⟨by unfold Us at u1 ⊢;omega,s.temp,Int.le_refl _,m1⟩
theorem o3 {α : Type} {l : List α} {k : Nat} {d : α} (h : k < l.length) : l.getD k d = l[k]:=by rw [List.getD_eq_getElem?_getD,List.getElem?_eq_getElem h];rfl
def Made (ms : List ModT) (l : List Int) (ds0 : List DefT) (k : Nat) (d : DefT) (e : Ex) (T T' : Int) : Prop :=
 ∃ c : MkC,c.p.mods = ms/\dm c.p.defs ds0/\c.l = l/\c.own = k/\c.home = d.mod/\0<=T/\Mk c d.result (bF d) T e T'
structure BPn (ms : List ModT) (l : List Int) (ds0 : List DefT) (i : Nat) (ds : List DefT) (s : MkS) : Prop where
 lk : dm ds ds0
 us : 0<=s.pos/\s.pos+(ds0.length - i : Nat) * (2 * 9 ^ 9)<=100000000000/\0<=s.temp/\s.temp+(ds0.length - i : Nat) * (2 * 9 ^ 9)<=100000000000
 made : ∀ k (hk : k < ds.length),k < i->¬ bare ds[k]->∃ T T',T'<=s.temp/\Made ms l ds0 k ds[k] ds[k].body T T'
theorem nO {ms : List ModT} {l : List Int} {ds0 : List DefT} (hb : Base ⟨ms,ds0⟩ 5) (hn : Names ⟨ms,ds0⟩) (hd8 : ds0.length<=8) : ∀ (m i : Nat) (ds : List DefT) (s : MkS),i+m = ds0.length->BPn ms l ds0 i ds s->BPn ms l ds0 ds0.length (bg ms l m i ds s).1 (bg ms l m i ds s).2
 | 0,i,ds,s,h,hp=>by
  rw [bg]
  rw [Nat.add_zero] at h
  rw [<-h]
  rw [h]
  rw [h] at hp
  exact hp
 | m+1,i,ds,s,h,hp=>by
  have hlen:=hp.lk.len
  have hi : i < ds.length:=Q0
  have h9 : (9 : Int) ^ 9 = 387420489:=Q1
  have em : ds0.length - i = m+1:=Q0
  have em' : ds0.length - (i+1) = m:=Q0
  have e1 : ((m+1 : Nat) : Int) * (2 * 9 ^ 9) = m * (2 * 9 ^ 9)+2 * 9 ^ 9:=by rw [Int.natCast_add,Int.add_mul];simp
  have hmn : (0 : Int)<=m * (2 * 9 ^ 9):=Int.mul_nonneg Q0 Q0
  have hus:=hp.us
  rw [em] at hus
  rw [bg,o3 hi]
  split
  ·rename_i hbr
   refine nO hb hn hd8 m (i+1) ds s Q0 ⟨hp.lk,by rw [em'];omega,fun k hk hlt hnb=>?_⟩
   by_cases e : k = i
   ·subst e;exact absurd hbr hnb
   ·exact hp.made k hk Q0 hnb
  ·rename_i hnb
   have hbd : Base ⟨ms,ds⟩ 5:=hb.like hp.lk
   have hnd : Names ⟨ms,ds⟩:=hn.like hp.lk
   have hu : Us (100000000000 - (m * (2 * 9 ^ 9)+2 * 9 ^ 9)) ⟨s.pos,s.temp,14,0⟩:=by
    have : (m : Int) * (2 * 9 ^ 9)<=8 * (2 * 9 ^ 9):=Int.mul_le_mul_of_nonneg_right Q0 Q0
    unfold Us;dsimp only;omega
   obtain ⟨hu2,T,hT,hmk⟩:=D4 (c:=⟨⟨ms,ds⟩,l,i,ds[i].mod⟩) hbd hnd hi rfl rfl hu Q0
   generalize iI ⟨⟨ms,ds⟩,l,i,ds[i].mod⟩ ds[i] ⟨s.pos,s.temp,14,0⟩ = r at hu2 hmk ⊢
   dsimp only at hT
   have hlt:=hmk.lt
   unfold Us at hu2
   refine nO hb hn hd8 m (i+1) _ _ Q0 ⟨hp.lk.set hi _,by rw [em'];omega,fun k hk hlt2 hnb'=>?_⟩
   by_cases e : k = i
   ·subst e
    simp only [List.getElem_set_self]
    exact ⟨T,r.2.temp,Int.le_refl _,_,rfl,hp.lk,rfl,rfl,rfl,Q0,hmk⟩
   ·have hk' : k < ds.length:=by simpa using hk
    have eg : (ds.set i (ds[i].setBody r.1))[k] = ds[k]:=by rw [List.getElem_set_ne Q0]
    rw [eg] at hnb' ⊢
    obtain ⟨T1,T2,h1,h2⟩:=hp.made k hk' Q0 hnb'
    exact ⟨T1,T2,Q0,h2⟩
def IU (ms : List ModT) (l : List Int) (ds0 : List DefT) (N : Nat) (nx0 : Int) (k : Nat) (d : DefT) : Prop :=
 ∃ (e : Ex) (T T' : Int) (ids : List IdT) (nx : Int),Made ms l ds0 k d e T T'/\T'<=N/\ids.length = N/\nx0<=nx/\nx<=100000000000000/\d.body = jJ (b8 ids e.post nx) e
structure RPn (ms : List ModT) (l : List Int) (ds0 : List DefT) (N : Nat) (nx0 : Int) (i : Nat) (ds : List DefT) (ids : List IdT) (nx : Int) : Prop where
 lk : dm ds ds0
 len : ids.length = N
 nx : nx0<=nx/\nx+(ds0.length - i : Nat) * 100000000000<=100000000000000
 old : ∀ k (hk : k < ds.length),i<=k->¬ bare ds[k]->∃ (T T' : Int),T'<=N/\Made ms l ds0 k ds[k] ds[k].body T T'
 done : ∀ k (hk : k < ds.length),k < i->¬ bare ds[k]->IU ms l ds0 N nx0 k ds[k]
theorem xD {ms : List ModT} {l : List Int} {ds0 : List DefT} {N : Nat} (hN : N<=100000000000) {nx0 : Int} : ∀ (m i : Nat) (ds : List DefT) (ids : List IdT) (nx : Int),i+m = ds0.length->RPn ms l ds0 N nx0 i ds ids nx->dm (fM m i ds ids nx) ds0/\∀ k (hk : k < (fM m i ds ids nx).length),¬ bare (fM m i ds ids nx)[k]->IU ms l ds0 N nx0 k (fM m i ds ids nx)[k]
 | 0,i,ds,ids,nx,h,hp=>by
  have hlen:=hp.lk.len
  have e : fM 0 i ds ids nx = ds:=by rw [fM]
  rw [e]
  exact ⟨hp.lk,fun k hk hnb=>hp.done k hk Q0 hnb⟩
 | m+1,i,ds,ids,nx,h,hp=>by
  have hlen:=hp.lk.len
  have hi : i < ds.length:=Q0
  have em : ds0.length - i = m+1:=Q0
  have em' : ds0.length - (i+1) = m:=Q0
  have hnx:=hp.nx
  rw [em] at hnx
  by_cases hbr : bare ds[i]
  ·have e : fM (m+1) i ds ids nx = fM m (i+1) ds ids nx:=by rw [fM,o3 hi,if_pos hbr]
   rw [e]
   refine xD hN m (i+1) ds ids nx Q0 ⟨hp.lk,hp.len,by rw [em'];omega,fun k hk hlt=>hp.old k hk Q0,fun k hk hlt hnb=>?_⟩
   by_cases e : k = i
   ·subst e;exact absurd hbr hnb
   ·exact hp.done k hk Q0 hnb
  ·have e : fM (m+1) i ds ids nx = fM m (i+1) (ds.set i (ds[i].setBody (jJ (b8 ids ds[i].body.post nx) ds[i].body))) (b8 ids ds[i].body.post nx) (nx+ds[i].body.post.length):=by rw [fM,o3 hi,if_neg hbr]
   rw [e]
   obtain ⟨T,T',hT',hmade⟩:=hp.old i hi (Nat.le_refl _) hbr
   have hsz : (ds[i].body.size : Int)<=100000000000:=by
    obtain ⟨c,_,_,_,_,_,h0,hmk⟩:=hmade
    have:=hmk.size
    omega
   have hpl:=Ex.oq ds[i].body
   refine xD hN m (i+1) _ _ _ Q0 ⟨hp.lk.set hi _,by rw [iw];exact hp.len,by rw [em'];omega,fun k hk hlt hnb=>?_,fun k hk hlt hnb=>?_⟩
   ·have hk' : k < ds.length:=by simpa using hk
    have eg : (ds.set i (ds[i].setBody (jJ (b8 ids ds[i].body.post nx) ds[i].body)))[k] = ds[k]:=by rw [List.getElem_set_ne Q0]
    rw [eg] at hnb ⊢
    exact hp.old k hk' Q0 hnb
   ·by_cases e : k = i
    ·subst e
     simp only [List.getElem_set_self]
     exact ⟨ds[k].body,T,T',ids,nx,hmade,hT',hp.len,Q0,Q0,rfl⟩
    ·have hk' : k < ds.length:=by simpa using hk
     have eg : (ds.set i (ds[i].setBody (jJ (b8 ids ds[i].body.post nx) ds[i].body)))[k] = ds[k]:=by rw [List.getElem_set_ne Q0]
     rw [eg] at hnb ⊢
     exact hp.done k hk' Q0 hnb
theorem zG (l : List Int) : 0<=gJ l/\gJ l<=100:=by
 have hn : 1<=aq l/\aq l<=2:=by rcases jq l with h | h <;> omega
 have hok:=kM (l:=l) hn.1
 have hlen:=dw l (aq l)
 have ht : cO (iO l)<=3 * (iO l).length:=by
  have key : ∀ ps : List PlanT,(∀ p∈ps,p.types.length<=3)->cO ps<=3 * ps.length:=fun ps=>by
   induction ps with
   | nil=>intro _;simp [cO]
   | cons p ps ih =>
    intro h
    have h1:=h p (List.mem_cons_self ..)
    have h2:=ih fun q hq=>h q (List.mem_cons_of_mem _ hq)
    rw [l7,List.length_cons]
    omega
  exact key _ fun p hp=>(hok p hp).t3
 unfold gJ iO at *
 omega
theorem nw (l : List Int) : ∃ N : Nat,N<=100000000000/\dm (fP l).defs (aL l)/\∀ k (hk : k < (fP l).defs.length),¬ bare (fP l).defs[k]->IU (cg l) l (aL l) N (gJ l) k (fP l).defs[k]:=by
 have hb:=IF l
 have hn:=xV l
 have hl8 : (aL l).length<=8:=by unfold aL;rw [bV];exact (dw l (aq l)).2
 have h9 : (9 : Int) ^ 9 = 387420489:=Q1
 have hB:=nO (l:=l) hb hn hl8 (aL l).length 0 (aL l) ⟨24,0,0,0⟩ Q0 ⟨dm.refl _,by dsimp only;omega,fun k _ h=>absurd h (Nat.not_lt_zero _)⟩
 obtain ⟨hlk,hus,hmk⟩:=hB
 have hnx:=zG l
 have hmm : (0 : Int)<=((aL l).length - (aL l).length : Nat) * (2 * 9 ^ 9):=Int.mul_nonneg Q0 Q0
 have hlen : (iD l).1.length = (aL l).length:=hlk.len
 refine ⟨(iD l).2.temp.toNat,by unfold iD;omega,?_⟩
 have ht : ((iD l).2.temp.toNat : Int) = (iD l).2.temp:=by unfold iD;omega
 have hR:=xD (ms:=cg l) (l:=l) (ds0:=aL l) (N:=(iD l).2.temp.toNat) (by unfold iD;omega) (nx0:=gJ l) (aL l).length 0 (iD l).1 (List.replicate (iD l).2.temp.toNat id0) (gJ l) Q0
  ⟨hlk,Q2,Q0,fun k hk _ hnb=>by
   obtain ⟨T,T',h1,h2⟩:=hmk k hk (by rw [<-hlen];exact hk) hnb
   exact ⟨T,T',by rw [ht];exact h1,h2⟩,fun k _ h=>absurd h (Nat.not_lt_zero _)⟩
 exact hR
mutual
def fK (q : IdT->Prop) : Ex->Prop
 | .mk _ k _ r _ l _=>(k = 3->q r)/\dD q l
def dD (q : IdT->Prop) : List Ex->Prop
 | []=>True
 | e::es=>fK q e/\dD q es
end
theorem qR (q : IdT->Prop) : ∀ l : List Ex,dD q l↔∀ e∈l,fK q e
 | []=>by rw [dD];simp
 | e::es=>by rw [dD,qR q es];simp
theorem qS {q q' : IdT->Prop} (h : ∀ r,q r->q' r) : ∀ e : Ex,fK q e->fK q' e
 | .mk i k n r t l s,hc=>by
  rw [fK] at hc ⊢
  exact ⟨fun hk=>h _ (hc.1 hk),go l hc.2⟩
 where go : ∀ l : List Ex,dD q l->dD q' l
 | [],_=>by rw [dD];trivial
 | e::es,hc=>by
  rw [dD] at hc ⊢
  exact ⟨qS h e hc.1,go es hc.2⟩
theorem uC {q : IdT->Prop} (ids : List IdT) : ∀ e : Ex,fK q e->fK q (jJ ids e)
 | .mk i k n r t l s,hc=>by
  rw [fK] at hc
  rw [jJ,fK]
  refine ⟨fun hk=>?_,go l hc.2⟩
  unfold qy
  rw [if_neg Q0]
  exact hc.1 hk
 where go : ∀ l : List Ex,dD q l->dD q (og ids l)
 | [],_=>by rw [og,dD];trivial
 | e::es,hc=>by
  rw [dD] at hc
  rw [og,dD]
  exact ⟨uC ids e hc.1,go es hc.2⟩
theorem aZ {q : IdT->Prop} {k n : Int} {l : List Ex} {T : IdT} {r : IdT} {u : Ty} {ns : List ByteArray} (hk : k = 3->q r) (hl : ∀ e∈l,fK q e) : fK q (.mk T k n r u l ns):=by
 rw [fK]
 exact ⟨hk,(qR q l).2 hl⟩
def IQ (ds : List DefT) (j : Int) (r : IdT) : Prop:=∃ k,∃ h : k < ds.length,(k : Int) < j/\ds[k].id = r/\ds[k].kind = 2
theorem Mk.calls {c : MkC} {t : Ty} {env : List Bnd} {T T' : Int} {e : Ex} (h : Mk c t env T e T') : fK (IQ c.p.defs c.own) e:=by
 induction h with
 | int _=>exact aZ (k:=0) (l:=[]) (fun h=>absurd h Q1) (fun _ h=>by cases h)
 | bool _=>exact aZ (k:=1) (l:=[]) (fun h=>absurd h Q1) (fun _ h=>by cases h)
 | var _=>exact aZ (k:=2) (l:=[]) (fun h=>absurd h Q1) (fun _ h=>by cases h)
 | @list env T kids Ts _ h0 _ ih =>
  refine aZ (k:=11) (l:=kids) (fun h=>absurd h Q1) fun x hx=>?_
  obtain ⟨i,hi,rfl⟩:=List.mem_iff_getElem.1 hx
  exact ih i hi
 | @kase env T T1 d k e _ _ _ hm ih =>
  refine aZ (k:=9) (l:=[e]) (fun h=>absurd h Q1) fun x hx=>?_
  rw [List.mem_singleton.1 hx];exact ih
 | @recd env T d kids _ _ Ts _ h0 hm ih =>
  refine aZ (k:=7) (l:=kids) (fun h=>absurd h Q1) fun x hx=>?_
  obtain ⟨i,hi,rfl⟩:=List.mem_iff_getElem.1 hx
  exact ih i hi
 | @len env T T1 a hm ih =>
  refine aZ (k:=4) (l:=[a]) (fun h=>absurd h Q1) fun x hx=>?_
  rw [List.mem_singleton.1 hx];exact ih
 | @not env T T1 a hm ih =>
  refine aZ (k:=4) (l:=[a]) (fun h=>absurd h Q1) fun x hx=>?_
  rw [List.mem_singleton.1 hx];exact ih
 | @both t u env T T1 T2 n a b _ ha hb ih1 ih2 =>
  refine aZ (k:=4) (l:=[a,b]) (fun h=>absurd h Q1) fun x hx=>?_
  simp only [List.mem_cons,List.not_mem_nil,or_false] at hx
  rcases hx with rfl | rfl
  ·exact ih1
  ·exact ih2
 | @ife t env T T1 T2 T3 a b e ha hb he ih1 ih2 ih3 =>
  refine aZ (k:=5) (l:=[a,b,e]) (fun h=>absurd h Q1) fun x hx=>?_
  simp only [List.mem_cons,List.not_mem_nil,or_false] at hx
  rcases hx with rfl | rfl | rfl
  ·exact ih1
  ·exact ih2
  ·exact ih3
 | @lete t u env T T1 T2 a b m ha hb ih1 ih2 =>
  refine aZ (k:=6) (l:=[a,b]) (fun h=>absurd h Q1) fun x hx=>?_
  simp only [List.mem_cons,List.not_mem_nil,or_false] at hx
  rcases hx with rfl | rfl
  ·exact ih1
  ·exact ih2
 | @fold t env T T1 T2 T3 a b e m m2 ha hb he ih1 ih2 ih3 =>
  refine aZ (k:=12) (l:=[a,b,e]) (fun h=>absurd h Q1) fun x hx=>?_
  simp only [List.mem_cons,List.not_mem_nil,or_false] at hx
  rcases hx with rfl | rfl | rfl
  ·exact ih1
  ·exact ih2
  ·exact ih3
 | @mat t env T T1 d a kids ms _ _ Ts _ _ ha h0 hm ih1 ih =>
  refine aZ (k:=10) (l:=a::kids) (fun h=>absurd h Q1) fun x hx=>?_
  rcases List.mem_cons.1 hx with rfl | hx
  ·exact ih1
  ·obtain ⟨i,hi,rfl⟩:=List.mem_iff_getElem.1 hx
   exact ih i hi
 | @field env T T1 d j a _ _ _ hm ih =>
  refine aZ (k:=8) (l:=[a]) (fun h=>absurd h Q1) fun x hx=>?_
  rw [List.mem_singleton.1 hx];exact ih
 | @call env T k kids hd hk hv Ts _ h0 hm ih =>
  refine aZ (k:=3) (l:=kids) (fun _=>⟨k,hd,hv.1,rfl,hk⟩) fun x hx=>?_
  obtain ⟨i,hi,rfl⟩:=List.mem_iff_getElem.1 hx
  exact ih i hi
theorem IQ.like {a b : List DefT} (h : dm a b) {j : Int} {r : IdT} (hp : IQ a j r) : IQ b j r:=by
 obtain ⟨k,hk,h1,h2,h3⟩:=hp
 have hk' : k < b.length:=by rw [<-h.len];exact hk
 have hs:=cw (h.get hk hk')
 exact ⟨k,hk',h1,by rw [<-hs.1];exact h2,by rw [<-hs.2.1];exact h3⟩
theorem vD (ids : List IdT) : ∀ e : Ex,(jJ ids e).size = e.size
 | .mk i k n r t l s=>by rw [jJ,Ex.size,Ex.size,go l]
 where go : ∀ l : List Ex,Ex.sizes (og ids l) = Ex.sizes l
 | []=>by rw [og]
 | e::es=>by rw [og,Ex.sizes,Ex.sizes,vD ids e,go es]
structure CallsP (p : ProgT) : Prop where
 nm : Names p
 len : p.defs.length<=8
 calls : ∀ k (hk : k < p.defs.length),¬ bare p.defs[k]->fK (IQ p.defs k) p.defs[k].body/\p.defs[k].body.size<=100000000000
theorem Bp (l : List Int) : CallsP (fP l):=by
 obtain ⟨N,hN,hlk,h⟩:=nw l
 have hlen : (aL l).length<=8:=by unfold aL;rw [bV];exact (dw l (aq l)).2
 refine ⟨(xV l).like hlk,by rw [hlk.len];exact hlen,fun k hk hnb=>?_⟩
 obtain ⟨e,T,T',ids,nx,⟨c,_,hcl,_,hco,_,h0,hmk⟩,hT',_,_,_,hbody⟩:=h k hk hnb
 rw [hbody,vD]
 have hc:=hmk.calls
 rw [hco] at hc
 exact ⟨qS (fun r hr=>(hr.like hcl).like hlk.symm) _ (uC _ _ hc),by have:=hmk.size;omega⟩
def BndOk (z : Int) : Prop:=z = -1\/0<=z/\z<=1099511627776
section
variable {M : IdT->Int} (hM : ∀ r,BndOk (M r))
end
def isT (p : ProgT) (i : IdT) : Prop:=rM p i
def sg (ids : List IdT) (i : IdT) : IdT:=if i.seq = 0 then tV ids i.index else i
variable {ids : List IdT} {S : List Int} {Q : IdT->Prop} {env : List Bnd} {T T1 : Int}
end Xe

namespace Xe
open Go
theorem EK (ps : List PlanT) {j : Nat} (hj : j < ps.length) : cO (ps.take j)+ps[j].types.length<=cO ps:=by
 have e : ps = ps.take j++(ps[j]::ps.drop (j+1)):=by rw [<-List.drop_eq_getElem_cons hj,List.take_append_drop]
 have:=congrArg cO e
 rw [qz,l7] at this
 omega
theorem EN (q : PlanT) (nx : Int) (k : Nat) (hk : k < (cM q nx).length) : (cM q nx)[k].id = idK (nx+k):=by
 simp [cM]
theorem En (l : List Int) : ∀ d∈aL l,∃ m : Int,0<=m/\m+d.slots.length<=gJ l/\∀ j (h : j < d.slots.length),d.slots[j].id = idK (m+j):=by
 intro d hd
 have hn : 1<=aq l:=by rcases jq l with h | h <;> omega
 obtain ⟨j,hj,rfl⟩:=List.mem_iff_getElem.1 hd
 unfold aL at hj ⊢
 rw [bV] at hj
 rw [cN _ _ _ hj]
 refine ⟨aq l+(iO l).length+cO ((iO l).take j),Q0,?_,fun k hk=>?_⟩
 ·have:=EK (iO l) hj
  show _+((cM _ _).length : Int)<=_
  rw [bE]
  unfold gJ
  omega
 ·exact EN _ _ _ hk
theorem few0 (l : List Int) : ∀ d∈aL l,(d.slots.length : Int)<=100:=fun d hd=>by
 obtain ⟨m,h0,h1,_⟩:=En l d hd
 have:=zG l
 omega
theorem bare_sh {a b : DefT} (h : a.kind = b.kind) : bare a↔bare b:=by unfold bare;rw [h]
def ltI (a b : IdT) : Bool:=decide (a.shop < b.shop\/a.shop = b.shop/\(a.seq < b.seq\/a.seq = b.seq/\a.index < b.index))
theorem iQ {a b : IdT} : ltI a b = true↔(a.shop < b.shop\/a.shop = b.shop/\(a.seq < b.seq\/a.seq = b.seq/\a.index < b.index)):=decide_eq_true_iff
theorem oO (a : IdT) : ltI a a = false:=by
 cases h : ltI a a with
 | false=>rfl
 | true=>rw [iQ] at h;omega
theorem qc {a b c : IdT} (h : ltI a b = true) (k : ltI b c = true) : ltI a c = true:=by rw [iQ] at *;omega
theorem zN {a b : IdT} (h : ltI a b = true) : ltI b a = false:=by
 cases k : ltI b a with
 | false=>rfl
 | true=>rw [iQ] at *;omega
theorem BL {a b : IdT} (h : ltI a b = false) (k : ltI b a = false) : a = b:=by
 have h1 : ¬ (a.shop < b.shop\/a.shop = b.shop/\(a.seq < b.seq\/a.seq = b.seq/\a.index < b.index)):=fun e=>by rw [<-iQ,h] at e;cases e
 have h2 : ¬ (b.shop < a.shop\/b.shop = a.shop/\(b.seq < a.seq\/b.seq = a.seq/\b.index < a.index)):=fun e=>by rw [<-iQ,k] at e;cases e
 exact IdT.ext' Q0 Q0 Q0
theorem xX {a b : IdT} (h : ltI a b = true) : a ≠ b:=fun e=>by rw [e,oO] at h;cases h
theorem xW {a b c : IdT} (h : ltI a b = false) (k : ltI b c = false) : ltI a c = false:=by
 cases e : ltI a c with
 | false=>rfl
 | true =>
  have h1 : ¬ (a.shop < b.shop\/a.shop = b.shop/\(a.seq < b.seq\/a.seq = b.seq/\a.index < b.index)):=fun e=>by rw [<-iQ,h] at e;cases e
  have h2 : ¬ (b.shop < c.shop\/b.shop = c.shop/\(b.seq < c.seq\/b.seq = c.seq/\b.index < c.index)):=fun e=>by rw [<-iQ,k] at e;cases e
  rw [iQ] at e
  omega
def j8 (l : List IdT) : Prop:=l.Pairwise fun a b=>ltI a b = true
theorem BW : ∀ {a b : List IdT},j8 a->j8 b->(∀ x,x∈a↔x∈b)->a = b
 | [],[],_,_,_=>rfl
 | [],y::b,_,_,h=>by have:=(h y).2 (List.mem_cons_self ..);cases this
 | x::a,[],_,_,h=>by have:=(h x).1 (List.mem_cons_self ..);cases this
 | x::a,y::b,ha,hb,h=>by
  have a1:=List.pairwise_cons.1 ha
  have b1:=List.pairwise_cons.1 hb
  have e : x = y:=by
   rcases List.mem_cons.1 ((h x).1 (List.mem_cons_self ..)) with e | e
   ·exact e
   ·rcases List.mem_cons.1 ((h y).2 (List.mem_cons_self ..)) with e2 | e2
    ·exact e2.symm
    ·have h1:=b1.1 x e
     have h2:=a1.1 y e2
     rw [zN h1] at h2;cases h2
  subst e
  refine congrArg (x::·) (BW a1.2 b1.2 fun z=>⟨fun hz=>?_,fun hz=>?_⟩)
  ·rcases List.mem_cons.1 ((h z).1 (List.mem_cons_of_mem _ hz)) with e | e
   ·have:=a1.1 z hz;rw [e,oO] at this;cases this
   ·exact e
  ·rcases List.mem_cons.1 ((h z).2 (List.mem_cons_of_mem _ hz)) with e | e
   ·have:=b1.1 z hz;rw [e,oO] at this;cases this
   ·exact e
def stI (x : IdT) (s : List IdT×Bool) (y : IdT) : List IdT×Bool :=
 let o:=if s.2 = false/\ltI y x = false then (s.1++[x],true) else s
 (if y = x then o.1 else o.1++[y],o.2)
def x5 (l : List IdT) (x : IdT) : List IdT:=let s:=l.foldl (stI x) ([],false);if s.2 = false then s.1++[x] else s.1
theorem sB {x : IdT} : ∀ {l : List IdT} {o : List IdT},(∀ y∈l,ltI x y = true)->l.foldl (stI x) (o,true) = (o++l,true)
 | [],o,_=>by simp
 | y::l,o,h=>by
  have h1:=h y (List.mem_cons_self ..)
  have h2 : ¬ y = x:=fun e=>by rw [e,oO] at h1;cases h1
  rw [List.foldl_cons]
  have e : stI x (o,true) y = (o++[y],true):=by simp [stI,h2]
  rw [e,sB fun z hz=>h z (List.mem_cons_of_mem _ hz)]
  simp
theorem Dw {x : IdT} : ∀ {l : List IdT} {o : List IdT},j8 l->(∀ a∈o,ltI a x = true/\∀ b∈l,ltI a b = true)->j8 o ->
  j8 (let s:=l.foldl (stI x) (o,false);if s.2 = false then s.1++[x] else s.1)/\∀ z,z∈(let s:=l.foldl (stI x) (o,false);if s.2 = false then s.1++[x] else s.1)↔(z∈o\/z = x\/z∈l)
 | [],o,_,ho,hi=>by
  refine ⟨?_,fun z=>by simp⟩
  simp only [List.foldl_nil,if_true]
  exact List.pairwise_append.2 ⟨hi,List.pairwise_singleton ..,fun a ha b hb=>by rw [List.mem_singleton.1 hb];exact (ho a ha).1⟩
 | y::l,o,hl,ho,hi=>by
  have l1:=List.pairwise_cons.1 hl
  rw [List.foldl_cons]
  cases hyx : ltI y x with
  | true =>
   have hne:=xX hyx
   have e : stI x (o,false) y = (o++[y],false):=by simp [stI,hyx,hne]
   rw [e]
   obtain ⟨h1,h2⟩:=Dw (x:=x) (l:=l) (o:=o++[y]) l1.2 (fun a ha=>by
    rcases List.mem_append.1 ha with ha | ha
    ·exact ⟨(ho a ha).1,fun b hb=>(ho a ha).2 b (List.mem_cons_of_mem _ hb)⟩
    ·rw [List.mem_singleton.1 ha];exact ⟨hyx,l1.1⟩) (List.pairwise_append.2 ⟨hi,List.pairwise_singleton ..,fun a ha b hb=>by rw [List.mem_singleton.1 hb];exact (ho a ha).2 y (List.mem_cons_self ..)⟩)
   refine ⟨h1,fun z=>(h2 z).trans ?_⟩
   simp only [List.mem_append,List.mem_cons,List.not_mem_nil,or_false]
   constructor
   ·rintro ((h | h) | h | h) <;> simp [h]
   ·rintro (h | h | h | h) <;> simp [h]
  | false =>
   have hxo : j8 (o++[x]):=List.pairwise_append.2 ⟨hi,List.pairwise_singleton ..,fun a ha b hb=>by rw [List.mem_singleton.1 hb];exact (ho a ha).1⟩
   by_cases hne : y = x
   ·subst hne
    have e : stI y (o,false) y = (o++[y],true):=by simp [stI,hyx]
    rw [e,sB l1.1]
    simp only [Bool.true_eq_false,if_false]
    refine ⟨List.pairwise_append.2 ⟨hxo,l1.2,fun a ha b hb=>?_⟩,fun z=>?_⟩
    ·rcases List.mem_append.1 ha with ha | ha
     ·exact (ho a ha).2 b (List.mem_cons_of_mem _ hb)
     ·rw [List.mem_singleton.1 ha];exact l1.1 b hb
    ·simp only [List.mem_append,List.mem_cons,List.not_mem_nil,or_false]
     constructor
     ·rintro ((h | h) | h) <;> simp [h]
     ·rintro (h | h | h | h) <;> simp [h]
   ·have hxy : ltI x y = true:=by
     cases h : ltI x y with
     | true=>rfl
     | false=>exact absurd (BL hyx h) hne
    have e : stI x (o,false) y = (o++[x]++[y],true):=by simp [stI,hyx,hne]
    rw [e,sB fun z hz=>qc hxy (l1.1 z hz)]
    simp only [Bool.true_eq_false,if_false]
    refine ⟨List.pairwise_append.2 ⟨List.pairwise_append.2 ⟨hxo,List.pairwise_singleton ..,fun a ha b hb=>?_⟩,l1.2,fun a ha b hb=>?_⟩,fun z=>?_⟩
    ·rw [List.mem_singleton.1 hb]
     rcases List.mem_append.1 ha with ha | ha
     ·exact (ho a ha).2 y (List.mem_cons_self ..)
     ·rw [List.mem_singleton.1 ha];exact hxy
    ·rcases List.mem_append.1 ha with ha | ha
     ·rcases List.mem_append.1 ha with ha | ha
      ·exact (ho a ha).2 b (List.mem_cons_of_mem _ hb)
      ·rw [List.mem_singleton.1 ha];exact qc hxy (l1.1 b hb)
     ·rw [List.mem_singleton.1 ha];exact l1.1 b hb
    ·simp only [List.mem_append,List.mem_cons,List.not_mem_nil,or_false]
     constructor
     ·rintro (((h | h) | h) | h) <;> simp [h]
     ·rintro (h | h | h | h) <;> simp [h]
theorem insR_ok {l : List IdT} {x : IdT} (h : j8 l) : j8 (x5 l x)/\∀ z,z∈x5 l x↔(z = x\/z∈l):=by
 have:=Dw (x:=x) (l:=l) (o:=[]) h (fun _ h=>by cases h) List.Pairwise.nil
 refine ⟨this.1,fun z=>(this.2 z).trans ?_⟩
 simp
def aW (l : List IdT) (xs : List IdT) : List IdT:=xs.foldl x5 l
theorem jX : ∀ {xs l : List IdT},j8 l->j8 (aW l xs)/\∀ z,z∈aW l xs↔(z∈xs\/z∈l)
 | [],l,h=>⟨h,fun z=>by simp [aW]⟩
 | x::xs,l,h=>by
  obtain ⟨h1,h2⟩:=insR_ok (x:=x) h
  obtain ⟨h3,h4⟩:=jX (xs:=xs) h1
  refine ⟨h3,fun z=>(h4 z).trans ?_⟩
  rw [h2]
  simp only [List.mem_cons]
  constructor
  ·rintro (h | h | h) <;> simp [h]
  ·rintro ((h | h) | h) <;> simp [h]
def cQ (l : List IdT) : List IdT:=l.mergeSort fun x y=>!ltI y x
def fh : List IdT->List IdT
 | []=>[]
 | [x]=>[x]
 | x::y::l=>if x = y then fh (y::l) else x::fh (y::l)
theorem sE (l : List IdT) : (cQ l).Pairwise (fun a b=>ltI b a = false)/\(cQ l).Perm l:=by
 refine ⟨?_,List.mergeSort_perm l _⟩
 have:=List.pairwise_mergeSort (le:=fun x y=>!ltI y x) (fun a b c h k=>by
  simp only [Bool.not_eq_true'] at *
  exact xW k h) (fun a b=>by
  cases h : ltI b a with
  | false=>simp
  | true=>simp [zN h]) l
 exact this.imp fun h=>by simpa using h
theorem yh : ∀ {l : List IdT},l.Pairwise (fun a b=>ltI b a = false)->j8 (fh l)/\∀ z,z∈fh l↔z∈l
 | [],_=>⟨List.Pairwise.nil,fun _=>Iff.rfl⟩
 | [x],_=>⟨List.pairwise_singleton ..,fun _=>Iff.rfl⟩
 | x::y::l,h=>by
  have h1:=List.pairwise_cons.1 h
  obtain ⟨h2,h3⟩:=yh (l:=y::l) h1.2
  unfold fh
  by_cases e : x = y
  ·rw [if_pos e]
   refine ⟨h2,fun z=>(h3 z).trans ?_⟩
   simp [e]
  ·rw [if_neg e]
   refine ⟨List.pairwise_cons.2 ⟨fun z hz=>?_,h2⟩,fun z=>?_⟩
   ·have hz:=(h3 z).1 hz
    have hxy : ltI x y = true:=by
     cases k : ltI x y with
     | true=>rfl
     | false=>exact absurd (BL k (h1.1 y (List.mem_cons_self ..))) e
    rcases List.mem_cons.1 hz with rfl | hz
    ·exact hxy
    ·cases k : ltI x z with
     | true=>rfl
     | false =>
      have h4:=(List.pairwise_cons.1 h1.2).1 z hz
      have : ltI x y = false:=xW k h4
      rw [this] at hxy;cases hxy
   ·rw [List.mem_cons,h3]
    simp
theorem Em {l m : List IdT} (h : ∀ z,z∈l↔z∈m) : fh (cQ l) = aW [] m:=by
 obtain ⟨h1,h2⟩:=sE l
 obtain ⟨h3,h4⟩:=yh h1
 obtain ⟨h5,h6⟩:=jX (xs:=m) (l:=[]) List.Pairwise.nil
 refine BW h3 h5 fun z=>?_
 rw [h4,h6,h2.mem_iff,h]
 simp
theorem BV {l : List IdT} (f : IdT->Bool) (h : j8 l) : j8 (l.filter f):=List.Pairwise.filter f h
end Xe

namespace Go.Proofs.YtmbboaapillefaaGreatDoor
open Xe Pm
abbrev dI (l : List IdT) : D:=.sl l.length 3 (l.flatMap IdT.enc)
theorem mP {l : List IdT} {k : Nat} (hk : k < l.length) {x : IdT} (h : x ∉ l.take k) (hx : l[k] ≠ x) : x ∉ l.take (k+1):=by
 rw [List.take_succ_eq_append_getElem hk,List.mem_append,List.mem_singleton]
 rintro (h1 | h1)
 ·exact h h1
 ·exact hx h1.symm
theorem gd (l : List IdT) (x : IdT) : D.sl (l.length+1) 3 (l.flatMap IdT.enc++(x.enc++[])) = dI (l++[x]):=by
 unfold dI
 simp
theorem has_is (l : List IdT) (x : IdT) (hl : l.length<=1000000000000) : IS s20 [[dI l],x.enc] [[vB (decide (x∈l))]]:=by
 refine w20.is ?_
 unfold g20 dI
 simp only [pmr]
 refine bl l.length (fun k=>[[.sl l.length 3 (l.flatMap IdT.enc)],[vI (k : Int)],x.enc]) (fun k=>x ∉ l.take k) Q2 rfl fun k next hi hI hn=>?_
 simp only [pmr,pms]
 refine ⟨fun h=>?_,fun h=>?_⟩
 ·have hk : k < l.length:=Q0
  rw [dB _ hk]
  simp only [pmr,pms]
  refine ⟨Q0,fun e=>?_,fun e=>⟨Q4,hn hk (mP hk hI e)⟩⟩
  rw [decide_eq_true (by rw [<-e];exact List.getElem_mem hk)]
 ·obtain rfl : k = l.length:=Q0
  rw [List.take_length] at hI
  rw [decide_eq_false hI]
theorem Fi (l m : List IdT) (hl : l.length<=1000000000000) (hm : m.length<=1000000000000) : IS s71 [[dI l],[dI m]] [[vB (decide (∀ x∈l,x∈m))]]:=by
 refine w71.is ?_
 unfold g71 dI
 simp only [pmr]
 refine bl l.length (fun k=>[[.sl l.length 3 (l.flatMap IdT.enc)],[.sl m.length 3 (m.flatMap IdT.enc)],[vI (k : Int)]]) (fun k=>∀ x∈l.take k,x∈m) Q2 rfl fun k next hi hI hn=>?_
 simp only [pmr]
 refine ⟨fun h=>?_,fun h=>?_⟩
 ·have hk : k < l.length:=Q0
  rw [dB _ hk]
  refine ⟨Q0,ai (has_is m _ hm) ?_⟩
  simp only [pmr,pms]
  refine ⟨fun e=>⟨Q4,hn hk fun x hx=>?_⟩,fun e=>?_⟩
  ·rw [List.take_succ_eq_append_getElem hk,List.mem_append,List.mem_singleton] at hx
   rcases hx with hx | hx
   ·exact hI x hx
   ·rw [hx];exact e
  ·rw [decide_eq_false (fun h=>e (h _ (List.getElem_mem hk)))]
 ·obtain rfl : k = l.length:=Q0
  rw [List.take_length] at hI
  rw [decide_eq_true hI]
theorem AW (l : List IdT) (x : IdT) (hl : l.length<=1000000000000) : IS s72 [[dI l],x.enc] [[dI (l.filter (fun y=>!decide (y = x)))]]:=by
 refine w72.is ?_
 unfold g72
 simp only [pmr]
 refine bl l.length (fun k=>[[dI l],[vI (k : Int)],x.enc,[dI ((l.take k).filter (fun y=>!decide (y = x)))]]) (fun _=>True) trivial rfl fun k next hi _ hn=>?_
 have hlen : ((l.take k).filter (fun y=>!decide (y = x))).length<=k:=by
  have:=List.length_filter_le (fun y=>!decide (y = x)) (l.take k)
  rw [List.length_take] at this
  omega
 simp only [pmr]
 refine ⟨fun h=>?_,fun h=>?_⟩
 ·have hk : k < l.length:=Q0
  refine dA ?_
  have hn':=hn hk trivial
  rw [List.take_succ_eq_append_getElem hk,List.filter_append] at hn'
  rw [dB _ hk]
  simp only [pmr,pms]
  refine ⟨Q0,fun e=>⟨Q4,?_⟩,fun e=>⟨Q0,Qa,Q4,?_⟩⟩
  ·have : [l[k]].filter (fun y=>!decide (y = x)) = []:=by simp [e]
   rw [this,List.append_nil] at hn'
   exact hn'
  ·have : [l[k]].filter (fun y=>!decide (y = x)) = [l[k]]:=by simp [e]
   rw [this] at hn'
   rw [gd]
   exact hn'
 ·obtain rfl : k = l.length:=Q0
  rw [List.take_length]
theorem less_is (a b : IdT) : IS s161 [a.enc,b.enc] [[vB (ltI a b)]]:=by
 refine w161.is ?_
 unfold g161
 simp only [pmr,pms]
 have key : ∀ (q : Prop) [Decidable q],(q↔(a.shop < b.shop\/a.shop = b.shop/\(a.seq < b.seq\/a.seq = b.seq/\a.index < b.index)))->[[vB (decide q)]] = [[vB (ltI a b)]]:=fun q _ h=>by
  unfold ltI
  rw [decide_eq_decide.2 h]
 refine ⟨fun h1=>⟨fun h2=>key _ ?_,fun h2=>key _ ?_⟩,fun h1=>key _ ?_⟩ <;> omega
theorem qf (l : List IdT) (x : IdT) (hl : l.length<=2000000000000) : IS s70 [[dI l],x.enc] [[dI (x5 l x)]]:=by
 refine w70.is ?_
 unfold g70
 simp only [pmr]
 refine dA ?_
 refine bl l.length (fun k=>let s:=(l.take k).foldl (stI x) ([],false);[[dI l],[vB s.2],[vI (k : Int)],x.enc,[dI s.1]]) (fun _=>True) trivial rfl fun k next hi _ hn=>?_
 have hlen : ((l.take k).foldl (stI x) ([],false)).1.length<=2 * k:=by
  have : ∀ (l : List IdT) (s : List IdT×Bool),(l.foldl (stI x) s).1.length<=s.1.length+2 * l.length:=by
   intro l
   induction l with
   | nil=>intro s;simp
   | cons y l ih =>
    intro s
    rw [List.foldl_cons]
    have h1:=ih (stI x s y)
    have h2 : (stI x s y).1.length<=s.1.length+2:=by
     unfold stI
     dsimp only
     split <;> split <;> simp
    simp only [List.length_cons]
    omega
  have:=this (l.take k) ([],false)
  simp only [List.length_nil,List.length_take] at this
  omega
 have hn' : ∀ hk : k < l.length,next (let s:=stI x ((l.take k).foldl (stI x) ([],false)) l[k];[[dI l],[vB s.2],[vI ((k : Int)+1)],x.enc,[dI s.1]]):=fun hk=>by
  have:=hn hk trivial
  dsimp only at this
  rw [List.take_succ_eq_append_getElem hk,List.foldl_append] at this
  exact this
 have hfin : k = l.length->x5 l x = let s:=(l.take k).foldl (stI x) ([],false);if s.2 = false then s.1++[x] else s.1:=fun e=>by
  rw [e,List.take_length];rfl
 generalize (l.take k).foldl (stI x) ([],false) = s at hlen hn' hfin
 obtain ⟨o,b⟩:=s
 dsimp only at hlen hn' hfin ⊢
 simp only [pmr]
 refine ⟨fun h=>?_,fun h=>?_⟩
 ·have hk : k < l.length:=Q0
  have hn':=hn' hk
  refine dA (dA ?_)
  have two : ∀ (o1 : List IdT) (b1 : Bool),o1.length<=2 * k+1->next [[dI l],[vB b1],[vI ((k : Int)+1)],x.enc,[dI (if l[k] = x then o1 else o1++[l[k]])]] ->
    (0<=(k : Int)/\(k : Int) < (l.length : Int))/\((l[k] = x->okI ((k : Int)+1)/\next [[dI l],[vB b1],[vI ((k : Int)+1)],x.enc,[dI o1]]) /\
     (¬ l[k] = x->(0<=(k : Int)/\(k : Int) < (l.length : Int))/\room (o1.length+1) 25/\okI ((k : Int)+1)/\next [[dI l],[vB b1],[vI ((k : Int)+1)],x.enc,[D.sl (o1.length+1) 3 (o1.flatMap IdT.enc++(l[k].enc++[]))]])):=fun o1 b1 h1 h2=>by
   refine ⟨Q0,fun e=>⟨Q4,?_⟩,fun e=>⟨Q0,Qa,Q4,?_⟩⟩
   ·rw [if_pos e] at h2;exact h2
   ·rw [if_neg e] at h2;rw [gd];exact h2
  cases b with
  | true =>
   have e1 : stI x (o,true) l[k] = (if l[k] = x then o else o++[l[k]],true):=by simp [stI]
   rw [e1] at hn'
   simp only [pmr,pms,Bool.not_true,dB _ hk]
   exact two o true Q0 hn'
  | false =>
   simp only [pmr,pms,Bool.not_false,dB _ hk]
   refine ⟨Q0,ai (less_is _ _) ?_⟩
   simp only [pmr]
   cases hb : ltI l[k] x with
   | true =>
    have e1 : stI x (o,false) l[k] = (if l[k] = x then o else o++[l[k]],false):=by simp [stI,hb]
    rw [e1] at hn'
    simp only [pmr,Bool.not_true]
    exact two o false Q0 hn'
   | false =>
    have e1 : stI x (o,false) l[k] = (if l[k] = x then o++[x] else o++[x]++[l[k]],true):=by simp [stI,hb]
    rw [e1] at hn'
    simp only [pmr,Bool.not_false]
    refine ⟨Qa,?_⟩
    have:=two (o++[x]) true Qc hn'
    rw [<-gd] at this
    simpa only [List.length_append,List.length_singleton,List.flatMap_append,List.flatMap_cons,List.flatMap_nil] using this
 ·obtain rfl : k = l.length:=Q0
  rw [hfin rfl]
  cases b with
  | true=>simp only [pmr,Bool.not_true,Bool.true_eq_false,if_false]
  | false =>
   simp only [pmr,Bool.not_false,if_true]
   rw [gd]
   exact ⟨Qa,rfl⟩
end Go.Proofs.YtmbboaapillefaaGreatDoor

namespace Xe
open Go
theorem stI_cb (x : IdT) (s : List IdT×Bool) (y : IdT) : (stI x s y).1.length+(if (stI x s y).2 = false then 1 else 0)<=s.1.length+(if s.2 = false then 1 else 0)+1:=by
 obtain ⟨o,b⟩:=s
 unfold stI
 cases b <;> cases ltI y x <;> by_cases h : y = x <;> simp [h]
theorem insR_le (l : List IdT) (x : IdT) : (x5 l x).length<=l.length+1:=by
 have : ∀ (l : List IdT) (s : List IdT×Bool),(l.foldl (stI x) s).1.length+(if (l.foldl (stI x) s).2 = false then 1 else 0)<=s.1.length+(if s.2 = false then 1 else 0)+l.length:=by
  intro l
  induction l with
  | nil=>intro s;exact Nat.le_refl _
  | cons y l ih =>
   intro s
   rw [List.foldl_cons]
   have h1:=ih (stI x s y)
   have h2:=stI_cb x s y
   simp only [List.length_cons]
   omega
 have h:=this l ([],false)
 unfold x5
 dsimp only
 split
 ·rename_i e;rw [if_pos e] at h;simp at h ⊢;omega
 ·rename_i e;rw [if_neg e] at h;simp at h ⊢;omega
theorem cV : ∀ (xs l : List IdT),(aW l xs).length<=l.length+xs.length
 | [],l=>by simp [aW]
 | x::xs,l=>by
  have h1:=insR_le l x
  have h2:=cV xs (x5 l x)
  have e : aW l (x::xs) = aW (x5 l x) xs:=rfl
  rw [e,List.length_cons]
  omega
theorem eX (a b l : List IdT) : aW l (a++b) = aW (aW l a) b:=List.foldl_append
mutual
def ct : Ty->List IdT
 | .mk k d l=>(if k = 3 then [d] else [])++bP l
def bP : List Ty->List IdT
 | []=>[]
 | t::ts=>ct t++bP ts
end
theorem vX (t : Ty) : ct t = (if t.kind = 3 then [t.df] else [])++bP t.kids:=by cases t;rw [ct];rfl
theorem qE : ∀ (l m : List Ty),bP (l++m) = bP l++bP m
 | [],m=>rfl
 | t::l,m=>by rw [List.cons_append,bP,qE l m,bP,List.append_assoc]
theorem oN {l : List Ty} {k : Nat} (h : k < l.length) : bP (l.take (k+1)) = bP (l.take k)++ct l[k]:=by
 rw [List.take_succ_eq_append_getElem h,qE];simp [bP]
mutual
theorem cB : ∀ t : Ty,(ct t).length<=t.size
 | .mk k d l=>by
  have:=iP l
  rw [ct,List.length_append,Ty.size]
  split <;> simp <;> omega
theorem iP : ∀ l : List Ty,(bP l).length<=Ty.sizes l
 | []=>by simp [bP]
 | t::l=>by
  have:=cB t
  have:=iP l
  rw [bP,List.length_append,Ty.sizes]
  omega
end
theorem oM (l : List Ty) (k : Nat) : (bP (l.take k)).length<=Ty.sizes l:=by
 refine Nat.le_trans (iP _) ?_
 induction l generalizing k with
 | nil=>simp
 | cons t l ih =>
  cases k with
  | zero=>simp [Ty.sizes]
  | succ k=>have:=ih k;simp only [List.take_succ_cons,Ty.sizes];omega
theorem Ty.oc (t : Ty) : t.size = 1+Ty.sizes t.kids:=by cases t;rw [Ty.size];rfl
theorem Ty.p9 : ∀ {l : List Ty} {t : Ty},t∈l->t.size<=Ty.sizes l
 | x::xs,t,h=>by
  rw [Ty.sizes]
  rcases List.mem_cons.1 h with rfl | h
  ·omega
  ·have:=Ty.p9 h;omega
def j5 (k : Int) : Prop:=k = 3\/k = 7\/k = 8\/k = 9\/k = 10
instance (k : Int) : Decidable (j5 k):=by unfold j5;exact inferInstance
def ot (e : Ex) : List IdT:=if j5 e.kind then [e.ref] else []
def GG (e : Ex) : List IdT:=if e.kind = 11 then ct e.ty else []
def iA (e : Ex) : List IdT:=ot e++GG e
mutual
def gC : Ex->List IdT
 | .mk i k n r t l ns=>iA (.mk i k n r t l ns)++b6 l
def b6 : List Ex->List IdT
 | []=>[]
 | e::l=>gC e++b6 l
end
mutual
def lK : Ex->List Ex
 | .mk i k n r t l ns=>dF l++[.mk i k n r t l ns]
def dF : List Ex->List Ex
 | []=>[]
 | e::l=>lK e++dF l
end
mutual
def Ex.wt : Ex->Nat
 | .mk _ _ _ _ t l ns=>1+t.size+ns.length+Ex.wts l
def Ex.wts : List Ex->Nat
 | []=>0
 | e::l=>Ex.wt e+Ex.wts l
end
theorem E4 (e : Ex) : gC e = iA e++b6 e.kids:=by cases e;rw [gC];rfl
theorem allE_eq (e : Ex) : lK e = dF e.kids++[e]:=by cases e;rw [lK];rfl
theorem Ex.bQ (e : Ex) : e.wt = 1+e.ty.size+e.names.length+Ex.wts e.kids:=by cases e;rw [Ex.wt];rfl
theorem qD : ∀ (l m : List Ex),b6 (l++m) = b6 l++b6 m
 | [],m=>rfl
 | t::l,m=>by rw [List.cons_append,b6,qD l m,b6,List.append_assoc]
theorem wR : ∀ (l m : List Ex),dF (l++m) = dF l++dF m
 | [],m=>rfl
 | t::l,m=>by rw [List.cons_append,dF,wR l m,dF,List.append_assoc]
theorem xU {l : List Ex} {k : Nat} (h : k < l.length) : b6 (l.take (k+1)) = b6 (l.take k)++gC l[k]:=by
 rw [List.take_succ_eq_append_getElem h,qD];simp [b6]
theorem Cq {l : List Ex} {k : Nat} (h : k < l.length) : dF (l.take (k+1)) = dF (l.take k)++lK l[k]:=by
 rw [List.take_succ_eq_append_getElem h,wR];simp [dF]
theorem Ex.lP : ∀ (l m : List Ex),Ex.wts (l++m) = Ex.wts l+Ex.wts m
 | [],m=>by simp [Ex.wts]
 | t::l,m=>by have:=Ex.lP l m;simp only [List.cons_append,Ex.wts];omega
theorem Ex.rZ (l : List Ex) (k : Nat) : Ex.wts (l.take k)<=Ex.wts l:=by
 induction l generalizing k with
 | nil=>simp
 | cons t l ih =>
  cases k with
  | zero=>simp [Ex.wts]
  | succ k=>have:=ih k;simp only [List.take_succ_cons,Ex.wts];omega
theorem Ex.sj {l : List Ex} {k : Nat} (h : k < l.length) : Ex.wts (l.take (k+1)) = Ex.wts (l.take k)+l[k].wt:=by
 rw [List.take_succ_eq_append_getElem h,Ex.lP];simp [Ex.wts]
theorem Ex.wW : ∀ {l : List Ex} {t : Ex},t∈l->t.wt<=Ex.wts l
 | x::xs,t,h=>by
  rw [Ex.wts]
  rcases List.mem_cons.1 h with rfl | h
  ·omega
  ·have:=Ex.wW h;omega
theorem tw (e : Ex) : (iA e).length<=1+e.ty.size:=by
 unfold iA ot GG
 have:=cB e.ty
 rw [List.length_append]
 split <;> split <;> simp <;> omega
mutual
theorem tK : ∀ e : Ex,(gC e).length<=e.wt
 | .mk i k n r t l ns=>by
  have:=kU l
  have h : (iA (.mk i k n r t l ns)).length<=1+t.size:=tw _
  rw [gC,List.length_append,Ex.wt]
  omega
theorem kU : ∀ l : List Ex,(b6 l).length<=Ex.wts l
 | []=>by simp [b6]
 | e::l=>by
  have:=tK e
  have:=kU l
  rw [b6,List.length_append,Ex.wts]
  omega
end
mutual
theorem uR : ∀ e : Ex,(lK e).length<=e.wt
 | .mk i k n r t l ns=>by
  have:=mz l
  rw [lK,List.length_append,Ex.wt]
  simp
  omega
theorem mz : ∀ l : List Ex,(dF l).length<=Ex.wts l
 | []=>by simp [dF]
 | e::l=>by
  have:=uR e
  have:=mz l
  rw [dF,List.length_append,Ex.wts]
  omega
end
mutual
theorem uQ : ∀ e : Ex,((lK e).flatMap iA).length<=e.wt
 | .mk i k n r t l ns=>by
  have:=wQ l
  have h : (iA (.mk i k n r t l ns)).length<=1+t.size:=tw _
  rw [lK,List.flatMap_append,List.length_append,Ex.wt]
  simp only [List.flatMap_cons,List.flatMap_nil,List.append_nil]
  omega
theorem wQ : ∀ l : List Ex,((dF l).flatMap iA).length<=Ex.wts l
 | []=>by simp [dF]
 | e::l=>by
  have:=uQ e
  have:=wQ l
  rw [dF,List.flatMap_append,List.length_append,Ex.wts]
  omega
end
mutual
theorem Ea : ∀ e : Ex,∀ x∈lK e,x.wt<=e.wt
 | .mk i k n r t l ns,x,h=>by
  have:=AR l
  rw [lK] at h
  rcases List.mem_append.1 h with h | h
  ·have:=this x h
   rw [Ex.bQ (.mk i k n r t l ns)]
   show x.wt<=1+t.size+ns.length+Ex.wts l
   omega
  ·rw [List.mem_singleton.1 h];exact Nat.le_refl _
theorem AR : ∀ l : List Ex,∀ x∈dF l,x.wt<=Ex.wts l
 | [],x,h=>by cases h
 | e::l,x,h=>by
  rw [dF] at h
  rw [Ex.wts]
  rcases List.mem_append.1 h with h | h
  ·have:=Ea e x h;omega
  ·have:=AR l x h;omega
end
mutual
theorem vW : ∀ (e : Ex) (z : IdT),z∈gC e↔z∈(lK e).flatMap iA
 | .mk i k n r t l ns,z=>by
  rw [gC,lK,List.flatMap_append,List.mem_append,List.mem_append,tJ l z]
  simp only [List.flatMap_cons,List.flatMap_nil,List.append_nil]
  exact Or.comm
theorem tJ : ∀ (l : List Ex) (z : IdT),z∈b6 l↔z∈(dF l).flatMap iA
 | [],z=>by simp [b6,dF]
 | e::l,z=>by rw [b6,dF,List.flatMap_append,List.mem_append,List.mem_append,vW e z,tJ l z]
end
def gu (k : Int) : Prop:=k = 2\/k = 3\/k = 4\/k = 5
instance (k : Int) : Decidable (gu k):=by unfold gu;exact inferInstance
def fB (l : List SlotT) : List IdT:=l.flatMap fun s=>ct s.ty
def Bl (d : DefT) : List IdT:=ct d.result++fB d.slots++if gu d.kind then gC d.body else []
def pY (d : DefT) : List IdT:=ct d.result++fB d.slots++if gu d.kind then (lK d.body).flatMap iA else []
def bx : List SlotT->Nat
 | []=>0
 | s::l=>1+s.ty.size+bx l
def DefT.wt (d : DefT) : Nat:=d.result.size+bx d.slots+d.body.wt
theorem lU : ∀ l : List SlotT,l.length<=bx l
 | []=>Nat.le_refl _
 | s::l=>by have:=lU l;rw [bx,List.length_cons];omega
theorem pS : ∀ {l : List SlotT} {s : SlotT},s∈l->s.ty.size<=bx l
 | x::l,s,h=>by
  rw [bx]
  rcases List.mem_cons.1 h with rfl | h
  ·omega
  ·have:=pS h;omega
theorem lV : ∀ l : List SlotT,(fB l).length<=bx l
 | []=>Nat.le_refl _
 | s::l=>by
  have h1:=lV l
  have h2:=cB s.ty
  have e : fB (s::l) = ct s.ty++fB l:=List.flatMap_cons
  rw [e,List.length_append,bx];omega
theorem sJ {l : List SlotT} {k : Nat} (h : k < l.length) : fB (l.take (k+1)) = fB (l.take k)++ct l[k].ty:=by
 unfold fB
 rw [List.take_succ_eq_append_getElem h,List.flatMap_append];simp
theorem sI (l : List SlotT) (k : Nat) : (fB (l.take k)).length<=bx l:=by
 refine Nat.le_trans (lV _) ?_
 induction l generalizing k with
 | nil=>simp
 | cons t l ih =>
  cases k with
  | zero=>simp [bx]
  | succ k=>have:=ih k;simp only [List.take_succ_cons,bx];omega
theorem Gv (d : DefT) : (Bl d).length<=d.wt:=by
 unfold Bl DefT.wt
 have h1:=cB d.result
 have h2:=lV d.slots
 have h3:=tK d.body
 rw [List.length_append,List.length_append]
 split <;> simp <;> omega
theorem zj (d : DefT) : (pY d).length<=d.wt:=by
 unfold pY DefT.wt
 have h1:=cB d.result
 have h2:=lV d.slots
 have h3:=uQ d.body
 rw [List.length_append,List.length_append]
 split
 ·omega
 ·simp;omega
theorem Gu (d : DefT) (z : IdT) : z∈Bl d↔z∈pY d:=by
 unfold Bl pY
 rw [List.mem_append,List.mem_append (t:=if gu d.kind then (lK d.body).flatMap iA else [])]
 refine or_congr Iff.rfl ?_
 split
 ·exact vW _ _
 ·exact Iff.rfl
def bO (p : ProgT) (x : IdT) : Bool:=decide (dR p x)
def de (p : ProgT) (i : IdT) : List IdT:=if dR p i then (aW [] (pY (an p i))).filter (bO p) else []
theorem FR {p : ProgT} {i : IdT} (h : dR p i) : fh (cQ ((Bl (an p i)).filter (bO p))) = de p i:=by
 unfold de
 rw [if_pos h]
 obtain ⟨h1,h2⟩:=sE ((Bl (an p i)).filter (bO p))
 obtain ⟨h3,h4⟩:=yh h1
 obtain ⟨h5,h6⟩:=jX (xs:=pY (an p i)) (l:=[]) List.Pairwise.nil
 refine BW h3 (BV _ h5) fun z=>?_
 rw [h4,h2.mem_iff,List.mem_filter,List.mem_filter,h6,Gu]
 simp
theorem pJ (p : ProgT) (i : IdT) : (de p i).length<=(an p i).wt:=by
 unfold de
 split
 ·refine Nat.le_trans (List.length_filter_le _ _) (Nat.le_trans (cV _ _) ?_)
  simpa using zj _
 ·simp
def cU (l m : List IdT) : Bool:=decide (∀ x∈l,x∈m)
def fH (p : ProgT) (out left : List IdT) : Option Nat:=left.findIdx? fun x=>cU (de p x) out
def dP (p : ProgT) : Nat->List IdT->List IdT->List IdT×List IdT
 | 0,out,left=>(out,left)
 | n+1,out,left=>match fH p out left with
  | none=>(out,left)
  | some k=>dP p n (out++[left.getD k default]) (left.eraseIdx k)
theorem lz {p : ProgT} {out left : List IdT} {k : Nat} (h : fH p out left = some k) : ∃ hk : k < left.length,cU (de p left[k]) out = true/\∀ j (hj : j < k),cU (de p (left[j]'Q0)) out = false:=by
 unfold fH at h
 rw [List.findIdx?_eq_some_iff_getElem] at h
 obtain ⟨hk,h1,h2⟩:=h
 exact ⟨hk,h1,fun j hj=>by have:=h2 j hj;simpa using this⟩
theorem wB {p : ProgT} {out left : List IdT} {k : Nat} (hk : k < left.length) (h1 : cU (de p left[k]) out = true) (h2 : ∀ j (hj : j < k),cU (de p (left[j]'Q0)) out = false) : fH p out left = some k:=by
 unfold fH
 rw [List.findIdx?_eq_some_iff_getElem]
 exact ⟨hk,h1,fun j hj=>by have:=h2 j hj;simp [this]⟩
theorem qJ {p : ProgT} {out left : List IdT} (h : ∀ j (hj : j < left.length),cU (de p left[j]) out = false) : fH p out left = none:=by
 unfold fH
 rw [List.findIdx?_eq_none_iff]
 intro x hx
 obtain ⟨j,hj,rfl⟩:=List.mem_iff_getElem.1 hx
 exact h j hj
theorem qB {p : ProgT} {n : Nat} {out left : List IdT} (h : fH p out left = none) : dP p n out left = (out,left):=by
 cases n with
 | zero=>rfl
 | succ n=>rw [dP,h]
theorem mU : ∀ {l : List IdT} {k : Nat} (hk : k < l.length),j8 l->l.filter (fun y=>!decide (y = l[k])) = l.eraseIdx k
 | x::l,0,_,h=>by
  have h1:=List.pairwise_cons.1 h
  have e : ∀ y∈l,(!decide (y = x)) = true:=fun y hy=>by
   have:=xX (h1.1 y hy)
   simp [Ne.symm this]
  simp only [List.getElem_cons_zero,List.eraseIdx_cons_zero,List.filter_cons,decide_true,Bool.not_true,Bool.false_eq_true,if_false]
  exact List.filter_eq_self.2 e
 | x::l,k+1,hk,h=>by
  have h1:=List.pairwise_cons.1 h
  have hk' : k < l.length:=by simpa using hk
  have hne : x ≠ l[k]:=xX (h1.1 _ (List.getElem_mem hk'))
  simp only [List.getElem_cons_succ,List.eraseIdx_cons_succ,List.filter_cons]
  rw [if_pos (by simp [hne]),mU hk' h1.2]
theorem Fl {l : List IdT} (k : Nat) (h : j8 l) : j8 (l.eraseIdx k):=h.sublist (List.eraseIdx_sublist ..)
end Xe

namespace Go.Proofs.YtmbboaapillefaaGreatDoor
open Xe Pm
theorem xy (l m : List IdT) (hl : l.length<=1000000000000) (hm : m.length<=1000000000000) : IS s17 [[dI l],[dI m]] [[vB (decide (l = m))]]:=by
 refine w17.is ?_
 unfold g17 dI
 simp only [pmr,pms]
 refine ⟨fun e=>?_,fun e=>?_⟩
 ·have e : l.length = m.length:=Q0
  refine bl l.length (fun k=>[[.sl l.length 3 (l.flatMap IdT.enc)],[.sl m.length 3 (m.flatMap IdT.enc)],[vI (k : Int)]]) (fun k=>l.take k = m.take k) Q2 rfl fun k next hi hI hn=>?_
  simp only [pmr]
  refine ⟨fun h=>?_,fun h=>?_⟩
  ·have hk : k < l.length:=Q0
   have hk' : k < m.length:=Q0
   rw [dB _ hk,dB _ hk']
   simp only [pmr,pms]
   refine ⟨Q0,Q0,fun e2=>⟨Q4,hn hk ?_⟩,fun e2=>?_⟩
   ·rw [List.take_succ_eq_append_getElem hk,List.take_succ_eq_append_getElem hk',hI,e2]
   ·rw [decide_eq_false (fun h=>e2 (by subst h;rfl))]
  ·obtain rfl : k = l.length:=Q0
   rw [List.take_length] at hI
   rw [decide_eq_true (by rw [hI,e,List.take_length])]
 ·rw [decide_eq_false (fun h=>e (by rw [h]))]
theorem FJ (k : Int) : IS s27 [[vI k]] [[vB (decide (gu k))]]:=by
 refine w27.is ?_
 unfold g27
 simp only [pmr]
 refine ⟨fun h=>by rw [decide_eq_true (show gu k from .inl h)],fun h1=>⟨fun h=>by rw [decide_eq_true (show gu k from .inr (.inl h))],fun h2=>⟨fun h=>by rw [decide_eq_true (show gu k from .inr (.inr (.inl h)))],fun h3=>?_⟩⟩⟩
 refine congrArg (fun b=>[[vB b]]) (decide_eq_decide.2 ?_)
 unfold gu
 constructor
 ·intro h;exact .inr (.inr (.inr h))
 ·rintro (h | h | h | h) <;> first | exact h | contradiction
theorem Cj (d : DefT) : IS s49 [d.enc] [[vB (decide (gu d.kind))]]:=by
 refine w49.is ?_
 unfold g49
 simp only [pmr,pms]
 refine ⟨fun h=>by rw [decide_eq_true (show gu d.kind from .inl h)],fun h1=>⟨fun h=>by rw [decide_eq_true (show gu d.kind from .inr (.inl h))],fun h2=>⟨fun h=>by rw [decide_eq_true (show gu d.kind from .inr (.inr (.inl h)))],fun h3=>?_⟩⟩⟩
 refine congrArg (fun b=>[[vB b]]) (decide_eq_decide.2 ?_)
 unfold gu
 constructor
 ·intro h;exact .inr (.inr (.inr h))
 ·rintro (h | h | h | h) <;> first | exact h | contradiction
theorem oL (t : Ty) (hs : t.size<=1000000000000) : IS s73 [t.enc] [[dI (ct t)]]:=by
 refine w73.is ?_
 unfold g73
 simp only [pmr,pms]
 have hsz:=Ty.oc t
 have hlen:=Ty.lY t.kids
 refine bY [t.enc,[dI (if t.kind = 3 then [t.df] else [])]] ?_ ?_
 ·refine ⟨fun h=>⟨Qa,?_⟩,fun h=>?_⟩
  ·rw [if_pos h]
   rfl
  ·rw [if_neg h]
   rfl
 ·simp only [pmr]
  refine bl t.kids.length (fun i=>[[.sl t.kids.length 5 (t.kids.flatMap Ty.enc)],[vI (t.kids.length : Int)],[vI (i : Int)],[dI ((if t.kind = 3 then [t.df] else [])++bP (t.kids.take i))]]) (fun _=>True) trivial (by simp [bP]) fun i next hi _ hn=>?_
  have h3:=oM t.kids i
  have h4 : (if t.kind = 3 then [t.df] else []).length<=1:=by split <;> simp
  simp only [pmr]
  refine ⟨fun h=>?_,fun h=>?_⟩
  ·have hk' : i < t.kids.length:=Q0
   have hm:=Ty.p9 (List.getElem_mem hk')
   have h5:=cB t.kids[i]
   rw [qO _ hk']
   refine ⟨Q0,ai (oL _ Q0) ?_⟩
   simp only [pmr]
   refine ⟨by unfold room;rw [List.length_append];omega,Q4,?_⟩
   have:=hn hk' trivial
   rw [oN hk',<-List.append_assoc] at this
   simp only [dI,List.length_append,List.flatMap_append] at this ⊢
   exact this
  ·obtain rfl : i = t.kids.length:=Q0
   rw [List.take_length,<-vX]
 termination_by t.size
theorem me (l : List IdT) (t : Ty) (hs : l.length+t.size<=2000000000000) : IS y7 [[dI l],t.enc] [[dI (aW l (ct t))]]:=by
 refine w163.is ?_
 unfold g163
 simp only [pmr,pms]
 have hsz:=Ty.oc t
 have hlen:=Ty.lY t.kids
 refine bY [[dI (aW l (if t.kind = 3 then [t.df] else []))],t.enc] ?_ ?_
 ·refine ⟨fun h=>?_,fun h=>?_⟩
  ·refine ai (qf l t.df Q0) ?_
   simp only [pmr]
   rw [if_pos h]
   rfl
  ·rw [if_neg h]
   rfl
 ·simp only [pmr]
  refine bl t.kids.length (fun i=>[[dI (aW l ((if t.kind = 3 then [t.df] else [])++bP (t.kids.take i)))],[vI (i : Int)],t.enc]) (fun _=>True) trivial (by simp [bP]) fun i next hi _ hn=>?_
  have h3:=oM t.kids i
  have h4 : (if t.kind = 3 then [t.df] else []).length<=1:=by split <;> simp
  have h6:=cV ((if t.kind = 3 then [t.df] else [])++bP (t.kids.take i)) l
  rw [List.length_append] at h6
  simp only [pmr]
  refine ⟨fun h=>?_,fun h=>?_⟩
  ·have hk' : i < t.kids.length:=Q0
   have hm:=Ty.p9 (List.getElem_mem hk')
   have h7:=Ty.oc t.kids[i]
   rw [qO _ hk']
   have h8 : (bP (t.kids.take i)).length+t.kids[i].size<=Ty.sizes t.kids:=by
    have h9:=iP (t.kids.take i)
    have h10 : ∀ (l : List Ty) (i : Nat) (h : i < l.length),Ty.sizes (l.take i)+l[i].size<=Ty.sizes l:=by
     intro l
     induction l with
     | nil=>intro i h;cases h
     | cons x l ih =>
      intro i h
      cases i with
      | zero=>simp [Ty.sizes]
      | succ i=>have:=ih i (by simpa using h);simp only [List.take_succ_cons,List.getElem_cons_succ,Ty.sizes];omega
    have:=h10 t.kids i hk'
    omega
   refine ⟨Q0,ai (me _ _ Q0) ?_⟩
   simp only [pmr]
   refine ⟨Q4,?_⟩
   have:=hn hk' trivial
   rw [oN hk',<-List.append_assoc,eX] at this
   exact this
  ·obtain rfl : i = t.kids.length:=Q0
   rw [List.take_length,<-vX]
 termination_by t.size
theorem DL : ∀ l : List Ex,l.length<=Ex.sizes l
 | []=>Nat.le_refl _
 | x::l=>by have:=DL l;have:=Ex.size_pos x;rw [Ex.sizes,List.length_cons];omega
theorem xq (e : Ex) (hs : e.size<=1000000000000) : IS s37 [e.enc] [[vI (e.size : Int)]]:=by
 refine w37.is ?_
 unfold g37
 simp only [pmr]
 have hsz:=Ex.size_eq e
 have hlen : e.kids.length<=Ex.sizes e.kids:=DL e.kids
 refine bl e.kids.length (fun i=>[[vI ((1+Ex.sizes (e.kids.take i) : Nat) : Int)],[vI (i : Int)],e.enc]) (fun _=>True) trivial (by simp [Ex.sizes]) fun i next hi _ hn=>?_
 have h3:=Ex.ir e.kids i
 simp only [pmr]
 refine ⟨fun h=>?_,fun h=>?_⟩
 ·have hk : i < e.kids.length:=Q0
  have hm:=Ex.ji (List.getElem_mem hk)
  have h4:=Ex.nk e.kids i hk
  have h5:=Ex.ir e.kids (i+1)
  rw [lE _ hk]
  refine ⟨Q0,ai (xq _ Q0) ?_⟩
  simp only [pmr]
  refine ⟨Q4,Q4,?_⟩
  have:=hn hk trivial
  rw [h4] at this
  have e1 : ((1+(Ex.sizes (e.kids.take i)+e.kids[i].size) : Nat) : Int) = ((1+Ex.sizes (e.kids.take i) : Nat) : Int)+(e.kids[i].size : Int):=Q0
  rw [e1] at this
  exact this
 ·obtain rfl : i = e.kids.length:=Q0
  rw [List.take_length,<-hsz]
 termination_by e.size
abbrev dE (l : List Ex) : D:=.sl l.length 15 (l.flatMap Ex.enc)
theorem IL (e : Ex) (hs : e.wt<=800000000000) : IS Ew [e.enc] [[dE (lK e)]]:=by
 refine w164.is ?_
 unfold g164
 simp only [pmr]
 have hsz:=Ex.bQ e
 have hlen : e.kids.length<=Ex.wts e.kids:=by
  have : ∀ l : List Ex,l.length<=Ex.wts l:=by
   intro l
   induction l with
   | nil=>exact Nat.le_refl _
   | cons x l ih=>have:=Ex.bQ x;rw [Ex.wts,List.length_cons];omega
  exact this _
 refine bY [e.enc,[dE (dF e.kids)]] ?_ ?_
 ·refine bl e.kids.length (fun i=>[[vI (i : Int)],e.enc,[dE (dF (e.kids.take i))]]) (fun _=>True) trivial rfl fun i next hi _ hn=>?_
  have h3:=mz (e.kids.take i)
  have h4:=Ex.rZ e.kids i
  simp only [pmr]
  refine ⟨fun h=>?_,fun h=>?_⟩
  ·have hk : i < e.kids.length:=Q0
   have hm:=Ex.wW (List.getElem_mem hk)
   have h5:=uR e.kids[i]
   have h6:=Ex.sj hk
   have h7:=Ex.rZ e.kids (i+1)
   rw [lE _ hk]
   refine ⟨Q0,ai (IL _ Q0) ?_⟩
   simp only [pmr]
   refine ⟨Qa,Q4,?_⟩
   have:=hn hk trivial
   rw [Cq hk] at this
   simp only [dE,List.length_append,List.flatMap_append] at this ⊢
   exact this
  ·obtain rfl : i = e.kids.length:=Q0
   rw [List.take_length]
 ·simp only [pmr]
  have h3:=mz e.kids
  refine ⟨Qa,?_⟩
  rw [allE_eq]
  simp
 termination_by e.wt
theorem Il (p : ProgT) (i : IdT) (hs : p.defs.length<=1000000000000) : IS yZ [p.enc,i.enc] [(an p i).enc,[vB (decide (dR p i))]]:=by
 refine w23_1.is ?_
 unfold g23_1
 simp only [pmr]
 refine dA ?_
 have hc : cell p.enc 1 = .sl p.defs.length 31 (p.defs.flatMap DefT.enc):=rfl
 refine bl p.defs.length (fun k=>[[vI (k : Int)],p.enc,i.enc,gQ.enc]) (fun k=>∀ j (hj : j < p.defs.length),j < k->p.defs[j].id ≠ i) (fun _ _ h=>absurd h (Nat.not_lt_zero _)) rfl fun k next hi hI hn=>?_
 simp only [pmr,pms,hc]
 refine ⟨fun h=>?_,fun h=>?_⟩
 ·have hk : k < p.defs.length:=Q0
  rw [fR _ hk]
  simp only [pmr,pms]
  refine ⟨Q0,fun e=>⟨Q0,?_⟩,fun e=>⟨Q4,hn hk fun j hj h=>?_⟩⟩
  ·obtain ⟨h1,h2⟩:=ig hk hI e
   rw [h2,decide_eq_true h1]
  ·by_cases e' : j = k
   ·subst e'
    exact e
   ·exact hI j hj Q0
 ·obtain rfl : k = p.defs.length:=Q0
  obtain ⟨h1,h2⟩:=kC fun j hj=>hI j hj hj
  rw [h2,decide_eq_false h1]
  rfl
theorem x9 {α β : Type} (f : α->List β) (l : List α) (k : Nat) : ((l.take k).flatMap f).length<=(l.flatMap f).length:=by
 induction l generalizing k with
 | nil=>simp
 | cons x l ih =>
  cases k with
  | zero=>simp
  | succ k=>have:=ih k;simp only [List.take_succ_cons,List.flatMap_cons,List.length_append];omega
theorem Ft {α β : Type} (f : α->List β) {l : List α} {k : Nat} (h : k < l.length) : (l.take (k+1)).flatMap f = (l.take k).flatMap f++f l[k]:=by
 rw [List.take_succ_eq_append_getElem h,List.flatMap_append];simp
theorem FT (d : DefT) (hs : d.wt<=800000000000) : IS s80 [d.enc] [[dI (aW [] (pY d))]]:=by
 refine w80.is ?_
 unfold g80
 simp only [pmr,pms]
 have hw : d.wt = d.result.size+bx d.slots+d.body.wt:=rfl
 have hsl:=lU d.slots
 refine ai (me [] d.result Qc) ?_
 simp only [pmr]
 refine bl d.slots.length (fun i=>[[dI (aW [] (ct d.result++fB (d.slots.take i)))],[vI (i : Int)],d.enc]) (fun _=>True) trivial (by simp [fB]) fun i next hi _ hn=>?_
 have h1:=cB d.result
 have h2:=sI d.slots i
 have h3:=cV (ct d.result++fB (d.slots.take i)) []
 rw [List.length_append] at h3
 simp only [List.length_nil,Nat.zero_add] at h3
 simp only [pmr,pms]
 refine ⟨fun h=>?_,fun h=>?_⟩
 ·have hk : i < d.slots.length:=Q0
  have hm:=pS (List.getElem_mem hk)
  rw [pe _ hk]
  simp only [pms]
  refine ⟨Q0,ai (me _ _ Q0) ?_⟩
  simp only [pmr]
  refine ⟨Q4,?_⟩
  have:=hn hk trivial
  rw [sJ hk,<-List.append_assoc,eX] at this
  exact this
 ·obtain rfl : i = d.slots.length:=Q0
  rw [List.take_length]
  rw [List.take_length] at h3 h2
  refine ai (FJ d.kind) ?_
  simp only [pmr,pms]
  refine ⟨fun hb=>?_,fun hb=>?_⟩
  ·refine ai (IL d.body Q0) ?_
   simp only [pmr]
   have hN:=uQ d.body
   have hNl:=uR d.body
   have hraw : aW [] (pY d) = aW (aW [] (ct d.result++fB d.slots)) ((lK d.body).flatMap iA):=by
    unfold pY
    rw [if_pos hb,eX]
   rw [hraw]
   have hA : (aW [] (ct d.result++fB d.slots)).length<=d.result.size+bx d.slots:=Q0
   have hNw:=Ea d.body
   generalize aW [] (ct d.result++fB d.slots) = A at hA ⊢
   generalize lK d.body = N at hN hNl hNw ⊢
   refine bl N.length (fun k=>[[dI (aW A ((N.take k).flatMap iA))],[vI (k : Int)],[dE N]]) (fun _=>True) trivial rfl fun k next hi _ hn=>?_
   have h4:=x9 iA N k
   have h5:=cV ((N.take k).flatMap iA) A
   simp only [pmr]
   refine ⟨fun h=>?_,fun h=>?_⟩
   ·have hk : k < N.length:=Q0
    have hx:=hNw _ (List.getElem_mem hk)
    have hxw:=Ex.bQ N[k]
    have hn':=hn hk trivial
    rw [Ft iA hk,eX] at hn'
    generalize aW A ((N.take k).flatMap iA) = B at h5 hn' ⊢
    rw [lE _ hk]
    refine bY [[dI (aW B (iA N[k]))],[vI (k : Int)],[dE N]] ?_ ?_
    ·refine ⟨Q0,bY [[dI (aW B (ot N[k]))],[vI (k : Int)],[vI N[k].kind],[dE N]] ?_ ?_⟩
     ·simp only [pmr,pms]
      have hit : j5 N[k].kind->(0<=(k : Int)/\(k : Int) < (N.length : Int))/\caK (CxP Tryz.prog) s70 [[dI B],N[k].ref.enc] fun r=>aa 3 (cell (ent r 0) 0) fun n c=>[[D.sl n 3 c],[vI (k : Int)],[vI N[k].kind],[dE N]] = [[dI (aW B (ot N[k]))],[vI (k : Int)],[vI N[k].kind],[dE N]]:=fun hc=>by
       refine ⟨Q0,ai (qf B _ Q0) ?_⟩
       simp only [pmr]
       unfold ot
       rw [if_pos hc]
       rfl
      refine ⟨fun e=>hit (.inl e),fun e1=>⟨fun e=>hit (.inr (.inl e)),fun e2=>⟨fun e=>hit (.inr (.inr (.inl e))),fun e3=>⟨fun e=>hit (.inr (.inr (.inr (.inl e)))),fun e4=>⟨fun e=>hit (.inr (.inr (.inr (.inr e)))),fun e5=>?_⟩⟩⟩⟩⟩
      have : ¬ j5 N[k].kind:=by rintro (e | e | e | e | e) <;> contradiction
      unfold ot
      rw [if_neg this]
      rfl
     ·simp only [pmr,pms,lE _ hk]
      have h6:=cV (ot N[k]) B
      have h7 : (ot N[k]).length<=1:=by unfold ot;split <;> simp
      unfold iA
      rw [eX]
      refine ⟨fun e=>⟨Q0,ai (me _ _ Q0) ?_⟩,fun e=>?_⟩
      ·simp only [pmr]
       unfold GG
       rw [if_pos e]
      ·unfold GG
       rw [if_neg e]
       rfl
    ·simp only [pmr]
     exact ⟨Q4,hn'⟩
   ·obtain rfl : k = N.length:=Q0
    rw [List.take_length]
  ·unfold pY
   rw [if_neg hb,List.append_nil]
theorem yF (p : ProgT) (i : IdT) (hd : p.defs.length<=1000000000000) (hs : ∀ j,(an p j).wt<=800000000000) : IS s19 [p.enc,i.enc] [[dI (de p i)]]:=by
 refine w19.is ?_
 unfold g19
 simp only [pmr]
 refine ai (Il p i Q0) ?_
 simp only [pmr,pms]
 refine ⟨fun h=>?_,fun h=>?_⟩
 ·refine ai (FT _ (hs i)) ?_
  simp only [pmr]
  have h1:=cV (pY (an p i)) []
  have h2:=zj (an p i)
  have h3:=hs i
  have hu : de p i = (aW [] (pY (an p i))).filter (bO p):=by unfold de;rw [if_pos h]
  rw [hu]
  simp only [List.length_nil,Nat.zero_add] at h1
  generalize aW [] (pY (an p i)) = l at h1 ⊢
  refine bl l.length (fun k=>[[dI l],[vI (k : Int)],p.enc,[dI ((l.take k).filter (bO p))]]) (fun _=>True) trivial rfl fun k next hi _ hn=>?_
  have hlen : ((l.take k).filter (bO p)).length<=k:=by
   have:=List.length_filter_le (bO p) (l.take k)
   rw [List.length_take] at this
   omega
  simp only [pmr]
  refine ⟨fun h=>?_,fun h=>?_⟩
  ·have hk : k < l.length:=Q0
   refine dA ?_
   have hn':=hn hk trivial
   rw [List.take_succ_eq_append_getElem hk,List.filter_append] at hn'
   rw [dB _ hk]
   refine ⟨Q0,ai (Il p _ Q0) ?_⟩
   simp only [pmr]
   refine ⟨fun e=>⟨Q0,Qa,Q4,?_⟩,fun e=>⟨Q4,?_⟩⟩
   ·have : [l[k]].filter (bO p) = [l[k]]:=by simp [bO,e]
    rw [this] at hn'
    rw [gd]
    exact hn'
   ·have : [l[k]].filter (bO p) = []:=by simp [bO,e]
    rw [this,List.append_nil] at hn'
    exact hn'
  ·obtain rfl : k = l.length:=Q0
   rw [List.take_length]
 ·unfold de
  rw [if_neg h]
  rfl
theorem Wd.isG {l : List Sig} {dp : List Nat} {hp nd ic : Bool} {cs : List Nat} {H : Hint} {s : Sig} {g : Tx} (w : Wd ⟨l,[42],dp,[],aJ,aI,hp,av,nd,ic,cs⟩ H s g) {a r : St'} (h : g (CxP Tryz.prog) a fun st=>st = r) (hu : unpack aB (fE s) r (fun _=>True):=by exact trivial) : Pm.Is Tryz.prog s a r:=DF (Eh ..) E5 (H:=H) (by rw [w];exact h) hu
theorem Wd.someG {l : List Sig} {dp : List Nat} {hp ic : Bool} {cs : List Nat} {H : Hint} {s : Sig} {g : Tx} (w : Wd ⟨l,[42],dp,[],aJ,aI,hp,av,false,ic,cs⟩ H s g) {a : St'} {K : St'->Prop} (h : g (CxP Tryz.prog) a K) (hu : ∀ r,K r->unpack aB (fE s) r fun _=>True) : ∃ r,K r/\Pm.Is Tryz.prog s a r:=DE rfl (Eh ..) E5 (H:=H) (by rw [w];exact h) hu
theorem HI (p : ProgT) (i : IdT) (hs : p.defs.length<=1000000000000) : ∃ z : Int,((z = -1/\¬ dR p i/\an p i = gQ)\/∃ k,∃ hk : k < p.defs.length,z = (k : Int)/\dR p i/\an p i = p.defs[k])/\IS s146 [[.sl p.defs.length 31 (p.defs.flatMap DefT.enc)],i.enc] [[vI z],i.enc]:=by
 have key : g146 (CxP Tryz.prog) [[.sl p.defs.length 31 (p.defs.flatMap DefT.enc)],i.enc] (fun r=>∃ z : Int,((z = -1/\¬ dR p i/\an p i = gQ)\/∃ k,∃ hk : k < p.defs.length,z = (k : Int)/\dR p i/\an p i = p.defs[k])/\r = [[vI z],i.enc]):=by
  unfold g146
  simp only [pmr]
  refine bl p.defs.length (fun k=>[[.sl p.defs.length 31 (p.defs.flatMap DefT.enc)],[vI (p.defs.length : Int)],[vI (k : Int)],i.enc]) (fun k=>∀ j (hj : j < p.defs.length),j < k->p.defs[j].id ≠ i) (fun _ _ h=>absurd h (Nat.not_lt_zero _)) rfl fun k next hi hI hn=>?_
  simp only [pmr]
  refine ⟨fun h=>?_,fun h=>?_⟩
  ·have hk : k < p.defs.length:=Q0
   rw [fR _ hk]
   refine ⟨Q0,ai (r:=[[vB (decide (p.defs[k].id = i))],i.enc]) (w147.is ?_) ?_⟩
   ·unfold g147
    simp only [pmr,pms]
   ·simp only [pmr]
    refine ⟨fun e=>⟨_,.inr ⟨k,hk,rfl,ig hk hI e⟩,rfl⟩,fun e=>⟨Q4,hn hk fun j hj h=>?_⟩⟩
    by_cases e' : j = k
    ·subst e'
     exact e
    ·exact hI j hj Q0
  ·obtain rfl : k = p.defs.length:=Q0
   exact ⟨_,.inl ⟨rfl,kC fun j hj=>hI j hj hj⟩,rfl⟩
 obtain ⟨r,⟨z,hz,rfl⟩,h⟩:=w146.some key (by rintro r ⟨z,_,rfl⟩;exact trivial)
 exact ⟨z,hz,h⟩
theorem DZ (p : ProgT) (i : IdT) (hs : p.defs.length<=1000000000000) : IS s46 [p.enc,i.enc] [(an p i).enc,[vB (decide (dR p i))]]:=by
 refine w46.is ?_
 unfold g46
 have hc : cell p.enc 1 = .sl p.defs.length 31 (p.defs.flatMap DefT.enc):=rfl
 simp only [pmr,hc]
 obtain ⟨z,hz,h⟩:=HI p i hs
 refine ai h ?_
 simp only [pmr]
 rcases hz with ⟨rfl,h1,h2⟩ | ⟨k,hk,rfl,h1,h2⟩
 ·refine ⟨fun _=>?_,fun h=>absurd h Q1⟩
  rw [h2,decide_eq_false h1]
  rfl
 ·refine ⟨fun h=>by omega,fun _=>⟨Q0,?_⟩⟩
  rw [Int.toNat_natCast,fR _ hk,h2,decide_eq_true h1]
theorem vT (p : ProgT) (x : IdT) (hs : p.defs.length<=1000000000000) : IS s77 [x.enc,p.enc] [[vB (!bO p x)],p.enc]:=by
 refine w77.is ?_
 unfold g77
 simp only [pmr]
 refine ai (DZ p x hs) ?_
 simp only [pmr]
 rfl
theorem Af (k : Int) : ((lkI k iF).getD 0 = (0 : Int))↔¬ j5 k:=by
 unfold j5 iF
 simp only [lkI]
 by_cases h3 : k = 3 <;> by_cases h7 : k = 7 <;> by_cases h8 : k = 8 <;> by_cases h9 : k = 9 <;> by_cases h10 : k = 10 <;> simp_all
theorem Im (l m : List IdT) : D.sl (l.length+m.length) 3 (l.flatMap IdT.enc++m.flatMap IdT.enc) = dI (l++m):=by
 unfold dI
 simp
theorem FN (e : Ex) (l : List IdT) (hs : l.length+e.wt<=800000000000) : IS s75 [e.enc,[dI l]] [[dI (l++iA e)]]:=by
 refine w75.isG ?_
 unfold g75
 simp only [pmr,pms]
 have hw:=Ex.bQ e
 refine bY [e.enc,[dI (l++ot e)]] ?_ ?_
 ·refine ⟨fun h=>?_,fun h=>?_⟩
  ·rw [Af] at h
   unfold ot
   rw [if_neg h,List.append_nil]
  ·rw [Af,Classical.not_not] at h
   refine ⟨Qa,?_⟩
   unfold ot
   rw [if_pos h,gd]
 ·simp only [pmr,pms]
  have h1 : (ot e).length<=1:=by unfold ot;split <;> simp
  have h2:=cB e.ty
  unfold iA GG
  refine ⟨fun h=>ai (oL _ Q0) ?_,fun h=>?_⟩
  ·simp only [pmr]
   refine ⟨by unfold room;rw [List.length_append];omega,?_⟩
   rw [if_pos h,Im,List.append_assoc]
  ·rw [if_neg h,List.append_nil]
theorem Cv (e : Ex) (l : List IdT) (hs : l.length+e.wt<=800000000000) : IS s74 [e.enc,[dI l]] [[dI (l++gC e)]]:=by
 refine w74.is ?_
 unfold g74
 simp only [pmr]
 refine ai (FN e l hs) ?_
 simp only [pmr]
 have hw:=Ex.bQ e
 have ho:=tw e
 have hk0 : e.kids.length<=Ex.wts e.kids:=by
  have : ∀ l : List Ex,l.length<=Ex.wts l:=by
   intro l
   induction l with
   | nil=>exact Nat.le_refl _
   | cons x l ih=>have:=Ex.bQ x;rw [Ex.wts,List.length_cons];omega
  exact this _
 refine bl e.kids.length (fun i=>[[.sl e.kids.length 15 (e.kids.flatMap Ex.enc)],[vI (e.kids.length : Int)],[vI (i : Int)],[dI (l++iA e++b6 (e.kids.take i))]]) (fun _=>True) trivial (by simp [b6]) fun i next hi _ hn=>?_
 have h3:=kU (e.kids.take i)
 simp only [pmr]
 refine ⟨fun h=>?_,fun h=>?_⟩
 ·have hk : i < e.kids.length:=Q0
  have h4:=Ex.sj hk
  have h5:=Ex.rZ e.kids (i+1)
  rw [lE _ hk]
  have hm:=Ex.wW (List.getElem_mem hk)
  refine ⟨Q0,ai (Cv _ _ (by simp only [List.length_append];omega)) ?_⟩
  simp only [pmr]
  refine ⟨Q4,?_⟩
  have:=hn hk trivial
  rw [xU hk,<-List.append_assoc] at this
  exact this
 ·obtain rfl : i = e.kids.length:=Q0
  rw [List.take_length,List.append_assoc,<-E4]
 termination_by e.wt
theorem js (R : List IdT) : ∀ i : Nat,(R.flatMap IdT.enc).take (i * 3) = (R.take i).flatMap IdT.enc:=by
 induction R with
 | nil=>intro i;simp
 | cons x R ih =>
  intro i
  cases i with
  | zero=>simp
  | succ i =>
   rw [List.flatMap_cons,List.take_succ_cons,List.flatMap_cons,<-ih i,Nat.add_mul,Nat.add_comm]
   show List.take (1 * 3+i * 3) ([_,_,_]++_) = _
   rw [Nat.one_mul,Nat.add_comm]
   rfl
theorem tT (R : List IdT) : ∀ i : Nat,(R.flatMap IdT.enc).drop (i * 3) = (R.drop i).flatMap IdT.enc:=by
 induction R with
 | nil=>intro i;simp
 | cons x R ih =>
  intro i
  cases i with
  | zero=>simp
  | succ i =>
   rw [List.flatMap_cons,List.drop_succ_cons,<-ih i,Nat.add_mul]
   rfl
theorem Dz (R : List IdT) {i : Nat} (hi : i < R.length) (x : IdT) : upd (R.flatMap IdT.enc) (i * 3+0) x.enc = (R.set i x).flatMap IdT.enc:=by
 unfold upd
 rw [Nat.add_zero,js,show x.enc.length = 3 from rfl,show i * 3+3 = (i+1) * 3 by omega,tT,List.set_eq_take_append_cons_drop,if_pos hi]
 simp
theorem ids_cut (R : List IdT) {i : Nat} (hi : i<=R.length) (z : List D) : sub (upd (R.flatMap IdT.enc) ((0+i) * 3) z) (0 * 3) (i * 3) = (R.take i).flatMap IdT.enc:=by
 unfold sub upd
 rw [Nat.zero_add,Nat.zero_mul,List.drop_zero,List.append_assoc,js]
 have hl : ((R.take i).flatMap IdT.enc).length = i * 3:=by
  rw [<-js,List.length_take,iS (sz:=3) (fun _=>rfl)]
  exact Nat.min_eq_left (Nat.mul_le_mul_right _ hi)
 rw [<-hl,List.take_left]
end Go.Proofs.YtmbboaapillefaaGreatDoor
