/- Zpl, Gn17, Gn18, Gn19, Gn20, Gn36, Gn22, Gn23, Ev34, Ev36, Gn37, Gn38, Gn24, Ev37, Gn25, Tab, Va, Ea, Ec, Gn30, Ed, Ee, Ef, Eg, Eh, Ei, put together. -/
import Derived.Test.YtanbipbiblikbaaDoorPc5
import Derived.KernelRfl
import Derived.Test.YtanbipbiblikbaaDoorProg
namespace Go.Proofs.YtanbipbiblikbaaDoor
open Xe Pm
set_option maxRecDepth 100000
abbrev s26 : Sig:=⟨26,⟨[(0,.a 2),(1,.a 3),(2,.c .d),(3,.c .i)],[]⟩,.t [.a 3,.c .i,.c .i],[],false⟩
abbrev s6 : Sig:=⟨6,⟨[(0,.c .d),(1,.c .i),(2,.c .d),(3,.c .i),(4,.c .i),(5,.c .i),(6,.c .i)],[]⟩,.c .bo,[],true⟩
abbrev s22 : Sig:=⟨22,⟨[(0,.a 2),(1,.c .i)],[]⟩,.a 31,[],false⟩
abbrev s23 : Sig:=⟨23,⟨[(0,.a 2),(1,.a 31),(2,.c .d)],[]⟩,.c (.w 0),[(0,.w 26 3)],false⟩
abbrev s17 : Sig:=⟨17,⟨[(0,.a 2),(1,.a 5),(2,.c .d)],[]⟩,.g [.d,.d,.w 0],[(0,.w 26 3)],false⟩
abbrev s43 : Sig:=⟨43,⟨[(0,.a 2),(1,.a 5),(2,.c .d),(3,.c .i),(4,.c .i)],[]⟩,.t [.g [.d,.d,.w 0],.c .i],[(0,.w 26 3)],false⟩
abbrev s44 : Sig:=⟨44,⟨[(0,.a 3)],[]⟩,.c .i,[],true⟩
abbrev s46 : Sig:=⟨46,⟨[(0,.a 2),(1,.a 5)],[]⟩,.t [.g [.d,.d,.w 0],.c .i],[(0,.w 26 3)],false⟩
abbrev s101 : Sig:=⟨101,⟨[(0,.a 2),(1,.a 5)],[]⟩,.c .bo,[],true⟩
abbrev C8 : Sig:=⟨110,⟨[(0,.a 2),(1,.a 5),(2,.c .i)],[]⟩,.c .bo,[],true⟩
abbrev s45 : Sig:=⟨45,⟨[(0,.a 3)],[]⟩,.c .i,[],true⟩
abbrev s24 : Sig:=⟨24,⟨[(0,.a 3),(1,.c .i),(2,.c .i),(3,.c .i)],[]⟩,.a 3,[],false⟩
abbrev s25 : Sig:=⟨25,⟨[(0,.c .i)],[]⟩,.c (.w 0),[(0,.w 3 1)],false⟩
abbrev s27 : Sig:=⟨27,⟨[(0,.a 2),(1,.a 3),(2,.c .d),(3,.c .i)],[]⟩,.t [.a 3,.c .i,.c .i],[],false⟩
abbrev s64 : Sig:=⟨64,⟨[(0,.a 2),(1,.a 5),(2,.a 3)],[]⟩,.c .bo,[],true⟩
abbrev s92 : Sig:=⟨92,⟨[(0,.a 2),(1,.a 5),(2,.a 3)],[]⟩,.c .bo,[],true⟩
abbrev s65 : Sig:=⟨65,⟨[(0,.c (.p 0 0)),(1,.a 31),(2,.c .d)],[(0,.a 113 5)]⟩,.a 3,[(0,.a 113 5)],false⟩
abbrev s93 : Sig:=⟨93,⟨[(0,.c .d),(1,.a 3),(2,.c .i),(3,.a 3)],[]⟩,.c (.w 0),[(0,.w 148 7)],false⟩
abbrev s94 : Sig:=⟨94,⟨[(0,.c (.p 0 0)),(1,.a 15),(2,.c .d)],[(0,.a 113 5)]⟩,.a 3,[(0,.a 113 5)],false⟩
abbrev E3 : Sig:=⟨108,⟨[(0,.c (.p 0 0)),(1,.a 15),(2,.c .d)],[(0,.a 113 5)]⟩,.a 3,[(0,.a 113 5)],false⟩
abbrev s114 : Sig:=⟨114,⟨[(0,.c .d),(1,.a 3),(2,.c .i)],[]⟩,.a 3,[],false⟩
abbrev uX : Sig:=⟨115,⟨[(0,.c (.p 0 0)),(1,.c .d),(2,.c .d)],[(0,.a 113 5)]⟩,.c (.w 1),[(1,.w 26 3),(0,.a 113 5)],false⟩
abbrev s13 : Sig:=⟨13,⟨[(0,.c .i),(1,.c .d)],[]⟩,.a 3,[],false⟩
abbrev s35 : Sig:=⟨35,⟨[(0,.c .bo)],[]⟩,.a 3,[],false⟩
abbrev s37 : Sig:=⟨37,⟨[(0,.c .i),(1,.c .i)],[]⟩,.c .i,[],true⟩
abbrev s38 : Sig:=⟨38,⟨[(0,.c .i),(1,.c .i)],[]⟩,.c .i,[],true⟩
abbrev s8 : Sig:=⟨8,⟨[(0,.c .d),(1,.c .i),(2,.c .d),(3,.c .i)],[]⟩,.c .bo,[],true⟩
def g6 : Tx:=fun Is a K=>aa (cell (ent a 1) 0) fun z1=>aa (cell (ent a 3) 0) fun z2=>aa (cell (ent a 4) 0) fun z3=>aa (cell (ent a
 5) 0) fun z4=>aa (cell (ent a 6) 0) fun z5=>caK Is s19 [[cell (ent a 0) 0]] fun r6=>caK Is s22 [ent r6 0,[vI z1]] fun r7=>caK Is s23 [ent
 r6 0,ent r7 0,[cell (ent a 2) 0]] fun r8=>ah 3 (cell (ent r8 0) 0) fun n9 c10=>ckK (room (0+n9) 41) (ckK (room (0+n9+1) 41) (jn (fun
 k11=>ifK (decide ((0 : Int) < (n9 : Int))) (ckK (room (0+n9) 41) (caK Is s16 [[vI z2],[vI (0+n9 : Int)]] fun r13=>aa (cell (ent r13 0) 0)
 fun z14=>ckK (0<=z14/\z14 < (0+n9 : Int)) (caK Is s24 [el c10 3 (Int.toNat z14),[vI z2],[vI z3],[vI z4]] fun r15=>ckK (0<=z14/\z14 < (0
 + n9 : Int)) (ckK (room (3+1) 25) (k11 [[vI z1],[vI z5],ent r6 0,ent r7 0,[.sl (3+1) 1 ([.sl n9 3 c10,.sl (0+n9+1) 3 (c10++([vI 0,vI
 0,.sl 0 3 []])),.sl 0 3 [],.sl (0+n9) 3 (upd c10 ((Int.toNat z14) * 3+0) (ent r15 0))])]]))))) (k11 [[vI z1],[vI z5],ent r6 0,ent r7 0,
 [.sl 3 1 ([.sl n9 3 c10,.sl (0+n9+1) 3 (c10++([vI 0,vI 0,.sl 0 3 []])),.sl 0 3 []])]])) (fun fe=>aa (cell (ent fe 0) 0) fun z16 =>
 aa (cell (ent fe 1) 0) fun z17=>ah 1 (cell (ent fe 4) 0) fun n18 c19=>ah 31 (cell (ent fe 2) 1) fun n20 _=>caK Is s16 [[vI z16],
 [vI (n20 : Int)]] fun r22=>aa (cell (ent r22 0) 0) fun z23=>ah 31 (cell (ent fe 2) 1) fun n24 c25=>ckK (0<=z23/\z23 < (n24 : Int))
 (caK Is s25 [[vI z17]] fun r26=>ah 1 (cell (ent r26 0) 0) fun n27 c28=>Lp (fun next29 EP=>aa (cell (ent EP 0) 0) fun z31=>ah 1
 (cell (ent EP 2) 0) fun n32 c33=>ah 3 (cell (ent EP 3) 0) fun n34 c35=>ah 1 (cell (ent EP 4) 0) fun n36 c37=>ifK (decide (z31 < (n32
 : Int))) (Lp (fun next38 w7=>aa (cell (ent w7 0) 0) fun z40=>aa (cell (ent w7 1) 0) fun z41=>ah 1 (cell (ent w7 3) 0) fun n42
 c43=>ah 3 (cell (ent w7 4) 0) fun n44 c45=>ah 1 (cell (ent w7 5) 0) fun n46 c47=>ifK (decide (z41 < (n44 : Int))) (ckK (0<=z41/\z41
 < (n44 : Int)) (ckK (0<=z40/\z40 < (n42 : Int)) (ckK (okI (z40+z41)) (ckK ((4 : Int) ≠ 0) (ckK (0<=(Int.tmod (z40+z41) 4)/\(Int.tmod (z40 +
 z41) 4) < (n46 : Int)) (caK Is s26 [ent w7 2,el c45 3 (Int.toNat z41),[cell (el c43 1 (Int.toNat z40)) 0],[cell (el c47 1 (Int.toNat (Int.tmod
 (z40+z41) 4))) 0]] fun r48=>aa (cell (ent r48 1) 0) fun z49=>aa (cell (ent r48 2) 0) fun z50=>ckK (0<=z41/\z41 < (n44 : Int)) (ckK (0
 <= z40/\z40 < (n42 : Int)) (ckK (okI (z40+z41)) (ckK ((4 : Int) ≠ 0) (ckK (0<=(Int.tmod (z40+z41) 4)/\(Int.tmod (z40+z41) 4) < (n46 : Int))
 (caK Is s27 [ent w7 2,el c45 3 (Int.toNat z41),[cell (el c43 1 (Int.toNat z40)) 0],[cell (el c47 1 (Int.toNat (Int.tmod (z40+z41) 4))) 0]]
 fun r51=>aa (cell (ent r51 1) 0) fun z52=>aa (cell (ent r51 2) 0) fun z53=>ifK (!(decide (z50 = z53))) (K [[vB false]]) (ifK (!(decide
 (z49 = z52))) (K [[vB false]]) (caK Is s11 [ent r48 0,ent r51 0] fun r54=>bq (cell (ent r54 0) 0) fun b55=>ifK (!b55) (K [[vB false]]) (ckK
 (okI (z41+1)) (next38 [[vI z40],[vI (z41+1)],ent w7 2,[.sl n42 1 c43],[.sl n44 3 c45],[.sl n46 1 c47]]))))))))))))))) (ckK (okI (z40 +
 1)) (next29 [[vI (z40+1)],ent w7 2,[.sl n42 1 c43],[.sl n44 3 c45],[.sl n46 1 c47]]))) [[vI z31],[vI 0],ent EP 1,[.sl n32 1 c33],[.sl
 n34 3 c35],[.sl n36 1 c37]]) (caK Is s18 [] fun r56=>bq (cell (ent r56 0) 0) fun b57=>K [[vB b57]])) [[vI 0],ent fe 2,[.sl n18 1 c19],
 [.sl 3 3 ((sub (ent fe 3) 0 3)++((sub (el c25 31 (Int.toNat z23)) 0 3)++[vI 3,vI 1,vI 0]))],[.sl n27 1 c28]]))))
theorem w6 : Wd ⟨[s11,s16,s18,s19,s22,s23,s24,s25,s26,s27],[35],[]⟩ ⟨[(14,⟨[(15,.c (.p 0 0)),(18,.c (.w 1)),(21,.c (.w 2)),(22,.c (.w 3)),(23,.c .i)],[(0,.a 32 2),(1,.w 24 1),(2,.w 35 3),(3,.w 3 1)]⟩),(17,⟨[(15,.c (.p 0 0)),(18,.c (.w 1)),(21,.c (.w 2)),(22,.c (.w 3)),(23,.c .i),(24,.c .i)],[(0,.a 32 2),(1,.w 24 1),(2,.w 35 3),(3,.w 3 1)]⟩)],[(11,⟨[(1,.c .i),(6,.c .i),(15,.c (.p 0 0)),(16,.c (.p 1 0)),(18,.c (.w 2))],[(0,.a 32 2),(1,.a 52 31),(2,.w 24 1)]⟩)],[]⟩ s6 g6:=fun _ _ _=>by kernel_rfl
def g22 : Tx:=fun Is a K=>aa (cell (ent a 1) 0) fun z1=>jn (fun k2=>Lp (fun FG st5=>aa (cell (ent st5 0) 0) fun z6=>aa (cell (ent
 st5 1) 0) fun z7=>ah 31 (cell (ent st5 4) 0) fun n8 c9=>ah 31 (cell (ent st5 2) 1) fun n10 _=>ifK (decide (z7 < (n10 : Int))) (jn (fun k12
 => ah 31 (cell (ent st5 2) 1) fun n14 c15=>ckK (0<=z7/\z7 < (n14 : Int)) (caK Is s59 [el c15 31 (Int.toNat z7)] fun r16=>bq (cell (ent r16
 0) 0) fun b17=>ifK b17 (ah 31 (cell (ent st5 2) 1) fun n18 c19=>ckK (0<=z7/\z7 < (n18 : Int)) (ckK (room (n8+1) 353) (k12 [[vI z6],[vI
 z7],ent st5 2,ent st5 3,[.sl (n8+1) 31 (c9++((el c19 31 (Int.toNat z7))++[]))]]))) (k12 [[vI z6],[vI z7],ent st5 2,ent st5 3,[.sl n8 31
 c9]]))) (fun jH=>aa (cell (ent jH 0) 0) fun z20=>aa (cell (ent jH 1) 0) fun z21=>ah 31 (cell (ent jH 4) 0) fun n22 c23=>ckK
 (okI (z21+1)) (FG [[vI z20],[vI (z21+1)],ent jH 2,ent jH 3,[.sl n22 31 c23]]))) (k2 [[vI z6],ent st5 3,[.sl n8 31 c9]])) [[vI z1],
 [vI 0],ent a 0,[vI 0,vI 0,vI 0,vI 0,vI 0,vI 0,vI 0,.v (.string (ByteArray.mk #[])),.sl 0 11 [],vI 0,vI 0,vI 0,vI 0,.sl 0 5 [],vI 0,
 vI 0,vI 0,vI 0,vI 0,vI 0,vI 0,vI 0,vI 0,vI 0,vI 0,vI 0,.sl 0 5 [],.sl 0 15 [],.sl 0 1 [],vI 0,.sl 0 1 []],[.sl 0 31 []]]) (fun st3
 => aa (cell (ent st3 0) 0) fun z24=>ah 31 (cell (ent st3 2) 0) fun n25 c26=>ifK (decide ((n25 : Int) = (0 : Int))) (K [[vI 0,vI 0,vI 0,vI
 0,vI 0,vI 0,vI 0,.v (.string (ByteArray.mk #[])),.sl 0 11 [],vI 0,vI 0,vI 0,vI 0,.sl 0 5 [],vI 0,vI 0,vI 0,vI 0,vI 0,vI 0,vI 0,vI
 0,vI 0,vI 0,vI 0,vI 0,.sl 0 5 [],.sl 0 15 [],.sl 0 1 [],vI 0,.sl 0 1 []]]) (caK Is s16 [[vI z24],[vI (n25 : Int)]] fun r27=>aa (cell
 (ent r27 0) 0) fun z28=>ckK (0<=z28/\z28 < (n25 : Int)) (K [el c26 31 (Int.toNat z28)])))
theorem w22 : Wd ⟨[s16,s59],[35],[]⟩ ⟨[(3,⟨[(1,.c .i),(2,.c (.p 0 0)),(4,.c (.p 1 0)),(5,.c (.w 2)),(6,.c .i)],[(0,.a 32 2),(1,.a 52 31),(2,.w 52 31)]⟩)],[(4,⟨[(1,.c .i),(2,.c (.p 0 0)),(4,.c (.p 1 0)),(5,.c (.w 2)),(6,.c .i)],[(0,.a 32 2),(1,.a 52 31),(2,.w 52 31)]⟩),(7,⟨[(1,.c .i),(4,.c (.p 0 0)),(5,.c (.w 1))],[(0,.a 52 31),(1,.w 52 31)]⟩)],[]⟩ s22 g22:=fun _ _ _=>by kernel_rfl
def g23 : Tx:=fun Is a K=>Lp (fun jL st2=>aa (cell (ent st2 1) 0) fun z3=>ah 3 (cell (ent st2 4) 0) fun n4 c5=>ah 11 (cell (ent st2
 3) 8) fun n6 _=>ifK (decide (z3 < (n6 : Int))) (ah 11 (cell (ent st2 3) 8) fun n8 c9=>ckK (0<=z3/\z3 < (n8 : Int)) (ckK (okI (7 * z3)) (ah
 1 (cell (ent st2 0) 0) fun n10 _=>ah 1 (cell (ent st2 0) 0) fun n12 c13=>ckK (0<=(min (7 * z3) (n10 : Int))/\(min (7 * z3) (n10 : Int)) <=
 (n12 : Int)/\(n12 : Int)<=(n12 : Int)) (caK Is s17 [ent st2 2,sub (el c9 11 (Int.toNat z3)) 4 5,[.sl (Int.toNat (n12 : Int) - Int.toNat (min (7
 * z3) (n10 : Int))) 1 (sub c13 (Int.toNat (min (7 * z3) (n10 : Int)) * 1) ((Int.toNat (n12 : Int) - Int.toNat (min (7 * z3) (n10 : Int))) * 1))]]
 fun r14=>ah 3 (cell (ent r14 1) 0) fun n15 c16=>ckK (room (n4+1) 41) (ckK (okI (z3+1)) (jL [[cell (ent st2 0) 0],[vI (z3+1)],ent
 st2 2,ent st2 3,[.sl (n4+1) 3 (c5++[cell (ent r14 0) 0,cell (ent r14 0) 1,.sl n15 3 c16])]])))))) (K [[.sl n4 3 c5]])) [[cell (ent a 2) 0],
 [vI 0],ent a 0,ent a 1,[.sl 0 3 []]]
theorem w23 : Wd ⟨[s17],[35],[]⟩ ⟨[(3,⟨[(2,.c .d),(3,.c (.p 0 0)),(4,.c (.p 1 0)),(7,.c (.w 2)),(8,.c .i)],[(0,.a 32 2),(1,.a 52 31),(2,.w 26 3)]⟩)],[],[]⟩ s23 g23:=fun _ _ _=>by kernel_rfl
def g17 : Tx:=fun Is a K=>caK Is s43 [ent a 0,ent a 1,[cell (ent a 2) 0],[vI 0],[vI 1]] fun r1=>aa (cell (ent r1 1) 0) fun _=>ah 3
 (cell (ent r1 2) 0) fun n3 c4=>caK Is s44 [[cell (ent r1 0) 0,cell (ent r1 0) 1,.sl n3 3 c4]] fun r5=>aa (cell (ent r5 0) 0) fun z6=>ifK
 (decide ((256 : Int) < z6)) (caK Is s46 [ent a 0,ent a 1] fun r7=>aa (cell (ent r7 1) 0) fun _=>ah 3 (cell (ent r7 2) 0) fun n9 c10=>K
 [[cell (ent r7 0) 0,cell (ent r7 0) 1],[.sl n9 3 c10]]) (caK Is s45 [[cell (ent r1 0) 0,cell (ent r1 0) 1,.sl n3 3 c4]] fun r11=>aa (cell
 (ent r11 0) 0) fun z12=>ifK (decide ((24 : Int) < z12)) (caK Is s46 [ent a 0,ent a 1] fun r13=>aa (cell (ent r13 1) 0) fun _=>ah 3 (cell
 (ent r13 2) 0) fun n15 c16=>K [[cell (ent r13 0) 0,cell (ent r13 0) 1],[.sl n15 3 c16]]) (K [[cell (ent r1 0) 0,cell (ent r1 0) 1],[.sl n3 3
 c4]]))
theorem w17 : Wd ⟨[s43,s44,s45,s46],[35],[]⟩ ⟨[],[],[]⟩ s17 g17:=fun _ _ _=>by kernel_rfl
def g43 : Tx:=fun Is a K=>aa (cell (ent a 3) 0) fun z1=>aa (cell (ent a 4) 0) fun z2=>caK Is s40 [[cell (ent a 2) 0],[vI z1],[vI
 1048576]] fun r3=>aa (cell (ent r3 0) 0) fun z4=>ckK (okI (z1+1)) (aa (cell (ent a 1) 0) fun z5=>ifK (decide (z5 = (0 : Int))) (ckK ((16
 : Int) ≠ 0) (ifK (decide ((Int.tmod z4 16) = (0 : Int))) (ckK ((16 : Int) ≠ 0/\okI (Int.tdiv z4 16)) (ckK ((3 : Int) ≠ 0) (ckK (okI (1099511627776
 - (Int.tmod (Int.tdiv z4 16) 3))) (K [[vI 0,vI (1099511627776 - (Int.tmod (Int.tdiv z4 16) 3))],[vI (z1+1)],[.sl 0 3 []]])))) (ckK ((16 : Int)
 ≠ 0) (ifK (decide ((Int.tmod z4 16) = (1 : Int))) (ckK ((16 : Int) ≠ 0/\okI (Int.tdiv z4 16)) (ckK ((3 : Int) ≠ 0) (ckK (okI ((-1099511627776) +
 (Int.tmod (Int.tdiv z4 16) 3))) (K [[vI 0,vI ((-1099511627776)+(Int.tmod (Int.tdiv z4 16) 3))],[vI (z1+1)],[.sl 0 3 []]])))) (ckK ((16 : Int)
 ≠ 0/\okI (Int.tdiv z4 16)) (ckK ((9 : Int) ≠ 0) (ckK (okI ((Int.tmod (Int.tdiv z4 16) 9) - 4)) (K [[vI 0,vI ((Int.tmod (Int.tdiv z4 16) 9) - 4)],
 [vI (z1+1)],[.sl 0 3 []]])))))))) (aa (cell (ent a 1) 0) fun z6=>ifK (decide (z6 = (1 : Int))) (ckK ((2 : Int) ≠ 0) (K [[vI 1,vI (Int.tmod
 z4 2)],[vI (z1+1)],[.sl 0 3 []]])) (aa (cell (ent a 1) 0) fun z7=>ifK (decide (z7 = (2 : Int))) (ckK ((3 : Int) ≠ 0) (jn (fun k8=>ifK
 (decide ((3 : Int) < z2)) (k8 [[cell (ent a 2) 0],[vI (z1+1)],[vI z2],[vI 0],ent a 0,ent a 1,[vI 0,vI 0,.sl 0 3 []],[vI 4,vI 0],[.sl 0
 3 []]]) (k8 [[cell (ent a 2) 0],[vI (z1+1)],[vI z2],[vI (Int.tmod z4 3)],ent a 0,ent a 1,[vI 0,vI 0,.sl 0 3 []],[vI 4,vI 0],[.sl 0 3
 []]])) (fun st9=>aa (cell (ent st9 1) 0) fun z10=>aa (cell (ent st9 2) 0) fun z11=>aa (cell (ent st9 3) 0) fun z12=>ah 3 (cell (ent
 st9 8) 0) fun n13 c14=>Lp (fun next15 nc=>aa (cell (ent nc 1) 0) fun z17=>aa (cell (ent nc 2) 0) fun z18=>aa (cell (ent nc 3)
 0) fun z19=>aa (cell (ent nc 4) 0) fun z20=>ah 3 (cell (ent nc 9) 0) fun n21 c22=>ifK (decide (z20 < z19)) (ah 5 (cell (ent nc 6)
 4) fun n23 c24=>ckK (0<=(0 : Int)/\(0 : Int) < (n23 : Int)) (ckK (okI (z18+1)) (caK Is s43 [ent nc 5,el c24 5 0,[cell (ent nc 0) 0],[vI
 z17],[vI (z18+1)]] fun r25=>aa (cell (ent r25 1) 0) fun z26=>ah 3 (cell (ent r25 2) 0) fun n27 c28=>ckK (room (n21+1) 41) (ckK (okI
 (z20+1)) (next15 [[cell (ent nc 0) 0],[vI z26],[vI z18],[vI z19],[vI (z20+1)],ent nc 5,ent nc 6,ent nc 7,[cell (ent nc 8) 0,
 cell (ent nc 8) 1],[.sl (n21+1) 3 (c22++[cell (ent r25 0) 0,cell (ent r25 0) 1,.sl n27 3 c28])]]))))) (K [[cell (ent nc 8) 0,cell (ent
 nc 8) 1],[vI z17],[.sl n21 3 c22]])) [[cell (ent st9 0) 0],[vI z10],[vI z11],[vI z12],[vI 0],ent st9 4,ent st9 5,ent st9 6,[cell (ent
 st9 7) 0,cell (ent st9 7) 1],[.sl n13 3 c14]]))) (caK Is kY [ent a 0,sub (ent a 1) 1 3] fun r29=>bq (cell (ent r29 1) 0) fun _=>aa
 (cell (ent r29 0) 3) fun z31=>ifK (decide (z31 = (1 : Int))) (ah 11 (cell (ent r29 0) 8) fun n32 _=>ckK ((n32 : Int) ≠ 0) (ah 11 (cell (ent
 r29 0) 8) fun n34 c35=>ckK (0<=(Int.tmod z4 (n32 : Int))/\(Int.tmod z4 (n32 : Int)) < (n34 : Int)) (ckK (okI (z2+1)) (caK Is s43 [ent a 0,sub
 (el c35 11 (Int.toNat (Int.tmod z4 (n32 : Int)))) 4 5,[cell (ent a 2) 0],[vI (z1+1)],[vI (z2+1)]] fun r36=>aa (cell (ent r36 1) 0) fun
 z37=>ah 3 (cell (ent r36 2) 0) fun n38 c39=>K [[vI 3,vI (Int.tmod z4 (n32 : Int))],[vI z37],[.sl 1 3 [cell (ent r36 0) 0,cell (ent r36 0)
 1,.sl n38 3 c39]]])))) (jn (fun k40=>Lp (fun AM eH=>aa (cell (ent eH 1) 0) fun z44=>aa (cell (ent eH 2) 0) fun z45=>aa
 (cell (ent eH 3) 0) fun z46=>ah 3 (cell (ent eH 8) 0) fun n47 c48=>ah 11 (cell (ent eH 7) 8) fun n49 _=>ifK (decide (z46 < (n49 :
 Int))) (ah 11 (cell (ent eH 7) 8) fun n51 c52=>ckK (0<=z46/\z46 < (n51 : Int)) (ckK (okI (z45+1)) (caK Is s43 [ent eH 4,sub (el c52 11
 (Int.toNat z46)) 4 5,[cell (ent eH 0) 0],[vI z44],[vI (z45+1)]] fun r53=>aa (cell (ent r53 1) 0) fun z54=>ah 3 (cell (ent r53 2) 0)
 fun n55 c56=>ckK (room (n47+1) 41) (ckK (okI (z46+1)) (AM [[cell (ent eH 0) 0],[vI z54],[vI z45],[vI (z46+1)],ent eH 4,ent eH
 5,[cell (ent eH 6) 0,cell (ent eH 6) 1],ent eH 7,[.sl (n47+1) 3 (c48++[cell (ent r53 0) 0,cell (ent r53 0) 1,.sl n55 3 c56])]])))))
 (k40 [[vI z44],ent eH 5,[cell (ent eH 6) 0,cell (ent eH 6) 1],[.sl n47 3 c48]])) [[cell (ent a 2) 0],[vI (z1+1)],[vI z2],[vI 0],ent
 a 0,[vI 0,vI 0,.sl 0 3 []],[vI 2,vI 0],ent r29 0,[.sl 0 3 []]]) (fun ic=>aa (cell (ent ic 0) 0) fun z57=>ah 3 (cell (ent ic 3)
 0) fun n58 c59=>K [[cell (ent ic 2) 0,cell (ent ic 2) 1],[vI z57],[.sl n58 3 c59]]))))))
theorem w43 : Wd ⟨[s40,s43,kY],[35],[]⟩ ⟨[(17,⟨[(2,.c .d),(3,.c .i),(4,.c .i),(5,.c (.p 0 0)),(6,.c (.p 1 0)),(10,.c (.p 2 0)),(13,.c (.p 3 0)),(14,.c .i),(15,.c .i)],[(0,.a 32 2),(1,.a 38 5),(2,.a 26 3),(3,.b 26 [.d,.d,.w 4]),(4,.w 26 3)]⟩),(32,⟨[(2,.c .d),(3,.c .i),(4,.c .i),(5,.c (.p 0 0)),(10,.c (.p 1 0)),(13,.c (.p 2 0)),(18,.c (.p 3 0)),(22,.c .i)],[(0,.a 32 2),(1,.a 26 3),(2,.b 26 [.d,.d,.w 4]),(3,.a 52 31),(4,.w 26 3)]⟩)],[(16,⟨[(2,.c .d),(3,.c .i),(4,.c .i),(5,.c (.p 0 0)),(6,.c (.p 1 0)),(10,.c (.p 2 0)),(13,.c (.p 3 0)),(14,.c .i)],[(0,.a 32 2),(1,.a 38 5),(2,.a 26 3),(3,.b 26 [.d,.d,.w 4]),(4,.w 26 3)]⟩),(37,⟨[(3,.c .i),(10,.c (.p 0 0)),(13,.c (.p 1 0))],[(0,.a 26 3),(1,.b 26 [.d,.d,.w 2]),(2,.w 26 3)]⟩)],[]⟩ s43 g43:=fun _ _ _=>by kernel_rfl
def g44 : Tx:=fun Is a K=>Lp (fun jL st2=>aa (cell (ent st2 0) 0) fun z3=>aa (cell (ent st2 1) 0) fun z4=>ah 3 (cell (ent st2 2) 2)
 fun n5 _=>ifK (decide (z4 < (n5 : Int))) (ah 3 (cell (ent st2 2) 2) fun n7 c8=>ckK (0<=z4/\z4 < (n7 : Int)) (caK Is s44 [el c8 3 (Int.toNat
 z4)] fun r9=>aa (cell (ent r9 0) 0) fun z10=>ckK (okI (z3+z10)) (ckK (okI (z4+1)) (jL [[vI (z3+z10)],[vI (z4+1)],ent st2 2]))))
 (K [[vI z3]])) [[vI 1],[vI 0],ent a 0]
theorem w44 : Wd ⟨[s44],[35],[]⟩ ⟨[(3,⟨[(1,.c (.p 0 0)),(3,.c .i),(4,.c .i)],[(0,.a 26 3)]⟩)],[],[]⟩ s44 g44:=fun _ _ _=>by kernel_rfl
def DN : Tx:=fun Is a K=>caK Is C8 [ent a 0,ent a 1,[vI 1]] fun r1=>bq (cell (ent r1 0) 0) fun b2=>K [[vB b2]]
theorem w101 : Wd ⟨[C8],[35],[]⟩ ⟨[],[],[]⟩ s101 DN:=fun _ _ _=>by kernel_rfl
def g110 : Tx:=fun Is a K=>aa (cell (ent a 2) 0) fun z1=>ifK (decide ((24 : Int) < z1)) (K [[vB false]]) (aa (cell (ent a 1) 0) fun z2 =>
 ifK (decide (z2 = (2 : Int))) (aa (cell (sub (ent a 1) 1 3) 0) fun z3=>aa (cell (sub (ent a 1) 1 3) 1) fun z4=>aa (cell (sub (ent a 1) 1
 3) 2) fun z5=>ifK (decide (z3 = (0 : Int)/\z4 = (0 : Int)/\z5 = (0 : Int))) (ah 5 (cell (ent a 1) 4) fun n6 _=>ifK (decide ((n6 : Int) = (1
 : Int))) (ah 5 (cell (ent a 1) 4) fun n8 c9=>ckK (0<=(0 : Int)/\(0 : Int) < (n8 : Int)) (ckK (okI (z1+1)) (caK Is C8 [ent a 0,el c9 5 0,
 [vI (z1+1)]] fun r10=>bq (cell (ent r10 0) 0) fun b11=>K [[vB b11]]))) (K [[vB false]])) (K [[vB false]])) (ah 5 (cell (ent a 1) 4) fun
 n12 _=>ifK (decide ((0 : Int) < (n12 : Int))) (K [[vB false]]) (aa (cell (ent a 1) 0) fun z14=>ifK (decide (z14 = (3 : Int))) (caK Is kY
 [ent a 0,sub (ent a 1) 1 3] fun r15=>bq (cell (ent r15 1) 0) fun b16=>ifK b16 (aa (cell (ent r15 0) 3) fun z17=>ifK (decide (z17 = (0 :
 Int))) (K [[vB true]]) (aa (cell (ent r15 0) 3) fun z18=>K [[vB (decide (z18 = (1 : Int)))]])) (K [[vB false]])) (aa (cell (sub (ent a 1) 1 3)
 0) fun z19=>aa (cell (sub (ent a 1) 1 3) 1) fun z20=>aa (cell (sub (ent a 1) 1 3) 2) fun z21=>ifK (decide (z19 = (0 : Int)/\z20 = (0 :
 Int)/\z21 = (0 : Int))) (aa (cell (ent a 1) 0) fun z22=>ifK (decide (z22 = (0 : Int))) (K [[vB true]]) (aa (cell (ent a 1) 0) fun z23=>K
 [[vB (decide (z23 = (1 : Int)))]])) (K [[vB false]])))))
theorem w110 : Wd ⟨[kY,C8],[35],[]⟩ ⟨[],[],[]⟩ C8 g110:=fun _ _ _=>by kernel_rfl
def g45 : Tx:=fun Is a K=>Lp (fun jL st2=>aa (cell (ent st2 0) 0) fun z3=>aa (cell (ent st2 1) 0) fun z4=>ah 3 (cell (ent st2 2) 2)
 fun n5 _=>ifK (decide (z4 < (n5 : Int))) (ah 3 (cell (ent st2 2) 2) fun n7 c8=>ckK (0<=z4/\z4 < (n7 : Int)) (caK Is s45 [el c8 3 (Int.toNat
 z4)] fun r9=>aa (cell (ent r9 0) 0) fun z10=>ckK (okI (z4+1)) (jL [[vI (max z3 z10)],[vI (z4+1)],ent st2 2]))) (ckK (okI (z3+1)) (K
 [[vI (z3+1)]]))) [[vI 0],[vI 0],ent a 0]
theorem w45 : Wd ⟨[s45],[35],[]⟩ ⟨[(3,⟨[(1,.c (.p 0 0)),(3,.c .i),(4,.c .i)],[(0,.a 26 3)]⟩)],[],[]⟩ s45 g45:=fun _ _ _=>by kernel_rfl
def g24 : Tx:=fun Is a K=>aa (cell (ent a 1) 0) fun z1=>aa (cell (ent a 2) 0) fun z2=>aa (cell (ent a 3) 0) fun z3=>jn (fun k4=>ifK
 (decide ((0 : Int) < z1)) (Lp (fun next6 st7=>aa (cell (ent st7 0) 0) fun z8=>aa (cell (ent st7 1) 0) fun z9=>aa (cell (ent st7 2) 0)
 fun z10=>aa (cell (ent st7 3) 0) fun z11=>ah 3 (cell (ent st7 4) 2) fun n12 _=>ifK (decide (z11 < (n12 : Int))) (ah 3 (cell (ent st7 4)
 2) fun n14 c15=>ckK (0<=z11/\z11 < (n14 : Int)) (caK Is s44 [el c15 3 (Int.toNat z11)] fun r16=>aa (cell (ent r16 0) 0) fun z17=>ifK
 (decide (z8<=z17)) (ah 3 (cell (ent st7 4) 2) fun n18 c19=>ckK (room (0+n18) 41) (ckK (0<=z11/\z11 < (0+n18 : Int)) (ckK (okI (z8 - 1))
 (caK Is s24 [el c19 3 (Int.toNat z11),[vI (z8 - 1)],[vI z9],[vI z10]] fun r20=>ckK (0<=z11/\z11 < (0+n18 : Int)) (K [[cell (ent st7 4) 0,
 cell (ent st7 4) 1,.sl (0+n18) 3 (upd c19 ((Int.toNat z11) * 3+0) (ent r20 0))]]))))) (ckK (okI (z8 - z17)) (ckK (okI (z11+1)) (next6 [[vI
 (z8 - z17)],[vI z9],[vI z10],[vI (z11+1)],ent st7 4,ent st7 5]))))) (k4 [[vI z9],[vI z10],ent st7 4,ent st7 5])) [[vI z1],[vI z2],[vI
 z3],[vI 0],ent a 0,[vI 0,vI 0,.sl 0 3 []]]) (k4 [[vI z2],[vI z3],ent a 0,[vI 0,vI 0,.sl 0 3 []]])) (fun st5=>aa (cell (ent st5 0) 0)
 fun z21=>aa (cell (ent st5 1) 0) fun z22=>ah 3 (cell (ent st5 2) 2) fun n23 c24=>ckK (room (0+n23) 41) (caK Is s16 [[vI z21],[vI 5]]
 fun r25=>aa (cell (ent r25 0) 0) fun z26=>ifK (decide (z26 = (0 : Int))) (K [[vI z22,cell (ent st5 2) 1,.sl (0+n23) 3 c24]]) (ifK (decide
 (z26 = (1 : Int))) (K [[cell (ent st5 2) 0,vI z22,.sl (0+n23) 3 c24]]) (ifK (decide (z26 = (2 : Int))) (aa (cell (ent st5 2) 1) fun z27=>ckK
 (okI (z27+1)) (K [[cell (ent st5 2) 0,vI (z27+1),.sl (0+n23) 3 c24]])) (ifK (decide (z26 = (3 : Int))) (caK Is s16 [[vI z22],[vI 5]] fun
 r28=>aa (cell (ent r28 0) 0) fun z29=>ckK (room (0+n23+1) 41) (K [[cell (ent st5 2) 0,cell (ent st5 2) 1,.sl (0+n23+1) 3 (c24 ++
 ([vI z29,vI 0,.sl 0 3 []]))]])) (ifK (decide (z26 = (4 : Int))) (ifK (decide ((0 : Int) < (0+n23 : Int))) (ckK (0<=(1 : Int)/\(1 : Int)<=(0 +
 n23 : Int)/\(0+n23 : Int)<=(0+n23 : Int)) (K [[cell (ent st5 2) 0,cell (ent st5 2) 1,.sl (Int.toNat (0+n23 : Int) - Int.toNat 1) 3 (sub
 c24 (Int.toNat 1 * 3) ((Int.toNat (0+n23 : Int) - Int.toNat 1) * 3))]])) (K [[cell (ent st5 2) 0,cell (ent st5 2) 1,.sl (0+n23) 3 c24]])) (K
 [[cell (ent st5 2) 0,cell (ent st5 2) 1,.sl (0+n23) 3 c24]])))))))
theorem w24 : Wd ⟨[s16,s24,s44],[35],[]⟩ ⟨[(3,⟨[(1,.c .i),(2,.c .i),(3,.c .i),(4,.c (.p 0 0)),(8,.c (.p 1 0)),(9,.c .i)],[(0,.a 26 3),(1,.a 26 3)]⟩)],[(12,⟨[(2,.c .i),(3,.c .i),(4,.c (.p 0 0)),(8,.c (.p 1 0))],[(0,.a 26 3),(1,.a 26 3)]⟩)],[]⟩ s24 g24:=fun _ _ _=>by kernel_rfl
def g25 : Tx:=fun Is a K=>aa (cell (ent a 0) 0) fun z1=>caK Is s16 [[vI z1],[vI 60]] fun r2=>aa (cell (ent r2 0) 0) fun z3=>K [[.sl 4 1
 [vI 65536,vI z3,vI 0,vI (-5)]]]
theorem w25 : Wd ⟨[s16],[35],[]⟩ ⟨[],[],[]⟩ s25 g25:=fun _ _ _=>by kernel_rfl
def g27 : Tx:=fun Is a K=>aa (cell (ent a 3) 0) fun z1=>caK Is kY [ent a 0,ent a 1] fun r2=>bq (cell (ent r2 1) 0) fun b3=>ifK (!b3)
 (K [[vI 0,vI 0,.sl 0 3 []],[vI 0],[vI 6]]) (caK Is s59 [ent r2 0] fun r4=>bq (cell (ent r4 0) 0) fun b5=>ifK (!b5) (K [[vI 0,vI 0,.sl 0
 3 []],[vI 0],[vI 6]]) (ah 3 (cell (ent a 2) 0) fun n6 _=>ah 11 (cell (ent r2 0) 8) fun n8 _=>ifK (!(decide ((n6 : Int) = (n8 : Int)))) (K
 [[vI 0,vI 0,.sl 0 3 []],[vI 0],[vI 1]]) (jn (fun k10=>Lp (fun next12 jH=>aa (cell (ent jH 1) 0) fun z14=>aa (cell (ent jH 2) 0)
 fun z15=>ah 3 (cell (ent jH 0) 0) fun n16 _=>ifK (decide (z15 < (n16 : Int))) (ah 11 (cell (ent jH 5) 8) fun n18 c19=>ckK (0<=z15 /\
 z15 < (n18 : Int)) (ah 3 (cell (ent jH 0) 0) fun n20 c21=>ckK (0<=z15/\z15 < (n20 : Int)) (caK Is s64 [ent jH 3,sub (el c19 11 (Int.toNat
 z15)) 4 5,el c21 3 (Int.toNat z15)] fun r22=>bq (cell (ent r22 0) 0) fun b23=>ifK (!b23) (K [[vI 0,vI 0,.sl 0 3 []],[vI 0],[vI 1]]) (ckK
 (okI (z15+1)) (next12 [[cell (ent jH 0) 0],[vI z14],[vI (z15+1)],ent jH 3,ent jH 4,ent jH 5]))))) (k10 [[cell (ent jH 0) 0],[vI
 z14],ent jH 3,ent jH 4,ent jH 5])) [[cell (ent a 2) 0],[vI z1],[vI 0],ent a 0,[vI 0,vI 0,.sl 0 3 []],ent r2 0]) (fun jI=>aa
 (cell (ent jI 1) 0) fun z24=>caK Is s65 [ent jI 4,[cell (ent jI 0) 0],[cell (ent jI 2) 0,cell (ent jI 2) 1,vI z24,vI 0,vI 0]] fun
 r25=>aa (cell (ent r25 1) 4) fun z26=>ifK (!(decide (z26 = (0 : Int)))) (K [[vI 0,vI 0,.sl 0 3 []],[vI 0],[cell (ent r25 1) 4]]) (K [ent
 r25 0,[cell (ent r25 1) 3],[vI 0]])))))
theorem w27 : Wd ⟨[kY,s59,s64,s65],[35],[]⟩ ⟨[(7,⟨[(2,.c .d),(3,.c .i),(4,.c (.p 0 0)),(8,.c (.p 1 0)),(11,.c (.p 2 0)),(13,.c .i)],[(0,.a 32 2),(1,.a 26 3),(2,.a 52 31)]⟩)],[(11,⟨[(2,.c .d),(3,.c .i),(4,.c (.p 0 0)),(8,.c (.p 1 0)),(11,.c (.p 2 0))],[(0,.a 32 2),(1,.a 26 3),(2,.a 52 31)]⟩)],[]⟩ s27 g27:=fun _ _ _=>by kernel_rfl
def g64 : Tx:=fun Is a K=>caK Is s44 [ent a 2] fun r1=>aa (cell (ent r1 0) 0) fun z2=>ifK (decide (z2<=(256 : Int))) (caK Is s45 [ent a 2]
 fun r3=>aa (cell (ent r3 0) 0) fun z4=>ifK (decide (z4<=(24 : Int))) (caK Is s92 [ent a 0,ent a 1,ent a 2] fun r5=>bq (cell (ent r5 0)
 0) fun b6=>K [[vB b6]]) (K [[vB false]])) (K [[vB false]])
theorem w64 : Wd ⟨[s44,s45,s92],[35],[]⟩ ⟨[],[],[]⟩ s64 g64:=fun _ _ _=>by kernel_rfl
def g92 : Tx:=fun Is a K=>caK Is s101 [ent a 0,ent a 1] fun r1=>bq (cell (ent r1 0) 0) fun b2=>ifK (!b2) (K [[vB false]]) (aa (cell (ent
 a 1) 0) fun z3=>ifK (decide (z3 = (0 : Int))) (aa (cell (ent a 2) 0) fun z4=>ifK (decide (z4 = (0 : Int))) (ah 3 (cell (ent a 2) 2) fun n5 _
 => ifK (decide ((n5 : Int) = (0 : Int))) (aa (cell (ent a 2) 1) fun z7=>ifK (decide ((-1099511627776 : Int)<=z7)) (aa (cell (ent a 2) 1) fun
 z8=>K [[vB (decide (z8<=(1099511627776 : Int)))]]) (K [[vB false]])) (K [[vB false]])) (K [[vB false]])) (aa (cell (ent a 1) 0) fun z9=>ifK
 (decide (z9 = (1 : Int))) (aa (cell (ent a 2) 0) fun z10=>ifK (decide (z10 = (1 : Int))) (ah 3 (cell (ent a 2) 2) fun n11 _=>ifK (decide
 ((n11 : Int) = (0 : Int))) (aa (cell (ent a 2) 1) fun z13=>ifK (decide (z13 = (0 : Int))) (K [[vB true]]) (aa (cell (ent a 2) 1) fun z14=>K
 [[vB (decide (z14 = (1 : Int)))]])) (K [[vB false]])) (K [[vB false]])) (aa (cell (ent a 1) 0) fun z15=>ifK (decide (z15 = (2 : Int))) (Lp (fun
 tB cR=>aa (cell (ent cR 0) 0) fun z18=>ah 3 (cell (ent cR 3) 2) fun n19 _=>ifK (decide (z18 < (n19 : Int))) (ah 5 (cell (ent
 cR 2) 4) fun n21 c22=>ckK (0<=(0 : Int)/\(0 : Int) < (n21 : Int)) (ah 3 (cell (ent cR 3) 2) fun n23 c24=>ckK (0<=z18/\z18 < (n23 :
 Int)) (caK Is s92 [ent cR 1,el c22 5 0,el c24 3 (Int.toNat z18)] fun r25=>bq (cell (ent r25 0) 0) fun b26=>ifK (!b26) (K [[vB false]])
 (ckK (okI (z18+1)) (tB [[vI (z18+1)],ent cR 1,ent cR 2,ent cR 3]))))) (aa (cell (ent cR 3) 0) fun z27=>ifK (decide (z27 = (4
 : Int))) (aa (cell (ent cR 3) 1) fun z28=>K [[vB (decide (z28 = (0 : Int)))]]) (K [[vB false]]))) [[vI 0],ent a 0,ent a 1,ent a 2]) (caK Is
 kY [ent a 0,sub (ent a 1) 1 3] fun r29=>bq (cell (ent r29 1) 0) fun _=>aa (cell (ent r29 0) 3) fun z31=>ifK (decide (z31 = (1 : Int)))
 (aa (cell (ent a 2) 0) fun z32=>ifK (!(decide (z32 = (3 : Int)))) (K [[vB false]]) (aa (cell (ent a 2) 1) fun z33=>ifK (decide (z33 < (0 :
 Int))) (K [[vB false]]) (ah 11 (cell (ent r29 0) 8) fun n34 _=>aa (cell (ent a 2) 1) fun z36=>ifK (decide ((n34 : Int)<=z36)) (K [[vB
 false]]) (ah 3 (cell (ent a 2) 2) fun n37 _=>ifK (!(decide ((n37 : Int) = (1 : Int)))) (K [[vB false]]) (aa (cell (ent a 2) 1) fun z39=>ah
 11 (cell (ent r29 0) 8) fun n40 c41=>ckK (0<=z39/\z39 < (n40 : Int)) (ah 3 (cell (ent a 2) 2) fun n42 c43=>ckK (0<=(0 : Int)/\(0 : Int) <
 (n42 : Int)) (caK Is s92 [ent a 0,sub (el c41 11 (Int.toNat z39)) 4 5,el c43 3 0] fun r44=>bq (cell (ent r44 0) 0) fun b45=>K [[vB
 b45]]))))))) (aa (cell (ent a 2) 0) fun z46=>ifK (!(decide (z46 = (2 : Int)))) (K [[vB false]]) (aa (cell (ent a 2) 1) fun z47=>ifK
 (!(decide (z47 = (0 : Int)))) (K [[vB false]]) (ah 3 (cell (ent a 2) 2) fun n48 _=>ah 11 (cell (ent r29 0) 8) fun n50 _=>ifK (!(decide ((n48
 : Int) = (n50 : Int)))) (K [[vB false]]) (Lp (fun next52 jz=>aa (cell (ent jz 0) 0) fun z54=>ah 3 (cell (ent jz 2) 2) fun n55 _=>ifK
 (decide (z54 < (n55 : Int))) (ah 11 (cell (ent jz 3) 8) fun n57 c58=>ckK (0<=z54/\z54 < (n57 : Int)) (ah 3 (cell (ent jz 2) 2) fun n59
 c60=>ckK (0<=z54/\z54 < (n59 : Int)) (caK Is s92 [ent jz 1,sub (el c58 11 (Int.toNat z54)) 4 5,el c60 3 (Int.toNat z54)] fun r61=>bq
 (cell (ent r61 0) 0) fun b62=>ifK (!b62) (K [[vB false]]) (ckK (okI (z54+1)) (next52 [[vI (z54+1)],ent jz 1,ent jz 2,ent jz 3])))))
 (K [[vB true]])) [[vI 0],ent a 0,ent a 2,ent r29 0]))))))))
theorem w92 : Wd ⟨[kY,s92,s101],[35],[]⟩ ⟨[(9,⟨[(3,.c (.p 0 0)),(4,.c (.p 1 0)),(5,.c (.p 2 0)),(7,.c .i)],[(0,.a 32 2),(1,.a 38 5),(2,.a 26 3)]⟩),(22,⟨[(3,.c (.p 0 0)),(5,.c (.p 1 0)),(8,.c (.p 2 0)),(10,.c .i)],[(0,.a 32 2),(1,.a 26 3),(2,.a 52 31)]⟩)],[],[]⟩ s92 g92:=fun _ _ _=>by kernel_rfl
def g65 : Tx:=fun Is a K=>jn (fun k1=>Lp (fun eW st4=>aa (cell (ent st4 1) 0) fun z5=>ah 7 (cell (ent st4 5) 0) fun n6 c7=>ah 11
 (cell (ent st4 3) 8) fun n8 _=>ifK (decide (z5 < (n8 : Int))) (ah 3 (cell (ent st4 0) 0) fun n10 _=>ifK (decide (z5 < (n10 : Int))) (ah 11
 (cell (ent st4 3) 8) fun n12 c13=>ckK (0<=z5/\z5 < (n12 : Int)) (ah 3 (cell (ent st4 0) 0) fun n14 c15=>ckK (0<=z5/\z5 < (n14 : Int)) (caK
 Is s93 [[.sl n6 7 c7],sub (el c13 11 (Int.toNat z5)) 0 3,[vI 0],el c15 3 (Int.toNat z5)] fun r16=>ah 7 (cell (ent r16 0) 0) fun n17 c18 =>
 ckK (okI (z5+1)) (eW [[cell (ent st4 0) 0],[vI (z5+1)],ent st4 2,ent st4 3,ent st4 4,[.sl n17 7 c18]])))) (k1 [[.sl n6 7 c7],ent st4 2,
 ent st4 3,ent st4 4])) (k1 [[.sl n6 7 c7],ent st4 2,ent st4 3,ent st4 4])) [[cell (ent a 1) 0],[vI 0],ent a 2,ent a 0,[vI 0,vI 0,.sl 0 3
 []],[.sl 0 7 []]]) (fun st2=>caK Is s94 [sub (ent st2 2) 14 15,[cell (ent st2 0) 0],ent st2 1] fun r19=>K [ent r19 0,ent r19 1])
theorem w65 : Wd ⟨[s93,s94],[35],[]⟩ ⟨[(3,⟨[(0,.c (.p 0 0)),(2,.c .d),(4,.c (.p 1 0)),(6,.c (.p 2 0)),(7,.c (.w 3)),(8,.c .i)],[(0,.a 113 5),(1,.a 52 31),(2,.a 26 3),(3,.w 148 7)]⟩)],[(6,⟨[(0,.c (.p 0 0)),(4,.c (.p 1 0)),(6,.c (.p 2 0)),(7,.c .d)],[(0,.a 113 5),(1,.a 52 31),(2,.a 26 3)]⟩)],[]⟩ s65 g65:=fun _ _ _=>by kernel_rfl
def g93 : Tx:=fun _ a K=>aa (cell (ent a 2) 0) fun z1=>ah 7 (cell (ent a 0) 0) fun n2 c3=>ckK (room (0+n2) 73) (ckK (room (0+n2+1)
 73) (K [[.sl (0+n2+1) 7 (c3++(cls (ent a 1) 0 3 (vI z1::cls (ent a 3) 0 3 [])))]]))
theorem w93 : Wd ⟨[],[35],[]⟩ ⟨[],[],[]⟩ s93 g93:=fun _ _ _=>by kernel_rfl
def g94 : Tx:=fun Is a K=>aa (cell (ent a 2) 4) fun z1=>ifK (!(decide (z1 = (0 : Int)))) (K [[vI 0,vI 0,.sl 0 3 []],ent a 2]) (aa (cell
 (ent a 2) 3) fun z2=>aa (cell (ent a 2) 2) fun z3=>ifK (decide (z3<=z2)) (K [[vI 0,vI 0,.sl 0 3 []],cls (ent a 2) 0 4 [vI 18]]) (aa
 (cell (ent a 2) 3) fun z4=>ckK (okI (z4+1)) (caK Is E3 [ent a 0,[cell (ent a 1) 0],cls (ent a 2) 0 3 [vI (z4+1),cell (ent a 2) 4]] fun r5
 => jn (fun k6=>aa (cell (ent r5 1) 4) fun z8=>ifK (decide (z8 = (0 : Int))) (caK Is s44 [ent r5 0] fun r9=>aa (cell (ent r9 0) 0) fun z10
 => ifK (decide ((256 : Int) < z10)) (k6 [cls (ent r5 1) 0 4 [vI 4],[vI 0,vI 0,.sl 0 3 []],ent r5 0]) (caK Is s45 [ent r5 0] fun r11=>aa
 (cell (ent r11 0) 0) fun z12=>ifK (decide ((24 : Int) < z12)) (k6 [cls (ent r5 1) 0 4 [vI 4],[vI 0,vI 0,.sl 0 3 []],ent r5 0]) (k6 [ent r5 1,
 [vI 0,vI 0,.sl 0 3 []],ent r5 0]))) (k6 [ent r5 1,[vI 0,vI 0,.sl 0 3 []],ent r5 0])) (fun st7=>aa (cell (ent st7 0) 4) fun z13=>ifK
 (!(decide (z13 = (0 : Int)))) (K [[vI 0,vI 0,.sl 0 3 []],ent st7 0]) (K [ent st7 2,ent st7 0])))))
theorem w94 : Wd ⟨[s44,s45,E3],[35],[]⟩ ⟨[],[(10,⟨[(0,.c (.p 0 0)),(6,.c (.p 1 0)),(7,.c (.p 2 0))],[(0,.a 113 5),(1,.a 26 3),(2,.a 26 3)]⟩)],[]⟩ s94 g94:=fun _ _ _=>by kernel_rfl
def g108 : Tx:=fun Is a K=>aa (cell (ent a 0) 3) fun z1=>ifK (decide (z1 = (0 : Int))) (K [[vI 0,cell (ent a 0) 4,.sl 0 3 []],ent a 2])
 (aa (cell (ent a 0) 3) fun z2=>ifK (decide (z2 = (1 : Int))) (K [[vI 1,cell (ent a 0) 4,.sl 0 3 []],ent a 2]) (aa (cell (ent a 0) 3) fun z3
 => ifK (decide (z3 = (2 : Int))) (caK Is s114 [[cell (ent a 1) 0],sub (ent a 0) 5 3,[cell (ent a 0) 4]] fun r4=>K [ent r4 0,ent a 2]) (aa
 (cell (ent a 0) 3) fun z5=>ifK (decide (z5 = (3 : Int))) (caK Is uX [[cell (ent a 0) 13],[cell (ent a 1) 0],ent a 2] fun r6=>ah 3 (cell
 (ent r6 0) 0) fun n7 c8=>caK Is kY [sub (ent r6 1) 0 2,sub (ent a 0) 5 3] fun r9=>bq (cell (ent r9 1) 0) fun _=>caK Is s65 [ent r9 0,
 [.sl n7 3 c8],ent r6 1] fun r11=>K [ent r11 0,ent r11 1]) (aa (cell (ent a 0) 3) fun z12=>ifK (decide (z12 = (7 : Int))) (caK Is uX [[cell
 (ent a 0) 13],[cell (ent a 1) 0],ent a 2] fun r13=>ah 3 (cell (ent r13 0) 0) fun n14 c15=>K [[vI 2,vI 0,.sl n14 3 c15],ent r13 1]) (aa
 (cell (ent a 0) 3) fun z16=>ifK (decide (z16 = (9 : Int))) (caK Is uX [[cell (ent a 0) 13],[cell (ent a 1) 0],ent a 2] fun r17=>ah 3 (cell
 (ent r17 0) 0) fun n18 c19=>K [[vI 3,cell (ent a 0) 4,.sl n18 3 c19],ent r17 1]) (aa (cell (ent a 0) 3) fun z20=>ifK (decide (z20 = (11 :
 Int))) (caK Is uX [[cell (ent a 0) 13],[cell (ent a 1) 0],ent a 2] fun r21=>ah 3 (cell (ent r21 0) 0) fun n22 c23=>K [[vI 4,vI 0,.sl n22
 3 c23],ent r21 1]) (aa (cell (ent a 0) 3) fun z24=>ifK (decide (z24 = (4 : Int))) (caK Is uX [[cell (ent a 0) 13],[cell (ent a 1) 0],ent a
 2] fun r25=>ah 3 (cell (ent r25 0) 0) fun n26 c27=>aa (cell (ent r25 1) 4) fun z28=>ifK (!(decide (z28 = (0 : Int)))) (K [[vI 0,vI 0,.sl
 0 3 []],ent r25 1]) (caK Is s13 [[cell (ent a 0) 4],[.sl n26 3 c27]] fun r29=>K [ent r29 0,ent r25 1])) (ah 15 (cell (ent a 0) 13) fun n30
 c31=>ckK (0<=(0 : Int)/\(0 : Int) < (n30 : Int)) (caK Is s94 [el c31 15 0,[cell (ent a 1) 0],ent a 2] fun r32=>aa (cell (ent r32 1) 4) fun
 z33=>ifK (!(decide (z33 = (0 : Int)))) (K [[vI 0,vI 0,.sl 0 3 []],ent r32 1]) (aa (cell (ent a 0) 3) fun z34=>ifK (decide (z34 = (5 :
 Int))) (aa (cell (ent r32 0) 1) fun z35=>ckK (okI (2 - z35)) (ah 15 (cell (ent a 0) 13) fun n36 c37=>ckK (0<=(2 - z35)/\(2 - z35) < (n36 :
 Int)) (caK Is s94 [el c37 15 (Int.toNat (2 - z35)),[cell (ent a 1) 0],ent r32 1] fun r38=>K [ent r38 0,ent r38 1]))) (aa (cell (ent a 0) 3)
 fun z39=>ifK (decide (z39 = (6 : Int))) (ah 15 (cell (ent a 0) 13) fun n40 c41=>ckK (0<=(1 : Int)/\(1 : Int) < (n40 : Int)) (caK Is s93
 [[cell (ent a 1) 0],sub (ent a 0) 0 3,[vI 0],ent r32 0] fun r42=>ah 7 (cell (ent r42 0) 0) fun n43 c44=>caK Is s94 [el c41 15 1,[.sl n43 7
 c44],ent r32 1] fun r45=>K [ent r45 0,ent r45 1])) (aa (cell (ent a 0) 3) fun z46=>ifK (decide (z46 = (8 : Int))) (aa (cell (ent a 0) 4)
 fun z47=>ah 3 (cell (ent r32 0) 2) fun n48 c49=>ckK (0<=z47/\z47 < (n48 : Int)) (K [el c49 3 (Int.toNat z47),ent r32 1])) (aa (cell (ent
 a 0) 3) fun z50=>ifK (decide (z50 = (10 : Int))) (aa (cell (ent r32 0) 1) fun z51=>ckK (okI (1+z51)) (ah 15 (cell (ent a 0) 13) fun n52
 c53=>ckK (0<=(1+z51)/\(1+z51) < (n52 : Int)) (ah 3 (cell (ent r32 0) 2) fun n54 c55=>ckK (0<=(0 : Int)/\(0 : Int) < (n54 : Int)) (caK
 Is s93 [[cell (ent a 1) 0],sub (ent a 0) 0 3,[cell (ent r32 0) 1],el c55 3 0] fun r56=>ah 7 (cell (ent r56 0) 0) fun n57 c58=>caK Is s94
 [el c53 15 (Int.toNat (1+z51)),[.sl n57 7 c58],ent r32 1] fun r59=>K [ent r59 0,ent r59 1])))) (ah 15 (cell (ent a 0) 13) fun n60 c61 =>
 ckK (0<=(1 : Int)/\(1 : Int) < (n60 : Int)) (caK Is s94 [el c61 15 1,[cell (ent a 1) 0],ent r32 1] fun r62=>Lp (fun next79 nO=>aa (cell
 (ent nO 1) 0) fun z81=>ah 3 (cell (ent nO 5) 2) fun n82 _=>ifK (decide (z81 < (n82 : Int))) (ah 15 (cell (ent nO 3) 13) fun n84 c85 =>
 ckK (0<=(2 : Int)/\(2 : Int) < (n84 : Int)) (ah 3 (cell (ent nO 5) 2) fun n86 c87=>ckK (0<=z81/\z81 < (n86 : Int)) (caK Is s93 [[cell (ent
 nO 0) 0],sub (ent nO 3) 0 3,[vI 0],el c87 3 (Int.toNat z81)] fun r88=>ah 7 (cell (ent r88 0) 0) fun n89 c90=>caK Is s93 [[.sl n89 7
 c90],sub (ent nO 3) 0 3,[vI 1],ent nO 6] fun r91=>ah 7 (cell (ent r91 0) 0) fun n92 c93=>caK Is s94 [el c85 15 2,[.sl n92 7 c93],ent
 nO 2] fun r94=>ckK (okI (z81+1)) (next79 [[cell (ent nO 0) 0],[vI (z81+1)],ent r94 1,ent nO 3,ent nO 4,ent nO 5,ent r94 0]))))
 (K [ent nO 6,ent nO 2])) [[cell (ent a 1) 0],[vI 0],ent r62 1,ent a 0,[vI 0,vI 0,.sl 0 3 []],ent r32 0,ent r62 0])))))))))))))))
theorem w108 : Wd ⟨[s13,kY,s65,s93,s94,s114,uX],[35],[]⟩ ⟨[(37,⟨[(0,.c (.p 0 0)),(2,.c .d),(4,.c (.p 1 0)),(6,.c (.p 2 0)),(11,.c (.p 3 0)),(12,.c (.p 4 0)),(13,.c .i)],[(0,.a 113 5),(1,.a 50 15),(2,.a 26 3),(3,.a 26 3),(4,.a 26 3)]⟩)],[],[]⟩ E3 g108:=fun _ _ _=>by kernel_rfl
def g114 : Tx:=fun _ a K=>aa (cell (ent a 2) 0) fun z1=>ah 7 (cell (ent a 0) 0) fun n2 _=>ckK (okI ((n2 : Int) - 1)) (Lp (fun FG st5 =>
 aa (cell (ent st5 1) 0) fun z6=>aa (cell (ent st5 2) 0) fun z7=>ifK (decide ((0 : Int)<=z7)) (jn (fun k8=>ah 7 (cell (ent st5 0) 0) fun
 n10 c11=>ckK (0<=z7/\z7 < (n10 : Int)) (aa (cell (sub (el c11 7 (Int.toNat z7)) 0 3) 0) fun z12=>aa (cell (sub (el c11 7 (Int.toNat z7)) 0
 3) 1) fun z13=>aa (cell (sub (el c11 7 (Int.toNat z7)) 0 3) 2) fun z14=>aa (cell (ent st5 3) 0) fun z15=>aa (cell (ent st5 3) 1) fun z16
 => aa (cell (ent st5 3) 2) fun z17=>ifK (decide (z12 = z15/\z13 = z16/\z14 = z17)) (ah 7 (cell (ent st5 0) 0) fun n18 c19=>ckK (0<=z7 /\
 z7 < (n18 : Int)) (aa (cell (el c19 7 (Int.toNat z7)) 3) fun z20=>ifK (decide (z20 = z6)) (ah 7 (cell (ent st5 0) 0) fun n21 c22=>ckK (0 <=
 z7/\z7 < (n21 : Int)) (K [sub (el c22 7 (Int.toNat z7)) 4 3])) (k8 [[cell (ent st5 0) 0],[vI z6],[vI z7],ent st5 3,ent st5 4]))) (k8 [[cell
 (ent st5 0) 0],[vI z6],[vI z7],ent st5 3,ent st5 4]))) (fun st9=>aa (cell (ent st9 1) 0) fun z23=>aa (cell (ent st9 2) 0) fun z24=>ckK
 (okI (z24 - 1)) (FG [[cell (ent st9 0) 0],[vI z23],[vI (z24 - 1)],ent st9 3,ent st9 4]))) (K [[vI 0,vI 0,.sl 0 3 []]])) [[cell (ent a 0)
 0],[vI z1],[vI ((n2 : Int) - 1)],ent a 1,[vI 0,vI 0,.sl 0 3 []]])
theorem w114 : Wd ⟨[],[35],[]⟩ ⟨[(2,⟨[(0,.c .d),(2,.c .i),(4,.c (.p 0 0)),(6,.c (.p 1 0)),(7,.c .i)],[(0,.a 35 3),(1,.a 26 3)]⟩)],[(3,⟨[(0,.c .d),(2,.c .i),(4,.c (.p 0 0)),(6,.c (.p 1 0)),(7,.c .i)],[(0,.a 35 3),(1,.a 26 3)]⟩)],[]⟩ s114 g114:=fun _ _ _=>by kernel_rfl
def g115 : Tx:=fun Is a K=>Lp (fun jL st2=>aa (cell (ent st2 2) 0) fun z3=>ah 3 (cell (ent st2 4) 0) fun n4 c5=>ah 15 (cell (ent
 st2 0) 0) fun n6 _=>ifK (decide (z3 < (n6 : Int))) (ah 15 (cell (ent st2 0) 0) fun n8 c9=>ckK (0<=z3/\z3 < (n8 : Int)) (caK Is s94 [el c9 15
 (Int.toNat z3),[cell (ent st2 1) 0],ent st2 3] fun r10=>ckK (room (n4+1) 41) (ckK (okI (z3+1)) (jL [[cell (ent st2 0) 0],[cell (ent st2
 1) 0],[vI (z3+1)],ent r10 1,[.sl (n4+1) 3 (c5++((ent r10 0)++[]))]])))) (K [[.sl n4 3 c5],ent st2 3])) [[cell (ent a 0) 0],[cell (ent a
 1) 0],[vI 0],ent a 2,[.sl 0 3 []]]
theorem w115 : Wd ⟨[s94],[35],[]⟩ ⟨[(3,⟨[(0,.c (.p 0 0)),(1,.c .d),(2,.c .d),(7,.c (.w 1)),(8,.c .i)],[(0,.a 113 5),(1,.w 26 3)]⟩)],[],[]⟩ uX g115:=fun _ _ _=>by kernel_rfl
def g13 : Tx:=fun Is a K=>aa (cell (ent a 0) 0) fun z1=>ah 3 (cell (ent a 1) 0) fun n2 c3=>ckK (0<=(0 : Int)/\(0 : Int) < (n2 : Int))
 (ifK (decide (z1 = (9 : Int))) (aa (cell (el c3 3 0) 1) fun z4=>caK Is s35 [[vB (decide (z4 = (0 : Int)))]] fun r5=>K [ent r5 0]) (ifK (decide
 (z1 = (11 : Int))) (ah 3 (cell (el c3 3 0) 2) fun n6 _=>K [[vI 0,vI (n6 : Int),.sl 0 3 []]]) (ah 3 (cell (ent a 1) 0) fun n8 c9=>ckK (0 <=
 (1 : Int)/\(1 : Int) < (n8 : Int)) (ifK (decide (z1 = (0 : Int))) (aa (cell (el c3 3 0) 1) fun z10=>aa (cell (el c9 3 1) 1) fun z11=>ckK
 (okI (z10+z11)) (caK Is s36 [[vI (z10+z11)]] fun r12=>aa (cell (ent r12 0) 0) fun z13=>K [[vI 0,vI z13,.sl 0 3 []]])) (ifK (decide (z1 =
 (1 : Int))) (aa (cell (el c3 3 0) 1) fun z14=>aa (cell (el c9 3 1) 1) fun z15=>ckK (okI (z14 - z15)) (caK Is s36 [[vI (z14 - z15)]] fun r16
 => aa (cell (ent r16 0) 0) fun z17=>K [[vI 0,vI z17,.sl 0 3 []]])) (ifK (decide (z1 = (2 : Int))) (caK Is s37 [[cell (el c3 3 0) 1],[cell (el
 c9 3 1) 1]] fun r18=>aa (cell (ent r18 0) 0) fun z19=>K [[vI 0,vI z19,.sl 0 3 []]]) (ifK (decide (z1 = (3 : Int))) (aa (cell (el c9 3 1)
 1) fun z20=>ifK (decide (z20 = (0 : Int))) (K [[vI 0,vI 0,.sl 0 3 []]]) (caK Is s38 [[cell (el c3 3 0) 1],[cell (el c9 3 1) 1]] fun r21=>aa
 (cell (ent r21 0) 0) fun z22=>K [[vI 0,vI z22,.sl 0 3 []]])) (ifK (decide (z1 = (4 : Int))) (aa (cell (el c9 3 1) 1) fun z23=>ifK (decide
 (z23 = (0 : Int))) (K [[vI 0,vI 0,.sl 0 3 []]]) (caK Is s38 [[cell (el c3 3 0) 1],[cell (el c9 3 1) 1]] fun r24=>aa (cell (ent r24 0) 0) fun
 z25=>aa (cell (el c9 3 1) 1) fun z26=>ckK (okI (z26 * z25)) (aa (cell (el c3 3 0) 1) fun z27=>ckK (okI (z27 - (z26 * z25))) (K [[vI 0,vI
 (z27 - (z26 * z25)),.sl 0 3 []]])))) (ifK (decide (z1 = (5 : Int))) (aa (cell (el c3 3 0) 1) fun z28=>aa (cell (el c9 3 1) 1) fun z29=>caK
 Is s35 [[vB (decide (z28 < z29))]] fun r30=>K [ent r30 0]) (ifK (decide (z1 = (6 : Int))) (caK Is s30 [el c3 3 0,el c9 3 1] fun r31=>aa (cell
 (ent r31 0) 0) fun z32=>caK Is s35 [[vB (decide (z32 = (0 : Int)))]] fun r33=>K [ent r33 0]) (ifK (decide (z1 = (7 : Int))) (aa (cell (el c3 3
 0) 1) fun z34=>ifK (decide (z34 = (1 : Int))) (aa (cell (el c9 3 1) 1) fun z35=>caK Is s35 [[vB (decide (z35 = (1 : Int)))]] fun r36=>K [ent
 r36 0]) (caK Is s35 [[vB false]] fun r37=>K [ent r37 0])) (ifK (decide (z1 = (8 : Int))) (aa (cell (el c3 3 0) 1) fun z38=>ifK (decide (z38 =
 (1 : Int))) (caK Is s35 [[vB true]] fun r39=>K [ent r39 0]) (aa (cell (el c9 3 1) 1) fun z40=>caK Is s35 [[vB (decide (z40 = (1 : Int)))]] fun
 r41=>K [ent r41 0])) (ah 3 (cell (el c3 3 0) 2) fun n42 c43=>ckK (room (0+n42) 41) (ah 3 (cell (el c9 3 1) 2) fun n44 c45=>ckK (room (0
 + n42+n44) 41) (K [[vI 4,vI 0,.sl (0+n42+n44) 3 (c43++c45)]])))))))))))))))
theorem w13 : Wd ⟨[s30,s35,s36,s37,s38],[35],[]⟩ ⟨[],[],[]⟩ s13 g13:=fun _ _ _=>by kernel_rfl
def g35 : Tx:=fun _ a K=>bq (cell (ent a 0) 0) fun b1=>ifK b1 (K [[vI 1,vI 1,.sl 0 3 []]]) (K [[vI 1,vI 0,.sl 0 3 []]])
theorem w35 : Wd ⟨[],[35],[]⟩ ⟨[],[],[]⟩ s35 g35:=fun _ _ _=>by kernel_rfl
def g37 : Tx:=fun Is a K=>aa (cell (ent a 0) 0) fun z1=>aa (cell (ent a 1) 0) fun z2=>jn (fun k3=>ifK (decide (z1 < (0 : Int))) (ckK
 (okI (-z1)) (ckK (okI (-1)) (k3 [[vI (-z1)],[vI z2],[vI (-1)]]))) (k3 [[vI z1],[vI z2],[vI 1]])) (fun st4=>aa (cell (ent st4 0) 0) fun z5 =>
 aa (cell (ent st4 1) 0) fun z6=>aa (cell (ent st4 2) 0) fun z7=>jn (fun k8=>ifK (decide (z6 < (0 : Int))) (ckK (okI (-z6)) (ckK (okI
 (-z7)) (k8 [[vI z5],[vI (-z6)],[vI (-z7)]]))) (k8 [[vI z5],[vI z6],[vI z7]])) (fun st9=>aa (cell (ent st9 0) 0) fun z10=>aa (cell (ent
 st9 1) 0) fun z11=>aa (cell (ent st9 2) 0) fun z12=>ckK ((1048576 : Int) ≠ 0/\okI (Int.tdiv z10 1048576)) (ckK (okI ((Int.tdiv z10 1048576) *
 z11)) (ifK (decide ((1099511627776 : Int) < ((Int.tdiv z10 1048576) * z11))) (ckK (okI (z12 * 1099511627776)) (K [[vI (z12 * 1099511627776)]])) (ckK
 (okI (((Int.tdiv z10 1048576) * z11) * 1048576)) (ckK ((1048576 : Int) ≠ 0) (ckK (okI ((Int.tmod z10 1048576) * z11)) (ckK (okI ((((Int.tdiv z10
 1048576) * z11) * 1048576)+((Int.tmod z10 1048576) * z11))) (caK Is s36 [[vI ((((Int.tdiv z10 1048576) * z11) * 1048576)+((Int.tmod z10 1048576)
 * z11))]] fun r13=>aa (cell (ent r13 0) 0) fun z14=>ckK (okI (z12 * z14)) (K [[vI (z12 * z14)]]))))))))))
theorem w37 : Wd ⟨[s36],[35],[]⟩ ⟨[],[(5,⟨[(0,.c .i),(1,.c .i),(5,.c .i)],[]⟩),(8,⟨[(0,.c .i),(1,.c .i),(5,.c .i)],[]⟩)],[]⟩ s37 g37:=fun _ _ _=>by kernel_rfl
def g38 : Tx:=fun _ a K=>aa (cell (ent a 0) 0) fun z1=>aa (cell (ent a 1) 0) fun z2=>ckK (z2 ≠ 0/\okI (Int.tdiv z1 z2)) (ckK (okI
 ((Int.tdiv z1 z2) * z2)) (ifK (!(decide (((Int.tdiv z1 z2) * z2) = z1))) (ifK (!(decide (z1 < (0 : Int)) == decide (z2 < (0 : Int)))) (ckK (okI
 ((Int.tdiv z1 z2) - 1)) (K [[vI ((Int.tdiv z1 z2) - 1)]])) (K [[vI (Int.tdiv z1 z2)]])) (K [[vI (Int.tdiv z1 z2)]])))
theorem w38 : Wd ⟨[],[35],[]⟩ ⟨[],[],[]⟩ s38 g38:=fun _ _ _=>by kernel_rfl
def g7 : Tx:=fun Is a K=>aa (cell (ent a 1) 0) fun z1=>aa (cell (ent a 3) 0) fun z2=>caK Is s19 [[cell (ent a 0) 0]] fun r3=>caK Is s22
 [ent r3 0,[vI z1]] fun r4=>caK Is s23 [ent r3 0,ent r4 0,[cell (ent a 2) 0]] fun r5=>ah 3 (cell (ent r5 0) 0) fun n6 c7=>caK Is s26 [ent
 r3 0,sub (ent r4 0) 0 3,[.sl n6 3 c7],[vI 65536]] fun r8=>aa (cell (ent r8 1) 0) fun z9=>aa (cell (ent r8 2) 0) fun z10=>ifK (!(decide
 (z10 = (0 : Int)))) (caK Is s18 [] fun r11=>bq (cell (ent r11 0) 0) fun b12=>K [[vB b12]]) (caK Is s26 [ent r3 0,sub (ent r4 0) 0 3,[.sl n6
 3 c7],[vI z9]] fun r13=>aa (cell (ent r13 1) 0) fun z14=>aa (cell (ent r13 2) 0) fun z15=>caK Is s16 [[vI z2],[vI 1000]] fun r16=>aa
 (cell (ent r16 0) 0) fun z17=>ckK (okI (z9+z17)) (caK Is s26 [ent r3 0,sub (ent r4 0) 0 3,[.sl n6 3 c7],[vI (z9+z17)]] fun r18=>aa
 (cell (ent r18 1) 0) fun z19=>aa (cell (ent r18 2) 0) fun z20=>ckK (okI (z9 - 1)) (caK Is s26 [ent r3 0,sub (ent r4 0) 0 3,[.sl n6 3 c7],
 [vI (z9 - 1)]] fun r21=>aa (cell (ent r21 1) 0) fun _=>aa (cell (ent r21 2) 0) fun z23=>caK Is s20 [ent r3 0,sub (ent r4 0) 0 3] fun r24
 => aa (cell (ent r24 0) 0) fun z25=>ifK (decide ((0 : Int) < z9)) (ifK (decide (z15 = (0 : Int))) (ifK (decide (z20 = (0 : Int))) (ifK (decide
 (z23 = (18 : Int))) (ifK (decide (z14 = z9)) (ifK (decide (z19 = z9)) (caK Is s11 [ent r8 0,ent r13 0] fun r26=>bq (cell (ent r26 0) 0) fun b27
 => ifK b27 (caK Is s11 [ent r8 0,ent r18 0] fun r28=>bq (cell (ent r28 0) 0) fun b29=>ifK b29 (ifK (decide (z25 < (0 : Int))) (caK Is s18 []
 fun r30=>bq (cell (ent r30 0) 0) fun b31=>K [[vB b31]]) (ifK (decide (z9<=z25)) (caK Is s18 [] fun r32=>bq (cell (ent r32 0) 0) fun b33
 => K [[vB b33]]) (K [[vB false]]))) (K [[vB false]])) (K [[vB false]])) (K [[vB false]])) (K [[vB false]])) (K [[vB false]])) (K [[vB false]])) (K
 [[vB false]])) (K [[vB false]]))))
def g8 : Tx:=fun Is a K=>aa (cell (ent a 1) 0) fun z1=>aa (cell (ent a 3) 0) fun z2=>caK Is s19 [[cell (ent a 0) 0]] fun r3=>caK Is s22
 [ent r3 0,[vI z1]] fun r4=>caK Is s25 [[vI z2]] fun r5=>ah 1 (cell (ent r5 0) 0) fun n6 c7=>Lp (fun next8 st9=>aa (cell (ent st9 1) 0)
 fun z10=>ah 1 (cell (ent st9 4) 0) fun n11 c12=>ifK (decide (z10 < (4 : Int))) (jn (fun k13=>caK Is s23 [ent st9 2,ent st9 3,[cell (ent
 st9 0) 0]] fun r15=>ah 3 (cell (ent r15 0) 0) fun n16 c17=>ckK (0<=z10/\z10 < (n11 : Int)) (caK Is s26 [ent st9 2,sub (ent st9 3) 0 3,[.sl
 n16 3 c17],[cell (el c12 1 (Int.toNat z10)) 0]] fun r18=>aa (cell (ent r18 1) 0) fun _=>aa (cell (ent r18 2) 0) fun z20=>ifK (decide (z20
 = (0 : Int))) (caK Is s28 [ent st9 2,sub (ent st9 3) 9 5,ent r18 0] fun r21=>bq (cell (ent r21 0) 0) fun b22=>ifK (!b22) (K [[vB false]])
 (ifK (!(decide (z20 = (0 : Int)))) (ifK (!(decide (z20 = (18 : Int)))) (ifK (!(decide (z20 = (4 : Int)))) (K [[vB false]]) (k13 [[cell (ent st9 0)
 0],[vI z10],ent st9 2,ent st9 3,[.sl n11 1 c12]])) (k13 [[cell (ent st9 0) 0],[vI z10],ent st9 2,ent st9 3,[.sl n11 1 c12]])) (k13 [[cell
 (ent st9 0) 0],[vI z10],ent st9 2,ent st9 3,[.sl n11 1 c12]]))) (ifK (!(decide (z20 = (0 : Int)))) (ifK (!(decide (z20 = (18 : Int)))) (ifK
 (!(decide (z20 = (4 : Int)))) (K [[vB false]]) (k13 [[cell (ent st9 0) 0],[vI z10],ent st9 2,ent st9 3,[.sl n11 1 c12]])) (k13 [[cell (ent st9
 0) 0],[vI z10],ent st9 2,ent st9 3,[.sl n11 1 c12]])) (k13 [[cell (ent st9 0) 0],[vI z10],ent st9 2,ent st9 3,[.sl n11 1 c12]])))) (fun j8
 => aa (cell (ent j8 1) 0) fun z23=>ah 1 (cell (ent j8 4) 0) fun n24 c25=>ckK (okI (z23+1)) (next8 [[cell (ent j8 0) 0],[vI (z23 +
 1)],ent j8 2,ent j8 3,[.sl n24 1 c25]]))) (caK Is s18 [] fun r26=>bq (cell (ent r26 0) 0) fun b27=>K [[vB b27]])) [[cell (ent a 2) 0],
 [vI 0],ent r3 0,ent r4 0,[.sl n6 1 c7]]
def yA (x : IdT×Int×Val) : List D:=[an x.1.shop,an x.1.seq,an x.1.index,an x.2.1,an x.2.2.kind,an x.2.2.n,.sl x.2.2.kids.length 3 (x.2.2.kids.flatMap Val.enc)]
theorem Ez (x : IdT×Int×Val) : (yA x).length = 7:=rfl
def aR (E : Env) : D:=.sl E.length 7 (E.reverse.flatMap yA)
theorem lM {E : Env} {i : IdT} {k : Int} {v : Val} (hE : E.length<=1000000000000) : IS s93 [[aR E],i.enc,[vI k],v.enc] [[aR ((i,k,v)::E)]]:=by
 refine w93.is ?_
 unfold g93 aR
 simp only [pmr,pms,Val.ay]
 unfold room
 refine ⟨Q0,Q0,?_⟩
 simp only [Nat.zero_add,List.reverse_cons,List.flatMap_append,List.length_cons]
 rfl
theorem find_at {E : Env} {r : IdT} {n : Int} {j : Nat} (hj : j < E.length) (h : ∀ i (hi : i < j),¬ ((E[i]'Q0).1 = r/\(E[i]'Q0).2.1 = n)) (hh : E[j].1 = r/\E[j].2.1 = n) : cE E r n = E[j].2.2:=by
 unfold cE
 have : E.find? (fun x=>decide (x.1 = r/\x.2.1 = n)) = some E[j]:=by
  rw [List.find?_eq_some_iff_getElem]
  exact ⟨decide_eq_true hh,j,hj,rfl,fun i hi=>by rw [decide_eq_false (h i hi)];rfl⟩
 rw [this]
theorem find_no {E : Env} {r : IdT} {n : Int} (h : ∀ i (hi : i < E.length),¬ (E[i].1 = r/\E[i].2.1 = n)) : cE E r n = v0:=by
 unfold cE
 have : E.find? (fun x=>decide (x.1 = r/\x.2.1 = n)) = none:=by
  rw [List.find?_eq_none]
  intro x hx
  obtain ⟨i,hi,rfl⟩:=List.mem_iff_getElem.1 hx
  simpa using h i hi
 rw [this]
theorem el_var (E : Env) {j : Nat} (hj : j < E.length) : el (E.reverse.flatMap yA) 7 (E.length - 1 - j) = yA E[j]:=by
 rw [gC Ez E.reverse Qc,List.getElem_reverse]
 congr 2
 omega
theorem E6 {E : Env} {r : IdT} {n : Int} (hE : E.length<=1000000000000) : IS s114 [[aR E],r.enc,[vI n]] [(cE E r n).enc]:=by
 refine w114.is ?_
 unfold g114 aR
 simp only [pmr]
 refine ⟨Q4,?_⟩
 refine cg E.length (fun j=>[[.sl E.length 7 (E.reverse.flatMap yA)],[vI n],[vI ((E.length : Int) - 1 - j)],r.enc,[vI 0,vI 0,.sl 0 3 []]]) (fun j=>∀ i (hi : i < E.length),i < j->¬ (E[i].1 = r/\E[i].2.1 = n)) (fun i _ h=>absurd h (Nat.not_lt_zero _)) Q2 fun j next hj hI hn=>?_
 simp only [pmr,pms]
 refine ⟨fun h=>?_,fun h=>?_⟩
 ·have hlt : j < E.length:=Q0
  have e1 : ((E.length : Int) - 1 - j).toNat = E.length - 1 - j:=Q0
  refine gO ⟨Q0,?_⟩
  rw [e1,el_var E hlt]
  have ev : yA E[j] = [an E[j].1.shop,an E[j].1.seq,an E[j].1.index,an E[j].2.1,an E[j].2.2.kind,an E[j].2.2.n,.sl E[j].2.2.kids.length 3 (E[j].2.2.kids.flatMap Val.enc)]:=rfl
  rw [ev]
  simp only [pmr,pms]
  have e2 : (E.length : Int) - 1 - j - 1 = E.length - 1 - ((j+1 : Nat) : Int):=Q0
  have hno : ¬ (E[j].1 = r/\E[j].2.1 = n)->next [[.sl E.length 7 (E.reverse.flatMap yA)],[vI n],[vI ((E.length : Int) - 1 - j - 1)],r.enc,[vI 0,vI 0,.sl 0 3 []]]:=fun hc=>by
   rw [e2]
   refine hn hlt fun i hi hij=>?_
   by_cases e : i = j
   ·subst e;exact hc
   ·exact hI i hi Q0
  unfold okI
  refine ⟨fun h1=>⟨Q0,fun h2=>⟨Q0,?_⟩,fun h2=>⟨Q0,hno fun hc=>h2 hc.2⟩⟩,fun h1=>⟨Q0,hno fun hc=>h1 hc.1⟩⟩
  rw [find_at hlt (fun i hi=>hI i Q0 hi) ⟨h1,h2⟩,Val.ay]
 ·have : j = E.length:=Q0
  subst this
  rw [find_no fun i hi=>hI i hi hi]
  rfl
mutual
theorem ux : ∀ v : Val,v.depth<=v.size
 | .mk k n l=>by rw [Val.depth,Val.size];have:=jS l;omega
theorem jS : ∀ l : List Val,Val.aY l<=Val.sizes l
 | []=>by simp [Val.aY]
 | v::vs=>by rw [Val.aY,Val.sizes];have:=ux v;have:=jS vs;omega
end
theorem oN (v : Val) : v.size<=1000000000000000->IS s44 [v.enc] [[vI (v.size : Int)]]:=by
 refine Val.sX (p:=fun v=>v.size<=1000000000000000->IS s44 [v.enc] [[vI (v.size : Int)]]) (fun v ih hv=>?_) v
 refine w44.is ?_
 unfold g44
 rw [Val.ay]
 have he:=Val.size_eq v
 refine cg v.kids.length (fun j=>[[vI (1+(Val.sizes (v.kids.take j) : Int))],[vI (j : Int)],[an v.kind,an v.n,.sl v.kids.length 3 (v.kids.flatMap Val.enc)]]) (fun _=>True) trivial (by simp [Val.sizes];rfl) fun j next hj _ hn=>?_
 simp only [pmr]
 refine ⟨fun h=>⟨Q0,?_⟩,fun h=>?_⟩
 ·have hlt : j < v.kids.length:=Q0
  have hm:=Val.bz (List.getElem_mem hlt)
  have h1:=Val.iL v.kids j hlt
  have h2:=Val.fq v.kids (j+1)
  have h3:=cv v.kids
  rw [ek _ hlt]
  refine ai (ih _ (List.getElem_mem hlt) Q0) ?_
  simp only [pmr]
  unfold okI
  refine ⟨Q0,Q0,?_⟩
  have:=hn hlt trivial
  rw [h1] at this
  push_cast at this
  rw [<-Int.add_assoc] at this
  exact this
 ·have : j = v.kids.length:=Q0
  subst this
  rw [List.take_length,he]
  push_cast
  rfl
theorem qf (v : Val) : v.size<=1000000000000000->IS s45 [v.enc] [[vI (v.depth : Int)]]:=by
 refine Val.sX (p:=fun v=>v.size<=1000000000000000->IS s45 [v.enc] [[vI (v.depth : Int)]]) (fun v ih hv=>?_) v
 refine w45.is ?_
 unfold g45
 rw [Val.ay]
 have he:=Val.size_eq v
 have hd:=Val.uy v
 have hds : Val.aY v.kids<=Val.sizes v.kids:=jS v.kids
 refine cg v.kids.length (fun j=>[[vI (Val.aY (v.kids.take j) : Int)],[vI (j : Int)],[an v.kind,an v.n,.sl v.kids.length 3 (v.kids.flatMap Val.enc)]]) (fun _=>True) trivial (by simp [Val.aY];rfl) fun j next hj _ hn=>?_
 simp only [pmr]
 refine ⟨fun h=>⟨Q0,?_⟩,fun h=>?_⟩
 ·have hlt : j < v.kids.length:=Q0
  have hm:=Val.bz (List.getElem_mem hlt)
  have h1:=Val.q9 v.kids j hlt
  have h3:=cv v.kids
  rw [ek _ hlt]
  refine ai (ih _ (List.getElem_mem hlt) Q0) ?_
  simp only [pmr]
  unfold okI
  refine ⟨Q0,?_⟩
  have:=hn hlt trivial
  rw [h1] at this
  rw [show max ((Val.aY (v.kids.take j) : Nat) : Int) ((v.kids[j].depth : Nat) : Int) = ((max (Val.aY (v.kids.take j)) v.kids[j].depth : Nat) : Int) by omega]
  exact this
 ·have : j = v.kids.length:=Q0
  subst this
  rw [List.take_length,hd]
  unfold okI
  exact ⟨Q0,rfl⟩
theorem x7 {a b : Int} (h : a < b) : eY a b = -1:=by unfold eY;rw [if_pos h]
theorem ya {a b : Int} (h : b < a) : eY a b = 1:=by unfold eY;rw [if_neg Q0,if_pos h]
theorem yb {a b : Int} (h : ¬ a < b) (h2 : ¬ b < a) : eY a b = 0:=by unfold eY;rw [if_neg h,if_neg h2]
theorem el1 {x y z : D} : el [x,y,z] 1 0 = [x]/\el [x,y,z] 1 1 = [y]/\el [x,y,z] 1 2 = [z]:=⟨rfl,rfl,rfl⟩
theorem BZ (a : Val) : ∀ b : Val,a.size<=1000000000000000->IS s30 [a.enc,b.enc] [[vI (jT a b)]]:=by
 refine Val.sX (p:=fun a=>∀ b : Val,a.size<=1000000000000000->IS s30 [a.enc,b.enc] [[vI (jT a b)]]) (fun a ih b ha=>?_) a
 refine w30.is ?_
 unfold g30
 have hc:=x5 a b
 rw [Val.ay a,Val.ay b]
 simp only [pmr]
 refine cg 3 (fun j=>[[vI (j : Int)],[an a.kind,an a.n,.sl a.kids.length 3 (a.kids.flatMap Val.enc)],[an b.kind,an b.n,.sl b.kids.length 3 (b.kids.flatMap Val.enc)],[.sl 3 1 [an a.kind,an a.n,vI (a.kids.length : Int)]],[.sl 3 1 [an b.kind,an b.n,vI (b.kids.length : Int)]]])
  (fun j=>(0 < j->eY a.kind b.kind = 0)/\(1 < j->eY a.n b.n = 0)/\(2 < j->eY a.kids.length b.kids.length = 0)) ⟨fun h=>by omega,fun h=>by omega,fun h=>by omega⟩ rfl fun j next hj hI hn=>?_
 simp only [pmr]
 refine ⟨fun h=>⟨Q0,Q0,?_⟩,fun h=>?_⟩
 ·have : j = 0\/j = 1\/j = 2:=Q0
  rcases this with rfl | rfl | rfl
  ·simp only [el1,pmr]
   refine ⟨fun h1=>?_,fun h1=>⟨Q0,Q0,fun h2=>?_,fun h2=>⟨Q4,hn Q0 ⟨fun _=>yb h1 h2,fun h=>by omega,fun h=>by omega⟩⟩⟩⟩
   ·rw [hc,x7 h1,if_pos Q1]
   ·rw [hc,ya h2,if_pos Q1]
  ·simp only [el1,pmr]
   refine ⟨fun h1=>?_,fun h1=>⟨Q0,Q0,fun h2=>?_,fun h2=>⟨Q4,hn Q0 ⟨fun _=>hI.1 Q0,fun _=>yb h1 h2,fun h=>by omega⟩⟩⟩⟩
   ·rw [hc,hI.1 Q0,if_neg Q1,x7 h1,if_pos Q1]
   ·rw [hc,hI.1 Q0,if_neg Q1,ya h2,if_pos Q1]
  ·simp only [el1,pmr]
   refine ⟨fun h1=>?_,fun h1=>⟨Q0,Q0,fun h2=>?_,fun h2=>⟨Q4,hn Q0 ⟨fun _=>hI.1 Q0,fun _=>hI.2.1 Q0,fun _=>yb h1 h2⟩⟩⟩⟩
   ·rw [hc,hI.1 Q0,if_neg Q1,hI.2.1 Q0,if_neg Q1,x7 h1,if_pos Q1]
   ·rw [hc,hI.1 Q0,if_neg Q1,hI.2.1 Q0,if_neg Q1,ya h2,if_pos Q1]
 ·obtain ⟨h1,h2,h3⟩:=hI
  have hl : a.kids.length = b.kids.length:=by
   have:=h3 Q0
   unfold eY at this
   split at this
   ·omega
   ·split at this <;> omega
  rw [h1 Q0,h2 Q0,h3 Q0,if_neg Q1,if_neg Q1,if_neg Q1] at hc
  have hls:=cv a.kids
  have hse:=Val.size_eq a
  refine cg a.kids.length (fun j=>[[vI (j : Int)],[an a.kind,an a.n,.sl a.kids.length 3 (a.kids.flatMap Val.enc)],[an b.kind,an b.n,.sl b.kids.length 3 (b.kids.flatMap Val.enc)]]) (fun j=>∀ i (h : i < a.kids.length) (h' : i < b.kids.length),i < j->jT a.kids[i] b.kids[i] = 0) (fun i _ _ h=>by omega) rfl fun j next hj hI hn=>?_
  simp only [pmr]
  refine ⟨fun h=>?_,fun h=>?_⟩
  ·have hlt : j < a.kids.length:=Q0
   have hlt' : j < b.kids.length:=Q0
   have hm:=Val.bz (List.getElem_mem hlt)
   refine ⟨Q0,Q0,?_⟩
   rw [ek _ hlt,ek _ hlt']
   refine ai (ih _ (List.getElem_mem hlt) _ Q0) ?_
   simp only [pmr,pms]
   refine ⟨fun h0=>⟨Q4,hn hlt fun i h1 h2 h3=>?_⟩,fun h0=>?_⟩
   ·by_cases e : i = j
    ·subst e;exact h0
    ·exact hI i h1 h2 Q0
   ·rw [hc,qD hlt hlt' (fun i h1 h2 h3=>hI i h1 h2 h3) h0]
  ·rw [hc,oA hl fun i h1 h2=>hI i h1 h2 Q0]
theorem BQ (a b : Val) (ha : a.size<=1000000000000000) : IS s11 [a.enc,b.enc] [[vB (decide (jT a b = 0))]]:=by
 refine w11.is ?_
 unfold g11
 refine ai (BZ a b ha) ?_
 simp only [pmr]
theorem yE (c : Prop) [Decidable c] : IS s35 [[vB (decide c)]] [(cQ c).enc]:=by
 refine w35.is ?_
 unfold g35 cQ
 simp only [pmr]
 refine ⟨fun h=>by rw [if_pos h];rfl,fun h=>by rw [if_neg h];rfl⟩
theorem zu {a b : Int} (hb : b ≠ 0) (ha : InR a) (hbi : InR b) : IS s38 [[vI a],[vI b]] [[vI (mo a b)]]:=by
 refine w38.is ?_
 unfold g38
 have hq:=xp (b:=b) ha
 have hbq:=GY hb ha hbi
 have hi:=DQ (a:=a) hb
 simp only [pmr,pms]
 unfold InR at *
 unfold okI mo
 rw [if_neg hb]
 refine ⟨⟨hb,Q0⟩,Q0,fun h=>?_,fun h=>?_⟩
 ·rw [if_neg (fun c=>absurd h (by have:=hi.2 c.1;exact this))]
 ·have h2:=hi.1 h
  rw [ifK_b]
  refine ⟨fun hs=>?_,fun hs=>?_⟩
  ·have hs' : ¬ (a < 0↔b < 0):=by
    intro hc
    by_cases h3 : a < 0
    ·simp [h3,hc.1 h3] at hs
    ·have h4 : ¬ b < 0:=fun h=>h3 (hc.2 h)
     simp [h3,h4] at hs
   rw [if_pos ⟨h2,hs'⟩]
   exact ⟨Q0,rfl⟩
  ·have hs' : (a < 0↔b < 0):=by
    by_cases h3 : a < 0 <;> by_cases h4 : b < 0 <;> simp [h3,h4] at hs ⊢
   rw [if_neg (fun c=>c.2 hs')]
theorem AD {a b : Int} (ha : InR a) (hb : InR b) : IS s37 [[vI a],[vI b]] [[vI (dy (a * b))]]:=by
 have core : ∀ (x y s : Int),(0<=x/\x<=1099511627776)->(0<=y/\y<=1099511627776)->(s = 1\/s = -1)->a * b = s * (x * y) ->
   ((1048576 : Int) ≠ 0/\okI (x.tdiv 1048576))/\okI (x.tdiv 1048576 * y)/\(1099511627776 < x.tdiv 1048576 * y->okI (s * 1099511627776)/\[[vI (s * 1099511627776)]] = [[vI (dy (a * b))]]) /\
   (¬ 1099511627776 < x.tdiv 1048576 * y->okI (x.tdiv 1048576 * y * 1048576)/\(1048576 : Int) ≠ 0/\okI (x.tmod 1048576 * y)/\okI (x.tdiv 1048576 * y * 1048576+x.tmod 1048576 * y) /\
    caK (Pm.Is Tryd.prog) s36 [[vI (x.tdiv 1048576 * y * 1048576+x.tmod 1048576 * y)]] fun r13=>aa (cell (ent r13 0) 0) fun z14=>okI (s * z14)/\[[vI (s * z14)]] = [[vI (dy (a * b))]]):=by
  intro x y s hx hy hs he
  have hd0:=Int.tdiv_nonneg hx.1 (show (0 : Int)<=1048576 by omega)
  have hd1 : x.tdiv 1048576<=1048576:=by rw [Int.tdiv_eq_ediv_of_nonneg hx.1];omega
  have hm0:=Int.tmod_nonneg (b:=1048576) hx.1
  have hm1:=Int.tmod_lt_of_pos x (show (0 : Int) < 1048576 by omega)
  have h1:=Cb hd0 hy.1 hd1 hy.2
  have h2:=Cb hm0 hy.1 (Int.le_of_lt hm1) hy.2
  refine ⟨⟨Q1,Q4⟩,Q4,fun h=>⟨by unfold okI;rcases hs with rfl | rfl <;> omega,?_⟩,fun h=>⟨Q4,Q1,Q4,Q4,ai (uC _) ?_⟩⟩
  ·rw [prod_hi hx hy hs he h]
  ·simp only [pmr]
   have:=sj (x.tdiv 1048576 * y * 1048576+x.tmod 1048576 * y)
   unfold InR at this
   refine ⟨by unfold okI;rcases hs with rfl | rfl <;> omega,?_⟩
   rw [prod_lo hx hy hs he]
 refine w37.is ?_
 unfold g37
 simp only [pmr]
 unfold InR at ha hb
 by_cases h1 : a < 0
 ·refine cu [[vI (-a)],[vI b],[vI (-1)]] ⟨fun _=>⟨Q4,Q4,rfl⟩,fun h=>absurd h1 h⟩ ?_
  simp only [pmr]
  by_cases h2 : b < 0
  ·refine cu [[vI (-a)],[vI (-b)],[vI 1]] ⟨fun _=>⟨Q4,Q4,rfl⟩,fun h=>absurd h2 h⟩ ?_
   simp only [pmr]
   exact core (-a) (-b) 1 Q0 Q0 (.inl rfl) (by rw [Int.neg_mul_neg,Int.one_mul])
  ·refine cu [[vI (-a)],[vI b],[vI (-1)]] ⟨fun h=>absurd h h2,fun _=>rfl⟩ ?_
   simp only [pmr]
   exact core (-a) b (-1) Q0 Q0 (.inr rfl) (by rw [Int.neg_mul,Int.neg_mul,Int.one_mul,Int.neg_neg])
 ·refine cu [[vI a],[vI b],[vI 1]] ⟨fun h=>absurd h h1,fun _=>rfl⟩ ?_
  simp only [pmr]
  by_cases h2 : b < 0
  ·refine cu [[vI a],[vI (-b)],[vI (-1)]] ⟨fun _=>⟨Q4,Q4,rfl⟩,fun h=>absurd h2 h⟩ ?_
   simp only [pmr]
   exact core a (-b) (-1) Q0 Q0 (.inr rfl) (by rw [Int.mul_neg,Int.neg_mul,Int.one_mul,Int.neg_neg])
  ·refine cu [[vI a],[vI b],[vI 1]] ⟨fun h=>absurd h h2,fun _=>rfl⟩ ?_
   simp only [pmr]
   exact core a b 1 Q0 Q0 (.inl rfl) (by rw [Int.one_mul])
theorem ye (v : Val) : cell v.enc 1 = an v.n:=by rw [Val.ay];rfl
theorem yd (v : Val) : cell v.enc 2 = .sl v.kids.length 3 (v.kids.flatMap Val.enc):=by rw [Val.ay];rfl
theorem BT {n : Int} {x : Val} (h : n = 9\/n = 11) : IS s13 [[vI n],[.sl [x].length 3 ([x].flatMap Val.enc)]] [(Dt n x).enc]:=by
 refine w13.is ?_
 unfold g13
 have e0 : el ([x].flatMap Val.enc) 3 0 = x.enc:=ek [x] Q2
 simp only [pmr,e0,ye,yd]
 refine ⟨⟨Int.le_refl _,Q2⟩,fun h9=>ai (yE _) ?_,fun h9=>⟨fun h11=>?_,fun h11=>absurd h Q0⟩⟩
 ·simp only [pmr];subst h9;rfl
 ·subst h11;show _ = [(Val.mk 0 x.kids.length []).enc];rw [Val.ay];rfl
theorem rop2_is {p : ProgT} {n : Int} {u t : Ty} {x y v : Val} (h : Fq n u t) (hx : aB p x u = true) (hy : aB p y u = true) (h1 : x.size<=256) (h2 : y.size<=256) (hv : fS n x y = some v) : IS s13 [[vI n],[.sl [x,y].length 3 ([x,y].flatMap Val.enc)]] [v.enc]:=by
 refine w13.is ?_
 unfold g13
 have e0 : el ([x,y].flatMap Val.enc) 3 0 = x.enc:=ek [x,y] (k:=0) Q2
 have e1 : el ([x,y].flatMap Val.enc) 3 1 = y.enc:=ek [x,y] (k:=1) Q2
 simp only [pmr,e0,e1,ye,yd]
 have tr : ∀ (q : Prop) [Decidable q],(cQ q).enc = v.enc->caK IS s35 [[vB (decide q)]] fun r=>[ent r 0] = [v.enc]:=fun q _ he=>ai (yE q) (by simp only [pmr];rw [he])
 have num : 0<=n/\n<=4->(InR x.n/\InR y.n)/\v.enc = [vI 0,vI (tw n x.n y.n),.sl 0 3 []]:=fun hn=>by
  have hr : InR x.n/\InR y.n:=by
   rcases h with ⟨_,_,rfl,_⟩ | ⟨h,_⟩ | ⟨h,_⟩ | ⟨h,_⟩ | ⟨h,_⟩
   ·exact ⟨(fits_int.1 hx).2.2,(fits_int.1 hy).2.2⟩
   all_goals omega
  unfold fS at hv
  rw [if_pos Q0,if_pos hr] at hv
  rw [<-Option.some.inj hv,Val.ay]
  exact ⟨hr,rfl⟩
 have far : ∀ c : Int,n = c->5<=c->¬ (0<=n/\n < 5):=fun c h1 h2=>by omega
 have bit : n = 7\/n = 8->(x.n = 0\/x.n = 1)/\(y.n = 0\/y.n = 1):=fun hn=>by
  rcases h with ⟨_,_,rfl,_⟩ | ⟨h,_⟩ | ⟨h,_⟩ | ⟨h,rfl,_⟩ | ⟨h,_⟩
  ·omega
  ·omega
  ·omega
  ·exact ⟨(fits_bool.1 hx).2.2,(fits_bool.1 hy).2.2⟩
  ·omega
 refine ⟨⟨Int.le_refl _,Q2⟩,fun c=>?_,fun c=>⟨fun c=>?_,fun c=>⟨⟨Q0,Q2⟩,fun c=>?_,fun c=>⟨fun c=>?_,fun c=>⟨fun c=>?_,fun c=>⟨fun c=>?_,fun c=>⟨fun c=>?_,fun c=>⟨fun c=>?_,fun c=>⟨fun c=>?_,fun c=>⟨fun c=>?_,fun c=>⟨fun c=>?_,fun c=>?_⟩⟩⟩⟩⟩⟩⟩⟩⟩⟩⟩
 ·rcases h with h | h | h | h | h <;> omega
 ·rcases h with h | h | h | h | h <;> omega
 ·obtain ⟨⟨hr,hs⟩,e⟩:=num Q0
  unfold InR at hr hs
  refine ⟨Q4,ai (uC _) ?_⟩
  simp only [pmr]
  rw [e,tw,if_pos c]
 ·obtain ⟨⟨hr,hs⟩,e⟩:=num Q0
  unfold InR at hr hs
  refine ⟨Q4,ai (uC _) ?_⟩
  simp only [pmr]
  rw [e,tw,if_neg Q0,if_pos c]
 ·obtain ⟨⟨hr,hs⟩,e⟩:=num Q0
  refine ai (AD hr hs) ?_
  simp only [pmr]
  rw [e,tw,if_neg Q0,if_neg Q0,if_pos c,sG]
 ·obtain ⟨⟨hr,hs⟩,e⟩:=num Q0
  rw [e,tw,if_neg Q0,if_neg Q0,if_neg Q0,if_pos c]
  refine ⟨fun h0=>by rw [mo,if_pos h0],fun h0=>ai (zu h0 hr hs) ?_⟩
  simp only [pmr]
 ·obtain ⟨⟨hr,hs⟩,e⟩:=num Q0
  rw [e,tw,if_neg Q0,if_neg Q0,if_neg Q0,if_neg Q0]
  refine ⟨fun h0=>by rw [iQ,if_pos h0],fun h0=>ai (zu h0 hr hs) ?_⟩
  simp only [pmr]
  have h3:=BV (a:=x.n) hs
  have h4:=rest_eq (a:=x.n) h0
  rw [iQ,if_neg h0] at h3 h4 ⊢
  unfold InR at hr hs h3
  refine ⟨Q4,Q4,rfl⟩
 ·unfold fS at hv
  rw [if_neg (far 5 c Q0),if_pos c] at hv
  exact tr _ (by rw [Option.some.inj hv])
 ·unfold fS at hv
  rw [if_neg (far 6 c Q0),if_neg Q0,if_pos c] at hv
  refine ai (BZ x y Q0) ?_
  simp only [pmr]
  exact tr _ (by rw [Option.some.inj hv])
 ·unfold fS at hv
  rw [if_neg (far 7 c Q0),if_neg Q0,if_neg Q0,if_pos c] at hv
  obtain ⟨b1,b2⟩:=bit (.inl c)
  have hv:=Option.some.inj hv
  refine ⟨fun h0=>?_,fun h0=>?_⟩
  ·refine tr _ ?_
   rw [<-hv]
   unfold cQ
   by_cases h3 : y.n = 1
   ·rw [if_pos h3,if_pos Q0]
   ·rw [if_neg h3,if_neg Q0]
  ·refine (tr False ?_)
   rw [<-hv]
   unfold cQ
   rw [if_neg id,if_neg Q0]
 ·unfold fS at hv
  rw [if_neg (far 8 c Q0),if_neg Q0,if_neg Q0,if_neg Q0,if_pos c] at hv
  obtain ⟨b1,b2⟩:=bit (.inr c)
  have hv:=Option.some.inj hv
  refine ⟨fun h0=>?_,fun h0=>?_⟩
  ·refine (tr True ?_)
   rw [<-hv]
   unfold cQ
   rw [if_pos trivial,if_pos Q0]
  ·refine tr _ ?_
   rw [<-hv]
   unfold cQ
   by_cases h3 : y.n = 1
   ·rw [if_pos h3,if_pos Q0]
   ·rw [if_neg h3,if_neg Q0]
 ·have hn : n = 10:=by rcases h with h | h | h | h | h <;> omega
  unfold fS at hv
  rw [if_neg (far 10 hn Q0),if_neg Q0,if_neg Q0,if_neg Q0,if_neg Q0,if_pos hn] at hv
  have l1:=cv x.kids
  have l2:=cv y.kids
  rw [Val.size_eq] at h1 h2
  unfold room
  refine ⟨Q0,Q0,?_⟩
  rw [<-Option.some.inj hv,Val.ay]
  simp [Val.kids,Val.kind,Val.n]
theorem sO {p : ProgT} (hp : p.defs.length<=1000000000000) : ∀ (n : Nat) (t : Ty) (d : Int),d+n = 25->1<=d->IS C8 [pgL p,t.enc,[vI d]] [[vB (bG p n t)]]
 | 0,t,d,h,_=>by
  refine w110.is ?_
  unfold g110
  simp only [pmr,pms]
  exact ⟨fun _=>rfl,fun c=>absurd Q0 c⟩
 | n+1,t,d,h,h1=>by
  have hid : ∀ i : IdT,(i.shop = 0/\i.seq = 0/\i.index = 0)↔i = id0:=fun i=>by
   constructor
   ·rintro ⟨a,b,c⟩;exact IdT.ext' a b c
   ·rintro rfl;exact ⟨rfl,rfl,rfl⟩
  have bb : ∀ {q : Prop} [Decidable q],(q↔bG p (n+1) t = true)->([[vB (decide q)]] : St') = [[vB (bG p (n+1) t)]]:=fun {q _} h=>by
   cases hb : bG p (n+1) t with
   | true=>rw [decide_eq_true (h.2 hb)]
   | false=>rw [decide_eq_false (fun c=>by rw [h.1 c] at hb;cases hb)]
  have bf : ¬ bG p (n+1) t = true->([[vB false]] : St') = [[vB (bG p (n+1) t)]]:=fun h=>by
   cases hb : bG p (n+1) t with
   | true=>exact absurd hb h
   | false=>rfl
  have bt : bG p (n+1) t = true->([[vB true]] : St') = [[vB (bG p (n+1) t)]]:=fun h=>by rw [h]
  refine w110.is ?_
  unfold g110
  simp only [pmr,pms]
  refine ⟨fun c=>absurd c Q0,fun _=>⟨fun k2=>⟨fun z=>⟨fun o=>⟨Q0,Q4,?_⟩,fun o=>bf ?_⟩,fun z=>bf ?_⟩,fun k2=>⟨fun o=>bf ?_,fun o=>⟨fun k3=>?_,fun k3=>⟨fun z=>⟨fun k0=>bt ?_,fun k0=>bb ?_⟩,fun z=>bf ?_⟩⟩⟩⟩⟩
  ·rw [mm t.kids (k:=0) Q0]
   refine ai (sO hp n _ (d+1) Q0 Q0) ?_
   simp only [pmr]
   rw [Bool.eq_iff_iff.2 (qQ k2 ((hid _).1 z) Q0)]
  ·exact fun c=>o (by have:=(fQ k2 c).2;omega)
  ·exact fun c=>z ((hid _).2 (fQ k2 c).1)
  ·by_cases k3 : t.kind = 3
   ·rw [gF k3];omega
   ·rw [cM k2 k3];omega
  ·have hv:=gF (p:=p) (n:=n) k3
   refine ai (mP p t.df hp) ?_
   simp only [pmr,pms]
   refine ⟨fun hd=>⟨fun k0=>bt ?_,fun k0=>bb ?_⟩,fun hd=>bf ?_⟩
   ·rw [hv];exact ⟨⟨hd,.inl k0⟩,Q0⟩
   ·rw [hv];exact ⟨fun c=>⟨⟨hd,.inr c⟩,Q0⟩,fun c=>c.1.2.elim (fun e=>absurd e k0) id⟩
   ·rw [hv];exact fun c=>hd c.1.1
  ·rw [cM k2 k3];exact ⟨Q0,(hid _).1 z,.inl k0⟩
  ·rw [cM k2 k3];exact ⟨fun c=>⟨Q0,(hid _).1 z,.inr c⟩,fun c=>c.2.2.elim (fun e=>absurd e k0) id⟩
  ·rw [cM k2 k3];exact fun c=>z ((hid _).2 c.2.1)
theorem uZ {p : ProgT} (hp : p.defs.length<=1000000000000) (t : Ty) : IS s101 [pgL p,t.enc] [[vB (decide (bh p t))]]:=by
 refine w101.is ?_
 unfold DN
 simp only [pmr]
 refine ai (sO hp 24 t 1 Q1 Q1) ?_
 simp only [pmr]
 exact jV Iff.rfl
theorem E5 {p : ProgT} (hp : p.defs.length<=1000000000000) (v : Val) : ∀ t : Ty,v.size<=1000000000000000->IS s92 [pgL p,t.enc,v.enc] [[vB (aB p v t)]]:=by
 refine Val.sX (p:=fun v=>∀ t : Ty,v.size<=1000000000000000->IS s92 [pgL p,t.enc,v.enc] [[vB (aB p v t)]]) (fun v ih t hv=>?_) v
 have hse:=Val.size_eq v
 have hls:=cv v.kids
 have bb : ∀ {q : Prop} [Decidable q],(q↔aB p v t = true)->([[vB (decide q)]] : St') = [[vB (aB p v t)]]:=fun {q _} h=>by
  cases hb : aB p v t with
  | true=>rw [decide_eq_true (h.2 hb)]
  | false=>rw [decide_eq_false (fun c=>by rw [h.1 c] at hb;cases hb)]
 have bf : ¬ aB p v t = true->([[vB false]] : St') = [[vB (aB p v t)]]:=fun h=>by
  cases hb : aB p v t with
  | true=>exact absurd hb h
  | false=>rfl
 have bt : aB p v t = true->([[vB true]] : St') = [[vB (aB p v t)]]:=fun h=>by rw [h]
 refine w92.is ?_
 unfold g92
 simp only [pmr,pms]
 refine ai (uZ hp t) ?_
 simp only [pmr,pms,tO,tE,gv]
 refine ⟨fun hvt=>?_,fun h=>bf (fun c=>h (tU c))⟩
 unfold vlK
 simp only [pmr,pms]
 refine ⟨fun k0=>⟨fun a=>⟨fun b=>⟨fun c=>bb ?_,fun c=>bf ?_⟩,fun b=>bf ?_⟩,fun a=>bf ?_⟩,fun k0=>⟨fun k1=>⟨fun a=>⟨fun b=>⟨fun c=>bt ?_,fun c=>bb ?_⟩,fun b=>bf ?_⟩,fun a=>bf ?_⟩,fun k1=>⟨fun k2=>?_,fun k2=>?_⟩⟩⟩
 ·rw [me hvt k0];exact ⟨fun d=>⟨a,Q0,c,d⟩,fun d=>d.2.2.2⟩
 ·rw [me hvt k0];exact fun d=>c d.2.2.1
 ·rw [me hvt k0];exact fun d=>b Q0
 ·rw [me hvt k0];exact fun d=>a d.1
 ·rw [pJ hvt k1];exact ⟨a,Q0,.inl c⟩
 ·rw [pJ hvt k1];exact ⟨fun d=>⟨a,Q0,.inr d⟩,fun d=>d.2.2.elim (fun e=>absurd e c) id⟩
 ·rw [pJ hvt k1];exact fun d=>b Q0
 ·rw [pJ hvt k1];exact fun d=>a d.1
 ·have ho:=sA hvt k2
  have hh : t.kids.headD ty0 = t.kids[0]:=Co Q0
  refine cg v.kids.length (fun j=>[[vI (j : Int)],pgL p,t.enc,v.enc]) (fun j=>∀ i (h : i < v.kids.length),i < j->aB p v.kids[i] (t.kids.headD ty0) = true) (fun _ _ h=>absurd h (Nat.not_lt_zero _)) rfl fun j next hj hI hn=>?_
  simp only [pmr,tO,tE,gv]
  unfold vlK
  simp only [pmr]
  refine ⟨fun h=>?_,fun h=>?_⟩
  ·have hlt : j < v.kids.length:=Q0
   have hm:=Val.bz (List.getElem_mem hlt)
   rw [ek _ hlt,mm t.kids (k:=0) Q0]
   refine ⟨Q0,Q0,ai (ih _ (List.getElem_mem hlt) _ Q0) ?_⟩
   simp only [pmr]
   cases hb : aB p v.kids[j] t.kids[0] with
   | true =>
    refine ⟨Q4,hn hlt fun i h1 h2=>?_⟩
    by_cases e : i = j
    ·subst e;rw [hh];exact hb
    ·exact hI i h1 Q0
   | false =>
    refine bf ?_
    rw [tW hvt k2,hh]
    exact fun d=>by rw [d.2.2 j hlt] at hb;cases hb
  ·refine ⟨fun a=>bb ?_,fun a=>bf ?_⟩
   ·rw [tW hvt k2];exact ⟨fun b=>⟨a,b,fun i hi=>hI i hi Q0⟩,fun d=>d.2.1⟩
   ·rw [tW hvt k2];exact fun d=>a d.1
 ·refine ai (mP p t.df hp) ?_
  simp only [pmr,pms]
  refine ⟨fun kc=>⟨fun a=>⟨fun b=>bf ?_,fun b=>⟨fun c=>bf ?_,fun c=>⟨fun d=>?_,fun d=>bf ?_⟩⟩⟩,fun a=>bf ?_⟩,fun kc=>⟨fun a=>⟨fun b=>⟨fun c=>?_,fun c=>bf ?_⟩,fun b=>bf ?_⟩,fun a=>bf ?_⟩⟩
  ·rw [kM hvt k0 k1 k2 kc];exact fun h=>by have:=h.2.1.1;omega
  ·rw [kM hvt k0 k1 k2 kc];exact fun h=>by have:=h.2.1.2;omega
  ·have hlt : v.n.toNat < (aj p t.df).slots.length:=Q0
   have hk1 : v.kids.length = 1:=Q0
   have hm:=Val.bz (List.getElem_mem (show 0 < v.kids.length by omega))
   rw [iZ _ hlt,ek v.kids (k:=0) Q0]
   simp only [pms]
   refine ⟨Q0,Q0,ai (ih _ (List.getElem_mem (show 0 < v.kids.length by omega)) _ Q0) ?_⟩
   simp only [pmr]
   rw [Bool.eq_iff_iff.2 (A6 hvt k0 k1 k2 kc a Q0 hlt hk1)]
  ·rw [kM hvt k0 k1 k2 kc];exact fun h=>d Q0
  ·rw [kM hvt k0 k1 k2 kc];exact fun h=>a h.1
  ·have hf:=mc hvt k0 k1 k2 kc (v:=v)
   have hl : v.kids.length = (aj p t.df).slots.length:=Q0
   refine cg v.kids.length (fun j=>[[vI (j : Int)],pgL p,v.enc,(aj p t.df).enc]) (fun j=>∀ i (h : i < v.kids.length) (h2 : i < (aj p t.df).slots.length),i < j->aB p v.kids[i] (aj p t.df).slots[i].ty = true) (fun _ _ _ h=>absurd h (Nat.not_lt_zero _)) rfl fun j next hj hI hn=>?_
   simp only [pmr,pms,gv]
   unfold vlK
   simp only [pmr]
   refine ⟨fun h=>?_,fun h=>?_⟩
   ·have hlt : j < v.kids.length:=Q0
    have hlt2 : j < (aj p t.df).slots.length:=Q0
    have hm:=Val.bz (List.getElem_mem hlt)
    rw [iZ _ hlt2,ek _ hlt]
    simp only [pms]
    refine ⟨Q0,Q0,ai (ih _ (List.getElem_mem hlt) _ Q0) ?_⟩
    simp only [pmr]
    cases hb : aB p v.kids[j] (aj p t.df).slots[j].ty with
    | true =>
     refine ⟨Q4,hn hlt fun i h1 h2 h3=>?_⟩
     by_cases e : i = j
     ·subst e;exact hb
     ·exact hI i h1 h2 Q0
    | false =>
     refine bf ?_
     rw [hf]
     exact fun d=>by rw [d.2.2.2 j hlt hlt2] at hb;cases hb
   ·exact bt (hf.2 ⟨a,b,hl,fun i h1 h2=>hI i h1 h2 Q0⟩)
  ·rw [mc hvt k0 k1 k2 kc];exact fun h=>c Q0
  ·rw [mc hvt k0 k1 k2 kc];exact fun h=>b h.2.1
  ·rw [mc hvt k0 k1 k2 kc];exact fun h=>a h.1
theorem Db {p : ProgT} (hp : p.defs.length<=1000000000000) {v : Val} {t : Ty} (hv : v.size<=1000000000000000) : IS s64 [pgL p,t.enc,v.enc] [[vB (decide (gk p t v))]]:=by
 refine w64.is ?_
 unfold g64
 simp only [pmr]
 have hi:=p9 p t v
 refine ai (oN v hv) ?_
 simp only [pmr]
 refine ⟨fun a=>ai (qf v hv) ?_,fun a=>by rw [decide_eq_false (fun c=>a (by have:=(hi.1 c).1;omega))]⟩
 simp only [pmr]
 refine ⟨fun b=>ai (E5 hp v t hv) ?_,fun b=>by rw [decide_eq_false (fun c=>b (by have:=(hi.1 c).2.1;omega))]⟩
 simp only [pmr]
 exact jV ⟨fun c=>hi.2 ⟨Q0,Q0,c⟩,fun c=>(hi.1 c).2.2⟩
section
variable (p : ProgT) (F : Int)
def rnD (s k : Int) : List D:=[.sl p.mods.length 6 (p.mods.flatMap ModT.enc),.sl p.defs.length 31 (p.defs.flatMap DefT.enc),vI F,vI s,vI k]
def vlD (l : List Val) : D:=.sl l.length 3 (l.flatMap Val.enc)
def vh : EO->St'->Prop
 | .ok v s,r=>r = [v.enc,rnD p F s 0]
 | .err k,r=>k ≠ 0/\∃ (w : Val) (s2 : Int),r = [w.enc,rnD p F s2 k]
 | .bad,_=>False
def CK : AE->St'->Prop
 | .ok l s,r=>r = [[vlD l],rnD p F s 0]
 | .err k,r=>k ≠ 0/\∃ (l : List Val) (s2 : Int),r = [[vlD l],rnD p F s2 k]
 | .bad,_=>False
def Rs (s : Sig) (a : St') (o : EO) : Prop:=∃ r,vh p F o r/\IS s a r
def RsA (s : Sig) (a : St') (o : AE) : Prop:=∃ r,CK p F o r/\IS s a r
end
section
variable {p : ProgT} {F : Int}
theorem vh.un {o : EO} {r : St'} (h : vh p F o r) : ∃ (w : Val) (s k : Int),r = [w.enc,rnD p F s k]:=by
 cases o with
 | ok v s=>exact ⟨v,s,0,h⟩
 | err k=>obtain ⟨_,w,s2,h⟩:=h;exact ⟨w,s2,k,h⟩
 | bad=>exact h.elim
theorem CK.un {o : AE} {r : St'} (h : CK p F o r) : ∃ (l : List Val) (s k : Int),r = [[vlD l],rnD p F s k]:=by
 cases o with
 | ok v s=>exact ⟨v,s,0,h⟩
 | err k=>obtain ⟨_,w,s2,h⟩:=h;exact ⟨w,s2,k,h⟩
 | bad=>exact h.elim
theorem some94 {a : St'} {o : EO} (h : g94 IS a (vh p F o)) : Rs p F s94 a o:=w94.some h fun r h=>by obtain ⟨w,s,k,rfl⟩:=h.un;exact trivial
theorem some108 {a : St'} {o : EO} (h : g108 IS a (vh p F o)) : Rs p F E3 a o:=w108.some h fun r h=>by obtain ⟨w,s,k,rfl⟩:=h.un;exact trivial
theorem some115 {a : St'} {o : AE} (h : g115 IS a (CK p F o)) : RsA p F uX a o:=w115.some h fun r h=>by obtain ⟨w,s,k,rfl⟩:=h.un;exact trivial
theorem xV {s k : Int} (hk : k ≠ 0) (x : List D) (y : List D) : IS s94 [x,y,rnD p F s k] [v0.enc,rnD p F s k]:=by
 refine w94.is ?_
 unfold g94 rnD
 simp only [pmr,pms]
 exact ⟨fun h=>absurd h hk,fun _=>rfl⟩
theorem vT {s : Int} (h : F<=s) (x : List D) (y : List D) : IS s94 [x,y,rnD p F s 0] [v0.enc,rnD p F s 18]:=by
 refine w94.is ?_
 unfold g94 rnD
 simp only [pmr,pms]
 exact ⟨fun _=>⟨fun _=>rfl,fun h2=>absurd h h2⟩,fun h=>absurd trivial h⟩
theorem kT {s : Sig} {a : St'} {o : EO} {k : St'->Prop} (h : Rs p F s a o) (h1 : ∀ v s',o = .ok v s'->k [v.enc,rnD p F s' 0]) (h2 : ∀ j w s2,o = .err j->j ≠ 0->k [Val.enc w,rnD p F s2 j]) : caK IS s a k:=by
 obtain ⟨r,hr,hi⟩:=h
 refine ai hi ?_
 cases ho : o with
 | ok v s'=>rw [ho] at hr;rw [show r = _ from hr];exact h1 v s' ho
 | err j=>rw [ho] at hr;obtain ⟨hj,w,s2,rfl⟩:=hr;exact h2 j w s2 ho hj
 | bad=>rw [ho] at hr;exact hr.elim
theorem kS {s : Sig} {a : St'} {o : AE} {k : St'->Prop} (h : RsA p F s a o) (h1 : ∀ l s',o = .ok l s'->k [[vlD l],rnD p F s' 0]) (h2 : ∀ j l s2,o = .err j->j ≠ 0->k [[vlD l],rnD p F s2 j]) : caK IS s a k:=by
 obtain ⟨r,hr,hi⟩:=h
 refine ai hi ?_
 cases ho : o with
 | ok v s'=>rw [ho] at hr;rw [show r = _ from hr];exact h1 v s' ho
 | err j=>rw [ho] at hr;obtain ⟨hj,w,s2,rfl⟩:=hr;exact h2 j w s2 ho hj
 | bad=>rw [ho] at hr;exact hr.elim
theorem rall_is {g : Ex->Int->EO} {y : List D} {l : List Ex} {s : Int} {ts : Nat->Ty} (hl : l.length<=1000000000) (hy : y = [cell y 0]) (h : ∀ j (h : j < l.length) s',s<=s'->jh p (ts j) 256 s' (g l[j] s')/\Rs p F s94 [l[j].enc,y,rnD p F s' 0] (g l[j] s')) :
  RsA p F uX [[.sl l.length 15 (l.flatMap Ex.enc)],y,rnD p F s 0] (eV g l s):=by
 refine some115 ?_
 unfold g115
 refine jf (σ:=Nat×Int×Int×List Val) (fun x=>[[.sl l.length 15 (l.flatMap Ex.enc)],[cell y 0],[vI (x.1 : Int)],rnD p F x.2.1 x.2.2.1,[vlD x.2.2.2]]) (fun x=>l.length - x.1)
  (fun x=>x.1<=l.length/\x.2.2.2.length = x.1/\((x.2.2.1 = 0/\s<=x.2.1/\eV g l s = (eV g (l.drop x.1) x.2.1).pre x.2.2.2)\/(x.2.2.1 ≠ 0/\eV g l s = .err x.2.2.1))) (0,s,0,[]) ⟨Nat.zero_le _,rfl,.inl ⟨rfl,Int.le_refl _,by rw [List.drop_zero,AE.pre_nil]⟩⟩ rfl ?_
 rintro ⟨j,s1,k,dn⟩ next ⟨h1,h2,h3⟩ hn
 dsimp only at h1 h2 h3 hn
 unfold vlD at hn ⊢
 simp only [pmr]
 refine ⟨fun hj=>?_,fun hj=>?_⟩
 ·have hlt : j < l.length:=Q0
  rw [gY _ hlt]
  have go : ∀ (w : Val) (s2 k2 : Int),((k2 = 0/\s<=s2/\eV g l s = (eV g (l.drop (j+1)) s2).pre (dn++[w]))\/(k2 ≠ 0/\eV g l s = .err k2)) ->
    room (dn.length+1) 41/\okI ((j : Int)+1)/\next [[.sl l.length 15 (l.flatMap Ex.enc)],[cell y 0],[vI ((j : Int)+1)],rnD p F s2 k2,[.sl (dn.length+1) 3 (dn.flatMap Val.enc++(w.enc++[]))]]:=fun w s2 k2 hw=>by
   refine ⟨Qa,Q4,?_⟩
   have:=hn (j+1,s2,k2,dn++[w]) (by show l.length - (j+1) < l.length - j;omega) ⟨by show j+1<=l.length;omega,by simp [h2],hw⟩
   simp only [List.flatMap_append,List.length_append,List.flatMap_cons,List.flatMap_nil,List.length_singleton] at this
   exact this
  rw [<-hy]
  refine ⟨Q0,?_⟩
  rcases h3 with ⟨rfl,h3,h4⟩ | ⟨h3,h4⟩
  ·obtain ⟨ho,hr⟩:=h j hlt s1 h3
   refine kT hr (fun v s' e=>?_) (fun q w s2 e hq=>?_)
   ·simp only [pmr]
    rw [e] at ho
    rw [hy]
    exact go v s' 0 (.inl ⟨rfl,by have:=ho.2.2;omega,CG hlt h4 e⟩)
   ·simp only [pmr]
    rw [hy]
    exact go w s2 q (.inr ⟨hq,CH hlt h4 e⟩)
  ·refine ai (xV h3 _ _) ?_
   simp only [pmr]
   rw [hy]
   exact go v0 s1 k (.inr ⟨h3,h4⟩)
 ·obtain rfl : j = l.length:=Q0
  rcases h3 with ⟨rfl,h3,h4⟩ | ⟨h3,h4⟩
  ·rw [Aa rfl,AE.pre,List.append_nil] at h4
   rw [h4]
   exact rfl
  ·rw [h4]
   exact ⟨h3,dn,s1,rfl⟩
theorem vv {l : List Ex} {e : Ex} (h : e∈l) : e.size<=Ex.sizes l:=by
 induction l with
 | nil=>cases h
 | cons x xs ih =>
  rw [Ex.sizes]
  rcases List.mem_cons.1 h with rfl | h
  ·omega
  ·have:=ih h;omega
end
def fN : List SlotT->List Val->Env->Env
 | s::ss,a::al,E=>fN ss al ((s.id,0,a)::E)
 | [],_,E=>E
 | _,[],E=>E
theorem jX : ∀ {ss : List SlotT} {al : List Val} {E E2 : Env},cH ss al E = some E2->fN ss al E = E2
 | [],al,E,E2,h=>by rw [cH] at h;rw [fN];exact Option.some.inj h
 | s::ss,[],E,E2,h=>by rw [cH] at h;cases h
 | s::ss,a::al,E,E2,h=>by rw [cH] at h;rw [fN];exact jX h
theorem qH : ∀ (ss : List SlotT) (al : List Val) (E : Env),(fN ss al E).length<=ss.length+E.length
 | [],al,E=>by rw [fN];omega
 | s::ss,[],E=>by
  rw [fN]
  ·omega
  ·simp
 | s::ss,a::al,E=>by rw [fN];have:=qH ss al ((s.id,0,a)::E);simp only [List.length_cons] at this ⊢;omega
theorem Eb (ss : List SlotT) (E : Env) : fN ss [] E = E:=by cases ss <;> simp [fN]
theorem Bp {ss : List SlotT} {al : List Val} {E : Env} {k : Nat} (h : k < ss.length) (h2 : k < al.length) : fN (ss.drop k) (al.drop k) E = fN (ss.drop (k+1)) (al.drop (k+1)) ((ss[k].id,0,al[k])::E):=by
 rw [List.drop_eq_getElem_cons h,List.drop_eq_getElem_cons h2,fN]
section
variable {p : ProgT} {F : Int}
theorem s7 {d : DefT} {al : List Val} {s k : Int} {r : St'} {w : Val} {s2 k2 : Int} (hd : d.slots.length<=1000) (hr : r = [w.enc,rnD p F s2 k2]) (h : IS s94 [d.body.enc,[aR (fN d.slots al [])],rnD p F s k] r) : IS s65 [d.enc,[vlD al],rnD p F s k] r:=by
 refine w65.is ?_ (by rw [hr];exact trivial)
 unfold g65
 have fin : ∀ (E2 : Env),E2 = fN d.slots al []->caK IS s94 [d.body.enc,[aR E2],rnD p F s k] fun r19=>[ent r19 0,ent r19 1] = r:=fun E2 e=>by
  rw [e]
  refine ai h ?_
  rw [hr]
  rfl
 refine cu [[aR (fN d.slots al [])],rnD p F s k,d.enc,[vI 0,vI 0,.sl 0 3 []]] ?_ ?_
 ·refine jf (σ:=Nat×Env) (fun x=>[[vlD al],[vI (x.1 : Int)],rnD p F s k,d.enc,[vI 0,vI 0,.sl 0 3 []],[aR x.2]]) (fun x=>d.slots.length - x.1) (fun x=>x.1<=d.slots.length/\x.1<=al.length/\x.2.length<=x.1/\fN (d.slots.drop x.1) (al.drop x.1) x.2 = fN d.slots al []) (0,[]) ⟨Nat.zero_le _,Nat.zero_le _,Nat.le_refl _,rfl⟩ rfl ?_
  rintro ⟨j,E⟩ next ⟨h1,h2,h3,h4⟩ hn
  dsimp only at h1 h2 h3 h4 hn
  unfold vlD aR at hn ⊢
  simp only [pmr,pms]
  have stop : j = d.slots.length\/j = al.length->E = fN d.slots al []:=fun hj=>by
   rw [<-h4]
   rcases hj with rfl | rfl
   ·rw [List.drop_length,fN]
   ·rw [List.drop_length,Eb]
  refine ⟨fun hj=>⟨fun hj2=>?_,fun hj2=>?_⟩,fun hj=>?_⟩
  ·have hlt : j < d.slots.length:=Q0
   have hlt2 : j < al.length:=Q0
   rw [iZ _ hlt,ek _ hlt2]
   simp only [pms]
   refine ⟨Q0,Q0,ai (lM (E:=E) (i:=d.slots[j].id) (k:=0) (v:=al[j]) Q0) ?_⟩
   unfold aR
   simp only [pmr]
   refine ⟨Q4,?_⟩
   exact hn (j+1,(d.slots[j].id,0,al[j])::E) (by show d.slots.length - (j+1) < d.slots.length - j;omega) ⟨by show j+1<=_;omega,by show j+1<=_;omega,Qc,by rw [<-h4];exact (Bp hlt hlt2).symm⟩
  ·rw [stop (.inr Q0)]
  ·rw [stop (.inl Q0)]
 ·simp only [pmr,pms]
  exact fin _ rfl
theorem CA {sg : Sig} {a : St'} {o : EO} {k : St'->Prop} (h : Rs p F sg a o) (h1 : ∀ w s2 j,((j = 0/\o = .ok w s2)\/(j ≠ 0/\o = .err j))->k [Val.enc w,rnD p F s2 j]) : caK IS sg a k :=
 kT h (fun v s' e=>h1 v s' 0 (.inl ⟨rfl,e⟩)) fun j w s2 e hj=>h1 w s2 j (.inr ⟨hj,e⟩)
theorem aA {k j : Int} {P Q : Prop} (h : k ≠ j) (q : Q) : (k = j->P)/\(¬ k = j->Q):=⟨fun c=>absurd c h,fun _=>q⟩
theorem lG {k j : Int} {P Q : Prop} (h : k = j) (q : P) : (k = j->P)/\(¬ k = j->Q):=⟨fun _=>q,fun c=>absurd h c⟩
theorem skipN {p P Q : Prop} (h : ¬ p) (q : Q) : (p->P)/\(¬ p->Q):=⟨fun c=>absurd c h,fun _=>q⟩
theorem vp {P Q : Prop} (q : P) : (True->P)/\(¬ True->Q):=⟨fun _=>q,fun c=>absurd trivial c⟩
theorem kX {g : Ex->Int->EO} {l : List Ex} {s : Int} (h : l.length<=1000000) : jD g l s = eV g l s:=by unfold jD;rw [if_neg Q0]
theorem pR {sg : Sig} {a : St'} {o : EO} (h : Rs p F sg a o) : caK IS sg a fun r=>vh p F o [ent r 0,ent r 1]:=by
 obtain ⟨r,hr,hi⟩:=h
 refine ai hi ?_
 obtain ⟨w,s,k,rfl⟩:=hr.un
 exact hr
theorem Da (hp : TyP p) (hc : CallsP p) {g : Ex->Env->Int->EO} {s : Int} (ih : ∀ {e : Ex} {G : TEnv} {E : Env} {t : Ty} {s' : Int},WTy p G e t->p5 p G E->2 * e.size+E.length<=1000000000000->s<=s'->jh p t 256 s' (g e E s')/\Rs p F s94 [e.enc,[aR E],rnD p F s' 0] (g e E s'))
  {e : Ex} {G : TEnv} {E : Env} {t : Ty} (h : WTy p G e t) (hE : p5 p G E) (hs : 2 * e.size+E.length<=1000000000000) : Rs p F E3 [e.enc,[aR E],rnD p F s 0] (bT p g e E s):=by
 refine some108 ?_
 unfold g108
 simp only [pmr,pms]
 have hsz:=Ex.size_eq e
 have hEl : E.length<=1000000000000:=Q0
 have hrn : ∀ s k : Int,cell (rnD p F s k) 4 = vI k/\sub (rnD p F s k) 0 2 = pgL p:=fun _ _=>⟨rfl,rfl⟩
 have hv1 : ∀ v : Val,cell v.enc 1 = vI v.n/\cell v.enc 2 = .sl v.kids.length 3 (v.kids.flatMap Val.enc):=fun v=>⟨ye v,yd v⟩
 have kidsA : ∀ {l : List Ex} {ts : Nat->Ty},(∀ j (h : j < l.length),WTy p G l[j] (ts j))->l.length<=1000->Ex.sizes l<=e.size->Hq p ts l.length s (eV (fun x s=>g x E s) l s)/\RsA p F uX [[.sl l.length 15 (l.flatMap Ex.enc)],[aR E],rnD p F s 0] (eV (fun x s=>g x E s) l s):=fun {l ts} hw hl hz=>by
  have hk : ∀ j (h : j < l.length) s',s<=s'->jh p (ts j) 256 s' (g l[j] E s')/\Rs p F s94 [l[j].enc,[aR E],rnD p F s' 0] (g l[j] E s'):=fun j hj s' hs'=>by
   have:=vv (List.getElem_mem hj)
   exact ih (hw j hj) hE Q0 hs'
  exact ⟨uO (F:=0) (m:=0) fun j hj s' hs'=>(hk j hj s' hs').1,rall_is Q0 rfl hk⟩
 have err : ∀ {a : AE} {k : List Val->Int->EO} {j : Int} {w : Val} {s2 : Int},a = .err j->j ≠ 0->vh p F (a.bind k) [w.enc,rnD p F s2 j]:=fun {a k j w s2} ha hj=>by rw [ha];exact ⟨hj,w,s2,rfl⟩
 have err1 : ∀ {a : EO} {k : Val->Int->EO} {j : Int} {w : Val} {s2 : Int},a = .err j->j ≠ 0->vh p F (a.bind k) [w.enc,rnD p F s2 j]:=fun {a k j w s2} ha hj=>by rw [ha];exact ⟨hj,w,s2,rfl⟩
 have one : ∀ {a : Ex} {u : Ty},WTy p G a u->∀ j (h : j < [a].length),WTy p G [a][j] u:=fun {a u} ha j hj=>by
  match j,hj with
  | 0,_=>exact ha
 have two : ∀ {a b : Ex} {u : Ty},WTy p G a u->WTy p G b u->∀ j (h : j < [a,b].length),WTy p G [a,b][j] u:=fun {a b u} ha hb j hj=>by
  match j,hj with
  | 0,_=>exact ha
  | 1,_=>exact hb
 have venc : ∀ (k n : Int) (l : List Val),(Val.mk k n l).enc = [vI k,vI n,.sl l.length 3 (l.flatMap Val.enc)]:=fun k n l=>by rw [Val.ay];rfl
 cases h with
 | int hn=>refine lG rfl ?_;rw [vF0];show _ = _;rw [Val.ay];rfl
 | bool hn =>
  refine aA (k:=1) Q1 (lG rfl ?_)
  rw [vF1]
  show _ = [(cQ _).enc,_]
  rename_i n _ _
  have h1:=hn.1
  have h2:=hn.2
  unfold cQ
  by_cases h3 : n = 0
  ·subst h3;rw [if_neg Q0,venc];rfl
  ·obtain rfl : n = 1:=Q0
   rw [if_pos Q0,venc];rfl
 | var hl =>
  refine aA (k:=2) Q1 (aA (k:=2) Q1 (lG rfl ?_))
  rw [vF2]
  refine ai (E6 hEl) ?_
  exact rfl
 | @list _ _ _ _ _ _ kids hl hk =>
  refine aA (k:=11) Q1 (aA (k:=11) Q1 (aA (k:=11) Q1 (aA (k:=11) Q1 (aA (k:=11) Q1 (aA (k:=11) Q1 (lG rfl ?_))))))
  have hkz : Ex.sizes kids<=_:=(show _ = 1+Ex.sizes kids from hsz) ▸ Nat.le_add_left _ _
  obtain ⟨ho,hr⟩:=kidsA (l:=kids) (ts:=fun _=>ty0) hk Q0 hkz
  rw [vF11,kX Q0]
  refine kS hr (fun l s' e=>?_) (fun j l s2 e hj=>?_) <;> unfold vlD <;> simp only [pmr]
  ·rw [e];show _ = _;rw [venc]
  ·have:=err (w:=.mk 4 0 l) (s2:=s2) (k:=fun l s1=>.ok (.mk 4 0 l) s1) e hj
   rw [venc] at this;exact this
 | @kase _ _ _ _ d k a hd hk hlt ha =>
  refine aA (k:=9) Q1 (aA (k:=9) Q1 (aA (k:=9) Q1 (aA (k:=9) Q1 (aA (k:=9) Q1 (lG rfl ?_)))))
  have hkz : Ex.sizes [a]<=_:=(show _ = 1+Ex.sizes [a] from hsz) ▸ Nat.le_add_left _ _
  obtain ⟨ho,hr⟩:=kidsA (l:=[a]) (ts:=fun _=>d.slots[k].ty) (one ha) Q2 hkz
  rw [vF9,kX Q2]
  refine kS hr (fun l s' e=>?_) (fun j l s2 e hj=>?_) <;> unfold vlD <;> simp only [pmr]
  ·rw [e];show _ = _;rw [venc];rfl
  ·have:=err (w:=.mk 3 k l) (s2:=s2) (k:=fun l s1=>.ok (.mk 3 k l) s1) e hj
   rw [venc] at this;exact this
 | @recd _ _ _ _ _ d kids hd hk hl hm =>
  refine aA (k:=7) Q1 (aA (k:=7) Q1 (aA (k:=7) Q1 (aA (k:=7) Q1 (lG rfl ?_))))
  have hf:=hp.few d hd
  have hkz : Ex.sizes kids<=_:=(show _ = 1+Ex.sizes kids from hsz) ▸ Nat.le_add_left _ _
  obtain ⟨ho,hr⟩:=kidsA (l:=kids) (ts:=fun j=>(d.slots.getD j default).ty) (fun j hj=>by
   rw [List.getD_eq_getElem?_getD,List.getElem?_eq_getElem (show j < d.slots.length by omega)];exact hm j hj) Q0 hkz
  rw [vF7,kX Q0]
  refine kS hr (fun l s' e=>?_) (fun j l s2 e hj=>?_) <;> unfold vlD <;> simp only [pmr]
  ·rw [e];show _ = _;rw [venc]
  ·have:=err (w:=.mk 2 0 l) (s2:=s2) (k:=fun l s1=>.ok (.mk 2 0 l) s1) e hj
   rw [venc] at this;exact this
 | @len _ _ _ _ _ a ha =>
  refine aA (k:=4) Q1 (aA (k:=4) Q1 (aA (k:=4) Q1 (aA (k:=4) Q1 (aA (k:=4) Q1 (aA (k:=4) Q1 (aA (k:=4) Q1 (lG rfl ?_)))))))
  have hkz : Ex.sizes [a]<=_:=(show _ = 1+Ex.sizes [a] from hsz) ▸ Nat.le_add_left _ _
  obtain ⟨ho,hr⟩:=kidsA (l:=[a]) (ts:=fun _=>bE ty0) (one ha) Q2 hkz
  rw [vF4,kX Q2]
  refine kS hr (fun l s' e1=>?_) (fun j l s2 e1 hj=>?_) <;> unfold vlD <;> simp only [pmr,hrn]
  ·refine ⟨fun _=>?_,fun h=>absurd trivial h⟩
   rw [e1] at ho ⊢
   obtain ⟨x,rfl⟩:=List.length_eq_one_iff.1 ho.1
   refine ai (BT (.inr rfl)) ?_
   exact rfl
  ·exact ⟨fun h=>absurd h hj,fun _=>err (w:=v0) (s2:=s2) e1 hj⟩
 | @not _ _ _ _ _ a ha =>
  refine aA (k:=4) Q1 (aA (k:=4) Q1 (aA (k:=4) Q1 (aA (k:=4) Q1 (aA (k:=4) Q1 (aA (k:=4) Q1 (aA (k:=4) Q1 (lG rfl ?_)))))))
  have hkz : Ex.sizes [a]<=_:=(show _ = 1+Ex.sizes [a] from hsz) ▸ Nat.le_add_left _ _
  obtain ⟨ho,hr⟩:=kidsA (l:=[a]) (ts:=fun _=>tyL) (one ha) Q2 hkz
  rw [vF4,kX Q2]
  refine kS hr (fun l s' e1=>?_) (fun j l s2 e1 hj=>?_) <;> unfold vlD <;> simp only [pmr,hrn]
  ·refine ⟨fun _=>?_,fun h=>absurd trivial h⟩
   rw [e1] at ho ⊢
   obtain ⟨x,rfl⟩:=List.length_eq_one_iff.1 ho.1
   refine ai (BT (.inl rfl)) ?_
   exact rfl
  ·exact ⟨fun h=>absurd h hj,fun _=>err (w:=v0) (s2:=s2) e1 hj⟩
 | @both _ _ _ _ _ u _ _ a b ho' ha hb =>
  refine aA (k:=4) Q1 (aA (k:=4) Q1 (aA (k:=4) Q1 (aA (k:=4) Q1 (aA (k:=4) Q1 (aA (k:=4) Q1 (aA (k:=4) Q1 (lG rfl ?_)))))))
  have hkz : Ex.sizes [a,b]<=_:=(show _ = 1+Ex.sizes [a,b] from hsz) ▸ Nat.le_add_left _ _
  obtain ⟨ho,hr⟩:=kidsA (l:=[a,b]) (ts:=fun _=>u) (two ha hb) Q2 hkz
  rw [vF4,kX Q2]
  refine kS hr (fun l s' e1=>?_) (fun j l s2 e1 hj=>?_) <;> unfold vlD <;> simp only [pmr,hrn]
  ·refine ⟨fun _=>?_,fun h=>absurd trivial h⟩
   rw [e1] at ho ⊢
   obtain ⟨x,y,rfl⟩ : ∃ x y,l = [x,y]:=by
    match l,ho.1 with
    | [x,y],_=>exact ⟨x,y,rfl⟩
   have q0:=ho.2.1 0 Q2
   have q1:=ho.2.1 1 Q2
   obtain ⟨v,k1,k2,k3⟩:=B7 (x:=x) (y:=y) ho' q0.1 q1.1 q0.2 q1.2
   refine ai (rop2_is ho' q0.1 q1.1 q0.2 q1.2 k1) ?_
   show vh p F (tj (opV _ [x,y]) s') _
   rw [k1]
   exact rfl
  ·exact ⟨fun h=>absurd h hj,fun _=>err (w:=v0) (s2:=s2) e1 hj⟩
 | @ife _ _ _ _ _ _ _ a b e ha hb he =>
  have z : _ = 1+(a.size+(b.size+(e.size+0))):=hsz
  refine aA (k:=5) Q1 (aA (k:=5) Q1 (aA (k:=5) Q1 (aA (k:=5) Q1 (aA (k:=5) Q1 (aA (k:=5) Q1 (aA (k:=5) Q1 (aA (k:=5) Q1 (⟨⟨Int.le_refl _,by simp [Ex.kids]⟩,?_⟩))))))))
  have e0 : el ([a,b,e].flatMap Ex.enc) 15 0 = a.enc:=gY [a,b,e] (k:=0) Q2
  have eb : el ([a,b,e].flatMap Ex.enc) 15 1 = b.enc:=gY [a,b,e] (k:=1) Q2
  have e2 : el ([a,b,e].flatMap Ex.enc) 15 2 = e.enc:=gY [a,b,e] (k:=2) Q2
  rw [vF5]
  simp only [Ex.kids,Ex.n,Ex.id,Ex.kind,e0]
  obtain ⟨oa,ra⟩:=ih ha hE Q0 (Int.le_refl s)
  refine kT ra (fun v s' e1=>?_) (fun j w s2 e1 hj=>?_) <;> simp only [pmr,hrn,hv1]
  ·refine ⟨fun _=>?_,fun h=>absurd trivial h⟩
   rw [e1] at oa ⊢
   obtain ⟨f1,f2,f3⟩:=oa
   refine vp ?_
   rcases (fits_bool.1 f1).2.2 with h0 | h0
   ·rw [h0]
    refine ⟨Q4,⟨Q1,Q2⟩,?_⟩
    show caK IS s94 [el ([a,b,e].flatMap Ex.enc) 15 2,[aR E],rnD p F s' 0] _
    rw [e2]
    refine pR ?_
    show Rs p F s94 _ (if v.n ≠ 0 then g b E s' else g e E s')
    rw [if_neg Q0]
    exact (ih he hE Q0 f3).2
   ·rw [h0]
    refine ⟨Q4,⟨Q1,Q2⟩,?_⟩
    show caK IS s94 [el ([a,b,e].flatMap Ex.enc) 15 1,[aR E],rnD p F s' 0] _
    rw [eb]
    refine pR ?_
    show Rs p F s94 _ (if v.n ≠ 0 then g b E s' else g e E s')
    rw [if_pos Q0]
    exact (ih hb hE Q0 f3).2
  ·exact ⟨fun h=>absurd h hj,fun _=>err1 (w:=v0) (s2:=s2) e1 hj⟩
 | @lete _ _ _ _ _ u _ _ a b ha hb =>
  have z : _ = 1+(a.size+(b.size+0)):=hsz
  refine aA (k:=6) Q1 (aA (k:=6) Q1 (aA (k:=6) Q1 (aA (k:=6) Q1 (aA (k:=6) Q1 (aA (k:=6) Q1 (aA (k:=6) Q1 (aA (k:=6) Q1 (⟨⟨Int.le_refl _,by simp [Ex.kids]⟩,?_⟩))))))))
  have e0 : el ([a,b].flatMap Ex.enc) 15 0 = a.enc:=gY [a,b] (k:=0) Q2
  have eb : el ([a,b].flatMap Ex.enc) 15 1 = b.enc:=gY [a,b] (k:=1) Q2
  rw [vF6]
  simp only [Ex.kids,Ex.n,Ex.id,Ex.kind,e0]
  obtain ⟨oa,ra⟩:=ih ha hE Q0 (Int.le_refl s)
  refine kT ra (fun v s' e1=>?_) (fun j w s2 e1 hj=>?_) <;> simp only [pmr,hrn,hv1]
  ·refine ⟨fun _=>?_,fun h=>absurd trivial h⟩
   rw [e1] at oa ⊢
   obtain ⟨f1,f2,f3⟩:=oa
   refine aA (k:=6) Q1 (vp ?_)
   refine ⟨⟨Q1,Q2⟩,ai (lM hEl) ?_⟩
   rw [eb]
   unfold aR
   simp only [pmr]
   exact pR (ih (E:=(_,0,v)::E) hb ⟨⟨rfl,rfl,f1,f2⟩,hE⟩ Qc f3).2
  ·exact ⟨fun h=>absurd h hj,fun _=>err1 (w:=v0) (s2:=s2) e1 hj⟩
 | @field _ _ _ _ _ d j a hd hk hlt ha =>
  have z : _ = 1+(a.size+0):=hsz
  refine aA (k:=8) Q1 (aA (k:=8) Q1 (aA (k:=8) Q1 (aA (k:=8) Q1 (aA (k:=8) Q1 (aA (k:=8) Q1 (aA (k:=8) Q1 (aA (k:=8) Q1 (⟨⟨Int.le_refl _,by simp [Ex.kids]⟩,?_⟩))))))))
  have e0 : el ([a].flatMap Ex.enc) 15 0 = a.enc:=gY [a] (k:=0) Q2
  rw [vF8]
  simp only [Ex.kids,Ex.n,Ex.id,Ex.kind,e0]
  obtain ⟨oa,ra⟩:=ih ha hE Q0 (Int.le_refl s)
  refine kT ra (fun v s' e1=>?_) (fun j w s2 e1 hj=>?_) <;> simp only [pmr,hrn,hv1]
  ·refine ⟨fun _=>?_,fun h=>absurd trivial h⟩
   rw [e1] at oa ⊢
   obtain ⟨f1,f2,f3⟩:=oa
   refine aA (k:=8) Q1 (aA (k:=8) Q1 (vp ?_))
   have hth:=hp.the d hd
   have tyd : fU p d.id:=⟨⟨d,hd,rfl⟩,by rw [hth];exact .inl hk⟩
   obtain ⟨_,_,hl,hf⟩:=(tV tyd (by rw [hth];exact hk)).1 f1
   simp only [hth] at hl hf
   have hjk : j < v.kids.length:=Q0
   refine ⟨Q0,?_⟩
   show vh p F (if (0 : Int)<=j then tj v.kids[((j : Nat) : Int).toNat]? s' else .bad) [el (v.kids.flatMap Val.enc) 3 ((j : Nat) : Int).toNat,_]
   rw [if_pos Q0,Int.toNat_natCast,ek _ hjk,List.getElem?_eq_getElem hjk]
   exact rfl
  ·exact ⟨fun h=>absurd h hj,fun _=>err1 (w:=v0) (s2:=s2) e1 hj⟩
 | @mat _ _ _ _ _ _ _ d a kids hd hk hl ha hm =>
  have z : _ = 1+(a.size+Ex.sizes kids):=hsz
  refine aA (k:=10) Q1 (aA (k:=10) Q1 (aA (k:=10) Q1 (aA (k:=10) Q1 (aA (k:=10) Q1 (aA (k:=10) Q1 (aA (k:=10) Q1 (aA (k:=10) Q1 (⟨⟨Int.le_refl _,by simp [Ex.kids] <;> omega⟩,?_⟩))))))))
  have e0 : el ((a::kids).flatMap Ex.enc) 15 0 = a.enc:=gY (a::kids) (k:=0) Q2
  rw [vF10]
  simp only [Ex.kids,Ex.n,Ex.id,Ex.kind,e0]
  obtain ⟨oa,ra⟩:=ih ha hE Q0 (Int.le_refl s)
  refine kT ra (fun v s' e1=>?_) (fun j w s2 e1 hj=>?_) <;> simp only [pmr,hrn,hv1]
  ·refine ⟨fun _=>?_,fun h=>absurd trivial h⟩
   rw [e1] at oa ⊢
   obtain ⟨f1,f2,f3⟩:=oa
   refine aA (k:=10) Q1 (aA (k:=10) Q1 (aA (k:=10) Q1 (vp ?_)))
   have hth:=hp.the d hd
   have tyd : fU p d.id:=⟨⟨d,hd,rfl⟩,by rw [hth];exact .inr hk⟩
   obtain ⟨_,k,hlt,hn,x,hx,hf⟩:=(qx tyd (by rw [hth];exact hk)).1 f1
   have hf':=hp.few d hd
   simp only [hth] at hlt hf
   have hk' : k < kids.length:=Q0
   have hxs:=lZ (v:=v) (x:=x) (by rw [hx];simp)
   have hzk:=vv (List.getElem_mem hk')
   have e2 : el ((a::kids).flatMap Ex.enc) 15 (k+1) = kids[k].enc:=(gY (a::kids) (k:=k+1) (by simpa using hk'))
   have e3 : el (v.kids.flatMap Val.enc) 3 0 = x.enc:=by rw [hx];exact ek [x] (k:=0) Q2
   rw [hn,e3]
   refine ⟨Q4,⟨Q0,Qb⟩,⟨Q1,by rw [hx];simp⟩,ai (lM hEl) ?_⟩
   rw [show (1+(k : Int)).toNat = k+1 by omega,e2]
   unfold aR
   simp only [pmr]
   refine pR ?_
   show Rs p F s94 _ (match v.kids[0]? with | some x=>if -4611686018427387904<=v.n/\v.n<=4611686018427387904 then lu g (a::kids) (1+v.n) ((_,v.n,x)::E) s' else .bad | none=>.bad)
   rw [hx]
   dsimp only [List.getElem?_cons_zero]
   rw [hn,if_pos Q0,lu,if_pos Q0,show (1+(k : Int)).toNat = k+1 by omega,List.getElem?_cons_succ,List.getElem?_eq_getElem hk']
   exact (ih (E:=(_,(k : Int),x)::E) (hm k hk') ⟨⟨rfl,rfl,hf,Nat.le_trans hxs f2⟩,hE⟩ Qc f3).2
  ·exact ⟨fun h=>absurd h hj,fun _=>err1 (w:=v0) (s2:=s2) e1 hj⟩
 | @call _ _ _ _ _ d kids hd hb hl hm =>
  refine aA (k:=3) Q1 (aA (k:=3) Q1 (aA (k:=3) Q1 (lG rfl ?_)))
  have hf:=hp.few d hd
  have hkz : Ex.sizes kids<=_:=(show _ = 1+Ex.sizes kids from hsz) ▸ Nat.le_add_left _ _
  obtain ⟨ho,hr⟩:=kidsA (l:=kids) (ts:=fun j=>(d.slots.getD j default).ty) (fun j hj=>by
   rw [List.getD_eq_getElem?_getD,List.getElem?_eq_getElem (show j < d.slots.length by omega)];exact hm j hj) Q0 hkz
  have hdl:=hc.len
  have hbs : d.body.size<=100000000000:=by
   obtain ⟨j,hj,rfl⟩:=List.mem_iff_getElem.1 hd
   exact (hc.calls j hj hb).2
  rw [vF3,kX Q0,hp.the d hd]
  refine kS hr (fun l s' e1=>?_) (fun j l s2 e1 hj=>?_) <;> unfold vlD <;> simp only [pmr,hrn]
  ·refine ai (mP p d.id Q0) ?_
   simp only [pmr]
   rw [hp.the d hd]
   rw [e1] at ho ⊢
   obtain ⟨q1,q2,q3⟩:=ho
   obtain ⟨E2,h3,h4⟩:=sL (p:=p) (d:=d) (al:=l) Q0 fun j hj=>by
    have:=q2 j hj
    dsimp only at this
    rw [List.getD_eq_getElem?_getD,List.getElem?_eq_getElem (show j < d.slots.length by omega)] at this
    exact this
   refine pR ?_
   show Rs p F s65 _ (match cH d.slots l [] with | some env2=>g d.body env2 s' | none=>.bad)
   rw [h3]
   have hbl:=qH d.slots l []
   rw [jX h3] at hbl
   obtain ⟨r,hr1,hr2⟩:=(ih (hp.body d hd hb) h4 (by simp at hbl;omega) q3).2
   obtain ⟨w,s3,k3,rfl⟩:=hr1.un
   exact ⟨_,hr1,s7 hf rfl (by rw [jX h3];exact hr2)⟩
  ·refine ai (mP p d.id Q0) ?_
   simp only [pmr]
   rw [hp.the d hd]
   refine ai (s7 (w:=v0) (al:=l) hf rfl (xV hj _ _)) ?_
   simp only [pmr]
   exact err (w:=v0) (s2:=s2) e1 hj
 | @fold _ _ _ _ _ _ _ a b e ha hb he =>
  rename_i i r n u ns
  have z : _ = 1+(a.size+(b.size+(e.size+0))):=hsz
  refine aA (k:=12) Q1 (aA (k:=12) Q1 (aA (k:=12) Q1 (aA (k:=12) Q1 (aA (k:=12) Q1 (aA (k:=12) Q1 (aA (k:=12) Q1 (aA (k:=12) Q1 (⟨⟨Int.le_refl _,by simp [Ex.kids]⟩,?_⟩))))))))
  have e0 : el ([a,b,e].flatMap Ex.enc) 15 0 = a.enc:=gY [a,b,e] (k:=0) Q2
  have eb : el ([a,b,e].flatMap Ex.enc) 15 1 = b.enc:=gY [a,b,e] (k:=1) Q2
  have e2 : el ([a,b,e].flatMap Ex.enc) 15 2 = e.enc:=gY [a,b,e] (k:=2) Q2
  rw [vF12]
  simp only [Ex.kids,Ex.n,Ex.id,Ex.kind,e0]
  obtain ⟨oa,ra⟩:=ih ha hE Q0 (Int.le_refl s)
  refine kT ra (fun v s' e1=>?_) (fun j w s2 e1 hj=>?_) <;> simp only [pmr,hrn,hv1]
  ·refine ⟨fun _=>?_,fun h=>absurd trivial h⟩
   rw [e1] at oa ⊢
   obtain ⟨f1,f2,f3⟩:=oa
   refine aA (k:=12) Q1 (aA (k:=12) Q1 (aA (k:=12) Q1 (aA (k:=12) Q1 (⟨⟨Q1,Q2⟩,?_⟩))))
   rw [eb]
   show caK IS s94 _ _
   obtain ⟨ob,rb⟩:=ih hb hE Q0 f3
   generalize hff : (fun x a s3=>g e ((i,1,a)::(i,0,x)::E) s3) = ff
   have hk:=(iC.1 f1).2.2
   have hvl:=cv v.kids
   have hvz:=Val.size_eq v
   generalize hall : (EO.ok v s').bind (fun v s1=>(g b E s1).bind fun acc s2=>gh ff v.kids acc s2) = all
   replace hall : (g b E s').bind (fun acc s2=>gh ff v.kids acc s2) = all:=hall
   refine CA rb fun acc s2 k ho=>?_
   have hI : (k = 0/\s'<=s2/\aB p acc t = true/\acc.size<=256/\all = gh ff v.kids acc s2)\/(k ≠ 0/\all = .err k):=by
    rcases ho with ⟨h1,h2⟩ | ⟨h1,h2⟩
    ·rw [h2] at ob hall
     exact .inl ⟨h1,ob.2.2,ob.1,ob.2.1,hall.symm⟩
    ·rw [h2] at hall
     exact .inr ⟨h1,hall.symm⟩
   simp only [pmr]
   refine jf (σ:=Nat×Int×Int×Val) (fun x=>[[aR E],[vI (x.1 : Int)],rnD p F x.2.1 x.2.2.1,(Ex.mk i 12 n r u [a,b,e] ns).enc,[vI 0,vI 0,.sl 0 3 []],v.enc,x.2.2.2.enc]) (fun x=>v.kids.length - x.1)
    (fun x=>x.1<=v.kids.length/\((x.2.2.1 = 0/\s'<=x.2.1/\aB p x.2.2.2 t = true/\x.2.2.2.size<=256/\all = gh ff (v.kids.drop x.1) x.2.2.2 x.2.1)\/(x.2.2.1 ≠ 0/\all = .err x.2.2.1))) (0,s2,k,acc) ⟨Nat.zero_le _,hI⟩ rfl ?_
   rintro ⟨j,s3,k3,a3⟩ next ⟨h1,h2⟩ hn
   dsimp only at h1 h2 hn
   simp only [pmr,pms,hv1]
   refine ⟨fun hj=>⟨⟨Q1,by simp [Ex.kids]⟩,⟨Q0,Q0⟩,?_⟩,fun hj=>?_⟩
   ·have hlt : j < v.kids.length:=Q0
    have hxs:=lZ (v:=v) (x:=v.kids[j]) (List.getElem_mem hlt)
    rw [ek _ hlt]
    refine ai (lM (E:=E) (i:=i) (k:=0) (v:=v.kids[j]) hEl) ?_
    unfold aR at hn ⊢
    simp only [pmr]
    refine ai (lM (E:=(i,0,v.kids[j])::E) (i:=i) (k:=1) (v:=a3) Qc) ?_
    unfold aR
    simp only [pmr]
    show caK IS s94 [el ([a,b,e].flatMap Ex.enc) 15 2,[aR ((i,1,a3)::(i,0,v.kids[j])::E)],rnD p F s3 k3] _
    rw [e2]
    have go : ∀ (w : Val) (s4 k4 : Int),((k4 = 0/\s'<=s4/\aB p w t = true/\w.size<=256/\all = gh ff (v.kids.drop (j+1)) w s4)\/(k4 ≠ 0/\all = .err k4))->okI ((j : Int)+1)/\next [[.sl E.length 7 (E.reverse.flatMap yA)],[vI ((j : Int)+1)],rnD p F s4 k4,(Ex.mk i 12 n r u [a,b,e] ns).enc,[vI 0,vI 0,.sl 0 3 []],v.enc,w.enc]:=fun w s4 k4 hw =>
     ⟨Q4,hn (j+1,s4,k4,w) (by show v.kids.length - (j+1) < v.kids.length - j;omega) ⟨by show j+1<=_;omega,hw⟩⟩
    rcases h2 with ⟨rfl,h2,h3,h4,h5⟩ | ⟨h2,h3⟩
    ·obtain ⟨oe,re⟩:=ih (E:=(i,1,a3)::(i,0,v.kids[j])::E) he ⟨⟨rfl,rfl,h3,h4⟩,⟨rfl,rfl,hk _ (List.getElem_mem hlt),Nat.le_trans hxs f2⟩,hE⟩ Qc (show s<=s3 by omega)
     have hst : all = (g e ((i,1,a3)::(i,0,v.kids[j])::E) s3).bind fun w s4=>gh ff (v.kids.drop (j+1)) w s4:=by
      rw [h5,tQ hlt,<-hff]
     refine CA re fun w s4 k4 ho=>?_
     simp only [pmr]
     refine go w s4 k4 ?_
     rcases ho with ⟨q1,q2⟩ | ⟨q1,q2⟩
     ·rw [q2] at oe hst
      exact .inl ⟨q1,by have:=oe.2.2;omega,oe.1,oe.2.1,hst⟩
     ·rw [q2] at hst
      exact .inr ⟨q1,hst⟩
    ·refine ai (xV h2 _ _) ?_
     simp only [pmr]
     exact go v0 s3 k3 (.inr ⟨h2,h3⟩)
   ·obtain rfl : j = v.kids.length:=Q0
    rcases h2 with ⟨rfl,h2,h3,h4,h5⟩ | ⟨h2,h3⟩
    ·rw [wg rfl] at h5
     rw [h5]
     exact rfl
    ·rw [h3]
     exact ⟨h2,a3,s3,rfl⟩
  ·exact ⟨fun h=>absurd h hj,fun _=>err1 (w:=v0) (s2:=s2) e1 hj⟩
theorem yQ (hp : TyP p) (hc : CallsP p) (hF : F<=1099511627776) : ∀ (g : Nat) {e : Ex} {G : TEnv} {E : Env} {t : Ty} {s : Int},WTy p G e t->p5 p G E->2 * e.size+E.length<=1000000000000->0<=s->F<=s+g ->
  Rs p F s94 [e.enc,[aR E],rnD p F s 0] (aK p F g e E s)
 | 0,e,G,E,t,s,_,_,_,_,h=>by
  rw [iX Q0]
  exact ⟨_,⟨Q1,v0,s,rfl⟩,vT Q0 _ _⟩
 | g+1,e,G,E,t,s,hw,hE,hs,h0,h=>by
  by_cases hf : F<=s
  ·rw [iX hf]
   exact ⟨_,⟨Q1,v0,s,rfl⟩,vT hf _ _⟩
  rw [aK,if_neg hf]
  have ho:=sy hp (s:=s+1) (g:=aK p F g) (fun hw hE hs=>mX hp g hw hE Q0) hw hE
  have hv:=Da (F:=F) hp hc (s:=s+1) (g:=aK p F g) (fun hw hE hs h1=>⟨mX hp g hw hE Q0,yQ hp hc hF g hw hE hs Q0 Q0⟩) hw hE hs
  refine some94 ?_
  unfold g94
  have hrn : ∀ s k : Int,cell (rnD p F s k) 4 = vI k/\cell (rnD p F s k) 3 = vI s/\cell (rnD p F s k) 2 = vI F:=fun _ _=>⟨rfl,rfl,rfl⟩
  simp only [pmr,pms,hrn]
  refine vp (skipN hf ⟨Q4,?_⟩)
  refine kT hv (fun v s' e1=>?_) (fun j w s2 e1 hj=>?_)
  ·rw [e1] at ho ⊢
   have hz:=ho.2.1
   show jn _ _
   have hch : (EO.ok v s').bind rF = rF v s':=rfl
   rw [hch]
   simp only [pmr,hrn]
   refine gO (vp (ai (oN v Q0) ?_))
   simp only [pmr]
   refine ⟨fun h6=>?_,fun h6=>ai (qf v Q0) ?_⟩
   ·rw [mq Q0 (.inl Q0)]
    exact ⟨fun h=>absurd h Q1,fun _=>⟨Q1,v0,s',rfl⟩⟩
   ·refine ⟨fun h7=>?_,fun h7=>?_⟩
    ·rw [mq Q0 (.inr Q0)]
     exact ⟨fun h=>absurd h Q1,fun _=>⟨Q1,v0,s',rfl⟩⟩
    ·rw [yc Q0]
     exact lG rfl rfl
  ·rw [e1]
   simp only [pmr,hrn]
   refine gO ⟨fun h=>absurd h hj,fun _=>⟨fun h=>absurd h hj,fun _=>⟨hj,v0,s2,rfl⟩⟩⟩
end
end Go.Proofs.YtanbipbiblikbaaDoor

namespace Xe
open Go
def Fu (F' s : Int) (r r' : EO) : Prop:=∀ x s',r = .ok x s'->s<=s'/\(s<=F'->(s'<=F'->r' = .ok x s')/\(F' < s'->r' = .err 18))
section
variable {F' s : Int}
end
section
variable {F' : Int} {g g' : Ex->Env->Int->EO} (h : ∀ e env s,Fu F' s (g e env s) (g' e env s))
end
theorem DM {p : ProgT} (hn : Names p) {t : Ty} (h : gTy p t) : bh p t:=by
 rcases h with rfl | rfl | rfl | ⟨d,hd,hk,rfl⟩
 ·exact ok0 p
 ·exact okL p
 ·exact FC p
 ·exact okOf ⟨⟨d,hd,rfl⟩,by rw [hn.the hd];exact hk⟩
theorem A2 {p : ProgT} (hn : Names p) : ∀ (n : Nat) {t : Ty},wfT p n t->gTy p t->vdT p n t
 | 0,t,h,_=>h.elim
 | n+1,t,h,hg=>by
  refine ⟨DM hn hg,fun h2=>?_,fun h3=>?_⟩
  ·have hw:=(eZ h h2).2
   rcases hg with rfl | rfl | rfl | ⟨d,hd,hk,rfl⟩
   ·cases h2
   ·cases h2
   ·exact A2 hn n hw (.inl rfl)
   ·cases h2
  ·have hw:=(eR h Q0 Q0 Q0).2.2
   rcases hg with rfl | rfl | rfl | ⟨d,hd,hk,rfl⟩
   ·cases h3
   ·cases h3
   ·cases h3
   ·intro s hs
    have hs' : s∈d.slots:=by rw [show (ofT d.id).df = d.id from rfl,hn.the hd] at hs;exact hs
    exact A2 hn n (hw s hs) (hn.gs d hd s hs')
theorem s9 (l : List Int) : ∀ d∈(aJ l).defs,∀ s∈d.slots,wfT (aJ l) 4 s.ty/\vdT (aJ l) 4 s.ty:=fun d hd s hs=>by
 obtain ⟨N,hN,hlk,_⟩:=ko l
 have hnm:=(nX l).nm
 obtain ⟨e,he,hsh⟩:=hlk.mem hd
 have hs' : s∈e.slots:=by rw [<-(cT hsh).2.2.2.2.1];exact hs
 have h1:=(G4 l).2 e he s hs'
 have h2 : wfT ⟨(aJ l).mods,(aJ l).defs⟩ 4 s.ty:=hlk.wf 4 _ h1
 have h3 : wfT (aJ l) 4 s.ty:=h2
 exact ⟨h3,A2 hnm 4 h3 (hnm.gs d hd s hs)⟩
theorem mK {p : ProgT} {t : Ty} (h : wfT p 4 t) (l : List Int) (d : Int) : (mkF p l 4 t 0 d).1.size<=256/\(mkF p l 4 t 0 d).1.depth<=4:=by
 have h1:=(rQ 4 t 0 d (l:=l) h).2
 have h2:=FR 4 t 0 d (l:=l) h
 have h3 : (4 : Int) ^ 4 = 256:=Q1
 exact ⟨Q0,DB 4 t 0 d h⟩
theorem CS {p : ProgT} {t : Ty} (h : wfT p 4 t) (hv : vdT p 4 t) (l : List Int) (d : Int) : gk p t (mkF p l 4 t 0 d).1 :=
 (p9 _ _ _).2 ⟨(mK h l d).1,by have:=(mK h l d).2;omega,FT 4 t 0 d h hv⟩
def pS (p : ProgT) (id : IdT) : Prop:=dc p id/\¬ bare (aj p id)
instance (p : ProgT) (id : IdT) : Decidable (pS p id):=by unfold pS;exact inferInstance
def gE (p : ProgT) (d : DefT) (args : List Val) : Prop:=args.length = d.slots.length/\∀ x∈List.zip d.slots args,gk p x.1.ty x.2
instance (p : ProgT) (d : DefT) (args : List Val) : Decidable (gE p d args):=by unfold gE;exact inferInstance
theorem kW {p : ProgT} {d : DefT} {args : List Val} (h : gE p d args) : ∀ j (hj : j < args.length),gk p (d.slots[j]'(by have:=h.1;omega)).ty args[j]:=fun j hj=>by
 have h1:=h.1
 refine h.2 (d.slots[j],args[j]) ?_
 have : (List.zip d.slots args)[j]'Qc = (d.slots[j],args[j]):=Q2
 rw [<-this]
 exact List.getElem_mem _
theorem oF {p : ProgT} {d : DefT} {args : List Val} (h1 : args.length = d.slots.length) (h : ∀ j (hj : j < args.length),gk p (d.slots[j]'Q0).ty args[j]) : gE p d args:=⟨h1,fun x hx=>by
 obtain ⟨j,hj,rfl⟩:=List.mem_iff_getElem.1 hx
 simp only [List.getElem_zip]
 exact h j (by simp at hj;omega)⟩
def iT : EO->Val×Int×Int
 | .ok x s=>(x,s,0)
 | .err k=>(v0,0,k)
 | .bad=>(v0,0,0)
def bX (p : ProgT) (g : Nat) (id : IdT) (args : List Val) (fuel : Int) : EO :=
 if pS p id then (if gE p (aj p id) args then zN p (max fuel 0) g (aj p id) args 0 else .err 1) else .err 6
theorem uH {p : ProgT} {d : DefT} {args : List Val} (h : gE p d args) : ∃ E,cH d.slots args [] = some E/\p5 p (yJ d) E :=
 sL h.1 fun j hj=>by
  have:=(p9 _ _ _).1 (kW h j hj)
  exact ⟨this.2.2,this.1⟩
theorem GU {p : ProgT} (hp : TyP p) {g : Nat} {id : IdT} {args : List Val} {fuel : Int} (hg : max fuel 0<=g) : bX p g id args fuel ≠ .bad:=by
 unfold bX
 split
 ·rename_i hb
  split
  ·rename_i hf
   obtain ⟨d,hd,hid⟩ : ∃ d∈p.defs,d.id = id:=hb.1
   have ht : aj p id = d:=by rw [<-hid];exact hp.the d hd
   obtain ⟨E,h1,h2⟩:=uH hf
   unfold zN
   rw [h1]
   dsimp only
   have hbd:=hp.body d hd (by rw [<-ht];exact hb.2)
   rw [ht] at h2 ⊢
   have:=mX hp (F:=max fuel 0) g hbd h2 (s:=0) Q0
   intro hc
   rw [hc] at this
   exact this
  ·exact fun h=>by cases h
 ·exact fun h=>by cases h
end Xe

namespace Go.Proofs.YtanbipbiblikbaaDoor
open Xe Pm
theorem D1 {p : ProgT} {g : Nat} {e : Ex} {E : Env} {f : Int} : aK p f g e E 0 = aK p (max f 0) g e E 0:=by
 by_cases h : 0<=f
 ·rw [show max f 0 = f by omega]
 ·rw [iX Q0,iX Q0]
theorem Fc {p : ProgT} (hp : TyP p) (hc : CallsP p) {g : Nat} {i : IdT} {al : List Val} {f : Int} (hg : max f 0<=g) (hf : f<=1099511627776) (hz : ∀ v∈al,v.size<=1000000000000000) (hal : al.length<=1000000000000) :
  ∃ r,(∃ w : Val,r = [w.enc,[vI (iT (bX p g i al f)).2.1],[vI (iT (bX p g i al f)).2.2]]/\w = (iT (bX p g i al f)).1)/\IS s27 [pgL p,i.enc,[vlD al],[vI f]] r:=by
 have hpl:=hc.len
 refine w27.some ?_ (by rintro r ⟨w,rfl,_⟩;exact trivial)
 unfold g27 vlD
 simp only [pmr]
 have v0e : v0.enc = [vI 0,vI 0,.sl 0 3 []]:=rfl
 refine ai (mP p i Q0) ?_
 simp only [pmr,pms]
 have none : ¬ pS p i->∃ w : Val,([[vI 0,vI 0,.sl 0 3 []],[vI 0],[vI 6]] : St') = [w.enc,[vI (iT (bX p g i al f)).2.1],[vI (iT (bX p g i al f)).2.2]]/\w = (iT (bX p g i al f)).1:=fun h=>by
  refine ⟨v0,?_,?_⟩ <;> (unfold bX;rw [if_neg h];rfl)
 have arg : pS p i->¬ gE p (aj p i) al->∃ w : Val,([[vI 0,vI 0,.sl 0 3 []],[vI 0],[vI 1]] : St') = [w.enc,[vI (iT (bX p g i al f)).2.1],[vI (iT (bX p g i al f)).2.2]]/\w = (iT (bX p g i al f)).1:=fun h h2=>by
  refine ⟨v0,?_,?_⟩ <;> (unfold bX;rw [if_pos h,if_neg h2];rfl)
 refine ⟨fun hd=>?_,fun hd=>none (fun c=>hd c.1)⟩
 ·obtain ⟨d,hdm,hid⟩ : ∃ d∈p.defs,d.id = i:=id hd
  have ht : aj p i = d:=by rw [<-hid];exact hp.the d hdm
  rw [ht] at arg ⊢
  refine ai (oq d (hc.nm.kd d hdm)) ?_
  simp only [pmr,pms]
  refine ⟨fun hb=>?_,fun hb=>none (fun c=>hb (by have:=c.2;rwa [ht] at this))⟩
  ·have hbp : pS p i:=⟨hd,by rw [ht];exact hb⟩
   refine ⟨fun hl=>?_,fun hl=>arg hbp (fun c=>hl (by have:=c.1;omega))⟩
   have hl' : al.length = d.slots.length:=Q0
   refine gO ?_
   refine cg al.length (fun j=>[[vlD al],[vI f],[vI (j : Int)],pgL p,[vI 0,vI 0,.sl 0 3 []],d.enc]) (fun j=>∀ q (h : q < al.length) (h2 : q < d.slots.length),q < j->gk p d.slots[q].ty al[q]) (fun _ _ _ h=>absurd h (Nat.not_lt_zero _)) rfl fun j next hj hI hn=>?_
   unfold vlD at hn ⊢
   simp only [pmr,pms]
   refine ⟨fun h=>?_,fun h=>?_⟩
   ·have hlt : j < al.length:=Q0
    have hlt2 : j < d.slots.length:=Q0
    rw [iZ _ hlt2,ek _ hlt]
    simp only [pms]
    refine ⟨Q0,Q0,ai (Db Q0 (hz _ (List.getElem_mem hlt))) ?_⟩
    simp only [pmr,pms]
    refine ⟨fun hv=>⟨Q4,hn hlt fun q h1 h2 h3=>?_⟩,fun hv=>arg hbp (fun c=>hv (kW c j hlt))⟩
    by_cases e : q = j
    ·subst e;exact hv
    ·exact hI q h1 h2 Q0
   ·have hfit : gE p d al:=oF hl' fun q hq=>hI q hq Q0 Q0
    obtain ⟨E,h1,h2⟩:=uH hfit
    have hce : bX p g i al f = aK p f g d.body E 0:=by
     unfold bX
     rw [if_pos hbp,ht,if_pos hfit]
     unfold zN
     rw [h1]
     exact D1.symm
    have hbs : d.body.size<=100000000000:=by
     obtain ⟨k,hk,rfl⟩:=List.mem_iff_getElem.1 hdm
     exact (hc.calls k hk hb).2
    have hfew:=hp.few d hdm
    have hbl:=qH d.slots al []
    rw [jX h1] at hbl
    have hr:=yQ (F:=f) hp hc hf g (hp.body d hdm hb) h2 (s:=0) (by simp at hbl;omega) Q0 Q0
    rw [<-hce] at hr
    have hrn : ∀ s k : Int,cell (rnD p f s k) 4 = vI k/\cell (rnD p f s k) 3 = vI s:=fun _ _=>⟨rfl,rfl⟩
    show caK IS s65 [d.enc,[vlD al],rnD p f 0 0] _
    obtain ⟨r,hr1,hr2⟩:=hr
    obtain ⟨w,s3,k3,rfl⟩:=hr1.un
    have hR : Rs p f s65 [d.enc,[vlD al],rnD p f 0 0] (bX p g i al f):=⟨_,hr1,s7 hfew rfl (by rw [jX h1];exact hr2)⟩
    refine kT hR (fun v n e=>?_) (fun k w2 s4 e hk=>?_)
    ·rw [e]
     simp only [pmr,pms,hrn]
     exact ⟨fun _=>⟨v,rfl,rfl⟩,fun c=>absurd trivial c⟩
    ·rw [e]
     simp only [pmr,pms,hrn]
     exact ⟨fun c=>absurd c hk,fun _=>⟨v0,rfl,rfl⟩⟩
theorem vu : ∀ (l : List Val) (j : Nat) (w : Val) (h : j < l.length),Val.sizes (l.set j w)+l[j].size = Val.sizes l+w.size
 | x::xs,0,w,_=>by simp [Val.sizes];omega
 | x::xs,j+1,w,h=>by
  have:=vu xs j w (by simpa using h)
  simp only [List.set_cons_succ,Val.sizes,List.getElem_cons_succ]
  omega
theorem By (l : List Val) {k : Nat} (hk : k < l.length) (w : Val) : upd (l.flatMap Val.enc) (k * 3+0) w.enc = (l.set k w).flatMap Val.enc :=
 tS Val.aq l hk (by rw [List.take_zero,List.nil_append,Val.aq,Nat.zero_add,List.drop_of_length_le (by rw [Val.aq];exact Nat.le_refl _),List.append_nil]) (by rw [Val.aq];decide)
theorem hU (k n : Int) (l : List Val) : (Val.mk k n l).enc = [vI k,vI n,.sl l.length 3 (l.flatMap Val.enc)]:=by rw [Val.ay];rfl
theorem gG (k n : Int) (l : List Val) : (Val.mk k n l).size = 1+Val.sizes l:=by rw [Val.size_eq];rfl
theorem C2 (a b : List Val) : Val.sizes (a++b) = Val.sizes a+Val.sizes b:=Val.dQ a b
theorem CY (v : Val) : ∀ (at' how wth : Int),v.Sm->v.size<=1000000000000->InI at'->InI how->InI wth->∃ r,(∃ w : Val,r = [w.enc]/\w.size<=v.size+1)/\IS s24 [v.enc,[vI at'],[vI how],[vI wth]] r:=by
 refine Val.sX (p:=fun v=>∀ (at' how wth : Int),v.Sm->v.size<=1000000000000->InI at'->InI how->InI wth->∃ r,(∃ w : Val,r = [w.enc]/\w.size<=v.size+1)/\IS s24 [v.enc,[vI at'],[vI how],[vI wth]] r) (fun v ih at' how wth hsm hz ha hh hw=>?_) v
 have hse:=Val.size_eq v
 have hls:=cv v.kids
 refine w24.some ?_ (by rintro r ⟨w,rfl,_⟩;exact trivial)
 unfold g24
 simp only [pmr]
 refine cu [[vI how],[vI wth],v.enc,[vI 0,vI 0,.sl 0 3 []]] ?_ ?_
 ·refine ⟨fun h0=>?_,fun _=>rfl⟩
  refine jf (σ:=Nat×Int) (fun x=>[[vI x.2],[vI how],[vI wth],[vI (x.1 : Int)],v.enc,[vI 0,vI 0,.sl 0 3 []]]) (fun x=>v.kids.length - x.1) (fun x=>x.1<=v.kids.length/\0 < x.2/\x.2<=at') (0,at') ⟨Nat.zero_le _,h0,Int.le_refl _⟩ rfl ?_
  rintro ⟨j,a⟩ next ⟨h1,h2,h3⟩ hn
  dsimp only at h1 h2 h3 hn
  unfold InI at ha
  simp only [pmr,gv,tO,tE]
  unfold vlK
  simp only [pmr]
  refine ⟨fun h=>?_,fun _=>trivial⟩
  have hlt : j < v.kids.length:=Q0
  have hm:=Val.bz (List.getElem_mem hlt)
  rw [ek _ hlt]
  refine ⟨Q0,ai (oN _ Q0) ?_⟩
  simp only [pmr]
  refine ⟨fun hc=>⟨Qa,Q0,Q4,?_⟩,fun hc=>⟨Q4,Q4,hn (j+1,a - v.kids[j].size) (by show v.kids.length - (j+1) < v.kids.length - j;omega) ⟨by show j+1<=_;omega,by show 0 < a - (v.kids[j].size : Int);omega,by show a - (v.kids[j].size : Int)<=at';omega⟩⟩⟩
  obtain ⟨r,⟨w,rfl,hws⟩,hr⟩:=ih _ (List.getElem_mem hlt) (a - 1) how wth (hsm.kid (List.getElem_mem hlt)) Q0 (by unfold InI;omega) hh hw
  refine ai hr ?_
  simp only [pmr]
  refine ⟨Q0,.mk v.kind v.n (v.kids.set j w),?_,?_⟩
  ·rw [hU,By _ hlt,Nat.zero_add,List.length_set]
  ·have:=vu v.kids j w hlt
   rw [gG]
   omega
 ·simp only [pmr,gv,tO,tE]
  unfold vlK
  simp only [pmr,Nat.zero_add]
  have hn:=hsm.n
  refine ⟨Qa,ai (fP Q0 hh) ?_⟩
  simp only [pmr]
  refine ⟨fun _=>⟨.mk wth v.n v.kids,by rw [hU],by rw [gG];omega⟩,fun _=>⟨fun _=>⟨.mk v.kind wth v.kids,by rw [hU],by rw [gG];omega⟩,fun _=>⟨fun _=>⟨Q4,.mk v.kind (v.n+1) v.kids,by rw [hU],by rw [gG];omega⟩,fun _=>⟨fun _=>ai (fP Q0 hw) ?_,fun _=>⟨fun _=>⟨fun hp=>⟨⟨Q1,Q0,Q0⟩,?_⟩,fun _=>⟨.mk v.kind v.n v.kids,by rw [hU],by rw [gG];omega⟩⟩,fun _=>⟨.mk v.kind v.n v.kids,by rw [hU],by rw [gG];omega⟩⟩⟩⟩⟩⟩
  ·simp only [pmr]
   refine ⟨Qa,.mk v.kind v.n (v.kids++[.mk (around wth 5) 0 []]),?_,?_⟩
   ·rw [hU]
    simp only [List.length_append,List.flatMap_append,List.length_singleton,List.flatMap_cons,List.flatMap_nil,List.append_nil,hU]
    rfl
   ·rw [gG,C2]
    simp only [Val.sizes,Val.size]
    omega
  ·have h1 : 1<=v.kids.length:=Q0
   obtain ⟨x,xs,hx⟩ : ∃ x xs,v.kids = x::xs:=by
    cases hk : v.kids with
    | nil=>rw [hk] at h1;exact absurd h1 Q1
    | cons x xs=>exact ⟨x,xs,rfl⟩
   refine ⟨.mk v.kind v.n xs,?_,?_⟩
   ·rw [hU,hx]
    have hl : (xs.flatMap Val.enc).length = xs.length * 3:=by
     rw [List.length_flatMap,List.map_congr_left (g:=fun _=>3) (fun x _=>Val.aq x),List.map_const',List.sum_replicate_nat]
    simp
    unfold sub
    rw [show 3 = x.enc.length by rw [Val.aq],List.drop_left,List.take_of_length_le (by rw [hl,Val.aq];exact Nat.le_refl _)]
   ·rw [gG]
    rw [hx] at hse
    simp only [Val.sizes] at hse
    omega
section
variable {p : ProgT} {l : List Int}
def mkO (r : MR) : St':=[[vI r.1.kind,vI r.1.n],[vI r.2],[vlD r.1.kids]]
def MkIs (p : ProgT) (l : List Int) (n : Nat) (t : Ty) (pos d : Int) : Prop:=IS s43 [pgL p,t.enc,[aL l],[vI pos],[vI d]] (mkO (mkF p l n t pos d))
theorem w4 (v : Val) : [vI v.kind,vI v.n,vlD v.kids] = v.enc:=by rw [Val.ay];rfl
theorem wY (dn : List Val) (v : Val) : D.sl (dn.length+1) 3 (dn.flatMap Val.enc++[vI v.kind,vI v.n,vlD v.kids]) = vlD (dn++[v]):=by
 rw [w4]
 unfold vlD
 simp
theorem make_is (hp : p.defs.length<=1000000) (hl : ∀ x∈l,InI x) : ∀ (n : Nat) (t : Ty) (pos d : Int),wfT p n t->0<=pos->pos+4 ^ n<=1000000000000->0<=d->d+n<=1000000->MkIs p l n t pos d:=by
 intro n
 induction n with
 | zero=>intro t pos d h;exact h.elim
 | succ n ih =>
  intro t pos d h h0 hb hd0 hdb
  have hpw : (1 : Int)<=4 ^ n:=Int.pow_pos (n:=4) (m:=n) Q1
  have hs4 : (4 : Int) ^ (n+1) = 4 ^ n * 4:=Int.pow_succ 4 n
  unfold MkIs
  have ht:=rQ (l:=l) (n+1) t pos d h
  rw [mkF] at ht ⊢
  have hz:=cA l pos 1048576 Q0
  refine w43.is ?_
  unfold g43
  simp only [pmr,pms]
  refine ai (CM Q0 hl) ?_
  simp only [pmr]
  generalize hz4 : atL l pos 1048576 = z4 at hz ht ⊢
  have d16 : z4.tdiv 16 = z4 / 16:=iJ hz.1
  have m3 : (z4.tdiv 16).tmod 3 = (z4 / 16) % 3:=by rw [d16];exact bU Q0
  have m9 : (z4.tdiv 16).tmod 9 = (z4 / 16) % 9:=by rw [d16];exact bU Q0
  refine ⟨Q4,fun k0=>?_,fun k0=>⟨fun k1=>?_,fun k1=>⟨fun k2=>?_,fun k2=>?_⟩⟩⟩
  ·rw [if_pos k0]
   refine ⟨Q1,fun c=>⟨⟨Q1,Q4⟩,Q1,Q4,?_⟩,fun c=>⟨Q1,fun c2=>⟨⟨Q1,Q4⟩,Q1,Q4,?_⟩,fun c2=>⟨⟨Q1,Q4⟩,Q1,Q4,?_⟩⟩⟩
   ·rw [if_pos c];rfl
   ·rw [if_neg c,if_pos c2];rfl
   ·rw [if_neg c,if_neg c2];rfl
  ·rw [if_neg k0,if_pos k1]
   exact ⟨Q1,rfl⟩
  ·rw [if_neg k0,if_neg k1,if_pos k2]
   obtain ⟨w1,w2⟩:=eZ h k2
   rw [tP w1] at w2
   have w3 : t.kids.headD ty0 = t.kids[0]:=tP w1
   rw [w3]
   refine ⟨Q1,?_⟩
   generalize hm : (if 3 < d then 0 else (z4.tmod 3).toNat) = m
   have hm3 : m<=2:=by
    have : z4.tmod 3 = z4 % 3:=bU hz.1
    rw [<-hm];split <;> omega
   refine cu [[aL l],[vI (pos+1)],[vI d],[vI (m : Int)],pgL p,t.enc,[vI 0,vI 0,.sl 0 3 []],[vI 4,vI 0],[.sl 0 3 []]] ?_ ?_
   ·have : z4.tmod 3 = z4 % 3:=bU hz.1
    refine ⟨fun c=>by rw [<-hm,if_pos c];rfl,fun c=>?_⟩
    rw [<-hm,if_neg c,Int.toNat_of_nonneg Q0]
   ·simp only [pmr]
    generalize hg : (fun u q=>mkF p l n u q (d+1)) = gg
    generalize hr : mkS gg (List.replicate m t.kids[0]) (pos+1) = r
    refine jf (σ:=Nat×List Val×Int) (fun x=>[[aL l],[vI x.2.2],[vI d],[vI (m : Int)],[vI (x.1 : Int)],pgL p,t.enc,[vI 0,vI 0,.sl 0 3 []],[vI 4,vI 0],[vlD x.2.1]]) (fun x=>m - x.1)
     (fun x=>x.1<=m/\x.2.1.length = x.1/\0<=x.2.2/\x.2.2<=pos+1+x.1 * 4 ^ n/\r = mJ x.2.1 (mkS gg ((List.replicate m t.kids[0]).drop x.1) x.2.2)) (0,[],pos+1) ⟨Nat.zero_le _,rfl,by show 0<=pos+1;omega,by show pos+1<=_;simp,by rw [<-hr];rfl⟩ rfl ?_
    rintro ⟨j,dn,q⟩ next ⟨h1,h2,h3,h4,h5⟩ hn
    dsimp only at h1 h2 h3 h4 h5 hn
    have hmul : (j : Int) * 4 ^ n<=2 * 4 ^ n:=Int.mul_le_mul_of_nonneg_right Q0 Q0
    unfold vlD at hn ⊢
    simp only [pmr]
    refine ⟨fun hj=>?_,fun hj=>?_⟩
    ·have hlt : j < m:=Q0
     have hpos:=rQ (l:=l) n t.kids[0] q (d+1) w2
     have e0 : el (t.kids.flatMap Ty.enc) 5 0 = t.kids[0].enc:=mm t.kids (k:=0) w1
     rw [e0]
     have hj2 : ((j+1 : Nat) : Int) * 4 ^ n = j * 4 ^ n+4 ^ n:=by rw [Int.natCast_add,Int.add_mul];simp
     have hlast : (j : Int) * 4 ^ n<=1 * 4 ^ n:=Int.mul_le_mul_of_nonneg_right Q0 Q0
     refine ⟨⟨Q1,Q0⟩,Q4,ai (ih t.kids[0] q (d+1) w2 h3 Q0 Q0 Q0) ?_⟩
     unfold mkO vlD
     simp only [pmr]
     have hstep:=Cc (k:=j) (by rw [List.length_replicate];exact hlt) h5
     rw [List.getElem_replicate,<-hg] at hstep
     refine ⟨Qa,Q4,?_⟩
     have:=hn (j+1,dn++[(mkF p l n t.kids[0] q (d+1)).1],(mkF p l n t.kids[0] q (d+1)).2) (by show m - (j+1) < m - j;omega) ⟨by show j+1<=m;omega,by simp [h2],by show 0<=(mkF p l n t.kids[0] q (d+1)).2;omega,by show (mkF p l n t.kids[0] q (d+1)).2<=pos+1+((j+1 : Nat) : Int) * 4 ^ n;omega,by rw [<-hg];exact hstep⟩
     have e:=wY dn (mkF p l n t.kids[0] q (d+1)).1
     unfold vlD at e
     dsimp only at this
     rw [<-e] at this
     exact this
    ·obtain rfl : j = m:=Q0
     rw [FX Q2 h5]
     rfl
  ·rw [if_neg k0,if_neg k1,if_neg k2]
   obtain ⟨w1,w2,w3⟩:=eR h k0 k1 k2
   refine ai (mP p t.df Q0) ?_
   simp only [pmr,pms]
   generalize hdd : aj p t.df = dd at w1 w2 w3 ht ⊢
   refine ⟨fun kc=>?_,fun kc=>?_⟩
   ·rw [if_pos kc]
    have w2:=w2 kc
    have hm : z4.tmod dd.slots.length = z4 % dd.slots.length:=bU hz.1
    have hm0:=Int.emod_nonneg z4 (show (dd.slots.length : Int) ≠ 0 by omega)
    have hm1:=Int.emod_lt_of_pos z4 (show (0 : Int) < dd.slots.length by omega)
    rw [<-hm] at hm0 hm1
    generalize hi : z4.tmod dd.slots.length = iz at hm0 hm1 ht ⊢
    have hlt : iz.toNat < dd.slots.length:=Q0
    rw [iZ _ hlt]
    simp only [pms]
    have hty : (dd.slots.map SlotT.ty).getD iz.toNat ty0 = dd.slots[iz.toNat].ty:=by rw [List.getD_eq_getElem?_getD,List.getElem?_eq_getElem (by simpa using hlt)];simp
    rw [hty]
    refine ⟨Q0,⟨hm0,hm1⟩,Q4,ai (ih _ (pos+1) (d+1) (w3 _ (List.getElem_mem hlt)) Q0 Q0 Q0 Q0) ?_⟩
    unfold mkO
    have e:=w4 (mkF p l n dd.slots[iz.toNat].ty (pos+1) (d+1)).1
    unfold vlD at e ⊢
    simp only [pmr]
    rw [e]
    simp [Val.kids,Val.kind,Val.n]
   ·rw [if_neg kc]
    generalize hg : (fun u q=>mkF p l n u q (d+1)) = gg
    generalize hr : mkS gg (dd.slots.map SlotT.ty) (pos+1) = r
    refine cu [[vI r.2],[vI 0,vI 0,.sl 0 3 []],[vI 2,vI 0],[vlD r.1]] ?_ ?_
    ·refine jf (σ:=Nat×List Val×Int) (fun x=>[[aL l],[vI x.2.2],[vI d],[vI (x.1 : Int)],pgL p,[vI 0,vI 0,.sl 0 3 []],[vI 2,vI 0],dd.enc,[vlD x.2.1]]) (fun x=>dd.slots.length - x.1)
      (fun x=>x.1<=dd.slots.length/\x.2.1.length = x.1/\0<=x.2.2/\x.2.2<=pos+1+x.1 * 4 ^ n/\r = mJ x.2.1 (mkS gg ((dd.slots.map SlotT.ty).drop x.1) x.2.2)) (0,[],pos+1) ⟨Nat.zero_le _,rfl,by show 0<=pos+1;omega,by show pos+1<=_;simp,by rw [<-hr];rfl⟩ rfl ?_
     rintro ⟨j,dn,q⟩ next ⟨h1,h2,h3,h4,h5⟩ hn
     dsimp only at h1 h2 h3 h4 h5 hn
     unfold vlD at hn ⊢
     simp only [pmr,pms]
     refine ⟨fun hj=>?_,fun hj=>?_⟩
     ·have hlt : j < dd.slots.length:=Q0
      have hw:=w3 _ (List.getElem_mem hlt)
      have hpos:=rQ (l:=l) n dd.slots[j].ty q (d+1) hw
      rw [iZ _ hlt]
      simp only [pms]
      have hj2 : ((j+1 : Nat) : Int) * 4 ^ n = j * 4 ^ n+4 ^ n:=by rw [Int.natCast_add,Int.add_mul];simp
      have hlast : (j : Int) * 4 ^ n<=2 * 4 ^ n:=Int.mul_le_mul_of_nonneg_right Q0 Q0
      refine ⟨⟨Q0,Q0⟩,Q4,ai (ih _ q (d+1) hw h3 Q0 Q0 Q0) ?_⟩
      unfold mkO vlD
      simp only [pmr]
      have hstep:=Cc (k:=j) (by rw [List.length_map];exact hlt) h5
      rw [List.getElem_map,<-hg] at hstep
      refine ⟨Qa,Q4,?_⟩
      have:=hn (j+1,dn++[(mkF p l n dd.slots[j].ty q (d+1)).1],(mkF p l n dd.slots[j].ty q (d+1)).2) (by show dd.slots.length - (j+1) < dd.slots.length - j;omega) ⟨by show j+1<=_;omega,by simp [h2],by show 0<=(mkF p l n dd.slots[j].ty q (d+1)).2;omega,by show (mkF p l n dd.slots[j].ty q (d+1)).2<=pos+1+((j+1 : Nat) : Int) * 4 ^ n;omega,by rw [<-hg];exact hstep⟩
      have e:=wY dn (mkF p l n dd.slots[j].ty q (d+1)).1
      unfold vlD at e
      dsimp only at this
      rw [<-e] at this
      exact this
     ·obtain rfl : j = dd.slots.length:=Q0
      rw [FX Q2 h5]
    ·unfold vlD
     simp only [pmr]
     rfl
theorem EB (hp : p.defs.length<=1000000) (hl : ∀ x∈l,InI x) {t : Ty} (h : wfT p 4 t) : IS s17 [pgL p,t.enc,[aL l]] [[vI (mkF p l 4 t 0 1).1.kind,vI (mkF p l 4 t 0 1).1.n],[vlD (mkF p l 4 t 0 1).1.kids]]:=by
 refine w17.is ?_
 unfold g17
 simp only [pmr]
 obtain ⟨h1,h2⟩:=mK h l 1
 have e:=w4 (mkF p l 4 t 0 1).1
 refine ai (make_is hp hl 4 t 0 1 h Q0 Q1 Q0 Q0) ?_
 unfold mkO vlD at *
 simp only [pmr]
 rw [e]
 refine ai (oN _ Q0) ?_
 simp only [pmr]
 refine ⟨fun c=>absurd c Q0,fun _=>ai (qf _ Q0) ?_⟩
 simp only [pmr]
 exact ⟨fun c=>absurd c Q0,fun _=>trivial⟩
end
end Go.Proofs.YtanbipbiblikbaaDoor

namespace Xe
open Go
def eE (p : ProgT) : List DefT:=p.defs.filter fun d=>decide (¬ bare d)
def sK (p : ProgT) (n : Int) : DefT:=(eE p).getD (around n (eE p).length).toNat kR
def mA (p : ProgT) (d : DefT) (m : List Int) : List Val:=d.slots.mapIdx fun j s=>(mkF p (m.drop (7 * j)) 4 s.ty 0 1).1
theorem m8 (p : ProgT) (d : DefT) (m : List Int) : (mA p d m).length = d.slots.length:=by unfold mA;simp
theorem qI (p : ProgT) (d : DefT) (m : List Int) {j : Nat} (h : j < d.slots.length) (h2 : j < (mA p d m).length) : (mA p d m)[j] = (mkF p (m.drop (7 * j)) 4 d.slots[j].ty 0 1).1:=List.getElem_mapIdx
theorem Dh (l : List Int) : ∃ d∈(aJ l).defs,¬ bare d:=by
 obtain ⟨N,hN,hlk,_⟩:=ko l
 have hm : pF l (ax l)∈gL l:=by unfold gL bp eJ;simp
 obtain ⟨j,hj,he⟩:=List.mem_iff_getElem.1 hm
 have hj0 : j < (aX l).length:=by unfold aX;rw [cC];exact hj
 have hj1 : j < (aJ l).defs.length:=by rw [hlk.len];exact hj0
 refine ⟨_,List.getElem_mem hj1,?_⟩
 have h1:=(cT (hlk.get hj1 hj0)).2.1
 have h2 : (aX l)[j] = ig (gL l)[j] _ _:=dg _ _ _ hj hj0
 rw [h2,he] at h1
 unfold bare
 rw [h1]
 show ¬ ((2 : Int) = 0\/(2 : Int) = 1)
 decide
theorem uM (l : List Int) : 0 < (eE (aJ l)).length:=by
 obtain ⟨d,hd,hb⟩:=Dh l
 exact List.length_pos_of_mem (List.mem_filter.2 ⟨hd,decide_eq_true hb⟩)
theorem some_ok {l : List Int} (n : Int) : sK (aJ l) n∈(aJ l).defs/\¬ bare (sK (aJ l) n):=by
 have h0:=uM l
 have h1:=fO n (eE (aJ l)).length Q0
 have hlt : (around n (eE (aJ l)).length).toNat < (eE (aJ l)).length:=Q0
 have hm : sK (aJ l) n∈eE (aJ l):=by
  unfold sK
  rw [kH hlt]
  exact List.getElem_mem hlt
 obtain ⟨h2,h3⟩:=List.mem_filter.1 hm
 exact ⟨h2,of_decide_eq_true h3⟩
theorem G8 {l : List Int} {d : DefT} (hd : d∈(aJ l).defs) (m : List Int) : gE (aJ l) d (mA (aJ l) d m) :=
 oF (m8 _ _ _) fun j hj=>by
  have hj' : j < d.slots.length:=by rw [m8] at hj;exact hj
  have h:=s9 l d hd _ (List.getElem_mem hj')
  rw [qI _ _ _ hj' hj]
  exact CS h.1 h.2 _ _
end Xe

namespace Go.Proofs.YtanbipbiblikbaaDoor
open Xe Pm
theorem some_is {p : ProgT} {n : Int} (hn : InI n) (hp : p.defs.length<=1000000) (hk : ∀ d∈p.defs,0<=d.kind/\d.kind<=5) (h0 : 0 < (eE p).length) : IS s22 [pgL p,[vI n]] [(sK p n).enc]:=by
 refine w22.is ?_
 unfold g22
 simp only [pmr,pms]
 have hbl : (eE p).length<=p.defs.length:=List.length_filter_le _ _
 refine cu [[vI n],[vI 0,vI 0,vI 0,vI 0,vI 0,vI 0,vI 0,.v (.string (ByteArray.mk #[])),.sl 0 11 [],vI 0,vI 0,vI 0,vI 0,.sl 0 5 [],vI 0,vI 0,vI 0,vI 0,vI 0,vI 0,vI 0,vI 0,vI 0,vI 0,vI 0,vI 0,.sl 0 5 [],.sl 0 15 [],.sl 0 1 [],vI 0,.sl 0 1 []],[.sl (eE p).length 31 ((eE p).flatMap DefT.enc)]] ?_ ?_
 ·refine cg p.defs.length (fun j=>[[vI n],[vI (j : Int)],pgL p,[vI 0,vI 0,vI 0,vI 0,vI 0,vI 0,vI 0,.v (.string (ByteArray.mk #[])),.sl 0 11 [],vI 0,vI 0,vI 0,vI 0,.sl 0 5 [],vI 0,vI 0,vI 0,vI 0,vI 0,vI 0,vI 0,vI 0,vI 0,vI 0,vI 0,vI 0,.sl 0 5 [],.sl 0 15 [],.sl 0 1 [],vI 0,.sl 0 1 []],
   [.sl ((p.defs.take j).filter fun d=>decide (¬ bare d)).length 31 (((p.defs.take j).filter fun d=>decide (¬ bare d)).flatMap DefT.enc)]]) (fun _=>True) trivial rfl fun j next hj _ hn=>?_
  simp only [pmr]
  refine ⟨fun h=>?_,fun h=>?_⟩
  ·have hlt : j < p.defs.length:=Q0
   have hfl : ((p.defs.take j).filter fun d=>decide (¬ bare d)).length<=p.defs.length:=Nat.le_trans (List.length_filter_le _ _) Qc
   rw [gZ _ hlt]
   have hnx:=hn hlt trivial
   rw [List.take_succ_eq_append_getElem hlt,List.filter_append] at hnx
   by_cases hb : bare p.defs[j]
   ·refine cu [[vI n],[vI (j : Int)],pgL p,[vI 0,vI 0,vI 0,vI 0,vI 0,vI 0,vI 0,.v (.string (ByteArray.mk #[])),.sl 0 11 [],vI 0,vI 0,vI 0,vI 0,.sl 0 5 [],vI 0,vI 0,vI 0,vI 0,vI 0,vI 0,vI 0,vI 0,vI 0,vI 0,vI 0,vI 0,.sl 0 5 [],.sl 0 15 [],.sl 0 1 [],vI 0,.sl 0 1 []],[.sl ((p.defs.take j).filter fun d=>decide (¬ bare d)).length 31 (((p.defs.take j).filter fun d=>decide (¬ bare d)).flatMap DefT.enc)]] ?_ ?_
    ·refine ⟨Q0,ai (oq _ (hk _ (List.getElem_mem hlt))) ?_⟩
     simp only [pmr,pms]
     exact ⟨fun c=>absurd hb c,fun _=>trivial⟩
    ·simp only [pmr]
     refine ⟨Q4,?_⟩
     rw [List.filter_cons_of_neg (by simpa using hb),List.filter_nil,List.append_nil] at hnx
     exact hnx
   ·refine cu [[vI n],[vI (j : Int)],pgL p,[vI 0,vI 0,vI 0,vI 0,vI 0,vI 0,vI 0,.v (.string (ByteArray.mk #[])),.sl 0 11 [],vI 0,vI 0,vI 0,vI 0,.sl 0 5 [],vI 0,vI 0,vI 0,vI 0,vI 0,vI 0,vI 0,vI 0,vI 0,vI 0,vI 0,vI 0,.sl 0 5 [],.sl 0 15 [],.sl 0 1 [],vI 0,.sl 0 1 []],[.sl (((p.defs.take j).filter fun d=>decide (¬ bare d)).length+1) 31 (((p.defs.take j).filter fun d=>decide (¬ bare d)).flatMap DefT.enc++(p.defs[j].enc++[]))]] ?_ ?_
    ·refine ⟨Q0,ai (oq _ (hk _ (List.getElem_mem hlt))) ?_⟩
     simp only [pmr,pms]
     exact ⟨fun _=>⟨Q0,Qa,trivial⟩,fun c=>absurd hb c⟩
    ·simp only [pmr]
     refine ⟨Q4,?_⟩
     rw [List.filter_cons_of_pos (by simpa using hb),List.filter_nil,List.length_append,List.flatMap_append] at hnx
     exact hnx
  ·obtain rfl : j = p.defs.length:=Q0
   rw [List.take_length]
   rfl
 ·simp only [pmr]
  have h1:=fO n (eE p).length Q0
  have hlt : (around n (eE p).length).toNat < (eE p).length:=Q0
  refine ⟨fun c=>absurd c Q0,fun _=>ai (fP Q0 hn) ?_⟩
  simp only [pmr]
  rw [gZ _ hlt]
  refine ⟨h1,?_⟩
  unfold sK
  rw [kH hlt]
theorem EK (m : List Int) (k : Nat) : sub (m.map an) (k * 1) ((m.length - k) * 1) = (m.drop k).map an:=by
 unfold sub
 rw [Nat.mul_one,Nat.mul_one,<-List.map_drop,List.take_of_length_le Q2]
theorem args_is {l : List Int} {d : DefT} (hd : d∈(aJ l).defs) {m : List Int} (hm : ∀ x∈m,InI x) (hml : m.length<=1000000000000000) : IS s23 [pgL (aJ l),d.enc,[aL m]] [[vlD (mA (aJ l) d m)]]:=by
 have hpc:=nX l
 have hpl:=hpc.len
 have hfew:=(nW l).few d hd
 have hlen:=m8 (aJ l) d m
 refine w23.is ?_
 unfold g23
 refine cg d.slots.length (fun j=>[[aL m],[vI (j : Int)],pgL (aJ l),d.enc,[vlD ((mA (aJ l) d m).take j)]]) (fun _=>True) trivial rfl fun j next hj _ hn=>?_
 unfold vlD aL at hn ⊢
 simp only [pmr,pms]
 refine ⟨fun h=>?_,fun h=>?_⟩
 ·have hlt : j < d.slots.length:=Q0
  rw [iZ _ hlt]
  simp only [pms]
  refine ⟨Q0,Q4,Q0,?_⟩
  have e7 : (min (7 * (j : Int)) (m.length : Int)).toNat = min (7 * j) m.length:=Q0
  rw [e7,EK]
  have edr : m.drop (min (7 * j) m.length) = m.drop (7 * j):=by
   by_cases hc : 7 * j<=m.length
   ·rw [Nat.min_eq_left hc]
   ·rw [Nat.min_eq_right Q0,List.drop_length,List.drop_of_length_le Q0]
  have eln : m.length - min (7 * j) m.length = (m.drop (7 * j)).length:=by rw [List.length_drop];omega
  rw [edr,eln]
  have hw:=s9 l d hd _ (List.getElem_mem hlt)
  refine ai (EB (p:=aJ l) (l:=m.drop (7 * j)) Q0 (fun x hx=>hm x (List.mem_of_mem_drop hx)) hw.1) ?_
  have hal : j < (mA (aJ l) d m).length:=Q0
  have hnx:=hn hlt trivial
  rw [List.take_succ_eq_append_getElem hal,qI _ _ _ hlt] at hnx
  have e:=wY ((mA (aJ l) d m).take j) (mkF (aJ l) (m.drop (7 * j)) 4 d.slots[j].ty 0 1).1
  unfold vlD at e ⊢
  rw [<-e] at hnx
  simp only [pmr]
  refine ⟨by unfold room;simp;omega,Q4,hnx⟩
 ·obtain rfl : j = d.slots.length:=Q0
  rw [<-hlen,List.take_length]
open Xe
theorem mix : Tryd.prog.follows .mixedOrders = true:=by kernel_rfl
theorem cJ : eP Tryd.prog 3 = true:=by kernel_rfl
theorem fB : eP Tryd.prog 24 = true:=by kernel_rfl
theorem Gt : eP Tryd.prog 30 = true:=by kernel_rfl
theorem flat40 : eP Tryd.prog 40 = true:=by kernel_rfl
theorem A4 : eP Tryd.prog 46 = true:=by kernel_rfl
theorem gw : eP Tryd.prog 47 = true:=by kernel_rfl
theorem flat60 : eP Tryd.prog 60 = true:=by kernel_rfl
theorem flat133 : eP Tryd.prog 133 = true:=by kernel_rfl
theorem aG : gd Tryd.prog 26 3 = true:=by kernel_rfl
theorem uP : gd Tryd.prog 32 2 = true:=by kernel_rfl
theorem ld : gd Tryd.prog 35 3 = true:=by kernel_rfl
theorem agg38 : gd Tryd.prog 38 5 = true:=by kernel_rfl
theorem jY : gd Tryd.prog 50 15 = true:=by kernel_rfl
theorem mB : gd Tryd.prog 52 31 = true:=by kernel_rfl
theorem agg68 : gd Tryd.prog 68 11 = true:=by kernel_rfl
theorem Hi : gd Tryd.prog 144 4 = true:=by kernel_rfl
theorem qT : fh Tryd.prog 3 1 = true:=by kernel_rfl
theorem EY : fh Tryd.prog 24 1 = true:=by kernel_rfl
theorem aD : fh Tryd.prog 26 3 = true:=by kernel_rfl
theorem size50 : fh Tryd.prog 50 15 = true:=by kernel_rfl
theorem kf : fh Tryd.prog 52 31 = true:=by kernel_rfl
theorem EX : fh Tryd.prog 60 1 = true:=by kernel_rfl
theorem EW : fh Tryd.prog 68 11 = true:=by kernel_rfl
theorem eB : sliceB Tryd.prog 24 26 3 = true:=by kernel_rfl
theorem BO : sliceB Tryd.prog 30 52 31 = true:=by kernel_rfl
theorem BN : sliceB Tryd.prog 46 68 11 = true:=by kernel_rfl
theorem jk : sliceB Tryd.prog 47 50 15 = true:=by kernel_rfl
theorem BM : sliceB Tryd.prog 56 24 1 = true:=by kernel_rfl
theorem bN : cG Tryd.prog 26 1 1 = true:=by kernel_rfl
theorem di : cG Tryd.prog 26 2 2 = true:=by kernel_rfl
theorem wA : cG Tryd.prog 32 1 1 = true:=by kernel_rfl
theorem mW : cG Tryd.prog 50 0 0 = true:=by kernel_rfl
theorem wz : cG Tryd.prog 50 1 3 = true:=by kernel_rfl
theorem iD : cG Tryd.prog 50 2 4 = true:=by kernel_rfl
theorem wv : cG Tryd.prog 50 3 5 = true:=by kernel_rfl
theorem cO : cG Tryd.prog 50 5 13 = true:=by kernel_rfl
theorem DX : cG Tryd.prog 52 0 0 = true:=by kernel_rfl
theorem wu : cG Tryd.prog 52 1 3 = true:=by kernel_rfl
theorem qz : cG Tryd.prog 52 4 8 = true:=by kernel_rfl
theorem DW : cG Tryd.prog 52 6 14 = true:=by kernel_rfl
theorem DV : cG Tryd.prog 68 0 0 = true:=by kernel_rfl
theorem DU : cG Tryd.prog 68 2 4 = true:=by kernel_rfl
theorem Be : cG Tryd.prog 131 0 0 = true:=by kernel_rfl
theorem Bc : cG Tryd.prog 131 1 2 = true:=by kernel_rfl
theorem kP : cG Tryd.prog 131 2 3 = true:=by kernel_rfl
theorem Bb : cG Tryd.prog 146 0 0 = true:=by kernel_rfl
theorem Ba : cG Tryd.prog 146 1 4 = true:=by kernel_rfl
theorem A9 : cG Tryd.prog 146 2 7 = true:=by kernel_rfl
theorem func12 : bF Tryd.prog 12 = true:=by kernel_rfl
theorem func28 : bF Tryd.prog 28 = true:=by kernel_rfl
theorem func31 : bF Tryd.prog 31 = true:=by kernel_rfl
theorem func32 : bF Tryd.prog 32 = true:=by kernel_rfl
theorem func33 : bF Tryd.prog 33 = true:=by kernel_rfl
theorem func34 : bF Tryd.prog 34 = true:=by kernel_rfl
theorem func53 : bF Tryd.prog 53 = true:=by kernel_rfl
theorem func56 : bF Tryd.prog 56 = true:=by kernel_rfl
theorem func57 : bF Tryd.prog 57 = true:=by kernel_rfl
theorem func61 : bF Tryd.prog 61 = true:=by kernel_rfl
theorem func62 : bF Tryd.prog 62 = true:=by kernel_rfl
theorem func63 : bF Tryd.prog 63 = true:=by kernel_rfl
theorem func71 : bF Tryd.prog 71 = true:=by kernel_rfl
theorem func73 : bF Tryd.prog 73 = true:=by kernel_rfl
theorem func74 : bF Tryd.prog 74 = true:=by kernel_rfl
theorem func88 : bF Tryd.prog 88 = true:=by kernel_rfl
theorem func89 : bF Tryd.prog 89 = true:=by kernel_rfl
theorem func91 : bF Tryd.prog 91 = true:=by kernel_rfl
theorem func102 : bF Tryd.prog 102 = true:=by kernel_rfl
theorem func103 : bF Tryd.prog 103 = true:=by kernel_rfl
theorem func104 : bF Tryd.prog 104 = true:=by kernel_rfl
theorem func111 : bF Tryd.prog 111 = true:=by kernel_rfl
theorem func112 : bF Tryd.prog 112 = true:=by kernel_rfl
theorem func113 : bF Tryd.prog 113 = true:=by kernel_rfl
theorem func135 : bF Tryd.prog 135 = true:=by kernel_rfl
theorem zero3 : eG Tryd.prog 3 = some (.int .i64 0):=by kernel_rfl
theorem bk : eG Tryd.prog 26 = some (.agg [.int .i64 0,.int .i64 0,.slice none 0 0].toArray):=by kernel_rfl
theorem zero50 : eG Tryd.prog 50 = some (.agg [.int .i64 0,.int .i64 0,.int .i64 0,.int .i64 0,.int .i64 0,.int .i64 0,.int .i64 0,.int .i64 0,.int .i64 0,.int .i64 0,.int .i64 0,.int .i64 0,.slice none 0 0,.slice none 0 0,.slice none 0 0].toArray):=by kernel_rfl
theorem nG : eG Tryd.prog 52 = some (.agg [.int .i64 0,.int .i64 0,.int .i64 0,.int .i64 0,.int .i64 0,.int .i64 0,.int .i64 0,.string ByteArray.empty,.slice none 0 0,.int .i64 0,.int .i64 0,.int .i64 0,.int .i64 0,.slice none 0 0,.int .i64 0,.int .i64 0,.int .i64 0,.int .i64 0,.int .i64 0,.int .i64 0,.int .i64 0,.int .i64 0,.int .i64 0,.int .i64 0,.int .i64 0,.int .i64 0,.slice none 0 0,.slice none 0 0,.slice none 0 0,.int .i64 0,.slice none 0 0].toArray):=by kernel_rfl
theorem zero60 : eG Tryd.prog 60 = some (.int .i64 0):=by kernel_rfl
theorem Ev : eG Tryd.prog 68 = some (.agg [.int .i64 0,.int .i64 0,.int .i64 0,.string ByteArray.empty,.int .i64 0,.int .i64 0,.int .i64 0,.int .i64 0,.slice none 0 0,.int .i64 0,.int .i64 0].toArray):=by kernel_rfl
theorem zero131 : eG Tryd.prog 131 = some (.agg [.slice none 0 0,.slice none 0 0,.int .i64 0,.int .i64 0].toArray):=by kernel_rfl
theorem Bw : eG Tryd.prog 144 = some (.agg [.int .i64 0,.int .i64 0,.int .i64 0,.int .i64 0].toArray):=by kernel_rfl
theorem zero146 : eG Tryd.prog 146 = some (.agg [.int .i64 0,.int .i64 0,.int .i64 0,.int .i64 0,.int .i64 0,.int .i64 0,.slice none 0 0,.pointer none].toArray):=by kernel_rfl
theorem qB : ElemOk Tryd.prog 24 26 3 40:=ElemOk.mk' (z:=.agg [.int .i64 0,.int .i64 0,.slice none 0 0].toArray) Tryd.underlying24 (by kernel_rfl) rfl rfl
theorem GD : ElemOk Tryd.prog 56 24 1 24:=ElemOk.mk' (z:=.slice none 0 0) Tryd.underlying56 (by kernel_rfl) rfl rfl
theorem cy : jm Tryd.prog 26 = some [(0,1),(1,1),(2,1)]:=by kernel_rfl
theorem Fg : jm Tryd.prog 52 = some [(0,3),(3,1),(4,3),(7,1),(8,1),(9,5),(14,15),(29,1),(30,1)]:=by kernel_rfl
theorem Dk : jm Tryd.prog 131 = some [(0,2),(2,1),(3,1)]:=by kernel_rfl
theorem vL : jm Tryd.prog 144 = some [(0,3),(3,1)]:=by kernel_rfl
theorem Dj : jm Tryd.prog 146 = some [(0,4),(4,3),(7,1)]:=by kernel_rfl
theorem Gg {w0 : World} {L : Lm} {M : Mem} {Γ : List As} {d : Option Nat} {ty : TypeId} {pos : String} {af : Array Edge} {g : Option (Nat×Bool)} {x y : Operand} {a b c a' b' c' : Int} (hx : evL L x = some (.agg [av a,av b,av c].toArray)) (hy : evL L y = some (.agg [av a',av b',av c'].toArray)) :
   Yq Tryd.prog w0 L M Γ ⟨d,.binOp .eql 35 x y 35,ty,pos,af,g⟩ (.bool (decide ((⟨a,b,c⟩ : IdT) = ⟨a',b',c'⟩))):=fun n ac w ha _=>by
 simp only [execOp,ha.ev hx,ha.ev hy]
 simp [go_sem,run_eql_struct,run_eqGuard_agg]
 by_cases h1 : a = a' <;> by_cases h2 : b = b' <;> by_cases h3 : c = c' <;> simp [h1,h2,h3]

theorem def1_ok (w0 : World) (M : Mem) (Γ : List As) (d : DefT) (id : IdT) (us : List Value) (p : Addr) (hd : RdL M d.enc us) (hb : gV w0 M Γ p id.vals) :
   aC Tryd.prog w0 M Γ 89 #[.agg us.toArray,.pointer (some p)] (Is M Γ (.bool (decide (d.id = id)))):=by
 rw [DefT.ay] at hd
 refine enter (f:=89) Tryd.func89 rfl Tryd.ntmps89 rfl rfl fun w1 hw1=>?_
 refine CW.aZ hd ?_
 refine CW.seq fun K1 hK1=>?_
 refine CW.region ?_
 refine RL.box _ rfl rfl rfl fun b2=>?_
 refine RL.q (Y.assign rfl) rfl ?_
 refine RL.nil ?_
 refine hK1 _ _ _ ?_
 refine CW.kp [1,2] rfl ?_
 refine CW.seq fun K2 hK2=>?_
 refine CW.region ?_
 refine RL.q (Y.field rfl DX) rfl ?_
 refine RL.q (Y.gN [_,_,_] rfl MM MM Q3 ld) rfl ?_
 refine RL.q (Y.loadK (vs:=id.vals) rfl (hb.mono fun _ hw=>hw.sub SB) ld) rfl ?_
 refine RL.q (Gg rfl rfl) rfl ?_
 refine RL.q (Y.assign rfl) rfl ?_
 refine RL.nil ?_
 refine hK2 _ _ _ ?_
 refine CW.kp [3] rfl ?_
 refine CW.ret ?_
 exact ⟨_,rfl,az.drop ⟨Q3,rfl,rfl⟩ SB⟩

theorem DL (w0 : World) (M : Mem) (Γ : List As) (xs : List DefT) (u : Value) (fn : FuncId) (cap : Array Value) (q : DefT->Bool) (hfn : bF Tryd.prog fn = true) (hu : Kn w0 M Γ (Rd M (.sl xs.length 31 (xs.flatMap DefT.enc)) u))
   (hq : ∀ x∈xs,∀ us Γ',(∀ w,St w0 M Γ' w->St w0 M Γ w)->RdL M x.enc us->aC Tryd.prog w0 M Γ' fn (#[]++#[.agg us.toArray]++cap) (Is M Γ' (.bool (decide (q x = true))))) :
   aC Tryd.prog w0 M Γ 88 #[u,.func (.func fn) #[] cap] (Is M Γ (av (rE q xs))):=by
 refine aC.kn hu fun hu=>?_
 obtain ⟨a1,c1,rfl,hc1,hlim1,hlen1⟩:=hu.slice
 refine enter (f:=88) Tryd.func88 rfl Tryd.ntmps88 rfl rfl fun w1 hw1=>?_
 refine CW.ga hu ?_
 refine CW.seq fun K1 hK1=>?_
 refine CW.region ?_
 refine RL.q (Y.assign rfl) rfl ?_
 refine RL.nil ?_
 refine hK1 _ _ _ ?_
 refine CW.kp [0,1] rfl ?_
 refine CW.seq fun K2 hK2=>?_
 refine CW.seq fun K3 hK3=>?_
 refine CW.region ?_
 refine RL.q (Y.move rfl) rfl ?_
 refine RL.q (Y.len rfl Tryd.underlying30) rfl ?_
 refine RL.q (Y.move rfl) rfl ?_
 refine RL.nil ?_
 refine hK3 _ _ _ ?_
 refine CW.kp [0,1,7,8] rfl ?_
 refine CW.block ?_
 -- LOOP 1: live [0,1,7,8] changed [8]
 refine CW.kp [8,0,1,7] rfl ?_
 refine CW.o5 (fun m Lc M1 Γc=>∃ k : Nat,m = xs.length - k/\k<=xs.length/\Lc = [(8,av k)]/\Γc = []/\M1 = M/\∀ j (hj : j < xs.length),j < k->q xs[j] ≠ true) (xs.length) [(8,_)] _ rfl rfl ⟨0,rfl,Nat.zero_le _,rfl,rfl,rfl,fun _ _ h=>absurd h (Nat.not_lt_zero _)⟩ ?_
 rintro m Lc M Γc hs ⟨k,rfl,hk,rfl,rfl,rfl,hF0⟩
 refine CW.seq fun K4 hK4=>?_
 refine CW.region ?_
 refine RL.q (Y.lss rfl rfl) rfl ?_
 refine RL.nil ?_
 refine hK4 _ _ _ ?_
 refine CW.kp [0,1,7,8,9] rfl ?_
 refine CW.seq fun K5 hK5=>?_
 refine CW.ite rfl (fun h1=>?_) (fun h1=>?_)
 ·have hka : k < xs.length:=Q0
  refine CW.skip ?_
  refine hK5 _ _ _ ?_
  refine CW.seq fun K6 hK6=>?_
  refine CW.block ?_
  refine CW.seq fun K7 hK7=>?_
  refine CW.region ?_
  refine RL.q (Y.move rfl) rfl ?_
  refine RL.q (Y.assign rfl) rfl ?_
  refine RL.nil ?_
  refine hK7 _ _ _ ?_
  refine CW.kp [0,1,5,7,8] rfl ?_
  refine CW.seq fun K8 hK8=>?_
  refine CW.region ?_
  refine RL.q (Y.move rfl) rfl ?_
  refine RL.q (Y.move rfl) rfl ?_
  refine RL.q (Y.move rfl) rfl ?_
  refine RL.q (Y.index _ rfl rfl rfl AO BO SM) rfl ?_
  refine RL.aO rfl rfl MM (Eq.trans (aV DefT.aq _ _ _ (List.getElem?_eq_getElem AO)) (DefT.ay _)) Q3 mB rfl fun us15 hul15 hur15=>?_
  refine RL.GQ rfl hfn rfl rfl rfl (hq _ (List.getElem_mem hka) _ _ (fun _ hw=>hw.sub SB) (by rw [DefT.ay];exact hur15)) ?_
  refine RL.nil ?_
  refine hK8 _ _ _ ?_
  refine CW.kp [0,1,5,7,8,16] rfl ?_
  refine CW.ite rfl (fun h2=>?_) (fun h2=>?_)
  ·refine CW.seq fun K9 hK9=>?_
   refine CW.region ?_
   refine RL.q (Y.move rfl) rfl ?_
   refine RL.q (Y.assign rfl) rfl ?_
   refine RL.nil ?_
   refine hK9 _ _ _ ?_
   refine CW.kp [4] rfl ?_
   refine CW.ret ?_
   exact ⟨_,rfl,az.drop ⟨by rw [zn hka hF0 h2],rfl,rfl⟩ SB⟩
  refine CW.skip ?_
  refine hK6 _ _ _ ?_
  refine CW.region ?_
  refine RL.q (Y.add rfl rfl OM) rfl ?_
  refine RL.q (Y.move rfl) rfl ?_
  refine RL.nil ?_
  refine ⟨xs.length - (k+1),[(8,_)],?_,(KP [8,0,1,7]),?_⟩
  · omega
  · exact az.drop ⟨[],rfl,hs,k+1,rfl,Q0,rfl,rfl,rfl,Hg (p:=fun x=>q x ≠ true) hF0 hka h2⟩ SB
 refine CW.exit ?_
 refine hK2 _ _ _ ?_
 refine CW.seq fun K10 hK10=>?_
 refine CW.region ?_
 refine RL.q (Y.assign rfl) rfl ?_
 refine RL.nil ?_
 refine hK10 _ _ _ ?_
 refine CW.kp [4] rfl ?_
 refine CW.ret ?_
 exact ⟨_,rfl,az.drop ⟨by rw [vZ fun j hj=>hF0 j hj OM],rfl,rfl⟩ SB⟩

theorem Bj (w0 : World) (M : Mem) (Γ : List As) (p : ProgT) (usp : List Value) (id : IdT)  (hp : Kn w0 M Γ (RdL M p.enc usp))  :
   aC Tryd.prog w0 M Γ 57 #[.agg usp.toArray,.agg id.vals.toArray] (Has M Γ fun v=>∃ us,v = .tuple #[.agg us.toArray,.bool (decide (dc p id))]/\RdL M (aj p id).enc us):=by
 refine aC.kn hp fun hp=>?_
 rw [ProgT.ay] at hp
 refine ur (f:=57) Tryd.func57 rfl Tryd.ntmps57 rfl rfl fun w1 hw1=>?_
 refine CW.aZ hp ?_
 refine CW.seq fun K1 hK1=>?_
 refine CW.region ?_
 refine RL.box _ rfl rfl rfl fun b2=>?_
 refine RL.box _ rfl rfl rfl fun b3=>?_
 refine RL.alloc _ nG rfl rfl fun b4=>?_
 refine RL.q (Y.assign rfl) rfl ?_
 refine RL.nil ?_
 refine hK1 _ _ _ ?_
 refine CW.kp [2,3,4] rfl ?_
 refine CW.seq fun K2 hK2=>?_
 refine CW.region ?_
 refine RL.q (Y.field rfl wA) rfl ?_
 refine RL.aP rfl rfl MM MM Q3 Gt rfl fun a8 c8 hu8 hc8 hl8=>?_
 refine RL.q (Y.makeFunc rfl rfl) rfl ?_
 refine RL.eD rfl func88 rfl rfl (by exact DL _ _ _ p.defs _ 89 _ (fun d=>decide (d.id = id)) func89 KK (fun x hx us Γ2 hG hus=>by simpa using def1_ok _ _ _ x id us _ hus (gV.mono (gV.own MM) hG))) ?_
 refine RL.q (Y.assign rfl) rfl ?_
 refine RL.nil ?_
 refine hK2 _ _ _ ?_
 refine CW.kp [2,4,6] rfl ?_
 refine CW.seq fun K3 hK3=>?_
 refine CW.seq fun K4 hK4=>?_
 refine CW.region ?_
 refine RL.q (Y.move rfl) rfl ?_
 refine RL.q (Y.lss rfl rfl) rfl ?_
 refine RL.nil ?_
 refine hK4 _ _ _ ?_
 refine CW.kp [2,4,6,12] rfl ?_
 refine CW.ite rfl (fun h1=>?_) (fun h1=>?_)
 ·refine CW.seq fun K5 hK5=>?_
  refine CW.region ?_
  refine RL.q (Y.build [_,_,_,_,_,_,_,_,_,_,_,_,_,_,_,_,_,_,_,_,_,_,_,_,_,_,_,_,_,_,_] rfl nG Fg Q3) rfl ?_
  refine RL.aI _ rfl rfl RP Q3 Q5 Q6 kf ?_
  refine RL.q (Y.assign rfl) rfl ?_
  refine RL.nil ?_
  refine hK5 _ _ _ ?_
  refine CW.kp [4,5] rfl ?_
  refine CW.ret ?_
  obtain ⟨e1,e2⟩:=ji (p:=p) (id:=id) (fun j hj=>by simpa using Ge h1 j hj)
  refine ⟨_,rfl,?_⟩
  exact aE.mk rfl MM (by first | rfl | assumption) mB (az.drop ⟨rfl,rfl,_,by rw [decide_eq_false e1],by rw [e2];exact (by repeat (first | exact RdL.nil _ | refine RdL.cons (by first | exact Rd.i _ | exact Rd.xE | exact Rd.str _ | assumption) ?_))⟩ SB)
 refine CW.skip ?_
 refine hK3 _ _ _ ?_
 refine CW.seq fun K6 hK6=>?_
 obtain ⟨k,hka,hi,hq1,hq2⟩:=idxL_nn h1
 rw [hi]
 obtain ⟨e1,e2⟩:=gm hka (fun j hj hlt=>by simpa using hq2 j hj hlt) (by simpa using hq1)
 refine CW.region ?_
 refine RL.q (Y.field rfl wA) rfl ?_
 refine RL.aP rfl rfl MM MM Q3 Gt rfl fun a15 c15 hu15 hc15 hl15=>?_
 refine RL.q (Y.move rfl) rfl ?_
 refine RL.q (Y.index _ rfl rfl rfl AO BO SM) rfl ?_
 refine RL.aO rfl rfl MM (Eq.trans (aV DefT.aq _ _ _ (List.getElem?_eq_getElem AO)) (DefT.ay _)) Q3 mB rfl fun us18 hul18 hur18=>?_
 refine RL.aF 31 rfl rfl RP MM EL Q7 kf ?_
 refine RL.q (Y.assign rfl) rfl ?_
 refine RL.nil ?_
 refine hK6 _ _ _ ?_
 refine CW.kp [4,5] rfl ?_
 refine CW.ret ?_
 refine ⟨_,rfl,?_⟩
 exact aE.mk rfl MM (by first | rfl | assumption) mB (az.drop ⟨rfl,rfl,_,by rw [decide_eq_true e1],by rw [e2];exact hur18⟩ SB)

theorem etruthP (w0 : World) (M : Mem) (Γ : List As) (p : Prop) [Decidable p] :
   aC Tryd.prog w0 M Γ 31 #[.bool (decide p)] (Is M Γ (.agg [av 1,av (if p then 1 else 0),.slice none 0 0].toArray)):=by
 refine mY (f:=31) Tryd.func31 rfl Tryd.ntmps31 rfl rfl fun w1 hw1=>?_
 refine CW.seq fun K1 hK1=>?_
 refine CW.region ?_
 refine RL.alloc _ bk rfl rfl fun b2=>?_
 refine RL.nil ?_
 refine hK1 _ _ _ ?_
 refine CW.kp [0,2] rfl ?_
 refine CW.seq fun K2 hK2=>?_
 refine CW.seq fun K3 hK3=>?_
 refine CW.region ?_
 refine RL.q (Y.move rfl) rfl ?_
 refine RL.nil ?_
 refine hK3 _ _ _ ?_
 refine CW.kp [2,3] rfl ?_
 refine CW.ite rfl (fun h1=>?_) (fun h1=>?_)
 ·refine CW.seq fun K4 hK4=>?_
  refine CW.region ?_
  refine RL.q (Y.build [_,_,_] rfl bk cy Q3) rfl ?_
  refine RL.aI _ rfl rfl RP Q3 Q5 Q6 aD ?_
  refine RL.nil ?_
  refine hK4 _ _ _ ?_
  refine CW.kp [2] rfl ?_
  refine CW.ret ?_
  rw [if_pos h1]
  exact aE.mk rfl MM (by first | rfl | assumption) aG (az.drop ⟨rfl,rfl,rfl⟩ SB)
 refine CW.skip ?_
 refine hK2 _ _ _ ?_
 refine CW.seq fun K5 hK5=>?_
 refine CW.region ?_
 refine RL.q (Y.build [_,_,_] rfl bk cy Q3) rfl ?_
 refine RL.aI _ rfl rfl RP Q3 Q5 Q6 aD ?_
 refine RL.nil ?_
 refine hK5 _ _ _ ?_
 refine CW.kp [2] rfl ?_
 refine CW.ret ?_
 rw [if_neg h1]
 exact aE.mk rfl MM (by first | rfl | assumption) aG (az.drop ⟨rfl,rfl,rfl⟩ SB)

theorem cD (w0 : World) (M : Mem) (Γ : List As) (b : Bool) :
   aC Tryd.prog w0 M Γ 31 #[.bool b] (Is M Γ (.agg [av 1,av (if b = true then 1 else 0),.slice none 0 0].toArray)):=by simpa using etruthP w0 M Γ (b = true)

theorem Cx (w0 : World) (M : Mem) (Γ : List As) (n : Int)    :
   aC Tryd.prog w0 M Γ 56 #[av n] (Is M Γ (av (dy n))):=by
 refine enter (f:=56) Tryd.func56 rfl Tryd.ntmps56 rfl rfl fun w1 hw1=>?_
 refine CW.seq fun K1 hK1=>?_
 refine CW.region ?_
 refine RL.q (Y.assign rfl) rfl ?_
 refine RL.nil ?_
 refine hK1 _ _ _ ?_
 refine CW.kp [0] rfl ?_
 refine CW.seq fun K2 hK2=>?_
 refine CW.region ?_
 refine RL.q (Y.move rfl) rfl ?_
 refine RL.q (Y.max2 rfl rfl) rfl ?_
 refine RL.q (Y.min2 rfl rfl) rfl ?_
 refine RL.q (Y.assign rfl) rfl ?_
 refine RL.nil ?_
 refine hK2 _ _ _ ?_
 refine CW.kp [2] rfl ?_
 refine CW.ret ?_
 exact ⟨_,rfl,az.drop ⟨rfl,rfl,rfl⟩ SB⟩

theorem add_ok (w0 : World) (M : Mem) (Γ : List As) (a : Int) (b : Int)   (hai : InR a) (hbi : InR b) :
   aC Tryd.prog w0 M Γ 132 #[av a,av b] (Is M Γ (av (dy (a+b)))):=by
 have hai2:=hai
 have hbi2:=hbi
 unfold InR at hai2 hbi2
 refine enter (f:=132) Tryd.func132 rfl Tryd.ntmps132 rfl rfl fun w1 hw1=>?_
 refine CW.seq fun K1 hK1=>?_
 refine CW.region ?_
 refine RL.q (Y.assign rfl) rfl ?_
 refine RL.nil ?_
 refine hK1 _ _ _ ?_
 refine CW.kp [0,1] rfl ?_
 refine CW.seq fun K2 hK2=>?_
 refine CW.region ?_
 refine RL.q (Y.move rfl) rfl ?_
 refine RL.q (Y.move rfl) rfl ?_
 refine RL.q (Y.add rfl rfl OM) rfl ?_
 refine RL.eD rfl func56 rfl rfl (by exact Cx _ _ _ _) ?_
 refine RL.q (Y.assign rfl) rfl ?_
 refine RL.nil ?_
 refine hK2 _ _ _ ?_
 refine CW.kp [4] rfl ?_
 refine CW.ret ?_
 exact ⟨_,rfl,az.drop ⟨rfl,rfl,rfl⟩ SB⟩

theorem sub_ok (w0 : World) (M : Mem) (Γ : List As) (a : Int) (b : Int)   (hai : InR a) (hbi : InR b) :
   aC Tryd.prog w0 M Γ 133 #[av a,av b] (Is M Γ (av (dy (a - b)))):=by
 have hai2:=hai
 have hbi2:=hbi
 unfold InR at hai2 hbi2
 refine enter (f:=133) Tryd.func133 rfl Tryd.ntmps133 rfl rfl fun w1 hw1=>?_
 refine CW.seq fun K1 hK1=>?_
 refine CW.region ?_
 refine RL.q (Y.assign rfl) rfl ?_
 refine RL.nil ?_
 refine hK1 _ _ _ ?_
 refine CW.kp [0,1] rfl ?_
 refine CW.seq fun K2 hK2=>?_
 refine CW.region ?_
 refine RL.q (Y.move rfl) rfl ?_
 refine RL.q (Y.move rfl) rfl ?_
 refine RL.q (Y.sub rfl rfl OM) rfl ?_
 refine RL.eD rfl func56 rfl rfl (by exact Cx _ _ _ _) ?_
 refine RL.q (Y.assign rfl) rfl ?_
 refine RL.nil ?_
 refine hK2 _ _ _ ?_
 refine CW.kp [4] rfl ?_
 refine CW.ret ?_
 exact ⟨_,rfl,az.drop ⟨rfl,rfl,rfl⟩ SB⟩

theorem EJ (w0 : World) (M : Mem) (Γ : List As) (a : Int) (b : Int)   (hai : InR a) (hbi : InR b) :
   aC Tryd.prog w0 M Γ 134 #[av a,av b] (Is M Γ (av (iI a b))):=by
 have hai2:=hai
 have hbi2:=hbi
 unfold InR at hai2 hbi2
 refine enter (f:=134) Tryd.func134 rfl Tryd.ntmps134 rfl rfl fun w1 hw1=>?_
 refine CW.seq fun K1 hK1=>?_
 refine CW.region ?_
 refine RL.q (Y.assign rfl) rfl ?_
 refine RL.nil ?_
 refine hK1 _ _ _ ?_
 refine CW.kp [0,1] rfl ?_
 refine CW.seq fun K2 hK2=>?_
 refine CW.seq fun K3 hK3=>?_
 refine CW.region ?_
 refine RL.q (Y.move rfl) rfl ?_
 refine RL.qs (Y.eql rfl rfl) rfl (fun g6=>?_) (fun g6=>?_)
 ·refine RL.q (Y.move rfl) rfl ?_
  refine RL.no WG rfl ?_
  refine RL.no WG rfl ?_
  refine RL.q (Y.fK rfl rfl) rfl ?_
  refine RL.nil ?_
  refine hK3 _ _ _ ?_
  refine CW.kp [0,1,10] rfl ?_
  refine CW.yes rfl ?_
  refine CW.seq fun K4 hK4=>?_
  refine CW.region ?_
  refine RL.q (Y.assign rfl) rfl ?_
  refine RL.nil ?_
  refine hK4 _ _ _ ?_
  refine CW.kp [4] rfl ?_
  refine CW.ret ?_
  first | exact ⟨_,rfl,az.drop ⟨(by first | (rw [iI,if_pos OM];done) | fail),rfl,rfl⟩ SB⟩
 refine RL.q (Y.move rfl) rfl ?_
 refine RL.qg WG (Y.move rfl) rfl ?_
 refine RL.qg WG (Y.eql rfl rfl) rfl ?_
 refine RL.q (Y.fL rfl rfl) rfl ?_
 refine RL.nil ?_
 refine hK3 _ _ _ ?_
 refine CW.kp [0,1,10] rfl ?_
 refine CW.ite rfl (fun h1=>?_) (fun h1=>?_)
 ·refine CW.seq fun K5 hK5=>?_
  refine CW.region ?_
  refine RL.q (Y.assign rfl) rfl ?_
  refine RL.nil ?_
  refine hK5 _ _ _ ?_
  refine CW.kp [4] rfl ?_
  refine CW.ret ?_
  first | exact ⟨_,rfl,az.drop ⟨(by first | (rw [iI,if_pos OM];done) | fail),rfl,rfl⟩ SB⟩
 refine CW.skip ?_
 refine hK2 _ _ _ ?_
 refine CW.seq fun K6 hK6=>?_
 refine CW.seq fun K7 hK7=>?_
 have hbq : 0 < max b (-b):=Q0
 have hdq : Int.tdiv 1099511627776 (max b (-b)) = 1099511627776 / (max b (-b)):=Int.tdiv_eq_ediv_of_nonneg OM
 have hdr : 0<=1099511627776 / (max b (-b))/\1099511627776 / (max b (-b))<=1099511627776:=⟨Int.ediv_nonneg OM OM,Int.ediv_le_self _ OM⟩
 refine CW.region ?_
 refine RL.q (Y.move rfl) rfl ?_
 refine RL.q (Y.move rfl) rfl ?_
 refine RL.q (Y.neg rfl OM) rfl ?_
 refine RL.q (Y.max2 rfl rfl) rfl ?_
 refine RL.q (Y.move rfl) rfl ?_
 refine RL.q (Y.move rfl) rfl ?_
 refine RL.q (Y.neg rfl OM) rfl ?_
 refine RL.q (Y.max2 rfl rfl) rfl ?_
 refine RL.q (Y.quo rfl rfl OM OM) rfl ?_
 refine RL.q (Y.gtr rfl rfl) rfl ?_
 refine RL.nil ?_
 refine hK7 _ _ _ ?_
 refine CW.kp [0,1,20] rfl ?_
 refine CW.ite rfl (fun h2=>?_) (fun h2=>?_)
 ·refine CW.seq fun K8 hK8=>?_
  refine CW.seq fun K9 hK9=>?_
  refine CW.region ?_
  refine RL.q (Y.move rfl) rfl ?_
  refine RL.q (Y.lss rfl rfl) rfl ?_
  refine RL.q (Y.move rfl) rfl ?_
  refine RL.q (Y.lss rfl rfl) rfl ?_
  refine RL.q (Y.eqlBB Tryd.underlying4 rfl rfl) rfl ?_
  refine RL.nil ?_
  refine hK9 _ _ _ ?_
  refine CW.kp [25] rfl ?_
  refine CW.ite rfl (fun h3=>?_) (fun h3=>?_)
  ·refine CW.seq fun K10 hK10=>?_
   refine CW.region ?_
   refine RL.q (Y.assign rfl) rfl ?_
   refine RL.nil ?_
   refine hK10 _ _ _ ?_
   refine CW.kp [4] rfl ?_
   refine CW.ret ?_
   have c0 : ¬ (a = 0\/b = 0):=Q0
   have c1 : Int.tdiv 1099511627776 (dM b) < dM a:=by unfold dM;omega
   rw [iI,if_neg c0,if_pos c1,if_pos (decide_eq_decide.1 h3)]
   exact ⟨_,rfl,az.drop ⟨rfl,rfl,rfl⟩ SB⟩
  refine CW.skip ?_
  refine hK8 _ _ _ ?_
  refine CW.seq fun K11 hK11=>?_
  refine CW.region ?_
  refine RL.q (Y.assign rfl) rfl ?_
  refine RL.nil ?_
  refine hK11 _ _ _ ?_
  refine CW.kp [4] rfl ?_
  refine CW.ret ?_
  have c0 : ¬ (a = 0\/b = 0):=Q0
  have c1 : Int.tdiv 1099511627776 (dM b) < dM a:=by unfold dM;omega
  rw [iI,if_neg c0,if_pos c1,if_neg (fun h=>h3 (decide_eq_decide.2 h))]
  exact ⟨_,rfl,az.drop ⟨rfl,rfl,rfl⟩ SB⟩
 refine CW.skip ?_
 refine hK6 _ _ _ ?_
 refine CW.seq fun K12 hK12=>?_
 have hm7:=yG a b
 rw [iI,if_neg OM,if_neg (by unfold dM;omega)] at hm7
 unfold InR at hm7
 refine CW.region ?_
 refine RL.q (Y.move rfl) rfl ?_
 refine RL.q (Y.move rfl) rfl ?_
 refine RL.q (Y.mul rfl rfl OM) rfl ?_
 refine RL.q (Y.assign rfl) rfl ?_
 refine RL.nil ?_
 refine hK12 _ _ _ ?_
 refine CW.kp [4] rfl ?_
 refine CW.ret ?_
 have c0 : ¬ (a = 0\/b = 0):=Q0
 have c1 : ¬ Int.tdiv 1099511627776 (dM b) < dM a:=by unfold dM;omega
 rw [iI,if_neg c0,if_neg c1]
 exact ⟨_,rfl,az.drop ⟨rfl,rfl,rfl⟩ SB⟩

theorem wD (w0 : World) (M : Mem) (Γ : List As) (a : Int) (b : Int)   (hai : InR a) (hbi : InR b) :
   aC Tryd.prog w0 M Γ 135 #[av a,av b] (Is M Γ (av (mo a b))):=by
 have hai2:=hai
 have hbi2:=hbi
 unfold InR at hai2 hbi2
 have hqi:=xp (b:=b) hai
 unfold InR at hqi
 refine enter (f:=135) Tryd.func135 rfl Tryd.ntmps135 rfl rfl fun w1 hw1=>?_
 refine CW.seq fun K1 hK1=>?_
 refine CW.region ?_
 refine RL.q (Y.assign rfl) rfl ?_
 refine RL.nil ?_
 refine hK1 _ _ _ ?_
 refine CW.kp [0,1] rfl ?_
 refine CW.seq fun K2 hK2=>?_
 refine CW.seq fun K3 hK3=>?_
 refine CW.region ?_
 refine RL.q (Y.move rfl) rfl ?_
 refine RL.q (Y.eql rfl rfl) rfl ?_
 refine RL.nil ?_
 refine hK3 _ _ _ ?_
 refine CW.kp [0,1,7] rfl ?_
 refine CW.ite rfl (fun h1=>?_) (fun h1=>?_)
 ·refine CW.seq fun K4 hK4=>?_
  refine CW.region ?_
  refine RL.q (Y.assign rfl) rfl ?_
  refine RL.nil ?_
  refine hK4 _ _ _ ?_
  refine CW.kp [4] rfl ?_
  refine CW.ret ?_
  exact ⟨_,rfl,az.drop ⟨by rw [mo,if_pos OM],rfl,rfl⟩ SB⟩
 refine CW.skip ?_
 refine hK2 _ _ _ ?_
 refine CW.seq fun K5 hK5=>?_
 refine CW.region ?_
 refine RL.q (Y.move rfl) rfl ?_
 refine RL.q (Y.move rfl) rfl ?_
 refine RL.q (Y.quo rfl rfl OM OM) rfl ?_
 refine RL.q (Y.assign rfl) rfl ?_
 refine RL.nil ?_
 refine hK5 _ _ _ ?_
 refine CW.kp [0,1,5] rfl ?_
 refine CW.seq fun K6 hK6=>?_
 refine CW.seq fun K7 hK7=>?_
 refine CW.region ?_
 refine RL.q (Y.move rfl) rfl ?_
 refine RL.q (Y.move rfl) rfl ?_
 refine RL.q (Y.rem rfl rfl OM) rfl ?_
 refine RL.qs (Y.neq rfl rfl) rfl (fun g14=>?_) (fun g14=>?_)
 ·refine RL.q (Y.move rfl) rfl ?_
  refine RL.qg WG (Y.move rfl) rfl ?_
  refine RL.qg WG (Y.lss rfl rfl) rfl ?_
  refine RL.qg WG (Y.move rfl) rfl ?_
  refine RL.qg WG (Y.lss rfl rfl) rfl ?_
  refine RL.qg WG (Y.neqD Tryd.underlying4 rfl rfl) rfl ?_
  refine RL.q (Y.fK rfl rfl) rfl ?_
  refine RL.nil ?_
  refine hK7 _ _ _ ?_
  refine CW.kp [5,21] rfl ?_
  refine CW.ite rfl (fun h2=>?_) (fun h2=>?_)
  ·refine CW.region ?_
   refine RL.q (Y.move rfl) rfl ?_
   refine RL.q (Y.sub rfl rfl OM) rfl ?_
   refine RL.q (Y.assign rfl) rfl ?_
   refine RL.nil ?_
   refine hK6 _ _ _ ?_
   refine CW.kp [5] rfl ?_
   refine CW.seq fun K8 hK8=>?_
   refine CW.region ?_
   refine RL.q (Y.move rfl) rfl ?_
   refine RL.q (Y.assign rfl) rfl ?_
   refine RL.nil ?_
   refine hK8 _ _ _ ?_
   refine CW.kp [4] rfl ?_
   refine CW.ret ?_
   exact ⟨_,rfl,az.drop ⟨congrArg av (by unfold mo;split <;> first | omega | (split <;> omega)),rfl,rfl⟩ SB⟩
  refine CW.skip ?_
  refine hK6 _ _ _ ?_
  refine CW.seq fun K9 hK9=>?_
  refine CW.region ?_
  refine RL.q (Y.move rfl) rfl ?_
  refine RL.q (Y.assign rfl) rfl ?_
  refine RL.nil ?_
  refine hK9 _ _ _ ?_
  refine CW.kp [4] rfl ?_
  refine CW.ret ?_
  exact ⟨_,rfl,az.drop ⟨congrArg av (by unfold mo;split <;> first | omega | (split <;> omega)),rfl,rfl⟩ SB⟩
 refine RL.q (Y.move rfl) rfl ?_
 refine RL.no WG rfl ?_
 refine RL.no WG rfl ?_
 refine RL.no WG rfl ?_
 refine RL.no WG rfl ?_
 refine RL.no WG rfl ?_
 refine RL.q (Y.fL rfl rfl) rfl ?_
 refine RL.nil ?_
 refine hK7 _ _ _ ?_
 refine CW.kp [5,21] rfl ?_
 refine CW.no rfl ?_
 refine CW.skip ?_
 refine hK6 _ _ _ ?_
 refine CW.seq fun K10 hK10=>?_
 refine CW.region ?_
 refine RL.q (Y.move rfl) rfl ?_
 refine RL.q (Y.assign rfl) rfl ?_
 refine RL.nil ?_
 refine hK10 _ _ _ ?_
 refine CW.kp [4] rfl ?_
 refine CW.ret ?_
 exact ⟨_,rfl,az.drop ⟨congrArg av (by unfold mo;split <;> first | omega | (split <;> omega)),rfl,rfl⟩ SB⟩

theorem rest_ok (w0 : World) (M : Mem) (Γ : List As) (a : Int) (b : Int)   (hai : InR a) (hbi : InR b) :
   aC Tryd.prog w0 M Γ 136 #[av a,av b] (Is M Γ (av (iQ a b))):=by
 have hai2:=hai
 have hbi2:=hbi
 unfold InR at hai2 hbi2
 refine enter (f:=136) Tryd.func136 rfl Tryd.ntmps136 rfl rfl fun w1 hw1=>?_
 refine CW.seq fun K1 hK1=>?_
 refine CW.region ?_
 refine RL.q (Y.assign rfl) rfl ?_
 refine RL.nil ?_
 refine hK1 _ _ _ ?_
 refine CW.kp [0,1] rfl ?_
 refine CW.seq fun K2 hK2=>?_
 refine CW.seq fun K3 hK3=>?_
 refine CW.region ?_
 refine RL.q (Y.move rfl) rfl ?_
 refine RL.q (Y.eql rfl rfl) rfl ?_
 refine RL.nil ?_
 refine hK3 _ _ _ ?_
 refine CW.kp [0,1,6] rfl ?_
 refine CW.ite rfl (fun h1=>?_) (fun h1=>?_)
 ·refine CW.seq fun K4 hK4=>?_
  refine CW.region ?_
  refine RL.q (Y.assign rfl) rfl ?_
  refine RL.nil ?_
  refine hK4 _ _ _ ?_
  refine CW.kp [4] rfl ?_
  refine CW.ret ?_
  exact ⟨_,rfl,az.drop ⟨by rw [iQ,if_pos OM],rfl,rfl⟩ SB⟩
 have hbd:=G3 h1 hai hbi
 refine CW.skip ?_
 refine hK2 _ _ _ ?_
 refine CW.seq fun K5 hK5=>?_
 refine CW.region ?_
 refine RL.q (Y.move rfl) rfl ?_
 refine RL.q (Y.move rfl) rfl ?_
 refine RL.q (Y.move rfl) rfl ?_
 refine RL.q (Y.move rfl) rfl ?_
 refine RL.eD rfl func135 rfl rfl (by exact wD _ _ _ _ _ AO AO) ?_
 refine RL.q (Y.mul rfl rfl OM) rfl ?_
 refine RL.q (Y.sub rfl rfl OM) rfl ?_
 refine RL.q (Y.assign rfl) rfl ?_
 refine RL.nil ?_
 refine hK5 _ _ _ ?_
 refine CW.kp [4] rfl ?_
 refine CW.ret ?_
 rw [iQ,if_neg OM]
 exact ⟨_,rfl,az.drop ⟨rfl,rfl,rfl⟩ SB⟩

theorem v_eta (v : Val) : Val.mk v.kind v.n v.kids = v:=by cases v;rfl

set_option maxHeartbeats 1000000 in
theorem qC (N : Nat) : ∀ (w0 : World) (M : Mem) (Γ : List As) (l : List Val) (u : Value),(∀ v∈l,v.size < N)->N<=1099511627776->l.length<=1099511627776->Kn w0 M Γ (Rd M (.sl l.length 3 (l.flatMap Val.enc)) u) ->
   aC Tryd.prog w0 M Γ 33 #[u] (pZ M Γ fun M' v=>Rd M' (.sl l.length 3 (l.flatMap Val.enc)) v):=by
 induction N using Nat.strongRecOn
 rename_i N ih
 intro w0 M Γ l u hsz hN hll hu
 refine aC.kn hu fun hu=>?_
 obtain ⟨a1,c1,rfl,hc1,hlim1,hlen1⟩:=hu.slice
 refine enter (f:=33) Tryd.func33 rfl Tryd.ntmps33 rfl rfl fun w1 hw1=>?_
 refine CW.ga hu ?_
 refine CW.seq fun K1 hK1=>?_
 refine CW.region ?_
 refine RL.q (Y.assign rfl) rfl ?_
 refine RL.nil ?_
 refine hK1 _ _ _ ?_
 refine CW.kp [0] rfl ?_
 refine CW.seq fun K2 hK2=>?_
 refine CW.region ?_
 refine RL.q (Y.assign rfl) rfl ?_
 refine RL.nil ?_
 refine hK2 _ _ _ ?_
 refine CW.kp [0,3] rfl ?_
 refine CW.seq fun K3 hK3=>?_
 refine CW.seq fun K4 hK4=>?_
 refine CW.Bu 26 3 ?_
 refine CW.aZ (RdL.nil _) ?_
 refine CW.region ?_
 refine RL.q (Y.move rfl) rfl ?_
 refine RL.q (Y.len rfl Tryd.underlying24) rfl ?_
 refine RL.q (Y.move rfl) rfl ?_
 refine RL.nil ?_
 refine hK4 _ _ _ ?_
 refine CW.kp [3,6,7,8] rfl ?_
 refine CW.block ?_
 -- LOOP 1: live [3,6,7,8] changed [3,8]
 refine CW.kp [3,8,6,7] rfl ?_
 refine CW.o5 (fun m Lc M1 Γc=>∃ (k : Nat) (ua : Option Addr) (ca : Nat) (us : List Value),m = l.length - k/\k<=l.length/\Lc = [(3,.slice ua k ca),(8,av k)]/\Γc = [.rds ((l.take k).flatMap Val.enc) us,.acc (.slice ua k ca) 26 3 k us]) l.length [(3,_),(8,_)] [_,_] rfl rfl ⟨0,none,0,[],rfl,Nat.zero_le _,rfl,rfl⟩ ?_
 rintro m Lc M1 Γc hs ⟨k,ua,ca,us,rfl,hk,rfl,rfl⟩
 refine CW.seq fun K5 hK5=>?_
 refine CW.region ?_
 refine RL.q (Y.lss rfl rfl) rfl ?_
 refine RL.nil ?_
 refine hK5 _ _ _ ?_
 refine CW.kp [3,6,7,8,9] rfl ?_
 refine CW.seq fun K6 hK6=>?_
 refine CW.ite rfl (fun h1=>?_) (fun h1=>?_)
 ·have hka : k < l.length:=Q0
  have hkz:=hsz _ (List.getElem_mem hka)
  have hks:=iu l[k]
  refine CW.skip ?_
  refine hK6 _ _ _ ?_
  refine CW.seq fun K7 hK7=>?_
  refine CW.block ?_
  refine CW.seq fun K8 hK8=>?_
  refine CW.region ?_
  refine RL.q (Y.index _ rfl rfl rfl AO eB SM) rfl ?_
  refine RL.aO rfl rfl MM (Eq.trans (aV Val.aq _ _ _ (List.getElem?_eq_getElem AO)) (Val.ay _)) Q3 aG rfl fun us11 hul11 hur11=>?_
  refine RL.alloc _ bk rfl rfl fun b5=>?_
  refine RL.aF 3 rfl rfl RP MM EL Q7 aD ?_
  refine RL.nil ?_
  refine hK8 _ _ _ ?_
  refine CW.kp [3,5,6,7,8] rfl ?_
  obtain ⟨uk,rfl,hkids⟩:=Val.open (v:=l[k]) (by rw [Val.ay];exact hur11)
  obtain ⟨ak,ck,rfl,hck,hlk,_⟩:=hkids.slice
  refine CW.ga hkids ?_
  refine CW.seq fun K9 hK9=>?_
  refine CW.region ?_
  refine RL.q (Y.field rfl di) rfl ?_
  refine RL.q (Y.jo rfl MM Q3 fB) rfl ?_
  refine RL.call rfl func33 rfl rfl (by exact ih _ hkz _ _ _ (l[k]).kids _ (fun x hx=>Val.dF hx) OM OM (by exact Kn.rd MM)) ?_
  rintro v14 M14 _ ⟨hs14,rfl,hr14⟩
  obtain ⟨a14,c14,rfl,hc14,hl14,_⟩:=hr14.slice
  refine RL.ga hr14 ?_
  refine RL.q (Y.field rfl di) rfl ?_
  refine RL.store _ rfl rfl RP Q3 Q2 Q3 EY ?_
  refine RL.nil ?_
  refine hK9 _ _ _ ?_
  refine CW.kp [3,5,6,7,8] rfl ?_
  refine CW.region ?_
  refine RL.q (Y.move rfl) rfl ?_
  refine RL.q (Y.gA rfl MM Q3 aG) rfl ?_
  refine RL.buildSlice [av l[k].kind,av l[k].n,.slice a14 (l[k]).kids.length c14] qB rfl Q1 (fill1 rfl rfl) rfl fun b18=>?_
  have hnd:=kA l[k].kind l[k].n (l[k]).kids hr14
  rw [v_eta] at hnd
  have etk : (l.take (k+1)).flatMap Val.enc = (l.take k).flatMap Val.enc++l[k].enc:=by rw [List.take_succ_eq_append_getElem hka,vr]
  refine RL.append qB rfl rfl PK (mE.own (sz:=3) (m:=1) MM Q3 hnd.one) OM (by unfold lim;omega) rfl fun a19 c19 hc19=>?_
  refine RL.q (Y.assign rfl) rfl ?_
  refine RL.nil ?_
  refine hK7 _ _ _ ?_
  refine CW.kp [3,6,7,8] rfl ?_
  refine CW.region ?_
  refine RL.q (Y.add rfl rfl OM) rfl ?_
  refine RL.q (Y.move rfl) rfl ?_
  refine RL.nil ?_
  refine ⟨l.length - (k+1),[(3,_),(8,_)],?_,(KP [3,8,6,7]),?_⟩
  · omega
  · refine az.kn (Kn.rds (ds:=(l.take k).flatMap Val.enc) (us:=us) MM) fun hrd=>?_
    refine az.front (x:=.acc (.slice a19 (k+1) c19) 26 3 (k+1) (us++[av l[k].kind,av l[k].n,.slice a14 (l[k]).kids.length c14])) PK ?_
    refine az.aZ (hrd.append hnd) ?_
    exact az.drop ⟨[_,_],rfl,hs.trans hs14,k+1,a19,c19,us++[av l[k].kind,av l[k].n,.slice a14 (l[k]).kids.length c14],rfl,Q0,rfl,by rw [etk]⟩ SB
 refine CW.exit ?_
 refine hK3 _ _ _ ?_
 refine CW.seq fun K10 hK10=>?_
 refine CW.region ?_
 refine RL.q (Y.move rfl) rfl ?_
 refine RL.q (Y.assign rfl) rfl ?_
 refine RL.nil ?_
 refine hK10 _ _ _ ?_
 refine CW.kp [2] rfl ?_
 refine CW.ret ?_
 obtain rfl : k = l.length:=Q0
 refine ⟨_,rfl,az.kn (Kn.rds (ds:=(l.take l.length).flatMap Val.enc) (us:=us) MM) fun hrd=>?_⟩
 rw [List.take_length] at hrd
 exact az.gz (Γ:=Γ) (u:=.slice ua l.length ca) PK hrd (by unfold lim;omega) SB fun M2 hs2 hr2=>⟨hs.trans hs2,rfl,hr2⟩

theorem Gh (w0 : World) (M : Mem) (Γ : List As) (n : Nat) (hn : n<=1000000) :
   aC Tryd.prog w0 M Γ 71 #[.slice none 0 0,av n] (fun u M' Γ'=>∃ a c,u = .slice a 0 c/\n<=c/\M' = M/\Γ' = .acc (.slice a 0 c) 26 3 0 []::Γ):=by
 refine enter (f:=71) Tryd.func71 rfl Tryd.ntmps71 rfl rfl fun w1 hw1=>?_
 refine CW.seq fun K1 hK1=>?_
 refine CW.region ?_
 refine RL.q (Y.assign rfl) rfl ?_
 refine RL.nil ?_
 refine hK1 _ _ _ ?_
 refine CW.kp [0,1] rfl ?_
 refine CW.seq fun K2 hK2=>?_
 refine CW.seq fun K3 hK3=>?_
 refine CW.region ?_
 refine RL.q (Y.move rfl) rfl ?_
 refine RL.q (Y.lss rfl rfl) rfl ?_
 refine RL.nil ?_
 refine hK3 _ _ _ ?_
 refine CW.kp [0,1,6] rfl ?_
 refine CW.ite rfl (fun h1=>absurd h1 OM) (fun h1=>?_)
 refine CW.skip ?_
 refine hK2 _ _ _ ?_
 refine CW.seq fun K4 hK4=>?_
 refine CW.seq fun K5 hK5=>?_
 refine CW.region ?_
 refine RL.q (Y.move rfl) rfl ?_
 refine RL.q (Y.move rfl) rfl ?_
 refine RL.q (Y.cap rfl Tryd.underlying24) rfl ?_
 refine RL.q (Y.move rfl) rfl ?_
 refine RL.q (Y.len rfl Tryd.underlying24) rfl ?_
 refine RL.q (Y.sub rfl rfl OM) rfl ?_
 refine RL.q (Y.sub rfl rfl OM) rfl ?_
 refine RL.q (Y.assign rfl) rfl ?_
 refine RL.nil ?_
 refine hK5 _ _ _ ?_
 refine CW.kp [0,1] rfl ?_
 refine CW.seq fun K6 hK6=>?_
 refine CW.region ?_
 refine RL.q (Y.move rfl) rfl ?_
 refine RL.q (Y.gtr rfl rfl) rfl ?_
 refine RL.nil ?_
 refine hK6 _ _ _ ?_
 refine CW.kp [0,1,16] rfl ?_
 refine CW.ite rfl (fun h2=>?_) (fun h2=>?_)
 ·refine CW.region ?_
  refine RL.q (Y.move rfl) rfl ?_
  refine RL.q (Y.move rfl) rfl ?_
  refine RL.q (Y.cap rfl Tryd.underlying24) rfl ?_
  refine RL.q (Y.ET 0 0 rfl ⟨_,rfl,rfl⟩ rfl Q2 (Nat.le_refl _) (Nat.le_refl _) eB) rfl ?_
  refine RL.q (Y.move rfl) rfl ?_
  refine RL.zZ n qB Tryd.underlying3 rfl rfl OM OM OM (by unfold lim;omega) rfl fun b22 c22 us22 hus22 hc22=>?_
  refine RL.q (Y.move rfl) rfl ?_
  refine RL.q (Y.len rfl Tryd.underlying24) rfl ?_
  refine RL.yp (k:=0) (Nat.zero_le _) ?_
  refine RL.q (Y.ET 0 c22 rfl ⟨_,rfl,rfl⟩ rfl Q2 (Nat.zero_le _) (Nat.le_refl _) eB) rfl ?_
  refine RL.q (Y.assign rfl) rfl ?_
  refine RL.nil ?_
  refine hK4 _ _ _ ?_
  refine CW.kp [0] rfl ?_
  refine CW.seq fun K7 hK7=>?_
  refine CW.region ?_
  refine RL.q (Y.move rfl) rfl ?_
  refine RL.q (Y.assign rfl) rfl ?_
  refine RL.nil ?_
  refine hK7 _ _ _ ?_
  refine CW.kp [4] rfl ?_
  refine CW.ret ?_
  exact ⟨_,rfl,az.drop ⟨_,_,rfl,Q0,rfl,rfl⟩ SB⟩
 refine CW.Bu 26 3 ?_
 refine CW.skip ?_
 refine hK4 _ _ _ ?_
 refine CW.seq fun K8 hK8=>?_
 refine CW.region ?_
 refine RL.q (Y.move rfl) rfl ?_
 refine RL.q (Y.assign rfl) rfl ?_
 refine RL.nil ?_
 refine hK8 _ _ _ ?_
 refine CW.kp [4] rfl ?_
 refine CW.ret ?_
 exact ⟨_,rfl,az.drop ⟨_,_,rfl,Q0,rfl,rfl⟩ SB⟩

theorem nM (ls : List (List Val)) (k : Nat) (h : k < ls.length) : (ls.take (k+1)).flatten = (ls.take k).flatten++ls[k]:=by rw [List.take_succ_eq_append_getElem h,List.flatten_append,List.flatten_singleton]

set_option maxHeartbeats 1000000 in
theorem uA (w0 : World) (M : Mem) (Γ : List As) (p : Addr) (us : List Value) (ls : List (List Val)) (hc : gV w0 M Γ p us) (hr : RdL M (ls.map fun l=>D.sl l.length 3 (l.flatMap Val.enc)) us) (hl : ls.length<=1000) (hls : ls.flatten.length<=1000000) :
   aC Tryd.prog w0 M Γ 34 #[.slice (some p) us.length us.length] (fun u M' Γ'=>∃ a c vs,u = .slice a ls.flatten.length c/\ls.flatten.length<=c/\M' = M/\RdL M (ls.flatten.flatMap Val.enc) vs/\Γ' = .acc (.slice a ls.flatten.length c) 26 3 ls.flatten.length vs::Γ):=by
 have hul : us.length = ls.length:=by rw [hr.1];simp
 have htk : ∀ k,(ls.take k).flatten.length<=1000000:=fun k=>by
   have h:=congrArg (fun x=>(List.flatten x).length) (List.take_append_drop k ls)
   rw [List.flatten_append,List.length_append] at h
   omega
 refine enter (f:=34) Tryd.func34 rfl Tryd.ntmps34 rfl rfl fun w1 hw1=>?_
 refine CW.seq fun K1 hK1=>?_
 refine CW.region ?_
 refine RL.q (Y.assign rfl) rfl ?_
 refine RL.nil ?_
 refine hK1 _ _ _ ?_
 refine CW.kp [0] rfl ?_
 refine CW.seq fun K2 hK2=>?_
 refine CW.region ?_
 refine RL.q (Y.assign rfl) rfl ?_
 refine RL.nil ?_
 refine hK2 _ _ _ ?_
 refine CW.kp [0,3] rfl ?_
 refine CW.seq fun K3 hK3=>?_
 refine CW.seq fun K4 hK4=>?_
 refine CW.region ?_
 refine RL.q (Y.move rfl) rfl ?_
 refine RL.q (Y.len rfl Tryd.underlying56) rfl ?_
 refine RL.q (Y.move rfl) rfl ?_
 refine RL.nil ?_
 refine hK4 _ _ _ ?_
 refine CW.kp [0,3,9,10,11] rfl ?_
 refine CW.block ?_
 -- LOOP 1: live [0,3,9,10,11] changed [3,11]
 refine CW.kp [3,11,0,9,10] rfl ?_
 refine CW.o5 (fun m Lc M1 Γc=>∃ k : Nat,m = us.length - k/\k<=us.length/\Lc = [(3,av ((ls.take k).flatten.length : Nat)),(11,av k)]/\Γc = []/\M1 = M) (us.length) [(3,_),(11,_)] _ rfl rfl ⟨0,rfl,Nat.zero_le _,rfl,rfl,rfl⟩ ?_
 rintro m Lc M Γc hs ⟨k,rfl,hk,rfl,rfl,rfl⟩
 refine CW.seq fun K5 hK5=>?_
 refine CW.region ?_
 refine RL.q (Y.lss rfl rfl) rfl ?_
 refine RL.nil ?_
 refine hK5 _ _ _ ?_
 refine CW.kp [0,3,9,10,11,12] rfl ?_
 refine CW.seq fun K6 hK6=>?_
 refine CW.ite rfl (fun h1=>?_) (fun h1=>?_)
 ·have hka : k < us.length:=Q0
  have hkl : k < ls.length:=Q0
  have hrk : Rd M (.sl ls[k].length 3 (ls[k].flatMap Val.enc)) us[k]:=hr.2 k _ _ (by simp [hkl]) (List.getElem?_eq_getElem hka)
  obtain ⟨ak,ck,huk,hck,hlk,_⟩:=hrk.slice
  have hgk : us[k]? = some (.slice ak ls[k].length ck):=by rw [List.getElem?_eq_getElem hka,huk]
  have htk1:=htk k
  have htk2:=htk (k+1)
  rw [List.take_succ_eq_append_getElem hkl,List.flatten_append,List.length_append,List.flatten_singleton] at htk2
  refine CW.skip ?_
  refine hK6 _ _ _ ?_
  refine CW.seq fun K7 hK7=>?_
  refine CW.block ?_
  refine CW.seq fun K8 hK8=>?_
  refine CW.region ?_
  refine RL.q (Y.index k rfl rfl rfl hka BM (fun _ _=>rfl)) rfl ?_
  refine RL.q (Y.load (v:=.slice ak ls[k].length ck) rfl fB (fun w hw=>by rw [Nat.mul_one];exact (hc.mono (fun _ h=>h.sub SB)) w hw k _ hgk)) rfl ?_
  refine RL.q (Y.assign rfl) rfl ?_
  refine RL.nil ?_
  refine hK8 _ _ _ ?_
  refine CW.kp [0,3,5,9,10,11] rfl ?_
  refine CW.seq fun K9 hK9=>?_
  refine CW.region ?_
  refine RL.q (Y.move rfl) rfl ?_
  refine RL.q (Y.move rfl) rfl ?_
  refine RL.q (Y.len rfl Tryd.underlying24) rfl ?_
  refine RL.q (Y.add rfl rfl OM) rfl ?_
  refine RL.q (Y.assign rfl) rfl ?_
  refine RL.nil ?_
  refine hK9 _ _ _ ?_
  refine CW.kp [0,3,9,10,11] rfl ?_
  refine CW.seq fun K10 hK10=>?_
  refine CW.region ?_
  refine RL.q (Y.move rfl) rfl ?_
  refine RL.q (Y.lss rfl rfl) rfl ?_
  refine RL.nil ?_
  refine hK10 _ _ _ ?_
  refine CW.kp [0,3,9,10,11,20] rfl ?_
  refine CW.ite rfl (fun h2=>absurd h2 OM) (fun h2=>?_)
  refine CW.skip ?_
  refine hK7 _ _ _ ?_
  refine CW.region ?_
  refine RL.q (Y.add rfl rfl OM) rfl ?_
  refine RL.q (Y.move rfl) rfl ?_
  refine RL.nil ?_
  refine ⟨us.length - (k+1),[(3,_),(11,_)],?_,(KP [3,11,0,9,10]),?_⟩
  · omega
  · exact az.drop ⟨[],rfl,hs,k+1,rfl,Q0,by rw [nM ls k hkl,List.length_append] <;> rfl,rfl,rfl⟩ SB
 refine CW.exit ?_
 refine hK3 _ _ _ ?_
 refine CW.seq fun K11 hK11=>?_
 obtain rfl : k = us.length:=Q0
 rw [show ls.take us.length = ls from by rw [hul,List.take_length]]
 refine CW.region ?_
 refine RL.q (Y.move rfl) rfl ?_
 refine RL.call rfl func71 rfl rfl (by exact Gh _ _ _ ls.flatten.length hls) ?_
 rintro v24 M _ ⟨a24,c24,rfl,hc24,rfl,rfl⟩
 refine RL.q (Y.assign rfl) rfl ?_
 refine RL.nil ?_
 refine hK11 _ _ _ ?_
 refine CW.kp [0,6] rfl ?_
 refine CW.seq fun K12 hK12=>?_
 refine CW.seq fun K13 hK13=>?_
 refine CW.region ?_
 refine RL.q (Y.move rfl) rfl ?_
 refine RL.q (Y.len rfl Tryd.underlying56) rfl ?_
 refine RL.q (Y.move rfl) rfl ?_
 refine RL.nil ?_
 refine hK13 _ _ _ ?_
 refine CW.kp [6,25,26,27] rfl ?_
 refine CW.block ?_
 -- LOOP 2: live [6,25,26,27] changed [6,27]
 refine CW.kp [6,27,25,26] rfl ?_
 refine CW.front (x:=.acc (.slice a24 0 c24) 26 3 0 []) PK ?_
 refine CW.o5 (fun m Lc M1 Γc=>∃ (k : Nat) (ua : Option Addr) (ca : Nat) (vs : List Value),m = us.length - k/\k<=us.length/\Lc = [(6,.slice ua (ls.take k).flatten.length ca),(27,av k)]/\Γc = [.acc (.slice ua (ls.take k).flatten.length ca) 26 3 (ls.take k).flatten.length vs]/\M1 = M/\(ls.take k).flatten.length<=ca/\RdL M ((ls.take k).flatten.flatMap Val.enc) vs) us.length [(6,_),(27,_)] [_] rfl rfl ⟨0,a24,c24,[],rfl,Nat.zero_le _,rfl,rfl,rfl,Nat.zero_le _,RdL.nil _⟩ ?_
 rintro m Lc M Γc hs2 ⟨k,ua,ca,vs,rfl,hk,rfl,rfl,rfl,hca,hvr⟩
 refine CW.seq fun K14 hK14=>?_
 refine CW.region ?_
 refine RL.q (Y.lss rfl rfl) rfl ?_
 refine RL.nil ?_
 refine hK14 _ _ _ ?_
 refine CW.kp [6,25,26,27,28] rfl ?_
 refine CW.seq fun K15 hK15=>?_
 refine CW.ite rfl (fun h3=>?_) (fun h3=>?_)
 ·have hka : k < us.length:=Q0
  have hkl : k < ls.length:=Q0
  have hrk : Rd M (.sl ls[k].length 3 (ls[k].flatMap Val.enc)) us[k]:=hr.2 k _ _ (by simp [hkl]) (List.getElem?_eq_getElem hka)
  obtain ⟨ak,ck,huk,hck,hlk,_⟩:=hrk.slice
  have hgk : us[k]? = some (.slice ak ls[k].length ck):=by rw [List.getElem?_eq_getElem hka,huk]
  have htk1:=htk k
  have htk2:=htk (k+1)
  rw [List.take_succ_eq_append_getElem hkl,List.flatten_append,List.length_append,List.flatten_singleton] at htk2
  rw [huk] at hrk
  refine CW.ga hrk ?_
  refine CW.skip ?_
  refine hK15 _ _ _ ?_
  refine CW.seq fun K16 hK16=>?_
  refine CW.block ?_
  refine CW.seq fun K17 hK17=>?_
  refine CW.region ?_
  refine RL.q (Y.index k rfl rfl rfl hka BM (fun _ _=>rfl)) rfl ?_
  refine RL.q (Y.load (v:=.slice ak ls[k].length ck) rfl fB (fun w hw=>by rw [Nat.mul_one];exact (hc.mono (fun _ h=>h.sub SB)) w hw k _ hgk)) rfl ?_
  refine RL.q (Y.assign rfl) rfl ?_
  refine RL.nil ?_
  refine hK17 _ _ _ ?_
  refine CW.kp [6,8,25,26,27] rfl ?_
  refine CW.region ?_
  refine RL.q (Y.move rfl) rfl ?_
  refine RL.q (Y.move rfl) rfl ?_
  refine RL.G9 qB rfl rfl PK MM OM (by unfold lim;omega) rfl fun a33 c33 n33 hc33 hn33=>?_
  refine RL.q (Y.assign rfl) rfl ?_
  refine RL.nil ?_
  refine hK16 _ _ _ ?_
  refine CW.kp [6,25,26,27] rfl ?_
  refine CW.region ?_
  refine RL.q (Y.add rfl rfl OM) rfl ?_
  refine RL.q (Y.move rfl) rfl ?_
  refine RL.nil ?_
  have e33 : (ls.take (k+1)).flatten.length = (ls.take k).flatten.length+ls[k].length:=by rw [nM ls k hkl,List.length_append]
  refine ⟨us.length - (k+1),[(6,_),(27,_)],?_,(KP [6,27,25,26]),?_⟩
  · omega
  · refine az.drop (Γ':=[.acc (.slice a33 ((ls.take k).flatten.length+ls[k].length) c33) 26 3 ((ls.take k).flatten.length+ls[k].length) (vs++n33)]++_) ⟨_,rfl,hs2,k+1,a33,c33,vs++n33,rfl,Q0,by rw [e33] <;> rfl,by rw [e33],rfl,Q0,?_⟩ SB
    rw [nM ls k hkl,List.flatMap_append]
    exact hvr.append hn33
 refine CW.exit ?_
 refine hK12 _ _ _ ?_
 refine CW.seq fun K18 hK18=>?_
 refine CW.region ?_
 refine RL.q (Y.move rfl) rfl ?_
 refine RL.q (Y.assign rfl) rfl ?_
 refine RL.nil ?_
 refine hK18 _ _ _ ?_
 refine CW.kp [2] rfl ?_
 refine CW.ret ?_
 obtain rfl : k = us.length:=Q0
 rw [show ls.take us.length = ls from by rw [hul,List.take_length]] at hca hvr ⊢
 exact ⟨_,rfl,az.drop ⟨_,_,vs,rfl,hca,rfl,hvr,rfl⟩ SB⟩
section
variable {w0 : World} {M : Mem} {Γ : List As}
theorem B8 {ds : List D} {us : List Value} {n : Nat} (hn : ds.length = n) (h : RdL M ds us) (f : Nat->S) (h0 : f 0 = .a n ds) (h1 : ∀ t,f (t+1) = su) : Plain M f [.agg us.toArray]:=fun t=>by
 match t with
 | 0=>exact .inr ⟨_,rfl,by rw [h0];exact ⟨hn,us,rfl,h⟩⟩
 | t+1=>exact .inl (h1 t)
theorem GW (hN : hO M) (v : Val) (us : List Value) (hz : v.size<=1152921504606846976) (hr : Kn w0 M Γ (RdL M v.enc us)) : aC Tryd.prog w0 M Γ 103 #[.agg us.toArray] (Xe.Is M Γ (av (v.size : Nat))):=by
 refine aC.kn hr fun hr=>?_
 have h : mH Tryd.prog xj _ _:=GA v hz
 exact ij hN h rfl (B8 (Val.aq _) hr _ rfl fun _=>rfl) (fun _=>rfl) (.inr ⟨rfl,_,rfl⟩) rfl
theorem Ep (hN : hO M) (v : Val) (us : List Value) (hz : v.size<=1152921504606846976) (hr : Kn w0 M Γ (RdL M v.enc us)) : aC Tryd.prog w0 M Γ 104 #[.agg us.toArray] (Xe.Is M Γ (av (v.depth : Nat))):=by
 refine aC.kn hr fun hr=>?_
 have h : mH Tryd.prog C9 _ _:=edep_is v hz
 exact ij hN h rfl (B8 (Val.aq _) hr _ rfl fun _=>rfl) (fun _=>rfl) (.inr ⟨rfl,_,rfl⟩) rfl
theorem CD (hN : hO M) (a b : Val) (ua ub : List Value) (hz : a.size<=1000000000000000) (ha : Kn w0 M Γ (RdL M a.enc ua)) (hb : Kn w0 M Γ (RdL M b.enc ub)) : aC Tryd.prog w0 M Γ 32 #[.agg ua.toArray,.agg ub.toArray] (Xe.Is M Γ (av (jT a b))):=by
 refine aC.kn ha fun ha=>?_
 refine aC.kn hb fun hb=>?_
 have h : mH Tryd.prog s32 _ _:=ecmp_is a b hz
 refine ij hN h rfl (fun t=>?_) (fun _=>rfl) (.inr ⟨rfl,_,rfl⟩) rfl
 match t with
 | 0=>exact .inr ⟨_,rfl,Val.aq _,ua,rfl,ha⟩
 | 1=>exact .inr ⟨_,rfl,Val.aq _,ub,rfl,hb⟩
 | t+2=>exact .inl rfl
theorem D7 (hN : hO M) (p : ProgT) (up : List Value) (t : Ty) (ut : List Value) (v : Val) (uv : List Value) (hz : v.size<=1000000000000000) (hp : Kn w0 M Γ (RdL M p.enc up)) (ht : Kn w0 M Γ (RdL M t.enc ut)) (hv : Kn w0 M Γ (RdL M v.enc uv)) :
  aC Tryd.prog w0 M Γ 28 #[.agg up.toArray,.agg ut.toArray,.agg uv.toArray] (Xe.Is M Γ (.bool (decide (gk p t v)))):=by
 refine aC.kn hp fun hp=>?_
 refine aC.kn ht fun ht=>?_
 refine aC.kn hv fun hv=>?_
 rw [ProgT.ay] at hp
 have hpl : p.defs.length<=1000000000000000:=by
  obtain ⟨u1,us,rfl,_,hp⟩:=hp.lE
  obtain ⟨u2,us,rfl,hd,_⟩:=hp.lE
  obtain ⟨a,c,_,_,h1,_⟩:=hd.slice
  omega
 have h : mH Tryd.prog s28 _ _:=EC hpl (t:=t) hz
 refine ij hN h rfl (fun t=>?_) (fun _=>rfl) (.inl ⟨rfl,_,rfl⟩) rfl
 match t with
 | 0=>exact .inr ⟨_,rfl,rfl,up,rfl,hp⟩
 | 1=>exact .inr ⟨_,rfl,Ty.aq _,ut,rfl,ht⟩
 | 2=>exact .inr ⟨_,rfl,Val.aq _,uv,rfl,hv⟩
 | t+3=>exact .inl rfl
end
theorem arr70 : arrB Tryd.prog 70 5 40 1 = true:=by kernel_rfl

theorem func132 : bF Tryd.prog 132 = true:=by kernel_rfl

theorem func133 : bF Tryd.prog 133 = true:=by kernel_rfl

theorem func134 : bF Tryd.prog 134 = true:=by kernel_rfl

theorem func136 : bF Tryd.prog 136 = true:=by kernel_rfl

theorem numF_ok (k : Nat) (hk : k < 5) : bF Tryd.prog (132+k) = true:=by
 have : k = 0\/k = 1\/k = 2\/k = 3\/k = 4:=Q0
 rcases this with rfl | rfl | rfl | rfl | rfl
 · exact func132
 · exact func133
 · exact func134
 · exact func135
 · exact func136
theorem num_of (k : Nat) (hk : k < 5) (w0 : World) (M : Mem) (Γ : List As) (a b : Int) (ha : InR a) (hb : InR b) : aC Tryd.prog w0 M Γ (132+k) #[av a,av b] (Is M Γ (av (tw k a b))):=by
 have : k = 0\/k = 1\/k = 2\/k = 3\/k = 4:=Q0
 rcases this with rfl | rfl | rfl | rfl | rfl
 · exact add_ok w0 M Γ a b ha hb
 · exact sub_ok w0 M Γ a b ha hb
 · exact EJ w0 M Γ a b ha hb
 · exact wD w0 M Γ a b ha hb
 · exact rest_ok w0 M Γ a b ha hb

set_option maxHeartbeats 2000000 in
theorem op2_ok (w0 : World) (M : Mem) (Γ : List As) (n : Int) (l : List Val) (ul : Value) (r : Val) (hl : Kn w0 M Γ (Rd M (.sl l.length 3 (l.flatMap Val.enc)) ul)) (hnm : hO M) (hl2 : l.length = 2) (hz0 : (l[0]'OM).size<=100000) (hz1 : (l[1]'OM).size<=100000) (hr : fS n (l[0]'OM) (l[1]'OM) = some r) :
   aC Tryd.prog w0 M Γ 12 #[av n,ul] (pZ M Γ fun M' v=>∃ us,v = .agg us.toArray/\RdL M' r.enc us):=by
 refine aC.kn hl fun hl=>?_
 obtain ⟨al,cl,rfl,hcl,hliml,hlenl⟩:=hl.slice
 have hk0:=iu l[0]
 have hk1:=iu l[1]
 refine mY (f:=12) Tryd.func12 rfl Tryd.ntmps12 rfl rfl fun w1 hw1=>?_
 refine CW.ga hl ?_
 refine CW.seq fun K1 hK1=>?_
 refine CW.region ?_
 refine RL.alloc _ bk rfl rfl fun b4=>?_
 refine RL.nil ?_
 refine hK1 _ _ _ ?_
 refine CW.kp [0,1,4] rfl ?_
 refine CW.seq fun K2 hK2=>?_
 refine CW.seq fun K3 hK3=>?_
 refine CW.jK 17 (.bool (decide (0<=n/\n < 5))) ?_ ?_
 ·refine RL.q (Y.move rfl) rfl ?_
  refine RL.qs (Y.geq rfl rfl) rfl (fun g8=>?_) (fun g8=>?_)
  ·refine RL.q (Y.move rfl) rfl ?_
   refine RL.qg WG (Y.move rfl) rfl ?_
   refine RL.qgs WG (Y.lss rfl rfl) rfl (fun g11=>?_) (fun g11=>?_)
   ·refine RL.q (Y.fK rfl rfl) rfl ?_
    refine RL.q (Y.move rfl) rfl ?_
    refine RL.qg WG (Y.move rfl) rfl ?_
    refine RL.qg WG (Y.len rfl Tryd.underlying24) rfl ?_
    refine RL.qg WG (Y.eql rfl rfl) rfl ?_
    refine RL.q (Y.fK rfl rfl) rfl ?_
    refine RL.nil ?_
    exact ⟨gl rfl (fY Q9),(by repeat (first | exact cq.nil _ | refine cq.cons _ rfl ?_)),fun _ hw=>hw.sub SB⟩
   refine RL.q (Y.fK rfl rfl) rfl ?_
   refine RL.q (Y.move rfl) rfl ?_
   refine RL.no WG rfl ?_
   refine RL.no WG rfl ?_
   refine RL.no WG rfl ?_
   refine RL.q (Y.fL rfl rfl) rfl ?_
   refine RL.nil ?_
   exact ⟨gl rfl (fY Q9),(by repeat (first | exact cq.nil _ | refine cq.cons _ rfl ?_)),fun _ hw=>hw.sub SB⟩
  refine RL.q (Y.move rfl) rfl ?_
  refine RL.no WG rfl ?_
  refine RL.no WG rfl ?_
  refine RL.q (Y.fL rfl rfl) rfl ?_
  refine RL.q (Y.move rfl) rfl ?_
  refine RL.no WG rfl ?_
  refine RL.no WG rfl ?_
  refine RL.no WG rfl ?_
  refine RL.q (Y.fL rfl rfl) rfl ?_
  refine RL.nil ?_
  exact ⟨gl rfl (fY Q9),(by repeat (first | exact cq.nil _ | refine cq.cons _ rfl ?_)),fun _ hw=>hw.sub SB⟩
 refine hK3 _ _ _ ?_
 refine CW.ite rfl (fun h1=>?_) (fun h1=>?_)
 ·obtain ⟨kk,rfl⟩:=Int.eq_ofNat_of_zero_le (show 0<=n by omega)
  have hkk : kk < 5:=Q0
  rw [fS,if_pos ⟨Q0,Q0⟩] at hr
  obtain ⟨hin,hr⟩ : (InR l[0].n/\InR l[1].n)/\some (Val.mk 0 (tw kk l[0].n l[1].n) []) = some r:=by
    split at hr
    · exact ⟨by assumption,hr⟩
    · cases hr
  obtain rfl:=Option.some.inj hr
  refine CW.seq fun K4 hK4=>?_
  refine CW.yT mix (x:=.own _ _ _) PK ?_
  refine HL.take 0 rfl KR KR KR rfl (Y.move rfl) rfl ?_
  refine HL.take 1 rfl KR KR KR rfl (Y.Gb (a:=some ⟨0,0,none⟩) (q:=0) kk rfl rfl rfl hkk arr70) rfl ?_
  refine HL.take 2 rfl KR KR KR rfl (Y.q5 rfl (by simpa using hnm kk hkk) flat40) rfl ?_
  refine HL.take 3 rfl KR KR KR rfl (Y.move rfl) rfl ?_
  refine HL.take 4 rfl KR KR KR rfl (Y.index 0 rfl rfl rfl AO eB SM) rfl ?_
  refine HL.take 5 rfl KR KR KR rfl (Y.field rfl bN) rfl ?_
  refine HL.take 6 rfl KR KR KR rfl (Y.AS rfl MM (pH Val.aq _ _ _ (List.getElem?_eq_getElem AO) _ _ (by rw [Val.ay] <;> rfl)) cJ) rfl ?_
  refine HL.take 7 rfl KR KR KR rfl (Y.move rfl) rfl ?_
  refine HL.take 8 rfl KR KR KR rfl (Y.index 1 rfl rfl rfl AO eB SM) rfl ?_
  refine HL.take 9 rfl KR KR KR rfl (Y.field rfl bN) rfl ?_
  refine HL.take 10 rfl KR KR KR rfl (Y.AS rfl MM (pH Val.aq _ _ _ (List.getElem?_eq_getElem AO) _ _ (by rw [Val.ay] <;> rfl)) cJ) rfl ?_
  refine HL.step 11 rfl KR ?_
  refine RL.GQ rfl (numF_ok kk hkk) rfl rfl rfl (by simpa using num_of kk hkk _ _ _ l[0].n l[1].n hin.1 hin.2) ?_
  refine RL.nil ⟨aT SB,?_⟩
  refine HL.take 12 rfl KR KR KR rfl (Y.build [_,_,_] rfl bk cy Q3) rfl ?_
  refine HL.step 13 rfl KR ?_
  refine RL.aI _ rfl rfl RP Q3 Q5 Q6 aD ?_
  refine RL.nil ⟨aT SB,?_⟩
  refine HL.done KR ?_
  refine hK4 _ _ _ ?_
  refine CW.kp [4] rfl ?_
  refine CW.ret ?_
  refine aE.mk rfl MM Q3 aG (az.drop ⟨Sub.refl _,rfl,_,rfl,?_⟩ SB)
  exact fm _ _
 refine CW.skip ?_
 refine hK2 _ _ _ ?_
 refine CW.seq fun K5 hK5=>?_
 refine CW.block ?_
 refine CW.seq fun K6 hK6=>?_
 refine CW.jK 31 (.bool (decide (n = 9/\l.length = 1))) ?_ ?_
 ·refine RL.q (Y.move rfl) rfl ?_
  refine RL.qs (Y.eql rfl rfl) rfl (fun g33=>?_) (fun g33=>?_)
  ·refine RL.q (Y.move rfl) rfl ?_
   refine RL.qg WG (Y.move rfl) rfl ?_
   refine RL.qg WG (Y.len rfl Tryd.underlying24) rfl ?_
   refine RL.qg WG (Y.eql rfl rfl) rfl ?_
   refine RL.q (Y.fK rfl rfl) rfl ?_
   refine RL.q (Y.assign rfl) rfl ?_
   refine RL.nil ?_
   exact ⟨gl rfl (fY Q9),(by repeat (first | exact cq.nil _ | refine cq.cons _ rfl ?_)),fun _ hw=>hw.sub SB⟩
  refine RL.q (Y.move rfl) rfl ?_
  refine RL.no WG rfl ?_
  refine RL.no WG rfl ?_
  refine RL.no WG rfl ?_
  refine RL.q (Y.fL rfl rfl) rfl ?_
  refine RL.q (Y.assign rfl) rfl ?_
  refine RL.nil ?_
  exact ⟨gl rfl (fY Q9),(by repeat (first | exact cq.nil _ | refine cq.cons _ rfl ?_)),fun _ hw=>hw.sub SB⟩
 refine hK6 _ _ _ ?_
 refine CW.ite rfl (fun h2=>absurd h2 OM) (fun h2=>?_)
 refine CW.seq fun K7 hK7=>?_
 refine CW.jK 45 (.bool (decide (n = 11/\l.length = 1))) ?_ ?_
 ·refine RL.q (Y.move rfl) rfl ?_
  refine RL.qs (Y.eql rfl rfl) rfl (fun g47=>?_) (fun g47=>?_)
  ·refine RL.q (Y.move rfl) rfl ?_
   refine RL.qg WG (Y.move rfl) rfl ?_
   refine RL.qg WG (Y.len rfl Tryd.underlying24) rfl ?_
   refine RL.qg WG (Y.eql rfl rfl) rfl ?_
   refine RL.q (Y.fK rfl rfl) rfl ?_
   refine RL.q (Y.assign rfl) rfl ?_
   refine RL.nil ?_
   exact ⟨gl rfl (fY Q9),(by repeat (first | exact cq.nil _ | refine cq.cons _ rfl ?_)),fun _ hw=>hw.sub SB⟩
  refine RL.q (Y.move rfl) rfl ?_
  refine RL.no WG rfl ?_
  refine RL.no WG rfl ?_
  refine RL.no WG rfl ?_
  refine RL.q (Y.fL rfl rfl) rfl ?_
  refine RL.q (Y.assign rfl) rfl ?_
  refine RL.nil ?_
  exact ⟨gl rfl (fY Q9),(by repeat (first | exact cq.nil _ | refine cq.cons _ rfl ?_)),fun _ hw=>hw.sub SB⟩
 refine hK7 _ _ _ ?_
 refine CW.ite rfl (fun h3=>absurd h3 OM) (fun h3=>?_)
 refine CW.seq fun K8 hK8=>?_
 refine CW.region ?_
 refine RL.q (Y.move rfl) rfl ?_
 refine RL.q (Y.len rfl Tryd.underlying24) rfl ?_
 refine RL.q (Y.neq rfl rfl) rfl ?_
 refine RL.q (Y.assign rfl) rfl ?_
 refine RL.nil ?_
 refine hK8 _ _ _ ?_
 refine CW.kp [0,1,4,59] rfl ?_
 refine CW.ite rfl (fun h4=>absurd h4 OM) (fun h4=>?_)
 refine CW.skip ?_
 refine hK5 _ _ _ ?_
 refine CW.seq fun K9 hK9=>?_
 refine CW.ki mix _ _ (fun _ hw=>hw) ?_
 refine HL.take 0 rfl KR KR KR rfl (Y.move rfl) rfl ?_
 refine HL.take 1 rfl KR KR KR rfl (Y.index 0 rfl rfl rfl AO eB SM) rfl ?_
 refine HL.aO 2 rfl KR KR KR rfl rfl MM (Eq.trans (aV Val.aq _ _ _ (List.getElem?_eq_getElem AO)) (Val.ay _)) Q3 aG rfl fun us66 hul66 hur66=>?_
 refine HL.take 3 rfl KR KR KR rfl (Y.move rfl) rfl ?_
 refine HL.take 4 rfl KR KR KR rfl (Y.index 1 rfl rfl rfl AO eB SM) rfl ?_
 refine HL.aO 5 rfl KR KR KR rfl rfl MM (Eq.trans (aV Val.aq _ _ _ (List.getElem?_eq_getElem AO)) (Val.ay _)) Q3 aG rfl fun us69 hul69 hur69=>?_
 refine HL.step2 6 7 rfl rfl KR ?_ ?_
 ·refine RL.alloc _ bk rfl rfl fun b5=>?_
  refine RL.nil ⟨aT SB,?_⟩
  refine HL.step 7 rfl KR ?_
  refine RL.alloc _ bk rfl rfl fun b6=>?_
  refine RL.nil ⟨aT SB,?_⟩
  refine HL.step 8 rfl KR ?_
  refine RL.aF 3 rfl rfl RP MM EL Q7 aD ?_
  refine RL.nil ⟨aT SB,?_⟩
  refine HL.step 9 rfl KR ?_
  refine RL.aF 3 rfl rfl RP MM EL Q7 aD ?_
  refine RL.nil ⟨aT SB,?_⟩
  refine HL.done KR ?_
  refine hK9 _ _ _ ?_
  refine CW.kp [0,4,5,6] rfl ?_
  refine CW.seq fun K10 hK10=>?_
  refine CW.seq fun K11 hK11=>?_
  refine CW.region ?_
  refine RL.q (Y.move rfl) rfl ?_
  refine RL.nil ?_
  refine hK11 _ _ _ ?_
  refine CW.kp [4,5,6,70] rfl ?_
  refine CW.block ?_
  refine CW.seq fun K12 hK12=>?_
  refine CW.region ?_
  refine RL.q (Y.eql rfl rfl) rfl ?_
  refine RL.q (Y.assign rfl) rfl ?_
  refine RL.nil ?_
  refine hK12 _ _ _ ?_
  refine CW.kp [4,5,6,70,71] rfl ?_
  refine CW.ite rfl (fun h5=>?_) (fun h5=>?_)
  ·refine CW.seq fun K13 hK13=>?_
   refine CW.region ?_
   refine RL.q (Y.field rfl bN) rfl ?_
   refine RL.q (Y.bl rfl MM MM Q3 cJ) rfl ?_
   refine RL.q (Y.field rfl bN) rfl ?_
   refine RL.q (Y.bl rfl MM MM Q3 cJ) rfl ?_
   refine RL.q (Y.lss rfl rfl) rfl ?_
   refine RL.eD rfl func31 rfl rfl (by exact cD _ _ _ _) ?_
   refine RL.aI _ rfl rfl RP Q3 Q5 Q6 aD ?_
   refine RL.nil ?_
   refine hK13 _ _ _ ?_
   refine CW.kp [4] rfl ?_
   refine CW.ret ?_
   rw [fS,if_neg h1,if_pos h5] at hr
   obtain rfl:=Option.some.inj hr
   refine aE.mk rfl MM Q3 aG (az.drop ⟨Sub.refl _,rfl,_,rfl,?_⟩ SB)
   exact cB _ Q8
  refine CW.seq fun K14 hK14=>?_
  refine CW.region ?_
  refine RL.q (Y.eql rfl rfl) rfl ?_
  refine RL.q (Y.assign rfl) rfl ?_
  refine RL.nil ?_
  refine hK14 _ _ _ ?_
  refine CW.kp [4,5,6,70,79] rfl ?_
  refine CW.ite rfl (fun h6=>?_) (fun h6=>?_)
  ·refine CW.seq fun K15 hK15=>?_
   refine CW.region ?_
   refine RL.q (Y.bO rfl MM MM EL aG) rfl ?_
   refine RL.q (Y.bO rfl MM MM EL aG) rfl ?_
   refine RL.eD rfl func32 rfl rfl (by exact CD hnm (l[0]'Q0) (l[1]'Q0) _ _ Q0 KK KK) ?_
   refine RL.q (Y.eql rfl rfl) rfl ?_
   refine RL.eD rfl func31 rfl rfl (by exact cD _ _ _ _) ?_
   refine RL.aI _ rfl rfl RP Q3 Q5 Q6 aD ?_
   refine RL.nil ?_
   refine hK15 _ _ _ ?_
   refine CW.kp [4] rfl ?_
   refine CW.ret ?_
   rw [fS,if_neg h1,if_neg h5,if_pos h6] at hr
   obtain rfl:=Option.some.inj hr
   refine aE.mk rfl MM Q3 aG (az.drop ⟨Sub.refl _,rfl,_,rfl,?_⟩ SB)
   exact cB _ Q8
  refine CW.seq fun K16 hK16=>?_
  refine CW.region ?_
  refine RL.q (Y.eql rfl rfl) rfl ?_
  refine RL.q (Y.assign rfl) rfl ?_
  refine RL.nil ?_
  refine hK16 _ _ _ ?_
  refine CW.kp [4,5,6,70,86] rfl ?_
  refine CW.ite rfl (fun h7=>?_) (fun h7=>?_)
  ·refine CW.seq fun K17 hK17=>?_
   refine CW.region ?_
   refine RL.q (Y.field rfl bN) rfl ?_
   refine RL.q (Y.bl rfl MM MM Q3 cJ) rfl ?_
   refine RL.qs (Y.neq rfl rfl) rfl (fun g90=>?_) (fun g90=>?_)
   ·refine RL.q (Y.move rfl) rfl ?_
    refine RL.qg WG (Y.field rfl bN) rfl ?_
    refine RL.qg WG (Y.bl rfl MM MM Q3 cJ) rfl ?_
    refine RL.qg WG (Y.neq rfl rfl) rfl ?_
    refine RL.q (Y.fK rfl rfl) rfl ?_
    refine RL.eD rfl func31 rfl rfl (by exact cD _ _ _ _) ?_
    refine RL.aI _ rfl rfl RP Q3 Q5 Q6 aD ?_
    refine RL.nil ?_
    refine hK17 _ _ _ ?_
    refine CW.kp [4] rfl ?_
    refine CW.ret ?_
    rw [fS,if_neg h1,if_neg h5,if_neg h6,if_pos h7] at hr
    obtain rfl:=Option.some.inj hr
    refine aE.mk rfl MM Q3 aG (az.drop ⟨Sub.refl _,rfl,_,rfl,?_⟩ SB)
    exact cB _ Q8
   refine RL.q (Y.move rfl) rfl ?_
   refine RL.no WG rfl ?_
   refine RL.no WG rfl ?_
   refine RL.no WG rfl ?_
   refine RL.q (Y.fL rfl rfl) rfl ?_
   refine RL.eD rfl func31 rfl rfl (by exact cD _ _ _ _) ?_
   refine RL.aI _ rfl rfl RP Q3 Q5 Q6 aD ?_
   refine RL.nil ?_
   refine hK17 _ _ _ ?_
   refine CW.kp [4] rfl ?_
   refine CW.ret ?_
   rw [fS,if_neg h1,if_neg h5,if_neg h6,if_pos h7] at hr
   obtain rfl:=Option.some.inj hr
   refine aE.mk rfl MM Q3 aG (az.drop ⟨Sub.refl _,rfl,_,rfl,?_⟩ SB)
   exact cB _ Q8
  refine CW.seq fun K18 hK18=>?_
  refine CW.region ?_
  refine RL.q (Y.eql rfl rfl) rfl ?_
  refine RL.q (Y.assign rfl) rfl ?_
  refine RL.nil ?_
  refine hK18 _ _ _ ?_
  refine CW.kp [4,5,6,70,97] rfl ?_
  refine CW.ite rfl (fun h8=>?_) (fun h8=>?_)
  ·refine CW.seq fun K19 hK19=>?_
   refine CW.region ?_
   refine RL.q (Y.field rfl bN) rfl ?_
   refine RL.q (Y.bl rfl MM MM Q3 cJ) rfl ?_
   refine RL.qs (Y.neq rfl rfl) rfl (fun DN=>?_) (fun DN=>?_)
   ·refine RL.q (Y.move rfl) rfl ?_
    refine RL.no WG rfl ?_
    refine RL.no WG rfl ?_
    refine RL.no WG rfl ?_
    refine RL.q (Y.fK rfl rfl) rfl ?_
    refine RL.eD rfl func31 rfl rfl (by exact cD _ _ _ _) ?_
    refine RL.aI _ rfl rfl RP Q3 Q5 Q6 aD ?_
    refine RL.nil ?_
    refine hK19 _ _ _ ?_
    refine CW.kp [4] rfl ?_
    refine CW.ret ?_
    rw [fS,if_neg h1,if_neg h5,if_neg h6,if_neg h7,if_pos h8] at hr
    obtain rfl:=Option.some.inj hr
    refine aE.mk rfl MM Q3 aG (az.drop ⟨Sub.refl _,rfl,_,rfl,?_⟩ SB)
    exact cB _ Q8
   refine RL.q (Y.move rfl) rfl ?_
   refine RL.qg WG (Y.field rfl bN) rfl ?_
   refine RL.qg WG (Y.bl rfl MM MM Q3 cJ) rfl ?_
   refine RL.qg WG (Y.neq rfl rfl) rfl ?_
   refine RL.q (Y.fL rfl rfl) rfl ?_
   refine RL.eD rfl func31 rfl rfl (by exact cD _ _ _ _) ?_
   refine RL.aI _ rfl rfl RP Q3 Q5 Q6 aD ?_
   refine RL.nil ?_
   refine hK19 _ _ _ ?_
   refine CW.kp [4] rfl ?_
   refine CW.ret ?_
   rw [fS,if_neg h1,if_neg h5,if_neg h6,if_neg h7,if_pos h8] at hr
   obtain rfl:=Option.some.inj hr
   refine aE.mk rfl MM Q3 aG (az.drop ⟨Sub.refl _,rfl,_,rfl,?_⟩ SB)
   exact cB _ Q8
  refine CW.seq fun K20 hK20=>?_
  refine CW.region ?_
  refine RL.q (Y.eql rfl rfl) rfl ?_
  refine RL.q (Y.assign rfl) rfl ?_
  refine RL.nil ?_
  refine hK20 _ _ _ ?_
  refine CW.kp [4,5,6,108] rfl ?_
  refine CW.ite rfl (fun h9=>?_) (fun h9=>?_)
  ·refine CW.seq fun K21 hK21=>?_
   refine CW.region ?_
   refine RL.q (Y.field rfl di) rfl ?_
   refine RL.aP rfl rfl MM MM Q3 fB rfl fun a111 c111 hu111 hc111 hl111=>?_
   refine RL.q (Y.field rfl di) rfl ?_
   refine RL.aP rfl rfl MM MM Q3 fB rfl fun a113 c113 hu113 hc113 hl113=>?_
   refine RL.buildSlice [.slice a111 l[0].kids.length c111,.slice a113 l[1].kids.length c113] GD rfl Q1 (fill2 rfl rfl rfl rfl) rfl fun b114=>?_
   obtain ⟨js,hjs⟩ : ∃ js,js = l[0].kids++l[1].kids:=⟨_,rfl⟩
   have hjf : [l[0].kids,l[1].kids].flatten = js:=by simp [hjs]
   have hjl : js.length = l[0].kids.length+l[1].kids.length:=by rw [hjs,List.length_append]
   refine RL.call rfl func34 rfl rfl (by exact uA _ _ _ _ [.slice a111 l[0].kids.length c111,.slice a113 l[1].kids.length c113] [l[0].kids,l[1].kids] (gV.own MM) (RdL.cons (hur66.2 2 _ _ rfl hu111) (RdL.cons (hur69.2 2 _ _ rfl hu113) (RdL.nil _))) Q2 (by rw [hjf];omega)) ?_
   rintro v115 M _ ⟨a115,c115,vs,rfl,hc115,rfl,hvs,rfl⟩
   rw [hjf] at hc115 hvs ⊢
   refine RL.gz (u:=.slice a115 js.length c115) PK hvs (by unfold lim;omega) fun M3 a3 c3 hs3 e3 hc3 hr3=>?_
   injection e3 with e3a _ e3c
   subst e3a e3c
   refine RL.call rfl func33 rfl rfl (by exact qC 100000 _ _ _ js _ (fun v hv=>by rw [hjs] at hv;rcases List.mem_append.1 hv with h | h <;> (have:=Val.dF h;omega)) OM OM (by exact Kn.rd MM)) ?_
   rintro v116 M116 _ ⟨hs116,rfl,hr116⟩
   obtain ⟨a116,c116,rfl,hc116,hl116,_⟩:=hr116.slice
   refine RL.ga hr116 ?_
   refine RL.q (Y.build [_,_,_] rfl bk cy Q3) rfl ?_
   refine RL.aI _ rfl rfl RP Q3 Q5 Q6 aD ?_
   refine RL.nil ?_
   refine hK21 _ _ _ ?_
   refine CW.kp [4] rfl ?_
   refine CW.ret ?_
   rw [fS,if_neg h1,if_neg h5,if_neg h6,if_neg h7,if_neg h8,if_pos h9,<-hjs] at hr
   obtain rfl:=Option.some.inj hr
   exact aE.mk rfl MM Q3 aG (az.drop ⟨hs3.trans hs116,rfl,_,rfl,kA 4 0 js hr116⟩ SB)
  refine CW.skip ?_
  refine hK10 _ _ _ ?_
  refine CW.seq fun K22 hK22=>?_
  refine CW.region ?_
  refine RL.q (Y.build [_,_,_] rfl bk cy Q3) rfl ?_
  refine RL.aI _ rfl rfl RP Q3 Q5 Q6 aD ?_
  refine RL.nil ?_
  refine hK22 _ _ _ ?_
  refine CW.kp [4] rfl ?_
  refine CW.ret ?_
  rw [fS,if_neg h1,if_neg h5,if_neg h6,if_neg h7,if_neg h8,if_neg h9] at hr
  obtain rfl:=Option.some.inj hr
  refine aE.mk rfl MM Q3 aG (az.drop ⟨Sub.refl _,rfl,_,rfl,?_⟩ SB)
  exact fm 0 0
 refine RL.alloc _ bk rfl rfl fun b6=>?_
 refine RL.nil ⟨aT SB,?_⟩
 refine HL.step 6 rfl KR ?_
 refine RL.alloc _ bk rfl rfl fun b5=>?_
 refine RL.nil ⟨aT SB,?_⟩
 refine HL.step 8 rfl KR ?_
 refine RL.aF 3 rfl rfl RP MM EL Q7 aD ?_
 refine RL.nil ⟨aT SB,?_⟩
 refine HL.step 9 rfl KR ?_
 refine RL.aF 3 rfl rfl RP MM EL Q7 aD ?_
 refine RL.nil ⟨aT SB,?_⟩
 refine HL.done KR ?_
 refine hK9 _ _ _ ?_
 refine CW.kp [0,4,5,6] rfl ?_
 refine CW.seq fun K23 hK23=>?_
 refine CW.seq fun K24 hK24=>?_
 refine CW.region ?_
 refine RL.q (Y.move rfl) rfl ?_
 refine RL.nil ?_
 refine hK24 _ _ _ ?_
 refine CW.kp [4,5,6,70] rfl ?_
 refine CW.block ?_
 refine CW.seq fun K25 hK25=>?_
 refine CW.region ?_
 refine RL.q (Y.eql rfl rfl) rfl ?_
 refine RL.q (Y.assign rfl) rfl ?_
 refine RL.nil ?_
 refine hK25 _ _ _ ?_
 refine CW.kp [4,5,6,70,71] rfl ?_
 refine CW.ite rfl (fun h5=>?_) (fun h5=>?_)
 ·refine CW.seq fun K26 hK26=>?_
  refine CW.region ?_
  refine RL.q (Y.field rfl bN) rfl ?_
  refine RL.q (Y.bl rfl MM MM Q3 cJ) rfl ?_
  refine RL.q (Y.field rfl bN) rfl ?_
  refine RL.q (Y.bl rfl MM MM Q3 cJ) rfl ?_
  refine RL.q (Y.lss rfl rfl) rfl ?_
  refine RL.eD rfl func31 rfl rfl (by exact cD _ _ _ _) ?_
  refine RL.aI _ rfl rfl RP Q3 Q5 Q6 aD ?_
  refine RL.nil ?_
  refine hK26 _ _ _ ?_
  refine CW.kp [4] rfl ?_
  refine CW.ret ?_
  rw [fS,if_neg h1,if_pos h5] at hr
  obtain rfl:=Option.some.inj hr
  refine aE.mk rfl MM Q3 aG (az.drop ⟨Sub.refl _,rfl,_,rfl,?_⟩ SB)
  exact cB _ Q8
 refine CW.seq fun K27 hK27=>?_
 refine CW.region ?_
 refine RL.q (Y.eql rfl rfl) rfl ?_
 refine RL.q (Y.assign rfl) rfl ?_
 refine RL.nil ?_
 refine hK27 _ _ _ ?_
 refine CW.kp [4,5,6,70,79] rfl ?_
 refine CW.ite rfl (fun h6=>?_) (fun h6=>?_)
 ·refine CW.seq fun K28 hK28=>?_
  refine CW.region ?_
  refine RL.q (Y.bO rfl MM MM EL aG) rfl ?_
  refine RL.q (Y.bO rfl MM MM EL aG) rfl ?_
  refine RL.eD rfl func32 rfl rfl (by exact CD hnm (l[0]'Q0) (l[1]'Q0) _ _ Q0 KK KK) ?_
  refine RL.q (Y.eql rfl rfl) rfl ?_
  refine RL.eD rfl func31 rfl rfl (by exact cD _ _ _ _) ?_
  refine RL.aI _ rfl rfl RP Q3 Q5 Q6 aD ?_
  refine RL.nil ?_
  refine hK28 _ _ _ ?_
  refine CW.kp [4] rfl ?_
  refine CW.ret ?_
  rw [fS,if_neg h1,if_neg h5,if_pos h6] at hr
  obtain rfl:=Option.some.inj hr
  refine aE.mk rfl MM Q3 aG (az.drop ⟨Sub.refl _,rfl,_,rfl,?_⟩ SB)
  exact cB _ Q8
 refine CW.seq fun K29 hK29=>?_
 refine CW.region ?_
 refine RL.q (Y.eql rfl rfl) rfl ?_
 refine RL.q (Y.assign rfl) rfl ?_
 refine RL.nil ?_
 refine hK29 _ _ _ ?_
 refine CW.kp [4,5,6,70,86] rfl ?_
 refine CW.ite rfl (fun h7=>?_) (fun h7=>?_)
 ·refine CW.seq fun K30 hK30=>?_
  refine CW.region ?_
  refine RL.q (Y.field rfl bN) rfl ?_
  refine RL.q (Y.bl rfl MM MM Q3 cJ) rfl ?_
  refine RL.qs (Y.neq rfl rfl) rfl (fun g90=>?_) (fun g90=>?_)
  ·refine RL.q (Y.move rfl) rfl ?_
   refine RL.qg WG (Y.field rfl bN) rfl ?_
   refine RL.qg WG (Y.bl rfl MM MM Q3 cJ) rfl ?_
   refine RL.qg WG (Y.neq rfl rfl) rfl ?_
   refine RL.q (Y.fK rfl rfl) rfl ?_
   refine RL.eD rfl func31 rfl rfl (by exact cD _ _ _ _) ?_
   refine RL.aI _ rfl rfl RP Q3 Q5 Q6 aD ?_
   refine RL.nil ?_
   refine hK30 _ _ _ ?_
   refine CW.kp [4] rfl ?_
   refine CW.ret ?_
   rw [fS,if_neg h1,if_neg h5,if_neg h6,if_pos h7] at hr
   obtain rfl:=Option.some.inj hr
   refine aE.mk rfl MM Q3 aG (az.drop ⟨Sub.refl _,rfl,_,rfl,?_⟩ SB)
   exact cB _ Q8
  refine RL.q (Y.move rfl) rfl ?_
  refine RL.no WG rfl ?_
  refine RL.no WG rfl ?_
  refine RL.no WG rfl ?_
  refine RL.q (Y.fL rfl rfl) rfl ?_
  refine RL.eD rfl func31 rfl rfl (by exact cD _ _ _ _) ?_
  refine RL.aI _ rfl rfl RP Q3 Q5 Q6 aD ?_
  refine RL.nil ?_
  refine hK30 _ _ _ ?_
  refine CW.kp [4] rfl ?_
  refine CW.ret ?_
  rw [fS,if_neg h1,if_neg h5,if_neg h6,if_pos h7] at hr
  obtain rfl:=Option.some.inj hr
  refine aE.mk rfl MM Q3 aG (az.drop ⟨Sub.refl _,rfl,_,rfl,?_⟩ SB)
  exact cB _ Q8
 refine CW.seq fun K31 hK31=>?_
 refine CW.region ?_
 refine RL.q (Y.eql rfl rfl) rfl ?_
 refine RL.q (Y.assign rfl) rfl ?_
 refine RL.nil ?_
 refine hK31 _ _ _ ?_
 refine CW.kp [4,5,6,70,97] rfl ?_
 refine CW.ite rfl (fun h8=>?_) (fun h8=>?_)
 ·refine CW.seq fun K32 hK32=>?_
  refine CW.region ?_
  refine RL.q (Y.field rfl bN) rfl ?_
  refine RL.q (Y.bl rfl MM MM Q3 cJ) rfl ?_
  refine RL.qs (Y.neq rfl rfl) rfl (fun DN=>?_) (fun DN=>?_)
  ·refine RL.q (Y.move rfl) rfl ?_
   refine RL.no WG rfl ?_
   refine RL.no WG rfl ?_
   refine RL.no WG rfl ?_
   refine RL.q (Y.fK rfl rfl) rfl ?_
   refine RL.eD rfl func31 rfl rfl (by exact cD _ _ _ _) ?_
   refine RL.aI _ rfl rfl RP Q3 Q5 Q6 aD ?_
   refine RL.nil ?_
   refine hK32 _ _ _ ?_
   refine CW.kp [4] rfl ?_
   refine CW.ret ?_
   rw [fS,if_neg h1,if_neg h5,if_neg h6,if_neg h7,if_pos h8] at hr
   obtain rfl:=Option.some.inj hr
   refine aE.mk rfl MM Q3 aG (az.drop ⟨Sub.refl _,rfl,_,rfl,?_⟩ SB)
   exact cB _ Q8
  refine RL.q (Y.move rfl) rfl ?_
  refine RL.qg WG (Y.field rfl bN) rfl ?_
  refine RL.qg WG (Y.bl rfl MM MM Q3 cJ) rfl ?_
  refine RL.qg WG (Y.neq rfl rfl) rfl ?_
  refine RL.q (Y.fL rfl rfl) rfl ?_
  refine RL.eD rfl func31 rfl rfl (by exact cD _ _ _ _) ?_
  refine RL.aI _ rfl rfl RP Q3 Q5 Q6 aD ?_
  refine RL.nil ?_
  refine hK32 _ _ _ ?_
  refine CW.kp [4] rfl ?_
  refine CW.ret ?_
  rw [fS,if_neg h1,if_neg h5,if_neg h6,if_neg h7,if_pos h8] at hr
  obtain rfl:=Option.some.inj hr
  refine aE.mk rfl MM Q3 aG (az.drop ⟨Sub.refl _,rfl,_,rfl,?_⟩ SB)
  exact cB _ Q8
 refine CW.seq fun K33 hK33=>?_
 refine CW.region ?_
 refine RL.q (Y.eql rfl rfl) rfl ?_
 refine RL.q (Y.assign rfl) rfl ?_
 refine RL.nil ?_
 refine hK33 _ _ _ ?_
 refine CW.kp [4,5,6,108] rfl ?_
 refine CW.ite rfl (fun h9=>?_) (fun h9=>?_)
 ·refine CW.seq fun K34 hK34=>?_
  refine CW.region ?_
  refine RL.q (Y.field rfl di) rfl ?_
  refine RL.aP rfl rfl MM MM Q3 fB rfl fun a111 c111 hu111 hc111 hl111=>?_
  refine RL.q (Y.field rfl di) rfl ?_
  refine RL.aP rfl rfl MM MM Q3 fB rfl fun a113 c113 hu113 hc113 hl113=>?_
  refine RL.buildSlice [.slice a111 l[0].kids.length c111,.slice a113 l[1].kids.length c113] GD rfl Q1 (fill2 rfl rfl rfl rfl) rfl fun b114=>?_
  obtain ⟨js,hjs⟩ : ∃ js,js = l[0].kids++l[1].kids:=⟨_,rfl⟩
  have hjf : [l[0].kids,l[1].kids].flatten = js:=by simp [hjs]
  have hjl : js.length = l[0].kids.length+l[1].kids.length:=by rw [hjs,List.length_append]
  refine RL.call rfl func34 rfl rfl (by exact uA _ _ _ _ [.slice a111 l[0].kids.length c111,.slice a113 l[1].kids.length c113] [l[0].kids,l[1].kids] (gV.own MM) (RdL.cons (hur66.2 2 _ _ rfl hu111) (RdL.cons (hur69.2 2 _ _ rfl hu113) (RdL.nil _))) Q2 (by rw [hjf];omega)) ?_
  rintro v115 M _ ⟨a115,c115,vs,rfl,hc115,rfl,hvs,rfl⟩
  rw [hjf] at hc115 hvs ⊢
  refine RL.gz (u:=.slice a115 js.length c115) PK hvs (by unfold lim;omega) fun M3 a3 c3 hs3 e3 hc3 hr3=>?_
  injection e3 with e3a _ e3c
  subst e3a e3c
  refine RL.call rfl func33 rfl rfl (by exact qC 100000 _ _ _ js _ (fun v hv=>by rw [hjs] at hv;rcases List.mem_append.1 hv with h | h <;> (have:=Val.dF h;omega)) OM OM (by exact Kn.rd MM)) ?_
  rintro v116 M116 _ ⟨hs116,rfl,hr116⟩
  obtain ⟨a116,c116,rfl,hc116,hl116,_⟩:=hr116.slice
  refine RL.ga hr116 ?_
  refine RL.q (Y.build [_,_,_] rfl bk cy Q3) rfl ?_
  refine RL.aI _ rfl rfl RP Q3 Q5 Q6 aD ?_
  refine RL.nil ?_
  refine hK34 _ _ _ ?_
  refine CW.kp [4] rfl ?_
  refine CW.ret ?_
  rw [fS,if_neg h1,if_neg h5,if_neg h6,if_neg h7,if_neg h8,if_pos h9,<-hjs] at hr
  obtain rfl:=Option.some.inj hr
  exact aE.mk rfl MM Q3 aG (az.drop ⟨hs3.trans hs116,rfl,_,rfl,kA 4 0 js hr116⟩ SB)
 refine CW.skip ?_
 refine hK23 _ _ _ ?_
 refine CW.seq fun K35 hK35=>?_
 refine CW.region ?_
 refine RL.q (Y.build [_,_,_] rfl bk cy Q3) rfl ?_
 refine RL.aI _ rfl rfl RP Q3 Q5 Q6 aD ?_
 refine RL.nil ?_
 refine hK35 _ _ _ ?_
 refine CW.kp [4] rfl ?_
 refine CW.ret ?_
 rw [fS,if_neg h1,if_neg h5,if_neg h6,if_neg h7,if_neg h8,if_neg h9] at hr
 obtain rfl:=Option.some.inj hr
 refine aE.mk rfl MM Q3 aG (az.drop ⟨Sub.refl _,rfl,_,rfl,?_⟩ SB)
 exact fm 0 0

theorem opV_two {n : Int} {l : List Val} {r : Val} (h : l.length = 2) (hr : opV n l = some r) : fS n (l[0]'OM) (l[1]'OM) = some r:=by
 match l,h with
 | [x,y],_=>exact hr
theorem opV_one {n : Int} {l : List Val} {r : Val} (h : l.length = 1) (hr : opV n l = some r) : (n = 9\/n = 11)/\Dt n (l[0]'OM) = r:=by
 match l,h with
 | [x],_ =>
   rw [opV] at hr
   split at hr
   · exact ⟨by assumption,Option.some.inj hr⟩
   · cases hr
theorem opV_len {n : Int} {l : List Val} {r : Val} (hr : opV n l = some r) : l.length = 1\/l.length = 2:=by
 match l with
 | []=>cases hr
 | [x]=>exact .inl rfl
 | [x,y]=>exact .inr rfl
 | _::_::_::_=>cases hr
theorem op1_ok (w0 : World) (M : Mem) (Γ : List As) (n : Int) (l : List Val) (ul : Value)  (hl : Kn w0 M Γ (Rd M (.sl l.length 3 (l.flatMap Val.enc)) ul)) (hl1 : l.length = 1) (hn9 : n = 9\/n = 11) :
   aC Tryd.prog w0 M Γ 12 #[av n,ul] (pZ M Γ fun M' v=>∃ us,v = .agg us.toArray/\RdL M' (Dt n (l[0]'OM)).enc us):=by
 refine aC.kn hl fun hl=>?_
 obtain ⟨al,cl,rfl,hcl,hliml,hlenl⟩:=hl.slice
 refine mY (f:=12) Tryd.func12 rfl Tryd.ntmps12 rfl rfl fun w1 hw1=>?_
 refine CW.ga hl ?_
 refine CW.seq fun K1 hK1=>?_
 refine CW.region ?_
 refine RL.alloc _ bk rfl rfl fun b4=>?_
 refine RL.nil ?_
 refine hK1 _ _ _ ?_
 refine CW.kp [0,1,4] rfl ?_
 refine CW.seq fun K2 hK2=>?_
 refine CW.seq fun K3 hK3=>?_
 refine CW.jK 17 (.bool (decide (l.length = 2/\0<=n/\n < 5))) ?_ ?_
 ·refine RL.q (Y.move rfl) rfl ?_
  refine RL.qs (Y.geq rfl rfl) rfl (fun g8=>?_) (fun g8=>?_)
  ·refine RL.q (Y.move rfl) rfl ?_
   refine RL.qg WG (Y.move rfl) rfl ?_
   refine RL.qgs WG (Y.lss rfl rfl) rfl (fun g11=>?_) (fun g11=>?_)
   ·refine RL.q (Y.fK rfl rfl) rfl ?_
    refine RL.q (Y.move rfl) rfl ?_
    refine RL.qg WG (Y.move rfl) rfl ?_
    refine RL.qg WG (Y.len rfl Tryd.underlying24) rfl ?_
    refine RL.qg WG (Y.eql rfl rfl) rfl ?_
    refine RL.q (Y.fK rfl rfl) rfl ?_
    refine RL.nil ?_
    exact ⟨gl rfl (fY Q9),(by repeat (first | exact cq.nil _ | refine cq.cons _ rfl ?_)),fun _ hw=>hw.sub SB⟩
   refine RL.q (Y.fK rfl rfl) rfl ?_
   refine RL.q (Y.move rfl) rfl ?_
   refine RL.no WG rfl ?_
   refine RL.no WG rfl ?_
   refine RL.no WG rfl ?_
   refine RL.q (Y.fL rfl rfl) rfl ?_
   refine RL.nil ?_
   exact ⟨gl rfl (fY Q9),(by repeat (first | exact cq.nil _ | refine cq.cons _ rfl ?_)),fun _ hw=>hw.sub SB⟩
  refine RL.q (Y.move rfl) rfl ?_
  refine RL.no WG rfl ?_
  refine RL.no WG rfl ?_
  refine RL.q (Y.fL rfl rfl) rfl ?_
  refine RL.q (Y.move rfl) rfl ?_
  refine RL.no WG rfl ?_
  refine RL.no WG rfl ?_
  refine RL.no WG rfl ?_
  refine RL.q (Y.fL rfl rfl) rfl ?_
  refine RL.nil ?_
  exact ⟨gl rfl (fY Q9),(by repeat (first | exact cq.nil _ | refine cq.cons _ rfl ?_)),fun _ hw=>hw.sub SB⟩
 refine hK3 _ _ _ ?_
 refine CW.ite rfl (fun h1=>absurd h1 OM) (fun h1=>?_)
 refine CW.skip ?_
 refine hK2 _ _ _ ?_
 refine CW.seq fun K4 hK4=>?_
 refine CW.block ?_
 refine CW.seq fun K5 hK5=>?_
 refine CW.jK 31 (.bool (decide (n = 9))) ?_ ?_
 ·refine RL.q (Y.move rfl) rfl ?_
  refine RL.qs (Y.eql rfl rfl) rfl (fun g33=>?_) (fun g33=>?_)
  ·refine RL.q (Y.move rfl) rfl ?_
   refine RL.qg WG (Y.move rfl) rfl ?_
   refine RL.qg WG (Y.len rfl Tryd.underlying24) rfl ?_
   refine RL.qg WG (Y.eql rfl rfl) rfl ?_
   refine RL.q (Y.fK rfl rfl) rfl ?_
   refine RL.q (Y.assign rfl) rfl ?_
   refine RL.nil ?_
   exact ⟨gl rfl (fY Q9),(by repeat (first | exact cq.nil _ | refine cq.cons _ rfl ?_)),fun _ hw=>hw.sub SB⟩
  refine RL.q (Y.move rfl) rfl ?_
  refine RL.no WG rfl ?_
  refine RL.no WG rfl ?_
  refine RL.no WG rfl ?_
  refine RL.q (Y.fL rfl rfl) rfl ?_
  refine RL.q (Y.assign rfl) rfl ?_
  refine RL.nil ?_
  exact ⟨gl rfl (fY Q9),(by repeat (first | exact cq.nil _ | refine cq.cons _ rfl ?_)),fun _ hw=>hw.sub SB⟩
 refine hK5 _ _ _ ?_
 refine CW.ite rfl (fun h2=>?_) (fun h2=>?_)
 ·refine CW.seq fun K6 hK6=>?_
  refine CW.region ?_
  refine RL.q (Y.move rfl) rfl ?_
  refine RL.q (Y.index 0 rfl rfl rfl AO eB SM) rfl ?_
  refine RL.q (Y.field rfl bN) rfl ?_
  refine RL.q (Y.AS rfl MM (pH Val.aq _ _ _ (List.getElem?_eq_getElem AO) _ _ (by rw [Val.ay] <;> rfl)) cJ) rfl ?_
  refine RL.q (Y.eql rfl rfl) rfl ?_
  refine RL.eD rfl func31 rfl rfl (by exact cD _ _ _ _) ?_
  refine RL.aI _ rfl rfl RP Q3 Q5 Q6 aD ?_
  refine RL.nil ?_
  refine hK6 _ _ _ ?_
  refine CW.kp [4] rfl ?_
  refine CW.ret ?_
  rw [Dt,if_pos h2]
  refine aE.mk rfl MM Q3 aG (az.drop ⟨Sub.refl _,rfl,_,rfl,?_⟩ SB)
  exact cB _ Q8
 refine CW.seq fun K7 hK7=>?_
 refine CW.jK 45 (.bool (decide (n = 11))) ?_ ?_
 ·refine RL.q (Y.move rfl) rfl ?_
  refine RL.qs (Y.eql rfl rfl) rfl (fun g47=>?_) (fun g47=>?_)
  ·refine RL.q (Y.move rfl) rfl ?_
   refine RL.qg WG (Y.move rfl) rfl ?_
   refine RL.qg WG (Y.len rfl Tryd.underlying24) rfl ?_
   refine RL.qg WG (Y.eql rfl rfl) rfl ?_
   refine RL.q (Y.fK rfl rfl) rfl ?_
   refine RL.q (Y.assign rfl) rfl ?_
   refine RL.nil ?_
   exact ⟨gl rfl (fY Q9),(by repeat (first | exact cq.nil _ | refine cq.cons _ rfl ?_)),fun _ hw=>hw.sub SB⟩
  refine RL.q (Y.move rfl) rfl ?_
  refine RL.no WG rfl ?_
  refine RL.no WG rfl ?_
  refine RL.no WG rfl ?_
  refine RL.q (Y.fL rfl rfl) rfl ?_
  refine RL.q (Y.assign rfl) rfl ?_
  refine RL.nil ?_
  exact ⟨gl rfl (fY Q9),(by repeat (first | exact cq.nil _ | refine cq.cons _ rfl ?_)),fun _ hw=>hw.sub SB⟩
 refine hK7 _ _ _ ?_
 refine CW.ite rfl (fun h3=>?_) (fun h3=>absurd OM h3)
 refine CW.seq fun K8 hK8=>?_
 refine CW.region ?_
 refine RL.q (Y.move rfl) rfl ?_
 refine RL.q (Y.index 0 rfl rfl rfl AO eB SM) rfl ?_
 refine RL.q (Y.field rfl di) rfl ?_
 refine RL.loadSl rfl rfl MM (pH Val.aq _ _ _ (List.getElem?_eq_getElem AO) _ _ (by rw [Val.ay] <;> rfl)) fB rfl fun a56 c56 hc56 hl56=>?_
 refine RL.q (Y.len rfl Tryd.underlying24) rfl ?_
 refine RL.q (Y.build [_,_,_] rfl bk cy Q3) rfl ?_
 refine RL.aI _ rfl rfl RP Q3 Q5 Q6 aD ?_
 refine RL.nil ?_
 refine hK8 _ _ _ ?_
 refine CW.kp [4] rfl ?_
 refine CW.ret ?_
 rw [Dt,if_neg h2,if_pos h3]
 refine aE.mk rfl MM Q3 aG (az.drop ⟨Sub.refl _,rfl,_,rfl,?_⟩ SB)
 exact fm _ _

theorem B5 (w0 : World) (M : Mem) (Γ : List As) (n : Int) (l : List Val) (ul : Value) (r : Val) (hl : Kn w0 M Γ (Rd M (.sl l.length 3 (l.flatMap Val.enc)) ul)) (hnm : hO M) (hsm : ∀ v∈l,v.size<=100000) (hr : opV n l = some r) :
   aC Tryd.prog w0 M Γ 12 #[av n,ul] (pZ M Γ fun M' v=>∃ us,v = .agg us.toArray/\RdL M' r.enc us):=by
 rcases opV_len hr with h | h
 · obtain ⟨h9,rfl⟩:=opV_one h hr
   exact op1_ok w0 M Γ n l ul hl h h9
 · exact op2_ok w0 M Γ n l ul r hl hnm h (hsm _ (List.getElem_mem _)) (hsm _ (List.getElem_mem _)) (opV_two h hr)

theorem Af {w0 : World} {L : Lm} {M : Mem} {Γ : List As} {d : Option Nat} {ty : TypeId} {pos : String} {af : Array Edge} {g : Option (Nat×Bool)} {x y : Operand} {i j : IdT} {n m : Int} (hx : evL L x = some (.agg (i.vals++[av n]).toArray)) (hy : evL L y = some (.agg (j.vals++[av m]).toArray)) :
   Yq Tryd.prog w0 L M Γ ⟨d,.binOp .eql 144 x y 144,ty,pos,af,g⟩ (.bool (decide (i = j/\n = m))):=fun k ac w ha _=>by
 obtain ⟨a,b,c⟩:=i
 obtain ⟨a',b',c'⟩:=j
 simp only [execOp,ha.ev hx,ha.ev hy,IdT.vals]
 simp [go_sem,run_eql_struct,run_eqGuard_agg]
 by_cases h1 : a = a' <;> by_cases h2 : b = b' <;> by_cases h3 : c = c' <;> by_cases h4 : n = m <;> simp [h1,h2,h3,h4]

theorem oJ (w0 : World) (M : Mem) (Γ : List As) (env : Env) (sp : Value) (id : IdT) (n : Int) (v : Val) (usv : List Value) (hs : ScopeM M env sp) (hv : Kn w0 M Γ (RdL M v.enc usv)) :
   aC Tryd.prog w0 M Γ 91 #[sp,.agg id.vals.toArray,av n,.agg usv.toArray] (pZ M Γ fun M' u=>ScopeM M' ((id,n,v)::env) u):=by
 refine aC.kn hv fun hv=>?_
 obtain ⟨uk,rfl,hk⟩:=Val.open hv
 obtain ⟨p,rfl,_⟩:=hs.ptr
 refine enter (f:=91) Tryd.func91 rfl Tryd.ntmps91 rfl rfl fun w1 hw1=>?_
 refine CW.seq fun K1 hK1=>?_
 refine CW.region ?_
 refine RL.box _ rfl rfl rfl fun b5=>?_
 refine RL.box _ rfl rfl rfl fun b7=>?_
 refine RL.q (Y.assign rfl) rfl ?_
 refine RL.nil ?_
 refine hK1 _ _ _ ?_
 refine CW.kp [0,2,5,7] rfl ?_
 refine CW.seq fun K2 hK2=>?_
 refine CW.region ?_
 refine RL.q (Y.gA rfl MM Q3 ld) rfl ?_
 refine RL.q (Y.move rfl) rfl ?_
 refine RL.q (Y.build (id.vals++[av n]) rfl Bw vL Q3) rfl ?_
 refine RL.q (Y.gA rfl MM Q3 aG) rfl ?_
 refine RL.q (Y.move rfl) rfl ?_
 refine RL.q (Y.build (id.vals++[av n]++[av v.kind,av v.n,uk]++[.pointer p]) rfl zero146 Dj Q3) rfl ?_
 refine RL.box (id.vals++[av n]++[av v.kind,av v.n,uk]++[.pointer p]) rfl rfl rfl fun b15=>?_
 refine RL.q (Y.assign rfl) rfl ?_
 refine RL.nil ?_
 refine hK2 _ _ _ ?_
 refine CW.kp [8] rfl ?_
 refine CW.ret ?_
 refine ⟨_,rfl,az.C7 (b:=b15) PK fun M2 hs2 hb2=>az.drop ⟨hs2,rfl,b15,[av v.kind,av v.n,uk],.pointer p,rfl,hb2,hv.mono hs2,hs.mono hs2⟩ SB⟩

theorem pre_get {vs ws zs : List Value} {j : Nat} {v : Value} (h : vs[j]? = some v) : (vs++ws++zs)[0+j]? = some v:=by
 have hl : j < vs.length:=by
   rcases Nat.lt_or_ge j vs.length with h1 | h1
   · exact h1
   · rw [List.getElem?_eq_none h1] at h;cases h
 rw [Nat.zero_add,List.append_assoc,List.getElem?_append_left hl]
 exact h
theorem mid_get {id : IdT} {n : Int} {us zs : List Value} {j : Nat} {v : Value} (h : us[j]? = some v) : (id.vals++[av n]++us++zs)[4+j]? = some v:=by
 have hl : j < us.length:=by
   rcases Nat.lt_or_ge j us.length with h1 | h1
   · exact h1
   · rw [List.getElem?_eq_none h1] at h;cases h
 have e : (id.vals++[av n]).length = 4:=rfl
 rw [List.append_assoc,List.getElem?_append_right OM,e,show 4+j - 4 = j from by omega,List.getElem?_append_left hl]
 exact h
theorem end_get {id : IdT} {n : Int} {us : List Value} {v : Value} (h : us.length = 3) : (id.vals++[av n]++us++[v])[0+7]? = some v:=by
 have e : (id.vals++[av n]++us).length = 7:=by rw [List.length_append,h];rfl
 rw [List.getElem?_append_right OM,e]
 rfl
theorem ptr133 : Tryd.prog.underlying 133 = some (.pointer (Tryd.prog.pointee 133)):=by kernel_rfl
theorem zF {id : IdT} {n : Int} : cE [] id n = v0:=rfl
theorem zG {x : IdT×Int×Val} {env : Env} {id : IdT} {n : Int} (h : x.1 = id/\x.2.1 = n) : cE (x::env) id n = x.2.2:=by
 simp [cE,List.find?,h]
theorem xX {x : IdT×Int×Val} {env : Env} {id : IdT} {n : Int} (h : ¬ (x.1 = id/\x.2.1 = n)) : cE (x::env) id n = cE env id n:=by
 simp [cE,List.find?,h]

theorem find_ok (w0 : World) (M : Mem) (Γ : List As) (env : Env) (sp : Value) (id : IdT) (n : Int) (hs : ScopeM M env sp) :
   aC Tryd.prog w0 M Γ 111 #[sp,.agg (id.vals++[av n]).toArray] (Has M Γ fun v=>∃ us,v = .agg us.toArray/\RdL M (cE env id n).enc us):=by
 obtain ⟨p0,rfl,hp0⟩:=hs.ptr
 refine mY (f:=111) Tryd.func111 rfl Tryd.ntmps111 rfl rfl fun w1 hw1=>?_
 refine CW.seq fun K1 hK1=>?_
 refine CW.region ?_
 refine RL.box (id.vals++[av n]) rfl rfl rfl fun b3=>?_
 refine RL.alloc _ bk rfl rfl fun b4=>?_
 refine RL.nil ?_
 refine hK1 _ _ _ ?_
 refine CW.kp [0,3,4] rfl ?_
 refine CW.seq fun K2 hK2=>?_
 refine CW.block ?_
 -- LOOP 1: live [0,3,4] changed [0]
 refine CW.kp [0,3,4] rfl ?_
 refine CW.o5 (fun m Lc M1 Γc=>∃ (e2 : Env) (p : Option Addr),m = e2.length/\Lc = [(0,.pointer p)]/\Γc = []/\M1 = M/\ScopeM M e2 (.pointer p)/\(p = none↔e2 = [])/\cE env id n = cE e2 id n) env.length [(0,_)] [] rfl rfl ⟨env,p0,rfl,rfl,rfl,rfl,hs,hp0,rfl⟩ ?_
 rintro m Lc M Γc hs2 ⟨e2,p,rfl,rfl,rfl,rfl,hsc,hpe,hfe⟩
 refine CW.seq fun K3 hK3=>?_
 refine CW.seq fun K4 hK4=>?_
 refine CW.region ?_
 refine RL.q (Y.move rfl) rfl ?_
 refine RL.q (Y.nePtr ptr133 rfl rfl) rfl ?_
 refine RL.nil ?_
 refine hK4 _ _ _ ?_
 refine CW.kp [0,3,4,6] rfl ?_
 refine CW.ite rfl (fun h1=>?_) (fun h1=>?_)
 ·obtain ⟨x,e3,rfl⟩ : ∃ x e3,e2 = x::e3:=by
    cases e2 with
    | nil=>exact absurd (hpe.2 rfl) h1
    | cons x e3=>exact ⟨x,e3,rfl⟩
  obtain ⟨b,us,up,hpb,hM,hr,hrest⟩:=hsc
  injection hpb with hpb
  subst hpb
  obtain ⟨p3,rfl,hp3⟩:=hrest.ptr
  have hul : us.length = 3:=hr.1.trans (Val.aq _)
  refine CW.aZ hr ?_
  refine CW.skip ?_
  refine hK3 _ _ _ ?_
  refine CW.seq fun K5 hK5=>?_
  refine CW.block ?_
  refine CW.seq fun K6 hK6=>?_
  refine CW.ki mix _ _ (fun _ hw=>hw) ?_
  refine HL.take 0 rfl KR KR KR rfl (Y.move rfl) rfl ?_
  refine HL.take 4 rfl KR KR KR rfl (Y.gA rfl MM Q3 Hi) rfl ?_
  refine HL.step 1 rfl KR ?_
  refine RL.q (Y.nilCheck rfl) rfl ?_
  refine RL.nil ⟨aT SB,?_⟩
  refine HL.take 2 rfl KR KR KR rfl (Y.field rfl Bb) rfl ?_
  refine HL.take 3 rfl KR KR KR rfl (Y.zf (x.1.vals++[av x.2.1]) rfl hM (fun _ _ hj=>pre_get hj) Hi) rfl ?_
  refine HL.take 5 rfl KR KR KR rfl (Af rfl rfl) rfl ?_
  refine HL.done KR ?_
  refine hK6 _ _ _ ?_
  refine CW.kp [0,3,4,16] rfl ?_
  refine CW.ite rfl (fun h2=>?_) (fun h2=>?_)
  ·refine CW.seq fun K7 hK7=>?_
   refine CW.region ?_
   refine RL.q (Y.move rfl) rfl ?_
   refine RL.q (Y.nilCheck rfl) rfl ?_
   refine RL.q (Y.field rfl Ba) rfl ?_
   refine RL.q (Y.zf us rfl hM (fun _ _ hj=>mid_get hj) (by rw [hul];exact aG)) rfl ?_
   refine RL.aF 3 rfl rfl RP MM EL Q7 aD ?_
   refine RL.nil ?_
   refine hK7 _ _ _ ?_
   refine CW.kp [4] rfl ?_
   refine CW.ret ?_
   refine aE.mk rfl MM (by first | rfl | assumption) aG (az.drop ⟨rfl,rfl,us,rfl,?_⟩ SB)
   rw [hfe,zG h2]
   exact hr
  refine CW.skip ?_
  refine hK5 _ _ _ ?_
  refine CW.region ?_
  refine RL.q (Y.move rfl) rfl ?_
  refine RL.q (Y.nilCheck rfl) rfl ?_
  refine RL.q (Y.field rfl A9) rfl ?_
  refine RL.q (Y.loadB rfl hM (end_get hul) flat133) rfl ?_
  refine RL.q (Y.assign rfl) rfl ?_
  refine RL.nil ?_
  refine ⟨e3.length,[(0,_)],?_,(KP [0,3,4]),?_⟩
  · simp
  · exact az.drop ⟨[],rfl,hs2,e3,p3,rfl,rfl,rfl,rfl,hrest,hp3,by rw [hfe,xX h2]⟩ SB
 obtain rfl : e2 = []:=hpe.1 (Decidable.not_not.1 h1)
 refine CW.exit ?_
 refine hK2 _ _ _ ?_
 refine CW.seq fun K8 hK8=>?_
 refine CW.region ?_
 refine RL.q (Y.build [_,_,_] rfl bk cy Q3) rfl ?_
 refine RL.aI _ rfl rfl RP Q3 Q5 Q6 aD ?_
 refine RL.nil ?_
 refine hK8 _ _ _ ?_
 refine CW.kp [4] rfl ?_
 refine CW.ret ?_
 refine aE.mk rfl MM Q3 aG (az.drop ⟨rfl,rfl,_,rfl,?_⟩ SB)
 rw [hfe,zF]
 exact fm 0 0

theorem oz : Tryd.prog.concrete 60 = true:=by kernel_rfl
def Ho (p : ProgT) (F : Int) (br : Nat) (um ud : Value) (g : Nat) : Prop :=
 ∀ (w0 : World) (M : Mem) (Γ : List As) (e : Ex) (use : List Value) (env : Env) (sp : Value) (s : Int),EvHyp M p um ud F s env sp->Kn w0 M (cj br um ud F s::Γ) (RdL M e.enc use)->bT p (aK p F g) e env s ≠ .bad ->
   bn Tryd.prog w0 M (cj br um ud F s::Γ) 102 #[cN br,.agg use.toArray,sp] (mG M Γ br um ud F (bT p (aK p F g) e env s)) (jw M Γ br um ud F (bT p (aK p F g) e env s))

theorem wB {p : ProgT} {F : Int} {br : Nat} {um ud : Value} (g : Nat) (ihv : ∀ g',g = g'+1->Ho p F br um ud g') : fG Tryd.prog p F br um ud g:=by
 intro w0 M Γ e use env sp s hE he hb
 refine bn.kn he fun he=>?_
 have hs0:=hE.s0
 have hsF:=hE.sF
 have hF1:=hE.F1
 refine gx (f:=74) Tryd.func74 rfl Tryd.ntmps74 rfl rfl fun w1 hw1=>?_
 rw [Ex.ay] at he
 refine CW.aZ he ?_
 refine CW.seq fun K1 hK1=>?_
 refine CW.region ?_
 refine RL.box _ rfl rfl rfl fun b4=>?_
 refine RL.alloc _ bk rfl rfl fun b6=>?_
 refine RL.nil ?_
 refine hK1 _ _ _ ?_
 refine CW.kp [0,2,4,6] rfl ?_
 refine CW.seq fun K2 hK2=>?_
 refine CW.seq fun K3 hK3=>?_
 refine CW.BY mix KR ?_
 refine QL.q (Y.move rfl) rfl ?_
 refine QL.q (Y.nilCheck rfl) rfl ?_
 refine QL.q (Y.field rfl kP) rfl ?_
 refine QL.q (Y.jo rfl MM Q3 cJ) rfl ?_
 refine QL.q (Y.move rfl) rfl ?_
 refine QL.q (Y.nilCheck rfl) rfl ?_
 refine QL.q (Y.field rfl Bc) rfl ?_
 refine QL.q (Y.jo rfl MM Q3 cJ) rfl ?_
 refine QL.q (Y.geq rfl rfl) rfl ?_
 refine QL.nil ?_
 refine hK3 _ _ _ ?_
 refine CW.kp [0,2,4,6,16] rfl ?_
 refine CW.ite rfl (fun h1=>?_) (fun h1=>?_)
 ·refine CW.eT ?_
  refine RX.step ?_
  refine RL.q (Y.iface oz rfl) rfl ?_
  refine RL.nil ?_
  refine RX.panic rfl ?_
  exact az.drop ⟨18,s,iX h1,rfl,Sub.refl _,rfl⟩ SB
 obtain ⟨g',rfl,hev⟩:=Bg h1 hb
 rw [hev] at hb
 have hvb:=EO.pU hb
 refine CW.skip ?_
 refine hK2 _ _ _ ?_
 refine CW.seq fun K4 hK4=>?_
 refine CW.region ?_
 refine RL.q (Y.move rfl) rfl ?_
 refine RL.q (Y.nilCheck rfl) rfl ?_
 refine RL.q (Y.field rfl kP) rfl ?_
 refine RL.q (Y.jo rfl MM Q3 cJ) rfl ?_
 refine RL.q (Y.add rfl rfl OM) rfl ?_
 refine RL.q (Y.nilCheck rfl) rfl ?_
 refine RL.q (Y.field rfl kP) rfl ?_
 refine RL.store _ rfl rfl RP Q3 Q2 Q3 qT ?_
 refine RL.nil ?_
 refine hK4 _ _ _ ?_
 refine CW.kp [0,2,4,6] rfl ?_
 refine CW.seq fun K5 hK5=>?_
 refine CW.eT ?_
 refine RX.step ?_
 refine RL.q (Y.move rfl) rfl ?_
 refine RL.nil ?_
 refine RX.step ?_
 refine RL.q (Y.bO rfl MM MM EL jY) rfl ?_
 refine RL.nil ?_
 refine RX.step ?_
 refine RL.q (Y.move rfl) rfl ?_
 refine RL.nil ?_
 refine RX.call rfl func102 rfl rfl (by exact bn.pick (x:=.own br 131 [um,ud,av F,av (s+1)]) PK (ihv g' rfl _ _ _ e _ env sp (s+1) (hE.next (Sub.refl _) OM OM) KK hvb)) ?_ (by rintro ch Mp _ ⟨x,sp2,hpe,rfl,hsp,rfl⟩;exact az.drop ⟨x,sp2,by rw [hev,hpe,EO.bind],rfl,hsp,rfl⟩ SB)
 rintro v28 M28 _ ⟨x28,s28,hv28,h028,h1F28,hs28,⟨us28,rfl,hr28⟩,rfl⟩
 have hul28 : us28.length = 3:=hr28.1.trans (Val.aq _)
 have hsz:=chkV_nb (v:=x28) (s:=s28) (by rw [hv28] at hb;exact hb)
 have hdl:=Val.ux x28
 refine RX.of ?_
 refine RL.aZ hr28 ?_
 refine RL.alloc _ bk rfl rfl fun b7=>?_
 refine RL.aF 3 rfl rfl RP MM EL Q7 aD ?_
 refine RL.nil ?_
 refine hK5 _ _ _ ?_
 refine CW.kp [6,7] rfl ?_
 refine CW.seq fun K6 hK6=>?_
 refine CW.seq fun K7 hK7=>?_
 refine CW.region ?_
 refine RL.q (Y.bO rfl MM MM EL aG) rfl ?_
 refine RL.eD rfl func103 rfl rfl (by exact GW (hE.Dx.mono hs28) x28 us28 Q0 KK) ?_
 refine RL.qs (Y.gtr rfl rfl) rfl (fun g31=>?_) (fun g31=>?_)
 ·refine RL.q (Y.move rfl) rfl ?_
  refine RL.no WG rfl ?_
  refine RL.no WG rfl ?_
  refine RL.no WG rfl ?_
  refine RL.q (Y.fK rfl rfl) rfl ?_
  refine RL.nil ?_
  refine hK7 _ _ _ ?_
  refine CW.kp [6,7,36] rfl ?_
  refine CW.yes rfl ?_
  refine CW.eT ?_
  refine RX.step ?_
  refine RL.q (Y.iface oz rfl) rfl ?_
  refine RL.nil ?_
  refine RX.panic rfl ?_
  exact az.drop ⟨4,s28,by rw [hev,hv28];exact mq hsz OM,rfl,hs28,rfl⟩ SB
 refine RL.q (Y.move rfl) rfl ?_
 refine RL.qg WG (Y.bO rfl MM MM EL aG) rfl ?_
 refine RL.eD WG func104 rfl rfl (by exact Ep (hE.Dx.mono hs28) x28 us28 Q0 KK) ?_
 refine RL.qg WG (Y.gtr rfl rfl) rfl ?_
 refine RL.q (Y.fL rfl rfl) rfl ?_
 refine RL.nil ?_
 refine hK7 _ _ _ ?_
 refine CW.kp [6,7,36] rfl ?_
 refine CW.ite rfl (fun h2=>?_) (fun h2=>?_)
 ·refine CW.eT ?_
  refine RX.step ?_
  refine RL.q (Y.iface oz rfl) rfl ?_
  refine RL.nil ?_
  refine RX.panic rfl ?_
  exact az.drop ⟨4,s28,by rw [hev,hv28];exact mq hsz OM,rfl,hs28,rfl⟩ SB
 refine CW.skip ?_
 refine hK6 _ _ _ ?_
 refine CW.seq fun K8 hK8=>?_
 refine CW.region ?_
 refine RL.q (Y.bO rfl MM MM EL aG) rfl ?_
 refine RL.aF 3 rfl rfl RP MM EL Q7 aD ?_
 refine RL.nil ?_
 refine hK8 _ _ _ ?_
 refine CW.kp [6] rfl ?_
 refine CW.ret ?_
 refine aE.mk rfl MM (by first | rfl | exact hul28) aG (az.drop ⟨x28,s28,?_,h028,h1F28,hs28,⟨_,rfl,hr28⟩,rfl⟩ SB)
 rw [hev,hv28]
 exact yc OM
theorem qJ {p : ProgT} {F : Int} {br : Nat} {um ud : Value} {g : Nat} (ih : fG Tryd.prog p F br um ud g) (w0 : World) (M : Mem) (Γ : List As) (es : List Ex) (u : Value) (env : Env) (sp : Value) (s : Int) (hE : EvHyp M p um ud F s env sp) (hu : Kn w0 M (cj br um ud F s::Γ) (Rd M (.sl es.length 15 (es.flatMap Ex.enc)) u)) (hl : es.length<=1000000) (r : AE) (hr : r = eV (fun x s=>aK p F g x env s) es s) (hb : r ≠ .bad) :
   bn Tryd.prog w0 M (cj br um ud F s::Γ) 112 #[cN br,u,sp] (AllPost M Γ br um ud F r) (Hu M Γ br um ud F r):=by
 refine bn.kn hu fun hu=>?_
 obtain ⟨a1,c1,rfl,hc1,hlim1,hlen1⟩:=hu.slice
 have hs0:=hE.s0
 have hsF:=hE.sF
 have hF1:=hE.F1
 refine enterP (f:=112) Tryd.func112 rfl Tryd.ntmps112 rfl rfl fun w1 hw1=>?_
 refine CW.ga hu ?_
 refine CW.seq fun K1 hK1=>?_
 refine CW.region ?_
 refine RL.q (Y.assign rfl) rfl ?_
 refine RL.nil ?_
 refine hK1 _ _ _ ?_
 refine CW.kp [0,1,2] rfl ?_
 refine CW.seq fun K2 hK2=>?_
 refine CW.region ?_
 refine RL.q (Y.assign rfl) rfl ?_
 refine RL.nil ?_
 refine hK2 _ _ _ ?_
 refine CW.kp [0,1,2,7] rfl ?_
 refine CW.seq fun K3 hK3=>?_
 refine CW.seq fun K4 hK4=>?_
 refine CW.front (x:=cj br um ud F s) PK ?_
 refine CW.Bu 26 3 ?_
 refine CW.aZ (RdL.nil _) ?_
 refine CW.region ?_
 refine RL.q (Y.move rfl) rfl ?_
 refine RL.q (Y.len rfl Tryd.underlying47) rfl ?_
 refine RL.q (Y.move rfl) rfl ?_
 refine RL.nil ?_
 refine hK4 _ _ _ ?_
 refine CW.kp [0,2,7,10,11,12] rfl ?_
 refine CW.block ?_
 -- LOOP 1: live [0,2,7,10,11,12] changed [7,12]
 refine CW.kp [7,12,0,2,10,11] rfl ?_
 refine CW.o5 (fun m Lc M1 Γc=>∃ (k : Nat) (dn : List Val) (sk : Int) (ua : Option Addr) (ca : Nat) (us : List Value),m = es.length - k/\k<=es.length/\Lc = [(7,.slice ua k ca),(12,av k)]/\Γc = [.rds (dn.flatMap Val.enc) us,.acc (.slice ua k ca) 26 3 k us,cj br um ud F sk]/\dn.length = k/\0<=sk/\sk<=F/\r = (eV (fun x s=>aK p F g x env s) (es.drop k) sk).pre dn) es.length [(7,_),(12,_)] [_,_,_] rfl rfl ⟨0,[],s,none,0,[],rfl,Nat.zero_le _,rfl,rfl,rfl,hs0,hsF,by rw [hr,AE.pre_nil];rfl⟩ ?_
 rintro m Lc M1 Γc hs ⟨k,dn,sk,ua,ca,us,rfl,hk,rfl,rfl,hdn,hk0,hkF,hrk⟩
 refine CW.seq fun K5 hK5=>?_
 refine CW.region ?_
 refine RL.q (Y.lss rfl rfl) rfl ?_
 refine RL.nil ?_
 refine hK5 _ _ _ ?_
 refine CW.kp [0,2,7,10,11,12,13] rfl ?_
 refine CW.seq fun K6 hK6=>?_
 refine CW.ite rfl (fun h1=>?_) (fun h1=>?_)
 ·have hka : k < es.length:=Q0
  have hnb:=allF_nb hka hrk hb
  refine CW.skip ?_
  refine hK6 _ _ _ ?_
  refine CW.seq fun K7 hK7=>?_
  refine CW.block ?_
  refine CW.seq fun K8 hK8=>?_
  refine CW.region ?_
  refine RL.q (Y.index _ rfl rfl rfl AO jk SM) rfl ?_
  refine RL.aO rfl rfl MM (Eq.trans (aV Ex.aq _ _ _ (List.getElem?_eq_getElem AO)) (Ex.ay _)) Q3 jY rfl fun us15 hul15 hur15=>?_
  refine RL.alloc _ zero50 rfl rfl fun b9=>?_
  refine RL.aF 15 rfl rfl RP MM EL Q7 size50 ?_
  refine RL.nil ?_
  refine hK8 _ _ _ ?_
  refine CW.kp [0,2,7,9,10,11,12] rfl ?_
  refine CW.eT ?_
  refine RX.step ?_
  refine RL.q (Y.move rfl) rfl ?_
  refine RL.nil ?_
  refine RX.step ?_
  refine RL.q (Y.move rfl) rfl ?_
  refine RL.nil ?_
  refine RX.step ?_
  refine RL.q (Y.bO rfl MM MM EL jY) rfl ?_
  refine RL.nil ?_
  refine RX.step ?_
  refine RL.q (Y.move rfl) rfl ?_
  refine RL.nil ?_
  refine RX.call rfl func74 rfl rfl (by exact bn.pick (x:=cj br um ud F sk) PK (ih _ _ _ es[k] _ env sp sk (hE.next hs hk0 hkF) KK hnb)) ?_ (by rintro ch Mp _ ⟨x,sp2,hpe,rfl,hsp,rfl⟩;exact az.drop ⟨x,sp2,CH hka hrk hpe,rfl,hs.trans hsp,rfl⟩ SB)
  rintro v20 M20 _ ⟨x20,s20,he20,h020,h1F20,hs20,⟨us20,rfl,hr20⟩,rfl⟩
  have hul20 : us20.length = 3:=hr20.1.trans (Val.aq _)
  refine RX.of ?_
  refine RL.aZ hr20 ?_
  refine RL.buildSlice us20 qB rfl Q1 (fill1 rfl hul20) rfl fun b21=>?_
  refine RL.append qB rfl rfl PK (mE.own (sz:=3) (m:=1) MM (by simp [hul20]) hr20.one) OM (by unfold lim;omega) rfl fun a22 c22 hc22=>?_
  refine RL.q (Y.assign rfl) rfl ?_
  refine RL.nil ?_
  refine hK7 _ _ _ ?_
  refine CW.kp [0,2,7,10,11,12] rfl ?_
  refine CW.region ?_
  refine RL.q (Y.add rfl rfl OM) rfl ?_
  refine RL.q (Y.move rfl) rfl ?_
  refine RL.nil ?_
  refine ⟨es.length - (k+1),[(7,_),(12,_)],?_,(KP [7,12,0,2,10,11]),?_⟩
  · omega
  · refine az.kn (Kn.rds (ds:=dn.flatMap Val.enc) (us:=us) MM) fun hrd=>?_
    refine az.front (x:=cj br um ud F s20) PK ?_
    refine az.front (x:=.acc (.slice a22 (k+1) c22) 26 3 (k+1) (us++us20)) PK ?_
    refine az.aZ (hrd.append hr20) ?_
    exact az.drop ⟨[_,_,_],rfl,hs.trans hs20,k+1,dn++[x20],s20,a22,c22,us++us20,rfl,Q0,rfl,by rw [vr] <;> rfl,by simp [hdn],h020,h1F20,CG hka hrk he20⟩ SB
 refine CW.exit ?_
 refine hK3 _ _ _ ?_
 refine CW.seq fun K9 hK9=>?_
 refine CW.region ?_
 refine RL.q (Y.move rfl) rfl ?_
 refine RL.q (Y.assign rfl) rfl ?_
 refine RL.nil ?_
 refine hK9 _ _ _ ?_
 refine CW.kp [6] rfl ?_
 refine CW.ret ?_
 obtain rfl : k = es.length:=Q0
 rw [Aa rfl,AE.pre,List.append_nil] at hrk
 refine ⟨_,rfl,az.kn (Kn.rds (ds:=dn.flatMap Val.enc) (us:=us) MM) fun hrd=>?_⟩
 exact az.gz (u:=.slice ua es.length ca) PK hrd (by unfold lim;omega) (show List.Sublist (cj br um ud F sk::Γ) _ from SB) fun M2 hs2 hr2=>⟨dn,sk,hrk,hk0,hkF,hs.trans hs2,by rw [hdn];exact hr2,rfl⟩
set_option maxRecDepth 4000 in
theorem pO {p : ProgT} {F : Int} {br : Nat} {um ud : Value} {g : Nat} (ih : fG Tryd.prog p F br um ud g) (w0 : World) (M : Mem) (Γ : List As) (d : DefT) (usd : List Value) (args : List Val) (ua : Value) (env2 : Env) (s : Int) (hE : EvHyp M p um ud F s [] (.pointer none)) (hd : Kn w0 M (cj br um ud F s::Γ) (RdL M d.enc usd)) (ha : Kn w0 M (cj br um ud F s::Γ) (Rd M (.sl args.length 3 (args.flatMap Val.enc)) ua)) (he : cH d.slots args [] = some env2) (hb : aK p F g d.body env2 s ≠ .bad) :
   bn Tryd.prog w0 M (cj br um ud F s::Γ) 63 #[cN br,.agg usd.toArray,ua] (mG M Γ br um ud F (aK p F g d.body env2 s)) (jw M Γ br um ud F (aK p F g d.body env2 s)):=by
 refine bn.kn hd fun hd=>?_
 refine bn.kn ha fun ha=>?_
 obtain ⟨a1,c1,rfl,hc1,hlim1,hlen1⟩:=ha.slice
 have hs0:=hE.s0
 have hsF:=hE.sF
 have hF1:=hE.F1
 rw [DefT.ay] at hd
 refine gx (f:=63) Tryd.func63 rfl Tryd.ntmps63 rfl rfl fun w1 hw1=>?_
 refine CW.aZ hd ?_
 refine CW.ga ha ?_
 refine CW.seq fun K1 hK1=>?_
 refine CW.region ?_
 refine RL.box _ rfl rfl rfl fun b4=>?_
 refine RL.alloc _ bk rfl rfl fun b6=>?_
 refine RL.nil ?_
 refine hK1 _ _ _ ?_
 refine CW.kp [0,2,4,6] rfl ?_
 refine CW.seq fun K2 hK2=>?_
 refine CW.region ?_
 refine RL.q (Y.assign rfl) rfl ?_
 refine RL.nil ?_
 refine hK2 _ _ _ ?_
 refine CW.kp [0,2,4,6,7] rfl ?_
 refine CW.seq fun K3 hK3=>?_
 refine CW.seq fun K4 hK4=>?_
 refine CW.region ?_
 refine RL.q (Y.field rfl qz) rfl ?_
 refine RL.aP rfl rfl MM MM Q3 A4 rfl fun a11 c11 hu11 hc11 hl11=>?_
 refine RL.q (Y.len rfl Tryd.underlying46) rfl ?_
 refine RL.q (Y.move rfl) rfl ?_
 refine RL.nil ?_
 refine hK4 _ _ _ ?_
 refine CW.kp [0,2,4,6,7,11,12,13] rfl ?_
 refine CW.block ?_
 -- LOOP 1: live [0,2,4,6,7,11,12,13] changed [7,13]
 refine CW.kp [7,13,0,2,4,6,11,12] rfl ?_
 refine CW.o5 (fun m Lc M1 Γc=>∃ (k : Nat) (e2 : Env) (q : Option Addr),m = d.slots.length - k/\k<=d.slots.length/\Lc = [(7,.pointer q),(13,av k)]/\Γc = []/\ScopeM M1 e2 (.pointer q)/\cH (d.slots.drop k) (args.drop k) e2 = some env2) d.slots.length [(7,_),(13,_)] [] rfl rfl ⟨0,[],none,rfl,Nat.zero_le _,rfl,rfl,rfl,he⟩ ?_
 rintro m Lc M1 Γc hs ⟨k,e2,q,rfl,hk,rfl,rfl,hsc,hek⟩
 refine CW.seq fun K5 hK5=>?_
 refine CW.region ?_
 refine RL.q (Y.lss rfl rfl) rfl ?_
 refine RL.nil ?_
 refine hK5 _ _ _ ?_
 refine CW.kp [0,2,4,6,7,11,12,13,14] rfl ?_
 refine CW.seq fun K6 hK6=>?_
 refine CW.ite rfl (fun h1=>?_) (fun h1=>?_)
 ·have hka : k < d.slots.length:=Q0
  obtain ⟨hkb,hek2⟩:=zY hka hek
  refine CW.skip ?_
  refine hK6 _ _ _ ?_
  refine CW.seq fun K7 hK7=>?_
  refine CW.block ?_
  refine CW.seq fun K8 hK8=>?_
  refine CW.region ?_
  refine RL.q (Y.move rfl) rfl ?_
  refine RL.q (Y.index _ rfl rfl rfl AO BN SM) rfl ?_
  refine RL.aO rfl rfl MM (Eq.trans (aV SlotT.aq _ _ _ (List.getElem?_eq_getElem AO)) (SlotT.ay _)) Q3 agg68 rfl fun us17 hul17 hur17=>?_
  refine RL.alloc _ Ev rfl rfl fun b9=>?_
  refine RL.q (Y.assign rfl) rfl ?_
  refine RL.aF 11 rfl rfl RP MM EL Q7 EW ?_
  refine RL.nil ?_
  refine hK8 _ _ _ ?_
  refine CW.kp [0,2,4,6,7,8,9,11,12,13] rfl ?_
  refine CW.ki mix _ _ (fun _ hw=>hw) ?_
  refine HL.take 0 rfl KR KR KR rfl (Y.move rfl) rfl ?_
  refine HL.take 1 rfl KR KR KR rfl (Y.field rfl DV) rfl ?_
  refine HL.take 2 rfl KR KR KR rfl (Y.gN [_,_,_] rfl MM MM Q3 ld) rfl ?_
  refine HL.take 3 rfl KR KR KR rfl (Y.move rfl) rfl ?_
  refine HL.take 4 rfl KR KR KR rfl (Y.move rfl) rfl ?_
  refine HL.take 5 rfl KR KR KR rfl (Y.index _ rfl rfl rfl AO eB SM) rfl ?_
  refine HL.aO 6 rfl KR KR KR rfl rfl MM (Eq.trans (aV Val.aq _ _ _ (List.getElem?_eq_getElem AO)) (Val.ay _)) Q3 aG rfl fun us24 hul24 hur24=>?_
  refine HL.step 7 rfl KR ?_
  refine RL.call rfl func91 rfl rfl (by exact oJ _ _ _ e2 _ (d.slots[k]).id 0 args[k] us24 hsc KK) ?_
  rintro v25 M25 _ ⟨hs25,rfl,hsc25⟩
  obtain ⟨p25,rfl,_⟩:=hsc25.ptr
  refine RL.nil ⟨bW (hs25) SB,?_⟩
  refine HL.take 8 rfl KR KR KR rfl (Y.assign rfl) rfl ?_
  refine HL.done KR ?_
  refine hK7 _ _ _ ?_
  refine CW.kp [0,2,4,6,7,11,12,13] rfl ?_
  refine CW.region ?_
  refine RL.q (Y.add rfl rfl OM) rfl ?_
  refine RL.q (Y.move rfl) rfl ?_
  refine RL.nil ?_
  refine ⟨d.slots.length - (k+1),[(7,_),(13,_)],?_,(KP [7,13,0,2,4,6,11,12]),?_⟩
  · omega
  · exact az.drop ⟨[],rfl,hs.trans hs25,k+1,_,p25,rfl,Q0,rfl,rfl,hsc25,hek2⟩ SB
 refine CW.exit ?_
 refine hK3 _ _ _ ?_
 refine CW.seq fun K9 hK9=>?_
 obtain rfl : k = d.slots.length:=Q0
 obtain rfl:=Bs rfl hek
 refine CW.eT ?_
 refine RX.step ?_
 refine RL.q (Y.move rfl) rfl ?_
 refine RL.nil ?_
 refine RX.step ?_
 refine RL.q (Y.field rfl DW) rfl ?_
 refine RL.nil ?_
 refine RX.step ?_
 refine RL.tI rfl rfl MM MM Q3 Q3 jY rfl fun us29 hul29 hur29=>?_
 refine RL.nil ?_
 refine RX.step ?_
 refine RL.q (Y.move rfl) rfl ?_
 refine RL.nil ?_
 refine RX.call rfl func74 rfl rfl (by exact bn.pick (x:=cj br um ud F s) PK (ih _ _ _ d.body us29 e2 _ s (hE.mono hs hs0 hsF hsc) (Kn.of (by rw [Ex.ay];exact hur29)) hb)) ?_ (by rintro ch Mp _ ⟨x,sp2,hpe,rfl,hsp,rfl⟩;exact az.drop ⟨x,sp2,hpe,rfl,hs.trans hsp,rfl⟩ SB)
 rintro v31 M31 _ ⟨x31,s31,he31,h031,h1F31,hs31,⟨us31,rfl,hr31⟩,rfl⟩
 have hul31 : us31.length = 3:=hr31.1.trans (Val.aq _)
 refine RX.of ?_
 refine RL.aZ hr31 ?_
 refine RL.aF 3 rfl rfl RP MM EL Q7 aD ?_
 refine RL.nil ?_
 refine hK9 _ _ _ ?_
 refine CW.kp [6] rfl ?_
 refine CW.ret ?_
 exact aE.mk rfl MM (by first | rfl | exact hul31) aG (az.drop ⟨x31,s31,he31,h031,h1F31,hs.trans hs31,⟨_,rfl,hr31⟩,rfl⟩ SB)
end Go.Proofs.YtanbipbiblikbaaDoor
