/- Zpj, Zpk, PmX, Ev11, Ev12, Ev13, Ev15, Ev16, Ev17, Gn0, Gn1, Gn2, Gn3, Gn4, put together. -/
import Derived.Test.YtanbipbiblikbaaDoorPk4
import Derived.KernelRfl
namespace Go.Proofs.YtanbipbiblikbaaDoor
open Xe Pm
set_option maxRecDepth 100000
abbrev s19 : Sig:=⟨19,⟨[(0,.c .d)],[]⟩,.a 2,[],false⟩
abbrev s40 : Sig:=⟨40,⟨[(0,.c .d),(1,.c .i),(2,.c .i)],[]⟩,.c .i,[],true⟩
abbrev s16 : Sig:=⟨16,⟨[(0,.c .i),(1,.c .i)],[]⟩,.c .i,[],true⟩
abbrev s39 : Sig:=⟨39,⟨[(0,.c .i)],[]⟩,.a 3,[],false⟩
abbrev s48 : Sig:=⟨48,⟨[(0,.c .d),(1,.c .i)],[]⟩,.c (.w 0),[(0,.w 89 11)],false⟩
abbrev s42 : Sig:=⟨42,⟨[(0,.a 3)],[]⟩,.a 5,[],false⟩
abbrev s75 : Sig:=⟨75,⟨[(0,.c .i),(1,.a 5),(2,.a 5)],[]⟩,.a 5,[],false⟩
abbrev s41 : Sig:=⟨41,⟨[(0,.a 5)],[]⟩,.g [.d,.d,.d,.d,.w 0],[(0,.w 38 5)],false⟩
abbrev s76 : Sig:=⟨76,⟨[(0,.c .d),(1,.c .i),(2,.a 5)],[]⟩,.t [.c (.w 0),.c (.w 1)],[(0,.w 38 5),(1,.w 3 1)],false⟩
abbrev s49 : Sig:=⟨49,⟨[(0,.c (.p 0 0)),(1,.a 5),(2,.c .d),(3,.c .i)],[(0,.b 92 [.d,.w 1,.d,.d,.d,.d,.d,.d,.d,.d,.d]),(1,.w 52 31)]⟩,.g [.d,.d,.d,.d,.d,.d,.d,.d,.d,.d,.d,.d,.d,.d,.w 2],[(2,.w 9 1),(0,.b 92 [.d,.w 1,.d,.d,.d,.d,.d,.d,.d,.d,.d]),(1,.w 52 31)],false⟩
abbrev s77 : Sig:=⟨77,⟨[(0,.c (.p 0 0)),(1,.c .i)],[(0,.b 92 [.d,.w 1,.d,.d,.d,.d,.d,.d,.d,.d,.d]),(1,.w 52 31)]⟩,.c .i,[(0,.b 92 [.d,.w 1,.d,.d,.d,.d,.d,.d,.d,.d,.d]),(1,.w 52 31)],false⟩
abbrev s78 : Sig:=⟨78,⟨[(0,.c .d),(1,.a 5)],[]⟩,.c (.w 0),[(0,.w 95 9)],false⟩
abbrev s105 : Sig:=⟨105,⟨[(0,.a 5),(1,.a 5)],[]⟩,.c .bo,[],true⟩
abbrev s79 : Sig:=⟨79,⟨[(0,.c (.p 0 0)),(1,.a 9)],[(0,.b 92 [.d,.w 1,.d,.d,.d,.d,.d,.d,.d,.d,.d]),(1,.w 52 31)]⟩,.g [.d,.d,.d,.d,.d,.d,.d,.d,.d,.d,.d,.d,.d,.d,.w 2],[(2,.w 9 1),(0,.b 92 [.d,.w 1,.d,.d,.d,.d,.d,.d,.d,.d,.d]),(1,.w 52 31)],false⟩
abbrev s81 : Sig:=⟨81,⟨[(0,.c (.p 0 0)),(1,.c .i),(2,.c .i),(3,.c .d)],[(0,.b 92 [.d,.w 1,.d,.d,.d,.d,.d,.d,.d,.d,.d]),(1,.w 52 31)]⟩,.g [.d,.d,.d,.d,.d,.d,.d,.d,.d,.d,.d,.d,.d,.d,.w 2],[(2,.w 9 1),(0,.b 92 [.d,.w 1,.d,.d,.d,.d,.d,.d,.d,.d,.d]),(1,.w 52 31)],false⟩
abbrev s80 : Sig:=⟨80,⟨[(0,.c (.p 0 0)),(1,.a 5),(2,.c .d),(3,.c .i),(4,.c .i)],[(0,.b 92 [.d,.w 1,.d,.d,.d,.d,.d,.d,.d,.d,.d]),(1,.w 52 31)]⟩,.g [.d,.d,.d,.d,.d,.d,.d,.d,.d,.d,.d,.d,.d,.d,.w 2],[(2,.w 9 1),(0,.b 92 [.d,.w 1,.d,.d,.d,.d,.d,.d,.d,.d,.d]),(1,.w 52 31)],false⟩
abbrev s58 : Sig:=⟨58,⟨[(0,.g [.d,.w 0]),(1,.a 3)],[(0,.w 52 31)]⟩,.t [.a 31,.c .bo],[(0,.w 52 31)],false⟩
abbrev s84 : Sig:=⟨84,⟨[(0,.c (.p 0 0)),(1,.a 5),(2,.c .d),(3,.c .i),(4,.c .i)],[(0,.b 92 [.d,.w 1,.d,.d,.d,.d,.d,.d,.d,.d,.d]),(1,.w 52 31)]⟩,.g [.d,.d,.d,.d,.d,.d,.d,.d,.d,.d,.d,.d,.d,.d,.w 2],[(2,.w 9 1),(0,.b 92 [.d,.w 1,.d,.d,.d,.d,.d,.d,.d,.d,.d]),(1,.w 52 31)],false⟩
abbrev s106 : Sig:=⟨106,⟨[(0,.c (.p 0 0)),(1,.c .i),(2,.c .i)],[(0,.b 92 [.d,.w 1,.d,.d,.d,.d,.d,.d,.d,.d,.d]),(1,.w 52 31)]⟩,.c .i,[(0,.b 92 [.d,.w 1,.d,.d,.d,.d,.d,.d,.d,.d,.d]),(1,.w 52 31)],false⟩
abbrev s107 : Sig:=⟨107,⟨[(0,.c (.p 0 0)),(1,.c .i)],[(0,.b 92 [.d,.w 1,.d,.d,.d,.d,.d,.d,.d,.d,.d]),(1,.w 52 31)]⟩,.c .bo,[(0,.b 92 [.d,.w 1,.d,.d,.d,.d,.d,.d,.d,.d,.d]),(1,.w 52 31)],false⟩
abbrev s87 : Sig:=⟨87,⟨[(0,.c (.p 0 0)),(1,.a 5),(2,.c .d),(3,.c .i),(4,.c .i)],[(0,.b 92 [.d,.w 1,.d,.d,.d,.d,.d,.d,.d,.d,.d]),(1,.w 52 31)]⟩,.g [.d,.d,.d,.d,.d,.d,.d,.d,.d,.d,.d,.d,.d,.d,.w 2],[(2,.w 9 1),(0,.b 92 [.d,.w 1,.d,.d,.d,.d,.d,.d,.d,.d,.d]),(1,.w 52 31)],false⟩
abbrev s85 : Sig:=⟨85,⟨[(0,.c (.p 0 0)),(1,.a 5),(2,.c .d),(3,.c .i),(4,.c .i)],[(0,.b 92 [.d,.w 1,.d,.d,.d,.d,.d,.d,.d,.d,.d]),(1,.w 52 31)]⟩,.g [.d,.d,.d,.d,.d,.d,.d,.d,.d,.d,.d,.d,.d,.d,.w 2],[(2,.w 9 1),(0,.b 92 [.d,.w 1,.d,.d,.d,.d,.d,.d,.d,.d,.d]),(1,.w 52 31)],false⟩
abbrev s86 : Sig:=⟨86,⟨[(0,.c (.p 0 0)),(1,.a 5),(2,.c .d),(3,.c .i),(4,.c .i)],[(0,.b 92 [.d,.w 1,.d,.d,.d,.d,.d,.d,.d,.d,.d]),(1,.w 52 31)]⟩,.g [.d,.d,.d,.d,.d,.d,.d,.d,.d,.d,.d,.d,.d,.d,.w 2],[(2,.w 9 1),(0,.b 92 [.d,.w 1,.d,.d,.d,.d,.d,.d,.d,.d,.d]),(1,.w 52 31)],false⟩
abbrev s82 : Sig:=⟨82,⟨[(0,.c (.p 0 0))],[(0,.b 92 [.d,.w 1,.d,.d,.d,.d,.d,.d,.d,.d,.d]),(1,.w 52 31)]⟩,.c .d,[(0,.b 92 [.d,.w 1,.d,.d,.d,.d,.d,.d,.d,.d,.d]),(1,.w 52 31)],false⟩
abbrev s83 : Sig:=⟨83,⟨[(0,.c .d),(1,.a 9)],[]⟩,.c (.w 0),[(0,.w 95 9)],false⟩
abbrev s50 : Sig:=⟨50,⟨[(0,.a 15)],[]⟩,.c .i,[],true⟩
abbrev s51 : Sig:=⟨51,⟨[(0,.a 15),(1,.c (.w 0))],[(0,.w 3 1)]⟩,.c (.w 1),[(1,.w 3 1)],false⟩
abbrev s52 : Sig:=⟨52,⟨[(0,.a 15),(1,.c (.w 0))],[(0,.w 35 3)]⟩,.g [.d,.d,.d,.d,.d,.d,.d,.d,.d,.d,.d,.d,.d,.w 1,.d],[(1,.w 50 15),(0,.w 35 3)],false⟩
def H19 : Hint:=⟨[(13,⟨[(0,.c .d),(2,.c (.p 0 0)),(3,.c .i),(4,.c (.p 1 0)),(7,.c (.w 2)),(8,.c .i),(9,.c .i)],[(0,.a 32 2),(1,.b 32 [.w 3,.w 4]),(2,.w 89 11),(3,.v 76 6 1 [.d,.d,.d,.d,.d,.w 5]),(4,.w 52 31),(5,.w 35 3)]⟩),(13,⟨[(0,.c .d),(2,.c (.p 0 0)),(3,.c .i),(4,.c (.p 1 0)),(7,.c (.w 2)),(8,.c .i),(9,.c .i)],[(0,.a 32 2),(1,.b 32 [.w 3,.w 4]),(2,.w 89 11),(3,.v 76 6 2 [.d,.d,.d,.d,.d,.w 5,.d,.d,.d,.d,.w 6,.w 7]),(4,.w 52 31),(5,.w 35 3),(6,.w 35 3),(7,.w 35 3)]⟩),(13,⟨[(0,.c .d),(2,.c (.p 0 0)),(3,.c .i),(4,.c (.p 1 0)),(7,.c (.w 2)),(8,.c .i),(9,.c .i)],[(0,.a 32 2),(1,.b 32 [.d,.w 3]),(2,.w 89 11),(3,.w 52 31)]⟩),(17,⟨[(0,.c .d),(2,.c (.p 0 0)),(3,.c .i),(4,.c (.p 1 0)),(7,.c (.w 2)),(8,.c .i),(9,.c .i),(10,.c (.p 3 0)),(11,.c .i)],[(0,.a 32 2),(1,.b 32 [.w 4,.w 5]),(2,.w 89 11),(3,.b 52 [.d,.d,.d,.d,.d,.d,.d,.d,.w 6,.d,.d,.d,.d,.d,.d,.d,.d,.d,.d,.d,.d,.d,.d,.d,.d,.d,.d,.d,.d,.d,.d]),(4,.v 76 6 1 [.d,.d,.d,.d,.d,.w 7]),(5,.w 52 31),(6,.w 68 11),(7,.w 35 3)]⟩),(17,⟨[(0,.c .d),(2,.c (.p 0 0)),(3,.c .i),(4,.c (.p 1 0)),(7,.c (.w 2)),(8,.c .i),(9,.c .i),(10,.c (.p 3 0)),(11,.c .i)],[(0,.a 32 2),(1,.b 32 [.w 4,.w 5]),(2,.w 89 11),(3,.b 52 [.d,.d,.d,.d,.d,.d,.d,.d,.w 6,.d,.d,.d,.d,.d,.d,.d,.d,.d,.d,.d,.d,.d,.d,.d,.d,.d,.d,.d,.d,.d,.d]),(4,.v 76 6 2 [.d,.d,.d,.d,.d,.w 7,.d,.d,.d,.d,.w 8,.w 9]),(5,.w 52 31),(6,.w 68 11),(7,.w 35 3),(8,.w 35 3),(9,.w 35 3)]⟩),(17,⟨[(0,.c .d),(2,.c (.p 0 0)),(3,.c .i),(4,.c (.p 1 0)),(7,.c (.w 2)),(8,.c .i),(9,.c .i),(10,.c (.p 3 0)),(11,.c .i)],[(0,.a 32 2),(1,.b 32 [.d,.w 4]),(2,.w 89 11),(3,.b 52 [.d,.d,.d,.d,.d,.d,.d,.d,.w 5,.d,.d,.d,.d,.d,.d,.d,.d,.d,.d,.d,.d,.d,.d,.d,.d,.d,.d,.d,.d,.d,.d]),(4,.w 52 31),(5,.w 68 11)]⟩),(28,⟨[(2,.c (.p 0 0)),(4,.c (.p 1 0)),(8,.c .i),(13,.c (.p 2 0)),(14,.c .i)],[(0,.a 32 2),(1,.b 32 [.d,.w 3]),(2,.b 92 [.d,.w 3,.d,.d,.d,.d,.d,.d,.d,.d,.d]),(3,.w 52 31)]⟩),(34,⟨[(2,.c (.p 0 0)),(4,.c (.p 1 0)),(8,.c .i),(13,.c (.p 2 0)),(14,.c .i),(15,.c (.p 3 0)),(16,.c (.w 4)),(17,.c .i)],[(0,.a 32 2),(1,.b 32 [.d,.w 5]),(2,.b 92 [.d,.w 5,.d,.d,.d,.d,.d,.d,.d,.d,.d]),(3,.a 52 31),(4,.w 95 9),(5,.w 52 31)]⟩),(47,⟨[(2,.c (.p 0 0)),(4,.c (.p 1 0)),(8,.c .i),(18,.c (.w 2)),(19,.c .i)],[(0,.a 32 2),(1,.b 32 [.d,.w 3]),(2,.w 35 3),(3,.w 52 31)]⟩),(52,⟨[(2,.c (.p 0 0)),(4,.c (.p 1 0)),(8,.c .i),(18,.c (.w 2)),(19,.c .i),(20,.c (.w 3)),(21,.c .i)],[(0,.a 32 2),(1,.b 32 [.d,.w 4]),(2,.w 35 3),(3,.w 3 1),(4,.w 52 31)]⟩)],[],[(4,3)]⟩
abbrev tb19 : Tb:=⟨[s39,s40,s48,s49,s50,s51,s52],[35],[29]⟩
def g19 (Is : Sig→St'→St'→Prop) (a : St') (K : St'→Prop) : Prop:=caK Is s40 [[cell (ent a 0) 0],[vI 0],[vI 2]] fun r1=>intK (cell (ent
 r1 0) 0) fun z2=>ckK (okI (1+z2)) (ifK (decide ((0 : Int) < (1+z2))) (caK Is s39 [[vI 0]] fun r3=>ckK (0≤(0 : Int)∧(0 : Int) < (2 :
 Int)) (ckK (room (0+1) 89) (ckK (okI (0+1 : Int)) (ifK (decide ((1 : Int) < (1+z2))) (caK Is s39 [[vI 1]] fun r4=>ckK (0≤(1 : Int)∧(1 :
 Int) < (2 : Int)) (caK Is s39 [[vI 0]] fun r5=>ckK (room (1+1) 89) (ckK (okI (1+1 : Int)) (ifK (decide ((2 : Int) < (1+z2))) (caK Is s39
 [[vI 2]] fun r6=>ckK (0≤(2 : Int)∧(2 : Int) < (2 : Int)) (ckK (room (2+1) 89) (ckK (okI (2+1 : Int)) (False)))) (caK Is s48 [[cell (ent a
 0) 0],[vI (1+z2)]] fun r7=>slcK 11 (cell (ent r7 0) 0) fun n8 c9=>ckK (okI ((1+z2)+(n8 : Int))) (Lp (fun next184 st185=>intK (cell (ent
 st185 1) 0) fun z186=>intK (cell (ent st185 2) 0) fun z187=>intK (cell (ent st185 3) 0) fun z188=>slcK 11 (cell (ent st185 5) 0) fun n189 c190
 => slcK 31 (cell (ent st185 7) 0) fun n191 c192=>slcK 3 (cell (ent st185 8) 0) fun n193 c194=>slcK 3 (cell (ent st185 9) 0) fun n195 c196 =>
 slcK 3 (cell (ent st185 10) 0) fun n197 c198=>ifK (decide (z188 < (n189 : Int))) (ckK (okI (z186+z188)) (caK Is s39 [[vI (z186+z188)]] fun
 r199=>ckK (0≤z188∧z188 < (n189 : Int)) (ckK (0≤z188∧z188 < (n189 : Int)) (caK Is s39 [[cell (el c190 11 (Int.toNat z188)) 10]] fun r200 =>
 ckK (0≤z188∧z188 < (n189 : Int)) (ckK (0≤z188∧z188 < (n189 : Int)) (Lp (fun next201 st202=>intK (cell (ent st202 1) 0) fun z203=>intK
 (cell (ent st202 2) 0) fun z204=>intK (cell (ent st202 3) 0) fun z205=>intK (cell (ent st202 4) 0) fun z206=>slcK 11 (cell (ent st202 6) 0)
 fun n207 c208=>slcK 31 (cell (ent st202 9) 0) fun n209 c210=>slcK 11 (cell (ent st202 10) 0) fun n211 c212=>slcK 3 (cell (ent st202 11) 0) fun
 n213 c214=>slcK 3 (cell (ent st202 12) 0) fun n215 c216=>slcK 3 (cell (ent st202 13) 0) fun n217 c218=>ckK (0≤z205∧z205 < (n207 : Int))
 (slcK 5 (cell (el c208 11 (Int.toNat z205)) 2) fun n219 c220=>ifK (decide (z206 < (n219 : Int))) (caK Is s39 [[vI z204]] fun r221=>ckK (0≤z205
 ∧ z205 < (n207 : Int)) (slcK 1 (cell (el c208 11 (Int.toNat z205)) 3) fun n222 c223=>ckK (0≤z206∧z206 < (n222 : Int)) (ckK (0≤z205∧z205 <
 (n207 : Int)) (slcK 5 (cell (el c208 11 (Int.toNat z205)) 2) fun n224 c225=>ckK (0≤z206∧z206 < (n224 : Int)) (intK (cell (ent st202 7) 3) fun
 z226=>ifK (decide (z226 = (4 : Int))) (ckK (0≤z205∧z205 < (n207 : Int)) (slcK 1 (cell (el c208 11 (Int.toNat z205)) 4) fun n227 c228=>ckK (0
 ≤ z206∧z206 < (n227 : Int)) (ckK (room (n211+1) 113) (ckK (okI (z204+1)) (ckK (okI (z206+1)) (next201 [[cell (ent st202 0) 0],[vI z203],
 [vI (z204+1)],[vI z205],[vI (z206+1)],ent st202 5,[.sl n207 11 c208],[cell (ent st202 7) 0,cell (ent st202 7) 1,cell (ent st202 7) 2,
 cell (ent st202 7) 3,cell (ent st202 7) 4,cell (ent st202 7) 5,cell (ent st202 7) 6,cell (ent st202 7) 7,cell (ent st202 7) 8,cell (ent st202
 7) 9,cell (ent st202 7) 10,cell (ent st202 7) 11,cell (ent st202 7) 12,cell (ent st202 7) 13,cell (ent st202 7) 14,cell (ent st202 7) 15,cell
 (ent st202 7) 16,cell (ent st202 7) 17,cell (ent st202 7) 18,cell (ent st202 7) 19,cell (ent st202 7) 20,cell (ent st202 7) 21,cell (ent st202
 7) 22,cell (ent st202 7) 23,cell (ent st202 7) 24,cell (ent st202 7) 25,cell (ent st202 7) 26,cell (ent st202 7) 27,cell (ent st202 7) 28,
 cell (ent st202 7) 29],[cell (ent st202 8) 0,cell (ent st202 8) 1,cell (ent st202 8) 2,cell (ent st202 8) 3,cell (ent st202 8) 4,cell (ent
 st202 8) 5,cell (ent st202 8) 6,cell (ent st202 8) 7,cell (ent st202 8) 8],[.sl n209 31 c210],[.sl (n211+1) 11 (c212++[cell (ent r221 0) 0,
 cell (ent r221 0) 1,cell (ent r221 0) 2,cell (el c223 1 (Int.toNat z206)) 0,cell (el c225 5 (Int.toNat z206)) 0,cell (el c225 5 (Int.toNat
 z206)) 1,cell (el c225 5 (Int.toNat z206)) 2,cell (el c225 5 (Int.toNat z206)) 3,cell (el c225 5 (Int.toNat z206)) 4,cell (el c228 1 (Int.toNat
 z206)) 0,vI z206])],[.sl n213 3 c214],[.sl n215 3 c216],[.sl n217 3 c218]])))))) (ckK (room (n211+1) 113) (ckK (okI (z204+1)) (ckK (okI
 (z206+1)) (next201 [[cell (ent st202 0) 0],[vI z203],[vI (z204+1)],[vI z205],[vI (z206+1)],ent st202 5,[.sl n207 11 c208],[cell (ent
 st202 7) 0,cell (ent st202 7) 1,cell (ent st202 7) 2,cell (ent st202 7) 3,cell (ent st202 7) 4,cell (ent st202 7) 5,cell (ent st202 7) 6,cell
 (ent st202 7) 7,cell (ent st202 7) 8,cell (ent st202 7) 9,cell (ent st202 7) 10,cell (ent st202 7) 11,cell (ent st202 7) 12,cell (ent st202 7)
 13,cell (ent st202 7) 14,cell (ent st202 7) 15,cell (ent st202 7) 16,cell (ent st202 7) 17,cell (ent st202 7) 18,cell (ent st202 7) 19,cell
 (ent st202 7) 20,cell (ent st202 7) 21,cell (ent st202 7) 22,cell (ent st202 7) 23,cell (ent st202 7) 24,cell (ent st202 7) 25,cell (ent st202
 7) 26,cell (ent st202 7) 27,cell (ent st202 7) 28,cell (ent st202 7) 29],[cell (ent st202 8) 0,cell (ent st202 8) 1,cell (ent st202 8) 2,cell
 (ent st202 8) 3,cell (ent st202 8) 4,cell (ent st202 8) 5,cell (ent st202 8) 6,cell (ent st202 8) 7,cell (ent st202 8) 8],[.sl n209 31 c210],
 [.sl (n211+1) 11 (c212++[cell (ent r221 0) 0,cell (ent r221 0) 1,cell (ent r221 0) 2,cell (el c223 1 (Int.toNat z206)) 0,cell (el c225 5
 (Int.toNat z206)) 0,cell (el c225 5 (Int.toNat z206)) 1,cell (el c225 5 (Int.toNat z206)) 2,cell (el c225 5 (Int.toNat z206)) 3,cell (el c225 5
 (Int.toNat z206)) 4,vI 0,vI z206])],[.sl n213 3 c214],[.sl n215 3 c216],[.sl n217 3 c218]]))))))))) (ckK (room (n209+1) 353) (ckK (0≤z205 ∧
 z205 < (n207 : Int)) (ckK (0≤z205∧z205 < (n207 : Int)) (intK (cell (el c208 11 (Int.toNat z205)) 10) fun z229=>ckK (0≤z229∧z229 < ((2 :
 Nat) : Int)) (ifK (decide (z229 = ((0 : Nat) : Int))) (ckK (room (n213+1) 25) (intK (cell (el c208 11 (Int.toNat z205)) 10) fun z230=>ckK (0 ≤
 z230∧z230 < ((2 : Nat) : Int)) (ifK (decide (z230 = ((0 : Nat) : Int))) (ckK (okI (z205+1)) (next184 [[cell (ent st202 0) 0],[vI z203],[vI
 z204],[vI (z205+1)],ent st202 5,[.sl n207 11 c208],[cell (ent st202 8) 0,cell (ent st202 8) 1,cell (ent st202 8) 2,cell (ent st202 8) 3,
 cell (ent st202 8) 4,cell (ent st202 8) 5,cell (ent st202 8) 6,cell (ent st202 8) 7,cell (ent st202 8) 8],[.sl (n209+1) 31 (c210++[cell
 (ent st202 7) 0,cell (ent st202 7) 1,cell (ent st202 7) 2,cell (ent st202 7) 3,cell (ent st202 7) 4,cell (ent st202 7) 5,cell (ent st202 7) 6,
 cell (ent st202 7) 7,.sl n211 11 c212,cell (ent st202 7) 8,cell (ent st202 7) 9,cell (ent st202 7) 10,cell (ent st202 7) 11,cell (ent st202 7)
 12,cell (ent st202 7) 13,cell (ent st202 7) 14,cell (ent st202 7) 15,cell (ent st202 7) 16,cell (ent st202 7) 17,cell (ent st202 7) 18,cell
 (ent st202 7) 19,cell (ent st202 7) 20,cell (ent st202 7) 21,cell (ent st202 7) 22,cell (ent st202 7) 23,cell (ent st202 7) 24,cell (ent st202
 7) 25,cell (ent st202 7) 26,cell (ent st202 7) 27,cell (ent st202 7) 28,cell (ent st202 7) 29])],[.sl (n213+1) 3 (c214++[cell (ent st202 7)
 0,cell (ent st202 7) 1,cell (ent st202 7) 2])],[.sl n215 3 c216],[.sl n217 3 c218]])) (ifK (decide (z230 = ((1 : Nat) : Int))) (ckK (okI (z205 +
 1)) (False)) (False))))) (ifK (decide (z229 = ((1 : Nat) : Int))) (ckK (room (n217+1) 25) (intK (cell (el c208 11 (Int.toNat z205)) 10) fun z231
 => ckK (0≤z231∧z231 < ((2 : Nat) : Int)) (ifK (decide (z231 = ((0 : Nat) : Int))) (ckK (okI (z205+1)) (False)) (ifK (decide (z231 = ((1 : Nat)
 : Int))) (ckK (okI (z205+1)) (next184 [[cell (ent st202 0) 0],[vI z203],[vI z204],[vI (z205+1)],ent st202 5,[.sl n207 11 c208],[cell (ent
 st202 8) 0,cell (ent st202 8) 1,cell (ent st202 8) 2,cell (ent st202 8) 3,cell (ent st202 8) 4,cell (ent st202 8) 5,cell (ent st202 8) 6,cell
 (ent st202 8) 7,cell (ent st202 8) 8],[.sl (n209+1) 31 (c210++[cell (ent st202 7) 0,cell (ent st202 7) 1,cell (ent st202 7) 2,cell (ent
 st202 7) 3,cell (ent st202 7) 4,cell (ent st202 7) 5,cell (ent st202 7) 6,cell (ent st202 7) 7,.sl n211 11 c212,cell (ent st202 7) 8,cell
 (ent st202 7) 9,cell (ent st202 7) 10,cell (ent st202 7) 11,cell (ent st202 7) 12,cell (ent st202 7) 13,cell (ent st202 7) 14,cell (ent st202
 7) 15,cell (ent st202 7) 16,cell (ent st202 7) 17,cell (ent st202 7) 18,cell (ent st202 7) 19,cell (ent st202 7) 20,cell (ent st202 7) 21,
 cell (ent st202 7) 22,cell (ent st202 7) 23,cell (ent st202 7) 24,cell (ent st202 7) 25,cell (ent st202 7) 26,cell (ent st202 7) 27,cell (ent
 st202 7) 28,cell (ent st202 7) 29])],[.sl n213 3 c214],[.sl n215 3 c216],[.sl (n217+1) 3 (c218++[cell (ent st202 7) 0,cell (ent st202 7) 1,
 cell (ent st202 7) 2])]])) (False))))) (False))))))))) [[cell (ent st185 0) 0],[vI z186],[vI z187],[vI z188],[vI 0],ent st185 4,[.sl n189 11
 c190],[cell (ent r199 0) 0,cell (ent r199 0) 1,cell (ent r199 0) 2,cell (el c190 11 (Int.toNat z188)) 0,cell (ent r200 0) 0,cell (ent r200 0)
 1,cell (ent r200 0) 2,cell (el c190 11 (Int.toNat z188)) 1,cell (sub (el c190 11 (Int.toNat z188)) 5 5) 0,cell (sub (el c190 11 (Int.toNat
 z188)) 5 5) 1,cell (sub (el c190 11 (Int.toNat z188)) 5 5) 2,cell (sub (el c190 11 (Int.toNat z188)) 5 5) 3,cell (sub (el c190 11 (Int.toNat
 z188)) 5 5) 4,vI 0,vI 0,vI 0,vI 0,vI 0,vI 0,vI 0,vI 0,vI 0,vI 0,vI 0,vI 0,.sl 0 5 [],.sl 0 15 [],.sl 0 1 [],vI 0,.sl 0 1 []],[cell
 (ent st185 6) 0,cell (ent st185 6) 1,cell (ent st185 6) 2,cell (ent st185 6) 3,cell (ent st185 6) 4,cell (ent st185 6) 5,cell (ent st185 6) 6,
 cell (ent st185 6) 7,cell (ent st185 6) 8],[.sl n191 31 c192],[.sl 0 11 []],[.sl n193 3 c194],[.sl n195 3 c196],[.sl n197 3 c198]])))))) (Lp
 (fun next232 st233=>intK (cell (ent st233 0) 0) fun z234=>intK (cell (ent st233 1) 0) fun z235=>slcK 31 (cell (ent st233 5) 0) fun n236 c237
 => ifK (decide (z235 < (n236 : Int))) (ckK (0≤z235∧z235 < (n236 : Int)) (intK (cell (el c237 31 (Int.toNat z235)) 3) fun z238=>ifK (decide
 (z238 = (0 : Int))) (ckK (okI (z235+1)) (next232 [[vI z234],[vI (z235+1)],ent st233 2,[cell (ent st233 3) 0],[cell (ent st233 4) 0,cell
 (ent st233 4) 1,cell (ent st233 4) 2,cell (ent st233 4) 3,cell (ent st233 4) 4,cell (ent st233 4) 5,cell (ent st233 4) 6,cell (ent st233 4) 7,
 cell (ent st233 4) 8,cell (ent st233 4) 9],[.sl n236 31 c237]])) (intK (cell (el c237 31 (Int.toNat z235)) 3) fun z239=>ifK (decide (z239 = (1 :
 Int))) (ckK (okI (z235+1)) (next232 [[vI z234],[vI (z235+1)],ent st233 2,[cell (ent st233 3) 0],[cell (ent st233 4) 0,cell (ent st233 4) 1,
 cell (ent st233 4) 2,cell (ent st233 4) 3,cell (ent st233 4) 4,cell (ent st233 4) 5,cell (ent st233 4) 6,cell (ent st233 4) 7,cell (ent st233
 4) 8,cell (ent st233 4) 9],[.sl n236 31 c237]])) (Lp (fun next240 st241=>intK (cell (ent st241 0) 0) fun z242=>intK (cell (ent st241 1) 0) fun
 z243=>intK (cell (ent st241 2) 0) fun z244=>slcK 9 (cell (ent st241 7) 0) fun n245 c246=>slcK 31 (cell (ent st241 8) 0) fun n247 c248=>slcK
 11 (cell (ent st241 6) 8) fun n249 c250=>ifK (decide (z244 < (n249 : Int))) (slcK 11 (cell (ent st241 6) 8) fun n251 c252=>ckK (0≤z244∧z244
 < (n251 : Int)) (slcK 11 (cell (ent st241 6) 8) fun n253 c254=>ckK (0≤z244∧z244 < (n253 : Int)) (ckK (room (n245+1) 89) (ckK (okI (z244 +
 1)) (next240 [[vI z242],[vI z243],[vI (z244+1)],ent st241 3,[cell (ent st241 4) 0],[cell (ent st241 5) 0,cell (ent st241 5) 1,cell (ent
 st241 5) 2,cell (ent st241 5) 3,cell (ent st241 5) 4,cell (ent st241 5) 5,cell (ent st241 5) 6,cell (ent st241 5) 7,cell (ent st241 5) 8,cell
 (ent st241 5) 9],ent st241 6,[.sl (n245+1) 9 (c246++[cell (sub (el c252 11 (Int.toNat z244)) 0 3) 0,cell (sub (el c252 11 (Int.toNat z244)) 0
 3) 1,cell (sub (el c252 11 (Int.toNat z244)) 0 3) 2,vI 0,cell (sub (el c254 11 (Int.toNat z244)) 4 5) 0,cell (sub (el c254 11 (Int.toNat z244))
 4 5) 1,cell (sub (el c254 11 (Int.toNat z244)) 4 5) 2,cell (sub (el c254 11 (Int.toNat z244)) 4 5) 3,cell (sub (el c254 11 (Int.toNat z244)) 4 5)
 4])],[.sl n247 31 c248]]))))) (caK Is s49 [sub (ent st241 6) 9 5,[.sl n245 9 c246],[vI 4],[cell (ent st241 5) 0,cell (ent st241 5) 1,cell (ent
 st241 5) 2,cell (ent st241 5) 3,vI 14,vI z243,cell (sub (ent st241 6) 4 3) 0,cell (sub (ent st241 6) 4 3) 1,cell (sub (ent st241 6) 4 3) 2,vI
 0],[.sl n247 31 c248]] fun r255=>slcK 1 (cell (ent r255 1) 0) fun n256 c257=>slcK 31 (cell (ent r255 3) 0) fun n258 c259=>ckK (0≤z243 ∧
 z243 < (n258 : Int)) (ckK (0≤z243∧z243 < (n258 : Int)) (caK Is s50 [sub (el (upd c259 ((Int.toNat z243) * 31+14) [cell (ent r255 0) 0,cell
 (ent r255 0) 1,cell (ent r255 0) 2,cell (ent r255 0) 3,cell (ent r255 0) 4,cell (ent r255 0) 5,cell (ent r255 0) 6,cell (ent r255 0) 7,cell
 (ent r255 0) 8,cell (ent r255 0) 9,cell (ent r255 0) 10,cell (ent r255 0) 11,cell (ent r255 0) 12,cell (ent r255 0) 13,.sl n256 1 c257]) 31
 (Int.toNat z243)) 14 15] fun r260=>intK (cell (ent r260 0) 0) fun z261=>ifK (decide ((30 : Int) < z261)) (caK Is s49 [sub (ent st241 6) 9 5,
 [.sl n245 9 c246],[vI 0],[cell (ent r255 2) 0,cell (ent r255 2) 1,cell (ent r255 2) 2,cell (ent r255 2) 3,vI 0,cell (ent r255 2) 5,cell (ent
 r255 2) 6,cell (ent r255 2) 7,cell (ent r255 2) 8,cell (ent r255 2) 9],[.sl n258 31 (upd c259 ((Int.toNat z243) * 31+14) [cell (ent r255 0) 0,
 cell (ent r255 0) 1,cell (ent r255 0) 2,cell (ent r255 0) 3,cell (ent r255 0) 4,cell (ent r255 0) 5,cell (ent r255 0) 6,cell (ent r255 0) 7,
 cell (ent r255 0) 8,cell (ent r255 0) 9,cell (ent r255 0) 10,cell (ent r255 0) 11,cell (ent r255 0) 12,cell (ent r255 0) 13,.sl n256 1
 c257])]] fun r262=>slcK 1 (cell (ent r262 1) 0) fun n263 c264=>slcK 31 (cell (ent r262 3) 0) fun n265 c266=>ckK (0≤z243∧z243 < (n265 :
 Int)) (ckK (okI (z243+1)) (next232 [[vI z242],[vI (z243+1)],ent st241 3,[cell (ent st241 4) 0],[cell (ent r262 2) 0,cell (ent r262 2) 1,
 cell (ent r262 2) 2,cell (ent r262 2) 3,cell (ent r262 2) 4,cell (ent r262 2) 5,cell (ent r262 2) 6,cell (ent r262 2) 7,cell (ent r262 2) 8,
 cell (ent r262 2) 9],[.sl n265 31 (upd c266 ((Int.toNat z243) * 31+14) [cell (ent r262 0) 0,cell (ent r262 0) 1,cell (ent r262 0) 2,cell (ent
 r262 0) 3,cell (ent r262 0) 4,cell (ent r262 0) 5,cell (ent r262 0) 6,cell (ent r262 0) 7,cell (ent r262 0) 8,cell (ent r262 0) 9,cell (ent
 r262 0) 10,cell (ent r262 0) 11,cell (ent r262 0) 12,cell (ent r262 0) 13,.sl n263 1 c264])]]))) (ckK (okI (z243+1)) (next232 [[vI z242],[vI
 (z243+1)],ent st241 3,[cell (ent st241 4) 0],[cell (ent r255 2) 0,cell (ent r255 2) 1,cell (ent r255 2) 2,cell (ent r255 2) 3,cell (ent
 r255 2) 4,cell (ent r255 2) 5,cell (ent r255 2) 6,cell (ent r255 2) 7,cell (ent r255 2) 8,cell (ent r255 2) 9],[.sl n258 31 (upd c259
 ((Int.toNat z243) * 31+14) [cell (ent r255 0) 0,cell (ent r255 0) 1,cell (ent r255 0) 2,cell (ent r255 0) 3,cell (ent r255 0) 4,cell (ent
 r255 0) 5,cell (ent r255 0) 6,cell (ent r255 0) 7,cell (ent r255 0) 8,cell (ent r255 0) 9,cell (ent r255 0) 10,cell (ent r255 0) 11,cell (ent
 r255 0) 12,cell (ent r255 0) 13,.sl n256 1 c257])]])))))) [[vI z234],[vI z235],[vI 0],ent st233 2,[cell (ent st233 3) 0],[cell (ent st233 4)
 0,cell (ent st233 4) 1,cell (ent st233 4) 2,cell (ent st233 4) 3,cell (ent st233 4) 4,cell (ent st233 4) 5,cell (ent st233 4) 6,cell (ent
 st233 4) 7,cell (ent st233 4) 8,cell (ent st233 4) 9],el c237 31 (Int.toNat z235),[.sl 0 9 []],[.sl n236 31 c237]])))) (intK (cell (ent st233
 4) 3) fun z267=>intK (cell (ent st233 4) 3) fun z268=>ckK (0≤z267∧z267 = z268∧room (Int.toNat z267) 25) (Lp (fun next269 st270=>intK
 (cell (ent st270 0) 0) fun z271=>intK (cell (ent st270 1) 0) fun z272=>slcK 3 (cell (ent st270 4) 0) fun n273 c274=>slcK 31 (cell (ent st270
 5) 0) fun n275 c276=>ifK (decide (z272 < (n275 : Int))) (ckK (0≤z272∧z272 < (n275 : Int)) (intK (cell (el c276 31 (Int.toNat z272)) 3) fun
 z277=>ifK (decide (z277 = (0 : Int))) (ckK (okI (z272+1)) (next269 [[vI z271],[vI (z272+1)],ent st270 2,[cell (ent st270 3) 0],[.sl n273 3
 c274],[.sl n275 31 c276]])) (ckK (0≤z272∧z272 < (n275 : Int)) (intK (cell (el c276 31 (Int.toNat z272)) 3) fun z278=>ifK (decide (z278 = (1 :
 Int))) (ckK (okI (z272+1)) (next269 [[vI z271],[vI (z272+1)],ent st270 2,[cell (ent st270 3) 0],[.sl n273 3 c274],[.sl n275 31 c276]]))
 (ckK (0≤z272∧z272 < (n275 : Int)) (caK Is s51 [sub (el c276 31 (Int.toNat z272)) 14 15,[.sl 0 1 []]] fun r279=>slcK 1 (cell (ent r279 0) 0)
 fun n280 c281=>Lp (fun next282 st283=>intK (cell (ent st283 0) 0) fun z284=>intK (cell (ent st283 1) 0) fun z285=>intK (cell (ent st283 2)
 0) fun z286=>slcK 3 (cell (ent st283 5) 0) fun n287 c288=>slcK 1 (cell (ent st283 6) 0) fun n289 c290=>slcK 31 (cell (ent st283 7) 0) fun n291
 c292=>ifK (decide (z286 < (n289 : Int))) (ckK (0≤z286∧z286 < (n289 : Int)) (caK Is s39 [[vI z284]] fun r293=>intK (cell (el c290 1
 (Int.toNat z286)) 0) fun z294=>ckK (0≤z294∧z294 < (n287 : Int)) (ckK (okI (z284+1)) (ckK (okI (z286+1)) (next282 [[vI (z284+1)],[vI
 z285],[vI (z286+1)],ent st283 3,[cell (ent st283 4) 0],[.sl n287 3 (upd c288 ((Int.toNat z294) * 3+0) (ent r293 0))],[.sl n289 1 c290],
 [.sl n291 31 c292]]))))) (ckK (0≤z285∧z285 < (n291 : Int)) (caK Is s52 [sub (el c292 31 (Int.toNat z285)) 14 15,[.sl n287 3 c288]] fun r295 =>
 slcK 15 (cell (ent r295 1) 0) fun n296 c297=>slcK 3 (cell (ent r295 2) 0) fun n298 c299=>ckK (0≤z285∧z285 < (n291 : Int)) (ckK (okI (z285 +
 1)) (next269 [[vI z284],[vI (z285+1)],ent st283 3,[cell (ent st283 4) 0],[.sl n298 3 c299],[.sl n291 31 (upd c292 ((Int.toNat z285) * 31 +
 14) [cell (ent r295 0) 0,cell (ent r295 0) 1,cell (ent r295 0) 2,cell (ent r295 0) 3,cell (ent r295 0) 4,cell (ent r295 0) 5,cell (ent r295 0)
 6,cell (ent r295 0) 7,cell (ent r295 0) 8,cell (ent r295 0) 9,cell (ent r295 0) 10,cell (ent r295 0) 11,cell (ent r295 0) 12,.sl n296 15
 c297,cell (ent r295 0) 13])]]))))) [[vI z271],[vI z272],[vI 0],ent st270 2,[cell (ent st270 3) 0],[.sl n273 3 c274],[.sl n280 1 c281],[.sl
 n275 31 c276]])))))) (K [[cell (ent st270 3) 0,.sl n275 31 c276]])) [[vI z234],[vI 0],ent st233 2,[cell (ent st233 3) 0],[.sl (Int.toNat z267)
 3 (List.flatten (List.replicate (Int.toNat z267) [vI 0,vI 0,vI 0]))],[.sl n236 31 c237]]))) [[vI z187],[vI 0],ent st185 4,[.sl 2 6 [cell (ent
 st185 6) 0,cell (ent st185 6) 1,cell (ent st185 6) 2,cell (ent st185 6) 3,cell (ent st185 6) 4,.sl n193 3 c194,cell (ent st185 6) 5,cell (ent
 st185 6) 6,cell (ent st185 6) 7,cell (ent st185 6) 8,.sl n195 3 c196,.sl n197 3 c198]],[.sl 2 6 [cell (ent st185 6) 0,cell (ent st185 6) 1,
 cell (ent st185 6) 2,cell (ent st185 6) 3,cell (ent st185 6) 4,.sl n193 3 c194,cell (ent st185 6) 5,cell (ent st185 6) 6,cell (ent st185 6) 7,
 cell (ent st185 6) 8,.sl n195 3 c196,.sl n197 3 c198],cell (ent st185 0) 0,vI 24,vI 0,vI 0,vI 0,vI 0,vI 0,vI 0,vI 0],[.sl n191 31
 c192]])) [[cell (ent a 0) 0],[vI (1+z2)],[vI ((1+z2)+(n8 : Int))],[vI 0],[.sl 0 6 [],.sl 0 31 []],[.sl n8 11 c9],[cell (ent r3 0) 0,
 cell (ent r3 0) 1,cell (ent r3 0) 2,cell (el ([vS (ByteArray.mk #[99,111,114,101]),vS (ByteArray.mk #[109,105,108,108])]) 1 0) 0,.sl 0 3
 [],cell (ent r4 0) 0,cell (ent r4 0) 1,cell (ent r4 0) 2,cell (el ([vS (ByteArray.mk #[99,111,114,101]),vS (ByteArray.mk #[109,105,108,
 108])]) 1 1) 0],[.sl 0 31 []],[.sl 0 3 []],[.sl 1 3 ((ent r5 0)++[])],[.sl 0 3 []]])))))) (caK Is s48 [[cell (ent a 0) 0],[vI (1+z2)]] fun
 r300=>slcK 11 (cell (ent r300 0) 0) fun n301 c302=>ckK (okI ((1+z2)+(n301 : Int))) (Lp (fun next436 st437=>intK (cell (ent st437 1) 0) fun
 z438=>intK (cell (ent st437 2) 0) fun z439=>intK (cell (ent st437 3) 0) fun z440=>slcK 11 (cell (ent st437 5) 0) fun n441 c442=>slcK 31
 (cell (ent st437 7) 0) fun n443 c444=>slcK 3 (cell (ent st437 8) 0) fun n445 c446=>ifK (decide (z440 < (n441 : Int))) (ckK (okI (z438+z440))
 (caK Is s39 [[vI (z438+z440)]] fun r447=>ckK (0≤z440∧z440 < (n441 : Int)) (ckK (0≤z440∧z440 < (n441 : Int)) (caK Is s39 [[cell (el c442
 11 (Int.toNat z440)) 10]] fun r448=>ckK (0≤z440∧z440 < (n441 : Int)) (ckK (0≤z440∧z440 < (n441 : Int)) (Lp (fun next449 st450=>intK
 (cell (ent st450 1) 0) fun z451=>intK (cell (ent st450 2) 0) fun z452=>intK (cell (ent st450 3) 0) fun z453=>intK (cell (ent st450 4) 0) fun
 z454=>slcK 11 (cell (ent st450 6) 0) fun n455 c456=>slcK 31 (cell (ent st450 9) 0) fun n457 c458=>slcK 11 (cell (ent st450 10) 0) fun n459
 c460=>slcK 3 (cell (ent st450 11) 0) fun n461 c462=>ckK (0≤z453∧z453 < (n455 : Int)) (slcK 5 (cell (el c456 11 (Int.toNat z453)) 2) fun n463
 c464=>ifK (decide (z454 < (n463 : Int))) (caK Is s39 [[vI z452]] fun r465=>ckK (0≤z453∧z453 < (n455 : Int)) (slcK 1 (cell (el c456 11
 (Int.toNat z453)) 3) fun n466 c467=>ckK (0≤z454∧z454 < (n466 : Int)) (ckK (0≤z453∧z453 < (n455 : Int)) (slcK 5 (cell (el c456 11
 (Int.toNat z453)) 2) fun n468 c469=>ckK (0≤z454∧z454 < (n468 : Int)) (intK (cell (ent st450 7) 3) fun z470=>ifK (decide (z470 = (4 : Int)))
 (ckK (0≤z453∧z453 < (n455 : Int)) (slcK 1 (cell (el c456 11 (Int.toNat z453)) 4) fun n471 c472=>ckK (0≤z454∧z454 < (n471 : Int)) (ckK
 (room (n459+1) 113) (ckK (okI (z452+1)) (ckK (okI (z454+1)) (next449 [[cell (ent st450 0) 0],[vI z451],[vI (z452+1)],[vI z453],[vI (z454
 + 1)],ent st450 5,[.sl n455 11 c456],[cell (ent st450 7) 0,cell (ent st450 7) 1,cell (ent st450 7) 2,cell (ent st450 7) 3,cell (ent st450 7)
 4,cell (ent st450 7) 5,cell (ent st450 7) 6,cell (ent st450 7) 7,cell (ent st450 7) 8,cell (ent st450 7) 9,cell (ent st450 7) 10,cell (ent
 st450 7) 11,cell (ent st450 7) 12,cell (ent st450 7) 13,cell (ent st450 7) 14,cell (ent st450 7) 15,cell (ent st450 7) 16,cell (ent st450 7)
 17,cell (ent st450 7) 18,cell (ent st450 7) 19,cell (ent st450 7) 20,cell (ent st450 7) 21,cell (ent st450 7) 22,cell (ent st450 7) 23,cell
 (ent st450 7) 24,cell (ent st450 7) 25,cell (ent st450 7) 26,cell (ent st450 7) 27,cell (ent st450 7) 28,cell (ent st450 7) 29],[cell (ent
 st450 8) 0,cell (ent st450 8) 1,cell (ent st450 8) 2,cell (ent st450 8) 3,cell (ent st450 8) 4],[.sl n457 31 c458],[.sl (n459+1) 11 (c460 ++
 [cell (ent r465 0) 0,cell (ent r465 0) 1,cell (ent r465 0) 2,cell (el c467 1 (Int.toNat z454)) 0,cell (el c469 5 (Int.toNat z454)) 0,cell (el
 c469 5 (Int.toNat z454)) 1,cell (el c469 5 (Int.toNat z454)) 2,cell (el c469 5 (Int.toNat z454)) 3,cell (el c469 5 (Int.toNat z454)) 4,cell (el
 c472 1 (Int.toNat z454)) 0,vI z454])],[.sl n461 3 c462]])))))) (ckK (room (n459+1) 113) (ckK (okI (z452+1)) (ckK (okI (z454+1)) (next449
 [[cell (ent st450 0) 0],[vI z451],[vI (z452+1)],[vI z453],[vI (z454+1)],ent st450 5,[.sl n455 11 c456],[cell (ent st450 7) 0,cell (ent
 st450 7) 1,cell (ent st450 7) 2,cell (ent st450 7) 3,cell (ent st450 7) 4,cell (ent st450 7) 5,cell (ent st450 7) 6,cell (ent st450 7) 7,cell
 (ent st450 7) 8,cell (ent st450 7) 9,cell (ent st450 7) 10,cell (ent st450 7) 11,cell (ent st450 7) 12,cell (ent st450 7) 13,cell (ent st450
 7) 14,cell (ent st450 7) 15,cell (ent st450 7) 16,cell (ent st450 7) 17,cell (ent st450 7) 18,cell (ent st450 7) 19,cell (ent st450 7) 20,
 cell (ent st450 7) 21,cell (ent st450 7) 22,cell (ent st450 7) 23,cell (ent st450 7) 24,cell (ent st450 7) 25,cell (ent st450 7) 26,cell (ent
 st450 7) 27,cell (ent st450 7) 28,cell (ent st450 7) 29],[cell (ent st450 8) 0,cell (ent st450 8) 1,cell (ent st450 8) 2,cell (ent st450 8) 3,
 cell (ent st450 8) 4],[.sl n457 31 c458],[.sl (n459+1) 11 (c460++[cell (ent r465 0) 0,cell (ent r465 0) 1,cell (ent r465 0) 2,cell (el c467
 1 (Int.toNat z454)) 0,cell (el c469 5 (Int.toNat z454)) 0,cell (el c469 5 (Int.toNat z454)) 1,cell (el c469 5 (Int.toNat z454)) 2,cell (el c469
 5 (Int.toNat z454)) 3,cell (el c469 5 (Int.toNat z454)) 4,vI 0,vI z454])],[.sl n461 3 c462]]))))))))) (ckK (room (n457+1) 353) (ckK (0≤z453
 ∧ z453 < (n455 : Int)) (ckK (0≤z453∧z453 < (n455 : Int)) (intK (cell (el c456 11 (Int.toNat z453)) 10) fun z473=>ckK (0≤z473∧z473 < ((1 :
 Nat) : Int)) (ifK (decide (z473 = ((0 : Nat) : Int))) (ckK (room (n461+1) 25) (intK (cell (el c456 11 (Int.toNat z453)) 10) fun z474=>ckK (0 ≤
 z474∧z474 < ((1 : Nat) : Int)) (ifK (decide (z474 = ((0 : Nat) : Int))) (ckK (okI (z453+1)) (next436 [[cell (ent st450 0) 0],[vI z451],[vI
 z452],[vI (z453+1)],ent st450 5,[.sl n455 11 c456],[cell (ent st450 8) 0,cell (ent st450 8) 1,cell (ent st450 8) 2,cell (ent st450 8) 3,
 cell (ent st450 8) 4],[.sl (n457+1) 31 (c458++[cell (ent st450 7) 0,cell (ent st450 7) 1,cell (ent st450 7) 2,cell (ent st450 7) 3,cell
 (ent st450 7) 4,cell (ent st450 7) 5,cell (ent st450 7) 6,cell (ent st450 7) 7,.sl n459 11 c460,cell (ent st450 7) 8,cell (ent st450 7) 9,
 cell (ent st450 7) 10,cell (ent st450 7) 11,cell (ent st450 7) 12,cell (ent st450 7) 13,cell (ent st450 7) 14,cell (ent st450 7) 15,cell (ent
 st450 7) 16,cell (ent st450 7) 17,cell (ent st450 7) 18,cell (ent st450 7) 19,cell (ent st450 7) 20,cell (ent st450 7) 21,cell (ent st450 7)
 22,cell (ent st450 7) 23,cell (ent st450 7) 24,cell (ent st450 7) 25,cell (ent st450 7) 26,cell (ent st450 7) 27,cell (ent st450 7) 28,cell
 (ent st450 7) 29])],[.sl (n461+1) 3 (c462++[cell (ent st450 7) 0,cell (ent st450 7) 1,cell (ent st450 7) 2])]])) (False)))) (False))))))))
 [[cell (ent st437 0) 0],[vI z438],[vI z439],[vI z440],[vI 0],ent st437 4,[.sl n441 11 c442],[cell (ent r447 0) 0,cell (ent r447 0) 1,cell
 (ent r447 0) 2,cell (el c442 11 (Int.toNat z440)) 0,cell (ent r448 0) 0,cell (ent r448 0) 1,cell (ent r448 0) 2,cell (el c442 11 (Int.toNat
 z440)) 1,cell (sub (el c442 11 (Int.toNat z440)) 5 5) 0,cell (sub (el c442 11 (Int.toNat z440)) 5 5) 1,cell (sub (el c442 11 (Int.toNat z440)) 5
 5) 2,cell (sub (el c442 11 (Int.toNat z440)) 5 5) 3,cell (sub (el c442 11 (Int.toNat z440)) 5 5) 4,vI 0,vI 0,vI 0,vI 0,vI 0,vI 0,vI 0,vI
 0,vI 0,vI 0,vI 0,vI 0,.sl 0 5 [],.sl 0 15 [],.sl 0 1 [],vI 0,.sl 0 1 []],[cell (ent st437 6) 0,cell (ent st437 6) 1,cell (ent st437 6)
 2,cell (ent st437 6) 3,cell (ent st437 6) 4],[.sl n443 31 c444],[.sl 0 11 []],[.sl n445 3 c446]])))))) (Lp (fun next475 st476=>intK (cell
 (ent st476 0) 0) fun z477=>intK (cell (ent st476 1) 0) fun z478=>slcK 31 (cell (ent st476 5) 0) fun n479 c480=>ifK (decide (z478 < (n479 :
 Int))) (ckK (0≤z478∧z478 < (n479 : Int)) (intK (cell (el c480 31 (Int.toNat z478)) 3) fun z481=>ifK (decide (z481 = (0 : Int))) (ckK (okI
 (z478+1)) (next475 [[vI z477],[vI (z478+1)],ent st476 2,[cell (ent st476 3) 0],[cell (ent st476 4) 0,cell (ent st476 4) 1,cell (ent st476
 4) 2,cell (ent st476 4) 3,cell (ent st476 4) 4,cell (ent st476 4) 5,cell (ent st476 4) 6,cell (ent st476 4) 7,cell (ent st476 4) 8,cell (ent
 st476 4) 9],[.sl n479 31 c480]])) (intK (cell (el c480 31 (Int.toNat z478)) 3) fun z482=>ifK (decide (z482 = (1 : Int))) (ckK (okI (z478+1))
 (next475 [[vI z477],[vI (z478+1)],ent st476 2,[cell (ent st476 3) 0],[cell (ent st476 4) 0,cell (ent st476 4) 1,cell (ent st476 4) 2,cell
 (ent st476 4) 3,cell (ent st476 4) 4,cell (ent st476 4) 5,cell (ent st476 4) 6,cell (ent st476 4) 7,cell (ent st476 4) 8,cell (ent st476 4)
 9],[.sl n479 31 c480]])) (Lp (fun next483 st484=>intK (cell (ent st484 0) 0) fun z485=>intK (cell (ent st484 1) 0) fun z486=>intK (cell (ent
 st484 2) 0) fun z487=>slcK 9 (cell (ent st484 7) 0) fun n488 c489=>slcK 31 (cell (ent st484 8) 0) fun n490 c491=>slcK 11 (cell (ent st484 6)
 8) fun n492 c493=>ifK (decide (z487 < (n492 : Int))) (slcK 11 (cell (ent st484 6) 8) fun n494 c495=>ckK (0≤z487∧z487 < (n494 : Int)) (slcK
 11 (cell (ent st484 6) 8) fun n496 c497=>ckK (0≤z487∧z487 < (n496 : Int)) (ckK (room (n488+1) 89) (ckK (okI (z487+1)) (next483 [[vI z485],
 [vI z486],[vI (z487+1)],ent st484 3,[cell (ent st484 4) 0],[cell (ent st484 5) 0,cell (ent st484 5) 1,cell (ent st484 5) 2,cell (ent st484
 5) 3,cell (ent st484 5) 4,cell (ent st484 5) 5,cell (ent st484 5) 6,cell (ent st484 5) 7,cell (ent st484 5) 8,cell (ent st484 5) 9],ent st484
 6,[.sl (n488+1) 9 (c489++[cell (sub (el c495 11 (Int.toNat z487)) 0 3) 0,cell (sub (el c495 11 (Int.toNat z487)) 0 3) 1,cell (sub (el c495 11
 (Int.toNat z487)) 0 3) 2,vI 0,cell (sub (el c497 11 (Int.toNat z487)) 4 5) 0,cell (sub (el c497 11 (Int.toNat z487)) 4 5) 1,cell (sub (el c497
 11 (Int.toNat z487)) 4 5) 2,cell (sub (el c497 11 (Int.toNat z487)) 4 5) 3,cell (sub (el c497 11 (Int.toNat z487)) 4 5) 4])],[.sl n490 31
 c491]]))))) (caK Is s49 [sub (ent st484 6) 9 5,[.sl n488 9 c489],[vI 4],[cell (ent st484 5) 0,cell (ent st484 5) 1,cell (ent st484 5) 2,cell
 (ent st484 5) 3,vI 14,vI z486,cell (sub (ent st484 6) 4 3) 0,cell (sub (ent st484 6) 4 3) 1,cell (sub (ent st484 6) 4 3) 2,vI 0],[.sl n490 31
 c491]] fun r498=>slcK 1 (cell (ent r498 1) 0) fun n499 c500=>slcK 31 (cell (ent r498 3) 0) fun n501 c502=>ckK (0≤z486∧z486 < (n501 : Int))
 (ckK (0≤z486∧z486 < (n501 : Int)) (caK Is s50 [sub (el (upd c502 ((Int.toNat z486) * 31+14) [cell (ent r498 0) 0,cell (ent r498 0) 1,cell
 (ent r498 0) 2,cell (ent r498 0) 3,cell (ent r498 0) 4,cell (ent r498 0) 5,cell (ent r498 0) 6,cell (ent r498 0) 7,cell (ent r498 0) 8,cell
 (ent r498 0) 9,cell (ent r498 0) 10,cell (ent r498 0) 11,cell (ent r498 0) 12,cell (ent r498 0) 13,.sl n499 1 c500]) 31 (Int.toNat z486)) 14
 15] fun r503=>intK (cell (ent r503 0) 0) fun z504=>ifK (decide ((30 : Int) < z504)) (caK Is s49 [sub (ent st484 6) 9 5,[.sl n488 9 c489],[vI
 0],[cell (ent r498 2) 0,cell (ent r498 2) 1,cell (ent r498 2) 2,cell (ent r498 2) 3,vI 0,cell (ent r498 2) 5,cell (ent r498 2) 6,cell (ent
 r498 2) 7,cell (ent r498 2) 8,cell (ent r498 2) 9],[.sl n501 31 (upd c502 ((Int.toNat z486) * 31+14) [cell (ent r498 0) 0,cell (ent r498 0) 1,
 cell (ent r498 0) 2,cell (ent r498 0) 3,cell (ent r498 0) 4,cell (ent r498 0) 5,cell (ent r498 0) 6,cell (ent r498 0) 7,cell (ent r498 0) 8,
 cell (ent r498 0) 9,cell (ent r498 0) 10,cell (ent r498 0) 11,cell (ent r498 0) 12,cell (ent r498 0) 13,.sl n499 1 c500])]] fun r505=>slcK 1
 (cell (ent r505 1) 0) fun n506 c507=>slcK 31 (cell (ent r505 3) 0) fun n508 c509=>ckK (0≤z486∧z486 < (n508 : Int)) (ckK (okI (z486+1))
 (next475 [[vI z485],[vI (z486+1)],ent st484 3,[cell (ent st484 4) 0],[cell (ent r505 2) 0,cell (ent r505 2) 1,cell (ent r505 2) 2,cell (ent
 r505 2) 3,cell (ent r505 2) 4,cell (ent r505 2) 5,cell (ent r505 2) 6,cell (ent r505 2) 7,cell (ent r505 2) 8,cell (ent r505 2) 9],[.sl n508
 31 (upd c509 ((Int.toNat z486) * 31+14) [cell (ent r505 0) 0,cell (ent r505 0) 1,cell (ent r505 0) 2,cell (ent r505 0) 3,cell (ent r505 0) 4,
 cell (ent r505 0) 5,cell (ent r505 0) 6,cell (ent r505 0) 7,cell (ent r505 0) 8,cell (ent r505 0) 9,cell (ent r505 0) 10,cell (ent r505 0) 11,
 cell (ent r505 0) 12,cell (ent r505 0) 13,.sl n506 1 c507])]]))) (ckK (okI (z486+1)) (next475 [[vI z485],[vI (z486+1)],ent st484 3,[cell
 (ent st484 4) 0],[cell (ent r498 2) 0,cell (ent r498 2) 1,cell (ent r498 2) 2,cell (ent r498 2) 3,cell (ent r498 2) 4,cell (ent r498 2) 5,
 cell (ent r498 2) 6,cell (ent r498 2) 7,cell (ent r498 2) 8,cell (ent r498 2) 9],[.sl n501 31 (upd c502 ((Int.toNat z486) * 31+14) [cell (ent
 r498 0) 0,cell (ent r498 0) 1,cell (ent r498 0) 2,cell (ent r498 0) 3,cell (ent r498 0) 4,cell (ent r498 0) 5,cell (ent r498 0) 6,cell (ent
 r498 0) 7,cell (ent r498 0) 8,cell (ent r498 0) 9,cell (ent r498 0) 10,cell (ent r498 0) 11,cell (ent r498 0) 12,cell (ent r498 0) 13,.sl
 n499 1 c500])]])))))) [[vI z477],[vI z478],[vI 0],ent st476 2,[cell (ent st476 3) 0],[cell (ent st476 4) 0,cell (ent st476 4) 1,cell (ent
 st476 4) 2,cell (ent st476 4) 3,cell (ent st476 4) 4,cell (ent st476 4) 5,cell (ent st476 4) 6,cell (ent st476 4) 7,cell (ent st476 4) 8,cell
 (ent st476 4) 9],el c480 31 (Int.toNat z478),[.sl 0 9 []],[.sl n479 31 c480]])))) (intK (cell (ent st476 4) 3) fun z510=>intK (cell (ent st476
 4) 3) fun z511=>ckK (0≤z510∧z510 = z511∧room (Int.toNat z510) 25) (Lp (fun next512 st513=>intK (cell (ent st513 0) 0) fun z514=>intK
 (cell (ent st513 1) 0) fun z515=>slcK 3 (cell (ent st513 4) 0) fun n516 c517=>slcK 31 (cell (ent st513 5) 0) fun n518 c519=>ifK (decide (z515
 < (n518 : Int))) (ckK (0≤z515∧z515 < (n518 : Int)) (intK (cell (el c519 31 (Int.toNat z515)) 3) fun z520=>ifK (decide (z520 = (0 : Int))) (ckK
 (okI (z515+1)) (next512 [[vI z514],[vI (z515+1)],ent st513 2,[cell (ent st513 3) 0],[.sl n516 3 c517],[.sl n518 31 c519]])) (ckK (0≤z515
 ∧ z515 < (n518 : Int)) (intK (cell (el c519 31 (Int.toNat z515)) 3) fun z521=>ifK (decide (z521 = (1 : Int))) (ckK (okI (z515+1)) (next512 [[vI
 z514],[vI (z515+1)],ent st513 2,[cell (ent st513 3) 0],[.sl n516 3 c517],[.sl n518 31 c519]])) (ckK (0≤z515∧z515 < (n518 : Int)) (caK Is
 s51 [sub (el c519 31 (Int.toNat z515)) 14 15,[.sl 0 1 []]] fun r522=>slcK 1 (cell (ent r522 0) 0) fun n523 c524=>Lp (fun next525 st526=>intK
 (cell (ent st526 0) 0) fun z527=>intK (cell (ent st526 1) 0) fun z528=>intK (cell (ent st526 2) 0) fun z529=>slcK 3 (cell (ent st526 5) 0) fun
 n530 c531=>slcK 1 (cell (ent st526 6) 0) fun n532 c533=>slcK 31 (cell (ent st526 7) 0) fun n534 c535=>ifK (decide (z529 < (n532 : Int))) (ckK
 (0≤z529∧z529 < (n532 : Int)) (caK Is s39 [[vI z527]] fun r536=>intK (cell (el c533 1 (Int.toNat z529)) 0) fun z537=>ckK (0≤z537∧z537 <
 (n530 : Int)) (ckK (okI (z527+1)) (ckK (okI (z529+1)) (next525 [[vI (z527+1)],[vI z528],[vI (z529+1)],ent st526 3,[cell (ent st526 4)
 0],[.sl n530 3 (upd c531 ((Int.toNat z537) * 3+0) (ent r536 0))],[.sl n532 1 c533],[.sl n534 31 c535]]))))) (ckK (0≤z528∧z528 < (n534 :
 Int)) (caK Is s52 [sub (el c535 31 (Int.toNat z528)) 14 15,[.sl n530 3 c531]] fun r538=>slcK 15 (cell (ent r538 1) 0) fun n539 c540=>slcK 3
 (cell (ent r538 2) 0) fun n541 c542=>ckK (0≤z528∧z528 < (n534 : Int)) (ckK (okI (z528+1)) (next512 [[vI z527],[vI (z528+1)],ent st526 3,
 [cell (ent st526 4) 0],[.sl n541 3 c542],[.sl n534 31 (upd c535 ((Int.toNat z528) * 31+14) [cell (ent r538 0) 0,cell (ent r538 0) 1,cell (ent
 r538 0) 2,cell (ent r538 0) 3,cell (ent r538 0) 4,cell (ent r538 0) 5,cell (ent r538 0) 6,cell (ent r538 0) 7,cell (ent r538 0) 8,cell (ent
 r538 0) 9,cell (ent r538 0) 10,cell (ent r538 0) 11,cell (ent r538 0) 12,.sl n539 15 c540,cell (ent r538 0) 13])]]))))) [[vI z514],[vI z515],
 [vI 0],ent st513 2,[cell (ent st513 3) 0],[.sl n516 3 c517],[.sl n523 1 c524],[.sl n518 31 c519]])))))) (K [[cell (ent st513 3) 0,.sl n518 31
 c519]])) [[vI z477],[vI 0],ent st476 2,[cell (ent st476 3) 0],[.sl (Int.toNat z510) 3 (List.flatten (List.replicate (Int.toNat z510) [vI 0,vI
 0,vI 0]))],[.sl n479 31 c480]]))) [[vI z439],[vI 0],ent st437 4,[.sl 1 6 [cell (ent st437 6) 0,cell (ent st437 6) 1,cell (ent st437 6) 2,
 cell (ent st437 6) 3,cell (ent st437 6) 4,.sl n445 3 c446]],[.sl 1 6 [cell (ent st437 6) 0,cell (ent st437 6) 1,cell (ent st437 6) 2,cell (ent
 st437 6) 3,cell (ent st437 6) 4,.sl n445 3 c446],cell (ent st437 0) 0,vI 24,vI 0,vI 0,vI 0,vI 0,vI 0,vI 0,vI 0],[.sl n443 31 c444]]))
 [[cell (ent a 0) 0],[vI (1+z2)],[vI ((1+z2)+(n301 : Int))],[vI 0],[.sl 0 6 [],.sl 0 31 []],[.sl n301 11 c302],[cell (ent r3 0) 0,cell
 (ent r3 0) 1,cell (ent r3 0) 2,cell (el ([vS (ByteArray.mk #[99,111,114,101]),vS (ByteArray.mk #[109,105,108,108])]) 1 0) 0,.sl 0 3 []],
 [.sl 0 31 []],[.sl 0 3 []]])))))) (caK Is s48 [[cell (ent a 0) 0],[vI (1+z2)]] fun r543=>slcK 11 (cell (ent r543 0) 0) fun n544 c545=>ckK
 (okI ((1+z2)+(n544 : Int))) (Lp (fun next546 st547=>intK (cell (ent st547 1) 0) fun z548=>intK (cell (ent st547 2) 0) fun z549=>intK (cell
 (ent st547 3) 0) fun z550=>slcK 11 (cell (ent st547 6) 0) fun n551 c552=>slcK 31 (cell (ent st547 7) 0) fun n553 c554=>ifK (decide (z550 <
 (n551 : Int))) (ckK (okI (z548+z550)) (caK Is s39 [[vI (z548+z550)]] fun r555=>ckK (0≤z550∧z550 < (n551 : Int)) (ckK (0≤z550∧z550 <
 (n551 : Int)) (caK Is s39 [[cell (el c552 11 (Int.toNat z550)) 10]] fun r556=>ckK (0≤z550∧z550 < (n551 : Int)) (ckK (0≤z550∧z550 < (n551 :
 Int)) (Lp (fun next582 st583=>intK (cell (ent st583 1) 0) fun z584=>intK (cell (ent st583 2) 0) fun z585=>intK (cell (ent st583 3) 0) fun z586
 => intK (cell (ent st583 4) 0) fun z587=>slcK 11 (cell (ent st583 7) 0) fun n588 c589=>slcK 31 (cell (ent st583 9) 0) fun n590 c591=>slcK 11
 (cell (ent st583 10) 0) fun n592 c593=>ckK (0≤z586∧z586 < (n588 : Int)) (slcK 5 (cell (el c589 11 (Int.toNat z586)) 2) fun n594 c595=>ifK
 (decide (z587 < (n594 : Int))) (caK Is s39 [[vI z585]] fun r596=>ckK (0≤z586∧z586 < (n588 : Int)) (slcK 1 (cell (el c589 11 (Int.toNat z586))
 3) fun n597 c598=>ckK (0≤z587∧z587 < (n597 : Int)) (ckK (0≤z586∧z586 < (n588 : Int)) (slcK 5 (cell (el c589 11 (Int.toNat z586)) 2) fun
 n599 c600=>ckK (0≤z587∧z587 < (n599 : Int)) (intK (cell (ent st583 8) 3) fun z601=>ifK (decide (z601 = (4 : Int))) (ckK (0≤z586∧z586 <
 (n588 : Int)) (slcK 1 (cell (el c589 11 (Int.toNat z586)) 4) fun n602 c603=>ckK (0≤z587∧z587 < (n602 : Int)) (ckK (room (n592+1) 113) (ckK
 (okI (z585+1)) (ckK (okI (z587+1)) (next582 [[cell (ent st583 0) 0],[vI z584],[vI (z585+1)],[vI z586],[vI (z587+1)],ent st583 5,[cell
 (ent st583 6) 0],[.sl n588 11 c589],[cell (ent st583 8) 0,cell (ent st583 8) 1,cell (ent st583 8) 2,cell (ent st583 8) 3,cell (ent st583 8) 4,
 cell (ent st583 8) 5,cell (ent st583 8) 6,cell (ent st583 8) 7,cell (ent st583 8) 8,cell (ent st583 8) 9,cell (ent st583 8) 10,cell (ent st583
 8) 11,cell (ent st583 8) 12,cell (ent st583 8) 13,cell (ent st583 8) 14,cell (ent st583 8) 15,cell (ent st583 8) 16,cell (ent st583 8) 17,
 cell (ent st583 8) 18,cell (ent st583 8) 19,cell (ent st583 8) 20,cell (ent st583 8) 21,cell (ent st583 8) 22,cell (ent st583 8) 23,cell (ent
 st583 8) 24,cell (ent st583 8) 25,cell (ent st583 8) 26,cell (ent st583 8) 27,cell (ent st583 8) 28,cell (ent st583 8) 29],[.sl n590 31 c591],
 [.sl (n592+1) 11 (c593++[cell (ent r596 0) 0,cell (ent r596 0) 1,cell (ent r596 0) 2,cell (el c598 1 (Int.toNat z587)) 0,cell (el c600 5
 (Int.toNat z587)) 0,cell (el c600 5 (Int.toNat z587)) 1,cell (el c600 5 (Int.toNat z587)) 2,cell (el c600 5 (Int.toNat z587)) 3,cell (el c600 5
 (Int.toNat z587)) 4,cell (el c603 1 (Int.toNat z587)) 0,vI z587])]])))))) (ckK (room (n592+1) 113) (ckK (okI (z585+1)) (ckK (okI (z587+1))
 (next582 [[cell (ent st583 0) 0],[vI z584],[vI (z585+1)],[vI z586],[vI (z587+1)],ent st583 5,[cell (ent st583 6) 0],[.sl n588 11 c589],
 [cell (ent st583 8) 0,cell (ent st583 8) 1,cell (ent st583 8) 2,cell (ent st583 8) 3,cell (ent st583 8) 4,cell (ent st583 8) 5,cell (ent st583
 8) 6,cell (ent st583 8) 7,cell (ent st583 8) 8,cell (ent st583 8) 9,cell (ent st583 8) 10,cell (ent st583 8) 11,cell (ent st583 8) 12,cell
 (ent st583 8) 13,cell (ent st583 8) 14,cell (ent st583 8) 15,cell (ent st583 8) 16,cell (ent st583 8) 17,cell (ent st583 8) 18,cell (ent st583
 8) 19,cell (ent st583 8) 20,cell (ent st583 8) 21,cell (ent st583 8) 22,cell (ent st583 8) 23,cell (ent st583 8) 24,cell (ent st583 8) 25,
 cell (ent st583 8) 26,cell (ent st583 8) 27,cell (ent st583 8) 28,cell (ent st583 8) 29],[.sl n590 31 c591],[.sl (n592+1) 11 (c593++[cell
 (ent r596 0) 0,cell (ent r596 0) 1,cell (ent r596 0) 2,cell (el c598 1 (Int.toNat z587)) 0,cell (el c600 5 (Int.toNat z587)) 0,cell (el c600 5
 (Int.toNat z587)) 1,cell (el c600 5 (Int.toNat z587)) 2,cell (el c600 5 (Int.toNat z587)) 3,cell (el c600 5 (Int.toNat z587)) 4,vI 0,vI
 z587])]]))))))))) (ckK (room (n590+1) 353) (ckK (0≤z586∧z586 < (n588 : Int)) (ckK (0≤z586∧z586 < (n588 : Int)) (intK (cell (el c589 11
 (Int.toNat z586)) 10) fun z604=>slcK 6 (cell (ent st583 6) 0) fun n605 c606=>ckK (0≤z604∧z604 < (n605 : Int)) (False))))))) [[cell (ent
 st547 0) 0],[vI z548],[vI z549],[vI z550],[vI 0],ent st547 4,[cell (ent st547 5) 0],[.sl n551 11 c552],[cell (ent r555 0) 0,cell (ent r555
 0) 1,cell (ent r555 0) 2,cell (el c552 11 (Int.toNat z550)) 0,cell (ent r556 0) 0,cell (ent r556 0) 1,cell (ent r556 0) 2,cell (el c552 11
 (Int.toNat z550)) 1,cell (sub (el c552 11 (Int.toNat z550)) 5 5) 0,cell (sub (el c552 11 (Int.toNat z550)) 5 5) 1,cell (sub (el c552 11
 (Int.toNat z550)) 5 5) 2,cell (sub (el c552 11 (Int.toNat z550)) 5 5) 3,cell (sub (el c552 11 (Int.toNat z550)) 5 5) 4,vI 0,vI 0,vI 0,vI 0,vI
 0,vI 0,vI 0,vI 0,vI 0,vI 0,vI 0,vI 0,.sl 0 5 [],.sl 0 15 [],.sl 0 1 [],vI 0,.sl 0 1 []],[.sl n553 31 c554],[.sl 0 11 []]])))))) (Lp
 (fun next607 st608=>intK (cell (ent st608 0) 0) fun z609=>intK (cell (ent st608 1) 0) fun z610=>slcK 31 (cell (ent st608 5) 0) fun n611 c612
 => ifK (decide (z610 < (n611 : Int))) (ckK (0≤z610∧z610 < (n611 : Int)) (intK (cell (el c612 31 (Int.toNat z610)) 3) fun z613=>ifK (decide
 (z613 = (0 : Int))) (ckK (okI (z610+1)) (next607 [[vI z609],[vI (z610+1)],ent st608 2,[cell (ent st608 3) 0],[cell (ent st608 4) 0,cell
 (ent st608 4) 1,cell (ent st608 4) 2,cell (ent st608 4) 3,cell (ent st608 4) 4,cell (ent st608 4) 5,cell (ent st608 4) 6,cell (ent st608 4) 7,
 cell (ent st608 4) 8,cell (ent st608 4) 9],[.sl n611 31 c612]])) (intK (cell (el c612 31 (Int.toNat z610)) 3) fun z614=>ifK (decide (z614 = (1 :
 Int))) (ckK (okI (z610+1)) (next607 [[vI z609],[vI (z610+1)],ent st608 2,[cell (ent st608 3) 0],[cell (ent st608 4) 0,cell (ent st608 4) 1,
 cell (ent st608 4) 2,cell (ent st608 4) 3,cell (ent st608 4) 4,cell (ent st608 4) 5,cell (ent st608 4) 6,cell (ent st608 4) 7,cell (ent st608
 4) 8,cell (ent st608 4) 9],[.sl n611 31 c612]])) (Lp (fun next615 st616=>intK (cell (ent st616 0) 0) fun z617=>intK (cell (ent st616 1) 0) fun
 z618=>intK (cell (ent st616 2) 0) fun z619=>slcK 9 (cell (ent st616 7) 0) fun n620 c621=>slcK 31 (cell (ent st616 8) 0) fun n622 c623=>slcK
 11 (cell (ent st616 6) 8) fun n624 c625=>ifK (decide (z619 < (n624 : Int))) (slcK 11 (cell (ent st616 6) 8) fun n626 c627=>ckK (0≤z619∧z619
 < (n626 : Int)) (slcK 11 (cell (ent st616 6) 8) fun n628 c629=>ckK (0≤z619∧z619 < (n628 : Int)) (ckK (room (n620+1) 89) (ckK (okI (z619 +
 1)) (next615 [[vI z617],[vI z618],[vI (z619+1)],ent st616 3,[cell (ent st616 4) 0],[cell (ent st616 5) 0,cell (ent st616 5) 1,cell (ent
 st616 5) 2,cell (ent st616 5) 3,cell (ent st616 5) 4,cell (ent st616 5) 5,cell (ent st616 5) 6,cell (ent st616 5) 7,cell (ent st616 5) 8,cell
 (ent st616 5) 9],ent st616 6,[.sl (n620+1) 9 (c621++[cell (sub (el c627 11 (Int.toNat z619)) 0 3) 0,cell (sub (el c627 11 (Int.toNat z619)) 0
 3) 1,cell (sub (el c627 11 (Int.toNat z619)) 0 3) 2,vI 0,cell (sub (el c629 11 (Int.toNat z619)) 4 5) 0,cell (sub (el c629 11 (Int.toNat z619))
 4 5) 1,cell (sub (el c629 11 (Int.toNat z619)) 4 5) 2,cell (sub (el c629 11 (Int.toNat z619)) 4 5) 3,cell (sub (el c629 11 (Int.toNat z619)) 4 5)
 4])],[.sl n622 31 c623]]))))) (caK Is s49 [sub (ent st616 6) 9 5,[.sl n620 9 c621],[vI 4],[cell (ent st616 5) 0,cell (ent st616 5) 1,cell (ent
 st616 5) 2,cell (ent st616 5) 3,vI 14,vI z618,cell (sub (ent st616 6) 4 3) 0,cell (sub (ent st616 6) 4 3) 1,cell (sub (ent st616 6) 4 3) 2,vI
 0],[.sl n622 31 c623]] fun r630=>slcK 1 (cell (ent r630 1) 0) fun n631 c632=>slcK 31 (cell (ent r630 3) 0) fun n633 c634=>ckK (0≤z618 ∧
 z618 < (n633 : Int)) (ckK (0≤z618∧z618 < (n633 : Int)) (caK Is s50 [sub (el (upd c634 ((Int.toNat z618) * 31+14) [cell (ent r630 0) 0,cell
 (ent r630 0) 1,cell (ent r630 0) 2,cell (ent r630 0) 3,cell (ent r630 0) 4,cell (ent r630 0) 5,cell (ent r630 0) 6,cell (ent r630 0) 7,cell
 (ent r630 0) 8,cell (ent r630 0) 9,cell (ent r630 0) 10,cell (ent r630 0) 11,cell (ent r630 0) 12,cell (ent r630 0) 13,.sl n631 1 c632]) 31
 (Int.toNat z618)) 14 15] fun r635=>intK (cell (ent r635 0) 0) fun z636=>ifK (decide ((30 : Int) < z636)) (caK Is s49 [sub (ent st616 6) 9 5,
 [.sl n620 9 c621],[vI 0],[cell (ent r630 2) 0,cell (ent r630 2) 1,cell (ent r630 2) 2,cell (ent r630 2) 3,vI 0,cell (ent r630 2) 5,cell (ent
 r630 2) 6,cell (ent r630 2) 7,cell (ent r630 2) 8,cell (ent r630 2) 9],[.sl n633 31 (upd c634 ((Int.toNat z618) * 31+14) [cell (ent r630 0) 0,
 cell (ent r630 0) 1,cell (ent r630 0) 2,cell (ent r630 0) 3,cell (ent r630 0) 4,cell (ent r630 0) 5,cell (ent r630 0) 6,cell (ent r630 0) 7,
 cell (ent r630 0) 8,cell (ent r630 0) 9,cell (ent r630 0) 10,cell (ent r630 0) 11,cell (ent r630 0) 12,cell (ent r630 0) 13,.sl n631 1
 c632])]] fun r637=>slcK 1 (cell (ent r637 1) 0) fun n638 c639=>slcK 31 (cell (ent r637 3) 0) fun n640 c641=>ckK (0≤z618∧z618 < (n640 :
 Int)) (ckK (okI (z618+1)) (next607 [[vI z617],[vI (z618+1)],ent st616 3,[cell (ent st616 4) 0],[cell (ent r637 2) 0,cell (ent r637 2) 1,
 cell (ent r637 2) 2,cell (ent r637 2) 3,cell (ent r637 2) 4,cell (ent r637 2) 5,cell (ent r637 2) 6,cell (ent r637 2) 7,cell (ent r637 2) 8,
 cell (ent r637 2) 9],[.sl n640 31 (upd c641 ((Int.toNat z618) * 31+14) [cell (ent r637 0) 0,cell (ent r637 0) 1,cell (ent r637 0) 2,cell (ent
 r637 0) 3,cell (ent r637 0) 4,cell (ent r637 0) 5,cell (ent r637 0) 6,cell (ent r637 0) 7,cell (ent r637 0) 8,cell (ent r637 0) 9,cell (ent
 r637 0) 10,cell (ent r637 0) 11,cell (ent r637 0) 12,cell (ent r637 0) 13,.sl n638 1 c639])]]))) (ckK (okI (z618+1)) (next607 [[vI z617],[vI
 (z618+1)],ent st616 3,[cell (ent st616 4) 0],[cell (ent r630 2) 0,cell (ent r630 2) 1,cell (ent r630 2) 2,cell (ent r630 2) 3,cell (ent
 r630 2) 4,cell (ent r630 2) 5,cell (ent r630 2) 6,cell (ent r630 2) 7,cell (ent r630 2) 8,cell (ent r630 2) 9],[.sl n633 31 (upd c634
 ((Int.toNat z618) * 31+14) [cell (ent r630 0) 0,cell (ent r630 0) 1,cell (ent r630 0) 2,cell (ent r630 0) 3,cell (ent r630 0) 4,cell (ent
 r630 0) 5,cell (ent r630 0) 6,cell (ent r630 0) 7,cell (ent r630 0) 8,cell (ent r630 0) 9,cell (ent r630 0) 10,cell (ent r630 0) 11,cell (ent
 r630 0) 12,cell (ent r630 0) 13,.sl n631 1 c632])]])))))) [[vI z609],[vI z610],[vI 0],ent st608 2,[cell (ent st608 3) 0],[cell (ent st608 4)
 0,cell (ent st608 4) 1,cell (ent st608 4) 2,cell (ent st608 4) 3,cell (ent st608 4) 4,cell (ent st608 4) 5,cell (ent st608 4) 6,cell (ent
 st608 4) 7,cell (ent st608 4) 8,cell (ent st608 4) 9],el c612 31 (Int.toNat z610),[.sl 0 9 []],[.sl n611 31 c612]])))) (intK (cell (ent st608
 4) 3) fun z642=>intK (cell (ent st608 4) 3) fun z643=>ckK (0≤z642∧z642 = z643∧room (Int.toNat z642) 25) (Lp (fun next644 st645=>intK
 (cell (ent st645 0) 0) fun z646=>intK (cell (ent st645 1) 0) fun z647=>slcK 3 (cell (ent st645 4) 0) fun n648 c649=>slcK 31 (cell (ent st645
 5) 0) fun n650 c651=>ifK (decide (z647 < (n650 : Int))) (ckK (0≤z647∧z647 < (n650 : Int)) (intK (cell (el c651 31 (Int.toNat z647)) 3) fun
 z652=>ifK (decide (z652 = (0 : Int))) (ckK (okI (z647+1)) (next644 [[vI z646],[vI (z647+1)],ent st645 2,[cell (ent st645 3) 0],[.sl n648 3
 c649],[.sl n650 31 c651]])) (ckK (0≤z647∧z647 < (n650 : Int)) (intK (cell (el c651 31 (Int.toNat z647)) 3) fun z653=>ifK (decide (z653 = (1 :
 Int))) (ckK (okI (z647+1)) (next644 [[vI z646],[vI (z647+1)],ent st645 2,[cell (ent st645 3) 0],[.sl n648 3 c649],[.sl n650 31 c651]]))
 (ckK (0≤z647∧z647 < (n650 : Int)) (caK Is s51 [sub (el c651 31 (Int.toNat z647)) 14 15,[.sl 0 1 []]] fun r654=>slcK 1 (cell (ent r654 0) 0)
 fun n655 c656=>Lp (fun next657 st658=>intK (cell (ent st658 0) 0) fun z659=>intK (cell (ent st658 1) 0) fun z660=>intK (cell (ent st658 2)
 0) fun z661=>slcK 3 (cell (ent st658 5) 0) fun n662 c663=>slcK 1 (cell (ent st658 6) 0) fun n664 c665=>slcK 31 (cell (ent st658 7) 0) fun n666
 c667=>ifK (decide (z661 < (n664 : Int))) (ckK (0≤z661∧z661 < (n664 : Int)) (caK Is s39 [[vI z659]] fun r668=>intK (cell (el c665 1
 (Int.toNat z661)) 0) fun z669=>ckK (0≤z669∧z669 < (n662 : Int)) (ckK (okI (z659+1)) (ckK (okI (z661+1)) (next657 [[vI (z659+1)],[vI
 z660],[vI (z661+1)],ent st658 3,[cell (ent st658 4) 0],[.sl n662 3 (upd c663 ((Int.toNat z669) * 3+0) (ent r668 0))],[.sl n664 1 c665],
 [.sl n666 31 c667]]))))) (ckK (0≤z660∧z660 < (n666 : Int)) (caK Is s52 [sub (el c667 31 (Int.toNat z660)) 14 15,[.sl n662 3 c663]] fun r670 =>
 slcK 15 (cell (ent r670 1) 0) fun n671 c672=>slcK 3 (cell (ent r670 2) 0) fun n673 c674=>ckK (0≤z660∧z660 < (n666 : Int)) (ckK (okI (z660 +
 1)) (next644 [[vI z659],[vI (z660+1)],ent st658 3,[cell (ent st658 4) 0],[.sl n673 3 c674],[.sl n666 31 (upd c667 ((Int.toNat z660) * 31 +
 14) [cell (ent r670 0) 0,cell (ent r670 0) 1,cell (ent r670 0) 2,cell (ent r670 0) 3,cell (ent r670 0) 4,cell (ent r670 0) 5,cell (ent r670 0)
 6,cell (ent r670 0) 7,cell (ent r670 0) 8,cell (ent r670 0) 9,cell (ent r670 0) 10,cell (ent r670 0) 11,cell (ent r670 0) 12,.sl n671 15
 c672,cell (ent r670 0) 13])]]))))) [[vI z646],[vI z647],[vI 0],ent st645 2,[cell (ent st645 3) 0],[.sl n648 3 c649],[.sl n655 1 c656],[.sl
 n650 31 c651]])))))) (K [[cell (ent st645 3) 0,.sl n650 31 c651]])) [[vI z609],[vI 0],ent st608 2,[cell (ent st608 3) 0],[.sl (Int.toNat z642)
 3 (List.flatten (List.replicate (Int.toNat z642) [vI 0,vI 0,vI 0]))],[.sl n611 31 c612]]))) [[vI z549],[vI 0],ent st547 4,[cell (ent st547 5)
 0],[cell (ent st547 5) 0,cell (ent st547 0) 0,vI 24,vI 0,vI 0,vI 0,vI 0,vI 0,vI 0,vI 0],[.sl n553 31 c554]])) [[cell (ent a 0) 0],[vI (1
 + z2)],[vI ((1+z2)+(n544 : Int))],[vI 0],[.sl 0 6 [],.sl 0 31 []],[.sl 0 6 []],[.sl n544 11 c545],[.sl 0 31 []]])))
theorem w19 (Is : Sig→St'→St'→Prop) (a : St') (K : St'→Prop) : fnX Is Tryd.prog tb19 H19 s19 a K = g19 Is a K:=by kernel_rfl
theorem is19 {a r : St'} (h : g19 (Pm.Is Tryd.prog) a fun st=>st = r) (hu : unpack propQ (outSh s19) r (fun _=>True):=by exact trivial) : Pm.Is Tryd.prog s19 a r:=fn_ok (tbok [s39,s40,s48,s49,s50,s51,s52] [29]) mixP (H:=H19) (by rw [w19];exact h) hu
def H40 : Hint:=⟨[],[],[]⟩
abbrev tb40 : Tb:=⟨[s16],[35],[]⟩
def g40 (Is : Sig→St'→St'→Prop) (a : St') (K : St'→Prop) : Prop:=intK (cell (ent a 1) 0) fun z1=>intK (cell (ent a 2) 0) fun z2=>ifK
 (decide (z1 < (0 : Int))) (K [[vI 0]]) (slcK 1 (cell (ent a 0) 0) fun n3 c4=>ifK (decide ((n3 : Int)≤z1)) (K [[vI 0]]) (slcK 1 (cell (ent a 0)
 0) fun n5 c6=>ckK (0≤z1∧z1 < (n5 : Int)) (caK Is s16 [[cell (el c6 1 (Int.toNat z1)) 0],[vI z2]] fun r7=>intK (cell (ent r7 0) 0) fun z8 =>
 K [[vI z8]])))
theorem w40 (Is : Sig→St'→St'→Prop) (a : St') (K : St'→Prop) : fnX Is Tryd.prog tb40 H40 s40 a K = g40 Is a K:=by kernel_rfl
theorem is40 {a r : St'} (h : g40 (Pm.Is Tryd.prog) a fun st=>st = r) (hu : unpack propQ (outSh s40) r (fun _=>True):=by exact trivial) : Pm.Is Tryd.prog s40 a r:=fn_ok (tbok [s16] []) mixP (H:=H40) (by rw [w40];exact h) hu
def H16 : Hint:=⟨[],[(3,⟨[(0,.c .i),(1,.c .i)],[]⟩)],[]⟩
abbrev tb16 : Tb:=⟨[],[35],[]⟩
def g16 (Is : Sig→St'→St'→Prop) (a : St') (K : St'→Prop) : Prop:=intK (cell (ent a 0) 0) fun z1=>intK (cell (ent a 1) 0) fun z2=>jn (fun
 k3=>ifK (decide (z1 < (0 : Int))) (ckK (okI (z1+1)) (ckK (okI (-(z1+1))) (k3 [[vI (-(z1+1))],[vI z2]]))) (k3 [[vI z1],[vI z2]])) (fun st4
 => intK (cell (ent st4 0) 0) fun z5=>intK (cell (ent st4 1) 0) fun z6=>ckK (z6 ≠ 0) (K [[vI (Int.tmod z5 z6)]]))
theorem w16 (Is : Sig→St'→St'→Prop) (a : St') (K : St'→Prop) : fnX Is Tryd.prog tb16 H16 s16 a K = g16 Is a K:=by kernel_rfl
theorem is16 {a r : St'} (h : g16 (Pm.Is Tryd.prog) a fun st=>st = r) (hu : unpack propQ (outSh s16) r (fun _=>True):=by exact trivial) : Pm.Is Tryd.prog s16 a r:=fn_ok (tbok [] []) mixP (H:=H16) (by rw [w16];exact h) hu
def H39 : Hint:=⟨[],[],[]⟩
abbrev tb39 : Tb:=⟨[],[35],[]⟩
def g39 (Is : Sig→St'→St'→Prop) (a : St') (K : St'→Prop) : Prop:=intK (cell (ent a 0) 0) fun z1=>ckK ((32 : Int) ≠ 0∧okI (Int.tdiv z1
 32)) (ckK (okI (1+(Int.tdiv z1 32))) (ckK ((32 : Int) ≠ 0) (K [[vI 0,vI (1+(Int.tdiv z1 32)),vI (Int.tmod z1 32)]])))
theorem w39 (Is : Sig→St'→St'→Prop) (a : St') (K : St'→Prop) : fnX Is Tryd.prog tb39 H39 s39 a K = g39 Is a K:=by kernel_rfl
theorem is39 {a r : St'} (h : g39 (Pm.Is Tryd.prog) a fun st=>st = r) (hu : unpack propQ (outSh s39) r (fun _=>True):=by exact trivial) : Pm.Is Tryd.prog s39 a r:=fn_ok (tbok [] []) mixP (H:=H39) (by rw [w39];exact h) hu
def H48 : Hint:=⟨[(6,⟨[(0,.c .d),(1,.c .i),(5,.c .bo),(6,.c (.p 0 0)),(7,.c (.p 1 0)),(8,.c (.w 2)),(9,.c .i)],[(0,.a 38 5),(1,.a 38 5),(2,.w 38 5)]⟩),(12,⟨[(0,.c .d),(1,.c .i),(5,.c .bo),(6,.c (.p 0 0)),(7,.c (.p 1 0)),(8,.c (.w 2)),(10,.c (.w 3)),(11,.c .i)],[(0,.a 38 5),(1,.a 38 5),(2,.w 38 5),(3,.w 89 11)]⟩),(21,⟨[(0,.c .d),(1,.c .i),(5,.c .bo),(6,.c (.p 0 0)),(7,.c (.p 1 0)),(8,.c (.w 2)),(10,.c (.w 3)),(12,.c .i),(13,.c (.p 4 0)),(14,.c .i)],[(0,.a 38 5),(1,.a 38 5),(2,.w 38 5),(3,.w 89 11),(4,.a 38 5)]⟩)],[(9,⟨[(0,.c .d),(1,.c .i),(5,.c .bo),(6,.c (.p 0 0)),(7,.c (.p 1 0)),(8,.c (.w 2))],[(0,.a 38 5),(1,.a 38 5),(2,.w 38 5)]⟩),(27,⟨[(0,.c .d),(1,.c .i),(5,.c .bo),(6,.c (.p 0 0)),(7,.c (.p 1 0)),(10,.c (.w 2)),(12,.c .i),(13,.c (.p 3 0))],[(0,.a 38 5),(1,.a 38 5),(2,.w 89 11),(3,.a 38 5)]⟩),(30,⟨[(0,.c .d),(1,.c .i),(5,.c .bo),(6,.c (.p 0 0)),(7,.c (.p 1 0)),(8,.c (.w 2)),(10,.c (.w 3)),(12,.c .i),(13,.c (.p 4 0))],[(0,.a 38 5),(1,.a 38 5),(2,.w 38 5),(3,.w 89 11),(4,.a 38 5)]⟩),(36,⟨[(0,.c .d),(6,.c (.p 0 0)),(10,.c (.w 1)),(12,.c .i),(13,.c (.p 2 0)),(16,.c (.p 3 0))],[(0,.a 38 5),(1,.w 89 11),(2,.a 38 5),(3,.a 38 5)]⟩)],[]⟩
abbrev tb48 : Tb:=⟨[s39,s40,s41,s42,s75,s76],[35],[]⟩
def g48 (Is : Sig→St'→St'→Prop) (a : St') (K : St'→Prop) : Prop:=intK (cell (ent a 1) 0) fun z1=>caK Is s40 [[cell (ent a 0) 0],[vI 1],
 [vI 4]] fun r2=>intK (cell (ent r2 0) 0) fun z3=>caK Is s39 [[vI z1]] fun r4=>caK Is s42 [ent r4 0] fun r5=>ckK (okI (z1+1)) (caK Is s39
 [[vI (z1+1)]] fun r6=>caK Is s42 [ent r6 0] fun r7=>jn (fun k8=>Lp (fun next10 st11=>intK (cell (ent st11 1) 0) fun z12=>booK (cell (ent
 st11 2) 0) fun b13=>intK (cell (ent st11 3) 0) fun z14=>slcK 5 (cell (ent st11 6) 0) fun n15 c16=>caK Is s40 [[cell (ent st11 0) 0],[vI 2],
 [vI 3]] fun r17=>intK (cell (ent r17 0) 0) fun z18=>ckK (okI (1+z18)) (ifK (decide (z14 < (1+z18))) (ckK (okI (3+z14)) (caK Is s40 [[cell
 (ent st11 0) 0],[vI (3+z14)],[vI 3]] fun r19=>intK (cell (ent r19 0) 0) fun z20=>caK Is s75 [[vI z20],ent st11 4,ent st11 4] fun r21 =>
 ckK (room (n15+1) 57) (ckK (okI (z14+1)) (next10 [[cell (ent st11 0) 0],[vI z12],[vB b13],[vI (z14+1)],ent st11 4,ent st11 5,[.sl (n15 +
 1) 5 (c16++((ent r21 0)++[]))]])))) (k8 [[cell (ent st11 0) 0],[vI z12],[vB b13],ent st11 4,ent st11 5,[.sl n15 5 c16]]))) [[cell (ent a 0)
 0],[vI z1],[vB (decide ((0 : Int) < z3))],[vI 0],ent r5 0,ent r7 0,[.sl 0 5 []]]) (fun st9=>intK (cell (ent st9 1) 0) fun z22=>booK (cell
 (ent st9 2) 0) fun b23=>slcK 5 (cell (ent st9 5) 0) fun n24 c25=>Lp (fun next26 st27=>intK (cell (ent st27 1) 0) fun z28=>booK (cell (ent
 st27 2) 0) fun b29=>intK (cell (ent st27 3) 0) fun z30=>slcK 5 (cell (ent st27 6) 0) fun n31 c32=>slcK 11 (cell (ent st27 7) 0) fun n33 c34 =>
 caK Is s40 [[cell (ent st27 0) 0],[vI 6],[vI 2]] fun r35=>intK (cell (ent r35 0) 0) fun z36=>ckK (okI (1+z36)) (ifK (decide (z30 < (1 +
 z36))) (ckK (okI (7+z30)) (caK Is s40 [[cell (ent st27 0) 0],[vI (7+z30)],[vI 4]] fun r37=>intK (cell (ent r37 0) 0) fun z38=>caK Is s75
 [[vI z38],ent st27 4,ent st27 4] fun r39=>ckK (room (n31+1) 57) (ckK (okI (z30+1)) (next26 [[cell (ent st27 0) 0],[vI z28],[vB b29],[vI
 (z30+1)],ent st27 4,ent st27 5,[.sl (n31+1) 5 (c32++((ent r39 0)++[]))],[.sl n33 11 c34]])))) (ckK (room (n33+1) 161) (ckK (okI (z28 -
 1)) (jn (fun k40=>ifK b29 (Lp (fun next42 st43=>intK (cell (ent st43 1) 0) fun z44=>booK (cell (ent st43 2) 0) fun b45=>intK (cell (ent st43
 3) 0) fun z46=>intK (cell (ent st43 4) 0) fun z47=>slcK 5 (cell (ent st43 7) 0) fun n48 c49=>slcK 11 (cell (ent st43 8) 0) fun n50 c51=>caK
 Is s40 [[cell (ent st43 0) 0],[vI 9],[vI 3]] fun r52=>intK (cell (ent r52 0) 0) fun z53=>ifK (decide (z47 < z53)) (ckK (okI (10+z47)) (caK
 Is s40 [[cell (ent st43 0) 0],[vI (10+z47)],[vI 4]] fun r54=>intK (cell (ent r54 0) 0) fun z55=>caK Is s75 [[vI z55],ent st43 5,ent st43
 5] fun r56=>ckK (room (n48+1) 57) (ckK (okI (z47+1)) (next42 [[cell (ent st43 0) 0],[vI z44],[vB b45],[vI z46],[vI (z47+1)],ent st43 5,
 ent st43 6,[.sl (n48+1) 5 (c49++((ent r56 0)++[]))],[.sl n50 11 c51],ent st43 9])))) (ckK (okI (z44+2)) (caK Is s39 [[vI (z44+2)]] fun
 r57=>caK Is s42 [ent r57 0] fun r58=>ckK (room (n50+1) 161) (caK Is s41 [[vI 0,vI 0,vI 0,vI 0,.sl 0 5 []]] fun r59=>slcK 5 (cell (ent
 r59 1) 0) fun n60 c61=>ckK (room (n50+1+1) 161) (k40 [[cell (ent st43 0) 0],[vI z44],[vB b45],[vI z46],ent st43 5,ent st43 6,[.sl (n50 +
 1+1) 11 ((c51++([vI 0,vS (ByteArray.mk #[83,116,97,116,101]),.sl n48 5 c49,.sl 3 1 ([vS (ByteArray.mk #[99,111,117,110,116]),vS
 (ByteArray.mk #[108,111,103]),vS (ByteArray.mk #[109,111,114,101])]),.sl 0 1 [],vI 0,vI 0,vI 0,vI 0,.sl 0 5 [],vI 0]))++([vI 0,vS
 (ByteArray.mk #[79,117,116]),.sl 3 5 ((ent r58 0)++([cell (ent r59 0) 0,cell (ent r59 0) 1,cell (ent r59 0) 2,cell (ent r59 0) 3,.sl n60 5
 c61,vI 0,vI 0,vI 0,vI 0,.sl 0 5 []])),.sl 3 1 ([vS (ByteArray.mk #[115,116,97,116,101]),vS (ByteArray.mk #[115,105,103,110,97,108,
 115]),vS (ByteArray.mk #[110,101,120,116])]),.sl 0 1 [],vI 0,vI 0,vI 0,vI 0,.sl 0 5 [],vI 0]))],ent r58 0]))))) [[cell (ent st27 0) 0],
 [vI z28],[vB b29],[vI (z28 - 1)],[vI 0],ent st27 4,ent st27 5,[.sl 1 5 ([vI 0,vI 0,vI 0,vI 0,.sl 0 5 []])],[.sl (n33+1) 11 (c34++([vI
 1,vS (ByteArray.mk #[69,118,101,110,116]),.sl n31 5 c32,.sl 3 1 ([vS (ByteArray.mk #[84,105,99,107]),vS (ByteArray.mk #[80,117,115,
 104]),vS (ByteArray.mk #[83,101,116])]),.sl 0 1 [],vI 0,vI 0,vI 0,vI 0,.sl 0 5 [],vI 0]))],ent st27 4]) (k40 [[cell (ent st27 0) 0],[vI
 z28],[vB b29],[vI (z28 - 1)],ent st27 4,ent st27 5,[.sl (n33+1) 11 (c34++([vI 1,vS (ByteArray.mk #[69,118,101,110,116]),.sl n31 5
 c32,.sl 3 1 ([vS (ByteArray.mk #[84,105,99,107]),vS (ByteArray.mk #[80,117,115,104]),vS (ByteArray.mk #[83,101,116])]),.sl 0 1 [],vI 0,
 vI 0,vI 0,vI 0,.sl 0 5 [],vI 0]))],ent st27 4])) (fun st41=>intK (cell (ent st41 1) 0) fun z62=>booK (cell (ent st41 2) 0) fun b63=>intK
 (cell (ent st41 3) 0) fun z64=>slcK 11 (cell (ent st41 6) 0) fun n65 c66=>caK Is s40 [[cell (ent st41 0) 0],[vI 12],[vI 6]] fun r67=>intK
 (cell (ent r67 0) 0) fun z68=>caK Is s75 [[vI z68],ent st41 4,ent st41 5] fun r69=>jn (fun k70=>caK Is s40 [[cell (ent st41 0) 0],[vI 13],
 [vI 2]] fun r72=>intK (cell (ent r72 0) 0) fun z73=>ifK (decide (z73 = (1 : Int))) (caK Is s40 [[cell (ent st41 0) 0],[vI 14],[vI 6]] fun r74
 => intK (cell (ent r74 0) 0) fun z75=>caK Is s75 [[vI z75],ent st41 4,ent st41 5] fun r76=>ckK (room (1+1) 57) (k70 [[cell (ent st41 0) 0],
 [vI z62],[vB b63],[vI z64],ent st41 4,ent st41 5,[.sl (1+1) 5 (((ent r69 0)++[])++((ent r76 0)++[]))],[.sl n65 11 c66],ent st41 7]))
 (k70 [[cell (ent st41 0) 0],[vI z62],[vB b63],[vI z64],ent st41 4,ent st41 5,[.sl 1 5 ((ent r69 0)++[])],[.sl n65 11 c66],ent st41 7]))
 (fun st71=>intK (cell (ent st71 1) 0) fun z77=>booK (cell (ent st71 2) 0) fun b78=>intK (cell (ent st71 3) 0) fun z79=>slcK 5 (cell (ent
 st71 6) 0) fun n80 c81=>slcK 11 (cell (ent st71 7) 0) fun n82 c83=>caK Is s40 [[cell (ent st71 0) 0],[vI 15],[vI z77]] fun r84=>intK (cell
 (ent r84 0) 0) fun z85=>caK Is s40 [[cell (ent st71 0) 0],[vI 16],[vI 6]] fun r86=>intK (cell (ent r86 0) 0) fun z87=>caK Is s75 [[vI z87],
 ent st71 4,ent st71 4] fun r88=>ckK (room (n82+1) 161) (jn (fun k89=>ifK b78 (ckK (okI (z77+3)) (caK Is s39 [[vI (z77+3)]] fun r91=>caK
 Is s42 [ent r91 0] fun r92=>ckK (room (n82+1+1) 161) (k89 [[cell (ent st71 0) 0],[vI z79],ent st71 4,[.sl (n82+1+1) 11 ((c83++([vI 2,
 vS (ByteArray.mk #[102]),.sl n80 5 c81,.sl 2 1 ([vS (ByteArray.mk #[97]),vS (ByteArray.mk #[98])]),.sl 0 1 [],cell (ent r88 0) 0,cell (ent r88
 0) 1,cell (ent r88 0) 2,cell (ent r88 0) 3,cell (ent r88 0) 4,vI z85]))++([vI 3,vS (ByteArray.mk #[115,116,101,112]),.sl 2 5 ((ent st71
 8)++((ent st71 5)++[])),.sl 2 1 ([vS (ByteArray.mk #[115]),vS (ByteArray.mk #[101])]),.sl 0 1 [],cell (ent r92 0) 0,cell (ent r92 0) 1,
 cell (ent r92 0) 2,cell (ent r92 0) 3,cell (ent r92 0) 4,vI z79]))],ent st71 8,ent r88 0]))) (caK Is s40 [[cell (ent st71 0) 0],[vI 17],[vI
 6]] fun r93=>intK (cell (ent r93 0) 0) fun z94=>caK Is s75 [[vI z94],ent st71 4,ent st71 5] fun r95=>ckK (room (n82+1+1) 161) (k89
 [[cell (ent st71 0) 0],[vI z79],ent st71 4,[.sl (n82+1+1) 11 ((c83++([vI 2,vS (ByteArray.mk #[102]),.sl n80 5 c81,.sl 2 1 ([vS
 (ByteArray.mk #[97]),vS (ByteArray.mk #[98])]),.sl 0 1 [],cell (ent r88 0) 0,cell (ent r88 0) 1,cell (ent r88 0) 2,cell (ent r88 0) 3,cell
 (ent r88 0) 4,vI z85]))++([vI 2,vS (ByteArray.mk #[103]),.sl 1 5 ((ent st71 5)++[]),.sl 1 1 ([vS (ByteArray.mk #[101])]),.sl 0 1 [],cell
 (ent r95 0) 0,cell (ent r95 0) 1,cell (ent r95 0) 2,cell (ent r95 0) 3,cell (ent r95 0) 4,vI z79]))],ent st71 8,ent r88 0]))) (fun st90 =>
 intK (cell (ent st90 1) 0) fun z96=>slcK 11 (cell (ent st90 3) 0) fun n97 c98=>caK Is s76 [[cell (ent st90 0) 0],[vI 18],ent st90 2] fun r99
 => slcK 5 (cell (ent r99 0) 0) fun n100 c101=>slcK 1 (cell (ent r99 1) 0) fun n102 c103=>caK Is s40 [[cell (ent st90 0) 0],[vI 21],[vI 6]] fun
 r104=>intK (cell (ent r104 0) 0) fun z105=>caK Is s75 [[vI z105],ent st90 2,ent st90 5] fun r106=>ckK (room (n97+1) 161) (caK Is s40
 [[cell (ent st90 0) 0],[vI 22],[vI 4]] fun r107=>intK (cell (ent r107 0) 0) fun z108=>ifK (decide ((0 : Int) < z108)) (caK Is s40 [[cell (ent
 st90 0) 0],[vI 23],[vI 6]] fun r109=>intK (cell (ent r109 0) 0) fun z110=>caK Is s75 [[vI z110],ent st90 2,ent st90 4] fun r111=>ckK (room
 (n97+1+1) 161) (K [[.sl (n97+1+1) 11 ((c98++([vI 4,vS (ByteArray.mk #[116]),.sl n100 5 c101,.sl 2 1 ([vS (ByteArray.mk #[97]),vS
 (ByteArray.mk #[98])]),.sl n102 1 c103,cell (ent r106 0) 0,cell (ent r106 0) 1,cell (ent r106 0) 2,cell (ent r106 0) 3,cell (ent r106 0) 4,vI
 z96]))++([vI 5,vS (ByteArray.mk #[99]),.sl 1 5 ((ent st90 4)++[]),.sl 1 1 ([vS (ByteArray.mk #[111,108,100])]),.sl 0 1 [],cell (ent r111
 0) 0,cell (ent r111 0) 1,cell (ent r111 0) 2,cell (ent r111 0) 3,cell (ent r111 0) 4,vI z96]))]])) (K [[.sl (n97+1) 11 (c98++([vI 4,vS
 (ByteArray.mk #[116]),.sl n100 5 c101,.sl 2 1 ([vS (ByteArray.mk #[97]),vS (ByteArray.mk #[98])]),.sl n102 1 c103,cell (ent r106 0) 0,cell
 (ent r106 0) 1,cell (ent r106 0) 2,cell (ent r106 0) 3,cell (ent r106 0) 4,vI z96]))]]))))))))))) [[cell (ent st9 0) 0],[vI z22],[vB b23],[vI
 0],ent st9 3,ent st9 4,[.sl 1 5 ([vI 0,vI 0,vI 0,vI 0,.sl 0 5 []])],[.sl 1 11 ([vI 0,vS (ByteArray.mk #[80,111,105,110,116]),.sl n24 5
 c25,.sl 3 1 ([vS (ByteArray.mk #[120]),vS (ByteArray.mk #[121]),vS (ByteArray.mk #[122])]),.sl 0 1 [],vI 0,vI 0,vI 0,vI 0,.sl 0 5 [],vI
 0])]]))
theorem w48 (Is : Sig→St'→St'→Prop) (a : St') (K : St'→Prop) : fnX Is Tryd.prog tb48 H48 s48 a K = g48 Is a K:=by kernel_rfl
theorem is48 {a r : St'} (h : g48 (Pm.Is Tryd.prog) a fun st=>st = r) (hu : unpack propQ (outSh s48) r (fun _=>True):=by exact trivial) : Pm.Is Tryd.prog s48 a r:=fn_ok (tbok [s39,s40,s41,s42,s75,s76] []) mixP (H:=H48) (by rw [w48];exact h) hu
def H42 : Hint:=⟨[],[],[]⟩
abbrev tb42 : Tb:=⟨[],[35],[]⟩
def g42 (Is : Sig→St'→St'→Prop) (a : St') (K : St'→Prop) : Prop:=K [[vI 3,cell (ent a 0) 0,cell (ent a 0) 1,cell (ent a 0) 2,.sl 0 5
 []]]
theorem w42 (Is : Sig→St'→St'→Prop) (a : St') (K : St'→Prop) : fnX Is Tryd.prog tb42 H42 s42 a K = g42 Is a K:=by kernel_rfl
theorem is42 {a r : St'} (h : g42 (Pm.Is Tryd.prog) a fun st=>st = r) (hu : unpack propQ (outSh s42) r (fun _=>True):=by exact trivial) : Pm.Is Tryd.prog s42 a r:=fn_ok (tbok [] []) mixP (H:=H42) (by rw [w42];exact h) hu
def H75 : Hint:=⟨[],[],[]⟩
abbrev tb75 : Tb:=⟨[s16,s41],[35],[]⟩
def g75 (Is : Sig→St'→St'→Prop) (a : St') (K : St'→Prop) : Prop:=intK (cell (ent a 0) 0) fun z1=>caK Is s41 [[vI 0,vI 0,vI 0,vI 0,.sl
 0 5 []]] fun r2=>slcK 5 (cell (ent r2 1) 0) fun n3 c4=>caK Is s16 [[vI z1],[vI 6]] fun r5=>intK (cell (ent r5 0) 0) fun z6=>ckK (0≤z6 ∧
 z6 < (6 : Int)) (K [el (([vI 0,vI 0,vI 0,vI 0,.sl 0 5 []])++(([vI 1,vI 0,vI 0,vI 0,.sl 0 5 []])++([cell (ent r2 0) 0,cell (ent r2 0) 1,
 cell (ent r2 0) 2,cell (ent r2 0) 3,.sl n3 5 c4]++((ent a 1)++((ent a 2)++([vI 0,vI 0,vI 0,vI 0,.sl 0 5 []])))))) 5 (Int.toNat z6)])
theorem w75 (Is : Sig→St'→St'→Prop) (a : St') (K : St'→Prop) : fnX Is Tryd.prog tb75 H75 s75 a K = g75 Is a K:=by kernel_rfl
theorem is75 {a r : St'} (h : g75 (Pm.Is Tryd.prog) a fun st=>st = r) (hu : unpack propQ (outSh s75) r (fun _=>True):=by exact trivial) : Pm.Is Tryd.prog s75 a r:=fn_ok (tbok [s16,s41] []) mixP (H:=H75) (by rw [w75];exact h) hu
def H41 : Hint:=⟨[],[],[]⟩
abbrev tb41 : Tb:=⟨[],[35],[]⟩
def g41 (Is : Sig→St'→St'→Prop) (a : St') (K : St'→Prop) : Prop:=K [[vI 2,vI 0,vI 0,vI 0],[.sl 1 5 ((ent a 0)++[])]]
theorem w41 (Is : Sig→St'→St'→Prop) (a : St') (K : St'→Prop) : fnX Is Tryd.prog tb41 H41 s41 a K = g41 Is a K:=by kernel_rfl
theorem is41 {a r : St'} (h : g41 (Pm.Is Tryd.prog) a fun st=>st = r) (hu : unpack propQ (outSh s41) r (fun _=>True):=by exact trivial) : Pm.Is Tryd.prog s41 a r:=fn_ok (tbok [] []) mixP (H:=H41) (by rw [w41];exact h) hu
def H76 : Hint:=⟨[],[(7,⟨[(0,.c .d),(1,.c .i),(5,.c (.p 0 0)),(8,.c .i),(9,.c (.w 1)),(10,.c (.w 2))],[(0,.a 38 5),(1,.w 38 5),(2,.w 3 1)]⟩),(10,⟨[(0,.c .d),(1,.c .i),(5,.c (.p 0 0)),(8,.c .i),(9,.c (.w 1)),(10,.c (.w 2))],[(0,.a 38 5),(1,.w 38 5),(2,.w 3 1)]⟩),(13,⟨[(0,.c .d),(1,.c .i),(9,.c (.w 0)),(10,.c (.w 1))],[(0,.w 38 5),(1,.w 3 1)]⟩),(17,⟨[(9,.c (.w 0)),(10,.c (.w 1)),(11,.c .i)],[(0,.w 38 5),(1,.w 3 1)]⟩),(20,⟨[(9,.c (.w 0)),(10,.c (.w 1))],[(0,.w 38 5),(1,.w 3 1)]⟩)],[]⟩
abbrev tb76 : Tb:=⟨[s40,s41],[35],[]⟩
def g76 (Is : Sig→St'→St'→Prop) (a : St') (K : St'→Prop) : Prop:=intK (cell (ent a 1) 0) fun z1=>caK Is s40 [[cell (ent a 0) 0],[vI z1],
 [vI 5]] fun r2=>intK (cell (ent r2 0) 0) fun z3=>ckK (okI (z1+1)) (caK Is s40 [[cell (ent a 0) 0],[vI (z1+1)],[vI 3]] fun r4=>intK (cell
 (ent r4 0) 0) fun z5=>ckK (okI (1+z5)) (jn (fun k6=>ifK (decide (z3 = (1 : Int))) (ckK (0≤(0 : Int)∧(0 : Int) < (1 : Int)) (ckK (0≤(0 :
 Int)∧(0 : Int) < (1 : Int)) (k6 [[cell (ent a 0) 0],[vI z1],[vI z3],ent a 2,[.sl 1 5 (upd ([vI 0,vI 0,vI 0,vI 0,.sl 0 5 []]) (0 * 5+0)
 ([vI 1,vI 0,vI 0,vI 0,.sl 0 5 []]))],[.sl 1 1 (upd [vI (1+z5)] (0 * 1+0) [vI 0])]]))) (k6 [[cell (ent a 0) 0],[vI z1],[vI z3],ent a 2,
 [.sl 1 5 ([vI 0,vI 0,vI 0,vI 0,.sl 0 5 []])],[.sl 1 1 [vI (1+z5)]]])) (fun st7=>intK (cell (ent st7 1) 0) fun z8=>intK (cell (ent st7 2)
 0) fun z9=>slcK 5 (cell (ent st7 4) 0) fun n10 c11=>slcK 1 (cell (ent st7 5) 0) fun n12 c13=>jn (fun k14=>ifK (decide (z9 = (2 : Int))) (caK
 Is s41 [[vI 0,vI 0,vI 0,vI 0,.sl 0 5 []]] fun r16=>slcK 5 (cell (ent r16 1) 0) fun n17 c18=>ckK (0≤(0 : Int)∧(0 : Int) < (n10 : Int))
 (ckK (okI (z8+1)) (caK Is s40 [[cell (ent st7 0) 0],[vI (z8+1)],[vI 2]] fun r19=>intK (cell (ent r19 0) 0) fun z20=>ckK (okI (1+z20))
 (ckK (0≤(0 : Int)∧(0 : Int) < (n12 : Int)) (k14 [[cell (ent st7 0) 0],[vI z8],[vI z9],ent st7 3,[.sl n10 5 (upd c11 (0 * 5+0) [cell (ent
 r16 0) 0,cell (ent r16 0) 1,cell (ent r16 0) 2,cell (ent r16 0) 3,.sl n17 5 c18])],[.sl n12 1 (upd c13 (0 * 1+0) [vI (1+z20)])]]))))) (k14
 [[cell (ent st7 0) 0],[vI z8],[vI z9],ent st7 3,[.sl n10 5 c11],[.sl n12 1 c13]])) (fun st15=>intK (cell (ent st15 1) 0) fun z21=>intK
 (cell (ent st15 2) 0) fun z22=>slcK 5 (cell (ent st15 4) 0) fun n23 c24=>slcK 1 (cell (ent st15 5) 0) fun n25 c26=>jn (fun k27=>ifK (decide
 (z22 = (3 : Int))) (ckK (0≤(0 : Int)∧(0 : Int) < (n23 : Int)) (ckK (0≤(0 : Int)∧(0 : Int) < (n25 : Int)) (k27 [[cell (ent st15 0) 0],[vI
 z21],[.sl n23 5 (upd c24 (0 * 5+0) (ent st15 3))],[.sl n25 1 (upd c26 (0 * 1+0) [vI 1])]]))) (k27 [[cell (ent st15 0) 0],[vI z21],[.sl n23 5
 c24],[.sl n25 1 c26]])) (fun st28=>intK (cell (ent st28 1) 0) fun z29=>slcK 5 (cell (ent st28 2) 0) fun n30 c31=>slcK 1 (cell (ent st28 3) 0)
 fun n32 c33=>ckK (okI (z29+2)) (caK Is s40 [[cell (ent st28 0) 0],[vI (z29+2)],[vI 3]] fun r34=>intK (cell (ent r34 0) 0) fun z35=>jn
 (fun k36=>ifK (decide (z35 = (1 : Int))) (ckK (room (n30+1) 57) (ckK (room (n32+1) 9) (k36 [[vI z35],[.sl (n30+1) 5 (c31++([vI 0,vI 0,
 vI 0,vI 0,.sl 0 5 []]))],[.sl (n32+1) 1 (c33++[vI 1])]]))) (k36 [[vI z35],[.sl n30 5 c31],[.sl n32 1 c33]])) (fun st37=>intK (cell (ent
 st37 0) 0) fun z38=>slcK 5 (cell (ent st37 1) 0) fun n39 c40=>slcK 1 (cell (ent st37 2) 0) fun n41 c42=>jn (fun k43=>ifK (decide (z38 = (2 :
 Int))) (ckK (room (n39+1) 57) (ckK (room (n41+1) 9) (k43 [[.sl (n39+1) 5 (c40++([vI 1,vI 0,vI 0,vI 0,.sl 0 5 []]))],[.sl (n41+1) 1
 (c42++[vI 0])]]))) (k43 [[.sl n39 5 c40],[.sl n41 1 c42]])) (fun st44=>slcK 5 (cell (ent st44 0) 0) fun n45 c46=>slcK 1 (cell (ent st44 1) 0)
 fun n47 c48=>K [[.sl n45 5 c46],[.sl n47 1 c48]]))))))))
theorem w76 (Is : Sig→St'→St'→Prop) (a : St') (K : St'→Prop) : fnX Is Tryd.prog tb76 H76 s76 a K = g76 Is a K:=by kernel_rfl
theorem is76 {a r : St'} (h : g76 (Pm.Is Tryd.prog) a fun st=>st = r) (hu : unpack propQ (outSh s76) r (fun _=>True):=by exact trivial) : Pm.Is Tryd.prog s76 a r:=fn_ok (tbok [s40,s41] []) mixP (H:=H76) (by rw [w76];exact h) hu
def H49 : Hint:=⟨[],[(5,⟨[(0,.c (.p 0 0)),(2,.c .d),(3,.c .i),(5,.c (.p 2 0)),(8,.c (.p 3 0)),(9,.c .i),(10,.c (.w 4))],[(0,.b 92 [.d,.w 1,.d,.d,.d,.d,.d,.d,.d,.d,.d]),(2,.a 38 5),(3,.a 50 15),(4,.w 95 9),(1,.w 52 31)]⟩),(7,⟨[(0,.c (.p 0 0)),(2,.c .d),(3,.c .i),(5,.c (.p 2 0)),(8,.c (.p 3 0)),(9,.c .i)],[(0,.b 92 [.d,.w 1,.d,.d,.d,.d,.d,.d,.d,.d,.d]),(2,.a 38 5),(3,.a 50 15),(1,.w 52 31)]⟩)],[]⟩
abbrev tb49 : Tb:=⟨[s41,s49,s77,s78,s79,s80,s81,s82,s83,s84,s85,s86,s87],[35],[]⟩
def g49 (Is : Sig→St'→St'→Prop) (a : St') (K : St'→Prop) : Prop:=intK (cell (ent a 2) 0) fun z1=>slcK 31 (cell (ent a 4) 0) fun n2 c3 =>
 caK Is s77 [[vI 65536],[cell (ent a 3) 0,cell (ent a 3) 1,cell (ent a 3) 2,cell (ent a 3) 3,cell (ent a 3) 4,cell (ent a 3) 5,cell (ent a 3)
 6,cell (ent a 3) 7,cell (ent a 3) 8,cell (ent a 3) 9],[.sl n2 31 c3]] fun r4=>intK (cell (ent r4 0) 0) fun z5=>slcK 31 (cell (ent r4 2) 0)
 fun n6 c7=>caK Is s78 [[cell (ent a 1) 0],ent a 0] fun r8=>slcK 9 (cell (ent r8 0) 0) fun n9 c10=>jn (fun k11=>intK (cell (ent r4 1) 4) fun
 z13=>ifK (decide (z13≤(0 : Int))) (k11 [[cell (ent a 1) 0],[vI (min z1 0)],[vI z5],[cell (ent r4 1) 0,cell (ent r4 1) 1,cell (ent r4 1) 2,
 cell (ent r4 1) 3,cell (ent r4 1) 4,cell (ent r4 1) 5,cell (ent r4 1) 6,cell (ent r4 1) 7,cell (ent r4 1) 8,cell (ent r4 1) 9],ent a 0,[vI
 0,vI 0,vI 0,vI 0,vI 0,vI 0,vI 0,vI 0,vI 0,vI 0,vI 0,vI 0,.sl 0 5 [],.sl 0 15 [],.sl 0 1 []],[.sl n9 9 c10],[.sl n6 31 c7]]) (k11
 [[cell (ent a 1) 0],[vI z1],[vI z5],[cell (ent r4 1) 0,cell (ent r4 1) 1,cell (ent r4 1) 2,cell (ent r4 1) 3,cell (ent r4 1) 4,cell (ent r4
 1) 5,cell (ent r4 1) 6,cell (ent r4 1) 7,cell (ent r4 1) 8,cell (ent r4 1) 9],ent a 0,[vI 0,vI 0,vI 0,vI 0,vI 0,vI 0,vI 0,vI 0,vI 0,
 vI 0,vI 0,vI 0,.sl 0 5 [],.sl 0 15 [],.sl 0 1 []],[.sl n9 9 c10],[.sl n6 31 c7]])) (fun st12=>intK (cell (ent st12 1) 0) fun z14=>intK
 (cell (ent st12 2) 0) fun z15=>slcK 9 (cell (ent st12 6) 0) fun n16 c17=>slcK 31 (cell (ent st12 7) 0) fun n18 c19=>jn (fun k20=>ifK (decide
 ((0 : Int) < (n16 : Int))) (ifK (decide (z14≤(0 : Int))) (ckK ((3 : Int) ≠ 0∧okI (Int.tdiv z15 3)) (ckK ((n16 : Int) ≠ 0) (ckK (0≤(Int.tmod
 (Int.tdiv z15 3) (n16 : Int))∧(Int.tmod (Int.tdiv z15 3) (n16 : Int)) < (n16 : Int)) (caK Is s79 [el c17 9 (Int.toNat (Int.tmod (Int.tdiv z15 3)
 (n16 : Int))),[cell (ent st12 3) 0,cell (ent st12 3) 1,cell (ent st12 3) 2,cell (ent st12 3) 3,cell (ent st12 3) 4,cell (ent st12 3) 5,cell
 (ent st12 3) 6,cell (ent st12 3) 7,cell (ent st12 3) 8,cell (ent st12 3) 9],[.sl n18 31 c19]] fun r22=>slcK 1 (cell (ent r22 1) 0) fun n23 c24
 => slcK 31 (cell (ent r22 3) 0) fun n25 c26=>K [[cell (ent r22 0) 0,cell (ent r22 0) 1,cell (ent r22 0) 2,cell (ent r22 0) 3,cell (ent r22 0)
 4,cell (ent r22 0) 5,cell (ent r22 0) 6,cell (ent r22 0) 7,cell (ent r22 0) 8,cell (ent r22 0) 9,cell (ent r22 0) 10,cell (ent r22 0) 11,
 cell (ent r22 0) 12,cell (ent r22 0) 13],[.sl n23 1 c24],[cell (ent r22 2) 0,cell (ent r22 2) 1,cell (ent r22 2) 2,cell (ent r22 2) 3,cell
 (ent r22 2) 4,cell (ent r22 2) 5,cell (ent r22 2) 6,cell (ent r22 2) 7,cell (ent r22 2) 8,cell (ent r22 2) 9],[.sl n25 31 c26]])))) (ckK ((3 :
 Int) ≠ 0) (ifK (decide ((Int.tmod z15 3) = (0 : Int))) (ckK ((3 : Int) ≠ 0∧okI (Int.tdiv z15 3)) (ckK ((n16 : Int) ≠ 0) (ckK (0≤(Int.tmod
 (Int.tdiv z15 3) (n16 : Int))∧(Int.tmod (Int.tdiv z15 3) (n16 : Int)) < (n16 : Int)) (caK Is s79 [el c17 9 (Int.toNat (Int.tmod (Int.tdiv z15 3)
 (n16 : Int))),[cell (ent st12 3) 0,cell (ent st12 3) 1,cell (ent st12 3) 2,cell (ent st12 3) 3,cell (ent st12 3) 4,cell (ent st12 3) 5,cell
 (ent st12 3) 6,cell (ent st12 3) 7,cell (ent st12 3) 8,cell (ent st12 3) 9],[.sl n18 31 c19]] fun r27=>slcK 1 (cell (ent r27 1) 0) fun n28 c29
 => slcK 31 (cell (ent r27 3) 0) fun n30 c31=>K [[cell (ent r27 0) 0,cell (ent r27 0) 1,cell (ent r27 0) 2,cell (ent r27 0) 3,cell (ent r27 0)
 4,cell (ent r27 0) 5,cell (ent r27 0) 6,cell (ent r27 0) 7,cell (ent r27 0) 8,cell (ent r27 0) 9,cell (ent r27 0) 10,cell (ent r27 0) 11,
 cell (ent r27 0) 12,cell (ent r27 0) 13],[.sl n28 1 c29],[cell (ent r27 2) 0,cell (ent r27 2) 1,cell (ent r27 2) 2,cell (ent r27 2) 3,cell
 (ent r27 2) 4,cell (ent r27 2) 5,cell (ent r27 2) 6,cell (ent r27 2) 7,cell (ent r27 2) 8,cell (ent r27 2) 9],[.sl n30 31 c31]])))) (k20
 [[cell (ent st12 0) 0],[vI z14],[vI z15],[cell (ent st12 3) 0,cell (ent st12 3) 1,cell (ent st12 3) 2,cell (ent st12 3) 3,cell (ent st12 3)
 4,cell (ent st12 3) 5,cell (ent st12 3) 6,cell (ent st12 3) 7,cell (ent st12 3) 8,cell (ent st12 3) 9],ent st12 4,ent st12 5,[.sl n18 31
 c19]])))) (k20 [[cell (ent st12 0) 0],[vI z14],[vI z15],[cell (ent st12 3) 0,cell (ent st12 3) 1,cell (ent st12 3) 2,cell (ent st12 3) 3,cell
 (ent st12 3) 4,cell (ent st12 3) 5,cell (ent st12 3) 6,cell (ent st12 3) 7,cell (ent st12 3) 8,cell (ent st12 3) 9],ent st12 4,ent st12 5,
 [.sl n18 31 c19]])) (fun st21=>intK (cell (ent st21 1) 0) fun z32=>intK (cell (ent st21 2) 0) fun z33=>slcK 31 (cell (ent st21 6) 0) fun n34
 c35=>ifK (decide (z32≤(0 : Int))) (ckK ((3 : Int) ≠ 0∧okI (Int.tdiv z33 3)) (caK Is s80 [ent st21 4,[cell (ent st21 0) 0],[vI (Int.tdiv z33
 3)],[vI z32],[cell (ent st21 3) 0,cell (ent st21 3) 1,cell (ent st21 3) 2,cell (ent st21 3) 3,cell (ent st21 3) 4,cell (ent st21 3) 5,cell
 (ent st21 3) 6,cell (ent st21 3) 7,cell (ent st21 3) 8,cell (ent st21 3) 9],[.sl n34 31 c35]] fun r36=>slcK 1 (cell (ent r36 1) 0) fun n37 c38
 => slcK 31 (cell (ent r36 3) 0) fun n39 c40=>K [[cell (ent r36 0) 0,cell (ent r36 0) 1,cell (ent r36 0) 2,cell (ent r36 0) 3,cell (ent r36 0)
 4,cell (ent r36 0) 5,cell (ent r36 0) 6,cell (ent r36 0) 7,cell (ent r36 0) 8,cell (ent r36 0) 9,cell (ent r36 0) 10,cell (ent r36 0) 11,
 cell (ent r36 0) 12,cell (ent r36 0) 13],[.sl n37 1 c38],[cell (ent r36 2) 0,cell (ent r36 2) 1,cell (ent r36 2) 2,cell (ent r36 2) 3,cell
 (ent r36 2) 4,cell (ent r36 2) 5,cell (ent r36 2) 6,cell (ent r36 2) 7,cell (ent r36 2) 8,cell (ent r36 2) 9],[.sl n39 31 c40]])) (ckK ((3 :
 Int) ≠ 0∧okI (Int.tdiv z33 3)) (ckK ((12 : Int) ≠ 0) (ckK ((36 : Int) ≠ 0∧okI (Int.tdiv z33 36)) (ifK (decide ((Int.tmod (Int.tdiv z33 3) 12) =
 (0 : Int))) (ckK (okI (z32 - 1)) (caK Is s49 [[vI 1,vI 0,vI 0,vI 0,.sl 0 5 []],[cell (ent st21 0) 0],[vI (z32 - 1)],[cell (ent st21 3) 0,
 cell (ent st21 3) 1,cell (ent st21 3) 2,cell (ent st21 3) 3,cell (ent st21 3) 4,cell (ent st21 3) 5,cell (ent st21 3) 6,cell (ent st21 3) 7,
 cell (ent st21 3) 8,cell (ent st21 3) 9],[.sl n34 31 c35]] fun r41=>slcK 1 (cell (ent r41 1) 0) fun n42 c43=>slcK 31 (cell (ent r41 3) 0) fun
 n44 c45=>ckK (okI (z32 - 1)) (caK Is s49 [ent st21 4,[cell (ent st21 0) 0],[vI (z32 - 1)],[cell (ent r41 2) 0,cell (ent r41 2) 1,cell (ent
 r41 2) 2,cell (ent r41 2) 3,cell (ent r41 2) 4,cell (ent r41 2) 5,cell (ent r41 2) 6,cell (ent r41 2) 7,cell (ent r41 2) 8,cell (ent r41 2)
 9],[.sl n44 31 c45]] fun r46=>slcK 1 (cell (ent r46 1) 0) fun n47 c48=>slcK 31 (cell (ent r46 3) 0) fun n49 c50=>ckK (okI (z32 - 1)) (caK Is
 s49 [ent st21 4,[cell (ent st21 0) 0],[vI (z32 - 1)],[cell (ent r46 2) 0,cell (ent r46 2) 1,cell (ent r46 2) 2,cell (ent r46 2) 3,cell (ent
 r46 2) 4,cell (ent r46 2) 5,cell (ent r46 2) 6,cell (ent r46 2) 7,cell (ent r46 2) 8,cell (ent r46 2) 9],[.sl n49 31 c50]] fun r51=>slcK 1
 (cell (ent r51 1) 0) fun n52 c53=>slcK 31 (cell (ent r51 3) 0) fun n54 c55=>caK Is s81 [[vI 5],[vI 0],[.sl 3 15 [cell (ent r41 0) 0,cell (ent
 r41 0) 1,cell (ent r41 0) 2,cell (ent r41 0) 3,cell (ent r41 0) 4,cell (ent r41 0) 5,cell (ent r41 0) 6,cell (ent r41 0) 7,cell (ent r41 0)
 8,cell (ent r41 0) 9,cell (ent r41 0) 10,cell (ent r41 0) 11,cell (ent r41 0) 12,cell (ent r41 0) 13,.sl n42 1 c43,cell (ent r46 0) 0,cell
 (ent r46 0) 1,cell (ent r46 0) 2,cell (ent r46 0) 3,cell (ent r46 0) 4,cell (ent r46 0) 5,cell (ent r46 0) 6,cell (ent r46 0) 7,cell (ent r46
 0) 8,cell (ent r46 0) 9,cell (ent r46 0) 10,cell (ent r46 0) 11,cell (ent r46 0) 12,cell (ent r46 0) 13,.sl n47 1 c48,cell (ent r51 0) 0,
 cell (ent r51 0) 1,cell (ent r51 0) 2,cell (ent r51 0) 3,cell (ent r51 0) 4,cell (ent r51 0) 5,cell (ent r51 0) 6,cell (ent r51 0) 7,cell
 (ent r51 0) 8,cell (ent r51 0) 9,cell (ent r51 0) 10,cell (ent r51 0) 11,cell (ent r51 0) 12,cell (ent r51 0) 13,.sl n52 1 c53]],[cell (ent
 r51 2) 0,cell (ent r51 2) 1,cell (ent r51 2) 2,cell (ent r51 2) 3,cell (ent r51 2) 4,cell (ent r51 2) 5,cell (ent r51 2) 6,cell (ent r51 2)
 7,cell (ent r51 2) 8,cell (ent r51 2) 9],[.sl n54 31 c55]] fun r56=>slcK 1 (cell (ent r56 1) 0) fun n57 c58=>slcK 31 (cell (ent r56 3) 0) fun
 n59 c60=>K [[cell (ent r56 0) 0,cell (ent r56 0) 1,cell (ent r56 0) 2,cell (ent r56 0) 3,cell (ent r56 0) 4,cell (ent r56 0) 5,cell (ent r56
 0) 6,cell (ent r56 0) 7,cell (ent r56 0) 8,cell (ent r56 0) 9,cell (ent r56 0) 10,cell (ent r56 0) 11,cell (ent r56 0) 12,cell (ent r56 0)
 13],[.sl n57 1 c58],[cell (ent r56 2) 0,cell (ent r56 2) 1,cell (ent r56 2) 2,cell (ent r56 2) 3,cell (ent r56 2) 4,cell (ent r56 2) 5,cell
 (ent r56 2) 6,cell (ent r56 2) 7,cell (ent r56 2) 8,cell (ent r56 2) 9],[.sl n59 31 c60]])))) (ifK (decide ((Int.tmod (Int.tdiv z33 3) 12) = (1
 : Int))) (ckK (okI (z32 - 1)) (caK Is s49 [[vI 1,vI 0,vI 0,vI 0,.sl 0 5 []],[cell (ent st21 0) 0],[vI (z32 - 1)],[cell (ent st21 3) 0,cell
 (ent st21 3) 1,cell (ent st21 3) 2,cell (ent st21 3) 3,cell (ent st21 3) 4,cell (ent st21 3) 5,cell (ent st21 3) 6,cell (ent st21 3) 7,cell
 (ent st21 3) 8,cell (ent st21 3) 9],[.sl n34 31 c35]] fun r61=>slcK 1 (cell (ent r61 1) 0) fun n62 c63=>slcK 31 (cell (ent r61 3) 0) fun n64
 c65=>ckK (okI (z32 - 1)) (caK Is s49 [ent st21 4,[cell (ent st21 0) 0],[vI (z32 - 1)],[cell (ent r61 2) 0,cell (ent r61 2) 1,cell (ent r61 2)
 2,cell (ent r61 2) 3,cell (ent r61 2) 4,cell (ent r61 2) 5,cell (ent r61 2) 6,cell (ent r61 2) 7,cell (ent r61 2) 8,cell (ent r61 2) 9],[.sl
 n64 31 c65]] fun r66=>slcK 1 (cell (ent r66 1) 0) fun n67 c68=>slcK 31 (cell (ent r66 3) 0) fun n69 c70=>ckK (okI (z32 - 1)) (caK Is s49 [ent
 st21 4,[cell (ent st21 0) 0],[vI (z32 - 1)],[cell (ent r66 2) 0,cell (ent r66 2) 1,cell (ent r66 2) 2,cell (ent r66 2) 3,cell (ent r66 2) 4,
 cell (ent r66 2) 5,cell (ent r66 2) 6,cell (ent r66 2) 7,cell (ent r66 2) 8,cell (ent r66 2) 9],[.sl n69 31 c70]] fun r71=>slcK 1 (cell (ent
 r71 1) 0) fun n72 c73=>slcK 31 (cell (ent r71 3) 0) fun n74 c75=>caK Is s81 [[vI 5],[vI 0],[.sl 3 15 [cell (ent r61 0) 0,cell (ent r61 0) 1,
 cell (ent r61 0) 2,cell (ent r61 0) 3,cell (ent r61 0) 4,cell (ent r61 0) 5,cell (ent r61 0) 6,cell (ent r61 0) 7,cell (ent r61 0) 8,cell
 (ent r61 0) 9,cell (ent r61 0) 10,cell (ent r61 0) 11,cell (ent r61 0) 12,cell (ent r61 0) 13,.sl n62 1 c63,cell (ent r66 0) 0,cell (ent r66
 0) 1,cell (ent r66 0) 2,cell (ent r66 0) 3,cell (ent r66 0) 4,cell (ent r66 0) 5,cell (ent r66 0) 6,cell (ent r66 0) 7,cell (ent r66 0) 8,
 cell (ent r66 0) 9,cell (ent r66 0) 10,cell (ent r66 0) 11,cell (ent r66 0) 12,cell (ent r66 0) 13,.sl n67 1 c68,cell (ent r71 0) 0,cell (ent
 r71 0) 1,cell (ent r71 0) 2,cell (ent r71 0) 3,cell (ent r71 0) 4,cell (ent r71 0) 5,cell (ent r71 0) 6,cell (ent r71 0) 7,cell (ent r71 0)
 8,cell (ent r71 0) 9,cell (ent r71 0) 10,cell (ent r71 0) 11,cell (ent r71 0) 12,cell (ent r71 0) 13,.sl n72 1 c73]],[cell (ent r71 2) 0,
 cell (ent r71 2) 1,cell (ent r71 2) 2,cell (ent r71 2) 3,cell (ent r71 2) 4,cell (ent r71 2) 5,cell (ent r71 2) 6,cell (ent r71 2) 7,cell
 (ent r71 2) 8,cell (ent r71 2) 9],[.sl n74 31 c75]] fun r76=>slcK 1 (cell (ent r76 1) 0) fun n77 c78=>slcK 31 (cell (ent r76 3) 0) fun n79 c80
 => K [[cell (ent r76 0) 0,cell (ent r76 0) 1,cell (ent r76 0) 2,cell (ent r76 0) 3,cell (ent r76 0) 4,cell (ent r76 0) 5,cell (ent r76 0) 6,
 cell (ent r76 0) 7,cell (ent r76 0) 8,cell (ent r76 0) 9,cell (ent r76 0) 10,cell (ent r76 0) 11,cell (ent r76 0) 12,cell (ent r76 0) 13],
 [.sl n77 1 c78],[cell (ent r76 2) 0,cell (ent r76 2) 1,cell (ent r76 2) 2,cell (ent r76 2) 3,cell (ent r76 2) 4,cell (ent r76 2) 5,cell (ent
 r76 2) 6,cell (ent r76 2) 7,cell (ent r76 2) 8,cell (ent r76 2) 9],[.sl n79 31 c80]])))) (ifK (decide ((Int.tmod (Int.tdiv z33 3) 12) = (2 :
 Int))) (slcK 9 (cell (ent st21 0) 0) fun n81 c82=>ckK ((n81 : Int) ≠ 0) (slcK 9 (cell (ent st21 0) 0) fun n83 c84=>ckK (0≤(Int.tmod (Int.tdiv
 z33 36) (n81 : Int))∧(Int.tmod (Int.tdiv z33 36) (n81 : Int)) < (n83 : Int)) (ckK (okI (z32 - 1)) (caK Is s49 [sub (el c84 9 (Int.toNat (Int.tmod
 (Int.tdiv z33 36) (n81 : Int)))) 4 5,[cell (ent st21 0) 0],[vI (z32 - 1)],[cell (ent st21 3) 0,cell (ent st21 3) 1,cell (ent st21 3) 2,cell
 (ent st21 3) 3,cell (ent st21 3) 4,cell (ent st21 3) 5,cell (ent st21 3) 6,cell (ent st21 3) 7,cell (ent st21 3) 8,cell (ent st21 3) 9],[.sl
 n34 31 c35]] fun r85=>slcK 1 (cell (ent r85 1) 0) fun n86 c87=>slcK 31 (cell (ent r85 3) 0) fun n88 c89=>caK Is s81 [[vI 6],[vI 0],[.sl 0 15
 []],[cell (ent r85 2) 0,cell (ent r85 2) 1,cell (ent r85 2) 2,cell (ent r85 2) 3,cell (ent r85 2) 4,cell (ent r85 2) 5,cell (ent r85 2) 6,
 cell (ent r85 2) 7,cell (ent r85 2) 8,cell (ent r85 2) 9],[.sl n88 31 c89]] fun r90=>slcK 1 (cell (ent r90 1) 0) fun n91 c92=>slcK 31 (cell
 (ent r90 3) 0) fun n93 c94=>caK Is s82 [[cell (ent r90 2) 0,cell (ent r90 2) 1,cell (ent r90 2) 2,cell (ent r90 2) 3,cell (ent r90 2) 4,cell
 (ent r90 2) 5,cell (ent r90 2) 6,cell (ent r90 2) 7,cell (ent r90 2) 8,cell (ent r90 2) 9],[.sl n93 31 c94]] fun r95=>slcK 31 (cell (ent r95
 2) 0) fun n96 c97=>caK Is s83 [[cell (ent st21 0) 0],[cell (ent r90 0) 0,cell (ent r90 0) 1,cell (ent r90 0) 2,vI 0,cell (sub (el c84 9
 (Int.toNat (Int.tmod (Int.tdiv z33 36) (n81 : Int)))) 4 5) 0,cell (sub (el c84 9 (Int.toNat (Int.tmod (Int.tdiv z33 36) (n81 : Int)))) 4 5) 1,cell
 (sub (el c84 9 (Int.toNat (Int.tmod (Int.tdiv z33 36) (n81 : Int)))) 4 5) 2,cell (sub (el c84 9 (Int.toNat (Int.tmod (Int.tdiv z33 36) (n81 :
 Int)))) 4 5) 3,cell (sub (el c84 9 (Int.toNat (Int.tmod (Int.tdiv z33 36) (n81 : Int)))) 4 5) 4]] fun r98=>slcK 9 (cell (ent r98 0) 0) fun n99
 c100=>ckK (okI (z32 - 1)) (caK Is s49 [ent st21 4,[.sl n99 9 c100],[vI (z32 - 1)],[cell (ent r95 1) 0,cell (ent r95 1) 1,cell (ent r95 1) 2,
 cell (ent r95 1) 3,cell (ent r95 1) 4,cell (ent r95 1) 5,cell (ent r95 1) 6,cell (ent r95 1) 7,cell (ent r95 1) 8,cell (ent r95 1) 9],[.sl
 n96 31 c97]] fun r101=>slcK 1 (cell (ent r101 1) 0) fun n102 c103=>slcK 31 (cell (ent r101 3) 0) fun n104 c105=>K [[cell (ent r90 0) 0,cell
 (ent r90 0) 1,cell (ent r90 0) 2,cell (ent r90 0) 3,cell (ent r90 0) 4,cell (ent r90 0) 5,cell (ent r90 0) 6,cell (ent r90 0) 7,cell (ent r90
 0) 8,cell (ent r90 0) 9,cell (ent r90 0) 10,cell (ent r90 0) 11,cell (ent r90 0) 12,.sl 2 15 [cell (ent r85 0) 0,cell (ent r85 0) 1,cell (ent
 r85 0) 2,cell (ent r85 0) 3,cell (ent r85 0) 4,cell (ent r85 0) 5,cell (ent r85 0) 6,cell (ent r85 0) 7,cell (ent r85 0) 8,cell (ent r85 0)
 9,cell (ent r85 0) 10,cell (ent r85 0) 11,cell (ent r85 0) 12,cell (ent r85 0) 13,.sl n86 1 c87,cell (ent r101 0) 0,cell (ent r101 0) 1,cell
 (ent r101 0) 2,cell (ent r101 0) 3,cell (ent r101 0) 4,cell (ent r101 0) 5,cell (ent r101 0) 6,cell (ent r101 0) 7,cell (ent r101 0) 8,cell
 (ent r101 0) 9,cell (ent r101 0) 10,cell (ent r101 0) 11,cell (ent r101 0) 12,cell (ent r101 0) 13,.sl n102 1 c103]],[.sl 1 1 [cell (ent r95
 0) 0]],[cell (ent r101 2) 0,cell (ent r101 2) 1,cell (ent r101 2) 2,cell (ent r101 2) 3,cell (ent r101 2) 4,cell (ent r101 2) 5,cell (ent
 r101 2) 6,cell (ent r101 2) 7,cell (ent r101 2) 8,cell (ent r101 2) 9],[.sl n104 31 c105]]))))) (ifK (decide ((Int.tmod (Int.tdiv z33 3) 12) =
 (3 : Int))) (caK Is s84 [ent st21 4,[cell (ent st21 0) 0],[vI (Int.tdiv z33 36)],[vI z32],[cell (ent st21 3) 0,cell (ent st21 3) 1,cell (ent
 st21 3) 2,cell (ent st21 3) 3,cell (ent st21 3) 4,cell (ent st21 3) 5,cell (ent st21 3) 6,cell (ent st21 3) 7,cell (ent st21 3) 8,cell (ent
 st21 3) 9],[.sl n34 31 c35]] fun r106=>slcK 1 (cell (ent r106 1) 0) fun n107 c108=>slcK 31 (cell (ent r106 3) 0) fun n109 c110=>K [[cell (ent
 r106 0) 0,cell (ent r106 0) 1,cell (ent r106 0) 2,cell (ent r106 0) 3,cell (ent r106 0) 4,cell (ent r106 0) 5,cell (ent r106 0) 6,cell (ent
 r106 0) 7,cell (ent r106 0) 8,cell (ent r106 0) 9,cell (ent r106 0) 10,cell (ent r106 0) 11,cell (ent r106 0) 12,cell (ent r106 0) 13],[.sl
 n107 1 c108],[cell (ent r106 2) 0,cell (ent r106 2) 1,cell (ent r106 2) 2,cell (ent r106 2) 3,cell (ent r106 2) 4,cell (ent r106 2) 5,cell
 (ent r106 2) 6,cell (ent r106 2) 7,cell (ent r106 2) 8,cell (ent r106 2) 9],[.sl n109 31 c110]]) (ifK (decide ((Int.tmod (Int.tdiv z33 3) 12) =
 (4 : Int))) (caK Is s84 [ent st21 4,[cell (ent st21 0) 0],[vI (Int.tdiv z33 36)],[vI z32],[cell (ent st21 3) 0,cell (ent st21 3) 1,cell (ent
 st21 3) 2,cell (ent st21 3) 3,cell (ent st21 3) 4,cell (ent st21 3) 5,cell (ent st21 3) 6,cell (ent st21 3) 7,cell (ent st21 3) 8,cell (ent
 st21 3) 9],[.sl n34 31 c35]] fun r111=>slcK 1 (cell (ent r111 1) 0) fun n112 c113=>slcK 31 (cell (ent r111 3) 0) fun n114 c115=>K [[cell (ent
 r111 0) 0,cell (ent r111 0) 1,cell (ent r111 0) 2,cell (ent r111 0) 3,cell (ent r111 0) 4,cell (ent r111 0) 5,cell (ent r111 0) 6,cell (ent
 r111 0) 7,cell (ent r111 0) 8,cell (ent r111 0) 9,cell (ent r111 0) 10,cell (ent r111 0) 11,cell (ent r111 0) 12,cell (ent r111 0) 13],[.sl
 n112 1 c113],[cell (ent r111 2) 0,cell (ent r111 2) 1,cell (ent r111 2) 2,cell (ent r111 2) 3,cell (ent r111 2) 4,cell (ent r111 2) 5,cell
 (ent r111 2) 6,cell (ent r111 2) 7,cell (ent r111 2) 8,cell (ent r111 2) 9],[.sl n114 31 c115]]) (ifK (decide ((Int.tmod (Int.tdiv z33 3) 12) =
 (5 : Int))) (caK Is s85 [ent st21 4,[cell (ent st21 0) 0],[vI (Int.tdiv z33 36)],[vI z32],[cell (ent st21 3) 0,cell (ent st21 3) 1,cell (ent
 st21 3) 2,cell (ent st21 3) 3,cell (ent st21 3) 4,cell (ent st21 3) 5,cell (ent st21 3) 6,cell (ent st21 3) 7,cell (ent st21 3) 8,cell (ent
 st21 3) 9],[.sl n34 31 c35]] fun r116=>slcK 1 (cell (ent r116 1) 0) fun n117 c118=>slcK 31 (cell (ent r116 3) 0) fun n119 c120=>K [[cell (ent
 r116 0) 0,cell (ent r116 0) 1,cell (ent r116 0) 2,cell (ent r116 0) 3,cell (ent r116 0) 4,cell (ent r116 0) 5,cell (ent r116 0) 6,cell (ent
 r116 0) 7,cell (ent r116 0) 8,cell (ent r116 0) 9,cell (ent r116 0) 10,cell (ent r116 0) 11,cell (ent r116 0) 12,cell (ent r116 0) 13],[.sl
 n117 1 c118],[cell (ent r116 2) 0,cell (ent r116 2) 1,cell (ent r116 2) 2,cell (ent r116 2) 3,cell (ent r116 2) 4,cell (ent r116 2) 5,cell
 (ent r116 2) 6,cell (ent r116 2) 7,cell (ent r116 2) 8,cell (ent r116 2) 9],[.sl n119 31 c120]]) (ifK (decide ((Int.tmod (Int.tdiv z33 3) 12) =
 (6 : Int))) (caK Is s86 [ent st21 4,[cell (ent st21 0) 0],[vI (Int.tdiv z33 36)],[vI z32],[cell (ent st21 3) 0,cell (ent st21 3) 1,cell (ent
 st21 3) 2,cell (ent st21 3) 3,cell (ent st21 3) 4,cell (ent st21 3) 5,cell (ent st21 3) 6,cell (ent st21 3) 7,cell (ent st21 3) 8,cell (ent
 st21 3) 9],[.sl n34 31 c35]] fun r121=>slcK 1 (cell (ent r121 1) 0) fun n122 c123=>slcK 31 (cell (ent r121 3) 0) fun n124 c125=>K [[cell (ent
 r121 0) 0,cell (ent r121 0) 1,cell (ent r121 0) 2,cell (ent r121 0) 3,cell (ent r121 0) 4,cell (ent r121 0) 5,cell (ent r121 0) 6,cell (ent
 r121 0) 7,cell (ent r121 0) 8,cell (ent r121 0) 9,cell (ent r121 0) 10,cell (ent r121 0) 11,cell (ent r121 0) 12,cell (ent r121 0) 13],[.sl
 n122 1 c123],[cell (ent r121 2) 0,cell (ent r121 2) 1,cell (ent r121 2) 2,cell (ent r121 2) 3,cell (ent r121 2) 4,cell (ent r121 2) 5,cell
 (ent r121 2) 6,cell (ent r121 2) 7,cell (ent r121 2) 8,cell (ent r121 2) 9],[.sl n124 31 c125]]) (ifK (decide ((Int.tmod (Int.tdiv z33 3) 12) =
 (7 : Int))) (caK Is s86 [ent st21 4,[cell (ent st21 0) 0],[vI (Int.tdiv z33 36)],[vI z32],[cell (ent st21 3) 0,cell (ent st21 3) 1,cell (ent
 st21 3) 2,cell (ent st21 3) 3,cell (ent st21 3) 4,cell (ent st21 3) 5,cell (ent st21 3) 6,cell (ent st21 3) 7,cell (ent st21 3) 8,cell (ent
 st21 3) 9],[.sl n34 31 c35]] fun r126=>slcK 1 (cell (ent r126 1) 0) fun n127 c128=>slcK 31 (cell (ent r126 3) 0) fun n129 c130=>K [[cell (ent
 r126 0) 0,cell (ent r126 0) 1,cell (ent r126 0) 2,cell (ent r126 0) 3,cell (ent r126 0) 4,cell (ent r126 0) 5,cell (ent r126 0) 6,cell (ent
 r126 0) 7,cell (ent r126 0) 8,cell (ent r126 0) 9,cell (ent r126 0) 10,cell (ent r126 0) 11,cell (ent r126 0) 12,cell (ent r126 0) 13],[.sl
 n127 1 c128],[cell (ent r126 2) 0,cell (ent r126 2) 1,cell (ent r126 2) 2,cell (ent r126 2) 3,cell (ent r126 2) 4,cell (ent r126 2) 5,cell
 (ent r126 2) 6,cell (ent r126 2) 7,cell (ent r126 2) 8,cell (ent r126 2) 9],[.sl n129 31 c130]]) (ifK (decide ((Int.tmod (Int.tdiv z33 3) 12) =
 (8 : Int))) (caK Is s41 [[vI 0,vI 0,vI 0,vI 0,.sl 0 5 []]] fun r131=>slcK 5 (cell (ent r131 1) 0) fun n132 c133=>ckK (okI (z32 - 1)) (caK Is
 s49 [[cell (ent r131 0) 0,cell (ent r131 0) 1,cell (ent r131 0) 2,cell (ent r131 0) 3,.sl n132 5 c133],[cell (ent st21 0) 0],[vI (z32 - 1)],
 [cell (ent st21 3) 0,cell (ent st21 3) 1,cell (ent st21 3) 2,cell (ent st21 3) 3,cell (ent st21 3) 4,cell (ent st21 3) 5,cell (ent st21 3) 6,
 cell (ent st21 3) 7,cell (ent st21 3) 8,cell (ent st21 3) 9],[.sl n34 31 c35]] fun r134=>slcK 1 (cell (ent r134 1) 0) fun n135 c136=>slcK 31
 (cell (ent r134 3) 0) fun n137 c138=>ckK (okI (z32 - 1)) (caK Is s49 [ent st21 4,[cell (ent st21 0) 0],[vI (z32 - 1)],[cell (ent r134 2) 0,
 cell (ent r134 2) 1,cell (ent r134 2) 2,cell (ent r134 2) 3,cell (ent r134 2) 4,cell (ent r134 2) 5,cell (ent r134 2) 6,cell (ent r134 2) 7,
 cell (ent r134 2) 8,cell (ent r134 2) 9],[.sl n137 31 c138]] fun r139=>slcK 1 (cell (ent r139 1) 0) fun n140 c141=>slcK 31 (cell (ent r139 3)
 0) fun n142 c143=>caK Is s81 [[vI 12],[vI 0],[.sl 0 15 []],[cell (ent r139 2) 0,cell (ent r139 2) 1,cell (ent r139 2) 2,cell (ent r139 2) 3,
 cell (ent r139 2) 4,cell (ent r139 2) 5,cell (ent r139 2) 6,cell (ent r139 2) 7,cell (ent r139 2) 8,cell (ent r139 2) 9],[.sl n142 31 c143]]
 fun r144=>slcK 1 (cell (ent r144 1) 0) fun n145 c146=>slcK 31 (cell (ent r144 3) 0) fun n147 c148=>caK Is s82 [[cell (ent r144 2) 0,cell (ent
 r144 2) 1,cell (ent r144 2) 2,cell (ent r144 2) 3,cell (ent r144 2) 4,cell (ent r144 2) 5,cell (ent r144 2) 6,cell (ent r144 2) 7,cell (ent
 r144 2) 8,cell (ent r144 2) 9],[.sl n147 31 c148]] fun r149=>slcK 31 (cell (ent r149 2) 0) fun n150 c151=>caK Is s82 [[cell (ent r149 1) 0,
 cell (ent r149 1) 1,cell (ent r149 1) 2,cell (ent r149 1) 3,cell (ent r149 1) 4,cell (ent r149 1) 5,cell (ent r149 1) 6,cell (ent r149 1) 7,
 cell (ent r149 1) 8,cell (ent r149 1) 9],[.sl n150 31 c151]] fun r152=>slcK 31 (cell (ent r152 2) 0) fun n153 c154=>caK Is s83 [[cell (ent
 st21 0) 0],[cell (ent r144 0) 0,cell (ent r144 0) 1,cell (ent r144 0) 2,vI 0,vI 0,vI 0,vI 0,vI 0,.sl 0 5 []]] fun r155=>slcK 9 (cell (ent
 r155 0) 0) fun n156 c157=>caK Is s83 [[.sl n156 9 c157],[cell (ent r144 0) 0,cell (ent r144 0) 1,cell (ent r144 0) 2,vI 1,cell (ent st21 4)
 0,cell (ent st21 4) 1,cell (ent st21 4) 2,cell (ent st21 4) 3,cell (ent st21 4) 4]] fun r158=>slcK 9 (cell (ent r158 0) 0) fun n159 c160 =>
 ckK (okI (z32 - 1)) (caK Is s49 [ent st21 4,[.sl n159 9 c160],[vI (z32 - 1)],[cell (ent r152 1) 0,cell (ent r152 1) 1,cell (ent r152 1) 2,cell
 (ent r152 1) 3,cell (ent r152 1) 4,cell (ent r152 1) 5,cell (ent r152 1) 6,cell (ent r152 1) 7,cell (ent r152 1) 8,cell (ent r152 1) 9],[.sl
 n153 31 c154]] fun r161=>slcK 1 (cell (ent r161 1) 0) fun n162 c163=>slcK 31 (cell (ent r161 3) 0) fun n164 c165=>K [[cell (ent r144 0) 0,
 cell (ent r144 0) 1,cell (ent r144 0) 2,cell (ent r144 0) 3,cell (ent r144 0) 4,cell (ent r144 0) 5,cell (ent r144 0) 6,cell (ent r144 0) 7,
 cell (ent r144 0) 8,cell (ent r144 0) 9,cell (ent r144 0) 10,cell (ent r144 0) 11,cell (ent r144 0) 12,.sl 3 15 [cell (ent r134 0) 0,cell (ent
 r134 0) 1,cell (ent r134 0) 2,cell (ent r134 0) 3,cell (ent r134 0) 4,cell (ent r134 0) 5,cell (ent r134 0) 6,cell (ent r134 0) 7,cell (ent
 r134 0) 8,cell (ent r134 0) 9,cell (ent r134 0) 10,cell (ent r134 0) 11,cell (ent r134 0) 12,cell (ent r134 0) 13,.sl n135 1 c136,cell (ent
 r139 0) 0,cell (ent r139 0) 1,cell (ent r139 0) 2,cell (ent r139 0) 3,cell (ent r139 0) 4,cell (ent r139 0) 5,cell (ent r139 0) 6,cell (ent
 r139 0) 7,cell (ent r139 0) 8,cell (ent r139 0) 9,cell (ent r139 0) 10,cell (ent r139 0) 11,cell (ent r139 0) 12,cell (ent r139 0) 13,.sl
 n140 1 c141,cell (ent r161 0) 0,cell (ent r161 0) 1,cell (ent r161 0) 2,cell (ent r161 0) 3,cell (ent r161 0) 4,cell (ent r161 0) 5,cell (ent
 r161 0) 6,cell (ent r161 0) 7,cell (ent r161 0) 8,cell (ent r161 0) 9,cell (ent r161 0) 10,cell (ent r161 0) 11,cell (ent r161 0) 12,cell
 (ent r161 0) 13,.sl n162 1 c163]],[.sl 2 1 [cell (ent r149 0) 0,cell (ent r152 0) 0]],[cell (ent r161 2) 0,cell (ent r161 2) 1,cell (ent r161
 2) 2,cell (ent r161 2) 3,cell (ent r161 2) 4,cell (ent r161 2) 5,cell (ent r161 2) 6,cell (ent r161 2) 7,cell (ent r161 2) 8,cell (ent r161
 2) 9],[.sl n164 31 c165]])))) (caK Is s87 [ent st21 4,[cell (ent st21 0) 0],[vI (Int.tdiv z33 36)],[vI z32],[cell (ent st21 3) 0,cell (ent
 st21 3) 1,cell (ent st21 3) 2,cell (ent st21 3) 3,cell (ent st21 3) 4,cell (ent st21 3) 5,cell (ent st21 3) 6,cell (ent st21 3) 7,cell (ent
 st21 3) 8,cell (ent st21 3) 9],[.sl n34 31 c35]] fun r166=>slcK 1 (cell (ent r166 1) 0) fun n167 c168=>slcK 31 (cell (ent r166 3) 0) fun n169
 c170=>K [[cell (ent r166 0) 0,cell (ent r166 0) 1,cell (ent r166 0) 2,cell (ent r166 0) 3,cell (ent r166 0) 4,cell (ent r166 0) 5,cell (ent
 r166 0) 6,cell (ent r166 0) 7,cell (ent r166 0) 8,cell (ent r166 0) 9,cell (ent r166 0) 10,cell (ent r166 0) 11,cell (ent r166 0) 12,cell
 (ent r166 0) 13],[.sl n167 1 c168],[cell (ent r166 2) 0,cell (ent r166 2) 1,cell (ent r166 2) 2,cell (ent r166 2) 3,cell (ent r166 2) 4,cell
 (ent r166 2) 5,cell (ent r166 2) 6,cell (ent r166 2) 7,cell (ent r166 2) 8,cell (ent r166 2) 9],[.sl n169 31 c170]])))))))))))))))
theorem w49 (Is : Sig→St'→St'→Prop) (a : St') (K : St'→Prop) : fnX Is Tryd.prog tb49 H49 s49 a K = g49 Is a K:=by kernel_rfl
theorem is49 {a r : St'} (h : g49 (Pm.Is Tryd.prog) a fun st=>st = r) (hu : unpack propQ (outSh s49) r (fun _=>True):=by exact trivial) : Pm.Is Tryd.prog s49 a r:=fn_ok (tbok [s41,s49,s77,s78,s79,s80,s81,s82,s83,s84,s85,s86,s87] []) mixP (H:=H49) (by rw [w49];exact h) hu
def H77 : Hint:=⟨[],[],[]⟩
abbrev tb77 : Tb:=⟨[s40],[35],[]⟩
def g77 (Is : Sig→St'→St'→Prop) (a : St') (K : St'→Prop) : Prop:=intK (cell (ent a 0) 0) fun z1=>slcK 31 (cell (ent a 2) 0) fun n2 c3 =>
 intK (cell (ent a 1) 2) fun z4=>ckK (okI (z4+1)) (ckK (okI ((z4+1) - 1)) (caK Is s40 [[cell (ent a 1) 1],[vI ((z4+1) - 1)],[vI z1]] fun r5
 => intK (cell (ent r5 0) 0) fun z6=>K [[vI z6],[cell (ent a 1) 0,cell (ent a 1) 1,vI (z4+1),cell (ent a 1) 3,cell (ent a 1) 4,cell (ent a
 1) 5,cell (ent a 1) 6,cell (ent a 1) 7,cell (ent a 1) 8,cell (ent a 1) 9],[.sl n2 31 c3]]))
theorem w77 (Is : Sig→St'→St'→Prop) (a : St') (K : St'→Prop) : fnX Is Tryd.prog tb77 H77 s77 a K = g77 Is a K:=by kernel_rfl
theorem is77 {a r : St'} (h : g77 (Pm.Is Tryd.prog) a fun st=>st = r) (hu : unpack propQ (outSh s77) r (fun _=>True):=by exact trivial) : Pm.Is Tryd.prog s77 a r:=fn_ok (tbok [s40] []) mixP (H:=H77) (by rw [w77];exact h) hu
def H78 : Hint:=⟨[(3,⟨[(0,.c .d),(3,.c (.p 0 0)),(5,.c (.w 1)),(6,.c .i)],[(0,.a 38 5),(1,.w 95 9)]⟩)],[(4,⟨[(0,.c .d),(3,.c (.p 0 0)),(5,.c (.w 1)),(6,.c .i)],[(0,.a 38 5),(1,.w 95 9)]⟩)],[]⟩
abbrev tb78 : Tb:=⟨[s105],[35],[]⟩
def g78 (Is : Sig→St'→St'→Prop) (a : St') (K : St'→Prop) : Prop:=Lp (fun next1 st2=>intK (cell (ent st2 1) 0) fun z3=>slcK 9 (cell (ent
 st2 3) 0) fun n4 c5=>slcK 9 (cell (ent st2 0) 0) fun n6 c7=>ifK (decide (z3 < (n6 : Int))) (jn (fun k8=>slcK 9 (cell (ent st2 0) 0) fun n10
 c11=>ckK (0≤z3∧z3 < (n10 : Int)) (caK Is s105 [sub (el c11 9 (Int.toNat z3)) 4 5,ent st2 2] fun r12=>booK (cell (ent r12 0) 0) fun b13 =>
 ifK b13 (slcK 9 (cell (ent st2 0) 0) fun n14 c15=>ckK (0≤z3∧z3 < (n14 : Int)) (ckK (room (n4+1) 89) (k8 [[cell (ent st2 0) 0],[vI z3],ent
 st2 2,[.sl (n4+1) 9 (c5++((el c15 9 (Int.toNat z3))++[]))]]))) (k8 [[cell (ent st2 0) 0],[vI z3],ent st2 2,[.sl n4 9 c5]]))) (fun st9 =>
 intK (cell (ent st9 1) 0) fun z16=>slcK 9 (cell (ent st9 3) 0) fun n17 c18=>ckK (okI (z16+1)) (next1 [[cell (ent st9 0) 0],[vI (z16+1)],
 ent st9 2,[.sl n17 9 c18]]))) (K [[.sl n4 9 c5]])) [[cell (ent a 0) 0],[vI 0],ent a 1,[.sl 0 9 []]]
theorem w78 (Is : Sig→St'→St'→Prop) (a : St') (K : St'→Prop) : fnX Is Tryd.prog tb78 H78 s78 a K = g78 Is a K:=by kernel_rfl
theorem is78 {a r : St'} (h : g78 (Pm.Is Tryd.prog) a fun st=>st = r) (hu : unpack propQ (outSh s78) r (fun _=>True):=by exact trivial) : Pm.Is Tryd.prog s78 a r:=fn_ok (tbok [s105] []) mixP (H:=H78) (by rw [w78];exact h) hu
def H105 : Hint:=⟨[(4,⟨[(2,.c (.p 0 0)),(3,.c (.p 1 0)),(5,.c .i)],[(0,.a 38 5),(1,.a 38 5)]⟩)],[],[]⟩
abbrev tb105 : Tb:=⟨[s105],[35],[]⟩
def g105 (Is : Sig→St'→St'→Prop) (a : St') (K : St'→Prop) : Prop:=intK (cell (ent a 0) 0) fun z1=>intK (cell (ent a 1) 0) fun z2=>ifK
 (!(decide (z1 = z2))) (K [[vB false]]) (intK (cell (sub (ent a 0) 1 3) 0) fun z3=>intK (cell (sub (ent a 0) 1 3) 1) fun z4=>intK (cell (sub (ent
 a 0) 1 3) 2) fun z5=>intK (cell (sub (ent a 1) 1 3) 0) fun z6=>intK (cell (sub (ent a 1) 1 3) 1) fun z7=>intK (cell (sub (ent a 1) 1 3) 2) fun
 z8=>ifK (!(decide (z3 = z6∧z4 = z7∧z5 = z8))) (K [[vB false]]) (slcK 5 (cell (ent a 0) 4) fun n9 c10=>slcK 5 (cell (ent a 1) 4) fun n11 c12
 => ifK (!(decide ((n9 : Int) = (n11 : Int)))) (K [[vB false]]) (Lp (fun next13 st14=>intK (cell (ent st14 0) 0) fun z15=>slcK 5 (cell (ent st14
 1) 4) fun n16 c17=>ifK (decide (z15 < (n16 : Int))) (slcK 5 (cell (ent st14 1) 4) fun n18 c19=>ckK (0≤z15∧z15 < (n18 : Int)) (slcK 5 (cell
 (ent st14 2) 4) fun n20 c21=>ckK (0≤z15∧z15 < (n20 : Int)) (caK Is s105 [el c19 5 (Int.toNat z15),el c21 5 (Int.toNat z15)] fun r22=>booK
 (cell (ent r22 0) 0) fun b23=>ifK (!b23) (K [[vB false]]) (ckK (okI (z15+1)) (next13 [[vI (z15+1)],ent st14 1,ent st14 2]))))) (K [[vB
 true]])) [[vI 0],ent a 0,ent a 1])))
theorem w105 (Is : Sig→St'→St'→Prop) (a : St') (K : St'→Prop) : fnX Is Tryd.prog tb105 H105 s105 a K = g105 Is a K:=by kernel_rfl
theorem is105 {a r : St'} (h : g105 (Pm.Is Tryd.prog) a fun st=>st = r) (hu : unpack propQ (outSh s105) r (fun _=>True):=by exact trivial) : Pm.Is Tryd.prog s105 a r:=fn_ok (tbok [s105] []) mixP (H:=H105) (by rw [w105];exact h) hu
def H79 : Hint:=⟨[],[],[]⟩
abbrev tb79 : Tb:=⟨[s81],[35],[]⟩
def g79 (Is : Sig→St'→St'→Prop) (a : St') (K : St'→Prop) : Prop:=slcK 31 (cell (ent a 2) 0) fun n1 c2=>caK Is s81 [[vI 2],[cell (ent a 0)
 3],[.sl 0 15 []],[cell (ent a 1) 0,cell (ent a 1) 1,cell (ent a 1) 2,cell (ent a 1) 3,cell (ent a 1) 4,cell (ent a 1) 5,cell (ent a 1) 6,
 cell (ent a 1) 7,cell (ent a 1) 8,cell (ent a 1) 9],[.sl n1 31 c2]] fun r3=>slcK 1 (cell (ent r3 1) 0) fun n4 c5=>slcK 31 (cell (ent r3 3) 0)
 fun n6 c7=>K [[cell (ent r3 0) 0,cell (ent r3 0) 1,cell (ent r3 0) 2,cell (ent r3 0) 3,cell (ent r3 0) 4,cell (sub (ent a 0) 0 3) 0,cell
 (sub (ent a 0) 0 3) 1,cell (sub (ent a 0) 0 3) 2,cell (ent r3 0) 8,cell (ent r3 0) 9,cell (ent r3 0) 10,cell (ent r3 0) 11,cell (ent r3 0) 12,
 cell (ent r3 0) 13],[.sl n4 1 c5],[cell (ent r3 2) 0,cell (ent r3 2) 1,cell (ent r3 2) 2,cell (ent r3 2) 3,cell (ent r3 2) 4,cell (ent r3 2)
 5,cell (ent r3 2) 6,cell (ent r3 2) 7,cell (ent r3 2) 8,cell (ent r3 2) 9],[.sl n6 31 c7]]
theorem w79 (Is : Sig→St'→St'→Prop) (a : St') (K : St'→Prop) : fnX Is Tryd.prog tb79 H79 s79 a K = g79 Is a K:=by kernel_rfl
theorem is79 {a r : St'} (h : g79 (Pm.Is Tryd.prog) a fun st=>st = r) (hu : unpack propQ (outSh s79) r (fun _=>True):=by exact trivial) : Pm.Is Tryd.prog s79 a r:=fn_ok (tbok [s81] []) mixP (H:=H79) (by rw [w79];exact h) hu
def H81 : Hint:=⟨[],[],[]⟩
abbrev tb81 : Tb:=⟨[],[35],[]⟩
def g81 (Is : Sig→St'→St'→Prop) (a : St') (K : St'→Prop) : Prop:=intK (cell (ent a 0) 0) fun z1=>intK (cell (ent a 1) 0) fun z2=>slcK 31
 (cell (ent a 4) 0) fun n3 c4=>intK (cell (ent a 3) 3) fun z5=>ckK (okI (z5+1)) (intK (cell (ent a 3) 4) fun z6=>ckK (okI (z6 - 1)) (ckK (okI
 ((z5+1) - 1)) (K [[vI 0,vI 0,vI ((z5+1) - 1),vI z1,vI z2,vI 0,vI 0,vI 0,vI 0,vI 0,vI 0,vI 0,.sl 0 5 [],cell (ent a 2) 0],[.sl 0 1
 []],[cell (ent a 3) 0,cell (ent a 3) 1,cell (ent a 3) 2,vI (z5+1),vI (z6 - 1),cell (ent a 3) 5,cell (ent a 3) 6,cell (ent a 3) 7,cell
 (ent a 3) 8,cell (ent a 3) 9],[.sl n3 31 c4]])))
theorem w81 (Is : Sig→St'→St'→Prop) (a : St') (K : St'→Prop) : fnX Is Tryd.prog tb81 H81 s81 a K = g81 Is a K:=by kernel_rfl
theorem is81 {a r : St'} (h : g81 (Pm.Is Tryd.prog) a fun st=>st = r) (hu : unpack propQ (outSh s81) r (fun _=>True):=by exact trivial) : Pm.Is Tryd.prog s81 a r:=fn_ok (tbok [] []) mixP (H:=H81) (by rw [w81];exact h) hu
def H80 : Hint:=⟨[(11,⟨[(0,.c (.p 0 0)),(2,.c .d),(3,.c .i),(4,.c .i),(6,.c (.p 2 0)),(10,.c (.p 3 0)),(12,.c (.w 4)),(13,.c .i)],[(0,.b 92 [.d,.w 1,.d,.d,.d,.d,.d,.d,.d,.d,.d]),(2,.a 38 5),(3,.a 50 15),(4,.w 50 15),(1,.w 52 31)]⟩),(28,⟨[(0,.c (.p 0 0)),(2,.c .d),(4,.c .i),(10,.c (.p 2 0)),(15,.c (.p 3 0)),(20,.c (.w 4)),(21,.c .i)],[(0,.b 92 [.d,.w 1,.d,.d,.d,.d,.d,.d,.d,.d,.d]),(2,.a 50 15),(3,.a 52 31),(4,.w 50 15),(1,.w 52 31)]⟩)],[(5,⟨[(0,.c (.p 0 0)),(10,.c (.p 2 0)),(11,.c .i)],[(0,.b 92 [.d,.w 1,.d,.d,.d,.d,.d,.d,.d,.d,.d]),(2,.a 50 15),(1,.w 52 31)]⟩),(14,⟨[(0,.c (.p 0 0)),(6,.c (.p 2 0)),(10,.c (.p 3 0)),(12,.c (.w 4))],[(0,.b 92 [.d,.w 1,.d,.d,.d,.d,.d,.d,.d,.d,.d]),(2,.a 38 5),(3,.a 50 15),(4,.w 50 15),(1,.w 52 31)]⟩),(22,⟨[(0,.c (.p 0 0)),(2,.c .d),(4,.c .i),(10,.c (.p 2 0)),(15,.c (.p 3 0)),(17,.c .i)],[(0,.b 92 [.d,.w 1,.d,.d,.d,.d,.d,.d,.d,.d,.d]),(2,.a 50 15),(3,.a 52 31),(1,.w 52 31)]⟩),(31,⟨[(0,.c (.p 0 0)),(10,.c (.p 2 0)),(15,.c (.p 3 0)),(20,.c (.w 4))],[(0,.b 92 [.d,.w 1,.d,.d,.d,.d,.d,.d,.d,.d,.d]),(2,.a 50 15),(3,.a 52 31),(4,.w 50 15),(1,.w 52 31)]⟩)],[]⟩
abbrev tb80 : Tb:=⟨[s49,s58,s81],[35],[]⟩
def g80 (Is : Sig→St'→St'→Prop) (a : St') (K : St'→Prop) : Prop:=intK (cell (ent a 2) 0) fun z1=>intK (cell (ent a 3) 0) fun z2=>slcK 31
 (cell (ent a 5) 0) fun n3 c4=>intK (cell (ent a 0) 0) fun z5=>ifK (decide (z5 = (0 : Int))) (ckK ((9 : Int) ≠ 0) (ckK (okI ((Int.tmod z1 9) -
 2)) (jn (fun k6=>ckK ((29 : Int) ≠ 0) (ifK (decide ((Int.tmod z1 29) = (3 : Int))) (ckK ((2 : Int) ≠ 0) (ckK (okI (1099511627776 - (Int.tmod z1
 2))) (k6 [[vI (1099511627776 - (Int.tmod z1 2))],[cell (ent a 4) 0,cell (ent a 4) 1,cell (ent a 4) 2,cell (ent a 4) 3,cell (ent a 4) 4,cell
 (ent a 4) 5,cell (ent a 4) 6,cell (ent a 4) 7,cell (ent a 4) 8,cell (ent a 4) 9],[vI 0,vI 0,vI 0,vI 0,vI 0,vI 0,vI 0,vI 0,vI 0,vI 0,
 vI 0,vI 0,.sl 0 5 [],.sl 0 15 [],.sl 0 1 []],[.sl n3 31 c4]]))) (k6 [[vI ((Int.tmod z1 9) - 2)],[cell (ent a 4) 0,cell (ent a 4) 1,cell (ent
 a 4) 2,cell (ent a 4) 3,cell (ent a 4) 4,cell (ent a 4) 5,cell (ent a 4) 6,cell (ent a 4) 7,cell (ent a 4) 8,cell (ent a 4) 9],[vI 0,vI 0,
 vI 0,vI 0,vI 0,vI 0,vI 0,vI 0,vI 0,vI 0,vI 0,vI 0,.sl 0 5 [],.sl 0 15 [],.sl 0 1 []],[.sl n3 31 c4]]))) (fun st7=>intK (cell (ent st7
 0) 0) fun z8=>slcK 31 (cell (ent st7 3) 0) fun n9 c10=>caK Is s81 [[vI 0],[vI z8],[.sl 0 15 []],[cell (ent st7 1) 0,cell (ent st7 1) 1,cell
 (ent st7 1) 2,cell (ent st7 1) 3,cell (ent st7 1) 4,cell (ent st7 1) 5,cell (ent st7 1) 6,cell (ent st7 1) 7,cell (ent st7 1) 8,cell (ent st7
 1) 9],[.sl n9 31 c10]] fun r11=>slcK 1 (cell (ent r11 1) 0) fun n12 c13=>slcK 31 (cell (ent r11 3) 0) fun n14 c15=>K [[cell (ent r11 0) 0,
 cell (ent r11 0) 1,cell (ent r11 0) 2,cell (ent r11 0) 3,cell (ent r11 0) 4,cell (ent r11 0) 5,cell (ent r11 0) 6,cell (ent r11 0) 7,cell
 (ent r11 0) 8,cell (ent r11 0) 9,cell (ent r11 0) 10,cell (ent r11 0) 11,cell (ent r11 0) 12,cell (ent r11 0) 13],[.sl n12 1 c13],[cell (ent
 r11 2) 0,cell (ent r11 2) 1,cell (ent r11 2) 2,cell (ent r11 2) 3,cell (ent r11 2) 4,cell (ent r11 2) 5,cell (ent r11 2) 6,cell (ent r11 2)
 7,cell (ent r11 2) 8,cell (ent r11 2) 9],[.sl n14 31 c15]])))) (intK (cell (ent a 0) 0) fun z16=>ifK (decide (z16 = (1 : Int))) (ckK ((2 : Int)
 ≠ 0) (caK Is s81 [[vI 1],[vI (Int.tmod z1 2)],[.sl 0 15 []],[cell (ent a 4) 0,cell (ent a 4) 1,cell (ent a 4) 2,cell (ent a 4) 3,cell (ent a
 4) 4,cell (ent a 4) 5,cell (ent a 4) 6,cell (ent a 4) 7,cell (ent a 4) 8,cell (ent a 4) 9],[.sl n3 31 c4]] fun r17=>slcK 1 (cell (ent r17 1)
 0) fun n18 c19=>slcK 31 (cell (ent r17 3) 0) fun n20 c21=>K [[cell (ent r17 0) 0,cell (ent r17 0) 1,cell (ent r17 0) 2,cell (ent r17 0) 3,
 cell (ent r17 0) 4,cell (ent r17 0) 5,cell (ent r17 0) 6,cell (ent r17 0) 7,cell (ent r17 0) 8,cell (ent r17 0) 9,cell (ent r17 0) 10,cell
 (ent r17 0) 11,cell (ent r17 0) 12,cell (ent r17 0) 13],[.sl n18 1 c19],[cell (ent r17 2) 0,cell (ent r17 2) 1,cell (ent r17 2) 2,cell (ent
 r17 2) 3,cell (ent r17 2) 4,cell (ent r17 2) 5,cell (ent r17 2) 6,cell (ent r17 2) 7,cell (ent r17 2) 8,cell (ent r17 2) 9],[.sl n20 31
 c21]])) (intK (cell (ent a 0) 0) fun z22=>ifK (decide (z22 = (2 : Int))) (jn (fun k23=>Lp (fun next25 st26=>intK (cell (ent st26 1) 0) fun z27
 => intK (cell (ent st26 2) 0) fun z28=>intK (cell (ent st26 3) 0) fun z29=>slcK 15 (cell (ent st26 7) 0) fun n30 c31=>slcK 31 (cell (ent st26
 8) 0) fun n32 c33=>ckK ((3 : Int) ≠ 0) (ifK (decide (z29 < (Int.tmod z27 3))) (ifK (decide ((0 : Int)≤z28)) (intK (cell (ent st26 4) 4) fun z34
 => ifK (decide ((0 : Int) < z34)) (slcK 5 (cell (ent st26 5) 4) fun n35 c36=>ckK (0≤(0 : Int)∧(0 : Int) < (n35 : Int)) (ckK (okI (z28 - 1))
 (caK Is s49 [el c36 5 0,[cell (ent st26 0) 0],[vI (z28 - 1)],[cell (ent st26 4) 0,cell (ent st26 4) 1,cell (ent st26 4) 2,cell (ent st26 4) 3,
 cell (ent st26 4) 4,cell (ent st26 4) 5,cell (ent st26 4) 6,cell (ent st26 4) 7,cell (ent st26 4) 8,cell (ent st26 4) 9],[.sl n32 31 c33]] fun
 r37=>slcK 1 (cell (ent r37 1) 0) fun n38 c39=>slcK 31 (cell (ent r37 3) 0) fun n40 c41=>ckK (room (n30+1) 169) (ckK (okI (z29+1)) (next25
 [[cell (ent st26 0) 0],[vI z27],[vI z28],[vI (z29+1)],[cell (ent r37 2) 0,cell (ent r37 2) 1,cell (ent r37 2) 2,cell (ent r37 2) 3,cell
 (ent r37 2) 4,cell (ent r37 2) 5,cell (ent r37 2) 6,cell (ent r37 2) 7,cell (ent r37 2) 8,cell (ent r37 2) 9],ent st26 5,ent st26 6,[.sl
 (n30+1) 15 (c31++[cell (ent r37 0) 0,cell (ent r37 0) 1,cell (ent r37 0) 2,cell (ent r37 0) 3,cell (ent r37 0) 4,cell (ent r37 0) 5,cell
 (ent r37 0) 6,cell (ent r37 0) 7,cell (ent r37 0) 8,cell (ent r37 0) 9,cell (ent r37 0) 10,cell (ent r37 0) 11,cell (ent r37 0) 12,cell (ent
 r37 0) 13,.sl n38 1 c39])],[.sl n40 31 c41]]))))) (k23 [[cell (ent st26 4) 0,cell (ent st26 4) 1,cell (ent st26 4) 2,cell (ent st26 4) 3,cell
 (ent st26 4) 4,cell (ent st26 4) 5,cell (ent st26 4) 6,cell (ent st26 4) 7,cell (ent st26 4) 8,cell (ent st26 4) 9],ent st26 5,ent st26 6,
 [.sl n30 15 c31],[.sl n32 31 c33]])) (k23 [[cell (ent st26 4) 0,cell (ent st26 4) 1,cell (ent st26 4) 2,cell (ent st26 4) 3,cell (ent st26 4)
 4,cell (ent st26 4) 5,cell (ent st26 4) 6,cell (ent st26 4) 7,cell (ent st26 4) 8,cell (ent st26 4) 9],ent st26 5,ent st26 6,[.sl n30 15
 c31],[.sl n32 31 c33]])) (k23 [[cell (ent st26 4) 0,cell (ent st26 4) 1,cell (ent st26 4) 2,cell (ent st26 4) 3,cell (ent st26 4) 4,cell (ent
 st26 4) 5,cell (ent st26 4) 6,cell (ent st26 4) 7,cell (ent st26 4) 8,cell (ent st26 4) 9],ent st26 5,ent st26 6,[.sl n30 15 c31],[.sl n32
 31 c33]]))) [[cell (ent a 1) 0],[vI z1],[vI z2],[vI 0],[cell (ent a 4) 0,cell (ent a 4) 1,cell (ent a 4) 2,cell (ent a 4) 3,cell (ent a 4)
 4,cell (ent a 4) 5,cell (ent a 4) 6,cell (ent a 4) 7,cell (ent a 4) 8,cell (ent a 4) 9],ent a 0,[vI 0,vI 0,vI 0,vI 0,vI 0,vI 0,vI 0,vI
 0,vI 0,vI 0,vI 0,vI 0,.sl 0 5 [],.sl 0 15 [],.sl 0 1 []],[.sl 0 15 []],[.sl n3 31 c4]]) (fun st24=>slcK 15 (cell (ent st24 3) 0) fun n42
 c43=>slcK 31 (cell (ent st24 4) 0) fun n44 c45=>caK Is s81 [[vI 11],[vI 0],[.sl n42 15 c43],[cell (ent st24 0) 0,cell (ent st24 0) 1,cell
 (ent st24 0) 2,cell (ent st24 0) 3,cell (ent st24 0) 4,cell (ent st24 0) 5,cell (ent st24 0) 6,cell (ent st24 0) 7,cell (ent st24 0) 8,cell
 (ent st24 0) 9],[.sl n44 31 c45]] fun r46=>slcK 1 (cell (ent r46 1) 0) fun n47 c48=>slcK 31 (cell (ent r46 3) 0) fun n49 c50=>slcK 5 (cell
 (ent st24 1) 4) fun n51 c52=>ckK (0≤(0 : Int)∧(0 : Int) < (n51 : Int)) (K [[cell (ent r46 0) 0,cell (ent r46 0) 1,cell (ent r46 0) 2,cell
 (ent r46 0) 3,cell (ent r46 0) 4,cell (ent r46 0) 5,cell (ent r46 0) 6,cell (ent r46 0) 7,cell (el c52 5 0) 0,cell (el c52 5 0) 1,cell (el
 c52 5 0) 2,cell (el c52 5 0) 3,cell (el c52 5 0) 4,cell (ent r46 0) 13],[.sl n47 1 c48],[cell (ent r46 2) 0,cell (ent r46 2) 1,cell (ent r46
 2) 2,cell (ent r46 2) 3,cell (ent r46 2) 4,cell (ent r46 2) 5,cell (ent r46 2) 6,cell (ent r46 2) 7,cell (ent r46 2) 8,cell (ent r46 2) 9],
 [.sl n49 31 c50]]))) (caK Is s58 [[cell (ent a 4) 0],sub (ent a 0) 1 3,[.sl n3 31 c4]] fun r53=>booK (cell (ent r53 1) 0) fun b54=>slcK 31
 (cell (ent r53 2) 0) fun n55 c56=>intK (cell (ent r53 0) 3) fun z57=>ifK (decide (z57 = (1 : Int))) (slcK 11 (cell (ent r53 0) 8) fun n58 c59 =>
 ckK ((n58 : Int) ≠ 0) (jn (fun k60=>ifK (decide (z2 < (0 : Int))) (k60 [[cell (ent a 1) 0],[vI z2],[vI 0],[cell (ent a 4) 0,cell (ent a 4) 1,
 cell (ent a 4) 2,cell (ent a 4) 3,cell (ent a 4) 4,cell (ent a 4) 5,cell (ent a 4) 6,cell (ent a 4) 7,cell (ent a 4) 8,cell (ent a 4) 9],[vI
 0,vI 0,vI 0,vI 0,vI 0,vI 0,vI 0,vI 0,vI 0,vI 0,vI 0,vI 0,.sl 0 5 [],.sl 0 15 [],.sl 0 1 []],ent r53 0,[.sl n55 31 c56]]) (k60 [[cell
 (ent a 1) 0],[vI z2],[vI (Int.tmod z1 (n58 : Int))],[cell (ent a 4) 0,cell (ent a 4) 1,cell (ent a 4) 2,cell (ent a 4) 3,cell (ent a 4) 4,
 cell (ent a 4) 5,cell (ent a 4) 6,cell (ent a 4) 7,cell (ent a 4) 8,cell (ent a 4) 9],[vI 0,vI 0,vI 0,vI 0,vI 0,vI 0,vI 0,vI 0,vI 0,vI
 0,vI 0,vI 0,.sl 0 5 [],.sl 0 15 [],.sl 0 1 []],ent r53 0,[.sl n55 31 c56]])) (fun st61=>intK (cell (ent st61 1) 0) fun z62=>intK (cell
 (ent st61 2) 0) fun z63=>slcK 31 (cell (ent st61 6) 0) fun n64 c65=>slcK 11 (cell (ent st61 5) 8) fun n66 c67=>ckK (0≤z63∧z63 < (n66 :
 Int)) (ckK (okI (z62 - 1)) (caK Is s49 [sub (el c67 11 (Int.toNat z63)) 4 5,[cell (ent st61 0) 0],[vI (z62 - 1)],[cell (ent st61 3) 0,cell (ent
 st61 3) 1,cell (ent st61 3) 2,cell (ent st61 3) 3,cell (ent st61 3) 4,cell (ent st61 3) 5,cell (ent st61 3) 6,cell (ent st61 3) 7,cell (ent
 st61 3) 8,cell (ent st61 3) 9],[.sl n64 31 c65]] fun r68=>slcK 1 (cell (ent r68 1) 0) fun n69 c70=>slcK 31 (cell (ent r68 3) 0) fun n71 c72 =>
 caK Is s81 [[vI 9],[vI z63],[.sl 1 15 [cell (ent r68 0) 0,cell (ent r68 0) 1,cell (ent r68 0) 2,cell (ent r68 0) 3,cell (ent r68 0) 4,cell
 (ent r68 0) 5,cell (ent r68 0) 6,cell (ent r68 0) 7,cell (ent r68 0) 8,cell (ent r68 0) 9,cell (ent r68 0) 10,cell (ent r68 0) 11,cell (ent
 r68 0) 12,cell (ent r68 0) 13,.sl n69 1 c70]],[cell (ent r68 2) 0,cell (ent r68 2) 1,cell (ent r68 2) 2,cell (ent r68 2) 3,cell (ent r68 2)
 4,cell (ent r68 2) 5,cell (ent r68 2) 6,cell (ent r68 2) 7,cell (ent r68 2) 8,cell (ent r68 2) 9],[.sl n71 31 c72]] fun r73=>slcK 1 (cell
 (ent r73 1) 0) fun n74 c75=>slcK 31 (cell (ent r73 3) 0) fun n76 c77=>K [[cell (ent r73 0) 0,cell (ent r73 0) 1,cell (ent r73 0) 2,cell (ent
 r73 0) 3,cell (ent r73 0) 4,cell (sub (ent st61 5) 0 3) 0,cell (sub (ent st61 5) 0 3) 1,cell (sub (ent st61 5) 0 3) 2,cell (ent r73 0) 8,cell
 (ent r73 0) 9,cell (ent r73 0) 10,cell (ent r73 0) 11,cell (ent r73 0) 12,cell (ent r73 0) 13],[.sl n74 1 c75],[cell (ent r73 2) 0,cell (ent
 r73 2) 1,cell (ent r73 2) 2,cell (ent r73 2) 3,cell (ent r73 2) 4,cell (ent r73 2) 5,cell (ent r73 2) 6,cell (ent r73 2) 7,cell (ent r73 2)
 8,cell (ent r73 2) 9],[.sl n76 31 c77]]))))) (jn (fun k78=>Lp (fun next80 st81=>intK (cell (ent st81 1) 0) fun z82=>intK (cell (ent st81 2)
 0) fun z83=>slcK 15 (cell (ent st81 6) 0) fun n84 c85=>slcK 31 (cell (ent st81 7) 0) fun n86 c87=>slcK 11 (cell (ent st81 5) 8) fun n88 c89 =>
 ifK (decide (z83 < (n88 : Int))) (slcK 11 (cell (ent st81 5) 8) fun n90 c91=>ckK (0≤z83∧z83 < (n90 : Int)) (ckK (okI (z82 - 1)) (caK Is s49
 [sub (el c91 11 (Int.toNat z83)) 4 5,[cell (ent st81 0) 0],[vI (z82 - 1)],[cell (ent st81 3) 0,cell (ent st81 3) 1,cell (ent st81 3) 2,cell
 (ent st81 3) 3,cell (ent st81 3) 4,cell (ent st81 3) 5,cell (ent st81 3) 6,cell (ent st81 3) 7,cell (ent st81 3) 8,cell (ent st81 3) 9],[.sl
 n86 31 c87]] fun r92=>slcK 1 (cell (ent r92 1) 0) fun n93 c94=>slcK 31 (cell (ent r92 3) 0) fun n95 c96=>ckK (room (n84+1) 169) (ckK (okI
 (z83+1)) (next80 [[cell (ent st81 0) 0],[vI z82],[vI (z83+1)],[cell (ent r92 2) 0,cell (ent r92 2) 1,cell (ent r92 2) 2,cell (ent r92 2)
 3,cell (ent r92 2) 4,cell (ent r92 2) 5,cell (ent r92 2) 6,cell (ent r92 2) 7,cell (ent r92 2) 8,cell (ent r92 2) 9],ent st81 4,ent st81 5,
 [.sl (n84+1) 15 (c85++[cell (ent r92 0) 0,cell (ent r92 0) 1,cell (ent r92 0) 2,cell (ent r92 0) 3,cell (ent r92 0) 4,cell (ent r92 0) 5,
 cell (ent r92 0) 6,cell (ent r92 0) 7,cell (ent r92 0) 8,cell (ent r92 0) 9,cell (ent r92 0) 10,cell (ent r92 0) 11,cell (ent r92 0) 12,cell
 (ent r92 0) 13,.sl n93 1 c94])],[.sl n95 31 c96]]))))) (k78 [[cell (ent st81 3) 0,cell (ent st81 3) 1,cell (ent st81 3) 2,cell (ent st81 3) 3,
 cell (ent st81 3) 4,cell (ent st81 3) 5,cell (ent st81 3) 6,cell (ent st81 3) 7,cell (ent st81 3) 8,cell (ent st81 3) 9],ent st81 4,ent st81
 5,[.sl n84 15 c85],[.sl n86 31 c87]])) [[cell (ent a 1) 0],[vI z2],[vI 0],[cell (ent a 4) 0,cell (ent a 4) 1,cell (ent a 4) 2,cell (ent a 4)
 3,cell (ent a 4) 4,cell (ent a 4) 5,cell (ent a 4) 6,cell (ent a 4) 7,cell (ent a 4) 8,cell (ent a 4) 9],[vI 0,vI 0,vI 0,vI 0,vI 0,vI 0,
 vI 0,vI 0,vI 0,vI 0,vI 0,vI 0,.sl 0 5 [],.sl 0 15 [],.sl 0 1 []],ent r53 0,[.sl 0 15 []],[.sl n55 31 c56]]) (fun st79=>slcK 15 (cell
 (ent st79 3) 0) fun n97 c98=>slcK 31 (cell (ent st79 4) 0) fun n99 c100=>caK Is s81 [[vI 7],[vI 0],[.sl n97 15 c98],[cell (ent st79 0) 0,
 cell (ent st79 0) 1,cell (ent st79 0) 2,cell (ent st79 0) 3,cell (ent st79 0) 4,cell (ent st79 0) 5,cell (ent st79 0) 6,cell (ent st79 0) 7,
 cell (ent st79 0) 8,cell (ent st79 0) 9],[.sl n99 31 c100]] fun r101=>slcK 1 (cell (ent r101 1) 0) fun n102 c103=>slcK 31 (cell (ent r101 3)
 0) fun n104 c105=>K [[cell (ent r101 0) 0,cell (ent r101 0) 1,cell (ent r101 0) 2,cell (ent r101 0) 3,cell (ent r101 0) 4,cell (sub (ent st79
 2) 0 3) 0,cell (sub (ent st79 2) 0 3) 1,cell (sub (ent st79 2) 0 3) 2,cell (ent r101 0) 8,cell (ent r101 0) 9,cell (ent r101 0) 10,cell (ent
 r101 0) 11,cell (ent r101 0) 12,cell (ent r101 0) 13],[.sl n102 1 c103],[cell (ent r101 2) 0,cell (ent r101 2) 1,cell (ent r101 2) 2,cell
 (ent r101 2) 3,cell (ent r101 2) 4,cell (ent r101 2) 5,cell (ent r101 2) 6,cell (ent r101 2) 7,cell (ent r101 2) 8,cell (ent r101 2) 9],[.sl
 n104 31 c105]])))))
theorem w80 (Is : Sig→St'→St'→Prop) (a : St') (K : St'→Prop) : fnX Is Tryd.prog tb80 H80 s80 a K = g80 Is a K:=by kernel_rfl
theorem is80 {a r : St'} (h : g80 (Pm.Is Tryd.prog) a fun st=>st = r) (hu : unpack propQ (outSh s80) r (fun _=>True):=by exact trivial) : Pm.Is Tryd.prog s80 a r:=fn_ok (tbok [s49,s58,s81] []) mixP (H:=H80) (by rw [w80];exact h) hu
def H58 : Hint:=⟨[(2,⟨[(0,.g [.d,.w 0]),(2,.c (.p 1 0)),(3,.c (.p 2 0)),(4,.c (.p 3 0)),(6,.c .i)],[(0,.w 52 31),(1,.b 32 [.d,.w 0]),(2,.a 35 3),(3,.a 52 31)]⟩)],[(6,⟨[(0,.g [.d,.w 0]),(4,.c (.p 1 0))],[(0,.w 52 31),(1,.a 52 31)]⟩)],[]⟩
abbrev tb58 : Tb:=⟨[],[35],[]⟩
def g58 (Is : Sig→St'→St'→Prop) (a : St') (K : St'→Prop) : Prop:=slcK 31 (cell (ent a 2) 0) fun n1 c2=>jn (fun k3=>Lp (fun next5 st6 =>
 intK (cell (ent st6 1) 0) fun z7=>slcK 31 (cell (ent st6 2) 0) fun n8 c9=>ifK (decide (z7 < (n8 : Int))) (ckK (0≤z7∧z7 < (n8 : Int)) (intK
 (cell (sub (el c9 31 (Int.toNat z7)) 0 3) 0) fun z10=>intK (cell (sub (el c9 31 (Int.toNat z7)) 0 3) 1) fun z11=>intK (cell (sub (el c9 31
 (Int.toNat z7)) 0 3) 2) fun z12=>intK (cell (ent st6 4) 0) fun z13=>intK (cell (ent st6 4) 1) fun z14=>intK (cell (ent st6 4) 2) fun z15 =>
 ifK (decide (z10 = z13∧z11 = z14∧z12 = z15)) (ckK (0≤z7∧z7 < (n8 : Int)) (K [el c9 31 (Int.toNat z7),[vB true],[.sl n8 31 c9]])) (ckK (okI
 (z7+1)) (next5 [[cell (ent st6 0) 0],[vI (z7+1)],[.sl n8 31 c9],[cell (ent st6 3) 0],ent st6 4,ent st6 5])))) (k3 [[cell (ent st6 0) 0],
 [.sl n8 31 c9],ent st6 5])) [[cell (ent a 0) 0],[vI 0],[.sl n1 31 c2],[cell (ent a 0) 0],ent a 1,[vI 0,vI 0,vI 0,vI 0,vI 0,vI 0,vI 0,.v
 (.string (ByteArray.mk #[])),.sl 0 11 [],vI 0,vI 0,vI 0,vI 0,.sl 0 5 [],vI 0,vI 0,vI 0,vI 0,vI 0,vI 0,vI 0,vI 0,vI 0,vI 0,vI 0,vI
 0,.sl 0 5 [],.sl 0 15 [],.sl 0 1 [],vI 0,.sl 0 1 []]]) (fun st4=>slcK 31 (cell (ent st4 1) 0) fun n16 c17=>K [[vI 0,vI 0,vI 0,vI 0,vI
 0,vI 0,vI 0,.v (.string (ByteArray.mk #[])),.sl 0 11 [],vI 0,vI 0,vI 0,vI 0,.sl 0 5 [],vI 0,vI 0,vI 0,vI 0,vI 0,vI 0,vI 0,vI 0,vI
 0,vI 0,vI 0,vI 0,.sl 0 5 [],.sl 0 15 [],.sl 0 1 [],vI 0,.sl 0 1 []],[vB false],[.sl n16 31 c17]])
theorem w58 (Is : Sig→St'→St'→Prop) (a : St') (K : St'→Prop) : fnX Is Tryd.prog tb58 H58 s58 a K = g58 Is a K:=by kernel_rfl
theorem is58 {a r : St'} (h : g58 (Pm.Is Tryd.prog) a fun st=>st = r) (hu : unpack propQ (outSh s58) r (fun _=>True):=by exact trivial) : Pm.Is Tryd.prog s58 a r:=fn_ok (tbok [] []) mixP (H:=H58) (by rw [w58];exact h) hu
def H84 : Hint:=⟨[(9,⟨[(0,.c (.p 0 0)),(2,.c .d),(4,.c .i),(6,.c (.p 2 0)),(10,.c (.p 3 0)),(12,.c (.p 4 0)),(13,.c (.w 5)),(14,.c (.p 6 0)),(15,.c .i)],[(0,.b 92 [.d,.w 1,.d,.d,.d,.d,.d,.d,.d,.d,.d]),(2,.a 38 5),(3,.a 50 15),(4,.a 52 31),(5,.w 50 15),(6,.b 50 [.d,.d,.d,.d,.d,.d,.d,.d,.d,.d,.d,.d,.d,.d,.w 7]),(1,.w 52 31),(7,.w 9 1)]⟩)],[(13,⟨[(0,.c (.p 0 0)),(10,.c (.p 2 0)),(13,.c (.w 3)),(14,.c (.p 4 0))],[(0,.b 92 [.d,.w 1,.d,.d,.d,.d,.d,.d,.d,.d,.d]),(2,.a 50 15),(3,.w 50 15),(4,.b 50 [.d,.d,.d,.d,.d,.d,.d,.d,.d,.d,.d,.d,.d,.d,.w 5]),(1,.w 52 31),(5,.w 9 1)]⟩)],[]⟩
abbrev tb84 : Tb:=⟨[s42,s49,s81,s82,s83,s87,s106],[35],[]⟩
def g84 (Is : Sig→St'→St'→Prop) (a : St') (K : St'→Prop) : Prop:=intK (cell (ent a 2) 0) fun z1=>intK (cell (ent a 3) 0) fun z2=>slcK 31
 (cell (ent a 5) 0) fun n3 c4=>caK Is s106 [[vI 1],[vI z1],[cell (ent a 4) 0,cell (ent a 4) 1,cell (ent a 4) 2,cell (ent a 4) 3,cell (ent a
 4) 4,cell (ent a 4) 5,cell (ent a 4) 6,cell (ent a 4) 7,cell (ent a 4) 8,cell (ent a 4) 9],[.sl n3 31 c4]] fun r5=>intK (cell (ent r5 0) 0)
 fun z6=>slcK 31 (cell (ent r5 2) 0) fun n7 c8=>ifK (decide (z6 < (0 : Int))) (caK Is s87 [ent a 0,[cell (ent a 1) 0],[vI z1],[vI z2],[cell
 (ent r5 1) 0,cell (ent r5 1) 1,cell (ent r5 1) 2,cell (ent r5 1) 3,cell (ent r5 1) 4,cell (ent r5 1) 5,cell (ent r5 1) 6,cell (ent r5 1) 7,
 cell (ent r5 1) 8,cell (ent r5 1) 9],[.sl n7 31 c8]] fun r9=>slcK 1 (cell (ent r9 1) 0) fun n10 c11=>slcK 31 (cell (ent r9 3) 0) fun n12 c13
 => K [[cell (ent r9 0) 0,cell (ent r9 0) 1,cell (ent r9 0) 2,cell (ent r9 0) 3,cell (ent r9 0) 4,cell (ent r9 0) 5,cell (ent r9 0) 6,cell
 (ent r9 0) 7,cell (ent r9 0) 8,cell (ent r9 0) 9,cell (ent r9 0) 10,cell (ent r9 0) 11,cell (ent r9 0) 12,cell (ent r9 0) 13],[.sl n10 1
 c11],[cell (ent r9 2) 0,cell (ent r9 2) 1,cell (ent r9 2) 2,cell (ent r9 2) 3,cell (ent r9 2) 4,cell (ent r9 2) 5,cell (ent r9 2) 6,cell
 (ent r9 2) 7,cell (ent r9 2) 8,cell (ent r9 2) 9],[.sl n12 31 c13]]) (ckK (0≤z6∧z6 < (n7 : Int)) (caK Is s42 [sub (el c8 31 (Int.toNat z6)) 0
 3] fun r14=>ckK (okI (z2 - 2)) (caK Is s49 [ent r14 0,[cell (ent a 1) 0],[vI (z2 - 2)],[cell (ent r5 1) 0,cell (ent r5 1) 1,cell (ent r5 1)
 2,cell (ent r5 1) 3,cell (ent r5 1) 4,cell (ent r5 1) 5,cell (ent r5 1) 6,cell (ent r5 1) 7,cell (ent r5 1) 8,cell (ent r5 1) 9],[.sl n7 31
 c8]] fun r15=>slcK 1 (cell (ent r15 1) 0) fun n16 c17=>slcK 31 (cell (ent r15 3) 0) fun n18 c19=>caK Is s81 [[vI 10],[vI 0],[.sl 0 15 []],
 [cell (ent r15 2) 0,cell (ent r15 2) 1,cell (ent r15 2) 2,cell (ent r15 2) 3,cell (ent r15 2) 4,cell (ent r15 2) 5,cell (ent r15 2) 6,cell
 (ent r15 2) 7,cell (ent r15 2) 8,cell (ent r15 2) 9],[.sl n18 31 c19]] fun r20=>slcK 1 (cell (ent r20 1) 0) fun n21 c22=>slcK 31 (cell (ent
 r20 3) 0) fun n23 c24=>jn (fun k25=>Lp (fun next27 st28=>intK (cell (ent st28 1) 0) fun z29=>intK (cell (ent st28 2) 0) fun z30=>slcK 15
 (cell (ent st28 7) 0) fun n31 c32=>slcK 31 (cell (ent st28 9) 0) fun n33 c34=>slcK 1 (cell (ent st28 10) 0) fun n35 c36=>slcK 11 (cell (ent
 st28 6) 8) fun n37 c38=>ifK (decide (z30 < (n37 : Int))) (slcK 11 (cell (ent st28 6) 8) fun n39 c40=>ckK (0≤z30∧z30 < (n39 : Int)) (caK Is
 s83 [[cell (ent st28 0) 0],[cell (ent st28 8) 0,cell (ent st28 8) 1,cell (ent st28 8) 2,vI z30,cell (sub (el c40 11 (Int.toNat z30)) 4 5) 0,
 cell (sub (el c40 11 (Int.toNat z30)) 4 5) 1,cell (sub (el c40 11 (Int.toNat z30)) 4 5) 2,cell (sub (el c40 11 (Int.toNat z30)) 4 5) 3,cell (sub
 (el c40 11 (Int.toNat z30)) 4 5) 4]] fun r41=>slcK 9 (cell (ent r41 0) 0) fun n42 c43=>ckK (okI (z29 - 1)) (caK Is s49 [ent st28 4,[.sl n42 9
 c43],[vI (z29 - 1)],[cell (ent st28 3) 0,cell (ent st28 3) 1,cell (ent st28 3) 2,cell (ent st28 3) 3,cell (ent st28 3) 4,cell (ent st28 3) 5,
 cell (ent st28 3) 6,cell (ent st28 3) 7,cell (ent st28 3) 8,cell (ent st28 3) 9],[.sl n33 31 c34]] fun r44=>slcK 1 (cell (ent r44 1) 0) fun
 n45 c46=>slcK 31 (cell (ent r44 3) 0) fun n47 c48=>ckK (room (n31+1) 169) (caK Is s82 [[cell (ent r44 2) 0,cell (ent r44 2) 1,cell (ent r44
 2) 2,cell (ent r44 2) 3,cell (ent r44 2) 4,cell (ent r44 2) 5,cell (ent r44 2) 6,cell (ent r44 2) 7,cell (ent r44 2) 8,cell (ent r44 2) 9],
 [.sl n47 31 c48]] fun r49=>slcK 31 (cell (ent r49 2) 0) fun n50 c51=>ckK (room (n35+1) 17) (ckK (okI (z30+1)) (next27 [[cell (ent st28 0)
 0],[vI z29],[vI (z30+1)],[cell (ent r49 1) 0,cell (ent r49 1) 1,cell (ent r49 1) 2,cell (ent r49 1) 3,cell (ent r49 1) 4,cell (ent r49 1)
 5,cell (ent r49 1) 6,cell (ent r49 1) 7,cell (ent r49 1) 8,cell (ent r49 1) 9],ent st28 4,ent st28 5,ent st28 6,[.sl (n31+1) 15 (c32 ++
 [cell (ent r44 0) 0,cell (ent r44 0) 1,cell (ent r44 0) 2,cell (ent r44 0) 3,cell (ent r44 0) 4,cell (ent r44 0) 5,cell (ent r44 0) 6,cell
 (ent r44 0) 7,cell (ent r44 0) 8,cell (ent r44 0) 9,cell (ent r44 0) 10,cell (ent r44 0) 11,cell (ent r44 0) 12,cell (ent r44 0) 13,.sl n45 1
 c46])],[cell (ent st28 8) 0,cell (ent st28 8) 1,cell (ent st28 8) 2,cell (ent st28 8) 3,cell (ent st28 8) 4,cell (ent st28 8) 5,cell (ent
 st28 8) 6,cell (ent st28 8) 7,cell (ent st28 8) 8,cell (ent st28 8) 9,cell (ent st28 8) 10,cell (ent st28 8) 11,cell (ent st28 8) 12,cell
 (ent st28 8) 13],[.sl n50 31 c51],[.sl (n35+1) 1 (c36++[cell (ent r49 0) 0])]])))))) (k25 [[cell (ent st28 3) 0,cell (ent st28 3) 1,cell
 (ent st28 3) 2,cell (ent st28 3) 3,cell (ent st28 3) 4,cell (ent st28 3) 5,cell (ent st28 3) 6,cell (ent st28 3) 7,cell (ent st28 3) 8,cell
 (ent st28 3) 9],ent st28 5,[.sl n31 15 c32],[cell (ent st28 8) 0,cell (ent st28 8) 1,cell (ent st28 8) 2,cell (ent st28 8) 3,cell (ent st28
 8) 4,cell (ent st28 8) 5,cell (ent st28 8) 6,cell (ent st28 8) 7,cell (ent st28 8) 8,cell (ent st28 8) 9,cell (ent st28 8) 10,cell (ent st28
 8) 11,cell (ent st28 8) 12,cell (ent st28 8) 13],[.sl n33 31 c34],[.sl n35 1 c36]])) [[cell (ent a 1) 0],[vI z2],[vI 0],[cell (ent r20 2) 0,
 cell (ent r20 2) 1,cell (ent r20 2) 2,cell (ent r20 2) 3,cell (ent r20 2) 4,cell (ent r20 2) 5,cell (ent r20 2) 6,cell (ent r20 2) 7,cell
 (ent r20 2) 8,cell (ent r20 2) 9],ent a 0,[vI 0,vI 0,vI 0,vI 0,vI 0,vI 0,vI 0,vI 0,vI 0,vI 0,vI 0,vI 0,.sl 0 5 [],.sl 0 15 [],.sl 0
 1 []],el c8 31 (Int.toNat z6),[.sl 1 15 [cell (ent r15 0) 0,cell (ent r15 0) 1,cell (ent r15 0) 2,cell (ent r15 0) 3,cell (ent r15 0) 4,cell
 (ent r15 0) 5,cell (ent r15 0) 6,cell (ent r15 0) 7,cell (ent r15 0) 8,cell (ent r15 0) 9,cell (ent r15 0) 10,cell (ent r15 0) 11,cell (ent
 r15 0) 12,cell (ent r15 0) 13,.sl n16 1 c17]],[cell (ent r20 0) 0,cell (ent r20 0) 1,cell (ent r20 0) 2,cell (ent r20 0) 3,cell (ent r20 0)
 4,cell (sub (el c8 31 (Int.toNat z6)) 0 3) 0,cell (sub (el c8 31 (Int.toNat z6)) 0 3) 1,cell (sub (el c8 31 (Int.toNat z6)) 0 3) 2,cell (ent r20
 0) 8,cell (ent r20 0) 9,cell (ent r20 0) 10,cell (ent r20 0) 11,cell (ent r20 0) 12,cell (ent r20 0) 13],[.sl n23 31 c24],[.sl n21 1 c22]])
 (fun st26=>slcK 15 (cell (ent st26 2) 0) fun n52 c53=>slcK 31 (cell (ent st26 4) 0) fun n54 c55=>slcK 1 (cell (ent st26 5) 0) fun n56 c57=>K
 [[cell (ent st26 3) 0,cell (ent st26 3) 1,cell (ent st26 3) 2,cell (ent st26 3) 3,cell (ent st26 3) 4,cell (ent st26 3) 5,cell (ent st26 3) 6,
 cell (ent st26 3) 7,cell (ent st26 3) 8,cell (ent st26 3) 9,cell (ent st26 3) 10,cell (ent st26 3) 11,cell (ent st26 3) 12,.sl n52 15 c53],
 [.sl n56 1 c57],[cell (ent st26 0) 0,cell (ent st26 0) 1,cell (ent st26 0) 2,cell (ent st26 0) 3,cell (ent st26 0) 4,cell (ent st26 0) 5,cell
 (ent st26 0) 6,cell (ent st26 0) 7,cell (ent st26 0) 8,cell (ent st26 0) 9],[.sl n54 31 c55]]))))
theorem w84 (Is : Sig→St'→St'→Prop) (a : St') (K : St'→Prop) : fnX Is Tryd.prog tb84 H84 s84 a K = g84 Is a K:=by kernel_rfl
theorem is84 {a r : St'} (h : g84 (Pm.Is Tryd.prog) a fun st=>st = r) (hu : unpack propQ (outSh s84) r (fun _=>True):=by exact trivial) : Pm.Is Tryd.prog s84 a r:=fn_ok (tbok [s42,s49,s81,s82,s83,s87,s106] []) mixP (H:=H84) (by rw [w84];exact h) hu
def H106 : Hint:=⟨[(3,⟨[(0,.c (.p 0 0)),(1,.c .i),(2,.c .i),(7,.c .i),(8,.c .i)],[(0,.b 92 [.d,.w 1,.d,.d,.d,.d,.d,.d,.d,.d,.d]),(1,.w 52 31)]⟩)],[(4,⟨[(0,.c (.p 0 0)),(1,.c .i),(2,.c .i),(7,.c .i),(8,.c .i)],[(0,.b 92 [.d,.w 1,.d,.d,.d,.d,.d,.d,.d,.d,.d]),(1,.w 52 31)]⟩)],[]⟩
abbrev tb106 : Tb:=⟨[s107],[35],[]⟩
def g106 (Is : Sig→St'→St'→Prop) (a : St') (K : St'→Prop) : Prop:=intK (cell (ent a 0) 0) fun z1=>intK (cell (ent a 1) 0) fun z2=>slcK
 31 (cell (ent a 3) 0) fun n3 c4=>Lp (fun next5 st6=>intK (cell (ent st6 0) 0) fun z7=>intK (cell (ent st6 1) 0) fun z8=>intK (cell (ent st6
 2) 0) fun z9=>intK (cell (ent st6 3) 0) fun z10=>slcK 31 (cell (ent st6 5) 0) fun n11 c12=>ifK (decide (z10 < z9)) (jn (fun k13=>ckK (okI
 (z8+z10)) (ckK (z9 ≠ 0) (ckK (0≤(Int.tmod (z8+z10) z9)∧(Int.tmod (z8+z10) z9) < (n11 : Int)) (intK (cell (el c12 31 (Int.toNat (Int.tmod
 (z8+z10) z9))) 3) fun z15=>ifK (decide (z15 = z7)) (caK Is s107 [[vI (Int.tmod (z8+z10) z9)],[cell (ent st6 4) 0,cell (ent st6 4) 1,cell
 (ent st6 4) 2,cell (ent st6 4) 3,cell (ent st6 4) 4,cell (ent st6 4) 5,cell (ent st6 4) 6,cell (ent st6 4) 7,cell (ent st6 4) 8,cell (ent st6
 4) 9],[.sl n11 31 c12]] fun r16=>booK (cell (ent r16 0) 0) fun b17=>slcK 31 (cell (ent r16 2) 0) fun n18 c19=>ifK b17 (K [[vI (Int.tmod (z8 +
 z10) z9)],[cell (ent r16 1) 0,cell (ent r16 1) 1,cell (ent r16 1) 2,cell (ent r16 1) 3,cell (ent r16 1) 4,cell (ent r16 1) 5,cell (ent r16 1)
 6,cell (ent r16 1) 7,cell (ent r16 1) 8,cell (ent r16 1) 9],[.sl n18 31 c19]]) (k13 [[vI z7],[vI z8],[vI z9],[vI z10],[cell (ent r16 1) 0,
 cell (ent r16 1) 1,cell (ent r16 1) 2,cell (ent r16 1) 3,cell (ent r16 1) 4,cell (ent r16 1) 5,cell (ent r16 1) 6,cell (ent r16 1) 7,cell
 (ent r16 1) 8,cell (ent r16 1) 9],[.sl n18 31 c19]])) (k13 [[vI z7],[vI z8],[vI z9],[vI z10],[cell (ent st6 4) 0,cell (ent st6 4) 1,cell
 (ent st6 4) 2,cell (ent st6 4) 3,cell (ent st6 4) 4,cell (ent st6 4) 5,cell (ent st6 4) 6,cell (ent st6 4) 7,cell (ent st6 4) 8,cell (ent st6
 4) 9],[.sl n11 31 c12]]))))) (fun st14=>intK (cell (ent st14 0) 0) fun z20=>intK (cell (ent st14 1) 0) fun z21=>intK (cell (ent st14 2) 0)
 fun z22=>intK (cell (ent st14 3) 0) fun z23=>slcK 31 (cell (ent st14 5) 0) fun n24 c25=>ckK (okI (z23+1)) (next5 [[vI z20],[vI z21],[vI
 z22],[vI (z23+1)],[cell (ent st14 4) 0,cell (ent st14 4) 1,cell (ent st14 4) 2,cell (ent st14 4) 3,cell (ent st14 4) 4,cell (ent st14 4) 5,
 cell (ent st14 4) 6,cell (ent st14 4) 7,cell (ent st14 4) 8,cell (ent st14 4) 9],[.sl n24 31 c25]]))) (K [[vI (-1)],[cell (ent st6 4) 0,cell
 (ent st6 4) 1,cell (ent st6 4) 2,cell (ent st6 4) 3,cell (ent st6 4) 4,cell (ent st6 4) 5,cell (ent st6 4) 6,cell (ent st6 4) 7,cell (ent st6
 4) 8,cell (ent st6 4) 9],[.sl n11 31 c12]])) [[vI z1],[vI z2],[vI (n3 : Int)],[vI 0],[cell (ent a 2) 0,cell (ent a 2) 1,cell (ent a 2) 2,
 cell (ent a 2) 3,cell (ent a 2) 4,cell (ent a 2) 5,cell (ent a 2) 6,cell (ent a 2) 7,cell (ent a 2) 8,cell (ent a 2) 9],[.sl n3 31 c4]]
theorem w106 (Is : Sig→St'→St'→Prop) (a : St') (K : St'→Prop) : fnX Is Tryd.prog tb106 H106 s106 a K = g106 Is a K:=by kernel_rfl
theorem is106 {a r : St'} (h : g106 (Pm.Is Tryd.prog) a fun st=>st = r) (hu : unpack propQ (outSh s106) r (fun _=>True):=by exact trivial) : Pm.Is Tryd.prog s106 a r:=fn_ok (tbok [s107] []) mixP (H:=H106) (by rw [w106];exact h) hu
def H107 : Hint:=⟨[],[],[]⟩
abbrev tb107 : Tb:=⟨[],[35],[]⟩
def g107 (Is : Sig→St'→St'→Prop) (a : St') (K : St'→Prop) : Prop:=intK (cell (ent a 0) 0) fun z1=>slcK 31 (cell (ent a 2) 0) fun n2 c3 =>
 ckK (0≤z1∧z1 < (n2 : Int)) (intK (cell (ent a 1) 5) fun z4=>ifK (decide (z1 < z4)) (intK (cell (sub (el c3 31 (Int.toNat z1)) 4 3) 0) fun z5
 => intK (cell (sub (el c3 31 (Int.toNat z1)) 4 3) 1) fun z6=>intK (cell (sub (el c3 31 (Int.toNat z1)) 4 3) 2) fun z7=>intK (cell (ent a 1) 6)
 fun z8=>intK (cell (ent a 1) 7) fun z9=>intK (cell (ent a 1) 8) fun z10=>ifK (decide (z5 = z8∧z6 = z9∧z7 = z10)) (K [[vB true],[cell (ent
 a 1) 0,cell (ent a 1) 1,cell (ent a 1) 2,cell (ent a 1) 3,cell (ent a 1) 4,cell (ent a 1) 5,cell (ent a 1) 6,cell (ent a 1) 7,cell (ent a 1)
 8,cell (ent a 1) 9],[.sl n2 31 c3]]) (slcK 6 (cell (ent a 1) 0) fun n11 c12=>ckK (0≤(0 : Int)∧(0 : Int) < (n11 : Int)) (intK (cell (sub (el
 c3 31 (Int.toNat z1)) 4 3) 0) fun z13=>intK (cell (sub (el c3 31 (Int.toNat z1)) 4 3) 1) fun z14=>intK (cell (sub (el c3 31 (Int.toNat z1)) 4 3)
 2) fun z15=>intK (cell (sub (el c12 6 0) 0 3) 0) fun z16=>intK (cell (sub (el c12 6 0) 0 3) 1) fun z17=>intK (cell (sub (el c12 6 0) 0 3) 2)
 fun z18=>K [[vB (decide (z13 = z16∧z14 = z17∧z15 = z18))],[cell (ent a 1) 0,cell (ent a 1) 1,cell (ent a 1) 2,cell (ent a 1) 3,cell (ent
 a 1) 4,cell (ent a 1) 5,cell (ent a 1) 6,cell (ent a 1) 7,cell (ent a 1) 8,cell (ent a 1) 9],[.sl n2 31 c3]]))) (K [[vB false],[cell (ent a
 1) 0,cell (ent a 1) 1,cell (ent a 1) 2,cell (ent a 1) 3,cell (ent a 1) 4,cell (ent a 1) 5,cell (ent a 1) 6,cell (ent a 1) 7,cell (ent a 1)
 8,cell (ent a 1) 9],[.sl n2 31 c3]]))
theorem w107 (Is : Sig→St'→St'→Prop) (a : St') (K : St'→Prop) : fnX Is Tryd.prog tb107 H107 s107 a K = g107 Is a K:=by kernel_rfl
theorem is107 {a r : St'} (h : g107 (Pm.Is Tryd.prog) a fun st=>st = r) (hu : unpack propQ (outSh s107) r (fun _=>True):=by exact trivial) : Pm.Is Tryd.prog s107 a r:=fn_ok (tbok [] []) mixP (H:=H107) (by rw [w107];exact h) hu
def H87 : Hint:=⟨[],[(13,⟨[(0,.c (.p 0 0)),(2,.c .d),(3,.c .i),(4,.c .i),(6,.c (.p 2 0)),(10,.c (.p 3 0)),(12,.c (.p 4 0)),(13,.c .i)],[(0,.b 92 [.d,.w 1,.d,.d,.d,.d,.d,.d,.d,.d,.d]),(2,.a 38 5),(3,.a 50 15),(4,.a 38 5),(1,.w 52 31)]⟩),(16,⟨[(0,.c (.p 0 0)),(2,.c .d),(3,.c .i),(4,.c .i),(6,.c (.p 2 0)),(10,.c (.p 3 0)),(12,.c (.p 4 0)),(13,.c .i)],[(0,.b 92 [.d,.w 1,.d,.d,.d,.d,.d,.d,.d,.d,.d]),(2,.a 38 5),(3,.a 50 15),(4,.a 38 5),(1,.w 52 31)]⟩),(19,⟨[(0,.c (.p 0 0)),(2,.c .d),(4,.c .i),(10,.c (.p 2 0)),(12,.c (.p 3 0)),(13,.c .i)],[(0,.b 92 [.d,.w 1,.d,.d,.d,.d,.d,.d,.d,.d,.d]),(2,.a 50 15),(3,.a 38 5),(1,.w 52 31)]⟩),(24,⟨[(0,.c (.p 0 0)),(2,.c .d),(3,.c .i),(4,.c .i),(6,.c (.p 2 0)),(10,.c (.p 3 0))],[(0,.b 92 [.d,.w 1,.d,.d,.d,.d,.d,.d,.d,.d,.d]),(2,.a 38 5),(3,.a 50 15),(1,.w 52 31)]⟩)],[]⟩
abbrev tb87 : Tb:=⟨[s41,s49,s80,s81],[35],[]⟩
def g87 (Is : Sig→St'→St'→Prop) (a : St') (K : St'→Prop) : Prop:=intK (cell (ent a 2) 0) fun z1=>intK (cell (ent a 3) 0) fun z2=>slcK 31
 (cell (ent a 5) 0) fun n3 c4=>intK (cell (ent a 0) 0) fun z5=>ifK (decide (z5 = (0 : Int))) (ckK ((6 : Int) ≠ 0) (ifK (decide ((Int.tmod z1 6) =
 (5 : Int))) (caK Is s41 [[vI 0,vI 0,vI 0,vI 0,.sl 0 5 []]] fun r6=>slcK 5 (cell (ent r6 1) 0) fun n7 c8=>ckK (okI (z2 - 1)) (caK Is s49
 [[cell (ent r6 0) 0,cell (ent r6 0) 1,cell (ent r6 0) 2,cell (ent r6 0) 3,.sl n7 5 c8],[cell (ent a 1) 0],[vI (z2 - 1)],[cell (ent a 4) 0,
 cell (ent a 4) 1,cell (ent a 4) 2,cell (ent a 4) 3,cell (ent a 4) 4,cell (ent a 4) 5,cell (ent a 4) 6,cell (ent a 4) 7,cell (ent a 4) 8,cell
 (ent a 4) 9],[.sl n3 31 c4]] fun r9=>slcK 1 (cell (ent r9 1) 0) fun n10 c11=>slcK 31 (cell (ent r9 3) 0) fun n12 c13=>caK Is s81 [[vI 4],[vI
 11],[.sl 1 15 [cell (ent r9 0) 0,cell (ent r9 0) 1,cell (ent r9 0) 2,cell (ent r9 0) 3,cell (ent r9 0) 4,cell (ent r9 0) 5,cell (ent r9 0) 6,
 cell (ent r9 0) 7,cell (ent r9 0) 8,cell (ent r9 0) 9,cell (ent r9 0) 10,cell (ent r9 0) 11,cell (ent r9 0) 12,cell (ent r9 0) 13,.sl n10 1
 c11]],[cell (ent r9 2) 0,cell (ent r9 2) 1,cell (ent r9 2) 2,cell (ent r9 2) 3,cell (ent r9 2) 4,cell (ent r9 2) 5,cell (ent r9 2) 6,cell
 (ent r9 2) 7,cell (ent r9 2) 8,cell (ent r9 2) 9],[.sl n12 31 c13]] fun r14=>slcK 1 (cell (ent r14 1) 0) fun n15 c16=>slcK 31 (cell (ent r14
 3) 0) fun n17 c18=>K [[cell (ent r14 0) 0,cell (ent r14 0) 1,cell (ent r14 0) 2,cell (ent r14 0) 3,cell (ent r14 0) 4,cell (ent r14 0) 5,
 cell (ent r14 0) 6,cell (ent r14 0) 7,cell (ent r14 0) 8,cell (ent r14 0) 9,cell (ent r14 0) 10,cell (ent r14 0) 11,cell (ent r14 0) 12,cell
 (ent r14 0) 13],[.sl n15 1 c16],[cell (ent r14 2) 0,cell (ent r14 2) 1,cell (ent r14 2) 2,cell (ent r14 2) 3,cell (ent r14 2) 4,cell (ent r14
 2) 5,cell (ent r14 2) 6,cell (ent r14 2) 7,cell (ent r14 2) 8,cell (ent r14 2) 9],[.sl n17 31 c18]])) (ckK (okI (z2 - 1)) (caK Is s49 [ent a 0,
 [cell (ent a 1) 0],[vI (z2 - 1)],[cell (ent a 4) 0,cell (ent a 4) 1,cell (ent a 4) 2,cell (ent a 4) 3,cell (ent a 4) 4,cell (ent a 4) 5,cell
 (ent a 4) 6,cell (ent a 4) 7,cell (ent a 4) 8,cell (ent a 4) 9],[.sl n3 31 c4]] fun r19=>slcK 1 (cell (ent r19 1) 0) fun n20 c21=>slcK 31
 (cell (ent r19 3) 0) fun n22 c23=>ckK ((5 : Int) ≠ 0) (ckK (0≤(Int.tmod z1 5)∧(Int.tmod z1 5) < (5 : Int)) (ckK (okI (z2 - 1)) (caK Is s49
 [ent a 0,[cell (ent a 1) 0],[vI (z2 - 1)],[cell (ent r19 2) 0,cell (ent r19 2) 1,cell (ent r19 2) 2,cell (ent r19 2) 3,cell (ent r19 2) 4,
 cell (ent r19 2) 5,cell (ent r19 2) 6,cell (ent r19 2) 7,cell (ent r19 2) 8,cell (ent r19 2) 9],[.sl n22 31 c23]] fun r24=>slcK 1 (cell (ent
 r24 1) 0) fun n25 c26=>slcK 31 (cell (ent r24 3) 0) fun n27 c28=>caK Is s81 [[vI 4],[cell (el [vI 0,vI 1,vI 2,vI 3,vI 4] 1 (Int.toNat
 (Int.tmod z1 5))) 0],[.sl 2 15 [cell (ent r19 0) 0,cell (ent r19 0) 1,cell (ent r19 0) 2,cell (ent r19 0) 3,cell (ent r19 0) 4,cell (ent r19
 0) 5,cell (ent r19 0) 6,cell (ent r19 0) 7,cell (ent r19 0) 8,cell (ent r19 0) 9,cell (ent r19 0) 10,cell (ent r19 0) 11,cell (ent r19 0) 12,
 cell (ent r19 0) 13,.sl n20 1 c21,cell (ent r24 0) 0,cell (ent r24 0) 1,cell (ent r24 0) 2,cell (ent r24 0) 3,cell (ent r24 0) 4,cell (ent
 r24 0) 5,cell (ent r24 0) 6,cell (ent r24 0) 7,cell (ent r24 0) 8,cell (ent r24 0) 9,cell (ent r24 0) 10,cell (ent r24 0) 11,cell (ent r24 0)
 12,cell (ent r24 0) 13,.sl n25 1 c26]],[cell (ent r24 2) 0,cell (ent r24 2) 1,cell (ent r24 2) 2,cell (ent r24 2) 3,cell (ent r24 2) 4,cell
 (ent r24 2) 5,cell (ent r24 2) 6,cell (ent r24 2) 7,cell (ent r24 2) 8,cell (ent r24 2) 9],[.sl n27 31 c28]] fun r29=>slcK 1 (cell (ent r29
 1) 0) fun n30 c31=>slcK 31 (cell (ent r29 3) 0) fun n32 c33=>K [[cell (ent r29 0) 0,cell (ent r29 0) 1,cell (ent r29 0) 2,cell (ent r29 0) 3,
 cell (ent r29 0) 4,cell (ent r29 0) 5,cell (ent r29 0) 6,cell (ent r29 0) 7,cell (ent r29 0) 8,cell (ent r29 0) 9,cell (ent r29 0) 10,cell
 (ent r29 0) 11,cell (ent r29 0) 12,cell (ent r29 0) 13],[.sl n30 1 c31],[cell (ent r29 2) 0,cell (ent r29 2) 1,cell (ent r29 2) 2,cell (ent
 r29 2) 3,cell (ent r29 2) 4,cell (ent r29 2) 5,cell (ent r29 2) 6,cell (ent r29 2) 7,cell (ent r29 2) 8,cell (ent r29 2) 9],[.sl n32 31
 c33]]))))))) (intK (cell (ent a 0) 0) fun z34=>ifK (decide (z34 = (1 : Int))) (ckK ((6 : Int) ≠ 0) (ifK (decide ((Int.tmod z1 6) = (0 : Int)))
 (ckK (okI (z2 - 1)) (caK Is s49 [ent a 0,[cell (ent a 1) 0],[vI (z2 - 1)],[cell (ent a 4) 0,cell (ent a 4) 1,cell (ent a 4) 2,cell (ent a 4)
 3,cell (ent a 4) 4,cell (ent a 4) 5,cell (ent a 4) 6,cell (ent a 4) 7,cell (ent a 4) 8,cell (ent a 4) 9],[.sl n3 31 c4]] fun r35=>slcK 1
 (cell (ent r35 1) 0) fun n36 c37=>slcK 31 (cell (ent r35 3) 0) fun n38 c39=>caK Is s81 [[vI 4],[vI 9],[.sl 1 15 [cell (ent r35 0) 0,cell (ent
 r35 0) 1,cell (ent r35 0) 2,cell (ent r35 0) 3,cell (ent r35 0) 4,cell (ent r35 0) 5,cell (ent r35 0) 6,cell (ent r35 0) 7,cell (ent r35 0)
 8,cell (ent r35 0) 9,cell (ent r35 0) 10,cell (ent r35 0) 11,cell (ent r35 0) 12,cell (ent r35 0) 13,.sl n36 1 c37]],[cell (ent r35 2) 0,
 cell (ent r35 2) 1,cell (ent r35 2) 2,cell (ent r35 2) 3,cell (ent r35 2) 4,cell (ent r35 2) 5,cell (ent r35 2) 6,cell (ent r35 2) 7,cell
 (ent r35 2) 8,cell (ent r35 2) 9],[.sl n38 31 c39]] fun r40=>slcK 1 (cell (ent r40 1) 0) fun n41 c42=>slcK 31 (cell (ent r40 3) 0) fun n43 c44
 => K [[cell (ent r40 0) 0,cell (ent r40 0) 1,cell (ent r40 0) 2,cell (ent r40 0) 3,cell (ent r40 0) 4,cell (ent r40 0) 5,cell (ent r40 0) 6,
 cell (ent r40 0) 7,cell (ent r40 0) 8,cell (ent r40 0) 9,cell (ent r40 0) 10,cell (ent r40 0) 11,cell (ent r40 0) 12,cell (ent r40 0) 13],
 [.sl n41 1 c42],[cell (ent r40 2) 0,cell (ent r40 2) 1,cell (ent r40 2) 2,cell (ent r40 2) 3,cell (ent r40 2) 4,cell (ent r40 2) 5,cell (ent
 r40 2) 6,cell (ent r40 2) 7,cell (ent r40 2) 8,cell (ent r40 2) 9],[.sl n43 31 c44]])) (jn (fun k45=>ckK ((6 : Int) ≠ 0) (ifK (decide
 ((Int.tmod z1 6) = (2 : Int))) (k45 [[cell (ent a 1) 0],[vI z1],[vI z2],[vI 6],[cell (ent a 4) 0,cell (ent a 4) 1,cell (ent a 4) 2,cell (ent
 a 4) 3,cell (ent a 4) 4,cell (ent a 4) 5,cell (ent a 4) 6,cell (ent a 4) 7,cell (ent a 4) 8,cell (ent a 4) 9],ent a 0,[vI 0,vI 0,vI 0,vI
 0,vI 0,vI 0,vI 0,vI 0,vI 0,vI 0,vI 0,vI 0,.sl 0 5 [],.sl 0 15 [],.sl 0 1 []],[vI 0,vI 0,vI 0,vI 0,.sl 0 5 []],[.sl n3 31 c4]]) (k45
 [[cell (ent a 1) 0],[vI z1],[vI z2],[vI 5],[cell (ent a 4) 0,cell (ent a 4) 1,cell (ent a 4) 2,cell (ent a 4) 3,cell (ent a 4) 4,cell (ent
 a 4) 5,cell (ent a 4) 6,cell (ent a 4) 7,cell (ent a 4) 8,cell (ent a 4) 9],ent a 0,[vI 0,vI 0,vI 0,vI 0,vI 0,vI 0,vI 0,vI 0,vI 0,vI
 0,vI 0,vI 0,.sl 0 5 [],.sl 0 15 [],.sl 0 1 []],[vI 0,vI 0,vI 0,vI 0,.sl 0 5 []],[.sl n3 31 c4]]))) (fun st46=>intK (cell (ent st46 1)
 0) fun z47=>intK (cell (ent st46 2) 0) fun z48=>intK (cell (ent st46 3) 0) fun z49=>slcK 31 (cell (ent st46 8) 0) fun n50 c51=>jn (fun k52
 => ckK ((6 : Int) ≠ 0) (ifK (decide ((Int.tmod z47 6) = (3 : Int))) (ckK ((6 : Int) ≠ 0∧okI (Int.tdiv z47 6)) (slcK 9 (cell (ent st46 0) 0) fun
 n54 c55=>ckK ((n54 : Int) ≠ 0) (slcK 9 (cell (ent st46 0) 0) fun n56 c57=>ckK (0≤(Int.tmod (Int.tdiv z47 6) (n54 : Int))∧(Int.tmod (Int.tdiv
 z47 6) (n54 : Int)) < (n56 : Int)) (k52 [[cell (ent st46 0) 0],[vI z47],[vI z48],[vI 6],[cell (ent st46 4) 0,cell (ent st46 4) 1,cell (ent
 st46 4) 2,cell (ent st46 4) 3,cell (ent st46 4) 4,cell (ent st46 4) 5,cell (ent st46 4) 6,cell (ent st46 4) 7,cell (ent st46 4) 8,cell (ent
 st46 4) 9],ent st46 5,ent st46 6,sub (el c57 9 (Int.toNat (Int.tmod (Int.tdiv z47 6) (n54 : Int)))) 4 5,[.sl n50 31 c51]])))) (k52 [[cell (ent
 st46 0) 0],[vI z47],[vI z48],[vI z49],[cell (ent st46 4) 0,cell (ent st46 4) 1,cell (ent st46 4) 2,cell (ent st46 4) 3,cell (ent st46 4) 4,
 cell (ent st46 4) 5,cell (ent st46 4) 6,cell (ent st46 4) 7,cell (ent st46 4) 8,cell (ent st46 4) 9],ent st46 5,ent st46 6,ent st46 7,[.sl
 n50 31 c51]]))) (fun st53=>intK (cell (ent st53 1) 0) fun z58=>intK (cell (ent st53 2) 0) fun z59=>intK (cell (ent st53 3) 0) fun z60=>slcK
 31 (cell (ent st53 8) 0) fun n61 c62=>jn (fun k63=>ckK ((6 : Int) ≠ 0) (ifK (decide ((4 : Int)≤(Int.tmod z58 6))) (ckK ((6 : Int) ≠ 0) (ckK
 (okI ((Int.tmod z58 6) - 4)) (ckK (0≤((Int.tmod z58 6) - 4)∧((Int.tmod z58 6) - 4) < (2 : Int)) (k63 [[cell (ent st53 0) 0],[vI z59],[cell (el
 [vI 7,vI 8] 1 (Int.toNat ((Int.tmod z58 6) - 4))) 0],[cell (ent st53 4) 0,cell (ent st53 4) 1,cell (ent st53 4) 2,cell (ent st53 4) 3,cell
 (ent st53 4) 4,cell (ent st53 4) 5,cell (ent st53 4) 6,cell (ent st53 4) 7,cell (ent st53 4) 8,cell (ent st53 4) 9],ent st53 6,ent st53 5,
 [.sl n61 31 c62]])))) (k63 [[cell (ent st53 0) 0],[vI z59],[vI z60],[cell (ent st53 4) 0,cell (ent st53 4) 1,cell (ent st53 4) 2,cell (ent
 st53 4) 3,cell (ent st53 4) 4,cell (ent st53 4) 5,cell (ent st53 4) 6,cell (ent st53 4) 7,cell (ent st53 4) 8,cell (ent st53 4) 9],ent st53
 6,ent st53 7,[.sl n61 31 c62]]))) (fun st64=>intK (cell (ent st64 1) 0) fun z65=>intK (cell (ent st64 2) 0) fun z66=>slcK 31 (cell (ent st64
 6) 0) fun n67 c68=>ckK (okI (z65 - 1)) (caK Is s49 [ent st64 5,[cell (ent st64 0) 0],[vI (z65 - 1)],[cell (ent st64 3) 0,cell (ent st64 3) 1,
 cell (ent st64 3) 2,cell (ent st64 3) 3,cell (ent st64 3) 4,cell (ent st64 3) 5,cell (ent st64 3) 6,cell (ent st64 3) 7,cell (ent st64 3) 8,
 cell (ent st64 3) 9],[.sl n67 31 c68]] fun r69=>slcK 1 (cell (ent r69 1) 0) fun n70 c71=>slcK 31 (cell (ent r69 3) 0) fun n72 c73=>ckK (okI
 (z65 - 1)) (caK Is s49 [ent st64 5,[cell (ent st64 0) 0],[vI (z65 - 1)],[cell (ent r69 2) 0,cell (ent r69 2) 1,cell (ent r69 2) 2,cell (ent
 r69 2) 3,cell (ent r69 2) 4,cell (ent r69 2) 5,cell (ent r69 2) 6,cell (ent r69 2) 7,cell (ent r69 2) 8,cell (ent r69 2) 9],[.sl n72 31 c73]]
 fun r74=>slcK 1 (cell (ent r74 1) 0) fun n75 c76=>slcK 31 (cell (ent r74 3) 0) fun n77 c78=>caK Is s81 [[vI 4],[vI z66],[.sl 2 15 [cell (ent
 r69 0) 0,cell (ent r69 0) 1,cell (ent r69 0) 2,cell (ent r69 0) 3,cell (ent r69 0) 4,cell (ent r69 0) 5,cell (ent r69 0) 6,cell (ent r69 0)
 7,cell (ent r69 0) 8,cell (ent r69 0) 9,cell (ent r69 0) 10,cell (ent r69 0) 11,cell (ent r69 0) 12,cell (ent r69 0) 13,.sl n70 1 c71,cell
 (ent r74 0) 0,cell (ent r74 0) 1,cell (ent r74 0) 2,cell (ent r74 0) 3,cell (ent r74 0) 4,cell (ent r74 0) 5,cell (ent r74 0) 6,cell (ent r74
 0) 7,cell (ent r74 0) 8,cell (ent r74 0) 9,cell (ent r74 0) 10,cell (ent r74 0) 11,cell (ent r74 0) 12,cell (ent r74 0) 13,.sl n75 1 c76]],
 [cell (ent r74 2) 0,cell (ent r74 2) 1,cell (ent r74 2) 2,cell (ent r74 2) 3,cell (ent r74 2) 4,cell (ent r74 2) 5,cell (ent r74 2) 6,cell
 (ent r74 2) 7,cell (ent r74 2) 8,cell (ent r74 2) 9],[.sl n77 31 c78]] fun r79=>slcK 1 (cell (ent r79 1) 0) fun n80 c81=>slcK 31 (cell (ent
 r79 3) 0) fun n82 c83=>K [[cell (ent r79 0) 0,cell (ent r79 0) 1,cell (ent r79 0) 2,cell (ent r79 0) 3,cell (ent r79 0) 4,cell (ent r79 0) 5,
 cell (ent r79 0) 6,cell (ent r79 0) 7,cell (ent r79 0) 8,cell (ent r79 0) 9,cell (ent r79 0) 10,cell (ent r79 0) 11,cell (ent r79 0) 12,cell
 (ent r79 0) 13],[.sl n80 1 c81],[cell (ent r79 2) 0,cell (ent r79 2) 1,cell (ent r79 2) 2,cell (ent r79 2) 3,cell (ent r79 2) 4,cell (ent r79
 2) 5,cell (ent r79 2) 6,cell (ent r79 2) 7,cell (ent r79 2) 8,cell (ent r79 2) 9],[.sl n82 31 c83]])))))))) (jn (fun k84=>intK (cell (ent a
 0) 0) fun z86=>ifK (decide (z86 = (2 : Int))) (ckK ((2 : Int) ≠ 0) (ifK (decide ((Int.tmod z1 2) = (0 : Int))) (ckK (okI (z2 - 1)) (caK Is s49
 [ent a 0,[cell (ent a 1) 0],[vI (z2 - 1)],[cell (ent a 4) 0,cell (ent a 4) 1,cell (ent a 4) 2,cell (ent a 4) 3,cell (ent a 4) 4,cell (ent a
 4) 5,cell (ent a 4) 6,cell (ent a 4) 7,cell (ent a 4) 8,cell (ent a 4) 9],[.sl n3 31 c4]] fun r87=>slcK 1 (cell (ent r87 1) 0) fun n88 c89 =>
 slcK 31 (cell (ent r87 3) 0) fun n90 c91=>ckK (okI (z2 - 1)) (caK Is s49 [ent a 0,[cell (ent a 1) 0],[vI (z2 - 1)],[cell (ent r87 2) 0,cell
 (ent r87 2) 1,cell (ent r87 2) 2,cell (ent r87 2) 3,cell (ent r87 2) 4,cell (ent r87 2) 5,cell (ent r87 2) 6,cell (ent r87 2) 7,cell (ent r87
 2) 8,cell (ent r87 2) 9],[.sl n90 31 c91]] fun r92=>slcK 1 (cell (ent r92 1) 0) fun n93 c94=>slcK 31 (cell (ent r92 3) 0) fun n95 c96=>caK
 Is s81 [[vI 4],[vI 10],[.sl 2 15 [cell (ent r87 0) 0,cell (ent r87 0) 1,cell (ent r87 0) 2,cell (ent r87 0) 3,cell (ent r87 0) 4,cell (ent
 r87 0) 5,cell (ent r87 0) 6,cell (ent r87 0) 7,cell (ent r87 0) 8,cell (ent r87 0) 9,cell (ent r87 0) 10,cell (ent r87 0) 11,cell (ent r87 0)
 12,cell (ent r87 0) 13,.sl n88 1 c89,cell (ent r92 0) 0,cell (ent r92 0) 1,cell (ent r92 0) 2,cell (ent r92 0) 3,cell (ent r92 0) 4,cell
 (ent r92 0) 5,cell (ent r92 0) 6,cell (ent r92 0) 7,cell (ent r92 0) 8,cell (ent r92 0) 9,cell (ent r92 0) 10,cell (ent r92 0) 11,cell (ent
 r92 0) 12,cell (ent r92 0) 13,.sl n93 1 c94]],[cell (ent r92 2) 0,cell (ent r92 2) 1,cell (ent r92 2) 2,cell (ent r92 2) 3,cell (ent r92 2)
 4,cell (ent r92 2) 5,cell (ent r92 2) 6,cell (ent r92 2) 7,cell (ent r92 2) 8,cell (ent r92 2) 9],[.sl n95 31 c96]] fun r97=>slcK 1 (cell
 (ent r97 1) 0) fun n98 c99=>slcK 31 (cell (ent r97 3) 0) fun n100 c101=>K [[cell (ent r97 0) 0,cell (ent r97 0) 1,cell (ent r97 0) 2,cell
 (ent r97 0) 3,cell (ent r97 0) 4,cell (ent r97 0) 5,cell (ent r97 0) 6,cell (ent r97 0) 7,cell (ent r97 0) 8,cell (ent r97 0) 9,cell (ent r97
 0) 10,cell (ent r97 0) 11,cell (ent r97 0) 12,cell (ent r97 0) 13],[.sl n98 1 c99],[cell (ent r97 2) 0,cell (ent r97 2) 1,cell (ent r97 2) 2,
 cell (ent r97 2) 3,cell (ent r97 2) 4,cell (ent r97 2) 5,cell (ent r97 2) 6,cell (ent r97 2) 7,cell (ent r97 2) 8,cell (ent r97 2) 9],[.sl
 n100 31 c101]]))) (k84 [[cell (ent a 1) 0],[vI z1],[vI z2],[cell (ent a 4) 0,cell (ent a 4) 1,cell (ent a 4) 2,cell (ent a 4) 3,cell (ent a
 4) 4,cell (ent a 4) 5,cell (ent a 4) 6,cell (ent a 4) 7,cell (ent a 4) 8,cell (ent a 4) 9],ent a 0,[vI 0,vI 0,vI 0,vI 0,vI 0,vI 0,vI 0,
 vI 0,vI 0,vI 0,vI 0,vI 0,.sl 0 5 [],.sl 0 15 [],.sl 0 1 []],[.sl n3 31 c4]]))) (k84 [[cell (ent a 1) 0],[vI z1],[vI z2],[cell (ent a 4)
 0,cell (ent a 4) 1,cell (ent a 4) 2,cell (ent a 4) 3,cell (ent a 4) 4,cell (ent a 4) 5,cell (ent a 4) 6,cell (ent a 4) 7,cell (ent a 4) 8,
 cell (ent a 4) 9],ent a 0,[vI 0,vI 0,vI 0,vI 0,vI 0,vI 0,vI 0,vI 0,vI 0,vI 0,vI 0,vI 0,.sl 0 5 [],.sl 0 15 [],.sl 0 1 []],[.sl n3
 31 c4]])) (fun st85=>intK (cell (ent st85 1) 0) fun z102=>intK (cell (ent st85 2) 0) fun z103=>slcK 31 (cell (ent st85 6) 0) fun n104 c105 =>
 ckK ((2 : Int) ≠ 0∧okI (Int.tdiv z102 2)) (caK Is s80 [ent st85 4,[cell (ent st85 0) 0],[vI (Int.tdiv z102 2)],[vI z103],[cell (ent st85 3) 0,
 cell (ent st85 3) 1,cell (ent st85 3) 2,cell (ent st85 3) 3,cell (ent st85 3) 4,cell (ent st85 3) 5,cell (ent st85 3) 6,cell (ent st85 3) 7,
 cell (ent st85 3) 8,cell (ent st85 3) 9],[.sl n104 31 c105]] fun r106=>slcK 1 (cell (ent r106 1) 0) fun n107 c108=>slcK 31 (cell (ent r106 3)
 0) fun n109 c110=>K [[cell (ent r106 0) 0,cell (ent r106 0) 1,cell (ent r106 0) 2,cell (ent r106 0) 3,cell (ent r106 0) 4,cell (ent r106 0)
 5,cell (ent r106 0) 6,cell (ent r106 0) 7,cell (ent r106 0) 8,cell (ent r106 0) 9,cell (ent r106 0) 10,cell (ent r106 0) 11,cell (ent r106 0)
 12,cell (ent r106 0) 13],[.sl n107 1 c108],[cell (ent r106 2) 0,cell (ent r106 2) 1,cell (ent r106 2) 2,cell (ent r106 2) 3,cell (ent r106 2)
 4,cell (ent r106 2) 5,cell (ent r106 2) 6,cell (ent r106 2) 7,cell (ent r106 2) 8,cell (ent r106 2) 9],[.sl n109 31 c110]]))))
theorem w87 (Is : Sig→St'→St'→Prop) (a : St') (K : St'→Prop) : fnX Is Tryd.prog tb87 H87 s87 a K = g87 Is a K:=by kernel_rfl
theorem is87 {a r : St'} (h : g87 (Pm.Is Tryd.prog) a fun st=>st = r) (hu : unpack propQ (outSh s87) r (fun _=>True):=by exact trivial) : Pm.Is Tryd.prog s87 a r:=fn_ok (tbok [s41,s49,s80,s81] []) mixP (H:=H87) (by rw [w87];exact h) hu
def H85 : Hint:=⟨[(2,⟨[(0,.c (.p 0 0)),(2,.c .d),(3,.c .i),(4,.c .i),(6,.c (.p 2 0)),(10,.c (.p 3 0)),(11,.c .i)],[(0,.b 92 [.d,.w 1,.d,.d,.d,.d,.d,.d,.d,.d,.d]),(2,.a 38 5),(3,.a 50 15),(1,.w 52 31)]⟩),(7,⟨[(0,.c (.p 0 0)),(2,.c .d),(3,.c .i),(4,.c .i),(6,.c (.p 2 0)),(10,.c (.p 3 0)),(11,.c .i),(12,.c .i),(13,.c (.p 4 0)),(14,.c .i)],[(0,.b 92 [.d,.w 1,.d,.d,.d,.d,.d,.d,.d,.d,.d]),(2,.a 38 5),(3,.a 50 15),(4,.a 52 31),(1,.w 52 31)]⟩)],[(3,⟨[(0,.c (.p 0 0)),(2,.c .d),(3,.c .i),(4,.c .i),(6,.c (.p 2 0)),(10,.c (.p 3 0)),(11,.c .i)],[(0,.b 92 [.d,.w 1,.d,.d,.d,.d,.d,.d,.d,.d,.d]),(2,.a 38 5),(3,.a 50 15),(1,.w 52 31)]⟩),(13,⟨[(0,.c (.p 0 0)),(2,.c .d),(3,.c .i),(4,.c .i),(6,.c (.p 2 0)),(10,.c (.p 3 0))],[(0,.b 92 [.d,.w 1,.d,.d,.d,.d,.d,.d,.d,.d,.d]),(2,.a 38 5),(3,.a 50 15),(1,.w 52 31)]⟩)],[]⟩
abbrev tb85 : Tb:=⟨[s42,s49,s81,s87,s105,s107],[35],[]⟩
def g85 (Is : Sig→St'→St'→Prop) (a : St') (K : St'→Prop) : Prop:=intK (cell (ent a 2) 0) fun z1=>intK (cell (ent a 3) 0) fun z2=>slcK 31
 (cell (ent a 5) 0) fun n3 c4=>jn (fun k5=>Lp (fun next7 st8=>intK (cell (ent st8 1) 0) fun z9=>intK (cell (ent st8 2) 0) fun z10=>intK
 (cell (ent st8 3) 0) fun z11=>slcK 31 (cell (ent st8 7) 0) fun n12 c13=>ifK (decide (z11 < (n12 : Int))) (jn (fun k14=>ckK (okI (z9+z11))
 (ckK ((n12 : Int) ≠ 0) (ckK (0≤(Int.tmod (z9+z11) (n12 : Int))∧(Int.tmod (z9+z11) (n12 : Int)) < (n12 : Int)) (Lp (fun next16 st17=>intK
 (cell (ent st17 1) 0) fun z18=>intK (cell (ent st17 2) 0) fun z19=>intK (cell (ent st17 3) 0) fun z20=>intK (cell (ent st17 4) 0) fun z21 =>
 intK (cell (ent st17 5) 0) fun z22=>slcK 31 (cell (ent st17 10) 0) fun n23 c24=>slcK 11 (cell (ent st17 9) 8) fun n25 c26=>ifK (decide (z22 <
 (n25 : Int))) (intK (cell (ent st17 9) 3) fun z27=>ifK (decide (z27 = (0 : Int))) (caK Is s107 [[vI z21],[cell (ent st17 6) 0,cell (ent st17 6)
 1,cell (ent st17 6) 2,cell (ent st17 6) 3,cell (ent st17 6) 4,cell (ent st17 6) 5,cell (ent st17 6) 6,cell (ent st17 6) 7,cell (ent st17 6)
 8,cell (ent st17 6) 9],[.sl n23 31 c24]] fun r28=>booK (cell (ent r28 0) 0) fun b29=>slcK 31 (cell (ent r28 2) 0) fun n30 c31=>ifK b29 (slcK
 11 (cell (ent st17 9) 8) fun n32 c33=>ckK (0≤z22∧z22 < (n32 : Int)) (caK Is s105 [sub (el c33 11 (Int.toNat z22)) 4 5,ent st17 7] fun r34 =>
 booK (cell (ent r34 0) 0) fun b35=>ifK b35 (caK Is s42 [sub (ent st17 9) 0 3] fun r36=>ckK (okI (z19 - 1)) (caK Is s49 [ent r36 0,[cell (ent
 st17 0) 0],[vI (z19 - 1)],[cell (ent r28 1) 0,cell (ent r28 1) 1,cell (ent r28 1) 2,cell (ent r28 1) 3,cell (ent r28 1) 4,cell (ent r28 1) 5,
 cell (ent r28 1) 6,cell (ent r28 1) 7,cell (ent r28 1) 8,cell (ent r28 1) 9],[.sl n30 31 c31]] fun r37=>slcK 1 (cell (ent r37 1) 0) fun n38
 c39=>slcK 31 (cell (ent r37 3) 0) fun n40 c41=>caK Is s81 [[vI 8],[vI z22],[.sl 1 15 [cell (ent r37 0) 0,cell (ent r37 0) 1,cell (ent r37 0)
 2,cell (ent r37 0) 3,cell (ent r37 0) 4,cell (ent r37 0) 5,cell (ent r37 0) 6,cell (ent r37 0) 7,cell (ent r37 0) 8,cell (ent r37 0) 9,cell
 (ent r37 0) 10,cell (ent r37 0) 11,cell (ent r37 0) 12,cell (ent r37 0) 13,.sl n38 1 c39]],[cell (ent r37 2) 0,cell (ent r37 2) 1,cell (ent
 r37 2) 2,cell (ent r37 2) 3,cell (ent r37 2) 4,cell (ent r37 2) 5,cell (ent r37 2) 6,cell (ent r37 2) 7,cell (ent r37 2) 8,cell (ent r37 2)
 9],[.sl n40 31 c41]] fun r42=>slcK 1 (cell (ent r42 1) 0) fun n43 c44=>slcK 31 (cell (ent r42 3) 0) fun n45 c46=>K [[cell (ent r42 0) 0,cell
 (ent r42 0) 1,cell (ent r42 0) 2,cell (ent r42 0) 3,cell (ent r42 0) 4,cell (sub (ent st17 9) 0 3) 0,cell (sub (ent st17 9) 0 3) 1,cell (sub
 (ent st17 9) 0 3) 2,cell (ent r42 0) 8,cell (ent r42 0) 9,cell (ent r42 0) 10,cell (ent r42 0) 11,cell (ent r42 0) 12,cell (ent r42 0) 13],
 [.sl n43 1 c44],[cell (ent r42 2) 0,cell (ent r42 2) 1,cell (ent r42 2) 2,cell (ent r42 2) 3,cell (ent r42 2) 4,cell (ent r42 2) 5,cell (ent
 r42 2) 6,cell (ent r42 2) 7,cell (ent r42 2) 8,cell (ent r42 2) 9],[.sl n45 31 c46]])) (ckK (okI (z22+1)) (next16 [[cell (ent st17 0) 0],[vI
 z18],[vI z19],[vI z20],[vI z21],[vI (z22+1)],[cell (ent r28 1) 0,cell (ent r28 1) 1,cell (ent r28 1) 2,cell (ent r28 1) 3,cell (ent r28
 1) 4,cell (ent r28 1) 5,cell (ent r28 1) 6,cell (ent r28 1) 7,cell (ent r28 1) 8,cell (ent r28 1) 9],ent st17 7,ent st17 8,ent st17 9,[.sl
 n30 31 c31]])))) (k14 [[cell (ent st17 0) 0],[vI z18],[vI z19],[vI z20],[cell (ent r28 1) 0,cell (ent r28 1) 1,cell (ent r28 1) 2,cell (ent
 r28 1) 3,cell (ent r28 1) 4,cell (ent r28 1) 5,cell (ent r28 1) 6,cell (ent r28 1) 7,cell (ent r28 1) 8,cell (ent r28 1) 9],ent st17 7,ent
 st17 8,[.sl n30 31 c31]])) (k14 [[cell (ent st17 0) 0],[vI z18],[vI z19],[vI z20],[cell (ent st17 6) 0,cell (ent st17 6) 1,cell (ent st17 6)
 2,cell (ent st17 6) 3,cell (ent st17 6) 4,cell (ent st17 6) 5,cell (ent st17 6) 6,cell (ent st17 6) 7,cell (ent st17 6) 8,cell (ent st17 6)
 9],ent st17 7,ent st17 8,[.sl n23 31 c24]])) (k14 [[cell (ent st17 0) 0],[vI z18],[vI z19],[vI z20],[cell (ent st17 6) 0,cell (ent st17 6)
 1,cell (ent st17 6) 2,cell (ent st17 6) 3,cell (ent st17 6) 4,cell (ent st17 6) 5,cell (ent st17 6) 6,cell (ent st17 6) 7,cell (ent st17 6)
 8,cell (ent st17 6) 9],ent st17 7,ent st17 8,[.sl n23 31 c24]])) [[cell (ent st8 0) 0],[vI z9],[vI z10],[vI z11],[vI (Int.tmod (z9+z11)
 (n12 : Int))],[vI 0],[cell (ent st8 4) 0,cell (ent st8 4) 1,cell (ent st8 4) 2,cell (ent st8 4) 3,cell (ent st8 4) 4,cell (ent st8 4) 5,cell
 (ent st8 4) 6,cell (ent st8 4) 7,cell (ent st8 4) 8,cell (ent st8 4) 9],ent st8 5,ent st8 6,el c13 31 (Int.toNat (Int.tmod (z9+z11) (n12 :
 Int))),[.sl n12 31 c13]])))) (fun st15=>intK (cell (ent st15 1) 0) fun z47=>intK (cell (ent st15 2) 0) fun z48=>intK (cell (ent st15 3) 0)
 fun z49=>slcK 31 (cell (ent st15 7) 0) fun n50 c51=>ckK (okI (z49+1)) (next7 [[cell (ent st15 0) 0],[vI z47],[vI z48],[vI (z49+1)],[cell
 (ent st15 4) 0,cell (ent st15 4) 1,cell (ent st15 4) 2,cell (ent st15 4) 3,cell (ent st15 4) 4,cell (ent st15 4) 5,cell (ent st15 4) 6,cell
 (ent st15 4) 7,cell (ent st15 4) 8,cell (ent st15 4) 9],ent st15 5,ent st15 6,[.sl n50 31 c51]]))) (k5 [[cell (ent st8 0) 0],[vI z9],[vI
 z10],[cell (ent st8 4) 0,cell (ent st8 4) 1,cell (ent st8 4) 2,cell (ent st8 4) 3,cell (ent st8 4) 4,cell (ent st8 4) 5,cell (ent st8 4) 6,
 cell (ent st8 4) 7,cell (ent st8 4) 8,cell (ent st8 4) 9],ent st8 5,ent st8 6,[.sl n12 31 c13]])) [[cell (ent a 1) 0],[vI z1],[vI z2],[vI
 0],[cell (ent a 4) 0,cell (ent a 4) 1,cell (ent a 4) 2,cell (ent a 4) 3,cell (ent a 4) 4,cell (ent a 4) 5,cell (ent a 4) 6,cell (ent a 4) 7,
 cell (ent a 4) 8,cell (ent a 4) 9],ent a 0,[vI 0,vI 0,vI 0,vI 0,vI 0,vI 0,vI 0,vI 0,vI 0,vI 0,vI 0,vI 0,.sl 0 5 [],.sl 0 15 [],.sl
 0 1 []],[.sl n3 31 c4]]) (fun st6=>intK (cell (ent st6 1) 0) fun z52=>intK (cell (ent st6 2) 0) fun z53=>slcK 31 (cell (ent st6 6) 0) fun n54
 c55=>caK Is s87 [ent st6 4,[cell (ent st6 0) 0],[vI z52],[vI z53],[cell (ent st6 3) 0,cell (ent st6 3) 1,cell (ent st6 3) 2,cell (ent st6
 3) 3,cell (ent st6 3) 4,cell (ent st6 3) 5,cell (ent st6 3) 6,cell (ent st6 3) 7,cell (ent st6 3) 8,cell (ent st6 3) 9],[.sl n54 31 c55]] fun
 r56=>slcK 1 (cell (ent r56 1) 0) fun n57 c58=>slcK 31 (cell (ent r56 3) 0) fun n59 c60=>K [[cell (ent r56 0) 0,cell (ent r56 0) 1,cell (ent
 r56 0) 2,cell (ent r56 0) 3,cell (ent r56 0) 4,cell (ent r56 0) 5,cell (ent r56 0) 6,cell (ent r56 0) 7,cell (ent r56 0) 8,cell (ent r56 0)
 9,cell (ent r56 0) 10,cell (ent r56 0) 11,cell (ent r56 0) 12,cell (ent r56 0) 13],[.sl n57 1 c58],[cell (ent r56 2) 0,cell (ent r56 2) 1,
 cell (ent r56 2) 2,cell (ent r56 2) 3,cell (ent r56 2) 4,cell (ent r56 2) 5,cell (ent r56 2) 6,cell (ent r56 2) 7,cell (ent r56 2) 8,cell
 (ent r56 2) 9],[.sl n59 31 c60]])
theorem w85 (Is : Sig→St'→St'→Prop) (a : St') (K : St'→Prop) : fnX Is Tryd.prog tb85 H85 s85 a K = g85 Is a K:=by kernel_rfl
theorem is85 {a r : St'} (h : g85 (Pm.Is Tryd.prog) a fun st=>st = r) (hu : unpack propQ (outSh s85) r (fun _=>True):=by exact trivial) : Pm.Is Tryd.prog s85 a r:=fn_ok (tbok [s42,s49,s81,s87,s105,s107] []) mixP (H:=H85) (by rw [w85];exact h) hu
def H86 : Hint:=⟨[(2,⟨[(0,.c (.p 0 0)),(2,.c .d),(3,.c .i),(4,.c .i),(6,.c (.p 2 0)),(10,.c (.p 3 0)),(11,.c .i)],[(0,.b 92 [.d,.w 1,.d,.d,.d,.d,.d,.d,.d,.d,.d]),(2,.a 38 5),(3,.a 50 15),(1,.w 52 31)]⟩),(8,⟨[(0,.c (.p 0 0)),(2,.c .d),(4,.c .i),(10,.c (.p 2 0)),(12,.c (.p 3 0)),(13,.c (.w 4)),(14,.c .i)],[(0,.b 92 [.d,.w 1,.d,.d,.d,.d,.d,.d,.d,.d,.d]),(2,.a 50 15),(3,.a 52 31),(4,.w 50 15),(1,.w 52 31)]⟩)],[(3,⟨[(0,.c (.p 0 0)),(2,.c .d),(3,.c .i),(4,.c .i),(6,.c (.p 2 0)),(10,.c (.p 3 0)),(11,.c .i)],[(0,.b 92 [.d,.w 1,.d,.d,.d,.d,.d,.d,.d,.d,.d]),(2,.a 38 5),(3,.a 50 15),(1,.w 52 31)]⟩),(11,⟨[(0,.c (.p 0 0)),(10,.c (.p 2 0)),(12,.c (.p 3 0)),(13,.c (.w 4))],[(0,.b 92 [.d,.w 1,.d,.d,.d,.d,.d,.d,.d,.d,.d]),(2,.a 50 15),(3,.a 52 31),(4,.w 50 15),(1,.w 52 31)]⟩),(14,⟨[(0,.c (.p 0 0)),(2,.c .d),(3,.c .i),(4,.c .i),(6,.c (.p 2 0)),(10,.c (.p 3 0))],[(0,.b 92 [.d,.w 1,.d,.d,.d,.d,.d,.d,.d,.d,.d]),(2,.a 38 5),(3,.a 50 15),(1,.w 52 31)]⟩)],[]⟩
abbrev tb86 : Tb:=⟨[s49,s81,s87,s105,s107],[35],[]⟩
def g86 (Is : Sig→St'→St'→Prop) (a : St') (K : St'→Prop) : Prop:=intK (cell (ent a 2) 0) fun z1=>intK (cell (ent a 3) 0) fun z2=>slcK 31
 (cell (ent a 5) 0) fun n3 c4=>jn (fun k5=>Lp (fun next7 st8=>intK (cell (ent st8 1) 0) fun z9=>intK (cell (ent st8 2) 0) fun z10=>intK
 (cell (ent st8 3) 0) fun z11=>slcK 31 (cell (ent st8 7) 0) fun n12 c13=>ifK (decide (z11 < (n12 : Int))) (jn (fun k14=>ckK (0≤z11∧z11 <
 (n12 : Int)) (intK (cell (el c13 31 (Int.toNat z11)) 3) fun z16=>ifK (decide (z16 = (2 : Int))) (caK Is s107 [[vI z11],[cell (ent st8 4) 0,cell
 (ent st8 4) 1,cell (ent st8 4) 2,cell (ent st8 4) 3,cell (ent st8 4) 4,cell (ent st8 4) 5,cell (ent st8 4) 6,cell (ent st8 4) 7,cell (ent st8
 4) 8,cell (ent st8 4) 9],[.sl n12 31 c13]] fun r17=>booK (cell (ent r17 0) 0) fun b18=>slcK 31 (cell (ent r17 2) 0) fun n19 c20=>ifK b18
 (caK Is s105 [sub (el c13 31 (Int.toNat z11)) 9 5,ent st8 5] fun r21=>booK (cell (ent r21 0) 0) fun b22=>ifK b22 (jn (fun k23=>Lp (fun next25
 st26=>intK (cell (ent st26 1) 0) fun z27=>intK (cell (ent st26 2) 0) fun z28=>slcK 15 (cell (ent st26 6) 0) fun n29 c30=>slcK 31 (cell (ent
 st26 7) 0) fun n31 c32=>slcK 11 (cell (ent st26 5) 8) fun n33 c34=>ifK (decide (z28 < (n33 : Int))) (slcK 11 (cell (ent st26 5) 8) fun n35 c36
 => ckK (0≤z28∧z28 < (n35 : Int)) (ckK (okI (z27 - 1)) (caK Is s49 [sub (el c36 11 (Int.toNat z28)) 4 5,[cell (ent st26 0) 0],[vI (z27 - 1)],
 [cell (ent st26 3) 0,cell (ent st26 3) 1,cell (ent st26 3) 2,cell (ent st26 3) 3,cell (ent st26 3) 4,cell (ent st26 3) 5,cell (ent st26 3) 6,
 cell (ent st26 3) 7,cell (ent st26 3) 8,cell (ent st26 3) 9],[.sl n31 31 c32]] fun r37=>slcK 1 (cell (ent r37 1) 0) fun n38 c39=>slcK 31
 (cell (ent r37 3) 0) fun n40 c41=>ckK (room (n29+1) 169) (ckK (okI (z28+1)) (next25 [[cell (ent st26 0) 0],[vI z27],[vI (z28+1)],[cell
 (ent r37 2) 0,cell (ent r37 2) 1,cell (ent r37 2) 2,cell (ent r37 2) 3,cell (ent r37 2) 4,cell (ent r37 2) 5,cell (ent r37 2) 6,cell (ent r37
 2) 7,cell (ent r37 2) 8,cell (ent r37 2) 9],ent st26 4,ent st26 5,[.sl (n29+1) 15 (c30++[cell (ent r37 0) 0,cell (ent r37 0) 1,cell (ent
 r37 0) 2,cell (ent r37 0) 3,cell (ent r37 0) 4,cell (ent r37 0) 5,cell (ent r37 0) 6,cell (ent r37 0) 7,cell (ent r37 0) 8,cell (ent r37 0)
 9,cell (ent r37 0) 10,cell (ent r37 0) 11,cell (ent r37 0) 12,cell (ent r37 0) 13,.sl n38 1 c39])],[.sl n40 31 c41]]))))) (k23 [[cell (ent
 st26 3) 0,cell (ent st26 3) 1,cell (ent st26 3) 2,cell (ent st26 3) 3,cell (ent st26 3) 4,cell (ent st26 3) 5,cell (ent st26 3) 6,cell (ent
 st26 3) 7,cell (ent st26 3) 8,cell (ent st26 3) 9],ent st26 4,ent st26 5,[.sl n29 15 c30],[.sl n31 31 c32]])) [[cell (ent st8 0) 0],[vI z10],
 [vI 0],[cell (ent r17 1) 0,cell (ent r17 1) 1,cell (ent r17 1) 2,cell (ent r17 1) 3,cell (ent r17 1) 4,cell (ent r17 1) 5,cell (ent r17 1) 6,
 cell (ent r17 1) 7,cell (ent r17 1) 8,cell (ent r17 1) 9],ent st8 6,el c13 31 (Int.toNat z11),[.sl 0 15 []],[.sl n19 31 c20]]) (fun st24 =>
 slcK 15 (cell (ent st24 3) 0) fun n42 c43=>slcK 31 (cell (ent st24 4) 0) fun n44 c45=>caK Is s81 [[vI 3],[vI 0],[.sl n42 15 c43],[cell (ent
 st24 0) 0,cell (ent st24 0) 1,cell (ent st24 0) 2,cell (ent st24 0) 3,cell (ent st24 0) 4,cell (ent st24 0) 5,cell (ent st24 0) 6,cell (ent
 st24 0) 7,cell (ent st24 0) 8,cell (ent st24 0) 9],[.sl n44 31 c45]] fun r46=>slcK 1 (cell (ent r46 1) 0) fun n47 c48=>slcK 31 (cell (ent r46
 3) 0) fun n49 c50=>K [[cell (ent r46 0) 0,cell (ent r46 0) 1,cell (ent r46 0) 2,cell (ent r46 0) 3,cell (ent r46 0) 4,cell (sub (ent st24 2)
 0 3) 0,cell (sub (ent st24 2) 0 3) 1,cell (sub (ent st24 2) 0 3) 2,cell (ent r46 0) 8,cell (ent r46 0) 9,cell (ent r46 0) 10,cell (ent r46 0)
 11,cell (ent r46 0) 12,cell (ent r46 0) 13],[.sl n47 1 c48],[cell (ent r46 2) 0,cell (ent r46 2) 1,cell (ent r46 2) 2,cell (ent r46 2) 3,
 cell (ent r46 2) 4,cell (ent r46 2) 5,cell (ent r46 2) 6,cell (ent r46 2) 7,cell (ent r46 2) 8,cell (ent r46 2) 9],[.sl n49 31 c50]])) (k14
 [[cell (ent st8 0) 0],[vI z9],[vI z10],[vI z11],[cell (ent r17 1) 0,cell (ent r17 1) 1,cell (ent r17 1) 2,cell (ent r17 1) 3,cell (ent r17
 1) 4,cell (ent r17 1) 5,cell (ent r17 1) 6,cell (ent r17 1) 7,cell (ent r17 1) 8,cell (ent r17 1) 9],ent st8 5,ent st8 6,[.sl n19 31 c20]]))
 (k14 [[cell (ent st8 0) 0],[vI z9],[vI z10],[vI z11],[cell (ent r17 1) 0,cell (ent r17 1) 1,cell (ent r17 1) 2,cell (ent r17 1) 3,cell (ent
 r17 1) 4,cell (ent r17 1) 5,cell (ent r17 1) 6,cell (ent r17 1) 7,cell (ent r17 1) 8,cell (ent r17 1) 9],ent st8 5,ent st8 6,[.sl n19 31
 c20]])) (k14 [[cell (ent st8 0) 0],[vI z9],[vI z10],[vI z11],[cell (ent st8 4) 0,cell (ent st8 4) 1,cell (ent st8 4) 2,cell (ent st8 4) 3,
 cell (ent st8 4) 4,cell (ent st8 4) 5,cell (ent st8 4) 6,cell (ent st8 4) 7,cell (ent st8 4) 8,cell (ent st8 4) 9],ent st8 5,ent st8 6,[.sl
 n12 31 c13]]))) (fun st15=>intK (cell (ent st15 1) 0) fun z51=>intK (cell (ent st15 2) 0) fun z52=>intK (cell (ent st15 3) 0) fun z53=>slcK
 31 (cell (ent st15 7) 0) fun n54 c55=>ckK (okI (z53+1)) (next7 [[cell (ent st15 0) 0],[vI z51],[vI z52],[vI (z53+1)],[cell (ent st15 4) 0,
 cell (ent st15 4) 1,cell (ent st15 4) 2,cell (ent st15 4) 3,cell (ent st15 4) 4,cell (ent st15 4) 5,cell (ent st15 4) 6,cell (ent st15 4) 7,
 cell (ent st15 4) 8,cell (ent st15 4) 9],ent st15 5,ent st15 6,[.sl n54 31 c55]]))) (k5 [[cell (ent st8 0) 0],[vI z9],[vI z10],[cell (ent st8
 4) 0,cell (ent st8 4) 1,cell (ent st8 4) 2,cell (ent st8 4) 3,cell (ent st8 4) 4,cell (ent st8 4) 5,cell (ent st8 4) 6,cell (ent st8 4) 7,
 cell (ent st8 4) 8,cell (ent st8 4) 9],ent st8 5,ent st8 6,[.sl n12 31 c13]])) [[cell (ent a 1) 0],[vI z1],[vI z2],[vI 0],[cell (ent a 4) 0,
 cell (ent a 4) 1,cell (ent a 4) 2,cell (ent a 4) 3,cell (ent a 4) 4,cell (ent a 4) 5,cell (ent a 4) 6,cell (ent a 4) 7,cell (ent a 4) 8,cell
 (ent a 4) 9],ent a 0,[vI 0,vI 0,vI 0,vI 0,vI 0,vI 0,vI 0,vI 0,vI 0,vI 0,vI 0,vI 0,.sl 0 5 [],.sl 0 15 [],.sl 0 1 []],[.sl n3 31
 c4]]) (fun st6=>intK (cell (ent st6 1) 0) fun z56=>intK (cell (ent st6 2) 0) fun z57=>slcK 31 (cell (ent st6 6) 0) fun n58 c59=>caK Is s87
 [ent st6 4,[cell (ent st6 0) 0],[vI z56],[vI z57],[cell (ent st6 3) 0,cell (ent st6 3) 1,cell (ent st6 3) 2,cell (ent st6 3) 3,cell (ent st6
 3) 4,cell (ent st6 3) 5,cell (ent st6 3) 6,cell (ent st6 3) 7,cell (ent st6 3) 8,cell (ent st6 3) 9],[.sl n58 31 c59]] fun r60=>slcK 1 (cell
 (ent r60 1) 0) fun n61 c62=>slcK 31 (cell (ent r60 3) 0) fun n63 c64=>K [[cell (ent r60 0) 0,cell (ent r60 0) 1,cell (ent r60 0) 2,cell (ent
 r60 0) 3,cell (ent r60 0) 4,cell (ent r60 0) 5,cell (ent r60 0) 6,cell (ent r60 0) 7,cell (ent r60 0) 8,cell (ent r60 0) 9,cell (ent r60 0)
 10,cell (ent r60 0) 11,cell (ent r60 0) 12,cell (ent r60 0) 13],[.sl n61 1 c62],[cell (ent r60 2) 0,cell (ent r60 2) 1,cell (ent r60 2) 2,
 cell (ent r60 2) 3,cell (ent r60 2) 4,cell (ent r60 2) 5,cell (ent r60 2) 6,cell (ent r60 2) 7,cell (ent r60 2) 8,cell (ent r60 2) 9],[.sl
 n63 31 c64]])
theorem w86 (Is : Sig→St'→St'→Prop) (a : St') (K : St'→Prop) : fnX Is Tryd.prog tb86 H86 s86 a K = g86 Is a K:=by kernel_rfl
theorem is86 {a r : St'} (h : g86 (Pm.Is Tryd.prog) a fun st=>st = r) (hu : unpack propQ (outSh s86) r (fun _=>True):=by exact trivial) : Pm.Is Tryd.prog s86 a r:=fn_ok (tbok [s49,s81,s87,s105,s107] []) mixP (H:=H86) (by rw [w86];exact h) hu
def H82 : Hint:=⟨[],[],[]⟩
abbrev tb82 : Tb:=⟨[],[35],[]⟩
def g82 (Is : Sig→St'→St'→Prop) (a : St') (K : St'→Prop) : Prop:=slcK 31 (cell (ent a 1) 0) fun n1 c2=>intK (cell (ent a 0) 9) fun z3 =>
 ckK (okI (z3+1)) (ckK ((3 : Int) ≠ 0) (ckK (0≤(Int.tmod (z3+1) 3)∧(Int.tmod (z3+1) 3) < (3 : Int)) (ckK ((3 : Int) ≠ 0∧okI (Int.tdiv (z3
 + 1) 3)) (ckK ((8 : Int) ≠ 0) (ckK (0≤(Int.tmod (Int.tdiv (z3+1) 3) 8)∧(Int.tmod (Int.tdiv (z3+1) 3) 8) < (8 : Int)) (strK (cell (el ([vS
 (ByteArray.mk #[117]),vS (ByteArray.mk #[118]),vS (ByteArray.mk #[119])]) 1 (Int.toNat (Int.tmod (z3+1) 3))) 0) fun s4=>strK (cell (el ([vS
 (ByteArray.mk #[]),vS (ByteArray.mk #[49]),vS (ByteArray.mk #[50]),vS (ByteArray.mk #[51]),vS (ByteArray.mk #[52]),vS (ByteArray.mk #[53]),vS
 (ByteArray.mk #[54]),vS (ByteArray.mk #[55])]) 1 (Int.toNat (Int.tmod (Int.tdiv (z3+1) 3) 8))) 0) fun s5=>ckK (ByteArray.size s4 +
 ByteArray.size s5≤1000000) (K [[vS (s4++s5)],[cell (ent a 0) 0,cell (ent a 0) 1,cell (ent a 0) 2,cell (ent a 0) 3,cell (ent a 0) 4,cell
 (ent a 0) 5,cell (ent a 0) 6,cell (ent a 0) 7,cell (ent a 0) 8,vI (z3+1)],[.sl n1 31 c2]])))))))
theorem w82 (Is : Sig→St'→St'→Prop) (a : St') (K : St'→Prop) : fnX Is Tryd.prog tb82 H82 s82 a K = g82 Is a K:=by kernel_rfl
theorem is82 {a r : St'} (h : g82 (Pm.Is Tryd.prog) a fun st=>st = r) (hu : unpack propQ (outSh s82) r (fun _=>True):=by exact trivial) : Pm.Is Tryd.prog s82 a r:=fn_ok (tbok [] []) mixP (H:=H82) (by rw [w82];exact h) hu
def H83 : Hint:=⟨[],[],[]⟩
abbrev tb83 : Tb:=⟨[],[35],[]⟩
def g83 (Is : Sig→St'→St'→Prop) (a : St') (K : St'→Prop) : Prop:=slcK 9 (cell (ent a 0) 0) fun n1 c2=>ckK (room (0+n1) 89) (ckK (room (0
 + n1+1) 89) (K [[.sl (0+n1+1) 9 (c2++((ent a 1)++[]))]]))
theorem w83 (Is : Sig→St'→St'→Prop) (a : St') (K : St'→Prop) : fnX Is Tryd.prog tb83 H83 s83 a K = g83 Is a K:=by kernel_rfl
theorem is83 {a r : St'} (h : g83 (Pm.Is Tryd.prog) a fun st=>st = r) (hu : unpack propQ (outSh s83) r (fun _=>True):=by exact trivial) : Pm.Is Tryd.prog s83 a r:=fn_ok (tbok [] []) mixP (H:=H83) (by rw [w83];exact h) hu
def H50 : Hint:=⟨[(3,⟨[(1,.c (.p 0 0)),(3,.c .i),(4,.c .i)],[(0,.a 50 15)]⟩)],[],[]⟩
abbrev tb50 : Tb:=⟨[s50],[35],[]⟩
def g50 (Is : Sig→St'→St'→Prop) (a : St') (K : St'→Prop) : Prop:=Lp (fun next1 st2=>intK (cell (ent st2 0) 0) fun z3=>intK (cell (ent
 st2 1) 0) fun z4=>slcK 15 (cell (ent st2 2) 13) fun n5 c6=>ifK (decide (z4 < (n5 : Int))) (slcK 15 (cell (ent st2 2) 13) fun n7 c8=>ckK (0 ≤
 z4∧z4 < (n7 : Int)) (caK Is s50 [el c8 15 (Int.toNat z4)] fun r9=>intK (cell (ent r9 0) 0) fun z10=>ckK (okI (z3+z10)) (ckK (okI (z4+1))
 (next1 [[vI (z3+z10)],[vI (z4+1)],ent st2 2])))) (K [[vI z3]])) [[vI 1],[vI 0],ent a 0]
theorem w50 (Is : Sig→St'→St'→Prop) (a : St') (K : St'→Prop) : fnX Is Tryd.prog tb50 H50 s50 a K = g50 Is a K:=by kernel_rfl
theorem is50 {a r : St'} (h : g50 (Pm.Is Tryd.prog) a fun st=>st = r) (hu : unpack propQ (outSh s50) r (fun _=>True):=by exact trivial) : Pm.Is Tryd.prog s50 a r:=fn_ok (tbok [s50] []) mixP (H:=H50) (by rw [w50];exact h) hu
def H51 : Hint:=⟨[(2,⟨[(1,.c (.w 0)),(2,.c (.p 1 0)),(5,.c .i)],[(0,.w 3 1),(1,.a 50 15)]⟩)],[],[]⟩
abbrev tb51 : Tb:=⟨[s51],[35],[]⟩
def g51 (Is : Sig→St'→St'→Prop) (a : St') (K : St'→Prop) : Prop:=slcK 1 (cell (ent a 1) 0) fun n1 c2=>Lp (fun next3 st4=>intK (cell (ent
 st4 0) 0) fun z5=>slcK 1 (cell (ent st4 1) 0) fun n6 c7=>slcK 15 (cell (ent st4 2) 13) fun n8 c9=>ifK (decide (z5 < (n8 : Int))) (slcK 15
 (cell (ent st4 2) 13) fun n10 c11=>ckK (0≤z5∧z5 < (n10 : Int)) (caK Is s51 [el c11 15 (Int.toNat z5),[.sl n6 1 c7]] fun r12=>slcK 1 (cell
 (ent r12 0) 0) fun n13 c14=>ckK (okI (z5+1)) (next3 [[vI (z5+1)],[.sl n13 1 c14],ent st4 2]))) (ckK (room (n6+1) 9) (K [[.sl (n6+1) 1
 (c7++[cell (ent st4 2) 2])]]))) [[vI 0],[.sl n1 1 c2],ent a 0]
theorem w51 (Is : Sig→St'→St'→Prop) (a : St') (K : St'→Prop) : fnX Is Tryd.prog tb51 H51 s51 a K = g51 Is a K:=by kernel_rfl
theorem is51 {a r : St'} (h : g51 (Pm.Is Tryd.prog) a fun st=>st = r) (hu : unpack propQ (outSh s51) r (fun _=>True):=by exact trivial) : Pm.Is Tryd.prog s51 a r:=fn_ok (tbok [s51] []) mixP (H:=H51) (by rw [w51];exact h) hu
def H52 : Hint:=⟨[(7,⟨[(1,.c (.w 0)),(2,.c (.p 1 0)),(4,.c (.p 2 0)),(5,.c (.p 3 0)),(6,.c .i)],[(0,.w 35 3),(1,.a 50 15),(2,.a 50 15),(3,.b 50 [.d,.d,.d,.d,.d,.d,.d,.d,.d,.d,.d,.d,.d,.w 4,.d]),(4,.w 50 15)]⟩)],[(5,⟨[(1,.c (.w 0)),(2,.c (.p 1 0)),(4,.c (.p 2 0)),(5,.c (.p 3 0))],[(0,.w 35 3),(1,.a 50 15),(2,.a 50 15),(3,.a 50 15)]⟩)],[]⟩
abbrev tb52 : Tb:=⟨[s52],[35],[]⟩
def g52 (Is : Sig→St'→St'→Prop) (a : St') (K : St'→Prop) : Prop:=slcK 3 (cell (ent a 1) 0) fun n1 c2=>intK (cell (ent a 0) 2) fun z3 =>
 ckK (0≤z3∧z3 < (n1 : Int)) (jn (fun k4=>intK (cell (ent a 0) 3) fun z6=>ifK (decide (z6 = (2 : Int))) (intK (cell (ent a 0) 6) fun z7=>ifK
 (decide (z7 = (0 : Int))) (intK (cell (ent a 0) 7) fun z8=>ckK (0≤z8∧z8 < (n1 : Int)) (k4 [[.sl n1 3 c2],ent a 0,[vI 0,vI 0,vI 0,vI 0,vI
 0,vI 0,vI 0,vI 0,vI 0,vI 0,vI 0,vI 0,.sl 0 5 [],.sl 0 15 [],.sl 0 1 []],[cell (el c2 3 (Int.toNat z3)) 0,cell (el c2 3 (Int.toNat z3))
 1,cell (el c2 3 (Int.toNat z3)) 2,cell (ent a 0) 3,cell (ent a 0) 4,cell (el c2 3 (Int.toNat z8)) 0,cell (el c2 3 (Int.toNat z8)) 1,cell (el
 c2 3 (Int.toNat z8)) 2,cell (ent a 0) 8,cell (ent a 0) 9,cell (ent a 0) 10,cell (ent a 0) 11,cell (ent a 0) 12,cell (ent a 0) 13,cell (ent a
 0) 14]])) (k4 [[.sl n1 3 c2],ent a 0,[vI 0,vI 0,vI 0,vI 0,vI 0,vI 0,vI 0,vI 0,vI 0,vI 0,vI 0,vI 0,.sl 0 5 [],.sl 0 15 [],.sl 0 1
 []],[cell (el c2 3 (Int.toNat z3)) 0,cell (el c2 3 (Int.toNat z3)) 1,cell (el c2 3 (Int.toNat z3)) 2,cell (ent a 0) 3,cell (ent a 0) 4,cell
 (ent a 0) 5,cell (ent a 0) 6,cell (ent a 0) 7,cell (ent a 0) 8,cell (ent a 0) 9,cell (ent a 0) 10,cell (ent a 0) 11,cell (ent a 0) 12,cell
 (ent a 0) 13,cell (ent a 0) 14]])) (k4 [[.sl n1 3 c2],ent a 0,[vI 0,vI 0,vI 0,vI 0,vI 0,vI 0,vI 0,vI 0,vI 0,vI 0,vI 0,vI 0,.sl 0 5
 [],.sl 0 15 [],.sl 0 1 []],[cell (el c2 3 (Int.toNat z3)) 0,cell (el c2 3 (Int.toNat z3)) 1,cell (el c2 3 (Int.toNat z3)) 2,cell (ent a 0) 3,
 cell (ent a 0) 4,cell (ent a 0) 5,cell (ent a 0) 6,cell (ent a 0) 7,cell (ent a 0) 8,cell (ent a 0) 9,cell (ent a 0) 10,cell (ent a 0) 11,
 cell (ent a 0) 12,cell (ent a 0) 13,cell (ent a 0) 14]])) (fun st5=>slcK 3 (cell (ent st5 0) 0) fun n9 c10=>Lp (fun next11 st12=>intK (cell
 (ent st12 0) 0) fun z13=>slcK 3 (cell (ent st12 1) 0) fun n14 c15=>slcK 15 (cell (ent st12 5) 0) fun n16 c17=>slcK 15 (cell (ent st12 2) 13)
 fun n18 c19=>ifK (decide (z13 < (n18 : Int))) (slcK 15 (cell (ent st12 2) 13) fun n20 c21=>ckK (0≤z13∧z13 < (n20 : Int)) (caK Is s52 [el c21
 15 (Int.toNat z13),[.sl n14 3 c15]] fun r22=>slcK 15 (cell (ent r22 1) 0) fun n23 c24=>slcK 3 (cell (ent r22 2) 0) fun n25 c26=>ckK (room
 (n16+1) 169) (ckK (okI (z13+1)) (next11 [[vI (z13+1)],[.sl n25 3 c26],ent st12 2,ent st12 3,[cell (ent st12 4) 0,cell (ent st12 4) 1,
 cell (ent st12 4) 2,cell (ent st12 4) 3,cell (ent st12 4) 4,cell (ent st12 4) 5,cell (ent st12 4) 6,cell (ent st12 4) 7,cell (ent st12 4) 8,
 cell (ent st12 4) 9,cell (ent st12 4) 10,cell (ent st12 4) 11,cell (ent st12 4) 12,cell (ent st12 4) 13],[.sl (n16+1) 15 (c17++[cell (ent
 r22 0) 0,cell (ent r22 0) 1,cell (ent r22 0) 2,cell (ent r22 0) 3,cell (ent r22 0) 4,cell (ent r22 0) 5,cell (ent r22 0) 6,cell (ent r22 0)
 7,cell (ent r22 0) 8,cell (ent r22 0) 9,cell (ent r22 0) 10,cell (ent r22 0) 11,cell (ent r22 0) 12,.sl n23 15 c24,cell (ent r22 0)
 13])]])))) (K [[cell (ent st12 4) 0,cell (ent st12 4) 1,cell (ent st12 4) 2,cell (ent st12 4) 3,cell (ent st12 4) 4,cell (ent st12 4) 5,cell
 (ent st12 4) 6,cell (ent st12 4) 7,cell (ent st12 4) 8,cell (ent st12 4) 9,cell (ent st12 4) 10,cell (ent st12 4) 11,cell (ent st12 4) 12,
 cell (ent st12 4) 13],[.sl n16 15 c17],[.sl n14 3 c15]])) [[vI 0],[.sl n9 3 c10],ent st5 1,ent st5 2,[cell (ent st5 3) 0,cell (ent st5 3) 1,
 cell (ent st5 3) 2,cell (ent st5 3) 3,cell (ent st5 3) 4,cell (ent st5 3) 5,cell (ent st5 3) 6,cell (ent st5 3) 7,cell (ent st5 3) 8,cell
 (ent st5 3) 9,cell (ent st5 3) 10,cell (ent st5 3) 11,cell (ent st5 3) 12,cell (ent st5 3) 14],[.sl 0 15 []]]))
theorem w52 (Is : Sig→St'→St'→Prop) (a : St') (K : St'→Prop) : fnX Is Tryd.prog tb52 H52 s52 a K = g52 Is a K:=by kernel_rfl
theorem is52 {a r : St'} (h : g52 (Pm.Is Tryd.prog) a fun st=>st = r) (hu : unpack propQ (outSh s52) r (fun _=>True):=by exact trivial) : Pm.Is Tryd.prog s52 a r:=fn_ok (tbok [s52] []) mixP (H:=H52) (by rw [w52];exact h) hu
end Go.Proofs.YtanbipbiblikbaaDoor

namespace Go.Proofs.YtanbipbiblikbaaDoor
open Xe Pm
set_option maxRecDepth 100000
abbrev s18 : Sig:=⟨18,⟨[],[]⟩,.c .bo,[],false⟩
abbrev s58_1 : Sig:=⟨58,⟨[(0,.a 2),(1,.a 3)],[]⟩,.t [.a 31,.c .bo],[],false⟩
abbrev s5 : Sig:=⟨5,⟨[(0,.c .d),(1,.a 3)],[]⟩,.c .bo,[],true⟩
abbrev s20 : Sig:=⟨20,⟨[(0,.a 2),(1,.a 3)],[]⟩,.c .i,[],true⟩
abbrev s53 : Sig:=⟨53,⟨[(0,.a 2),(1,.a 3)],[]⟩,.t [.a 31,.c .bo],[],false⟩
abbrev s57 : Sig:=⟨57,⟨[(0,.a 2),(1,.a 3)],[]⟩,.t [.a 31,.c .bo],[],false⟩
abbrev s88 : Sig:=⟨88,⟨[(0,.c .d),(1,.c (.f 89 [.p 0 0]))],[(0,.a 35 3)]⟩,.c .i,[(0,.a 35 3)],false⟩
abbrev s89 : Sig:=⟨89,⟨[(0,.a 31),(1,.c (.p 0 0))],[(0,.a 35 3)]⟩,.c .bo,[(0,.a 35 3)],false⟩
abbrev s54 : Sig:=⟨54,⟨[(0,.a 31),(1,.c (.p 0 0)),(2,.c (.p 1 0))],[(0,.b 102 [.m 2]),(1,.b 97 [.f 55 [.p 1 0,.p 3 0,.p 4 0]]),(2,.m 102 false 1),(3,.a 32 2),(4,.b 104 [.f 54 [.p 0 0,.p 1 0]])]⟩,.c .i,[(0,.b 102 [.m 2]),(1,.b 97 [.f 55 [.p 1 0,.p 3 0,.p 4 0]]),(2,.m 102 false 1),(3,.a 32 2),(4,.b 104 [.f 54 [.p 0 0,.p 1 0]])],false⟩
abbrev s55 : Sig:=⟨55,⟨[(0,.a 15),(1,.c (.p 0 0)),(2,.c (.p 1 0)),(3,.c (.p 2 0))],[(0,.b 97 [.f 55 [.p 0 0,.p 1 0,.p 2 0]]),(1,.a 32 2),(2,.b 104 [.f 54 [.p 3 0,.p 0 0]]),(3,.b 102 [.m 4]),(4,.m 102 false 1)]⟩,.c .i,[(0,.b 97 [.f 55 [.p 0 0,.p 1 0,.p 2 0]]),(1,.a 32 2),(2,.b 104 [.f 54 [.p 3 0,.p 0 0]]),(3,.b 102 [.m 4]),(4,.m 102 false 1)],false⟩
abbrev s56 : Sig:=⟨56,⟨[(0,.c .i)],[]⟩,.c .i,[],true⟩
abbrev s21 : Sig:=⟨21,⟨[(0,.a 2),(1,.a 3)],[]⟩,.c .i,[],true⟩
abbrev s59 : Sig:=⟨59,⟨[(0,.a 31)],[]⟩,.c .bo,[],true⟩
abbrev s60 : Sig:=⟨60,⟨[(0,.a 2),(1,.a 15)],[]⟩,.c .i,[],true⟩
abbrev s36 : Sig:=⟨36,⟨[(0,.c .i)],[]⟩,.c .i,[],true⟩
def H58_1 : Hint:=⟨[(2,⟨[(2,.c (.p 0 0)),(3,.c (.p 1 0)),(4,.c (.p 2 0)),(6,.c .i)],[(0,.a 32 2),(1,.a 35 3),(2,.a 52 31)]⟩)],[(6,⟨[(4,.c (.p 0 0))],[(0,.a 52 31)]⟩)],[]⟩
abbrev tb58_1 : Tb:=⟨[],[35],[]⟩
def g58_1 (Is : Sig→St'→St'→Prop) (a : St') (K : St'→Prop) : Prop:=jn (fun k1=>Lp (fun next3 st4=>intK (cell (ent st4 0) 0) fun z5 =>
 slcK 31 (cell (ent st4 1) 1) fun n6 c7=>ifK (decide (z5 < (n6 : Int))) (slcK 31 (cell (ent st4 1) 1) fun n8 c9=>ckK (0≤z5∧z5 < (n8 : Int))
 (intK (cell (sub (el c9 31 (Int.toNat z5)) 0 3) 0) fun z10=>intK (cell (sub (el c9 31 (Int.toNat z5)) 0 3) 1) fun z11=>intK (cell (sub (el c9 31
 (Int.toNat z5)) 0 3) 2) fun z12=>intK (cell (ent st4 2) 0) fun z13=>intK (cell (ent st4 2) 1) fun z14=>intK (cell (ent st4 2) 2) fun z15 =>
 ifK (decide (z10 = z13∧z11 = z14∧z12 = z15)) (slcK 31 (cell (ent st4 1) 1) fun n16 c17=>ckK (0≤z5∧z5 < (n16 : Int)) (K [el c17 31
 (Int.toNat z5),[vB true]])) (ckK (okI (z5+1)) (next3 [[vI (z5+1)],ent st4 1,ent st4 2,ent st4 3])))) (k1 [ent st4 3])) [[vI 0],ent a 0,ent
 a 1,[vI 0,vI 0,vI 0,vI 0,vI 0,vI 0,vI 0,.v (.string (ByteArray.mk #[])),.sl 0 11 [],vI 0,vI 0,vI 0,vI 0,.sl 0 5 [],vI 0,vI 0,vI 0,
 vI 0,vI 0,vI 0,vI 0,vI 0,vI 0,vI 0,vI 0,vI 0,.sl 0 5 [],.sl 0 15 [],.sl 0 1 [],vI 0,.sl 0 1 []]]) (fun st2=>K [[vI 0,vI 0,vI 0,vI
 0,vI 0,vI 0,vI 0,.v (.string (ByteArray.mk #[])),.sl 0 11 [],vI 0,vI 0,vI 0,vI 0,.sl 0 5 [],vI 0,vI 0,vI 0,vI 0,vI 0,vI 0,vI 0,vI
 0,vI 0,vI 0,vI 0,vI 0,.sl 0 5 [],.sl 0 15 [],.sl 0 1 [],vI 0,.sl 0 1 []],[vB false]])
theorem w58_1 (Is : Sig→St'→St'→Prop) (a : St') (K : St'→Prop) : fnX Is Tryd.prog tb58_1 H58_1 s58_1 a K = g58_1 Is a K:=by kernel_rfl
theorem is58_1 {a r : St'} (h : g58_1 (Pm.Is Tryd.prog) a fun st=>st = r) (hu : unpack propQ (outSh s58_1) r (fun _=>True):=by exact trivial) : Pm.Is Tryd.prog s58_1 a r:=fn_ok (tbok [] []) mixP (H:=H58_1) (by rw [w58_1];exact h) hu
def H5 : Hint:=⟨[(3,⟨[(3,.c (.p 0 0)),(5,.c (.p 1 0)),(6,.c .i)],[(0,.a 35 3),(1,.a 32 2)]⟩)],[],[]⟩
abbrev tb5 : Tb:=⟨[s18,s19,s20,s21],[35],[]⟩
def g5 (Is : Sig→St'→St'→Prop) (a : St') (K : St'→Prop) : Prop:=caK Is s19 [[cell (ent a 0) 0]] fun r1=>Lp (fun next2 st3=>intK (cell
 (ent st3 0) 0) fun z4=>slcK 31 (cell (ent st3 2) 1) fun n5 c6=>ifK (decide (z4 < (n5 : Int))) (slcK 31 (cell (ent st3 2) 1) fun n7 c8=>ckK (0
 ≤ z4∧z4 < (n7 : Int)) (caK Is s20 [ent st3 2,sub (el c8 31 (Int.toNat z4)) 0 3] fun r9=>intK (cell (ent r9 0) 0) fun z10=>slcK 31 (cell (ent
 st3 2) 1) fun n11 c12=>ckK (0≤z4∧z4 < (n11 : Int)) (caK Is s21 [ent st3 2,sub (el c12 31 (Int.toNat z4)) 0 3] fun r13=>intK (cell (ent r13
 0) 0) fun z14=>ifK (!(decide (z10 = z14))) (K [[vB false]]) (ckK (okI (z4+1)) (next2 [[vI (z4+1)],ent st3 1,ent st3 2]))))) (caK Is s20 [ent
 st3 2,ent st3 1] fun r15=>intK (cell (ent r15 0) 0) fun z16=>caK Is s21 [ent st3 2,ent st3 1] fun r17=>intK (cell (ent r17 0) 0) fun z18 =>
 ifK (decide (z16 = z18)) (caK Is s18 [] fun r19=>booK (cell (ent r19 0) 0) fun b20=>K [[vB b20]]) (K [[vB false]]))) [[vI 0],ent a 1,ent r1 0]
theorem w5 (Is : Sig→St'→St'→Prop) (a : St') (K : St'→Prop) : fnX Is Tryd.prog tb5 H5 s5 a K = g5 Is a K:=by kernel_rfl
theorem is5 {a r : St'} (h : g5 (Pm.Is Tryd.prog) a fun st=>st = r) (hu : unpack propQ (outSh s5) r (fun _=>True):=by exact trivial) : Pm.Is Tryd.prog s5 a r:=fn_ok (tbok [s18,s19,s20,s21] []) mixP (H:=H5) (by rw [w5];exact h) hu
def H20 : Hint:=⟨[],[],[]⟩
abbrev tb20 : Tb:=⟨[s53,s54],[35],[]⟩
def g20 (Is : Sig→St'→St'→Prop) (a : St') (K : St'→Prop) : Prop:=caK Is s53 [ent a 0,ent a 1] fun r1=>booK (cell (ent r1 1) 0) fun b2 =>
 ifK (!b2) (K [[vI (-1)]]) (caK Is s54 [ent r1 0,[.sl 0 4 []],ent a 0] fun r3=>intK (cell (ent r3 0) 0) fun z4=>slcK 4 (cell (ent r3 1) 0) fun
 n5 c6=>K [[vI z4]])
theorem w20 (Is : Sig→St'→St'→Prop) (a : St') (K : St'→Prop) : fnX Is Tryd.prog tb20 H20 s20 a K = g20 Is a K:=by kernel_rfl
theorem is20 {a r : St'} (h : g20 (Pm.Is Tryd.prog) a fun st=>st = r) (hu : unpack propQ (outSh s20) r (fun _=>True):=by exact trivial) : Pm.Is Tryd.prog s20 a r:=fn_ok (tbok [s53,s54] []) mixP (H:=H20) (by rw [w20];exact h) hu
def H53 : Hint:=⟨[],[],[]⟩
abbrev tb53 : Tb:=⟨[s57],[35],[]⟩
def g53 (Is : Sig→St'→St'→Prop) (a : St') (K : St'→Prop) : Prop:=caK Is s57 [ent a 0,ent a 1] fun r1=>booK (cell (ent r1 1) 0) fun b2 =>
 ifK b2 (intK (cell (ent r1 0) 3) fun z3=>ifK (!(decide (z3 = (0 : Int)))) (intK (cell (ent r1 0) 3) fun z4=>K [ent r1 0,[vB (!(decide (z4 = (1
 : Int))))]]) (K [ent r1 0,[vB false]])) (K [ent r1 0,[vB false]])
theorem w53 (Is : Sig→St'→St'→Prop) (a : St') (K : St'→Prop) : fnX Is Tryd.prog tb53 H53 s53 a K = g53 Is a K:=by kernel_rfl
theorem is53 {a r : St'} (h : g53 (Pm.Is Tryd.prog) a fun st=>st = r) (hu : unpack propQ (outSh s53) r (fun _=>True):=by exact trivial) : Pm.Is Tryd.prog s53 a r:=fn_ok (tbok [s57] []) mixP (H:=H53) (by rw [w53];exact h) hu
def H57 : Hint:=⟨[],[],[]⟩
abbrev tb57 : Tb:=⟨[s88],[35],[]⟩
def g57 (Is : Sig→St'→St'→Prop) (a : St') (K : St'→Prop) : Prop:=caK Is s88 [[cell (ent a 0) 1],ent a 1] fun r1=>intK (cell (ent r1 0) 0)
 fun z2=>ifK (decide (z2 < (0 : Int))) (K [[vI 0,vI 0,vI 0,vI 0,vI 0,vI 0,vI 0,.v (.string (ByteArray.mk #[])),.sl 0 11 [],vI 0,vI 0,vI
 0,vI 0,.sl 0 5 [],vI 0,vI 0,vI 0,vI 0,vI 0,vI 0,vI 0,vI 0,vI 0,vI 0,vI 0,vI 0,.sl 0 5 [],.sl 0 15 [],.sl 0 1 [],vI 0,.sl 0 1 []],
 [vB false]]) (slcK 31 (cell (ent a 0) 1) fun n3 c4=>ckK (0≤z2∧z2 < (n3 : Int)) (K [el c4 31 (Int.toNat z2),[vB true]]))
theorem w57 (Is : Sig→St'→St'→Prop) (a : St') (K : St'→Prop) : fnX Is Tryd.prog tb57 H57 s57 a K = g57 Is a K:=by kernel_rfl
theorem is57 {a r : St'} (h : g57 (Pm.Is Tryd.prog) a fun st=>st = r) (hu : unpack propQ (outSh s57) r (fun _=>True):=by exact trivial) : Pm.Is Tryd.prog s57 a r:=fn_ok (tbok [s88] []) mixP (H:=H57) (by rw [w57];exact h) hu
def H88 : Hint:=⟨[(2,⟨[(0,.c .d),(1,.c (.f 89 [.p 0 0])),(7,.c .i),(8,.c .i)],[(0,.a 35 3)]⟩)],[],[]⟩
abbrev tb88 : Tb:=⟨[s89],[35],[]⟩
def g88 (Is : Sig→St'→St'→Prop) (a : St') (K : St'→Prop) : Prop:=slcK 31 (cell (ent a 0) 0) fun n1 c2=>Lp (fun next3 st4=>intK (cell
 (ent st4 1) 0) fun z5=>intK (cell (ent st4 2) 0) fun z6=>ifK (decide (z6 < z5)) (slcK 31 (cell (ent st4 0) 0) fun n7 c8=>ckK (0≤z6∧z6 <
 (n7 : Int)) (caK Is s89 [el c8 31 (Int.toNat z6),ent st4 3] fun r9=>booK (cell (ent r9 0) 0) fun b10=>ifK b10 (K [[vI z6],ent r9 1]) (ckK (okI
 (z6+1)) (next3 [[cell (ent st4 0) 0],[vI z5],[vI (z6+1)],ent r9 1])))) (K [[vI (-1)],ent st4 3])) [[cell (ent a 0) 0],[vI (n1 : Int)],[vI
 0],ent a 1]
theorem w88 (Is : Sig→St'→St'→Prop) (a : St') (K : St'→Prop) : fnX Is Tryd.prog tb88 H88 s88 a K = g88 Is a K:=by kernel_rfl
theorem is88 {a r : St'} (h : g88 (Pm.Is Tryd.prog) a fun st=>st = r) (hu : unpack propQ (outSh s88) r (fun _=>True):=by exact trivial) : Pm.Is Tryd.prog s88 a r:=fn_ok (tbok [s89] []) mixP (H:=H88) (by rw [w88];exact h) hu
def H89 : Hint:=⟨[],[],[]⟩
abbrev tb89 : Tb:=⟨[],[35],[]⟩
def g89 (Is : Sig→St'→St'→Prop) (a : St') (K : St'→Prop) : Prop:=intK (cell (sub (ent a 0) 0 3) 0) fun z1=>intK (cell (sub (ent a 0) 0 3)
 1) fun z2=>intK (cell (sub (ent a 0) 0 3) 2) fun z3=>intK (cell (ent a 1) 0) fun z4=>intK (cell (ent a 1) 1) fun z5=>intK (cell (ent a 1) 2)
 fun z6=>K [[vB (decide (z1 = z4∧z2 = z5∧z3 = z6))],ent a 1]
theorem w89 (Is : Sig→St'→St'→Prop) (a : St') (K : St'→Prop) : fnX Is Tryd.prog tb89 H89 s89 a K = g89 Is a K:=by kernel_rfl
theorem is89 {a r : St'} (h : g89 (Pm.Is Tryd.prog) a fun st=>st = r) (hu : unpack propQ (outSh s89) r (fun _=>True):=by exact trivial) : Pm.Is Tryd.prog s89 a r:=fn_ok (tbok [] []) mixP (H:=H89) (by rw [w89];exact h) hu
def H54 : Hint:=⟨[],[],[]⟩
abbrev tb54 : Tb:=⟨[s55],[35],[]⟩
def g54 (Is : Sig→St'→St'→Prop) (a : St') (K : St'→Prop) : Prop:=slcK 4 (cell (ent a 1) 0) fun n1 c2=>intK (cell (sub (ent a 0) 0 3) 0)
 fun z3=>intK (cell (sub (ent a 0) 0 3) 1) fun z4=>intK (cell (sub (ent a 0) 0 3) 2) fun z5=>ifK (!((mapFind 4 z3 z4 z5 n1 c2).isSome)) (caK Is
 s55 [sub (ent a 0) 14 15,ent a 2,[.sl n1 4 c2]] fun r6=>intK (cell (ent r6 0) 0) fun z7=>slcK 4 (cell (ent r6 2) 0) fun n8 c9=>intK (cell
 (sub (ent a 0) 0 3) 0) fun z10=>intK (cell (sub (ent a 0) 0 3) 1) fun z11=>intK (cell (sub (ent a 0) 0 3) 2) fun z12=>K [[vI z7],[.sl (mapLen
 4 z10 z11 z12 n8 c9) 4 (mapSet 4 z10 z11 z12 [vI z7] n8 c9)],ent r6 1]) (K [[cell ((mapFind 4 z3 z4 z5 n1 c2).getD [vI 0]) 0],[.sl n1 4 c2],ent a
 2])
theorem w54 (Is : Sig→St'→St'→Prop) (a : St') (K : St'→Prop) : fnX Is Tryd.prog tb54 H54 s54 a K = g54 Is a K:=by kernel_rfl
def H55 : Hint:=⟨[(3,⟨[(1,.c (.p 0 0)),(2,.c (.p 1 0)),(3,.c (.p 2 0)),(4,.c (.p 5 0)),(6,.c .i),(7,.c .i),(8,.c .bo),(23,.c .d),(24,.c .i),(25,.c .i)],[(0,.b 97 [.f 55 [.p 0 0,.p 1 0,.p 2 0]]),(1,.a 32 2),(2,.b 104 [.f 54 [.p 3 0,.p 0 0]]),(5,.a 50 15),(3,.b 102 [.m 4]),(4,.m 102 false 1)]⟩)],[(2,⟨[(1,.c (.p 0 0)),(2,.c (.p 1 0)),(3,.c (.p 2 0)),(4,.c (.p 5 0)),(6,.c .i),(7,.c .i),(8,.c .bo)],[(0,.b 97 [.f 55 [.p 0 0,.p 1 0,.p 2 0]]),(1,.a 32 2),(2,.b 104 [.f 54 [.p 3 0,.p 0 0]]),(5,.a 50 15),(3,.b 102 [.m 4]),(4,.m 102 false 1)]⟩),(15,⟨[(1,.c (.p 0 0)),(4,.c (.p 5 0)),(6,.c .i),(7,.c .i)],[(0,.b 97 [.f 55 [.p 0 0,.p 1 0,.p 2 0]]),(5,.a 50 15),(1,.a 32 2),(2,.b 104 [.f 54 [.p 3 0,.p 0 0]]),(3,.b 102 [.m 4]),(4,.m 102 false 1)]⟩)],[]⟩
abbrev tb55 : Tb:=⟨[s54,s55,s56,s57],[35],[]⟩
def g55 (Is : Sig→St'→St'→Prop) (a : St') (K : St'→Prop) : Prop:=slcK 4 (cell (ent a 2) 0) fun n1 c2=>jn (fun k3=>intK (cell (ent a 0)
 3) fun z5=>ifK (decide (z5 = (5 : Int))) (k3 [[vI 1],[vI 0],[vB true],ent a 1,ent a 0,[.sl n1 4 c2]]) (intK (cell (ent a 0) 3) fun z6=>k3
 [[vI 1],[vI 0],[vB (decide (z6 = (10 : Int)))],ent a 1,ent a 0,[.sl n1 4 c2]])) (fun st4=>intK (cell (ent st4 0) 0) fun z7=>intK (cell (ent
 st4 1) 0) fun z8=>booK (cell (ent st4 2) 0) fun b9=>slcK 4 (cell (ent st4 5) 0) fun n10 c11=>slcK 15 (cell (ent st4 4) 13) fun n12 c13=>Lp
 (fun next14 st15=>intK (cell (ent st15 0) 0) fun z16=>intK (cell (ent st15 1) 0) fun z17=>booK (cell (ent st15 2) 0) fun b18=>intK (cell
 (ent st15 4) 0) fun z19=>intK (cell (ent st15 5) 0) fun z20=>slcK 4 (cell (ent st15 8) 0) fun n21 c22=>ifK (decide (z20 < z19)) (slcK 15 (cell
 (ent st15 3) 0) fun n23 c24=>ckK (0≤z20∧z20 < (n23 : Int)) (caK Is s55 [el c24 15 (Int.toNat z20),ent st15 6,[.sl n21 4 c22]] fun r25 =>
 intK (cell (ent r25 0) 0) fun z26=>slcK 4 (cell (ent r25 2) 0) fun n27 c28=>ifK (decide (z26 < (0 : Int))) (K [[vI (-1)],ent r25 1,[.sl n27 4
 c28]]) (ifK b18 (ifK (decide ((0 : Int) < z20)) (ckK (okI (z20+1)) (next14 [[vI z16],[vI (max z17 z26)],[vB b18],[cell (ent st15 3) 0],[vI
 z19],[vI (z20+1)],ent r25 1,ent st15 7,[.sl n27 4 c28]])) (ckK (okI (z16+z26)) (caK Is s56 [[vI (z16+z26)]] fun r29=>intK (cell (ent r29
 0) 0) fun z30=>ckK (okI (z20+1)) (next14 [[vI z30],[vI z17],[vB b18],[cell (ent st15 3) 0],[vI z19],[vI (z20+1)],ent r25 1,ent st15 7,
 [.sl n27 4 c28]])))) (ckK (okI (z16+z26)) (caK Is s56 [[vI (z16+z26)]] fun r31=>intK (cell (ent r31 0) 0) fun z32=>ckK (okI (z20+1))
 (next14 [[vI z32],[vI z17],[vB b18],[cell (ent st15 3) 0],[vI z19],[vI (z20+1)],ent r25 1,ent st15 7,[.sl n27 4 c28]])))))) (jn (fun k33
 => intK (cell (ent st15 7) 3) fun z35=>ifK (decide (z35 = (3 : Int))) (caK Is s57 [ent st15 6,sub (ent st15 7) 5 3] fun r36=>booK (cell (ent
 r36 1) 0) fun b37=>caK Is s54 [ent r36 0,[.sl n21 4 c22],ent st15 6] fun r38=>intK (cell (ent r38 0) 0) fun z39=>slcK 4 (cell (ent r38 1) 0)
 fun n40 c41=>k33 [[vI z16],[vI z39],ent st15 7,ent r38 2,[.sl n40 4 c41]]) (k33 [[vI z16],[vI z17],ent st15 7,ent st15 6,[.sl n21 4
 c22]])) (fun st34=>intK (cell (ent st34 0) 0) fun z42=>intK (cell (ent st34 1) 0) fun z43=>slcK 4 (cell (ent st34 4) 0) fun n44 c45=>intK
 (cell (ent st34 2) 3) fun z46=>ifK (decide (z46 = (12 : Int))) (K [[vI (-1)],ent st34 3,[.sl n44 4 c45]]) (ifK (decide (z43 < (0 : Int))) (K
 [[vI (-1)],ent st34 3,[.sl n44 4 c45]]) (ckK (okI (z42+z43)) (caK Is s56 [[vI (z42+z43)]] fun r47=>intK (cell (ent r47 0) 0) fun z48=>K
 [[vI z48],ent st34 3,[.sl n44 4 c45]])))))) [[vI z7],[vI z8],[vB b9],[cell (ent st4 4) 13],[vI (n12 : Int)],[vI 0],ent st4 3,ent st4 4,
 [.sl n10 4 c11]])
theorem w55 (Is : Sig→St'→St'→Prop) (a : St') (K : St'→Prop) : fnX Is Tryd.prog tb55 H55 s55 a K = g55 Is a K:=by kernel_rfl
def H56 : Hint:=⟨[],[],[]⟩
abbrev tb56 : Tb:=⟨[],[35],[]⟩
def g56 (Is : Sig→St'→St'→Prop) (a : St') (K : St'→Prop) : Prop:=intK (cell (ent a 0) 0) fun z1=>K [[vI (min (max z1 (-1099511627776))
 1099511627776)]]
theorem w56 (Is : Sig→St'→St'→Prop) (a : St') (K : St'→Prop) : fnX Is Tryd.prog tb56 H56 s56 a K = g56 Is a K:=by kernel_rfl
theorem is56 {a r : St'} (h : g56 (Pm.Is Tryd.prog) a fun st=>st = r) (hu : unpack propQ (outSh s56) r (fun _=>True):=by exact trivial) : Pm.Is Tryd.prog s56 a r:=fn_ok (tbok [] []) mixP (H:=H56) (by rw [w56];exact h) hu
def H21 : Hint:=⟨[],[],[]⟩
abbrev tb21 : Tb:=⟨[s58_1,s59,s60],[35],[]⟩
def g21 (Is : Sig→St'→St'→Prop) (a : St') (K : St'→Prop) : Prop:=caK Is s58_1 [ent a 0,ent a 1] fun r1=>booK (cell (ent r1 1) 0) fun b2
 => ifK (!b2) (K [[vI (-1)]]) (caK Is s59 [ent r1 0] fun r3=>booK (cell (ent r3 0) 0) fun b4=>ifK (!b4) (K [[vI (-1)]]) (caK Is s60 [ent a 0,sub
 (ent r1 0) 14 15] fun r5=>intK (cell (ent r5 0) 0) fun z6=>K [[vI z6]]))
theorem w21 (Is : Sig→St'→St'→Prop) (a : St') (K : St'→Prop) : fnX Is Tryd.prog tb21 H21 s21 a K = g21 Is a K:=by kernel_rfl
theorem is21 {a r : St'} (h : g21 (Pm.Is Tryd.prog) a fun st=>st = r) (hu : unpack propQ (outSh s21) r (fun _=>True):=by exact trivial) : Pm.Is Tryd.prog s21 a r:=fn_ok (tbok [s58_1,s59,s60] []) mixP (H:=H21) (by rw [w21];exact h) hu
def H59 : Hint:=⟨[],[],[]⟩
abbrev tb59 : Tb:=⟨[],[35],[]⟩
def g59 (Is : Sig→St'→St'→Prop) (a : St') (K : St'→Prop) : Prop:=intK (cell (ent a 0) 3) fun z1=>ifK (decide (z1 = (2 : Int))) (K [[vB
 true]]) (intK (cell (ent a 0) 3) fun z2=>ifK (decide (z2 = (3 : Int))) (K [[vB true]]) (intK (cell (ent a 0) 3) fun z3=>ifK (decide (z3 = (4 :
 Int))) (K [[vB true]]) (intK (cell (ent a 0) 3) fun z4=>K [[vB (decide (z4 = (5 : Int)))]])))
theorem w59 (Is : Sig→St'→St'→Prop) (a : St') (K : St'→Prop) : fnX Is Tryd.prog tb59 H59 s59 a K = g59 Is a K:=by kernel_rfl
theorem is59 {a r : St'} (h : g59 (Pm.Is Tryd.prog) a fun st=>st = r) (hu : unpack propQ (outSh s59) r (fun _=>True):=by exact trivial) : Pm.Is Tryd.prog s59 a r:=fn_ok (tbok [] []) mixP (H:=H59) (by rw [w59];exact h) hu
def H60 : Hint:=⟨[(6,⟨[(2,.c (.p 0 0)),(3,.c (.p 1 0)),(5,.c .i),(6,.c .i),(7,.c .i)],[(0,.a 32 2),(1,.a 50 15)]⟩)],[(7,⟨[(2,.c (.p 0 0)),(3,.c (.p 1 0)),(5,.c .i),(6,.c .i),(7,.c .i)],[(0,.a 32 2),(1,.a 50 15)]⟩),(16,⟨[(5,.c .i),(6,.c .i)],[]⟩)],[]⟩
abbrev tb60 : Tb:=⟨[s21,s36,s60],[35],[]⟩
def g60 (Is : Sig→St'→St'→Prop) (a : St') (K : St'→Prop) : Prop:=intK (cell (ent a 1) 3) fun z1=>ifK (decide (z1 = (12 : Int))) (K [[vI
 (-1)]]) (Lp (fun next2 st3=>intK (cell (ent st3 0) 0) fun z4=>intK (cell (ent st3 1) 0) fun z5=>intK (cell (ent st3 2) 0) fun z6=>slcK 15
 (cell (ent st3 4) 13) fun n7 c8=>ifK (decide (z6 < (n7 : Int))) (jn (fun k9=>slcK 15 (cell (ent st3 4) 13) fun n11 c12=>ckK (0≤z6∧z6 <
 (n11 : Int)) (caK Is s60 [ent st3 3,el c12 15 (Int.toNat z6)] fun r13=>intK (cell (ent r13 0) 0) fun z14=>ifK (decide (z14 < (0 : Int))) (K
 [[vI (-1)]]) (ifK (decide ((0 : Int) < z6)) (intK (cell (ent st3 4) 3) fun z15=>ifK (decide (z15 = (5 : Int))) (k9 [[vI z4],[vI (max z5 z14)],
 [vI z6],ent st3 3,ent st3 4]) (intK (cell (ent st3 4) 3) fun z16=>ifK (decide (z16 = (10 : Int))) (k9 [[vI z4],[vI (max z5 z14)],[vI z6],ent
 st3 3,ent st3 4]) (ckK (okI (z4+z14)) (caK Is s36 [[vI (z4+z14)]] fun r17=>intK (cell (ent r17 0) 0) fun z18=>k9 [[vI z18],[vI z5],[vI
 z6],ent st3 3,ent st3 4])))) (ckK (okI (z4+z14)) (caK Is s36 [[vI (z4+z14)]] fun r19=>intK (cell (ent r19 0) 0) fun z20=>k9 [[vI z20],[vI
 z5],[vI z6],ent st3 3,ent st3 4]))))) (fun st10=>intK (cell (ent st10 0) 0) fun z21=>intK (cell (ent st10 1) 0) fun z22=>intK (cell (ent
 st10 2) 0) fun z23=>ckK (okI (z23+1)) (next2 [[vI z21],[vI z22],[vI (z23+1)],ent st10 3,ent st10 4]))) (jn (fun k24=>intK (cell (ent st3
 4) 3) fun z26=>ifK (decide (z26 = (3 : Int))) (caK Is s21 [ent st3 3,sub (ent st3 4) 5 3] fun r27=>intK (cell (ent r27 0) 0) fun z28=>k24
 [[vI z4],[vI z28]]) (k24 [[vI z4],[vI z5]])) (fun st25=>intK (cell (ent st25 0) 0) fun z29=>intK (cell (ent st25 1) 0) fun z30=>ifK (decide
 (z30 < (0 : Int))) (K [[vI (-1)]]) (ckK (okI (z29+z30)) (caK Is s36 [[vI (z29+z30)]] fun r31=>intK (cell (ent r31 0) 0) fun z32=>K [[vI
 z32]]))))) [[vI 1],[vI 0],[vI 0],ent a 0,ent a 1])
theorem w60 (Is : Sig→St'→St'→Prop) (a : St') (K : St'→Prop) : fnX Is Tryd.prog tb60 H60 s60 a K = g60 Is a K:=by kernel_rfl
theorem is60 {a r : St'} (h : g60 (Pm.Is Tryd.prog) a fun st=>st = r) (hu : unpack propQ (outSh s60) r (fun _=>True):=by exact trivial) : Pm.Is Tryd.prog s60 a r:=fn_ok (tbok [s21,s36,s60] []) mixP (H:=H60) (by rw [w60];exact h) hu
def H36 : Hint:=⟨[],[],[]⟩
abbrev tb36 : Tb:=⟨[],[35],[]⟩
def g36 (Is : Sig→St'→St'→Prop) (a : St') (K : St'→Prop) : Prop:=intK (cell (ent a 0) 0) fun z1=>K [[vI (min (max z1 (-1099511627776))
 1099511627776)]]
theorem w36 (Is : Sig→St'→St'→Prop) (a : St') (K : St'→Prop) : fnX Is Tryd.prog tb36 H36 s36 a K = g36 Is a K:=by kernel_rfl
theorem is36 {a r : St'} (h : g36 (Pm.Is Tryd.prog) a fun st=>st = r) (hu : unpack propQ (outSh s36) r (fun _=>True):=by exact trivial) : Pm.Is Tryd.prog s36 a r:=fn_ok (tbok [] []) mixP (H:=H36) (by rw [w36];exact h) hu
end Go.Proofs.YtanbipbiblikbaaDoor

namespace Pm
open Go Xe
abbrev ρ0 : Nat→Option Value:=fun _=>none
def Plain (M : Mem) (sl : Nat→S) (vs : List Value) : Prop:=∀ t,sl t = su∨∃ v,vs[t]? = some v∧SR M ρ0 (sl t) v
def Old (P : Program) (s : Sig) (fr : Fr) (r : St') : Prop:=∀ (w0 : World) (M : Mem) (Γ : List As) (vs : List Value),vs.length = s.ins.sl.length→Plain M fr.sl vs→GrOk M →
 CallOk P w0 M Γ s.f vs.toArray (Gives M Γ fun M' v=>∃ vs' fr',ResV s.out v vs'∧unpack propQ (outSh s) r (fun x=>x = fr')∧(∀ b,fr'.ob b = none)∧Plain M' fr'.sl vs')
theorem is_of_old {P : Program} {s : Sig} {a r : St'} (hi : s.ins.ob = []) (h : unpack propQ s.ins a fun fr=>Old P s fr r) : Is P s a r:=by
 obtain ⟨fr,h1,h2⟩:=unpack_un h
 refine h2 _ ?_
 intro w0 Γ0 ρ M lst vs w hlen hρ hR
 have hr : ρ = ρ0:=by
  funext i
  cases hc : ρ i with
  | none=>rfl
  | some v=>have:=hρ i (by rw [hc];rfl);rw [hi] at this;cases this
 subst hr
 have hl : lst = []:=by
  cases lst with
  | nil=>rfl
  | cons p l=>have:=hR.keys p (List.mem_cons_self ..);cases this
 subst hl
 have hs:=h1 w0 M Γ0 vs hlen hR.sl hR.gr w hR.st
 refine hs.mono ?_
 rintro e w' ⟨v,M',Γ',he,hg,hst⟩
 obtain ⟨hM,rfl,vs',fr',g1,g2,g3,g4⟩:=hg
 exact ⟨v,vs',ρ0,M',[],fr',he,g1,hM,(fun i u hu=>by cases hu),(fun i hi=>by cases hi),(fun p hp=>by cases hp),g2,⟨g4,(fun b o ho=>by rw [g3] at ho;cases ho),(fun b v hv=>by cases hv),(fun p hp=>by cases hp),List.nodup_nil,hst,hR.gr.mono hM⟩⟩
theorem old_of_call {P : Program} {s : Sig} {fr : Fr} {b : Bool} {w0 : World} {M : Mem} {vs : List Value} (hM : GrOk M) (h : CallFr P s fr [[.v (.bool b)]]) (hlen : vs.length = s.ins.sl.length) (hp : Plain M fr.sl vs) (hob : ∀ b,fr.ob b = none)
  (ho : s.out = .c .bo) (hoo : s.oob = []) : CallOk P w0 M [] s.f vs.toArray (fun u M' Γ'=>u = .bool b∧M' = M∧Γ' = []):=by
 intro w hst
 refine (h w0 [] ρ0 M [] vs w hlen (fun i hi=>by cases hi) ⟨hp,(fun b o ho=>by rw [hob] at ho;cases ho),(fun b v hv=>by cases hv),(fun p hp=>by cases hp),List.nodup_nil,hst,hM⟩).mono ?_
 rintro e w' ⟨v,us,ρ',M',lst',fr',rfl,h1,h2,h3,h4,h5,h6,h7⟩
 have hst' : St w0 M' (lst'.map Prod.snd++[]) w':=h7.st
 unfold outSh at h6
 rw [hoo,ho] at h6
 rw [ho] at h1
 obtain rfl : us = [v]:=h1
 have hv : v = .bool b:=by
  subst h6
  obtain h8 | ⟨u,h8,h9⟩:=h7.sl 0
  ·cases h8
  ·obtain rfl : v = u:=Option.some.inj h8
   have h10 : Rd M' (.v (.bool b)) v:=h9
   unfold Rd at h10
   exact h10.1
 exact ⟨v,M,[],rfl,⟨hv,rfl,rfl⟩,hst'.os,hst'.tape,hst'.output,hst'.size,(fun b o hb=>hst'.mem b o (h2 b o hb)),(fun x hx=>by cases hx),List.nodup_nil⟩
end Pm

namespace Xe
open Go
def kJ (dn : List Ex) (r : List Ex×MkS) : List Ex×MkS:=(dn++r.1,r.2)
theorem kJ_nil (r : List Ex×MkS) : r = kJ [] r:=by unfold kJ;rw [List.nil_append]
theorem kidsN_step {g : GX} {t : Ty} {env : List Bnd} {d : Int} {m : Nat} {s : MkS} {dn : List Ex} {z : List Ex×MkS} (hz : z = kJ dn (kidsN g t env d (m+1) s)) (h : 0 < s.left) : z = kJ (dn++[(g t env d s).1]) (kidsN g t env d m (g t env d s).2):=by
 rw [hz,kidsN,if_pos h]
 simp [kJ]
theorem kidsN_stop {g : GX} {t : Ty} {env : List Bnd} {d : Int} {m : Nat} {s : MkS} {dn : List Ex} {z : List Ex×MkS} (hz : z = kJ dn (kidsN g t env d m s)) (h : m = 0∨¬ 0 < s.left) : z = (dn,s):=by
 rw [hz]
 cases m with
 | zero=>rw [kidsN];simp [kJ]
 | succ m=>rw [kidsN,if_neg (by omega)];simp [kJ]
theorem kidsT_step {g : GX} {env : List Bnd} {d : Int} {ts : List Ty} {k : Nat} {s : MkS} {dn : List Ex} {z : List Ex×MkS} (hk : k < ts.length) (hz : z = kJ dn (kidsT g env d (ts.drop k) s)) : z = kJ (dn++[(g ts[k] env d s).1]) (kidsT g env d (ts.drop (k+1)) (g ts[k] env d s).2):=by
 rw [hz,List.drop_eq_getElem_cons hk,kidsT]
 simp [kJ]
theorem kidsT_end {g : GX} {env : List Bnd} {d : Int} {ts : List Ty} {k : Nat} {s : MkS} {dn : List Ex} {z : List Ex×MkS} (hk : k = ts.length) (hz : z = kJ dn (kidsT g env d (ts.drop k) s)) : z = (dn,s):=by
 rw [hz,hk,List.drop_length,kidsT]
 simp [kJ]
def bJ (dn : List Ex) (ns : List ByteArray) (r : (List Ex×List ByteArray)×MkS) : (List Ex×List ByteArray)×MkS:=((dn++r.1.1,ns++r.1.2),r.2)
theorem bJ_nil (r : (List Ex×List ByteArray)×MkS) : r = bJ [] [] r:=by unfold bJ;rw [List.nil_append,List.nil_append]
theorem branches_step {g : GX} {t : Ty} {env : List Bnd} {d : Int} {id : IdT} {sl : List SlotT} {k : Nat} {s : MkS} {dn : List Ex} {ns : List ByteArray} {z : (List Ex×List ByteArray)×MkS} (hk : k < sl.length) (hz : z = bJ dn ns (branchesG g t env d id (sl.drop k) k s)) :
  z = bJ (dn++[(g t (env++[⟨id,k,sl[k].ty⟩]) d s).1]) (ns++[(nameG (g t (env++[⟨id,k,sl[k].ty⟩]) d s).2).1]) (branchesG g t env d id (sl.drop (k+1)) (k+1) (nameG (g t (env++[⟨id,k,sl[k].ty⟩]) d s).2).2):=by
 rw [hz,List.drop_eq_getElem_cons hk,branchesG]
 simp [bJ]
theorem branches_end {g : GX} {t : Ty} {env : List Bnd} {d : Int} {id : IdT} {sl : List SlotT} {k : Nat} {s : MkS} {dn : List Ex} {ns : List ByteArray} {z : (List Ex×List ByteArray)×MkS} (hk : k = sl.length) (hz : z = bJ dn ns (branchesG g t env d id (sl.drop k) k s)) : z = ((dn,ns),s):=by
 rw [hz,hk,List.drop_length,branchesG]
 simp [bJ]
def GBd (q : Int) (g : GX) : Prop:=∀ (t : Ty) (env : List Bnd) (d : Int) (s : MkS) (B : Int),0≤B→Bd (q+B) s→Bd B (g t env d s).2
theorem kidsN_bd {q : Int} {g : GX} (hg : GBd q g) (hq : 1≤q) {t : Ty} {env : List Bnd} {d B : Int} (hB : 0≤B) : ∀ (k : Nat) (s : MkS),Bd (k * q+B) s→Bd B (kidsN g t env d k s).2
 | 0,s,h=>by rw [kidsN];exact h.mono (by simp)
 | k+1,s,h=>by
  rw [kidsN]
  have e : ((k+1 : Nat) : Int) * q = k * q+q:=by rw [Int.natCast_add,Int.add_mul];simp
  have h0 : 0≤(k : Int) * q:=Int.mul_nonneg (by omega) (by omega)
  split
  ·exact kidsN_bd hg hq hB k _ (hg t env d s _ (by omega) (h.mono (by omega)))
  ·exact h.mono (by omega)
theorem kidsT_bd {q : Int} {g : GX} (hg : GBd q g) (hq : 1≤q) {env : List Bnd} {d B : Int} (hB : 0≤B) : ∀ (ts : List Ty) (s : MkS),Bd (ts.length * q+B) s→Bd B (kidsT g env d ts s).2
 | [],s,h=>by rw [kidsT];exact h.mono (by simp)
 | t::ts,s,h=>by
  rw [kidsT]
  have e : ((t::ts).length : Int) * q = ts.length * q+q:=by rw [List.length_cons,Int.natCast_add,Int.add_mul];simp
  have h0 : 0≤(ts.length : Int) * q:=Int.mul_nonneg (by omega) (by omega)
  exact kidsT_bd hg hq hB ts _ (hg t env d s _ (by omega) (h.mono (by omega)))
theorem branches_bd {q : Int} {g : GX} (hg : GBd q g) (hq : 1≤q) {t : Ty} {env : List Bnd} {d B : Int} {id : IdT} (hB : 0≤B) : ∀ (sl : List SlotT) (k : Nat) (s : MkS),Bd (sl.length * (q+1)+B) s→Bd B (branchesG g t env d id sl k s).2
 | [],k,s,h=>by rw [branchesG];exact h.mono (by simp)
 | x::xs,k,s,h=>by
  rw [branchesG]
  have e : ((x::xs).length : Int) * (q+1) = xs.length * (q+1)+(q+1):=by rw [List.length_cons,Int.natCast_add,Int.add_mul];simp
  have h0 : 0≤(xs.length : Int) * (q+1):=Int.mul_nonneg (by omega) (by omega)
  refine branches_bd hg hq hB xs (k+1) _ (Bd.name' (A:=xs.length * (q+1)+B+1) (hg t _ d s _ (by omega) (h.mono (by omega))) (by omega))
theorem theDef_mem (p : ProgT) (id : IdT) : theDef p id = def0∨theDef p id∈p.defs:=by
 unfold theDef
 cases h : p.defs.find? fun d=>decide (d.id = id) with
 | none=>exact .inl rfl
 | some d=>exact .inr (List.mem_of_find?_eq_some h)
def Short (p : ProgT) : Prop:=∀ d∈p.defs,d.slots.length≤3
theorem Short.the {p : ProgT} (h : Short p) (id : IdT) : (theDef p id).slots.length≤3:=by
 rcases theDef_mem p id with e | e
 ·rw [e];exact Nat.zero_le _
 ·exact h _ e
theorem Short.at {c : MkC} (h : Short c.p) (k : Nat) : (defA c k).slots.length≤3:=by
 unfold defA
 rcases Nat.lt_or_ge k c.p.defs.length with hk | hk
 ·rw [List.getD_eq_getElem?_getD,List.getElem?_eq_getElem hk];exact h _ (List.getElem_mem hk)
 ·rw [List.getD_eq_getElem?_getD,List.getElem?_eq_none hk];exact Nat.zero_le _
theorem le3 {n : Nat} {q : Int} (h : n≤3) (hq : 0≤q) : (n : Int) * q≤3 * q:=Int.mul_le_mul_of_nonneg_right (by omega) hq
theorem litG_bd {q : Int} {g : GX} {c : MkC} (hg : GBd q g) (hq : 1≤q) (hs : Short c.p) {t : Ty} {env : List Bnd} {x d B : Int} {s : MkS} (hB : 0≤B) (h : Bd (3 * q+1+B) s) : Bd B (litG c g t env x d s).2:=by
 unfold litG
 split
 ·exact h.node (by omega)
 split
 ·exact h.node (by omega)
 split
 ·have h3 : (if 0≤d then (x.tmod 3).toNat else 0)≤3:=by
   split
   ·have:=Int.tmod_lt_of_pos x (show (0 : Int) < 3 by omega);omega
   ·omega
  dsimp only
  exact Bd.node (kidsN_bd hg hq (B:=B+1) (by omega) _ s (h.mono (by have:=le3 h3 (show 0≤q by omega);omega))) (by omega)
 split
 ·dsimp only
  exact Bd.node (hg _ _ _ s (B+1) (by omega) (h.mono (by omega))) (by omega)
 ·have h3:=hs.the t.df
  dsimp only
  exact Bd.node (kidsT_bd hg hq (B:=B+1) (by omega) _ s (h.mono (by have:=le3 h3 (show 0≤q by omega);rw [List.length_map];omega))) (by omega)
theorem bothG_bd {q : Int} {g : GX} (hg : GBd q g) (hq : 1≤q) {n : Int} {u : Ty} {env : List Bnd} {d B : Int} {s : MkS} (hB : 0≤B) (h : Bd (2 * q+1+B) s) : Bd B (bothG g n u env d s).2:=by
 unfold bothG
 exact Bd.node (hg _ _ _ _ (B+1) (by omega) (hg _ _ _ s (q+(B+1)) (by omega) (h.mono (by omega)))) (by omega)
theorem oneG_bd {q : Int} {g : GX} (hg : GBd q g) {n : Int} {u : Ty} {env : List Bnd} {d B : Int} {s : MkS} (hB : 0≤B) (h : Bd (q+1+B) s) : Bd B (oneG g n u env d s).2:=by
 unfold oneG
 exact Bd.node (hg _ _ _ s (B+1) (by omega) (h.mono (by omega))) (by omega)
theorem opG_bd {q : Int} {g : GX} {c : MkC} (hg : GBd q g) (hq : 1≤q) (hs : Short c.p) {t : Ty} {env : List Bnd} {x d B : Int} {s : MkS} (hB : 0≤B) (h : Bd (3 * q+1+B) s) : Bd B (opG c g t env x d s).2:=by
 unfold opG
 split
 ·split
  ·exact oneG_bd hg hB (h.mono (by omega))
  ·exact bothG_bd hg hq hB (h.mono (by omega))
 split
 ·split
  ·exact oneG_bd hg hB (h.mono (by omega))
  ·exact bothG_bd hg hq hB (h.mono (by omega))
 split
 ·exact bothG_bd hg hq hB (h.mono (by omega))
 ·exact litG_bd hg hq hs hB h
theorem matchG_bd {q : Int} {g : GX} {c : MkC} (hg : GBd q g) (hq : 1≤q) (hs : Short c.p) {t : Ty} {env : List Bnd} {x d B : Int} {s : MkS} (hB : 0≤B) (h : Bd (4 * q+4+B) s) : Bd B (matchG c g t env x d s).2:=by
 unfold matchG
 split
 ·exact opG_bd hg hq hs hB (h.mono (by omega))
 ·have h3:=le3 (hs.at (c:=c) (ofG c 1 x.toNat).toNat) (show 0≤q+1 by omega)
  dsimp only
  exact branches_bd hg hq hB _ _ _ (Bd.node (A:=3 * (q+1)+B+1) (hg _ _ _ s _ (by omega) (h.mono (by omega))) (by omega))
theorem fieldG_bd {q : Int} {g : GX} {c : MkC} (hg : GBd q g) (hq : 1≤q) (hs : Short c.p) {t : Ty} {env : List Bnd} {x d B : Int} {s : MkS} (hB : 0≤B) (h : Bd (4 * q+4+B) s) : Bd B (fieldG c g t env x d s).2:=by
 unfold fieldG
 split
 ·dsimp only
  exact Bd.node (hg _ _ _ s (B+1) (by omega) (h.mono (by omega))) (by omega)
 ·exact opG_bd hg hq hs hB (h.mono (by omega))
theorem callG_bd {q : Int} {g : GX} {c : MkC} (hg : GBd q g) (hq : 1≤q) (hs : Short c.p) {t : Ty} {env : List Bnd} {x d B : Int} {s : MkS} (hB : 0≤B) (h : Bd (4 * q+4+B) s) : Bd B (callG c g t env x d s).2:=by
 unfold callG
 split
 ·rename_i k _
  have h3:=le3 (hs.at (c:=c) k) (show 0≤q by omega)
  dsimp only
  exact Bd.node (kidsT_bd hg hq (B:=B+1) (by omega) _ s (h.mono (by rw [List.length_map];omega))) (by omega)
 ·exact opG_bd hg hq hs hB (h.mono (by omega))
theorem restG_bd {q : Int} {g : GX} {c : MkC} (hg : GBd q g) (hq : 1≤q) (hs : Short c.p) {t : Ty} {env : List Bnd} {k x d B : Int} {s : MkS} (hB : 0≤B) (h : Bd (4 * q+4+B) s) : Bd B (restG c g t env k x d s).2:=by
 unfold restG
 split
 ·dsimp only [ifG]
  exact Bd.node (hg _ _ _ _ (B+1) (by omega) (hg _ _ _ _ (q+(B+1)) (by omega) (hg _ _ _ s (q+(q+(B+1))) (by omega) (h.mono (by omega))))) (by omega)
 split
 ·dsimp only [letG]
  exact hg _ _ _ _ B (by omega) (Bd.name' (A:=q+B+1) (Bd.node (A:=q+B+2) (hg _ _ _ s _ (by omega) (h.mono (by omega))) (by omega)) (by omega))
 split
 ·exact matchG_bd hg hq hs hB h
 split
 ·exact fieldG_bd hg hq hs hB h
 split
 ·exact callG_bd hg hq hs hB h
 split
 ·dsimp only [foldG]
  exact hg _ _ _ _ B (by omega) (Bd.name' (A:=q+B+1) (Bd.name' (A:=q+B+2) (Bd.node (A:=q+B+3) (hg _ _ _ _ _ (by omega) (hg _ _ _ s (q+(q+B+3)) (by omega) (h.mono (by omega)))) (by omega)) (by omega)) (by omega))
 ·exact opG_bd hg hq hs hB (h.mono (by omega))
theorem exprStep_bd {q : Int} {g : GX} {c : MkC} (hg : GBd q g) (hq : 1≤q) (hs : Short c.p) : GBd (9 * q) (exprStep c g):=by
 intro t env d s B hB h
 have h1 : Bd (4 * q+4+B) (numG c 65536 s).2:=h.num (by omega)
 unfold exprStep
 dsimp only
 generalize (if (numG c 65536 s).2.left≤0 then min d 0 else d) = dd
 split
 ·dsimp only [varG]
  exact Bd.node (A:=4 * q+4+B) h1 (by omega)
 split
 ·exact litG_bd hg hq hs hB (h1.mono (by omega))
 ·exact restG_bd hg hq hs hB h1
theorem exprG_bd {c : MkC} (hs : Short c.p) : ∀ n : Nat,GBd (9 ^ n) (exprG c n)
 | 0=>fun t env d s B hB h=>h.mono (by have e : (9 : Int) ^ 0 = 1:=rfl;omega)
 | n+1=>by
  have h:=exprStep_bd (exprG_bd hs n) (Int.pow_pos (by decide)) hs
  rw [show (9 : Int) ^ (n+1) = 9 * 9 ^ n by rw [Int.pow_succ,Int.mul_comm]]
  exact h
structure GenOk (p : ProgT) (R : Nat) : Prop where
 short : Short p
 kase : ∀ d∈p.defs,d.kind = 1→0 < d.slots.length
 slot : ∀ d∈p.defs,∀ s∈d.slots,wfT p R s.ty
 res : ∀ d∈p.defs,d.kind = 2→wfT p R d.result
 own : ∀ d∈p.defs,d.kind = 0∨d.kind = 1→wfT p R (ofT d.id)
 R2 : 2≤R
def okT (p : ProgT) (R n : Nat) (t : Ty) (depth : Int) : Prop:=(depth≤0∧wfT p n t)∨(0 < depth∧wfT p R t∧(R : Int)+depth≤n)
theorem okT.wf {p : ProgT} {R n : Nat} {t : Ty} {depth : Int} (h : okT p R n t depth) : wfT p n t:=by
 rcases h with h | h
 ·exact h.2
 ·exact wfT_mono (by omega) h.2.1
theorem okT.pos {p : ProgT} {R n : Nat} {t : Ty} {depth : Int} (h : okT p R n t depth) : 0 < n:=by
 have:=h.wf
 cases n with
 | zero=>exact this.elim
 | succ n=>omega
theorem okT.any {p : ProgT} {R n : Nat} {t u : Ty} {depth : Int} (h : okT p R (n+1) t depth) (h0 : 0 < depth) (hu : wfT p R u) {j : Int} (hj : 1≤j) : okT p R n u (depth - j):=by
 rcases h with h | h
 ·omega
 ·by_cases h1 : depth - j≤0
  ·exact .inl ⟨h1,wfT_mono (by omega) hu⟩
  ·exact .inr ⟨by omega,hu,by omega⟩
theorem okT.part {p : ProgT} {R n : Nat} {t u : Ty} {depth : Int} (h : okT p R (n+1) t depth) (hu : ∀ m,wfT p (m+1) t→wfT p m u) : okT p R n u (depth - 1):=by
 by_cases h0 : 0 < depth
 ·rcases h with h1 | h1
  ·omega
  ·exact okT.any (.inr h1) h0 (hu R (wfT_mono (by omega) h1.2.1)) (by omega)
 ·rcases h with h1 | h1
  ·exact .inl ⟨by omega,hu n h1.2⟩
  ·omega
theorem okT.low {p : ProgT} {R n : Nat} {t : Ty} {depth : Int} (h : okT p R n t depth) : okT p R n t (min depth 0):=.inl ⟨by omega,h.wf⟩
end Xe

namespace Xe
open Go
abbrev envD (env : List Bnd) : D:=.sl env.length 9 (env.flatMap Bnd.enc)
theorem wf_list0 {p : ProgT} {R : Nat} (h : 2≤R) : wfT p R (listT ty0):=wfT_mono h (wfT_listT (wfT_num p 0))
theorem fit_mem {env : List Bnd} {t : Ty} {b : Bnd} (h : b∈fitG env t) : b∈env:=(List.mem_filter.1 h).1
def dpt (s1 : MkS) (depth : Int) : Int:=if s1.left≤0 then min depth 0 else depth
theorem dpt_ok {p : ProgT} {R n : Nat} {t : Ty} {s1 : MkS} {depth : Int} (h : okT p R n t depth) : okT p R n t (dpt s1 depth):=by
 unfold dpt
 split
 ·exact h.low
 ·exact h
theorem exprG_succ (c : MkC) (n : Nat) (t : Ty) (env : List Bnd) (depth : Int) (s : MkS) : exprG c (n+1) t env depth s =
  if 0 < (fitG env t).length∧(dpt (numG c 65536 s).2 depth≤0∨(numG c 65536 s).1.tmod 3 = 0) then varG ((fitG env t).getD (((numG c 65536 s).1.tdiv 3).tmod (fitG env t).length).toNat default) (numG c 65536 s).2
  else if dpt (numG c 65536 s).2 depth≤0 then litG c (exprG c n) t env ((numG c 65536 s).1.tdiv 3) (dpt (numG c 65536 s).2 depth) (numG c 65536 s).2
  else restG c (exprG c n) t env (((numG c 65536 s).1.tdiv 3).tmod 12) ((numG c 65536 s).1.tdiv 36) (dpt (numG c 65536 s).2 depth) (numG c 65536 s).2:=rfl
end Xe

namespace Xe
open Go
mutual
def Ex.post : Ex→List Int
 | .mk i _ _ _ _ l _=>Ex.posts l++[i.index]
def Ex.posts : List Ex→List Int
 | []=>[]
 | e::es=>e.post++Ex.posts es
end
theorem Ex.post_eq (e : Ex) : e.post = Ex.posts e.kids++[e.id.index]:=by cases e;rw [Ex.post];rfl
theorem Ex.posts_append : ∀ (l m : List Ex),Ex.posts (l++m) = Ex.posts l++Ex.posts m
 | [],m=>by simp [Ex.posts]
 | x::xs,m=>by rw [List.cons_append,Ex.posts,Ex.posts,Ex.posts_append xs m,List.append_assoc]
theorem Ex.posts_succ (l : List Ex) (k : Nat) (h : k < l.length) : Ex.posts (l.take (k+1)) = Ex.posts (l.take k)++l[k].post:=by
 rw [List.take_succ_eq_append_getElem h,Ex.posts_append]
 simp [Ex.posts]
mutual
theorem Ex.post_len : ∀ e : Ex,e.post.length = e.size
 | .mk i k n r t l s=>by rw [Ex.post,Ex.size,List.length_append,Ex.posts_len l];simp;omega
theorem Ex.posts_len : ∀ l : List Ex,(Ex.posts l).length = Ex.sizes l
 | []=>by simp [Ex.posts,Ex.sizes]
 | e::es=>by rw [Ex.posts,Ex.sizes,List.length_append,Ex.post_len e,Ex.posts_len es]
end
def idAt (ids : List IdT) (z : Int) : IdT:=ids.getD z.toNat default
def refAt (ids : List IdT) (k : Int) (r : IdT) : IdT:=if k = 2∧r.seq = 0 then idAt ids r.index else r
mutual
def renE (ids : List IdT) : Ex→Ex
 | .mk i k n r t l s=>.mk (idAt ids i.index) k n (refAt ids k r) t (renL ids l) s
def renL (ids : List IdT) : List Ex→List Ex
 | []=>[]
 | e::es=>renE ids e::renL ids es
end
theorem renE_eq (ids : List IdT) (e : Ex) : renE ids e = .mk (idAt ids e.id.index) e.kind e.n (refAt ids e.kind e.ref) e.ty (renL ids e.kids) e.names:=by cases e;rw [renE];rfl
theorem renL_map (ids : List IdT) : ∀ l : List Ex,renL ids l = l.map (renE ids)
 | []=>by simp [renL]
 | e::es=>by rw [renL,renL_map ids es,List.map_cons]
mutual
def inB (m : Int) : Ex→Prop
 | .mk i k _ r _ l _=>(0≤i.index∧i.index < m)∧(k = 2∧r.seq = 0→0≤r.index∧r.index < m)∧inBs m l
def inBs (m : Int) : List Ex→Prop
 | []=>True
 | e::es=>inB m e∧inBs m es
end
theorem inB_eq (m : Int) (e : Ex) : inB m e↔(0≤e.id.index∧e.id.index < m)∧(e.kind = 2∧e.ref.seq = 0→0≤e.ref.index∧e.ref.index < m)∧inBs m e.kids:=by cases e;rw [inB];rfl
theorem inBs_mem {m : Int} : ∀ {l : List Ex} {e : Ex},inBs m l→e∈l→inB m e
 | x::xs,e,h,he=>by
  rw [inBs] at h
  rcases List.mem_cons.1 he with rfl | he
  ·exact h.1
  ·exact inBs_mem h.2 he
theorem idAt_eq {ids : List IdT} {k : Nat} {z : Int} (h : z = (k : Int)) (hk : k < ids.length) : idAt ids z = ids[k]:=by
 unfold idAt
 rw [h,Int.toNat_natCast,List.getD_eq_getElem?_getD,List.getElem?_eq_getElem hk]
 rfl
end Xe

namespace Xe
open Go
def simL (a b : Ty) : List Ty:=[ty0,.mk 1 id0 [],listT ty0,a,b,ty0]
def simTy (n : Int) (a b : Ty) : Ty:=(simL a b).getD (around n 6).toNat ty0
abbrev tyL : Ty:=.mk 1 id0 []
def inT1 (a : Int) : Ty:=if a = 1 then tyL else ty0
def inT2 (a : Int) : Ty:=if a = 2 then listT ty0 else inT1 a
def inT (a : Int) (T : Ty) : Ty:=if a = 3 then T else inT2 a
def inZ1 (l : List Int) (i a : Int) : Int:=if a = 1 then 0 else 1+atL l (i+1) 3
def inZ2 (l : List Int) (i a : Int) : Int:=if a = 2 then 1+atL l (i+1) 2 else inZ1 l i a
def inZ (l : List Int) (i a : Int) : Int:=if a = 3 then 1 else inZ2 l i a
def in1 (c : Int) : List Ty:=if c = 1 then [ty0] else []
def in1Z (c : Int) : List Int:=if c = 1 then [1] else []
def in2 (c : Int) : List Ty:=if c = 2 then [tyL] else in1 c
def in2Z (c : Int) : List Int:=if c = 2 then [0] else in1Z c
def inTs (l : List Int) (i : Int) (T : Ty) : List Ty:=inT (atL l i 5) T::in2 (atL l (i+2) 3)
def inZs (l : List Int) (i : Int) : List Int:=inZ l i (atL l i 5)::in2Z (atL l (i+2) 3)
theorem inZ_rng (l : List Int) (i a : Int) : 0≤inZ l i a∧inZ l i a≤3:=by
 have h2:=atL_lt l (i+1) 2 (by omega)
 have h3:=atL_lt l (i+1) 3 (by omega)
 unfold inZ inZ2 inZ1
 split
 ·omega
 split
 ·omega
 split <;> omega
theorem in2_len (c : Int) : (in2 c).length = (in2Z c).length:=by
 unfold in2 in2Z in1 in1Z
 split
 ·rfl
 split <;> rfl
theorem in2_len1 (c : Int) : (in2 c).length≤1:=by
 unfold in2 in1
 split
 ·simp
 split <;> simp
end Xe

namespace Xe
open Go
structure PlanT where
 kind : Int
 name : ByteArray
 types : List Ty
 names : List ByteArray
 bases : List Int
 result : Ty
 mod : Int
def PlanT.enc (p : PlanT) : List D:=[dint p.kind,dstr p.name,.sl p.types.length 5 (p.types.flatMap Ty.enc),dstrs p.names,dints p.bases]++p.result.enc++[dint p.mod]
theorem PlanT.enc_len (p : PlanT) : p.enc.length = 11:=by rw [PlanT.enc,Ty.enc_eq];rfl
abbrev nPoint : ByteArray:=⟨#[80,111,105,110,116]⟩
abbrev nEvent : ByteArray:=⟨#[69,118,101,110,116]⟩
abbrev nState : ByteArray:=⟨#[83,116,97,116,101]⟩
abbrev nOut : ByteArray:=⟨#[79,117,116]⟩
abbrev n_a : ByteArray:=⟨#[97]⟩
abbrev n_b : ByteArray:=⟨#[98]⟩
abbrev n_c : ByteArray:=⟨#[99]⟩
abbrev n_e : ByteArray:=⟨#[101]⟩
abbrev n_f : ByteArray:=⟨#[102]⟩
abbrev n_g : ByteArray:=⟨#[103]⟩
abbrev n_s : ByteArray:=⟨#[115]⟩
abbrev n_t : ByteArray:=⟨#[116]⟩
abbrev n_x : ByteArray:=⟨#[120]⟩
abbrev n_y : ByteArray:=⟨#[121]⟩
abbrev n_z : ByteArray:=⟨#[122]⟩
abbrev nTick : ByteArray:=⟨#[84,105,99,107]⟩
abbrev nPush : ByteArray:=⟨#[80,117,115,104]⟩
abbrev nSet : ByteArray:=⟨#[83,101,116]⟩
abbrev nCount : ByteArray:=⟨#[99,111,117,110,116]⟩
abbrev nLog : ByteArray:=⟨#[108,111,103]⟩
abbrev nMore : ByteArray:=⟨#[109,111,114,101]⟩
abbrev nstate : ByteArray:=⟨#[115,116,97,116,101]⟩
abbrev nSignals : ByteArray:=⟨#[115,105,103,110,97,108,115]⟩
abbrev nNext : ByteArray:=⟨#[110,101,120,116]⟩
abbrev nStep : ByteArray:=⟨#[115,116,101,112]⟩
abbrev nOld : ByteArray:=⟨#[111,108,100]⟩
def isFive (l : List Int) : Bool:=decide (0 < atL l 1 4)
abbrev tyD (n : Int) : Ty:=ofT (idK n)
def simTs (l : List Int) (q : Int) (m : Int) (T : Ty) (k : Nat) : List Ty:=(List.range k).map fun (i : Nat)=>simTy (atL l (q+(i : Int)) m) T T
theorem simTs_succ (l : List Int) (q m : Int) (T : Ty) (k : Nat) : simTs l q m T (k+1) = simTs l q m T k++[simTy (atL l (q+(k : Int)) m) T T]:=by
 simp [simTs,List.range_succ]
theorem simTs_len (l : List Int) (q m : Int) (T : Ty) (k : Nat) : (simTs l q m T k).length = k:=by simp [simTs]
def pPoint (l : List Int) (n : Int) : PlanT:=⟨0,nPoint,simTs l 3 3 (tyD n) (1+(atL l 2 3).toNat),[n_x,n_y,n_z],[],ty0,0⟩
def pEvent (l : List Int) (n : Int) : PlanT:=⟨1,nEvent,ty0::simTs l 7 4 (tyD n) (1+(atL l 6 2).toNat),[nTick,nPush,nSet],[],ty0,0⟩
def pState (l : List Int) (n : Int) : PlanT:=⟨0,nState,ty0::simTs l 10 4 (tyD n) (atL l 9 3).toNat,[nCount,nLog,nMore],[],ty0,0⟩
def pOut (n : Int) : PlanT:=⟨0,nOut,[tyD (n+2),listT ty0,ty0],[nstate,nSignals,nNext],[],ty0,0⟩
def tyS (l : List Int) (n : Int) : Ty:=if isFive l then tyD (n+2) else tyD n
def fTys (l : List Int) (n : Int) : List Ty:=simTy (atL l 12 6) (tyD n) (tyD (n+1))::(if atL l 13 2 = 1 then [simTy (atL l 14 6) (tyD n) (tyD (n+1))] else [])
def fRes (l : List Int) (n : Int) : Ty:=simTy (atL l 16 6) (tyD n) (tyD n)
def pF (l : List Int) (n : Int) : PlanT:=⟨2,n_f,fTys l n,[n_a,n_b],[],fRes l n,atL l 15 n⟩
def pStep (n : Int) : PlanT:=⟨3,nStep,[tyD (n+2),tyD (n+1)],[n_s,n_e],[],tyD (n+3),n - 1⟩
def pG (l : List Int) (n : Int) : PlanT:=⟨2,n_g,[tyD (n+1)],[n_e],[],simTy (atL l 17 6) (tyD n) (tyD (n+1)),n - 1⟩
def pT (l : List Int) (n : Int) : PlanT:=⟨4,n_t,inTs l 18 (tyD n),[n_a,n_b],inZs l 18,simTy (atL l 21 6) (tyD n) (fRes l n),n - 1⟩
def pC (l : List Int) (n : Int) : PlanT:=⟨5,n_c,[tyS l n],[nOld],[],simTy (atL l 23 6) (tyD n) (tyS l n),n - 1⟩
def plans2 (l : List Int) (n : Int) : List PlanT:=[pPoint l n,pEvent l n]
def plans3 (l : List Int) (n : Int) : List PlanT:=plans2 l n++(if isFive l then [pState l n,pOut n] else [])
def plans5 (l : List Int) (n : Int) : List PlanT:=plans3 l n++[pF l n]++[if isFive l then pStep n else pG l n]
def plansP (l : List Int) (n : Int) : List PlanT:=plans5 l n++[pT l n]++(if 0 < atL l 22 4 then [pC l n] else [])
end Xe

namespace Xe
open Go
def nMods (l : List Int) : Int:=1+atL l 0 2
def pSlots (p : PlanT) (next : Int) : List SlotT :=
 (List.range p.types.length).map fun (j : Nat)=>⟨idK (next+(j : Int)),p.names.getD j ByteArray.empty,p.types.getD j ty0,if p.kind = 4 then p.bases.getD j 0 else 0,(j : Int)⟩
def pDef (p : PlanT) (i next : Int) : DefT:=⟨idK i,p.kind,idK p.mod,p.name,pSlots p next,p.result,ex0,0,[]⟩
def pDefs : List PlanT→Int→Int→List DefT
 | [],_,_=>[]
 | p::ps,i,next=>pDef p i next::pDefs ps (i+1) (next+p.types.length)
theorem pDefs_len : ∀ (ps : List PlanT) (i next : Int),(pDefs ps i next).length = ps.length
 | [],_,_=>rfl
 | _::ps,_,_=>by rw [pDefs,List.length_cons,pDefs_len ps,List.length_cons]
end Xe

namespace Pm
open Go Xe
theorem el_Df (xs : List DefT) {k : Nat} (hk : k < xs.length) : el (xs.flatMap DefT.enc) 31 k = xs[k].enc:=el_flat DefT.enc_len xs hk
theorem el_Sl (xs : List SlotT) {k : Nat} (hk : k < xs.length) : el (xs.flatMap SlotT.enc) 11 k = xs[k].enc:=el_flat SlotT.enc_len xs hk
theorem el_Bn (xs : List Bnd) {k : Nat} (hk : k < xs.length) : el (xs.flatMap Bnd.enc) 9 k = xs[k].enc:=el_flat Bnd.enc_len xs hk
theorem el_Md (xs : List ModT) {k : Nat} (hk : k < xs.length) : el (xs.flatMap ModT.enc) 6 k = xs[k].enc:=el_flat ModT.enc_len xs hk
theorem el_Id (xs : List IdT) {k : Nat} (hk : k < xs.length) : el (xs.flatMap IdT.enc) 3 k = xs[k].enc:=el_flat (enc:=IdT.enc) (fun _=>rfl) xs hk
theorem el_Pl (xs : List PlanT) {k : Nat} (hk : k < xs.length) : el (xs.flatMap PlanT.enc) 11 k = xs[k].enc:=el_flat PlanT.enc_len xs hk
theorem id_eq (a b : IdT) : (a.shop = b.shop∧a.seq = b.seq∧a.index = b.index) = (a = b):=propext ⟨fun h=>IdT.ext' h.1 h.2.1 h.2.2,fun h=>by rw [h];exact ⟨rfl,rfl,rfl⟩⟩
theorem ifK_nd (p : Prop) (_ : Decidable p) (k h : Prop) : ifK (!decide p) k h = ((p→h)∧(¬ p→k)):=by
 by_cases hp : p <;> simp [ifK,hp]
theorem pms : (∀ (d : D) (ds : List D) (o n : Nat),sub (d::ds) (o+1) n = sub ds o n)∧(∀ (d : D) (ds : List D) (n : Nat),sub (d::ds) 0 (n+1) = d::sub ds 0 n)∧(∀ (ds : List D),sub ds 0 0 = []) ∧
  (∀ (p : Prop) (_ : Decidable p) (k h : Prop),ifK (!decide p) k h = ((p→h)∧(¬ p→k))) ∧
  (∀ (t : Ty) (o n : Nat),sub t.enc o n = sub [dint t.kind,dint t.df.shop,dint t.df.seq,dint t.df.index,.sl t.kids.length 5 (t.kids.flatMap Ty.enc)] o n) ∧
  (∀ (b : Bnd) (i : Nat),cell b.enc i = cell [dint b.id.shop,dint b.id.seq,dint b.id.index,dint b.n,dint b.ty.kind,dint b.ty.df.shop,dint b.ty.df.seq,dint b.ty.df.index,.sl b.ty.kids.length 5 (b.ty.kids.flatMap Ty.enc)] i) ∧
  (∀ (b : Bnd),sub b.enc 4 5 = b.ty.enc)∧(∀ (b : Bnd),sub b.enc 0 3 = b.id.enc) ∧
  (∀ (x : SlotT),sub x.enc 4 5 = x.ty.enc)∧(∀ (x : SlotT),sub x.enc 0 3 = x.id.enc) ∧
  (∀ (x : DefT),sub x.enc 0 3 = x.id.enc)∧(∀ (x : DefT),sub x.enc 4 3 = x.mod.enc)∧(∀ (x : DefT),sub x.enc 9 5 = x.result.enc)∧(∀ (x : DefT),sub x.enc 14 15 = x.body.enc) ∧
  (∀ (x : DefT),cell x.enc 3 = dint x.kind)∧(∀ (x : DefT),cell x.enc 8 = .sl x.slots.length 11 (x.slots.flatMap SlotT.enc))∧(∀ (x : ModT),sub x.enc 0 3 = x.id.enc) ∧
  (∀ (x : IdT) (i : Nat),cell x.enc i = cell [dint x.shop,dint x.seq,dint x.index] i)∧(∀ a b : IdT,(a.shop = b.shop∧a.seq = b.seq∧a.index = b.index) = (a = b))∧(∀ e : Ex,sub e.enc 5 3 = e.ref.enc)∧(∀ e : Ex,sub e.enc 0 3 = e.id.enc)∧(∀ e : Ex,sub e.enc 8 5 = e.ty.enc):=by
 refine ⟨fun _ _ _ _=>rfl,fun _ _ _=>rfl,fun _=>rfl,fun _ _ _ _=>ifK_nd _ _ _ _,fun t o n=>by rw [Ty.enc_eq],fun _ _=>rfl,fun b=>by rw [Ty.enc_eq];rfl,fun _=>rfl,fun b=>by rw [Ty.enc_eq];rfl,fun _=>rfl,fun _=>rfl,fun _=>rfl,fun b=>by rw [Ty.enc_eq];rfl,fun b=>by rw [Ex.enc_eq];rfl,fun _=>rfl,fun _=>rfl,fun _=>rfl,fun _ _=>rfl,id_eq,fun e=>by rw [Ex.enc_eq];rfl,fun e=>by rw [Ex.enc_eq];rfl,fun e=>by rw [Ex.enc_eq,Ty.enc_eq];rfl⟩
def mkL (c : MkC) (s : MkS) : List D:=[.sl c.p.mods.length 6 (c.p.mods.flatMap ModT.enc),dints c.l,vI s.pos,vI s.temp,vI s.left,vI c.own,vI c.home.shop,vI c.home.seq,vI c.home.index,vI s.name]
def dfL (c : MkC) : List D:=[.sl c.p.defs.length 31 (c.p.defs.flatMap DefT.enc)]
def exL (e : Ex) : List D:=[dint e.id.shop,dint e.id.seq,dint e.id.index,dint e.kind,dint e.n,dint e.ref.shop,dint e.ref.seq,dint e.ref.index,dint e.ty.kind,dint e.ty.df.shop,dint e.ty.df.seq,dint e.ty.df.index,
  .sl e.ty.kids.length 5 (e.ty.kids.flatMap Ty.enc),.sl e.kids.length 15 (e.kids.flatMap Ex.enc)]
def nmL (e : Ex) : List D:=[dstrs e.names]
theorem jn_to {X : (St'→Prop)→Prop} {k : St'→Prop} (r : St') (h : X fun st=>st = r) (hk : k r) : jn X k:=⟨_,h,fun _ e=>e ▸ hk⟩
def mkR (c : MkC) (r : Ex×MkS) : St':=[exL r.1,nmL r.1,mkL c r.2,dfL c]
theorem pmg : (∀ c s,mkL c s = [.sl c.p.mods.length 6 (c.p.mods.flatMap ModT.enc),dints c.l,vI s.pos,vI s.temp,vI s.left,vI c.own,vI c.home.shop,vI c.home.seq,vI c.home.index,vI s.name]) ∧
  (∀ c,dfL c = [.sl c.p.defs.length 31 (c.p.defs.flatMap DefT.enc)])∧(∀ e,nmL e = [.sl e.names.length 1 (e.names.map dstr)]) ∧
  (∀ e,exL e = [dint e.id.shop,dint e.id.seq,dint e.id.index,dint e.kind,dint e.n,dint e.ref.shop,dint e.ref.seq,dint e.ref.index,dint e.ty.kind,dint e.ty.df.shop,dint e.ty.df.seq,dint e.ty.df.index,.sl e.ty.kids.length 5 (e.ty.kids.flatMap Ty.enc),.sl e.kids.length 15 (e.kids.flatMap Ex.enc)]) ∧
  (∀ c r,mkR c r = [exL r.1,nmL r.1,mkL c r.2,dfL c]):=⟨fun _ _=>rfl,fun _=>rfl,fun _=>rfl,fun _=>rfl,fun _ _=>rfl⟩
structure Ctx (c : MkC) (R : Nat) : Prop where
 gen : GenOk c.p R
 li : ∀ x∈c.l,InI x
 m0 : 0 < c.p.mods.length
 d0 : 0 < c.p.defs.length
 d1 : c.p.defs.length≤100
 sty : ∀ d∈c.p.defs,∀ x∈d.slots,x.ty.size≤1000
 rty : ∀ d∈c.p.defs,d.result.size≤1000
structure Fit (c : MkC) (R n : Nat) (t : Ty) (env : List Bnd) (depth : Int) : Prop where
 e0 : 0 < env.length
 e1 : env.length+2 * n≤1000
 ew : ∀ b∈env,wfT c.p R b.ty
 es : ∀ b∈env,b.ty.size≤1000
 ts : t.size≤1000
 ok : okT c.p R n t depth
 dp : (n : Int) - 1000≤depth∧depth≤1000
theorem Fit.kid {c : MkC} {R n : Nat} {t : Ty} {env : List Bnd} {depth : Int} (h : Fit c R (n+1) t env depth) {u : Ty} (hu : ∀ m,wfT c.p (m+1) t→wfT c.p m u) (hs : u.size≤1000) : Fit c R n u env (depth - 1) :=
 ⟨h.e0,by have:=h.e1;omega,h.ew,h.es,hs,h.ok.part hu,by have:=h.dp;omega⟩
theorem Fit.any {c : MkC} {R n : Nat} {t : Ty} {env : List Bnd} {depth : Int} (h : Fit c R (n+1) t env depth) (h0 : 0 < depth) {u : Ty} (hu : wfT c.p R u) (hs : u.size≤1000) {j : Int} (hj : 1≤j) (hj2 : j≤2) : Fit c R n u env (depth - j) :=
 ⟨h.e0,by have:=h.e1;omega,h.ew,h.es,hs,h.ok.any h0 hu hj,by have:=h.dp;have:=h.e1;omega⟩
theorem Fit.wt {c : MkC} {R n : Nat} {t : Ty} {env : List Bnd} {depth : Int} (h : Fit c R n t env depth) (h0 : 0 < depth) : wfT c.p R t:=by
 rcases h.ok with h1 | h1
 ·omega
 ·exact h1.2.1
theorem Fit.more {c : MkC} {R n : Nat} {t : Ty} {env : List Bnd} {depth : Int} (h : Fit c R n t env depth) {b : Bnd} (hw : wfT c.p R b.ty) (hs : b.ty.size≤1000) (hl : env.length+1+2 * n≤1000) : Fit c R n t (env++[b]) depth :=
 ⟨by simp,by simp;omega,fun x hx=>by
  rcases List.mem_append.1 hx with hx | hx
  ·exact h.ew x hx
  ·rw [List.mem_singleton.1 hx];exact hw,fun x hx=>by
  rcases List.mem_append.1 hx with hx | hx
  ·exact h.es x hx
  ·rw [List.mem_singleton.1 hx];exact hs,h.ts,h.ok,h.dp⟩
theorem wf_simple {p : ProgT} {R : Nat} (hR : 2≤R) {t : Ty} (h : t.kind = 0∨t.kind = 1) : wfT p R t:=by
 obtain ⟨m,rfl⟩ : ∃ m,R = m+1:=⟨R - 1,by omega⟩
 rw [wfT]
 rcases h with h | h
 ·exact .inl h
 ·exact .inr (.inl h)
theorem ty0_enc : ty0.enc = [vI 0,vI 0,vI 0,vI 0,.sl 0 5 []]:=by rw [Ty.enc_eq];rfl
theorem lt0_enc : (listT ty0).enc = [vI 2,vI 0,vI 0,vI 0,.sl 1 5 [vI 0,vI 0,vI 0,vI 0,.sl 0 5 []]]:=by
 rw [Ty.enc_eq]
 show [dint 2,dint 0,dint 0,dint 0,.sl 1 5 ([ty0].flatMap Ty.enc)] = _
 simp [ty0_enc]
theorem ty1_enc : (Ty.mk 1 id0 []).enc = [vI 1,vI 0,vI 0,vI 0,.sl 0 5 []]:=by rw [Ty.enc_eq];rfl
theorem headD_eq {α : Type} {l : List α} {d : α} (h : 0 < l.length) : l.headD d = l[0]:=by
 cases l with
 | nil=>cases h
 | cons a l=>rfl
theorem tmod_pos {z n : Int} (hz : 0≤z) : z.tmod n = z % n:=Int.tmod_eq_emod_of_nonneg hz
theorem tdiv_pos {z n : Int} (hz : 0≤z) : z.tdiv n = z / n:=Int.tdiv_eq_ediv_of_nonneg hz
end Pm

namespace Go.Proofs.YtanbipbiblikbaaDoor
open Xe Pm
abbrev IS:=Pm.Is Tryd.prog
theorem around_is {z n : Int} (hn : 1≤n) (hz : InI z) : IS s16 [[vI z],[vI n]] [[vI (around z n)]]:=by
 refine is16 ?_
 unfold g16
 simp only [pmr]
 refine jn_of ?_
 simp only [pmr]
 rw [around_eq z n hn]
 unfold okI InI at *
 refine ⟨fun h=>⟨by omega,by omega,by omega,?_⟩,fun h=>⟨by omega,?_⟩⟩
 ·rw [if_pos h]
 ·rw [if_neg h]
theorem ID_is {z : Int} (h0 : 0≤z) (hz : InI z) : IS s39 [[vI z]] [(idK z).enc]:=by
 refine is39 ?_
 unfold g39
 simp only [pmr]
 unfold okI InI at *
 have e:=tdiv_pos (n:=32) h0
 refine ⟨⟨by decide,by omega,by omega⟩,by omega,by decide,?_⟩
 rfl
theorem At_is {l : List Int} {i n : Int} (hn : 1≤n) (hl : ∀ x∈l,InI x) : IS s40 [[dints l],[vI i],[vI n]] [[vI (atL l i n)]]:=by
 refine is40 ?_
 unfold g40 dints atL
 simp only [pmr]
 refine ⟨fun h=>by rw [if_pos (.inl h)],fun h=>⟨fun h1=>by rw [if_pos (.inr h1)],fun h1=>⟨by omega,?_⟩⟩⟩
 have hk : i.toNat < l.length:=by omega
 rw [el_map l hk]
 simp only [pmr]
 refine caK_of (around_is hn (hl _ (List.getElem_mem hk))) ?_
 simp only [pmr]
 rw [if_neg (by omega),List.getD_eq_getElem?_getD,List.getElem?_eq_getElem hk]
 rfl
section
variable {c : MkC} {s : MkS}
theorem num_is {n : Int} (hn : 1≤n) (hl : ∀ x∈c.l,InI x) (hb : Bd 1 s) : IS s77 [[vI n],mkL c s,dfL c] [[vI (numG c n s).1],mkL c (numG c n s).2,dfL c]:=by
 refine is77 ?_
 unfold g77 mkL dfL
 simp only [pmr]
 unfold okI Bd at *
 refine ⟨by omega,by omega,?_⟩
 refine caK_of (At_is hn hl) ?_
 simp only [pmr,numG,Int.add_sub_cancel]
theorem node_is {k n : Int} {kids : List Ex} (hb : Bd 1 s) : IS s81 [[vI k],[vI n],[.sl kids.length 15 (kids.flatMap Ex.enc)],mkL c s,dfL c] (mkR c (nodeG k n kids s)):=by
 refine is81 ?_
 unfold g81 mkL dfL
 simp only [pmr]
 unfold okI Bd at *
 refine ⟨by omega,by omega,by omega,?_⟩
 simp only [nodeG,Int.add_sub_cancel]
 rfl
theorem name_is (hb : Bd 1 s) : IS s82 [mkL c s,dfL c] [[vS (nameG s).1],mkL c (nameG s).2,dfL c]:=by
 refine is82 ?_
 unfold g82 mkL dfL
 simp only [pmr]
 unfold okI Bd at *
 obtain ⟨i,j,h1,h2,h3,h4,h5⟩:=nm_rng (k:=s.name+1) (by omega)
 have e2 : (s.name+1).tdiv 3 = (s.name+1) / 3:=tdiv_pos (by omega)
 refine ⟨by omega,by decide,by omega,⟨by decide,by omega⟩,by decide,by omega,?_⟩
 rw [h1,h3,Int.toNat_natCast,Int.toNat_natCast]
 have e1 : cell (el [vS ⟨#[117]⟩,vS ⟨#[118]⟩,vS ⟨#[119]⟩] 1 i) 0 = vS (nm1.getD i ⟨#[]⟩):=by
  rcases i with _ | _ | _ | i <;> first | rfl | omega
 have e3 : cell (el [vS ⟨#[]⟩,vS ⟨#[49]⟩,vS ⟨#[50]⟩,vS ⟨#[51]⟩,vS ⟨#[52]⟩,vS ⟨#[53]⟩,vS ⟨#[54]⟩,vS ⟨#[55]⟩] 1 j) 0 = vS (nm2.getD j ⟨#[]⟩):=by
  rcases j with _ | _ | _ | _ | _ | _ | _ | _ | j <;> first | rfl | omega
 rw [e1,e3]
 simp only [pmr]
 have:=nm1_rng i h2
 have:=nm2_rng j h4
 refine ⟨by omega,?_⟩
 unfold nameG
 rw [h5]
end
end Go.Proofs.YtanbipbiblikbaaDoor

namespace Go.Proofs.YtanbipbiblikbaaDoor
open Xe Pm
theorem List_is (t : Ty) : IS s41 [t.enc] [[vI 2,vI 0,vI 0,vI 0],[.sl 1 5 t.enc]]:=by
 refine is41 ?_
 unfold g41
 simp only [pmr,List.append_nil]
theorem Of_is (i : IdT) : IS s42 [i.enc] [(ofT i).enc]:=by
 refine is42 ?_
 unfold g42
 rw [Ty.enc_eq]
 rfl
theorem Ty.all_eq {a b : Ty} (h1 : a.kind = b.kind) (h2 : a.df = b.df) (h3 : a.kids = b.kids) : a = b:=by
 cases a;cases b
 simp only [Ty.kind,Ty.df,Ty.kids] at h1 h2 h3
 rw [h1,h2,h3]
theorem Ty.sizes_len : ∀ l : List Ty,l.length≤Ty.sizes l
 | []=>Nat.zero_le _
 | t::l=>by
  have:=Ty.sizes_len l
  have : 1≤t.size:=by cases t;simp [Ty.size]
  simp only [List.length_cons,Ty.sizes]
  omega
theorem Ty.kids_lt (a : Ty) : a.kids.length < a.size:=by
 have:=Ty.sizes_len a.kids
 cases a
 simp only [Ty.size,Ty.kids] at *
 omega
theorem Same_is (a b : Ty) (hs : a.size≤1000000000000) : IS s105 [a.enc,b.enc] [[vB (decide (a = b))]]:=by
 refine is105 ?_
 unfold g105
 simp only [pmr,pms]
 refine ⟨fun h1=>⟨fun h2'=>?_,fun h2=>?_⟩,fun h1=>by rw [decide_eq_false (fun e=>h1 (by rw [e]))]⟩
 ·refine ⟨fun h3=>?_,fun h3=>by rw [decide_eq_false (fun e=>h3 (by rw [e]))]⟩
  have h3' : a.kids.length = b.kids.length:=by omega
  refine Lp_to a.kids.length (fun i=>[[vI (i : Int)],a.enc,b.enc]) (fun i=>a.kids.take i = b.kids.take i) (by simp) rfl fun i next hi hI hn=>?_
  simp only [pmr]
  refine ⟨fun h=>?_,fun h=>?_⟩
  ·have hk : i < a.kids.length:=by omega
   have hk' : i < b.kids.length:=by omega
   rw [el_Ty _ hk,el_Ty _ hk']
   have:=Ty.size_kid (List.getElem_mem hk)
   have hl:=Ty.kids_lt a
   refine ⟨by omega,by omega,caK_of (Same_is _ _ (by omega)) ?_⟩
   simp only [pmr,pms]
   refine ⟨fun e=>⟨by unfold okI;omega,hn hk ?_⟩,fun e=>?_⟩
   ·rw [List.take_succ_eq_append_getElem hk,List.take_succ_eq_append_getElem hk',hI,e]
   ·rw [decide_eq_false (fun e'=>e (by subst e';rfl))]
  ·obtain rfl : i = a.kids.length:=by omega
   have e : a.kids = b.kids:=by
    rw [List.take_length] at hI
    rw [hI,h3',List.take_length]
   rw [decide_eq_true (Ty.all_eq h1 h2' e)]
 ·rw [decide_eq_false (fun e=>h2 (by rw [e]))]
 termination_by a.size
theorem Def_is (p : ProgT) (i : IdT) (hs : p.defs.length≤1000000000000) (md : D) : IS s58 [[md],i.enc,[.sl p.defs.length 31 (p.defs.flatMap DefT.enc)]] [(theDef p i).enc,[vB (decide (hasDef p i))],[.sl p.defs.length 31 (p.defs.flatMap DefT.enc)]]:=by
 refine is58 ?_
 unfold g58
 simp only [pmr]
 refine jn_of ?_
 refine Lp_to p.defs.length (fun k=>[[md],[vI (k : Int)],[.sl p.defs.length 31 (p.defs.flatMap DefT.enc)],[md],i.enc,def0.enc]) (fun k=>∀ j (hj : j < p.defs.length),j < k→p.defs[j].id ≠ i) (fun _ _ h=>absurd h (Nat.not_lt_zero _)) rfl fun k next hi hI hn=>?_
 simp only [pmr,pms]
 refine ⟨fun h=>?_,fun h=>?_⟩
 ·have hk : k < p.defs.length:=by omega
  rw [el_Df _ hk]
  simp only [pmr,pms]
  refine ⟨by omega,fun e=>⟨by omega,?_⟩,fun e=>⟨by unfold okI;omega,hn hk fun j hj h=>?_⟩⟩
  ·obtain ⟨h1,h2⟩:=theDef_hit hk hI e
   rw [h2,decide_eq_true h1]
  ·by_cases e' : j = k
   ·subst e'
    exact e
   ·exact hI j hj (by omega)
 ·obtain rfl : k = p.defs.length:=by omega
  obtain ⟨h1,h2⟩:=theDef_miss fun j hj=>hI j hj hj
  rw [h2,decide_eq_false h1]
  rfl
section
variable {c : MkC} {s : MkS}
theorem visible_is {k : Nat} (hk : k < c.p.defs.length) (hm : 0 < c.p.mods.length) : IS s107 [[vI k],mkL c s,dfL c] [[vB (decide (visP c k))],mkL c s,dfL c]:=by
 refine is107 ?_
 unfold g107 mkL dfL
 simp only [pmr,pms]
 rw [el_Df _ hk,el_Md _ hm]
 simp only [pmr,pms]
 have e1:=defA_eq hk
 have e2:=modA_eq hm
 refine ⟨by omega,fun h=>⟨fun h1=>?_,fun h1=>⟨by omega,?_⟩⟩,fun h=>?_⟩
 ·rw [decide_eq_true (show visP c k from ⟨h,.inl (by rw [e1];exact h1)⟩)]
 ·refine congrArg (fun b=>[[vB b],mkL c s,dfL c]) (decide_eq_decide.2 ?_)
  unfold visP
  rw [e1,e2]
  exact ⟨fun h2=>⟨h,.inr h2⟩,fun h2=>h2.2.resolve_left h1⟩
 ·rw [decide_eq_false (fun hv=>h hv.1)]
theorem of_is {kind : Int} {frm : Nat} (hm : 0 < c.p.mods.length) (hd : 0 < c.p.defs.length) (hl : c.p.defs.length≤1000) (hf : frm≤1000000000000) : IS s106 [[vI kind],[vI frm],mkL c s,dfL c] [[vI (ofG c kind frm)],mkL c s,dfL c]:=by
 refine is106 ?_
 unfold g106 mkL dfL
 simp only [pmr]
 refine Lp_to c.p.defs.length (fun i=>[[vI kind],[vI frm],[vI (c.p.defs.length : Int)],[vI (i : Int)],mkL c s,dfL c]) (fun i=>ofG c kind frm = ofFrom c kind frm i (c.p.defs.length - i)) rfl rfl fun i next hi hI hn=>?_
 unfold mkL dfL
 simp only [pmr]
 refine ⟨fun h=>?_,fun h=>?_⟩
 ·have hk : i < c.p.defs.length:=by omega
  have ht : (((frm : Int)+i).tmod (c.p.defs.length : Int)) = ((frm+i) % c.p.defs.length : Nat):=by
   rw [tmod_pos (by omega)];simp
  have hlt : (frm+i) % c.p.defs.length < c.p.defs.length:=Nat.mod_lt _ hd
  rw [ofFrom_step hk] at hI
  refine jn_of ?_
  rw [ht,Int.toNat_natCast,el_Df _ hlt]
  simp only [pmr,pms]
  rw [defA_eq hlt] at hI
  have fin : ofG c kind frm = ofFrom c kind frm (i+1) (c.p.defs.length - (i+1))→okI ((i : Int)+1)∧next [[vI kind],[vI frm],[vI (c.p.defs.length : Int)],[vI ((i : Int)+1)],mkL c s,dfL c]:=fun e=>⟨by unfold okI;omega,hn hk e⟩
  refine ⟨by unfold okI;omega,by omega,by omega,fun h1=>caK_of (visible_is hlt hm) ?_,fun h1=>?_⟩
  ·unfold mkL dfL
   simp only [pmr]
   refine ⟨fun h2=>?_,fun h2=>fin ?_⟩
   ·rw [if_pos ⟨h1,h2⟩] at hI
    rw [hI]
   ·rwa [if_neg (fun h=>h2 h.2)] at hI
  ·refine fin ?_
   rwa [if_neg (fun h=>h1 h.1)] at hI
 ·obtain rfl : i = c.p.defs.length:=by omega
  rw [hI,Nat.sub_self]
  rfl
theorem fitting_is {env : List Bnd} {t : Ty} (ht : ∀ b∈env,b.ty.size≤1000000000000) (hl : env.length≤1000000) : IS s78 [[envD env],t.enc] [[envD (fitG env t)]]:=by
 refine is78 ?_
 unfold g78 envD
 simp only [pmr]
 refine Lp_to env.length (fun i=>[[.sl env.length 9 (env.flatMap Bnd.enc)],[vI (i : Int)],t.enc,[envD (fitG (env.take i) t)]]) (fun _=>True) trivial rfl fun i next hi _ hn=>?_
 unfold envD
 simp only [pmr]
 refine ⟨fun h=>?_,fun h=>?_⟩
 ·have hk : i < env.length:=by omega
  refine jn_of ?_
  rw [el_Bn _ hk]
  simp only [pmr,pms]
  have hf:=fitG_take_succ (t:=t) hk
  have:=fitG_len (l:=env) (t:=t) i
  have hn':=hn hk trivial
  rw [hf] at hn'
  refine ⟨by omega,caK_of (Same_is _ _ (ht _ (List.getElem_mem hk))) ?_⟩
  simp only [pmr]
  refine ⟨fun h1=>?_,fun h1=>?_⟩
  ·rw [if_pos h1] at hn'
   refine ⟨by omega,by unfold room;omega,by unfold okI;omega,?_⟩
   simpa [envD] using hn'
  ·rw [if_neg h1] at hn'
   exact ⟨by unfold okI;omega,hn'⟩
 ·obtain rfl : i = env.length:=by omega
  rw [List.take_length]
theorem var_is {b : Bnd} (hb : Bd 1 s) : IS s79 [b.enc,mkL c s,dfL c] (mkR c (varG b s)):=by
 refine is79 ?_
 unfold g79 mkL dfL
 simp only [pmr,pms]
 refine caK_of (node_is (kids:=[]) hb) ?_
 simp only [pmg,pmr,pms]
 rfl
theorem with_is {env : List Bnd} {b : Bnd} (hl : env.length≤1000000) : IS s83 [[envD env],b.enc] [[envD (env++[b])]]:=by
 refine is83 ?_
 unfold g83 envD
 simp only [pmr]
 refine ⟨by unfold room;omega,by unfold room;omega,?_⟩
 simp
end
end Go.Proofs.YtanbipbiblikbaaDoor

namespace Go.Proofs.YtanbipbiblikbaaDoor
open Xe Pm
def ExIs (c : MkC) (R n : Nat) : Prop:=∀ (t : Ty) (env : List Bnd) (depth : Int) (s : MkS),Fit c R n t env depth→Bd (9 ^ n) s→IS s49 [t.enc,[envD env],[vI depth],mkL c s,dfL c] (mkR c (exprG c n t env depth s))
theorem q1 (n : Nat) : (1 : Int)≤9 ^ n:=Int.pow_pos (by decide)
theorem ids_enc (e : Ex) : [dint e.id.shop,dint e.id.seq,dint e.id.index,dint e.kind,dint e.n,dint e.ref.shop,dint e.ref.seq,dint e.ref.index,dint e.ty.kind,dint e.ty.df.shop,dint e.ty.df.seq,dint e.ty.df.index,
  .sl e.ty.kids.length 5 (e.ty.kids.flatMap Ty.enc),.sl e.kids.length 15 (e.kids.flatMap Ex.enc),.sl e.names.length 1 (e.names.map dstr)] = e.enc:=(Ex.enc_eq e).symm
theorem exs_end (l : List Ex) (e : Ex) : l.flatMap Ex.enc++[dint e.id.shop,dint e.id.seq,dint e.id.index,dint e.kind,dint e.n,dint e.ref.shop,dint e.ref.seq,dint e.ref.index,dint e.ty.kind,dint e.ty.df.shop,dint e.ty.df.seq,dint e.ty.df.index,
  .sl e.ty.kids.length 5 (e.ty.kids.flatMap Ty.enc),.sl e.kids.length 15 (e.kids.flatMap Ex.enc),.sl e.names.length 1 (e.names.map dstr)] = (l++[e]).flatMap Ex.enc:=by rw [ids_enc];simp
def exC (e : Ex) : List D:=[dint e.id.shop,dint e.id.seq,dint e.id.index,dint e.kind,dint e.n,dint e.ref.shop,dint e.ref.seq,dint e.ref.index,dint e.ty.kind,dint e.ty.df.shop,dint e.ty.df.seq,dint e.ty.df.index,
  .sl e.ty.kids.length 5 (e.ty.kids.flatMap Ty.enc),.sl e.kids.length 15 (e.kids.flatMap Ex.enc),.sl e.names.length 1 (e.names.map dstr)]
theorem exC_enc (e : Ex) : exC e = e.enc:=(Ex.enc_eq e).symm
section
variable {c : MkC} {s : MkS} {k n : Int}
theorem node1_is (e : Ex) (hb : Bd 1 s) : IS s81 [[vI k],[vI n],[.sl 1 15 (exC e)],mkL c s,dfL c] (mkR c (nodeG k n [e] s)):=by
 have:=node_is (c:=c) (k:=k) (n:=n) (kids:=[e]) hb
 rw [exC_enc]
 simpa using this
theorem node2_is (e f : Ex) (hb : Bd 1 s) : IS s81 [[vI k],[vI n],[.sl 2 15 (exC e++exC f)],mkL c s,dfL c] (mkR c (nodeG k n [e,f] s)):=by
 have:=node_is (c:=c) (k:=k) (n:=n) (kids:=[e,f]) hb
 rw [exC_enc,exC_enc]
 simpa using this
theorem node3_is (e f g : Ex) (hb : Bd 1 s) : IS s81 [[vI k],[vI n],[.sl 3 15 (exC e++(exC f++exC g))],mkL c s,dfL c] (mkR c (nodeG k n [e,f,g] s)):=by
 have:=node_is (c:=c) (k:=k) (n:=n) (kids:=[e,f,g]) hb
 rw [exC_enc,exC_enc,exC_enc]
 simpa using this
end
section
variable {c : MkC} {R n : Nat} {t : Ty} {env : List Bnd} {x depth : Int} {s : MkS}
theorem kid0_size (h : t.size≤1000) : (t.kids.headD ty0).size≤1000:=by
 cases hk : t.kids with
 | nil=>simp [ty0,Ty.size,Ty.sizes]
 | cons a l =>
  have:=Ty.size_kid (t:=t) (k:=a) (by rw [hk];exact List.mem_cons_self ..)
  show a.size≤1000
  omega
theorem the_sty (hc : Ctx c R) (i : IdT) {z : SlotT} (hz : z∈(theDef c.p i).slots) : z.ty.size≤1000:=by
 rcases theDef_mem c.p i with e | e
 ·rw [e] at hz;cases hz
 ·exact hc.sty _ e _ hz
theorem kidsT_loop (hc : Ctx c R) (hg : ExIs c R n) {d : Int} {ts : List Ty} (st : Nat→List Ex→MkS→St') (z : List Ex×MkS) (hz : kidsT (exprG c n) env d ts s = z) (hb : Bd (ts.length * 9 ^ n+1) s) (hk : ∀ u∈ts,Fit c R n u env d) {B : (St'→Prop)→St'→Prop} {s0 : St'} (e0 : s0 = st 0 [] s)
  (h : ∀ (i : Nat) (dn : List Ex) (s1 : MkS) (next : St'→Prop),i≤ts.length→dn.length = i →
   (∀ hk : i < ts.length,IS s49 [ts[i].enc,[envD env],[vI d],mkL c s1,dfL c] (mkR c (exprG c n ts[i] env d s1))∧next (st (i+1) (dn++[(exprG c n ts[i] env d s1).1]) (exprG c n ts[i] env d s1).2)) →
   (i = ts.length→z.1 = dn∧z.2 = s1)→B next (st i dn s1)) : Lp B s0:=by
 have hq:=q1 n
 refine Lp_on (σ:=Nat×List Ex×MkS) (fun y=>st y.1 y.2.1 y.2.2) (fun y=>ts.length - y.1)
  (fun y=>y.1≤ts.length∧y.2.1.length = y.1∧z = kJ y.2.1 (kidsT (exprG c n) env d (ts.drop y.1) y.2.2)∧Bd ((ts.length - y.1 : Nat) * 9 ^ n+1) y.2.2) (0,[],s) ⟨Nat.zero_le _,rfl,by rw [List.drop_zero,hz];exact kJ_nil z,hb⟩ e0 ?_
 rintro ⟨i,dn,s1⟩ next ⟨hi,hlen,hI,hB⟩ hn
 dsimp only at hi hlen hI hB hn ⊢
 refine h i dn s1 next hi hlen (fun hk1=>?_) (fun he=>?_)
 ·obtain ⟨m,hm⟩ : ∃ m,ts.length - i = m+1:=⟨ts.length - i - 1,by omega⟩
  rw [hm] at hB
  have e1 : ((m+1 : Nat) : Int) * 9 ^ n = m * 9 ^ n+9 ^ n:=by rw [Int.natCast_add,Int.add_mul];simp
  have h5 : (0 : Int)≤m * 9 ^ n:=Int.mul_nonneg (by omega) (by omega)
  refine ⟨hg _ env d s1 (hk _ (List.getElem_mem hk1)) (hB.mono (by omega)),?_⟩
  have hI':=kidsT_step hk1 hI
  have hB':=exprG_bd hc.gen.short n ts[i] env d s1 (m * 9 ^ n+1) (by omega) (hB.mono (by omega))
  exact hn (i+1,_,_) (by dsimp only;omega) ⟨by dsimp only;omega,by simp [hlen],hI',by dsimp only;rw [show ts.length - (i+1) = m by omega];exact hB'⟩
 ·have:=kidsT_end he hI
  rw [this]
  exact ⟨rfl,rfl⟩
theorem lit_is (hc : Ctx c R) (hg : ExIs c R n) (hf : Fit c R (n+1) t env depth) (hx : 0≤x∧x≤1000000) (hb : Bd (3 * 9 ^ n+1) s) : IS s80 [t.enc,[envD env],[vI x],[vI depth],mkL c s,dfL c] (mkR c (litG c (exprG c n) t env x depth s)):=by
 refine is80 ?_
 unfold g80
 have hq:=q1 n
 have e29 : x.tmod 29 = x % 29:=tmod_pos hx.1
 have e9 : x.tmod 9 = x % 9:=tmod_pos hx.1
 have e2 : x.tmod 2 = x % 2:=tmod_pos hx.1
 have e3 : x.tmod 3 = x % 3:=tmod_pos hx.1
 simp only [pmr,pms,pmg,envD]
 refine ⟨fun h0=>?_,fun h0=>⟨fun h1=>?_,fun h1=>⟨fun h2=>?_,fun h2=>?_⟩⟩⟩
 ·refine ⟨by decide,by unfold okI;omega,jn_to [[vI (litN x)],mkL c s,ex0.enc,dfL c] ?_ ?_⟩
  ·simp only [pmr,pmg]
   refine ⟨by decide,fun h=>⟨by decide,by unfold okI;omega,?_⟩,fun h=>?_⟩
   ·unfold litN;rw [if_pos h];rfl
   ·unfold litN;rw [if_neg h];rfl
  ·simp only [pmr,pmg]
   refine caK_of (node_is (kids:=[]) (hb.mono (by omega))) ?_
   simp only [pmr,pmg]
   unfold litG
   rw [if_pos h0]
 ·refine ⟨by decide,caK_of (node_is (kids:=[]) (hb.mono (by omega))) ?_⟩
  simp only [pmr,pmg]
  unfold litG
  rw [if_neg h0,if_pos h1]
 ·have hw:=hf.ok.wf
  obtain ⟨hk0,_⟩:=wfT_list hw h2
  have hd : t.kids.headD ty0 = t.kids[0]:=headD_eq hk0
  have hs0:=kid0_size hf.ts
  have el0:=el_Ty t.kids hk0
  generalize hM : (if 0≤depth then (x.tmod 3).toNat else 0) = M
  have hM3 : M≤3:=by rw [←hM];split <;> omega
  generalize hz : kidsN (exprG c n) (t.kids.headD ty0) env (depth - 1) M s = z
  have hr : litG c (exprG c n) t env x depth s = ((nodeG 11 0 z.1 z.2).1.setTy (t.kids.headD ty0),(nodeG 11 0 z.1 z.2).2):=by
   unfold litG
   rw [if_neg h0,if_neg h1,if_pos h2,hM]
   dsimp only
   rw [hz]
  rw [hr]
  have hzb : Bd 1 z.2:=by
   rw [←hz]
   have:=le3 hM3 (show (0 : Int)≤9 ^ n by omega)
   exact kidsN_bd (exprG_bd hc.gen.short n) hq (by omega) M s (hb.mono (by omega))
  refine jn_to [mkL c z.2,t.enc,ex0.enc,[.sl z.1.length 15 (z.1.flatMap Ex.enc)],dfL c] ?_ ?_
  ·refine Lp_on (σ:=Nat×List Ex×MkS) (fun y=>[[envD env],[vI x],[vI depth],[vI (y.1 : Int)],mkL c y.2.2,t.enc,ex0.enc,[.sl y.2.1.length 15 (y.2.1.flatMap Ex.enc)],dfL c]) (fun y=>M - y.1)
    (fun y=>y.1≤M∧y.2.1.length = y.1∧z = kJ y.2.1 (kidsN (exprG c n) (t.kids.headD ty0) env (depth - 1) (M - y.1) y.2.2)∧Bd ((M - y.1 : Nat) * 9 ^ n+1) y.2.2) (0,[],s) ⟨Nat.zero_le _,rfl,by rw [Nat.sub_zero,hz];exact kJ_nil z,by
     have:=le3 hM3 (show (0 : Int)≤9 ^ n by omega);exact hb.mono (by rw [Nat.sub_zero];omega)⟩ rfl ?_
   rintro ⟨i,dn,s1⟩ next ⟨hi,hlen,hI,hB⟩ hn
   dsimp only at hi hlen hI hB hn ⊢
   simp only [pmr,pmg,envD]
   have stop : (M - i = 0∨¬ 0 < s1.left)→[[.sl c.p.mods.length 6 (c.p.mods.flatMap ModT.enc),dints c.l,vI s1.pos,vI s1.temp,vI s1.left,vI c.own,vI c.home.shop,vI c.home.seq,vI c.home.index,vI s1.name],t.enc,ex0.enc,[.sl dn.length 15 (dn.flatMap Ex.enc)],[.sl c.p.defs.length 31 (c.p.defs.flatMap DefT.enc)]] = [mkL c z.2,t.enc,ex0.enc,[.sl z.1.length 15 (z.1.flatMap Ex.enc)],dfL c]:=fun h=>by
    rw [kidsN_stop hI h];rfl
   refine ⟨by decide,fun h=>⟨fun h3=>⟨fun h4=>?_,fun h4=>stop (.inr h4)⟩,fun h3=>stop (.inl ?_)⟩,fun h=>stop (.inl ?_)⟩
   ·rw [if_pos h3] at hM
    have hiM : i < M:=by omega
    obtain ⟨m,hm⟩ : ∃ m,M - i = m+1:=⟨M - i - 1,by omega⟩
    rw [hm] at hI hB
    have e1 : ((m+1 : Nat) : Int) * 9 ^ n = m * 9 ^ n+9 ^ n:=by rw [Int.natCast_add,Int.add_mul];simp
    have h5 : (0 : Int)≤m * 9 ^ n:=Int.mul_nonneg (by omega) (by omega)
    rw [el0,←hd]
    have hdp:=hf.dp
    refine ⟨by omega,by unfold okI;omega,caK_of (hg _ env (depth - 1) s1 (hf.kid (fun m hm=>(wfT_list hm h2).2) hs0) (hB.mono (by omega))) ?_⟩
    simp only [pmr,pmg]
    have hI':=kidsN_step hI h4
    have hB':=exprG_bd hc.gen.short n (t.kids.headD ty0) env (depth - 1) s1 (m * 9 ^ n+1) (by omega) (hB.mono (by omega))
    generalize exprG c n (t.kids.headD ty0) env (depth - 1) s1 = r at hI' hB' ⊢
    refine ⟨by unfold room;omega,by unfold okI;omega,?_⟩
    have:=hn (i+1,dn++[r.1],r.2) (by dsimp only;omega) ⟨by dsimp only;omega,by simp [hlen],by dsimp only;rw [show M - (i+1) = m by omega];exact hI',by dsimp only;rw [show M - (i+1) = m by omega];exact hB'⟩
    rw [exs_end]
    simpa [pmg,envD] using this
   ·rw [if_neg h3] at hM;omega
   ·split at hM <;> omega
  ·simp only [pmr,pmg]
   refine caK_of (node_is hzb) ?_
   simp only [pmr,pmg]
   refine ⟨by omega,?_⟩
   rw [el0,←hd]
   simp only [pmr]
   rfl
 ·have hw:=hf.ok.wf
  obtain ⟨hw1,hw2,hw3⟩:=wfT_def hw h0 h1 h2
  have hdp:=hf.dp
  have hs3:=hc.gen.short.the t.df
  have hdl:=hc.d1
  refine caK_of (Def_is c.p t.df (by omega) _) ?_
  simp only [pmr,pms]
  refine ⟨fun h3=>?_,fun h3=>?_⟩
  ·have hs0:=hw2 h3
   have hk : caseN (theDef c.p t.df) x depth = ((caseN (theDef c.p t.df) x depth).toNat : Int)∧(caseN (theDef c.p t.df) x depth).toNat < (theDef c.p t.df).slots.length:=by
    have e : x.tmod ((theDef c.p t.df).slots.length : Int) = x % ((theDef c.p t.df).slots.length : Int):=tmod_pos hx.1
    have h1:=Int.emod_nonneg x (show ((theDef c.p t.df).slots.length : Int) ≠ 0 by omega)
    have h2:=Int.emod_lt_of_pos x (show (0 : Int) < (theDef c.p t.df).slots.length by omega)
    unfold caseN
    split <;> omega
   have hr : litG c (exprG c n) t env x depth s = (((nodeG 9 (caseN (theDef c.p t.df) x depth) [(exprG c n ((((theDef c.p t.df).slots.map SlotT.ty).getD (caseN (theDef c.p t.df) x depth).toNat ty0)) env (depth - 1) s).1] (exprG c n ((((theDef c.p t.df).slots.map SlotT.ty).getD (caseN (theDef c.p t.df) x depth).toNat ty0)) env (depth - 1) s).2).1.setRef (theDef c.p t.df).id),(nodeG 9 (caseN (theDef c.p t.df) x depth) [(exprG c n ((((theDef c.p t.df).slots.map SlotT.ty).getD (caseN (theDef c.p t.df) x depth).toNat ty0)) env (depth - 1) s).1] (exprG c n ((((theDef c.p t.df).slots.map SlotT.ty).getD (caseN (theDef c.p t.df) x depth).toNat ty0)) env (depth - 1) s).2).2):=by
    unfold litG
    rw [if_neg h0,if_neg h1,if_neg h2,if_pos h3]
   rw [hr]
   refine ⟨by omega,jn_to [[envD env],[vI depth],[vI (caseN (theDef c.p t.df) x depth)],mkL c s,ex0.enc,(theDef c.p t.df).enc,dfL c] ?_ ?_⟩
   ·simp only [pmr,pmg,envD]
    unfold caseN
    exact ⟨fun h=>by rw [if_pos h];rfl,fun h=>by rw [if_neg h];rfl⟩
   ·generalize caseN (theDef c.p t.df) x depth = kk at hk ⊢
    obtain ⟨k,rfl⟩ : ∃ k : Nat,kk = k:=⟨_,hk.1⟩
    rw [Int.toNat_natCast] at hk ⊢
    have hk2:=hk.2
    have eg : ((theDef c.p t.df).slots.map SlotT.ty).getD k ty0 = (theDef c.p t.df).slots[k].ty:=by simp [List.getD_eq_getElem?_getD,List.getElem?_eq_getElem hk2]
    rw [eg]
    simp only [pmr,pms,pmg,envD]
    rw [el_Sl _ hk2]
    simp only [pmr,pms]
    have hm:=List.getElem_mem hk2
    refine ⟨by omega,by unfold okI;omega,caK_of (hg _ env (depth - 1) s (hf.kid (fun m hm'=>(wfT_def hm' h0 h1 h2).2.2 _ hm) (the_sty hc _ hm)) (hb.mono (by omega))) ?_⟩
    have hB':=exprG_bd hc.gen.short n (theDef c.p t.df).slots[k].ty env (depth - 1) s 1 (by omega) (hb.mono (by omega))
    generalize exprG c n (theDef c.p t.df).slots[k].ty env (depth - 1) s = r at hB' ⊢
    simp only [pmr,pmg]
    refine caK_of (node1_is r.1 hB') ?_
    simp only [pmr,pmg]
    rfl
  ·generalize hz : kidsT (exprG c n) env (depth - 1) ((theDef c.p t.df).slots.map SlotT.ty) s = z
   have hr : litG c (exprG c n) t env x depth s = ((nodeG 7 0 z.1 z.2).1.setRef (theDef c.p t.df).id,(nodeG 7 0 z.1 z.2).2):=by
    unfold litG
    rw [if_neg h0,if_neg h1,if_neg h2,if_neg h3]
    dsimp only
    rw [hz]
   rw [hr]
   have h3q:=le3 hs3 (show (0 : Int)≤9 ^ n by omega)
   have hzb : Bd 1 z.2:=by
    rw [←hz]
    exact kidsT_bd (exprG_bd hc.gen.short n) hq (by omega) _ s (hb.mono (by rw [List.length_map];omega))
   refine jn_to [mkL c z.2,ex0.enc,(theDef c.p t.df).enc,[.sl z.1.length 15 (z.1.flatMap Ex.enc)],dfL c] ?_ ?_
   ·refine kidsT_loop hc hg (d:=depth - 1) (ts:=(theDef c.p t.df).slots.map SlotT.ty) (s:=s) (fun i dn s1=>[[envD env],[vI depth],[vI (i : Int)],mkL c s1,ex0.enc,(theDef c.p t.df).enc,[.sl dn.length 15 (dn.flatMap Ex.enc)],dfL c]) z hz (hb.mono (by rw [List.length_map];omega)) (fun u hu=>?_) rfl (fun i dn s1 next hi hlen hgo hend=>?_)
    ·obtain ⟨y,hy,rfl⟩:=List.mem_map.1 hu
     exact hf.kid (fun m hm'=>(wfT_def hm' h0 h1 h2).2.2 _ hy) (the_sty hc _ hy)
    ·simp only [pmr,pms,pmg,envD]
     have hlm : ((theDef c.p t.df).slots.map SlotT.ty).length = (theDef c.p t.df).slots.length:=List.length_map ..
     refine ⟨fun h=>?_,fun h=>?_⟩
     ·have hk : i < (theDef c.p t.df).slots.length:=by omega
      obtain ⟨hi1,hi2⟩:=hgo (by omega)
      rw [el_Sl _ hk]
      simp only [pmr,pms]
      rw [List.getElem_map] at hi1 hi2
      refine ⟨by omega,by unfold okI;omega,caK_of hi1 ?_⟩
      generalize exprG c n (theDef c.p t.df).slots[i].ty env (depth - 1) s1 = r at hi2 ⊢
      simp only [pmr,pmg]
      rw [exs_end]
      refine ⟨by unfold room;omega,by unfold okI;omega,?_⟩
      simpa [pmg,envD] using hi2
     ·obtain ⟨e1,e2⟩:=hend (by omega)
      rw [e1,e2]
   ·simp only [pmr,pmg]
    refine caK_of (node_is hzb) ?_
    simp only [pmr,pmg,pms]
    rfl
end
end Go.Proofs.YtanbipbiblikbaaDoor

namespace Go.Proofs.YtanbipbiblikbaaDoor
open Xe Pm
theorem list0_is : IS s41 [[vI 0,vI 0,vI 0,vI 0,.sl 0 5 []]] [[vI 2,vI 0,vI 0,vI 0],[.sl 1 5 [vI 0,vI 0,vI 0,vI 0,.sl 0 5 []]]]:=by
 have:=List_is ty0
 rwa [ty0_enc] at this
section
variable {c : MkC} {R n : Nat} {t : Ty} {env : List Bnd} {x depth : Int} {s : MkS}
theorem ExIs.list0 (hg : ExIs c R n) {d : Int} (hf : Fit c R n (listT ty0) env d) (hb : Bd (9 ^ n) s) : IS s49 [[vI 2,vI 0,vI 0,vI 0,.sl 1 5 [vI 0,vI 0,vI 0,vI 0,.sl 0 5 []]],[envD env],[vI d],mkL c s,dfL c] (mkR c (exprG c n (listT ty0) env d s)):=by
 have:=hg _ env d s hf hb
 rwa [lt0_enc] at this
theorem bothT (g : GX) (u : Ty) (d : Int) (k : Int) : bothG g k u env d s = nodeG 4 k [(g u env d s).1,(g u env d (g u env d s).2).1] (g u env d (g u env d s).2).2:=rfl
theorem envAt_mem (h : 0 < env.length) (hx : 0≤x) : ∃ k : Nat,x.tmod (env.length : Int) = k∧∃ hk : k < env.length,envAt env x = env[k]:=by
 have e : x.tmod (env.length : Int) = x % (env.length : Int):=tmod_pos hx
 have h1:=Int.emod_nonneg x (show (env.length : Int) ≠ 0 by omega)
 have h2:=Int.emod_lt_of_pos x (show (0 : Int) < env.length by omega)
 refine ⟨(x % (env.length : Int)).toNat,by omega,by omega,?_⟩
 unfold envAt
 rw [e,List.getD_eq_getElem?_getD,List.getElem?_eq_getElem (by omega)]
 rfl
theorem op_is (hc : Ctx c R) (hg : ExIs c R n) (hf : Fit c R (n+1) t env depth) (h0 : 0 < depth) (hx : 0≤x∧x≤1000000) (hb : Bd (3 * 9 ^ n+1) s) : IS s87 [t.enc,[envD env],[vI x],[vI depth],mkL c s,dfL c] (mkR c (Xe.opG c (exprG c n) t env x depth s)):=by
 refine is87 ?_
 unfold g87
 have hq:=q1 n
 have e6 : x.tmod 6 = x % 6:=tmod_pos hx.1
 have e5 : x.tmod 5 = x % 5:=tmod_pos hx.1
 have e2 : x.tmod 2 = x % 2:=tmod_pos hx.1
 have d6 : x.tdiv 6 = x / 6:=tdiv_pos hx.1
 have d2 : x.tdiv 2 = x / 2:=tdiv_pos hx.1
 have hdp:=hf.dp
 have hR2:=hc.gen.R2
 have bd:=exprG_bd hc.gen.short n
 simp only [pmr,pms,pmg,envD]
 refine ⟨fun k0=>?_,fun k0=>⟨fun k1=>?_,fun k1=>?_⟩⟩
 ·refine ⟨by decide,fun h=>?_,fun h=>?_⟩
  ·refine caK_of list0_is ?_
   simp only [pmr]
   have hf1:=hf.any h0 (wf_list0 (p:=c.p) hR2) (u:=listT ty0) (by decide) (j:=1) (by omega) (by omega)
   refine ⟨by unfold okI;omega,caK_of (hg.list0 hf1 (hb.mono (by omega))) ?_⟩
   have hB:=bd (listT ty0) env (depth - 1) s 1 (by omega) (hb.mono (by omega))
   rw [show Xe.opG c (exprG c n) t env x depth s = nodeG 4 11 [(exprG c n (listT ty0) env (depth - 1) s).1] (exprG c n (listT ty0) env (depth - 1) s).2 by unfold Xe.opG;rw [if_pos k0,if_pos h];rfl]
   generalize exprG c n (listT ty0) env (depth - 1) s = r at hB ⊢
   simp only [pmr,pmg]
   refine caK_of (node1_is r.1 hB) ?_
   simp only [pmr,pmg]
  ·have hf1:=hf.any h0 (hf.wt h0) hf.ts (j:=1) (by omega) (by omega)
   refine ⟨by unfold okI;omega,caK_of (hg _ env _ s hf1 (hb.mono (by omega))) ?_⟩
   have hB:=bd t env (depth - 1) s (9 ^ n+1) (by omega) (hb.mono (by omega))
   rw [show Xe.opG c (exprG c n) t env x depth s = bothG (exprG c n) (x.tmod 5) t env (depth - 1) s by unfold Xe.opG;rw [if_pos k0,if_neg h],bothT]
   generalize exprG c n t env (depth - 1) s = r at hB ⊢
   simp only [pmr,pmg]
   refine ⟨by decide,by omega,by unfold okI;omega,caK_of (hg _ env _ r.2 hf1 (hB.mono (by omega))) ?_⟩
   have hB2:=bd t env (depth - 1) r.2 1 (by omega) (hB.mono (by omega))
   generalize exprG c n t env (depth - 1) r.2 = r2 at hB2 ⊢
   simp only [pmr,pmg]
   have ec : cell (el [vI 0,vI 1,vI 2,vI 3,vI 4] 1 (x.tmod 5).toNat) 0 = vI (x.tmod 5):=by
    have : x.tmod 5 = 0∨x.tmod 5 = 1∨x.tmod 5 = 2∨x.tmod 5 = 3∨x.tmod 5 = 4:=by omega
    rcases this with e | e | e | e | e <;> rw [e] <;> rfl
   rw [ec]
   refine caK_of (node2_is r.1 r2.1 hB2) ?_
   simp only [pmr,pmg]
 ·refine ⟨by decide,fun h=>?_,fun h=>?_⟩
  ·have hf1:=hf.any h0 (hf.wt h0) hf.ts (j:=1) (by omega) (by omega)
   refine ⟨by unfold okI;omega,caK_of (hg _ env _ s hf1 (hb.mono (by omega))) ?_⟩
   have hB:=bd t env (depth - 1) s 1 (by omega) (hb.mono (by omega))
   rw [show Xe.opG c (exprG c n) t env x depth s = nodeG 4 9 [(exprG c n t env (depth - 1) s).1] (exprG c n t env (depth - 1) s).2 by unfold Xe.opG;rw [if_neg k0,if_pos k1,if_pos h];rfl]
   generalize exprG c n t env (depth - 1) s = r at hB ⊢
   simp only [pmr,pmg]
   refine caK_of (node1_is r.1 hB) ?_
   simp only [pmr,pmg]
  ·obtain ⟨ke,he1,he2,he3⟩:=envAt_mem (env:=env) hf.e0 (show 0≤x.tdiv 6 by omega)
   refine jn_to [[envD env],[vI x],[vI depth],[vI (if x.tmod 6 = 2 then 6 else 5)],mkL c s,t.enc,ex0.enc,ty0.enc,dfL c] ?_ ?_
   ·rw [ty0_enc]
    refine ⟨by decide,?_⟩
    simp only [pmr]
    exact ⟨fun h=>by rw [if_pos h];rfl,fun h=>by rw [if_neg h];rfl⟩
   simp only [pmr,pmg,envD]
   refine jn_to [[envD env],[vI x],[vI depth],[vI (if x.tmod 6 = 3 then 6 else if x.tmod 6 = 2 then 6 else 5)],mkL c s,t.enc,ex0.enc,(if x.tmod 6 = 3 then (envAt env (x.tdiv 6)).ty else ty0).enc,dfL c] ?_ ?_
   ·refine ⟨by decide,?_⟩
    simp only [pmr]
    refine ⟨fun h=>⟨⟨by decide,by unfold okI;omega⟩,by omega,by omega,?_⟩,fun h=>by rw [if_neg h,if_neg h];rfl⟩
    rw [if_pos h,if_pos h,he1,Int.toNat_natCast,el_Bn _ he2,he3]
    simp only [pms]
    rfl
   simp only [pmr,pmg,envD]
   refine jn_to [[envD env],[vI depth],[vI (boolOp x)],mkL c s,ex0.enc,(boolTy t env x).enc,dfL c] ?_ ?_
   ·refine ⟨by decide,?_⟩
    simp only [pmr]
    unfold boolOp boolTy
    refine ⟨fun h=>⟨by decide,by unfold okI;omega,by omega,?_⟩,fun h=>by rw [if_neg h,if_neg h];rfl⟩
    have ec : cell (el [vI 7,vI 8] 1 (x.tmod 6 - 4).toNat) 0 = vI (7+(x.tmod 6 - 4)):=by
     have : x.tmod 6 - 4 = 0∨x.tmod 6 - 4 = 1:=by omega
     rcases this with e | e <;> rw [e] <;> rfl
    rw [ec,if_pos h,if_pos h]
    rfl
   simp only [pmr,pmg,envD]
   have hu : wfT c.p R (boolTy t env x)∧(boolTy t env x).size≤1000:=by
    unfold boolTy
    split
    ·exact ⟨hf.wt h0,hf.ts⟩
    split
    ·rw [he3];exact ⟨hf.ew _ (List.getElem_mem he2),hf.es _ (List.getElem_mem he2)⟩
    ·exact ⟨wf_simple hR2 (.inl rfl),by decide⟩
   rw [show Xe.opG c (exprG c n) t env x depth s = bothG (exprG c n) (boolOp x) (boolTy t env x) env (depth - 1) s by unfold Xe.opG;rw [if_neg k0,if_pos k1,if_neg h],bothT]
   generalize boolTy t env x = u at hu ⊢
   have hf1:=hf.any h0 hu.1 hu.2 (j:=1) (by omega) (by omega)
   refine ⟨by unfold okI;omega,caK_of (hg _ env _ s hf1 (hb.mono (by omega))) ?_⟩
   have hB:=bd u env (depth - 1) s (9 ^ n+1) (by omega) (hb.mono (by omega))
   generalize exprG c n u env (depth - 1) s = r at hB ⊢
   simp only [pmr,pmg]
   refine ⟨by unfold okI;omega,caK_of (hg _ env _ r.2 hf1 (hB.mono (by omega))) ?_⟩
   have hB2:=bd u env (depth - 1) r.2 1 (by omega) (hB.mono (by omega))
   generalize exprG c n u env (depth - 1) r.2 = r2 at hB2 ⊢
   simp only [pmr,pmg]
   refine caK_of (node2_is r.1 r2.1 hB2) ?_
   simp only [pmr,pmg]
 ·by_cases h : t.kind = 2∧x.tmod 2 = 0
  ·refine jn_of ?_
   refine ⟨fun _=>⟨by decide,fun _=>?_,fun h'=>absurd h.2 h'⟩,fun h'=>absurd h.1 h'⟩
   have hf1:=hf.any h0 (hf.wt h0) hf.ts (j:=1) (by omega) (by omega)
   refine ⟨by unfold okI;omega,caK_of (hg _ env _ s hf1 (hb.mono (by omega))) ?_⟩
   have hB:=bd t env (depth - 1) s (9 ^ n+1) (by omega) (hb.mono (by omega))
   rw [show Xe.opG c (exprG c n) t env x depth s = bothG (exprG c n) 10 t env (depth - 1) s by unfold Xe.opG;rw [if_neg k0,if_neg k1,if_pos h],bothT]
   generalize exprG c n t env (depth - 1) s = r at hB ⊢
   simp only [pmr,pmg]
   refine ⟨by unfold okI;omega,caK_of (hg _ env _ r.2 hf1 (hB.mono (by omega))) ?_⟩
   have hB2:=bd t env (depth - 1) r.2 1 (by omega) (hB.mono (by omega))
   generalize exprG c n t env (depth - 1) r.2 = r2 at hB2 ⊢
   simp only [pmr,pmg]
   refine caK_of (node2_is r.1 r2.1 hB2) ?_
   simp only [pmr,pmg]
  ·refine jn_to [[envD env],[vI x],[vI depth],mkL c s,t.enc,ex0.enc,dfL c] ?_ ?_
   ·refine ⟨fun h1=>⟨by decide,?_⟩,fun _=>rfl⟩
    exact ⟨fun h2=>absurd ⟨h1,h2⟩ h,fun _=>rfl⟩
   simp only [pmr,pmg,envD]
   refine ⟨⟨by decide,by unfold okI;omega⟩,caK_of (lit_is hc hg hf (x:=x.tdiv 2) (by omega) hb) ?_⟩
   rw [show Xe.opG c (exprG c n) t env x depth s = litG c (exprG c n) t env (x.tdiv 2) depth s by unfold Xe.opG;rw [if_neg k0,if_neg k1,if_neg h]]
   simp only [pmr,pmg]
end
end Go.Proofs.YtanbipbiblikbaaDoor
