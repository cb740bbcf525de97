/- Zpj, Zpk, Zpm, Zpl, Ev11, Ev12, Ev13, Ev15, Ev16, Ev17, Gn0, Gn1, Gn2, Gn3, Gn4, Gn5, Gn6, Gn7, Gn8, put together. -/
import Derived.Test.YtanbipbiblikbaaDoorPs3
import Derived.KernelRfl
namespace Go.Proofs.YtanbipbiblikbaaDoor
open Xe Pm
set_option maxRecDepth 100000
abbrev s19 : Sig:=⟨19,⟨[(0,.c .d)],[]⟩,.a 2,[],false⟩
abbrev s40 : Sig:=⟨40,⟨[(0,.c .d),(1,.c .i),(2,.c .i)],[]⟩,.c .i,[],true⟩
abbrev s16 : Sig:=⟨16,⟨[(0,.c .i),(1,.c .i)],[]⟩,.c .i,[],true⟩
abbrev s39 : Sig:=⟨39,⟨[(0,.c .i)],[]⟩,.a 3,[],false⟩
abbrev s48 : Sig:=⟨48,⟨[(0,.c .d),(1,.c .i)],[]⟩,.c (.w 0),[(0,.w 89 11)],false⟩
abbrev s42 : Sig:=⟨42,⟨[(0,.a 3)],[]⟩,.a 5,[],false⟩
abbrev s75 : Sig:=⟨75,⟨[(0,.c .i),(1,.a 5),(2,.a 5)],[]⟩,.a 5,[],false⟩
abbrev s41 : Sig:=⟨41,⟨[(0,.a 5)],[]⟩,.g [.d,.d,.d,.d,.w 0],[(0,.w 38 5)],false⟩
abbrev s76 : Sig:=⟨76,⟨[(0,.c .d),(1,.c .i),(2,.a 5)],[]⟩,.t [.c (.w 0),.c (.w 1)],[(0,.w 38 5),(1,.w 3 1)],false⟩
abbrev s49 : Sig:=⟨49,⟨[(0,.c (.p 0 0)),(1,.a 5),(2,.c .d),(3,.c .i)],[(0,.b 92 (.d::.w 1::ds 9)),(1,.w 52 31)]⟩,.g (ds 14++[.w 2]),[(2,.w 9 1),(0,.b 92 (.d::.w 1::ds 9)),(1,.w 52 31)],false⟩
abbrev s77 : Sig:=⟨77,⟨[(0,.c (.p 0 0)),(1,.c .i)],[(0,.b 92 (.d::.w 1::ds 9)),(1,.w 52 31)]⟩,.c .i,[(0,.b 92 (.d::.w 1::ds 9)),(1,.w 52 31)],false⟩
abbrev s78 : Sig:=⟨78,⟨[(0,.c .d),(1,.a 5)],[]⟩,.c (.w 0),[(0,.w 95 9)],false⟩
abbrev tM : Sig:=⟨105,⟨[(0,.a 5),(1,.a 5)],[]⟩,.c .bo,[],true⟩
abbrev s79 : Sig:=⟨79,⟨[(0,.c (.p 0 0)),(1,.a 9)],[(0,.b 92 (.d::.w 1::ds 9)),(1,.w 52 31)]⟩,.g (ds 14++[.w 2]),[(2,.w 9 1),(0,.b 92 (.d::.w 1::ds 9)),(1,.w 52 31)],false⟩
abbrev s81 : Sig:=⟨81,⟨[(0,.c (.p 0 0)),(1,.c .i),(2,.c .i),(3,.c .d)],[(0,.b 92 (.d::.w 1::ds 9)),(1,.w 52 31)]⟩,.g (ds 14++[.w 2]),[(2,.w 9 1),(0,.b 92 (.d::.w 1::ds 9)),(1,.w 52 31)],false⟩
abbrev s80 : Sig:=⟨80,⟨[(0,.c (.p 0 0)),(1,.a 5),(2,.c .d),(3,.c .i),(4,.c .i)],[(0,.b 92 (.d::.w 1::ds 9)),(1,.w 52 31)]⟩,.g (ds 14++[.w 2]),[(2,.w 9 1),(0,.b 92 (.d::.w 1::ds 9)),(1,.w 52 31)],false⟩
abbrev s58 : Sig:=⟨58,⟨[(0,.g [.d,.w 0]),(1,.a 3)],[(0,.w 52 31)]⟩,.t [.a 31,.c .bo],[(0,.w 52 31)],false⟩
abbrev s84 : Sig:=⟨84,⟨[(0,.c (.p 0 0)),(1,.a 5),(2,.c .d),(3,.c .i),(4,.c .i)],[(0,.b 92 (.d::.w 1::ds 9)),(1,.w 52 31)]⟩,.g (ds 14++[.w 2]),[(2,.w 9 1),(0,.b 92 (.d::.w 1::ds 9)),(1,.w 52 31)],false⟩
abbrev s106 : Sig:=⟨106,⟨[(0,.c (.p 0 0)),(1,.c .i),(2,.c .i)],[(0,.b 92 (.d::.w 1::ds 9)),(1,.w 52 31)]⟩,.c .i,[(0,.b 92 (.d::.w 1::ds 9)),(1,.w 52 31)],false⟩
abbrev xK : Sig:=⟨107,⟨[(0,.c (.p 0 0)),(1,.c .i)],[(0,.b 92 (.d::.w 1::ds 9)),(1,.w 52 31)]⟩,.c .bo,[(0,.b 92 (.d::.w 1::ds 9)),(1,.w 52 31)],false⟩
abbrev s87 : Sig:=⟨87,⟨[(0,.c (.p 0 0)),(1,.a 5),(2,.c .d),(3,.c .i),(4,.c .i)],[(0,.b 92 (.d::.w 1::ds 9)),(1,.w 52 31)]⟩,.g (ds 14++[.w 2]),[(2,.w 9 1),(0,.b 92 (.d::.w 1::ds 9)),(1,.w 52 31)],false⟩
abbrev s85 : Sig:=⟨85,⟨[(0,.c (.p 0 0)),(1,.a 5),(2,.c .d),(3,.c .i),(4,.c .i)],[(0,.b 92 (.d::.w 1::ds 9)),(1,.w 52 31)]⟩,.g (ds 14++[.w 2]),[(2,.w 9 1),(0,.b 92 (.d::.w 1::ds 9)),(1,.w 52 31)],false⟩
abbrev s86 : Sig:=⟨86,⟨[(0,.c (.p 0 0)),(1,.a 5),(2,.c .d),(3,.c .i),(4,.c .i)],[(0,.b 92 (.d::.w 1::ds 9)),(1,.w 52 31)]⟩,.g (ds 14++[.w 2]),[(2,.w 9 1),(0,.b 92 (.d::.w 1::ds 9)),(1,.w 52 31)],false⟩
abbrev s82 : Sig:=⟨82,⟨[(0,.c (.p 0 0))],[(0,.b 92 (.d::.w 1::ds 9)),(1,.w 52 31)]⟩,.c .d,[(0,.b 92 (.d::.w 1::ds 9)),(1,.w 52 31)],false⟩
abbrev s83 : Sig:=⟨83,⟨[(0,.c .d),(1,.a 9)],[]⟩,.c (.w 0),[(0,.w 95 9)],false⟩
abbrev s50 : Sig:=⟨50,⟨[(0,.a 15)],[]⟩,.c .i,[],true⟩
abbrev s51 : Sig:=⟨51,⟨[(0,.a 15),(1,.c (.w 0))],[(0,.w 3 1)]⟩,.c (.w 1),[(1,.w 3 1)],false⟩
abbrev s52 : Sig:=⟨52,⟨[(0,.a 15),(1,.c (.w 0))],[(0,.w 35 3)]⟩,.g (ds 13++[.w 1,.d]),[(1,.w 50 15),(0,.w 35 3)],false⟩
def g19 : Tx:=fun Is a K=>caK Is s40 [[cell (ent a 0) 0],[vI 0],[vI 2]] fun r1=>aa (cell (ent r1 0) 0) fun z2=>ckK (okI (1+z2)) (ifK
 (decide ((0 : Int) < (1+z2))) (caK Is s39 [[vI 0]] fun r3=>ckK (0<=(0 : Int)/\(0 : Int) < (2 : Int)) (ckK (room (0+1) 89) (ckK (okI (0+1 :
 Int)) (ifK (decide ((1 : Int) < (1+z2))) (caK Is s39 [[vI 1]] fun r4=>ckK (0<=(1 : Int)/\(1 : Int) < (2 : Int)) (caK Is s39 [[vI 0]] fun r5 =>
 ckK (room (1+1) 89) (ckK (okI (1+1 : Int)) (ifK (decide ((2 : Int) < (1+z2))) (caK Is s39 [[vI 2]] fun _=>ckK (0<=(2 : Int)/\(2 : Int) <
 (2 : Int)) (ckK (room (2+1) 89) (ckK (okI (2+1 : Int)) (False)))) (caK Is s48 [[cell (ent a 0) 0],[vI (1+z2)]] fun r7=>ah 11 (cell (ent
 r7 0) 0) fun n8 c9=>ckK (okI ((1+z2)+(n8 : Int))) (Lp (fun oq ct=>aa (cell (ent ct 1) 0) fun z186=>aa (cell (ent ct 2)
 0) fun z187=>aa (cell (ent ct 3) 0) fun z188=>ah 11 (cell (ent ct 5) 0) fun n189 c190=>ah 31 (cell (ent ct 7) 0) fun n191 c192
 => ah 3 (cell (ent ct 8) 0) fun n193 c194=>ah 3 (cell (ent ct 9) 0) fun n195 c196=>ah 3 (cell (ent ct 10) 0) fun n197 c198=>ifK
 (decide (z188 < (n189 : Int))) (ckK (okI (z186+z188)) (caK Is s39 [[vI (z186+z188)]] fun r199=>ckK (0<=z188/\z188 < (n189 : Int)) (ckK (0 <=
 z188/\z188 < (n189 : Int)) (caK Is s39 [[cell (el c190 11 (Int.toNat z188)) 10]] fun r200=>ckK (0<=z188/\z188 < (n189 : Int)) (ckK (0<=z188 /\
 z188 < (n189 : Int)) (Lp (fun oo aL=>aa (cell (ent aL 1) 0) fun z203=>aa (cell (ent aL 2) 0) fun z204=>aa (cell (ent aL
 3) 0) fun z205=>aa (cell (ent aL 4) 0) fun z206=>ah 11 (cell (ent aL 6) 0) fun n207 c208=>ah 31 (cell (ent aL 9) 0) fun n209
 c210=>ah 11 (cell (ent aL 10) 0) fun n211 c212=>ah 3 (cell (ent aL 11) 0) fun n213 c214=>ah 3 (cell (ent aL 12) 0) fun n215
 c216=>ah 3 (cell (ent aL 13) 0) fun n217 c218=>ckK (0<=z205/\z205 < (n207 : Int)) (ah 5 (cell (el c208 11 (Int.toNat z205)) 2) fun n219
 _=>ifK (decide (z206 < (n219 : Int))) (caK Is s39 [[vI z204]] fun r221=>ckK (0<=z205/\z205 < (n207 : Int)) (ah 1 (cell (el c208 11
 (Int.toNat z205)) 3) fun n222 c223=>ckK (0<=z206/\z206 < (n222 : Int)) (ckK (0<=z205/\z205 < (n207 : Int)) (ah 5 (cell (el c208 11
 (Int.toNat z205)) 2) fun n224 c225=>ckK (0<=z206/\z206 < (n224 : Int)) (aa (cell (ent aL 7) 3) fun z226=>ifK (decide (z226 = (4 : Int)))
 (ckK (0<=z205/\z205 < (n207 : Int)) (ah 1 (cell (el c208 11 (Int.toNat z205)) 4) fun n227 c228=>ckK (0<=z206/\z206 < (n227 : Int)) (ckK
 (room (n211+1) 113) (ckK (okI (z204+1)) (ckK (okI (z206+1)) (oo [[cell (ent aL 0) 0],[vI z203],[vI (z204+1)],[vI z205],[vI (z206
 + 1)],ent aL 5,[.sl n207 11 c208],cls (ent aL 7) 0 30 [],cls (ent aL 8) 0 9 [],[.sl n209 31 c210],[.sl (n211+1) 11 (c212++(cls
 (ent r221 0) 0 3 (cell (el c223 1 (Int.toNat z206)) 0::cls (el c225 5 (Int.toNat z206)) 0 5 [cell (el c228 1 (Int.toNat z206)) 0,vI z206])))],
 [.sl n213 3 c214],[.sl n215 3 c216],[.sl n217 3 c218]])))))) (ckK (room (n211+1) 113) (ckK (okI (z204+1)) (ckK (okI (z206+1)) (oo
 [[cell (ent aL 0) 0],[vI z203],[vI (z204+1)],[vI z205],[vI (z206+1)],ent aL 5,[.sl n207 11 c208],cls (ent aL 7) 0 30 [],cls
 (ent aL 8) 0 9 [],[.sl n209 31 c210],[.sl (n211+1) 11 (c212++(cls (ent r221 0) 0 3 (cell (el c223 1 (Int.toNat z206)) 0::cls (el c225 5
 (Int.toNat z206)) 0 5 [vI 0,vI z206])))],[.sl n213 3 c214],[.sl n215 3 c216],[.sl n217 3 c218]]))))))))) (ckK (room (n209+1) 353) (ckK (0 <=
 z205/\z205 < (n207 : Int)) (ckK (0<=z205/\z205 < (n207 : Int)) (aa (cell (el c208 11 (Int.toNat z205)) 10) fun z229=>ckK (0<=z229/\z229 <
 ((2 : Nat) : Int)) (ifK (decide (z229 = ((0 : Nat) : Int))) (ckK (room (n213+1) 25) (aa (cell (el c208 11 (Int.toNat z205)) 10) fun z230=>ckK
 (0<=z230/\z230 < ((2 : Nat) : Int)) (ifK (decide (z230 = ((0 : Nat) : Int))) (ckK (okI (z205+1)) (oq [[cell (ent aL 0) 0],[vI z203],
 [vI z204],[vI (z205+1)],ent aL 5,[.sl n207 11 c208],cls (ent aL 8) 0 9 [],[.sl (n209+1) 31 (c210++(cls (ent aL 7) 0 8 (.sl n211
 11 c212::cls (ent aL 7) 8 22 [])))],[.sl (n213+1) 3 (c214++(cls (ent aL 7) 0 3 []))],[.sl n215 3 c216],[.sl n217 3 c218]])) (ifK
 (decide (z230 = ((1 : Nat) : Int))) (ckK (okI (z205+1)) (False)) (False))))) (ifK (decide (z229 = ((1 : Nat) : Int))) (ckK (room (n217+1) 25)
 (aa (cell (el c208 11 (Int.toNat z205)) 10) fun z231=>ckK (0<=z231/\z231 < ((2 : Nat) : Int)) (ifK (decide (z231 = ((0 : Nat) : Int))) (ckK
 (okI (z205+1)) (False)) (ifK (decide (z231 = ((1 : Nat) : Int))) (ckK (okI (z205+1)) (oq [[cell (ent aL 0) 0],[vI z203],[vI z204],[vI
 (z205+1)],ent aL 5,[.sl n207 11 c208],cls (ent aL 8) 0 9 [],[.sl (n209+1) 31 (c210++(cls (ent aL 7) 0 8 (.sl n211 11 c212::cls
 (ent aL 7) 8 22 [])))],[.sl n213 3 c214],[.sl n215 3 c216],[.sl (n217+1) 3 (c218++(cls (ent aL 7) 0 3 []))]])) (False)))))
 (False))))))))) [[cell (ent ct 0) 0],[vI z186],[vI z187],[vI z188],[vI 0],ent ct 4,[.sl n189 11 c190],cls (ent r199 0) 0 3 (cell (el
 c190 11 (Int.toNat z188)) 0::cls (ent r200 0) 0 3 (cell (el c190 11 (Int.toNat z188)) 1::cls (sub (el c190 11 (Int.toNat z188)) 5 5) 0 5 ([vI 0,
 vI 0,vI 0,vI 0,vI 0,vI 0,vI 0,vI 0,vI 0,vI 0,vI 0,vI 0,.sl 0 5 [],.sl 0 15 [],.sl 0 1 [],vI 0,.sl 0 1 []]))),cls (ent ct 6) 0 9
 [],[.sl n191 31 c192],[.sl 0 11 []],[.sl n193 3 c194],[.sl n195 3 c196],[.sl n197 3 c198]])))))) (Lp (fun gY cD=>aa (cell (ent
 cD 0) 0) fun z234=>aa (cell (ent cD 1) 0) fun z235=>ah 31 (cell (ent cD 5) 0) fun n236 c237=>ifK (decide (z235 < (n236 : Int)))
 (ckK (0<=z235/\z235 < (n236 : Int)) (aa (cell (el c237 31 (Int.toNat z235)) 3) fun z238=>ifK (decide (z238 = (0 : Int))) (ckK (okI (z235+1))
 (gY [[vI z234],[vI (z235+1)],ent cD 2,[cell (ent cD 3) 0],cls (ent cD 4) 0 10 [],[.sl n236 31 c237]])) (aa (cell (el c237 31
 (Int.toNat z235)) 3) fun z239=>ifK (decide (z239 = (1 : Int))) (ckK (okI (z235+1)) (gY [[vI z234],[vI (z235+1)],ent cD 2,[cell (ent
 cD 3) 0],cls (ent cD 4) 0 10 [],[.sl n236 31 c237]])) (Lp (fun wC bS=>aa (cell (ent bS 0) 0) fun z242=>aa (cell (ent
 bS 1) 0) fun z243=>aa (cell (ent bS 2) 0) fun z244=>ah 9 (cell (ent bS 7) 0) fun n245 c246=>ah 31 (cell (ent bS 8) 0) fun
 n247 c248=>ah 11 (cell (ent bS 6) 8) fun n249 _=>ifK (decide (z244 < (n249 : Int))) (ah 11 (cell (ent bS 6) 8) fun n251 c252=>ckK (0
 <= z244/\z244 < (n251 : Int)) (ah 11 (cell (ent bS 6) 8) fun n253 c254=>ckK (0<=z244/\z244 < (n253 : Int)) (ckK (room (n245+1) 89) (ckK
 (okI (z244+1)) (wC [[vI z242],[vI z243],[vI (z244+1)],ent bS 3,[cell (ent bS 4) 0],cls (ent bS 5) 0 10 [],ent bS 6,[.sl
 (n245+1) 9 (c246++(cls (sub (el c252 11 (Int.toNat z244)) 0 3) 0 3 (vI 0::cls (sub (el c254 11 (Int.toNat z244)) 4 5) 0 5 [])))],[.sl n247 31
 c248]]))))) (caK Is s49 [sub (ent bS 6) 9 5,[.sl n245 9 c246],[vI 4],cls (ent bS 5) 0 4 (vI 14::vI z243::cls (sub (ent bS 6) 4 3) 0
 3 [vI 0]),[.sl n247 31 c248]] fun r255=>ah 1 (cell (ent r255 1) 0) fun n256 c257=>ah 31 (cell (ent r255 3) 0) fun n258 c259=>ckK (0 <=
 z243/\z243 < (n258 : Int)) (ckK (0<=z243/\z243 < (n258 : Int)) (caK Is s50 [sub (el (upd c259 ((Int.toNat z243) * 31+14) (cls (ent r255 0) 0 14
 [.sl n256 1 c257])) 31 (Int.toNat z243)) 14 15] fun r260=>aa (cell (ent r260 0) 0) fun z261=>ifK (decide ((30 : Int) < z261)) (caK Is s49 [sub
 (ent bS 6) 9 5,[.sl n245 9 c246],[vI 0],cls (ent r255 2) 0 4 (vI 0::cls (ent r255 2) 5 5 []),[.sl n258 31 (upd c259 ((Int.toNat z243) * 31
 + 14) (cls (ent r255 0) 0 14 [.sl n256 1 c257]))]] fun r262=>ah 1 (cell (ent r262 1) 0) fun n263 c264=>ah 31 (cell (ent r262 3) 0) fun n265
 c266=>ckK (0<=z243/\z243 < (n265 : Int)) (ckK (okI (z243+1)) (gY [[vI z242],[vI (z243+1)],ent bS 3,[cell (ent bS 4) 0],cls
 (ent r262 2) 0 10 [],[.sl n265 31 (upd c266 ((Int.toNat z243) * 31+14) (cls (ent r262 0) 0 14 [.sl n263 1 c264]))]]))) (ckK (okI (z243+1))
 (gY [[vI z242],[vI (z243+1)],ent bS 3,[cell (ent bS 4) 0],cls (ent r255 2) 0 10 [],[.sl n258 31 (upd c259 ((Int.toNat z243) * 31 +
 14) (cls (ent r255 0) 0 14 [.sl n256 1 c257]))]])))))) [[vI z234],[vI z235],[vI 0],ent cD 2,[cell (ent cD 3) 0],cls (ent cD 4) 0 10
 [],el c237 31 (Int.toNat z235),[.sl 0 9 []],[.sl n236 31 c237]])))) (aa (cell (ent cD 4) 3) fun z267=>aa (cell (ent cD 4) 3) fun z268
 => ckK (0<=z267/\z267 = z268/\room (Int.toNat z267) 25) (Lp (fun j3 eE=>aa (cell (ent eE 0) 0) fun z271=>aa (cell (ent eE
 1) 0) fun z272=>ah 3 (cell (ent eE 4) 0) fun n273 c274=>ah 31 (cell (ent eE 5) 0) fun n275 c276=>ifK (decide (z272 < (n275 : Int)))
 (ckK (0<=z272/\z272 < (n275 : Int)) (aa (cell (el c276 31 (Int.toNat z272)) 3) fun z277=>ifK (decide (z277 = (0 : Int))) (ckK (okI (z272+1))
 (j3 [[vI z271],[vI (z272+1)],ent eE 2,[cell (ent eE 3) 0],[.sl n273 3 c274],[.sl n275 31 c276]])) (ckK (0<=z272/\z272 < (n275 :
 Int)) (aa (cell (el c276 31 (Int.toNat z272)) 3) fun z278=>ifK (decide (z278 = (1 : Int))) (ckK (okI (z272+1)) (j3 [[vI z271],[vI (z272
 + 1)],ent eE 2,[cell (ent eE 3) 0],[.sl n273 3 c274],[.sl n275 31 c276]])) (ckK (0<=z272/\z272 < (n275 : Int)) (caK Is s51 [sub (el c276
 31 (Int.toNat z272)) 14 15,[.sl 0 1 []]] fun r279=>ah 1 (cell (ent r279 0) 0) fun n280 c281=>Lp (fun wB eT=>aa (cell (ent eT
 0) 0) fun z284=>aa (cell (ent eT 1) 0) fun z285=>aa (cell (ent eT 2) 0) fun z286=>ah 3 (cell (ent eT 5) 0) fun n287 c288 =>
 ah 1 (cell (ent eT 6) 0) fun n289 c290=>ah 31 (cell (ent eT 7) 0) fun n291 c292=>ifK (decide (z286 < (n289 : Int))) (ckK (0<=z286 /\
 z286 < (n289 : Int)) (caK Is s39 [[vI z284]] fun r293=>aa (cell (el c290 1 (Int.toNat z286)) 0) fun z294=>ckK (0<=z294/\z294 < (n287 : Int))
 (ckK (okI (z284+1)) (ckK (okI (z286+1)) (wB [[vI (z284+1)],[vI z285],[vI (z286+1)],ent eT 3,[cell (ent eT 4) 0],[.sl n287 3
 (upd c288 ((Int.toNat z294) * 3+0) (ent r293 0))],[.sl n289 1 c290],[.sl n291 31 c292]]))))) (ckK (0<=z285/\z285 < (n291 : Int)) (caK Is s52
 [sub (el c292 31 (Int.toNat z285)) 14 15,[.sl n287 3 c288]] fun r295=>ah 15 (cell (ent r295 1) 0) fun n296 c297=>ah 3 (cell (ent r295 2) 0)
 fun n298 c299=>ckK (0<=z285/\z285 < (n291 : Int)) (ckK (okI (z285+1)) (j3 [[vI z284],[vI (z285+1)],ent eT 3,[cell (ent eT 4)
 0],[.sl n298 3 c299],[.sl n291 31 (upd c292 ((Int.toNat z285) * 31+14) (cls (ent r295 0) 0 13 [.sl n296 15 c297,cell (ent r295 0) 13]))]])))))
 [[vI z271],[vI z272],[vI 0],ent eE 2,[cell (ent eE 3) 0],[.sl n273 3 c274],[.sl n280 1 c281],[.sl n275 31 c276]])))))) (K [[cell (ent
 eE 3) 0,.sl n275 31 c276]])) [[vI z234],[vI 0],ent cD 2,[cell (ent cD 3) 0],[.sl (Int.toNat z267) 3 (List.flatten (List.replicate
 (Int.toNat z267) [vI 0,vI 0,vI 0]))],[.sl n236 31 c237]]))) [[vI z187],[vI 0],ent ct 4,[.sl 2 6 (cls (ent ct 6) 0 5 (.sl n193 3 c194 ::
 cls (ent ct 6) 5 4 [.sl n195 3 c196,.sl n197 3 c198]))],[.sl 2 6 (cls (ent ct 6) 0 5 (.sl n193 3 c194::cls (ent ct 6) 5 4 [.sl n195 3
 c196,.sl n197 3 c198])),cell (ent ct 0) 0,vI 24,vI 0,vI 0,vI 0,vI 0,vI 0,vI 0,vI 0],[.sl n191 31 c192]])) [[cell (ent a 0) 0],[vI (1
 + z2)],[vI ((1+z2)+(n8 : Int))],[vI 0],[.sl 0 6 [],.sl 0 31 []],[.sl n8 11 c9],cls (ent r3 0) 0 3 (cell (el ([vS (ByteArray.mk #[99,111,
 114,101]),vS (ByteArray.mk #[109,105,108,108])]) 1 0) 0::.sl 0 3 []::cls (ent r4 0) 0 3 ([cell (el ([vS (ByteArray.mk #[99,111,114,
 101]),vS (ByteArray.mk #[109,105,108,108])]) 1 1) 0])),[.sl 0 31 []],[.sl 0 3 []],[.sl 1 3 ((ent r5 0)++[])],[.sl 0 3 []]])))))) (caK Is
 s48 [[cell (ent a 0) 0],[vI (1+z2)]] fun r300=>ah 11 (cell (ent r300 0) 0) fun n301 c302=>ckK (okI ((1+z2)+(n301 : Int))) (Lp (fun
 wA dx=>aa (cell (ent dx 1) 0) fun z438=>aa (cell (ent dx 2) 0) fun z439=>aa (cell (ent dx 3) 0) fun z440=>ah 11
 (cell (ent dx 5) 0) fun n441 c442=>ah 31 (cell (ent dx 7) 0) fun n443 c444=>ah 3 (cell (ent dx 8) 0) fun n445 c446=>ifK (decide
 (z440 < (n441 : Int))) (ckK (okI (z438+z440)) (caK Is s39 [[vI (z438+z440)]] fun r447=>ckK (0<=z440/\z440 < (n441 : Int)) (ckK (0<=z440 /\
 z440 < (n441 : Int)) (caK Is s39 [[cell (el c442 11 (Int.toNat z440)) 10]] fun r448=>ckK (0<=z440/\z440 < (n441 : Int)) (ckK (0<=z440/\z440 <
 (n441 : Int)) (Lp (fun om bw=>aa (cell (ent bw 1) 0) fun z451=>aa (cell (ent bw 2) 0) fun z452=>aa (cell (ent bw 3) 0)
 fun z453=>aa (cell (ent bw 4) 0) fun z454=>ah 11 (cell (ent bw 6) 0) fun n455 c456=>ah 31 (cell (ent bw 9) 0) fun n457 c458 =>
 ah 11 (cell (ent bw 10) 0) fun n459 c460=>ah 3 (cell (ent bw 11) 0) fun n461 c462=>ckK (0<=z453/\z453 < (n455 : Int)) (ah 5 (cell
 (el c456 11 (Int.toNat z453)) 2) fun n463 _=>ifK (decide (z454 < (n463 : Int))) (caK Is s39 [[vI z452]] fun r465=>ckK (0<=z453/\z453 < (n455 :
 Int)) (ah 1 (cell (el c456 11 (Int.toNat z453)) 3) fun n466 c467=>ckK (0<=z454/\z454 < (n466 : Int)) (ckK (0<=z453/\z453 < (n455 : Int))
 (ah 5 (cell (el c456 11 (Int.toNat z453)) 2) fun n468 c469=>ckK (0<=z454/\z454 < (n468 : Int)) (aa (cell (ent bw 7) 3) fun z470=>ifK
 (decide (z470 = (4 : Int))) (ckK (0<=z453/\z453 < (n455 : Int)) (ah 1 (cell (el c456 11 (Int.toNat z453)) 4) fun n471 c472=>ckK (0<=z454 /\
 z454 < (n471 : Int)) (ckK (room (n459+1) 113) (ckK (okI (z452+1)) (ckK (okI (z454+1)) (om [[cell (ent bw 0) 0],[vI z451],[vI (z452 +
 1)],[vI z453],[vI (z454+1)],ent bw 5,[.sl n455 11 c456],cls (ent bw 7) 0 30 [],cls (ent bw 8) 0 5 [],[.sl n457 31 c458],[.sl
 (n459+1) 11 (c460++(cls (ent r465 0) 0 3 (cell (el c467 1 (Int.toNat z454)) 0::cls (el c469 5 (Int.toNat z454)) 0 5 [cell (el c472 1
 (Int.toNat z454)) 0,vI z454])))],[.sl n461 3 c462]])))))) (ckK (room (n459+1) 113) (ckK (okI (z452+1)) (ckK (okI (z454+1)) (om [[cell
 (ent bw 0) 0],[vI z451],[vI (z452+1)],[vI z453],[vI (z454+1)],ent bw 5,[.sl n455 11 c456],cls (ent bw 7) 0 30 [],cls (ent bw
 8) 0 5 [],[.sl n457 31 c458],[.sl (n459+1) 11 (c460++(cls (ent r465 0) 0 3 (cell (el c467 1 (Int.toNat z454)) 0::cls (el c469 5 (Int.toNat
 z454)) 0 5 [vI 0,vI z454])))],[.sl n461 3 c462]]))))))))) (ckK (room (n457+1) 353) (ckK (0<=z453/\z453 < (n455 : Int)) (ckK (0<=z453/\z453 <
 (n455 : Int)) (aa (cell (el c456 11 (Int.toNat z453)) 10) fun z473=>ckK (0<=z473/\z473 < ((1 : Nat) : Int)) (ifK (decide (z473 = ((0 : Nat) :
 Int))) (ckK (room (n461+1) 25) (aa (cell (el c456 11 (Int.toNat z453)) 10) fun z474=>ckK (0<=z474/\z474 < ((1 : Nat) : Int)) (ifK (decide
 (z474 = ((0 : Nat) : Int))) (ckK (okI (z453+1)) (wA [[cell (ent bw 0) 0],[vI z451],[vI z452],[vI (z453+1)],ent bw 5,[.sl n455 11
 c456],cls (ent bw 8) 0 5 [],[.sl (n457+1) 31 (c458++(cls (ent bw 7) 0 8 (.sl n459 11 c460::cls (ent bw 7) 8 22 [])))],[.sl (n461 +
 1) 3 (c462++(cls (ent bw 7) 0 3 []))]])) (False)))) (False)))))))) [[cell (ent dx 0) 0],[vI z438],[vI z439],[vI z440],[vI 0],ent dx
 4,[.sl n441 11 c442],cls (ent r447 0) 0 3 (cell (el c442 11 (Int.toNat z440)) 0::cls (ent r448 0) 0 3 (cell (el c442 11 (Int.toNat z440)) 1 ::
 cls (sub (el c442 11 (Int.toNat z440)) 5 5) 0 5 ([vI 0,vI 0,vI 0,vI 0,vI 0,vI 0,vI 0,vI 0,vI 0,vI 0,vI 0,vI 0,.sl 0 5 [],.sl 0 15 [],
 .sl 0 1 [],vI 0,.sl 0 1 []]))),cls (ent dx 6) 0 5 [],[.sl n443 31 c444],[.sl 0 11 []],[.sl n445 3 c446]])))))) (Lp (fun qP gN =>
 aa (cell (ent gN 0) 0) fun z477=>aa (cell (ent gN 1) 0) fun z478=>ah 31 (cell (ent gN 5) 0) fun n479 c480=>ifK (decide (z478 <
 (n479 : Int))) (ckK (0<=z478/\z478 < (n479 : Int)) (aa (cell (el c480 31 (Int.toNat z478)) 3) fun z481=>ifK (decide (z481 = (0 : Int))) (ckK
 (okI (z478+1)) (qP [[vI z477],[vI (z478+1)],ent gN 2,[cell (ent gN 3) 0],cls (ent gN 4) 0 10 [],[.sl n479 31 c480]])) (aa
 (cell (el c480 31 (Int.toNat z478)) 3) fun z482=>ifK (decide (z482 = (1 : Int))) (ckK (okI (z478+1)) (qP [[vI z477],[vI (z478+1)],ent
 gN 2,[cell (ent gN 3) 0],cls (ent gN 4) 0 10 [],[.sl n479 31 c480]])) (Lp (fun next483 fD=>aa (cell (ent fD 0) 0) fun z485 =>
 aa (cell (ent fD 1) 0) fun z486=>aa (cell (ent fD 2) 0) fun z487=>ah 9 (cell (ent fD 7) 0) fun n488 c489=>ah 31 (cell (ent
 fD 8) 0) fun n490 c491=>ah 11 (cell (ent fD 6) 8) fun n492 _=>ifK (decide (z487 < (n492 : Int))) (ah 11 (cell (ent fD 6) 8) fun
 n494 c495=>ckK (0<=z487/\z487 < (n494 : Int)) (ah 11 (cell (ent fD 6) 8) fun n496 c497=>ckK (0<=z487/\z487 < (n496 : Int)) (ckK (room
 (n488+1) 89) (ckK (okI (z487+1)) (next483 [[vI z485],[vI z486],[vI (z487+1)],ent fD 3,[cell (ent fD 4) 0],cls (ent fD 5) 0 10
 [],ent fD 6,[.sl (n488+1) 9 (c489++(cls (sub (el c495 11 (Int.toNat z487)) 0 3) 0 3 (vI 0::cls (sub (el c497 11 (Int.toNat z487)) 4 5) 0
 5 [])))],[.sl n490 31 c491]]))))) (caK Is s49 [sub (ent fD 6) 9 5,[.sl n488 9 c489],[vI 4],cls (ent fD 5) 0 4 (vI 14::vI z486::cls
 (sub (ent fD 6) 4 3) 0 3 [vI 0]),[.sl n490 31 c491]] fun r498=>ah 1 (cell (ent r498 1) 0) fun n499 c500=>ah 31 (cell (ent r498 3) 0) fun
 n501 c502=>ckK (0<=z486/\z486 < (n501 : Int)) (ckK (0<=z486/\z486 < (n501 : Int)) (caK Is s50 [sub (el (upd c502 ((Int.toNat z486) * 31+14)
 (cls (ent r498 0) 0 14 [.sl n499 1 c500])) 31 (Int.toNat z486)) 14 15] fun r503=>aa (cell (ent r503 0) 0) fun z504=>ifK (decide ((30 : Int) <
 z504)) (caK Is s49 [sub (ent fD 6) 9 5,[.sl n488 9 c489],[vI 0],cls (ent r498 2) 0 4 (vI 0::cls (ent r498 2) 5 5 []),[.sl n501 31 (upd c502
 ((Int.toNat z486) * 31+14) (cls (ent r498 0) 0 14 [.sl n499 1 c500]))]] fun r505=>ah 1 (cell (ent r505 1) 0) fun n506 c507=>ah 31 (cell
 (ent r505 3) 0) fun n508 c509=>ckK (0<=z486/\z486 < (n508 : Int)) (ckK (okI (z486+1)) (qP [[vI z485],[vI (z486+1)],ent fD 3,[cell
 (ent fD 4) 0],cls (ent r505 2) 0 10 [],[.sl n508 31 (upd c509 ((Int.toNat z486) * 31+14) (cls (ent r505 0) 0 14 [.sl n506 1 c507]))]]))) (ckK
 (okI (z486+1)) (qP [[vI z485],[vI (z486+1)],ent fD 3,[cell (ent fD 4) 0],cls (ent r498 2) 0 10 [],[.sl n501 31 (upd c502
 ((Int.toNat z486) * 31+14) (cls (ent r498 0) 0 14 [.sl n499 1 c500]))]])))))) [[vI z477],[vI z478],[vI 0],ent gN 2,[cell (ent gN 3) 0],
 cls (ent gN 4) 0 10 [],el c480 31 (Int.toNat z478),[.sl 0 9 []],[.sl n479 31 c480]])))) (aa (cell (ent gN 4) 3) fun z510=>aa (cell
 (ent gN 4) 3) fun z511=>ckK (0<=z510/\z510 = z511/\room (Int.toNat z510) 25) (Lp (fun wz kT=>aa (cell (ent kT 0) 0) fun z514
 => aa (cell (ent kT 1) 0) fun z515=>ah 3 (cell (ent kT 4) 0) fun n516 c517=>ah 31 (cell (ent kT 5) 0) fun n518 c519=>ifK
 (decide (z515 < (n518 : Int))) (ckK (0<=z515/\z515 < (n518 : Int)) (aa (cell (el c519 31 (Int.toNat z515)) 3) fun z520=>ifK (decide (z520 = (0
 : Int))) (ckK (okI (z515+1)) (wz [[vI z514],[vI (z515+1)],ent kT 2,[cell (ent kT 3) 0],[.sl n516 3 c517],[.sl n518 31 c519]]))
 (ckK (0<=z515/\z515 < (n518 : Int)) (aa (cell (el c519 31 (Int.toNat z515)) 3) fun z521=>ifK (decide (z521 = (1 : Int))) (ckK (okI (z515+1))
 (wz [[vI z514],[vI (z515+1)],ent kT 2,[cell (ent kT 3) 0],[.sl n516 3 c517],[.sl n518 31 c519]])) (ckK (0<=z515/\z515 < (n518 :
 Int)) (caK Is s51 [sub (el c519 31 (Int.toNat z515)) 14 15,[.sl 0 1 []]] fun r522=>ah 1 (cell (ent r522 0) 0) fun n523 c524=>Lp (fun next525
 mI=>aa (cell (ent mI 0) 0) fun z527=>aa (cell (ent mI 1) 0) fun z528=>aa (cell (ent mI 2) 0) fun z529=>ah 3 (cell (ent
 mI 5) 0) fun n530 c531=>ah 1 (cell (ent mI 6) 0) fun n532 c533=>ah 31 (cell (ent mI 7) 0) fun n534 c535=>ifK (decide (z529 <
 (n532 : Int))) (ckK (0<=z529/\z529 < (n532 : Int)) (caK Is s39 [[vI z527]] fun r536=>aa (cell (el c533 1 (Int.toNat z529)) 0) fun z537=>ckK
 (0<=z537/\z537 < (n530 : Int)) (ckK (okI (z527+1)) (ckK (okI (z529+1)) (next525 [[vI (z527+1)],[vI z528],[vI (z529+1)],ent mI 3,
 [cell (ent mI 4) 0],[.sl n530 3 (upd c531 ((Int.toNat z537) * 3+0) (ent r536 0))],[.sl n532 1 c533],[.sl n534 31 c535]]))))) (ckK (0<=z528
 /\ z528 < (n534 : Int)) (caK Is s52 [sub (el c535 31 (Int.toNat z528)) 14 15,[.sl n530 3 c531]] fun r538=>ah 15 (cell (ent r538 1) 0) fun n539
 c540=>ah 3 (cell (ent r538 2) 0) fun n541 c542=>ckK (0<=z528/\z528 < (n534 : Int)) (ckK (okI (z528+1)) (wz [[vI z527],[vI (z528 +
 1)],ent mI 3,[cell (ent mI 4) 0],[.sl n541 3 c542],[.sl n534 31 (upd c535 ((Int.toNat z528) * 31+14) (cls (ent r538 0) 0 13 [.sl n539 15
 c540,cell (ent r538 0) 13]))]]))))) [[vI z514],[vI z515],[vI 0],ent kT 2,[cell (ent kT 3) 0],[.sl n516 3 c517],[.sl n523 1 c524],[.sl
 n518 31 c519]])))))) (K [[cell (ent kT 3) 0,.sl n518 31 c519]])) [[vI z477],[vI 0],ent gN 2,[cell (ent gN 3) 0],[.sl (Int.toNat z510)
 3 (List.flatten (List.replicate (Int.toNat z510) [vI 0,vI 0,vI 0]))],[.sl n479 31 c480]]))) [[vI z439],[vI 0],ent dx 4,[.sl 1 6 (cls (ent
 dx 6) 0 5 [.sl n445 3 c446])],[.sl 1 6 (cls (ent dx 6) 0 5 [.sl n445 3 c446]),cell (ent dx 0) 0,vI 24,vI 0,vI 0,vI 0,vI 0,vI 0,vI
 0,vI 0],[.sl n443 31 c444]])) [[cell (ent a 0) 0],[vI (1+z2)],[vI ((1+z2)+(n301 : Int))],[vI 0],[.sl 0 6 [],.sl 0 31 []],[.sl n301 11
 c302],cls (ent r3 0) 0 3 ([cell (el ([vS (ByteArray.mk #[99,111,114,101]),vS (ByteArray.mk #[109,105,108,108])]) 1 0) 0,.sl 0 3 []]),[.sl
 0 31 []],[.sl 0 3 []]])))))) (caK Is s48 [[cell (ent a 0) 0],[vI (1+z2)]] fun r543=>ah 11 (cell (ent r543 0) 0) fun n544 c545=>ckK (okI
 ((1+z2)+(n544 : Int))) (Lp (fun _ dS=>aa (cell (ent dS 1) 0) fun z548=>aa (cell (ent dS 2) 0) fun z549=>aa (cell (ent dS
 3) 0) fun z550=>ah 11 (cell (ent dS 6) 0) fun n551 c552=>ah 31 (cell (ent dS 7) 0) fun n553 c554=>ifK (decide (z550 < (n551 : Int)))
 (ckK (okI (z548+z550)) (caK Is s39 [[vI (z548+z550)]] fun r555=>ckK (0<=z550/\z550 < (n551 : Int)) (ckK (0<=z550/\z550 < (n551 : Int))
 (caK Is s39 [[cell (el c552 11 (Int.toNat z550)) 10]] fun r556=>ckK (0<=z550/\z550 < (n551 : Int)) (ckK (0<=z550/\z550 < (n551 : Int)) (Lp
 (fun oh cr=>aa (cell (ent cr 1) 0) fun z584=>aa (cell (ent cr 2) 0) fun z585=>aa (cell (ent cr 3) 0) fun z586=>aa
 (cell (ent cr 4) 0) fun z587=>ah 11 (cell (ent cr 7) 0) fun n588 c589=>ah 31 (cell (ent cr 9) 0) fun n590 c591=>ah 11 (cell
 (ent cr 10) 0) fun n592 c593=>ckK (0<=z586/\z586 < (n588 : Int)) (ah 5 (cell (el c589 11 (Int.toNat z586)) 2) fun n594 _=>ifK (decide
 (z587 < (n594 : Int))) (caK Is s39 [[vI z585]] fun r596=>ckK (0<=z586/\z586 < (n588 : Int)) (ah 1 (cell (el c589 11 (Int.toNat z586)) 3) fun
 n597 c598=>ckK (0<=z587/\z587 < (n597 : Int)) (ckK (0<=z586/\z586 < (n588 : Int)) (ah 5 (cell (el c589 11 (Int.toNat z586)) 2) fun n599 c600
 => ckK (0<=z587/\z587 < (n599 : Int)) (aa (cell (ent cr 8) 3) fun z601=>ifK (decide (z601 = (4 : Int))) (ckK (0<=z586/\z586 < (n588 :
 Int)) (ah 1 (cell (el c589 11 (Int.toNat z586)) 4) fun n602 c603=>ckK (0<=z587/\z587 < (n602 : Int)) (ckK (room (n592+1) 113) (ckK (okI
 (z585+1)) (ckK (okI (z587+1)) (oh [[cell (ent cr 0) 0],[vI z584],[vI (z585+1)],[vI z586],[vI (z587+1)],ent cr 5,[cell (ent
 cr 6) 0],[.sl n588 11 c589],cls (ent cr 8) 0 30 [],[.sl n590 31 c591],[.sl (n592+1) 11 (c593++(cls (ent r596 0) 0 3 (cell (el c598 1
 (Int.toNat z587)) 0::cls (el c600 5 (Int.toNat z587)) 0 5 [cell (el c603 1 (Int.toNat z587)) 0,vI z587])))]])))))) (ckK (room (n592+1) 113)
 (ckK (okI (z585+1)) (ckK (okI (z587+1)) (oh [[cell (ent cr 0) 0],[vI z584],[vI (z585+1)],[vI z586],[vI (z587+1)],ent cr 5,
 [cell (ent cr 6) 0],[.sl n588 11 c589],cls (ent cr 8) 0 30 [],[.sl n590 31 c591],[.sl (n592+1) 11 (c593++(cls (ent r596 0) 0 3 (cell
 (el c598 1 (Int.toNat z587)) 0::cls (el c600 5 (Int.toNat z587)) 0 5 [vI 0,vI z587])))]]))))))))) (ckK (room (n590+1) 353) (ckK (0<=z586 /\
 z586 < (n588 : Int)) (ckK (0<=z586/\z586 < (n588 : Int)) (aa (cell (el c589 11 (Int.toNat z586)) 10) fun z604=>ah 6 (cell (ent cr 6) 0)
 fun n605 _=>ckK (0<=z604/\z604 < (n605 : Int)) (False))))))) [[cell (ent dS 0) 0],[vI z548],[vI z549],[vI z550],[vI 0],ent dS 4,
 [cell (ent dS 5) 0],[.sl n551 11 c552],cls (ent r555 0) 0 3 (cell (el c552 11 (Int.toNat z550)) 0::cls (ent r556 0) 0 3 (cell (el c552 11
 (Int.toNat z550)) 1::cls (sub (el c552 11 (Int.toNat z550)) 5 5) 0 5 ([vI 0,vI 0,vI 0,vI 0,vI 0,vI 0,vI 0,vI 0,vI 0,vI 0,vI 0,vI 0,.sl
 0 5 [],.sl 0 15 [],.sl 0 1 [],vI 0,.sl 0 1 []]))),[.sl n553 31 c554],[.sl 0 11 []]])))))) (Lp (fun qO gM=>aa (cell (ent gM 0)
 0) fun z609=>aa (cell (ent gM 1) 0) fun z610=>ah 31 (cell (ent gM 5) 0) fun n611 c612=>ifK (decide (z610 < (n611 : Int))) (ckK (0 <=
 z610/\z610 < (n611 : Int)) (aa (cell (el c612 31 (Int.toNat z610)) 3) fun z613=>ifK (decide (z613 = (0 : Int))) (ckK (okI (z610+1)) (qO
 [[vI z609],[vI (z610+1)],ent gM 2,[cell (ent gM 3) 0],cls (ent gM 4) 0 10 [],[.sl n611 31 c612]])) (aa (cell (el c612 31
 (Int.toNat z610)) 3) fun z614=>ifK (decide (z614 = (1 : Int))) (ckK (okI (z610+1)) (qO [[vI z609],[vI (z610+1)],ent gM 2,[cell (ent
 gM 3) 0],cls (ent gM 4) 0 10 [],[.sl n611 31 c612]])) (Lp (fun next615 fC=>aa (cell (ent fC 0) 0) fun z617=>aa (cell (ent
 fC 1) 0) fun z618=>aa (cell (ent fC 2) 0) fun z619=>ah 9 (cell (ent fC 7) 0) fun n620 c621=>ah 31 (cell (ent fC 8) 0) fun
 n622 c623=>ah 11 (cell (ent fC 6) 8) fun n624 _=>ifK (decide (z619 < (n624 : Int))) (ah 11 (cell (ent fC 6) 8) fun n626 c627=>ckK (0
 <= z619/\z619 < (n626 : Int)) (ah 11 (cell (ent fC 6) 8) fun n628 c629=>ckK (0<=z619/\z619 < (n628 : Int)) (ckK (room (n620+1) 89) (ckK
 (okI (z619+1)) (next615 [[vI z617],[vI z618],[vI (z619+1)],ent fC 3,[cell (ent fC 4) 0],cls (ent fC 5) 0 10 [],ent fC 6,[.sl
 (n620+1) 9 (c621++(cls (sub (el c627 11 (Int.toNat z619)) 0 3) 0 3 (vI 0::cls (sub (el c629 11 (Int.toNat z619)) 4 5) 0 5 [])))],[.sl n622 31
 c623]]))))) (caK Is s49 [sub (ent fC 6) 9 5,[.sl n620 9 c621],[vI 4],cls (ent fC 5) 0 4 (vI 14::vI z618::cls (sub (ent fC 6) 4 3) 0
 3 [vI 0]),[.sl n622 31 c623]] fun r630=>ah 1 (cell (ent r630 1) 0) fun n631 c632=>ah 31 (cell (ent r630 3) 0) fun n633 c634=>ckK (0 <=
 z618/\z618 < (n633 : Int)) (ckK (0<=z618/\z618 < (n633 : Int)) (caK Is s50 [sub (el (upd c634 ((Int.toNat z618) * 31+14) (cls (ent r630 0) 0 14
 [.sl n631 1 c632])) 31 (Int.toNat z618)) 14 15] fun r635=>aa (cell (ent r635 0) 0) fun z636=>ifK (decide ((30 : Int) < z636)) (caK Is s49 [sub
 (ent fC 6) 9 5,[.sl n620 9 c621],[vI 0],cls (ent r630 2) 0 4 (vI 0::cls (ent r630 2) 5 5 []),[.sl n633 31 (upd c634 ((Int.toNat z618) * 31
 + 14) (cls (ent r630 0) 0 14 [.sl n631 1 c632]))]] fun r637=>ah 1 (cell (ent r637 1) 0) fun n638 c639=>ah 31 (cell (ent r637 3) 0) fun n640
 c641=>ckK (0<=z618/\z618 < (n640 : Int)) (ckK (okI (z618+1)) (qO [[vI z617],[vI (z618+1)],ent fC 3,[cell (ent fC 4) 0],cls
 (ent r637 2) 0 10 [],[.sl n640 31 (upd c641 ((Int.toNat z618) * 31+14) (cls (ent r637 0) 0 14 [.sl n638 1 c639]))]]))) (ckK (okI (z618+1))
 (qO [[vI z617],[vI (z618+1)],ent fC 3,[cell (ent fC 4) 0],cls (ent r630 2) 0 10 [],[.sl n633 31 (upd c634 ((Int.toNat z618) * 31 +
 14) (cls (ent r630 0) 0 14 [.sl n631 1 c632]))]])))))) [[vI z609],[vI z610],[vI 0],ent gM 2,[cell (ent gM 3) 0],cls (ent gM 4) 0 10
 [],el c612 31 (Int.toNat z610),[.sl 0 9 []],[.sl n611 31 c612]])))) (aa (cell (ent gM 4) 3) fun z642=>aa (cell (ent gM 4) 3) fun z643
 => ckK (0<=z642/\z642 = z643/\room (Int.toNat z642) 25) (Lp (fun wv kS=>aa (cell (ent kS 0) 0) fun z646=>aa (cell (ent kS
 1) 0) fun z647=>ah 3 (cell (ent kS 4) 0) fun n648 c649=>ah 31 (cell (ent kS 5) 0) fun n650 c651=>ifK (decide (z647 < (n650 : Int)))
 (ckK (0<=z647/\z647 < (n650 : Int)) (aa (cell (el c651 31 (Int.toNat z647)) 3) fun z652=>ifK (decide (z652 = (0 : Int))) (ckK (okI (z647+1))
 (wv [[vI z646],[vI (z647+1)],ent kS 2,[cell (ent kS 3) 0],[.sl n648 3 c649],[.sl n650 31 c651]])) (ckK (0<=z647/\z647 < (n650 :
 Int)) (aa (cell (el c651 31 (Int.toNat z647)) 3) fun z653=>ifK (decide (z653 = (1 : Int))) (ckK (okI (z647+1)) (wv [[vI z646],[vI (z647
 + 1)],ent kS 2,[cell (ent kS 3) 0],[.sl n648 3 c649],[.sl n650 31 c651]])) (ckK (0<=z647/\z647 < (n650 : Int)) (caK Is s51 [sub (el c651
 31 (Int.toNat z647)) 14 15,[.sl 0 1 []]] fun r654=>ah 1 (cell (ent r654 0) 0) fun n655 c656=>Lp (fun next657 mH=>aa (cell (ent mH
 0) 0) fun z659=>aa (cell (ent mH 1) 0) fun z660=>aa (cell (ent mH 2) 0) fun z661=>ah 3 (cell (ent mH 5) 0) fun n662 c663 =>
 ah 1 (cell (ent mH 6) 0) fun n664 c665=>ah 31 (cell (ent mH 7) 0) fun n666 c667=>ifK (decide (z661 < (n664 : Int))) (ckK (0<=z661 /\
 z661 < (n664 : Int)) (caK Is s39 [[vI z659]] fun r668=>aa (cell (el c665 1 (Int.toNat z661)) 0) fun z669=>ckK (0<=z669/\z669 < (n662 : Int))
 (ckK (okI (z659+1)) (ckK (okI (z661+1)) (next657 [[vI (z659+1)],[vI z660],[vI (z661+1)],ent mH 3,[cell (ent mH 4) 0],[.sl n662 3
 (upd c663 ((Int.toNat z669) * 3+0) (ent r668 0))],[.sl n664 1 c665],[.sl n666 31 c667]]))))) (ckK (0<=z660/\z660 < (n666 : Int)) (caK Is s52
 [sub (el c667 31 (Int.toNat z660)) 14 15,[.sl n662 3 c663]] fun r670=>ah 15 (cell (ent r670 1) 0) fun n671 c672=>ah 3 (cell (ent r670 2) 0)
 fun n673 c674=>ckK (0<=z660/\z660 < (n666 : Int)) (ckK (okI (z660+1)) (wv [[vI z659],[vI (z660+1)],ent mH 3,[cell (ent mH 4)
 0],[.sl n673 3 c674],[.sl n666 31 (upd c667 ((Int.toNat z660) * 31+14) (cls (ent r670 0) 0 13 [.sl n671 15 c672,cell (ent r670 0) 13]))]])))))
 [[vI z646],[vI z647],[vI 0],ent kS 2,[cell (ent kS 3) 0],[.sl n648 3 c649],[.sl n655 1 c656],[.sl n650 31 c651]])))))) (K [[cell (ent
 kS 3) 0,.sl n650 31 c651]])) [[vI z609],[vI 0],ent gM 2,[cell (ent gM 3) 0],[.sl (Int.toNat z642) 3 (List.flatten (List.replicate
 (Int.toNat z642) [vI 0,vI 0,vI 0]))],[.sl n611 31 c612]]))) [[vI z549],[vI 0],ent dS 4,[cell (ent dS 5) 0],[cell (ent dS 5) 0,cell
 (ent dS 0) 0,vI 24,vI 0,vI 0,vI 0,vI 0,vI 0,vI 0,vI 0],[.sl n553 31 c554]])) [[cell (ent a 0) 0],[vI (1+z2)],[vI ((1+z2)+(n544 :
 Int))],[vI 0],[.sl 0 6 [],.sl 0 31 []],[.sl 0 6 []],[.sl n544 11 c545],[.sl 0 31 []]])))
theorem w19 : Wd ⟨[s39,s40,s48,s49,s50,s51,s52],[35],[29]⟩ ⟨[(13,⟨[(0,.c .d),(2,.c (.p 0 0)),(3,.c .i),(4,.c (.p 1 0)),(7,.c (.w 2)),(8,.c .i),(9,.c .i)],[(0,.a 32 2),(1,.b 32 [.w 3,.w 4]),(2,.w 89 11),(3,.v 76 6 1 (ds 5++[.w 5])),(4,.w 52 31),(5,.w 35 3)]⟩),(13,⟨[(0,.c .d),(2,.c (.p 0 0)),(3,.c .i),(4,.c (.p 1 0)),(7,.c (.w 2)),(8,.c .i),(9,.c .i)],[(0,.a 32 2),(1,.b 32 [.w 3,.w 4]),(2,.w 89 11),(3,.v 76 6 2 (ds 5++[.w 5,.d,.d,.d,.d,.w 6,.w 7])),(4,.w 52 31),(5,.w 35 3),(6,.w 35 3),(7,.w 35 3)]⟩),(13,⟨[(0,.c .d),(2,.c (.p 0 0)),(3,.c .i),(4,.c (.p 1 0)),(7,.c (.w 2)),(8,.c .i),(9,.c .i)],[(0,.a 32 2),(1,.b 32 [.d,.w 3]),(2,.w 89 11),(3,.w 52 31)]⟩),(17,⟨[(0,.c .d),(2,.c (.p 0 0)),(3,.c .i),(4,.c (.p 1 0)),(7,.c (.w 2)),(8,.c .i),(9,.c .i),(10,.c (.p 3 0)),(11,.c .i)],[(0,.a 32 2),(1,.b 32 [.w 4,.w 5]),(2,.w 89 11),(3,.b 52 (.d::.d::.d::.d::.d::.d::.d::.d::.w 6::ds 22)),(4,.v 76 6 1 (ds 5++[.w 7])),(5,.w 52 31),(6,.w 68 11),(7,.w 35 3)]⟩),(17,⟨[(0,.c .d),(2,.c (.p 0 0)),(3,.c .i),(4,.c (.p 1 0)),(7,.c (.w 2)),(8,.c .i),(9,.c .i),(10,.c (.p 3 0)),(11,.c .i)],[(0,.a 32 2),(1,.b 32 [.w 4,.w 5]),(2,.w 89 11),(3,.b 52 (.d::.d::.d::.d::.d::.d::.d::.d::.w 6::ds 22)),(4,.v 76 6 2 (ds 5++[.w 7,.d,.d,.d,.d,.w 8,.w 9])),(5,.w 52 31),(6,.w 68 11),(7,.w 35 3),(8,.w 35 3),(9,.w 35 3)]⟩),(17,⟨[(0,.c .d),(2,.c (.p 0 0)),(3,.c .i),(4,.c (.p 1 0)),(7,.c (.w 2)),(8,.c .i),(9,.c .i),(10,.c (.p 3 0)),(11,.c .i)],[(0,.a 32 2),(1,.b 32 [.d,.w 4]),(2,.w 89 11),(3,.b 52 (.d::.d::.d::.d::.d::.d::.d::.d::.w 5::ds 22)),(4,.w 52 31),(5,.w 68 11)]⟩),(28,⟨[(2,.c (.p 0 0)),(4,.c (.p 1 0)),(8,.c .i),(13,.c (.p 2 0)),(14,.c .i)],[(0,.a 32 2),(1,.b 32 [.d,.w 3]),(2,.b 92 (.d::.w 3::ds 9)),(3,.w 52 31)]⟩),(34,⟨[(2,.c (.p 0 0)),(4,.c (.p 1 0)),(8,.c .i),(13,.c (.p 2 0)),(14,.c .i),(15,.c (.p 3 0)),(16,.c (.w 4)),(17,.c .i)],[(0,.a 32 2),(1,.b 32 [.d,.w 5]),(2,.b 92 (.d::.w 5::ds 9)),(3,.a 52 31),(4,.w 95 9),(5,.w 52 31)]⟩),(47,⟨[(2,.c (.p 0 0)),(4,.c (.p 1 0)),(8,.c .i),(18,.c (.w 2)),(19,.c .i)],[(0,.a 32 2),(1,.b 32 [.d,.w 3]),(2,.w 35 3),(3,.w 52 31)]⟩),(52,⟨[(2,.c (.p 0 0)),(4,.c (.p 1 0)),(8,.c .i),(18,.c (.w 2)),(19,.c .i),(20,.c (.w 3)),(21,.c .i)],[(0,.a 32 2),(1,.b 32 [.d,.w 4]),(2,.w 35 3),(3,.w 3 1),(4,.w 52 31)]⟩)],[],[(4,3)]⟩ s19 g19:=fun _ _ _=>by kernel_rfl
def g40 : Tx:=fun Is a K=>aa (cell (ent a 1) 0) fun z1=>aa (cell (ent a 2) 0) fun z2=>ifK (decide (z1 < (0 : Int))) (K [[vI 0]]) (ah 1
 (cell (ent a 0) 0) fun n3 _=>ifK (decide ((n3 : Int)<=z1)) (K [[vI 0]]) (ah 1 (cell (ent a 0) 0) fun n5 c6=>ckK (0<=z1/\z1 < (n5 : Int))
 (caK Is s16 [[cell (el c6 1 (Int.toNat z1)) 0],[vI z2]] fun r7=>aa (cell (ent r7 0) 0) fun z8=>K [[vI z8]])))
theorem w40 : Wd ⟨[s16],[35],[]⟩ ⟨[],[],[]⟩ s40 g40:=fun _ _ _=>by kernel_rfl
def g16 : Tx:=fun _ a K=>aa (cell (ent a 0) 0) fun z1=>aa (cell (ent a 1) 0) fun z2=>jn (fun k3=>ifK (decide (z1 < (0 : Int))) (ckK (okI
 (z1+1)) (ckK (okI (-(z1+1))) (k3 [[vI (-(z1+1))],[vI z2]]))) (k3 [[vI z1],[vI z2]])) (fun st4=>aa (cell (ent st4 0) 0) fun z5=>aa
 (cell (ent st4 1) 0) fun z6=>ckK (z6 ≠ 0) (K [[vI (Int.tmod z5 z6)]]))
theorem w16 : Wd ⟨[],[35],[]⟩ ⟨[],[(3,⟨[(0,.c .i),(1,.c .i)],[]⟩)],[]⟩ s16 g16:=fun _ _ _=>by kernel_rfl
def g39 : Tx:=fun _ a K=>aa (cell (ent a 0) 0) fun z1=>ckK ((32 : Int) ≠ 0/\okI (Int.tdiv z1 32)) (ckK (okI (1+(Int.tdiv z1 32))) (ckK ((32
 : Int) ≠ 0) (K [[vI 0,vI (1+(Int.tdiv z1 32)),vI (Int.tmod z1 32)]])))
theorem w39 : Wd ⟨[],[35],[]⟩ ⟨[],[],[]⟩ s39 g39:=fun _ _ _=>by kernel_rfl
def g48 : Tx:=fun Is a K=>aa (cell (ent a 1) 0) fun z1=>caK Is s40 [[cell (ent a 0) 0],[vI 1],[vI 4]] fun r2=>aa (cell (ent r2 0) 0) fun
 z3=>caK Is s39 [[vI z1]] fun r4=>caK Is s42 [ent r4 0] fun r5=>ckK (okI (z1+1)) (caK Is s39 [[vI (z1+1)]] fun r6=>caK Is s42 [ent r6 0]
 fun r7=>jn (fun k8=>Lp (fun next10 nW=>aa (cell (ent nW 1) 0) fun z12=>bU (cell (ent nW 2) 0) fun b13=>aa (cell (ent nW 3)
 0) fun z14=>ah 5 (cell (ent nW 6) 0) fun n15 c16=>caK Is s40 [[cell (ent nW 0) 0],[vI 2],[vI 3]] fun r17=>aa (cell (ent r17 0) 0)
 fun z18=>ckK (okI (1+z18)) (ifK (decide (z14 < (1+z18))) (ckK (okI (3+z14)) (caK Is s40 [[cell (ent nW 0) 0],[vI (3+z14)],[vI 3]] fun
 r19=>aa (cell (ent r19 0) 0) fun z20=>caK Is s75 [[vI z20],ent nW 4,ent nW 4] fun r21=>ckK (room (n15+1) 57) (ckK (okI (z14+1))
 (next10 [[cell (ent nW 0) 0],[vI z12],[vB b13],[vI (z14+1)],ent nW 4,ent nW 5,[.sl (n15+1) 5 (c16++((ent r21 0)++[]))]])))) (k8
 [[cell (ent nW 0) 0],[vI z12],[vB b13],ent nW 4,ent nW 5,[.sl n15 5 c16]]))) [[cell (ent a 0) 0],[vI z1],[vB (decide ((0 : Int) <
 z3))],[vI 0],ent r5 0,ent r7 0,[.sl 0 5 []]]) (fun st9=>aa (cell (ent st9 1) 0) fun z22=>bU (cell (ent st9 2) 0) fun b23=>ah 5 (cell
 (ent st9 5) 0) fun n24 c25=>Lp (fun next26 jr=>aa (cell (ent jr 1) 0) fun z28=>bU (cell (ent jr 2) 0) fun b29=>aa (cell (ent
 jr 3) 0) fun z30=>ah 5 (cell (ent jr 6) 0) fun n31 c32=>ah 11 (cell (ent jr 7) 0) fun n33 c34=>caK Is s40 [[cell (ent jr 0) 0],
 [vI 6],[vI 2]] fun r35=>aa (cell (ent r35 0) 0) fun z36=>ckK (okI (1+z36)) (ifK (decide (z30 < (1+z36))) (ckK (okI (7+z30)) (caK Is s40
 [[cell (ent jr 0) 0],[vI (7+z30)],[vI 4]] fun r37=>aa (cell (ent r37 0) 0) fun z38=>caK Is s75 [[vI z38],ent jr 4,ent jr 4] fun
 r39=>ckK (room (n31+1) 57) (ckK (okI (z30+1)) (next26 [[cell (ent jr 0) 0],[vI z28],[vB b29],[vI (z30+1)],ent jr 4,ent jr 5,[.sl
 (n31+1) 5 (c32++((ent r39 0)++[]))],[.sl n33 11 c34]])))) (ckK (room (n33+1) 161) (ckK (okI (z28 - 1)) (jn (fun k40=>ifK b29 (Lp (fun
 zL eD=>aa (cell (ent eD 1) 0) fun z44=>bU (cell (ent eD 2) 0) fun b45=>aa (cell (ent eD 3) 0) fun z46=>aa (cell (ent
 eD 4) 0) fun z47=>ah 5 (cell (ent eD 7) 0) fun n48 c49=>ah 11 (cell (ent eD 8) 0) fun n50 c51=>caK Is s40 [[cell (ent eD 0) 0],
 [vI 9],[vI 3]] fun r52=>aa (cell (ent r52 0) 0) fun z53=>ifK (decide (z47 < z53)) (ckK (okI (10+z47)) (caK Is s40 [[cell (ent eD 0) 0],
 [vI (10+z47)],[vI 4]] fun r54=>aa (cell (ent r54 0) 0) fun z55=>caK Is s75 [[vI z55],ent eD 5,ent eD 5] fun r56=>ckK (room (n48 +
 1) 57) (ckK (okI (z47+1)) (zL [[cell (ent eD 0) 0],[vI z44],[vB b45],[vI z46],[vI (z47+1)],ent eD 5,ent eD 6,[.sl (n48+1) 5
 (c49++((ent r56 0)++[]))],[.sl n50 11 c51],ent eD 9])))) (ckK (okI (z44+2)) (caK Is s39 [[vI (z44+2)]] fun r57=>caK Is s42 [ent r57 0]
 fun r58=>ckK (room (n50+1) 161) (caK Is s41 [[vI 0,vI 0,vI 0,vI 0,.sl 0 5 []]] fun r59=>ah 5 (cell (ent r59 1) 0) fun n60 c61=>ckK
 (room (n50+1+1) 161) (k40 [[cell (ent eD 0) 0],[vI z44],[vB b45],[vI z46],ent eD 5,ent eD 6,[.sl (n50+1+1) 11 ((c51++([vI 0,
 vS (ByteArray.mk #[83,116,97,116,101]),.sl n48 5 c49,.sl 3 1 ([vS (ByteArray.mk #[99,111,117,110,116]),vS (ByteArray.mk #[108,111,
 103]),vS (ByteArray.mk #[109,111,114,101])]),.sl 0 1 [],vI 0,vI 0,vI 0,vI 0,.sl 0 5 [],vI 0]))++([vI 0,vS (ByteArray.mk #[79,117,
 116]),.sl 3 5 ((ent r58 0)++(cls (ent r59 0) 0 4 ([.sl n60 5 c61,vI 0,vI 0,vI 0,vI 0,.sl 0 5 []]))),.sl 3 1 ([vS (ByteArray.mk #[115,116,
 97,116,101]),vS (ByteArray.mk #[115,105,103,110,97,108,115]),vS (ByteArray.mk #[110,101,120,116])]),.sl 0 1 [],vI 0,vI 0,vI 0,vI
 0,.sl 0 5 [],vI 0]))],ent r58 0]))))) [[cell (ent jr 0) 0],[vI z28],[vB b29],[vI (z28 - 1)],[vI 0],ent jr 4,ent jr 5,[.sl 1 5 ([vI
 0,vI 0,vI 0,vI 0,.sl 0 5 []])],[.sl (n33+1) 11 (c34++([vI 1,vS (ByteArray.mk #[69,118,101,110,116]),.sl n31 5 c32,.sl 3 1 ([vS
 (ByteArray.mk #[84,105,99,107]),vS (ByteArray.mk #[80,117,115,104]),vS (ByteArray.mk #[83,101,116])]),.sl 0 1 [],vI 0,vI 0,vI 0,vI 0,
 .sl 0 5 [],vI 0]))],ent jr 4]) (k40 [[cell (ent jr 0) 0],[vI z28],[vB b29],[vI (z28 - 1)],ent jr 4,ent jr 5,[.sl (n33+1) 11 (c34
 ++ ([vI 1,vS (ByteArray.mk #[69,118,101,110,116]),.sl n31 5 c32,.sl 3 1 ([vS (ByteArray.mk #[84,105,99,107]),vS (ByteArray.mk #[80,117,
 115,104]),vS (ByteArray.mk #[83,101,116])]),.sl 0 1 [],vI 0,vI 0,vI 0,vI 0,.sl 0 5 [],vI 0]))],ent jr 4])) (fun gT=>aa (cell
 (ent gT 1) 0) fun z62=>bU (cell (ent gT 2) 0) fun b63=>aa (cell (ent gT 3) 0) fun z64=>ah 11 (cell (ent gT 6) 0) fun n65 c66 =>
 caK Is s40 [[cell (ent gT 0) 0],[vI 12],[vI 6]] fun r67=>aa (cell (ent r67 0) 0) fun z68=>caK Is s75 [[vI z68],ent gT 4,ent gT 5]
 fun r69=>jn (fun k70=>caK Is s40 [[cell (ent gT 0) 0],[vI 13],[vI 2]] fun r72=>aa (cell (ent r72 0) 0) fun z73=>ifK (decide (z73 = (1
 : Int))) (caK Is s40 [[cell (ent gT 0) 0],[vI 14],[vI 6]] fun r74=>aa (cell (ent r74 0) 0) fun z75=>caK Is s75 [[vI z75],ent gT 4,ent
 gT 5] fun r76=>ckK (room (1+1) 57) (k70 [[cell (ent gT 0) 0],[vI z62],[vB b63],[vI z64],ent gT 4,ent gT 5,[.sl (1+1) 5 (((ent
 r69 0)++[])++((ent r76 0)++[]))],[.sl n65 11 c66],ent gT 7])) (k70 [[cell (ent gT 0) 0],[vI z62],[vB b63],[vI z64],ent gT 4,ent
 gT 5,[.sl 1 5 ((ent r69 0)++[])],[.sl n65 11 c66],ent gT 7])) (fun ji=>aa (cell (ent ji 1) 0) fun z77=>bU (cell (ent ji 2) 0)
 fun b78=>aa (cell (ent ji 3) 0) fun z79=>ah 5 (cell (ent ji 6) 0) fun n80 c81=>ah 11 (cell (ent ji 7) 0) fun n82 c83=>caK Is s40
 [[cell (ent ji 0) 0],[vI 15],[vI z77]] fun r84=>aa (cell (ent r84 0) 0) fun z85=>caK Is s40 [[cell (ent ji 0) 0],[vI 16],[vI 6]] fun
 r86=>aa (cell (ent r86 0) 0) fun z87=>caK Is s75 [[vI z87],ent ji 4,ent ji 4] fun r88=>ckK (room (n82+1) 161) (jn (fun k89=>ifK
 b78 (ckK (okI (z77+3)) (caK Is s39 [[vI (z77+3)]] fun r91=>caK Is s42 [ent r91 0] fun r92=>ckK (room (n82+1+1) 161) (k89 [[cell (ent
 ji 0) 0],[vI z79],ent ji 4,[.sl (n82+1+1) 11 ((c83++(vI 2::vS (ByteArray.mk #[102])::.sl n80 5 c81::.sl 2 1 ([vS (ByteArray.mk
 #[97]),vS (ByteArray.mk #[98])])::.sl 0 1 []::cls (ent r88 0) 0 5 [vI z85]))++(vI 3::vS (ByteArray.mk #[115,116,101,112])::.sl 2 5
 ((ent ji 8)++((ent ji 5)++[]))::.sl 2 1 ([vS (ByteArray.mk #[115]),vS (ByteArray.mk #[101])])::.sl 0 1 []::cls (ent r92 0) 0 5 [vI
 z79]))],ent ji 8,ent r88 0]))) (caK Is s40 [[cell (ent ji 0) 0],[vI 17],[vI 6]] fun r93=>aa (cell (ent r93 0) 0) fun z94=>caK Is s75
 [[vI z94],ent ji 4,ent ji 5] fun r95=>ckK (room (n82+1+1) 161) (k89 [[cell (ent ji 0) 0],[vI z79],ent ji 4,[.sl (n82+1+1) 11
 ((c83++(vI 2::vS (ByteArray.mk #[102])::.sl n80 5 c81::.sl 2 1 ([vS (ByteArray.mk #[97]),vS (ByteArray.mk #[98])])::.sl 0 1 []::cls
 (ent r88 0) 0 5 [vI z85]))++(vI 2::vS (ByteArray.mk #[103])::.sl 1 5 ((ent ji 5)++[])::.sl 1 1 ([vS (ByteArray.mk #[101])])::.sl 0 1
 []::cls (ent r95 0) 0 5 [vI z79]))],ent ji 8,ent r88 0]))) (fun qB=>aa (cell (ent qB 1) 0) fun z96=>ah 11 (cell (ent qB 3) 0)
 fun n97 c98=>caK Is s76 [[cell (ent qB 0) 0],[vI 18],ent qB 2] fun r99=>ah 5 (cell (ent r99 0) 0) fun n100 c101=>ah 1 (cell (ent r99
 1) 0) fun n102 c103=>caK Is s40 [[cell (ent qB 0) 0],[vI 21],[vI 6]] fun r104=>aa (cell (ent r104 0) 0) fun z105=>caK Is s75 [[vI z105],
 ent qB 2,ent qB 5] fun r106=>ckK (room (n97+1) 161) (caK Is s40 [[cell (ent qB 0) 0],[vI 22],[vI 4]] fun r107=>aa (cell (ent r107
 0) 0) fun z108=>ifK (decide ((0 : Int) < z108)) (caK Is s40 [[cell (ent qB 0) 0],[vI 23],[vI 6]] fun r109=>aa (cell (ent r109 0) 0) fun
 z110=>caK Is s75 [[vI z110],ent qB 2,ent qB 4] fun r111=>ckK (room (n97+1+1) 161) (K [[.sl (n97+1+1) 11 ((c98++(vI 4::vS
 (ByteArray.mk #[116])::.sl n100 5 c101::.sl 2 1 ([vS (ByteArray.mk #[97]),vS (ByteArray.mk #[98])])::.sl n102 1 c103::cls (ent r106 0) 0 5
 [vI z96]))++(vI 5::vS (ByteArray.mk #[99])::.sl 1 5 ((ent qB 4)++[])::.sl 1 1 ([vS (ByteArray.mk #[111,108,100])])::.sl 0 1 [] ::
 cls (ent r111 0) 0 5 [vI z96]))]])) (K [[.sl (n97+1) 11 (c98++(vI 4::vS (ByteArray.mk #[116])::.sl n100 5 c101::.sl 2 1 ([vS (ByteArray.mk
 #[97]),vS (ByteArray.mk #[98])])::.sl n102 1 c103::cls (ent r106 0) 0 5 [vI z96]))]]))))))))))) [[cell (ent st9 0) 0],[vI z22],[vB b23],[vI
 0],ent st9 3,ent st9 4,[.sl 1 5 ([vI 0,vI 0,vI 0,vI 0,.sl 0 5 []])],[.sl 1 11 ([vI 0,vS (ByteArray.mk #[80,111,105,110,116]),.sl n24 5
 c25,.sl 3 1 ([vS (ByteArray.mk #[120]),vS (ByteArray.mk #[121]),vS (ByteArray.mk #[122])]),.sl 0 1 [],vI 0,vI 0,vI 0,vI 0,.sl 0 5 [],vI
 0])]]))
theorem w48 : Wd ⟨[s39,s40,s41,s42,s75,s76],[35],[]⟩ ⟨[(6,⟨[(0,.c .d),(1,.c .i),(5,.c .bo),(6,.c (.p 0 0)),(7,.c (.p 1 0)),(8,.c (.w 2)),(9,.c .i)],[(0,.a 38 5),(1,.a 38 5),(2,.w 38 5)]⟩),(12,⟨[(0,.c .d),(1,.c .i),(5,.c .bo),(6,.c (.p 0 0)),(7,.c (.p 1 0)),(8,.c (.w 2)),(10,.c (.w 3)),(11,.c .i)],[(0,.a 38 5),(1,.a 38 5),(2,.w 38 5),(3,.w 89 11)]⟩),(21,⟨[(0,.c .d),(1,.c .i),(5,.c .bo),(6,.c (.p 0 0)),(7,.c (.p 1 0)),(8,.c (.w 2)),(10,.c (.w 3)),(12,.c .i),(13,.c (.p 4 0)),(14,.c .i)],[(0,.a 38 5),(1,.a 38 5),(2,.w 38 5),(3,.w 89 11),(4,.a 38 5)]⟩)],[(9,⟨[(0,.c .d),(1,.c .i),(5,.c .bo),(6,.c (.p 0 0)),(7,.c (.p 1 0)),(8,.c (.w 2))],[(0,.a 38 5),(1,.a 38 5),(2,.w 38 5)]⟩),(27,⟨[(0,.c .d),(1,.c .i),(5,.c .bo),(6,.c (.p 0 0)),(7,.c (.p 1 0)),(10,.c (.w 2)),(12,.c .i),(13,.c (.p 3 0))],[(0,.a 38 5),(1,.a 38 5),(2,.w 89 11),(3,.a 38 5)]⟩),(30,⟨[(0,.c .d),(1,.c .i),(5,.c .bo),(6,.c (.p 0 0)),(7,.c (.p 1 0)),(8,.c (.w 2)),(10,.c (.w 3)),(12,.c .i),(13,.c (.p 4 0))],[(0,.a 38 5),(1,.a 38 5),(2,.w 38 5),(3,.w 89 11),(4,.a 38 5)]⟩),(36,⟨[(0,.c .d),(6,.c (.p 0 0)),(10,.c (.w 1)),(12,.c .i),(13,.c (.p 2 0)),(16,.c (.p 3 0))],[(0,.a 38 5),(1,.w 89 11),(2,.a 38 5),(3,.a 38 5)]⟩)],[]⟩ s48 g48:=fun _ _ _=>by kernel_rfl
def g42 : Tx:=fun _ a K=>K [vI 3::cls (ent a 0) 0 3 ([.sl 0 5 []])]
theorem w42 : Wd ⟨[],[35],[]⟩ ⟨[],[],[]⟩ s42 g42:=fun _ _ _=>by kernel_rfl
def g75 : Tx:=fun Is a K=>aa (cell (ent a 0) 0) fun z1=>caK Is s41 [[vI 0,vI 0,vI 0,vI 0,.sl 0 5 []]] fun r2=>ah 5 (cell (ent r2 1) 0)
 fun n3 c4=>caK Is s16 [[vI z1],[vI 6]] fun r5=>aa (cell (ent r5 0) 0) fun z6=>ckK (0<=z6/\z6 < (6 : Int)) (K [el (([vI 0,vI 0,vI 0,vI
 0,.sl 0 5 []])++(([vI 1,vI 0,vI 0,vI 0,.sl 0 5 []])++((cls (ent r2 0) 0 4 [.sl n3 5 c4])++((ent a 1)++((ent a 2)++([vI 0,vI 0,vI 0,
 vI 0,.sl 0 5 []])))))) 5 (Int.toNat z6)])
theorem w75 : Wd ⟨[s16,s41],[35],[]⟩ ⟨[],[],[]⟩ s75 g75:=fun _ _ _=>by kernel_rfl
def g41 : Tx:=fun _ a K=>K [[vI 2,vI 0,vI 0,vI 0],[.sl 1 5 ((ent a 0)++[])]]
theorem w41 : Wd ⟨[],[35],[]⟩ ⟨[],[],[]⟩ s41 g41:=fun _ _ _=>by kernel_rfl
def g76 : Tx:=fun Is a K=>aa (cell (ent a 1) 0) fun z1=>caK Is s40 [[cell (ent a 0) 0],[vI z1],[vI 5]] fun r2=>aa (cell (ent r2 0) 0)
 fun z3=>ckK (okI (z1+1)) (caK Is s40 [[cell (ent a 0) 0],[vI (z1+1)],[vI 3]] fun r4=>aa (cell (ent r4 0) 0) fun z5=>ckK (okI (1+z5))
 (jn (fun k6=>ifK (decide (z3 = (1 : Int))) (ckK (0<=(0 : Int)/\(0 : Int) < (1 : Int)) (ckK (0<=(0 : Int)/\(0 : Int) < (1 : Int)) (k6 [[cell
 (ent a 0) 0],[vI z1],[vI z3],ent a 2,[.sl 1 5 (upd ([vI 0,vI 0,vI 0,vI 0,.sl 0 5 []]) (0 * 5+0) ([vI 1,vI 0,vI 0,vI 0,.sl 0 5 []]))],
 [.sl 1 1 (upd [vI (1+z5)] (0 * 1+0) [vI 0])]]))) (k6 [[cell (ent a 0) 0],[vI z1],[vI z3],ent a 2,[.sl 1 5 ([vI 0,vI 0,vI 0,vI 0,.sl 0 5
 []])],[.sl 1 1 [vI (1+z5)]]])) (fun st7=>aa (cell (ent st7 1) 0) fun z8=>aa (cell (ent st7 2) 0) fun z9=>ah 5 (cell (ent st7 4) 0)
 fun n10 c11=>ah 1 (cell (ent st7 5) 0) fun n12 c13=>jn (fun k14=>ifK (decide (z9 = (2 : Int))) (caK Is s41 [[vI 0,vI 0,vI 0,vI 0,.sl 0 5
 []]] fun r16=>ah 5 (cell (ent r16 1) 0) fun n17 c18=>ckK (0<=(0 : Int)/\(0 : Int) < (n10 : Int)) (ckK (okI (z8+1)) (caK Is s40 [[cell (ent
 st7 0) 0],[vI (z8+1)],[vI 2]] fun r19=>aa (cell (ent r19 0) 0) fun z20=>ckK (okI (1+z20)) (ckK (0<=(0 : Int)/\(0 : Int) < (n12 : Int))
 (k14 [[cell (ent st7 0) 0],[vI z8],[vI z9],ent st7 3,[.sl n10 5 (upd c11 (0 * 5+0) (cls (ent r16 0) 0 4 [.sl n17 5 c18]))],[.sl n12 1 (upd
 c13 (0 * 1+0) [vI (1+z20)])]]))))) (k14 [[cell (ent st7 0) 0],[vI z8],[vI z9],ent st7 3,[.sl n10 5 c11],[.sl n12 1 c13]])) (fun cK =>
 aa (cell (ent cK 1) 0) fun z21=>aa (cell (ent cK 2) 0) fun z22=>ah 5 (cell (ent cK 4) 0) fun n23 c24=>ah 1 (cell (ent cK 5) 0)
 fun n25 c26=>jn (fun k27=>ifK (decide (z22 = (3 : Int))) (ckK (0<=(0 : Int)/\(0 : Int) < (n23 : Int)) (ckK (0<=(0 : Int)/\(0 : Int) < (n25 :
 Int)) (k27 [[cell (ent cK 0) 0],[vI z21],[.sl n23 5 (upd c24 (0 * 5+0) (ent cK 3))],[.sl n25 1 (upd c26 (0 * 1+0) [vI 1])]]))) (k27
 [[cell (ent cK 0) 0],[vI z21],[.sl n23 5 c24],[.sl n25 1 c26]])) (fun gU=>aa (cell (ent gU 1) 0) fun z29=>ah 5 (cell (ent gU 2)
 0) fun n30 c31=>ah 1 (cell (ent gU 3) 0) fun n32 c33=>ckK (okI (z29+2)) (caK Is s40 [[cell (ent gU 0) 0],[vI (z29+2)],[vI 3]] fun
 r34=>aa (cell (ent r34 0) 0) fun z35=>jn (fun k36=>ifK (decide (z35 = (1 : Int))) (ckK (room (n30+1) 57) (ckK (room (n32+1) 9) (k36 [[vI
 z35],[.sl (n30+1) 5 (c31++([vI 0,vI 0,vI 0,vI 0,.sl 0 5 []]))],[.sl (n32+1) 1 (c33++[vI 1])]]))) (k36 [[vI z35],[.sl n30 5 c31],[.sl
 n32 1 c33]])) (fun st37=>aa (cell (ent st37 0) 0) fun z38=>ah 5 (cell (ent st37 1) 0) fun n39 c40=>ah 1 (cell (ent st37 2) 0) fun n41
 c42=>jn (fun k43=>ifK (decide (z38 = (2 : Int))) (ckK (room (n39+1) 57) (ckK (room (n41+1) 9) (k43 [[.sl (n39+1) 5 (c40++([vI 1,vI 0,
 vI 0,vI 0,.sl 0 5 []]))],[.sl (n41+1) 1 (c42++[vI 0])]]))) (k43 [[.sl n39 5 c40],[.sl n41 1 c42]])) (fun st44=>ah 5 (cell (ent st44 0)
 0) fun n45 c46=>ah 1 (cell (ent st44 1) 0) fun n47 c48=>K [[.sl n45 5 c46],[.sl n47 1 c48]]))))))))
theorem w76 : Wd ⟨[s40,s41],[35],[]⟩ ⟨[],[(7,⟨[(0,.c .d),(1,.c .i),(5,.c (.p 0 0)),(8,.c .i),(9,.c (.w 1)),(10,.c (.w 2))],[(0,.a 38 5),(1,.w 38 5),(2,.w 3 1)]⟩),(10,⟨[(0,.c .d),(1,.c .i),(5,.c (.p 0 0)),(8,.c .i),(9,.c (.w 1)),(10,.c (.w 2))],[(0,.a 38 5),(1,.w 38 5),(2,.w 3 1)]⟩),(13,⟨[(0,.c .d),(1,.c .i),(9,.c (.w 0)),(10,.c (.w 1))],[(0,.w 38 5),(1,.w 3 1)]⟩),(17,⟨[(9,.c (.w 0)),(10,.c (.w 1)),(11,.c .i)],[(0,.w 38 5),(1,.w 3 1)]⟩),(20,⟨[(9,.c (.w 0)),(10,.c (.w 1))],[(0,.w 38 5),(1,.w 3 1)]⟩)],[]⟩ s76 g76:=fun _ _ _=>by kernel_rfl
def g49 : Tx:=fun Is a K=>aa (cell (ent a 2) 0) fun z1=>ah 31 (cell (ent a 4) 0) fun n2 c3=>caK Is s77 [[vI 65536],cls (ent a 3) 0 10 [],
 [.sl n2 31 c3]] fun r4=>aa (cell (ent r4 0) 0) fun z5=>ah 31 (cell (ent r4 2) 0) fun n6 c7=>caK Is s78 [[cell (ent a 1) 0],ent a 0] fun
 r8=>ah 9 (cell (ent r8 0) 0) fun n9 c10=>jn (fun k11=>aa (cell (ent r4 1) 4) fun z13=>ifK (decide (z13<=(0 : Int))) (k11 [[cell (ent a
 1) 0],[vI (min z1 0)],[vI z5],cls (ent r4 1) 0 10 [],ent a 0,[vI 0,vI 0,vI 0,vI 0,vI 0,vI 0,vI 0,vI 0,vI 0,vI 0,vI 0,vI 0,.sl 0 5
 [],.sl 0 15 [],.sl 0 1 []],[.sl n9 9 c10],[.sl n6 31 c7]]) (k11 [[cell (ent a 1) 0],[vI z1],[vI z5],cls (ent r4 1) 0 10 [],ent a 0,[vI 0,
 vI 0,vI 0,vI 0,vI 0,vI 0,vI 0,vI 0,vI 0,vI 0,vI 0,vI 0,.sl 0 5 [],.sl 0 15 [],.sl 0 1 []],[.sl n9 9 c10],[.sl n6 31 c7]])) (fun eU
 => aa (cell (ent eU 1) 0) fun z14=>aa (cell (ent eU 2) 0) fun z15=>ah 9 (cell (ent eU 6) 0) fun n16 c17=>ah 31 (cell (ent eU
 7) 0) fun n18 c19=>jn (fun k20=>ifK (decide ((0 : Int) < (n16 : Int))) (ifK (decide (z14<=(0 : Int))) (ckK ((3 : Int) ≠ 0/\okI (Int.tdiv z15
 3)) (ckK ((n16 : Int) ≠ 0) (ckK (0<=(Int.tmod (Int.tdiv z15 3) (n16 : Int))/\(Int.tmod (Int.tdiv z15 3) (n16 : Int)) < (n16 : Int)) (caK Is s79
 [el c17 9 (Int.toNat (Int.tmod (Int.tdiv z15 3) (n16 : Int))),cls (ent eU 3) 0 10 [],[.sl n18 31 c19]] fun r22=>ah 1 (cell (ent r22 1) 0)
 fun n23 c24=>ah 31 (cell (ent r22 3) 0) fun n25 c26=>K [cls (ent r22 0) 0 14 [],[.sl n23 1 c24],cls (ent r22 2) 0 10 [],[.sl n25 31
 c26]])))) (ckK ((3 : Int) ≠ 0) (ifK (decide ((Int.tmod z15 3) = (0 : Int))) (ckK ((3 : Int) ≠ 0/\okI (Int.tdiv z15 3)) (ckK ((n16 : Int) ≠ 0) (ckK
 (0<=(Int.tmod (Int.tdiv z15 3) (n16 : Int))/\(Int.tmod (Int.tdiv z15 3) (n16 : Int)) < (n16 : Int)) (caK Is s79 [el c17 9 (Int.toNat (Int.tmod
 (Int.tdiv z15 3) (n16 : Int))),cls (ent eU 3) 0 10 [],[.sl n18 31 c19]] fun r27=>ah 1 (cell (ent r27 1) 0) fun n28 c29=>ah 31 (cell (ent
 r27 3) 0) fun n30 c31=>K [cls (ent r27 0) 0 14 [],[.sl n28 1 c29],cls (ent r27 2) 0 10 [],[.sl n30 31 c31]])))) (k20 [[cell (ent eU 0) 0],
 [vI z14],[vI z15],cls (ent eU 3) 0 10 [],ent eU 4,ent eU 5,[.sl n18 31 c19]])))) (k20 [[cell (ent eU 0) 0],[vI z14],[vI z15],cls
 (ent eU 3) 0 10 [],ent eU 4,ent eU 5,[.sl n18 31 c19]])) (fun cG=>aa (cell (ent cG 1) 0) fun z32=>aa (cell (ent cG 2) 0) fun
 z33=>ah 31 (cell (ent cG 6) 0) fun n34 c35=>ifK (decide (z32<=(0 : Int))) (ckK ((3 : Int) ≠ 0/\okI (Int.tdiv z33 3)) (caK Is s80 [ent cG
 4,[cell (ent cG 0) 0],[vI (Int.tdiv z33 3)],[vI z32],cls (ent cG 3) 0 10 [],[.sl n34 31 c35]] fun r36=>ah 1 (cell (ent r36 1) 0) fun
 n37 c38=>ah 31 (cell (ent r36 3) 0) fun n39 c40=>K [cls (ent r36 0) 0 14 [],[.sl n37 1 c38],cls (ent r36 2) 0 10 [],[.sl n39 31 c40]]))
 (ckK ((3 : Int) ≠ 0/\okI (Int.tdiv z33 3)) (ckK ((12 : Int) ≠ 0) (ckK ((36 : Int) ≠ 0/\okI (Int.tdiv z33 36)) (ifK (decide ((Int.tmod (Int.tdiv
 z33 3) 12) = (0 : Int))) (ckK (okI (z32 - 1)) (caK Is s49 [[vI 1,vI 0,vI 0,vI 0,.sl 0 5 []],[cell (ent cG 0) 0],[vI (z32 - 1)],cls (ent
 cG 3) 0 10 [],[.sl n34 31 c35]] fun r41=>ah 1 (cell (ent r41 1) 0) fun n42 c43=>ah 31 (cell (ent r41 3) 0) fun n44 c45=>ckK (okI (z32 -
 1)) (caK Is s49 [ent cG 4,[cell (ent cG 0) 0],[vI (z32 - 1)],cls (ent r41 2) 0 10 [],[.sl n44 31 c45]] fun r46=>ah 1 (cell (ent r46 1)
 0) fun n47 c48=>ah 31 (cell (ent r46 3) 0) fun n49 c50=>ckK (okI (z32 - 1)) (caK Is s49 [ent cG 4,[cell (ent cG 0) 0],[vI (z32 - 1)],
 cls (ent r46 2) 0 10 [],[.sl n49 31 c50]] fun r51=>ah 1 (cell (ent r51 1) 0) fun n52 c53=>ah 31 (cell (ent r51 3) 0) fun n54 c55=>caK Is
 s81 [[vI 5],[vI 0],[.sl 3 15 (cls (ent r41 0) 0 14 (.sl n42 1 c43::cls (ent r46 0) 0 14 (.sl n47 1 c48::cls (ent r51 0) 0 14 [.sl n52 1
 c53])))],cls (ent r51 2) 0 10 [],[.sl n54 31 c55]] fun r56=>ah 1 (cell (ent r56 1) 0) fun n57 c58=>ah 31 (cell (ent r56 3) 0) fun n59 c60
 => K [cls (ent r56 0) 0 14 [],[.sl n57 1 c58],cls (ent r56 2) 0 10 [],[.sl n59 31 c60]])))) (ifK (decide ((Int.tmod (Int.tdiv z33 3) 12) = (1 :
 Int))) (ckK (okI (z32 - 1)) (caK Is s49 [[vI 1,vI 0,vI 0,vI 0,.sl 0 5 []],[cell (ent cG 0) 0],[vI (z32 - 1)],cls (ent cG 3) 0 10 [],[.sl
 n34 31 c35]] fun r61=>ah 1 (cell (ent r61 1) 0) fun n62 c63=>ah 31 (cell (ent r61 3) 0) fun n64 c65=>ckK (okI (z32 - 1)) (caK Is s49 [ent
 cG 4,[cell (ent cG 0) 0],[vI (z32 - 1)],cls (ent r61 2) 0 10 [],[.sl n64 31 c65]] fun r66=>ah 1 (cell (ent r66 1) 0) fun n67 c68=>ah
 31 (cell (ent r66 3) 0) fun n69 c70=>ckK (okI (z32 - 1)) (caK Is s49 [ent cG 4,[cell (ent cG 0) 0],[vI (z32 - 1)],cls (ent r66 2) 0 10 [],
 [.sl n69 31 c70]] fun r71=>ah 1 (cell (ent r71 1) 0) fun n72 c73=>ah 31 (cell (ent r71 3) 0) fun n74 c75=>caK Is s81 [[vI 5],[vI 0],[.sl
 3 15 (cls (ent r61 0) 0 14 (.sl n62 1 c63::cls (ent r66 0) 0 14 (.sl n67 1 c68::cls (ent r71 0) 0 14 [.sl n72 1 c73])))],cls (ent r71 2) 0 10
 [],[.sl n74 31 c75]] fun r76=>ah 1 (cell (ent r76 1) 0) fun n77 c78=>ah 31 (cell (ent r76 3) 0) fun n79 c80=>K [cls (ent r76 0) 0 14 [],
 [.sl n77 1 c78],cls (ent r76 2) 0 10 [],[.sl n79 31 c80]])))) (ifK (decide ((Int.tmod (Int.tdiv z33 3) 12) = (2 : Int))) (ah 9 (cell (ent cG
 0) 0) fun n81 _=>ckK ((n81 : Int) ≠ 0) (ah 9 (cell (ent cG 0) 0) fun n83 c84=>ckK (0<=(Int.tmod (Int.tdiv z33 36) (n81 : Int))/\(Int.tmod
 (Int.tdiv z33 36) (n81 : Int)) < (n83 : Int)) (ckK (okI (z32 - 1)) (caK Is s49 [sub (el c84 9 (Int.toNat (Int.tmod (Int.tdiv z33 36) (n81 : Int))))
 4 5,[cell (ent cG 0) 0],[vI (z32 - 1)],cls (ent cG 3) 0 10 [],[.sl n34 31 c35]] fun r85=>ah 1 (cell (ent r85 1) 0) fun n86 c87=>ah
 31 (cell (ent r85 3) 0) fun n88 c89=>caK Is s81 [[vI 6],[vI 0],[.sl 0 15 []],cls (ent r85 2) 0 10 [],[.sl n88 31 c89]] fun r90=>ah 1 (cell
 (ent r90 1) 0) fun _ _=>ah 31 (cell (ent r90 3) 0) fun n93 c94=>caK Is s82 [cls (ent r90 2) 0 10 [],[.sl n93 31 c94]] fun r95=>ah 31
 (cell (ent r95 2) 0) fun n96 c97=>caK Is s83 [[cell (ent cG 0) 0],cls (ent r90 0) 0 3 (vI 0::cls (sub (el c84 9 (Int.toNat (Int.tmod
 (Int.tdiv z33 36) (n81 : Int)))) 4 5) 0 5 [])] fun r98=>ah 9 (cell (ent r98 0) 0) fun n99 c100=>ckK (okI (z32 - 1)) (caK Is s49 [ent cG 4,
 [.sl n99 9 c100],[vI (z32 - 1)],cls (ent r95 1) 0 10 [],[.sl n96 31 c97]] fun r101=>ah 1 (cell (ent r101 1) 0) fun n102 c103=>ah 31 (cell
 (ent r101 3) 0) fun n104 c105=>K [cls (ent r90 0) 0 13 ([.sl 2 15 (cls (ent r85 0) 0 14 (.sl n86 1 c87::cls (ent r101 0) 0 14 [.sl n102 1
 c103]))]),[.sl 1 1 [cell (ent r95 0) 0]],cls (ent r101 2) 0 10 [],[.sl n104 31 c105]]))))) (ifK (decide ((Int.tmod (Int.tdiv z33 3) 12) = (3 :
 Int))) (caK Is s84 [ent cG 4,[cell (ent cG 0) 0],[vI (Int.tdiv z33 36)],[vI z32],cls (ent cG 3) 0 10 [],[.sl n34 31 c35]] fun r106 =>
 ah 1 (cell (ent r106 1) 0) fun n107 c108=>ah 31 (cell (ent r106 3) 0) fun n109 c110=>K [cls (ent r106 0) 0 14 [],[.sl n107 1 c108],cls
 (ent r106 2) 0 10 [],[.sl n109 31 c110]]) (ifK (decide ((Int.tmod (Int.tdiv z33 3) 12) = (4 : Int))) (caK Is s84 [ent cG 4,[cell (ent cG 0)
 0],[vI (Int.tdiv z33 36)],[vI z32],cls (ent cG 3) 0 10 [],[.sl n34 31 c35]] fun r111=>ah 1 (cell (ent r111 1) 0) fun n112 c113=>ah 31
 (cell (ent r111 3) 0) fun n114 c115=>K [cls (ent r111 0) 0 14 [],[.sl n112 1 c113],cls (ent r111 2) 0 10 [],[.sl n114 31 c115]]) (ifK (decide
 ((Int.tmod (Int.tdiv z33 3) 12) = (5 : Int))) (caK Is s85 [ent cG 4,[cell (ent cG 0) 0],[vI (Int.tdiv z33 36)],[vI z32],cls (ent cG 3) 0
 10 [],[.sl n34 31 c35]] fun r116=>ah 1 (cell (ent r116 1) 0) fun n117 c118=>ah 31 (cell (ent r116 3) 0) fun n119 c120=>K [cls (ent r116
 0) 0 14 [],[.sl n117 1 c118],cls (ent r116 2) 0 10 [],[.sl n119 31 c120]]) (ifK (decide ((Int.tmod (Int.tdiv z33 3) 12) = (6 : Int))) (caK Is s86
 [ent cG 4,[cell (ent cG 0) 0],[vI (Int.tdiv z33 36)],[vI z32],cls (ent cG 3) 0 10 [],[.sl n34 31 c35]] fun r121=>ah 1 (cell (ent r121
 1) 0) fun n122 c123=>ah 31 (cell (ent r121 3) 0) fun n124 c125=>K [cls (ent r121 0) 0 14 [],[.sl n122 1 c123],cls (ent r121 2) 0 10 [],[.sl
 n124 31 c125]]) (ifK (decide ((Int.tmod (Int.tdiv z33 3) 12) = (7 : Int))) (caK Is s86 [ent cG 4,[cell (ent cG 0) 0],[vI (Int.tdiv z33 36)],
 [vI z32],cls (ent cG 3) 0 10 [],[.sl n34 31 c35]] fun r126=>ah 1 (cell (ent r126 1) 0) fun n127 c128=>ah 31 (cell (ent r126 3) 0) fun
 n129 c130=>K [cls (ent r126 0) 0 14 [],[.sl n127 1 c128],cls (ent r126 2) 0 10 [],[.sl n129 31 c130]]) (ifK (decide ((Int.tmod (Int.tdiv z33 3)
 12) = (8 : Int))) (caK Is s41 [[vI 0,vI 0,vI 0,vI 0,.sl 0 5 []]] fun r131=>ah 5 (cell (ent r131 1) 0) fun n132 c133=>ckK (okI (z32 - 1))
 (caK Is s49 [cls (ent r131 0) 0 4 [.sl n132 5 c133],[cell (ent cG 0) 0],[vI (z32 - 1)],cls (ent cG 3) 0 10 [],[.sl n34 31 c35]] fun r134 =>
 ah 1 (cell (ent r134 1) 0) fun n135 c136=>ah 31 (cell (ent r134 3) 0) fun n137 c138=>ckK (okI (z32 - 1)) (caK Is s49 [ent cG 4,[cell (ent
 cG 0) 0],[vI (z32 - 1)],cls (ent r134 2) 0 10 [],[.sl n137 31 c138]] fun r139=>ah 1 (cell (ent r139 1) 0) fun n140 c141=>ah 31 (cell
 (ent r139 3) 0) fun n142 c143=>caK Is s81 [[vI 12],[vI 0],[.sl 0 15 []],cls (ent r139 2) 0 10 [],[.sl n142 31 c143]] fun r144=>ah 1 (cell
 (ent r144 1) 0) fun _ _=>ah 31 (cell (ent r144 3) 0) fun n147 c148=>caK Is s82 [cls (ent r144 2) 0 10 [],[.sl n147 31 c148]] fun r149=>ah
 31 (cell (ent r149 2) 0) fun n150 c151=>caK Is s82 [cls (ent r149 1) 0 10 [],[.sl n150 31 c151]] fun r152=>ah 31 (cell (ent r152 2) 0) fun
 n153 c154=>caK Is s83 [[cell (ent cG 0) 0],cls (ent r144 0) 0 3 ([vI 0,vI 0,vI 0,vI 0,vI 0,.sl 0 5 []])] fun r155=>ah 9 (cell (ent
 r155 0) 0) fun n156 c157=>caK Is s83 [[.sl n156 9 c157],cls (ent r144 0) 0 3 (vI 1::cls (ent cG 4) 0 5 [])] fun r158=>ah 9 (cell (ent
 r158 0) 0) fun n159 c160=>ckK (okI (z32 - 1)) (caK Is s49 [ent cG 4,[.sl n159 9 c160],[vI (z32 - 1)],cls (ent r152 1) 0 10 [],[.sl n153 31
 c154]] fun r161=>ah 1 (cell (ent r161 1) 0) fun n162 c163=>ah 31 (cell (ent r161 3) 0) fun n164 c165=>K [cls (ent r144 0) 0 13 ([.sl 3 15
 (cls (ent r134 0) 0 14 (.sl n135 1 c136::cls (ent r139 0) 0 14 (.sl n140 1 c141::cls (ent r161 0) 0 14 [.sl n162 1 c163])))]),[.sl 2 1 [cell
 (ent r149 0) 0,cell (ent r152 0) 0]],cls (ent r161 2) 0 10 [],[.sl n164 31 c165]])))) (caK Is s87 [ent cG 4,[cell (ent cG 0) 0],[vI
 (Int.tdiv z33 36)],[vI z32],cls (ent cG 3) 0 10 [],[.sl n34 31 c35]] fun r166=>ah 1 (cell (ent r166 1) 0) fun n167 c168=>ah 31 (cell
 (ent r166 3) 0) fun n169 c170=>K [cls (ent r166 0) 0 14 [],[.sl n167 1 c168],cls (ent r166 2) 0 10 [],[.sl n169 31 c170]])))))))))))))))
theorem w49 : Wd ⟨[s41,s49,s77,s78,s79,s80,s81,s82,s83,s84,s85,s86,s87],[35],[]⟩ ⟨[],[(5,⟨[(0,.c (.p 0 0)),(2,.c .d),(3,.c .i),(5,.c (.p 2 0)),(8,.c (.p 3 0)),(9,.c .i),(10,.c (.w 4))],[(0,.b 92 (.d::.w 1::ds 9)),(2,.a 38 5),(3,.a 50 15),(4,.w 95 9),(1,.w 52 31)]⟩),(7,⟨[(0,.c (.p 0 0)),(2,.c .d),(3,.c .i),(5,.c (.p 2 0)),(8,.c (.p 3 0)),(9,.c .i)],[(0,.b 92 (.d::.w 1::ds 9)),(2,.a 38 5),(3,.a 50 15),(1,.w 52 31)]⟩)],[]⟩ s49 g49:=fun _ _ _=>by kernel_rfl
def g77 : Tx:=fun Is a K=>aa (cell (ent a 0) 0) fun z1=>ah 31 (cell (ent a 2) 0) fun n2 c3=>aa (cell (ent a 1) 2) fun z4=>ckK (okI (z4
 + 1)) (ckK (okI ((z4+1) - 1)) (caK Is s40 [[cell (ent a 1) 1],[vI ((z4+1) - 1)],[vI z1]] fun r5=>aa (cell (ent r5 0) 0) fun z6=>K [[vI
 z6],cell (ent a 1) 0::cell (ent a 1) 1::vI (z4+1)::cls (ent a 1) 3 7 [],[.sl n2 31 c3]]))
theorem w77 : Wd ⟨[s40],[35],[]⟩ ⟨[],[],[]⟩ s77 g77:=fun _ _ _=>by kernel_rfl
def g78 : Tx:=fun Is a K=>Lp (fun lq st2=>aa (cell (ent st2 1) 0) fun z3=>ah 9 (cell (ent st2 3) 0) fun n4 c5=>ah 9 (cell (ent st2
 0) 0) fun n6 _=>ifK (decide (z3 < (n6 : Int))) (jn (fun k8=>ah 9 (cell (ent st2 0) 0) fun n10 c11=>ckK (0<=z3/\z3 < (n10 : Int)) (caK Is
 tM [sub (el c11 9 (Int.toNat z3)) 4 5,ent st2 2] fun r12=>bU (cell (ent r12 0) 0) fun b13=>ifK b13 (ah 9 (cell (ent st2 0) 0) fun n14 c15
 => ckK (0<=z3/\z3 < (n14 : Int)) (ckK (room (n4+1) 89) (k8 [[cell (ent st2 0) 0],[vI z3],ent st2 2,[.sl (n4+1) 9 (c5++((el c15 9
 (Int.toNat z3))++[]))]]))) (k8 [[cell (ent st2 0) 0],[vI z3],ent st2 2,[.sl n4 9 c5]]))) (fun st9=>aa (cell (ent st9 1) 0) fun z16=>ah
 9 (cell (ent st9 3) 0) fun n17 c18=>ckK (okI (z16+1)) (lq [[cell (ent st9 0) 0],[vI (z16+1)],ent st9 2,[.sl n17 9 c18]]))) (K [[.sl n4 9
 c5]])) [[cell (ent a 0) 0],[vI 0],ent a 1,[.sl 0 9 []]]
theorem w78 : Wd ⟨[tM],[35],[]⟩ ⟨[(3,⟨[(0,.c .d),(3,.c (.p 0 0)),(5,.c (.w 1)),(6,.c .i)],[(0,.a 38 5),(1,.w 95 9)]⟩)],[(4,⟨[(0,.c .d),(3,.c (.p 0 0)),(5,.c (.w 1)),(6,.c .i)],[(0,.a 38 5),(1,.w 95 9)]⟩)],[]⟩ s78 g78:=fun _ _ _=>by kernel_rfl
def g105 : Tx:=fun Is a K=>aa (cell (ent a 0) 0) fun z1=>aa (cell (ent a 1) 0) fun z2=>ifK (!(decide (z1 = z2))) (K [[vB false]]) (aa
 (cell (sub (ent a 0) 1 3) 0) fun z3=>aa (cell (sub (ent a 0) 1 3) 1) fun z4=>aa (cell (sub (ent a 0) 1 3) 2) fun z5=>aa (cell (sub (ent
 a 1) 1 3) 0) fun z6=>aa (cell (sub (ent a 1) 1 3) 1) fun z7=>aa (cell (sub (ent a 1) 1 3) 2) fun z8=>ifK (!(decide (z3 = z6/\z4 = z7/\z5
 = z8))) (K [[vB false]]) (ah 5 (cell (ent a 0) 4) fun n9 _=>ah 5 (cell (ent a 1) 4) fun n11 _=>ifK (!(decide ((n9 : Int) = (n11 : Int)))) (K
 [[vB false]]) (Lp (fun next13 jP=>aa (cell (ent jP 0) 0) fun z15=>ah 5 (cell (ent jP 1) 4) fun n16 _=>ifK (decide (z15 < (n16 :
 Int))) (ah 5 (cell (ent jP 1) 4) fun n18 c19=>ckK (0<=z15/\z15 < (n18 : Int)) (ah 5 (cell (ent jP 2) 4) fun n20 c21=>ckK (0<=z15 /\
 z15 < (n20 : Int)) (caK Is tM [el c19 5 (Int.toNat z15),el c21 5 (Int.toNat z15)] fun r22=>bU (cell (ent r22 0) 0) fun b23=>ifK (!b23) (K
 [[vB false]]) (ckK (okI (z15+1)) (next13 [[vI (z15+1)],ent jP 1,ent jP 2]))))) (K [[vB true]])) [[vI 0],ent a 0,ent a 1])))
theorem w105 : Wd ⟨[tM],[35],[]⟩ ⟨[(4,⟨[(2,.c (.p 0 0)),(3,.c (.p 1 0)),(5,.c .i)],[(0,.a 38 5),(1,.a 38 5)]⟩)],[],[]⟩ tM g105:=fun _ _ _=>by kernel_rfl
def g79 : Tx:=fun Is a K=>ah 31 (cell (ent a 2) 0) fun n1 c2=>caK Is s81 [[vI 2],[cell (ent a 0) 3],[.sl 0 15 []],cls (ent a 1) 0 10 [],
 [.sl n1 31 c2]] fun r3=>ah 1 (cell (ent r3 1) 0) fun n4 c5=>ah 31 (cell (ent r3 3) 0) fun n6 c7=>K [cls (ent r3 0) 0 5 (cls (sub (ent a 0)
 0 3) 0 3 (cls (ent r3 0) 8 6 [])),[.sl n4 1 c5],cls (ent r3 2) 0 10 [],[.sl n6 31 c7]]
theorem w79 : Wd ⟨[s81],[35],[]⟩ ⟨[],[],[]⟩ s79 g79:=fun _ _ _=>by kernel_rfl
def g81 : Tx:=fun _ a K=>aa (cell (ent a 0) 0) fun z1=>aa (cell (ent a 1) 0) fun z2=>ah 31 (cell (ent a 4) 0) fun n3 c4=>aa (cell
 (ent a 3) 3) fun z5=>ckK (okI (z5+1)) (aa (cell (ent a 3) 4) fun z6=>ckK (okI (z6 - 1)) (ckK (okI ((z5+1) - 1)) (K [[vI 0,vI 0,vI ((z5 +
 1) - 1),vI z1,vI z2,vI 0,vI 0,vI 0,vI 0,vI 0,vI 0,vI 0,.sl 0 5 [],cell (ent a 2) 0],[.sl 0 1 []],cls (ent a 3) 0 3 (vI (z5+1)::vI
 (z6 - 1)::cls (ent a 3) 5 5 []),[.sl n3 31 c4]])))
theorem w81 : Wd ⟨[],[35],[]⟩ ⟨[],[],[]⟩ s81 g81:=fun _ _ _=>by kernel_rfl
def g80 : Tx:=fun Is a K=>aa (cell (ent a 2) 0) fun z1=>aa (cell (ent a 3) 0) fun z2=>ah 31 (cell (ent a 5) 0) fun n3 c4=>aa (cell
 (ent a 0) 0) fun z5=>ifK (decide (z5 = (0 : Int))) (ckK ((9 : Int) ≠ 0) (ckK (okI ((Int.tmod z1 9) - 2)) (jn (fun k6=>ckK ((29 : Int) ≠ 0) (ifK
 (decide ((Int.tmod z1 29) = (3 : Int))) (ckK ((2 : Int) ≠ 0) (ckK (okI (1099511627776 - (Int.tmod z1 2))) (k6 [[vI (1099511627776 - (Int.tmod z1
 2))],cls (ent a 4) 0 10 [],[vI 0,vI 0,vI 0,vI 0,vI 0,vI 0,vI 0,vI 0,vI 0,vI 0,vI 0,vI 0,.sl 0 5 [],.sl 0 15 [],.sl 0 1 []],[.sl n3
 31 c4]]))) (k6 [[vI ((Int.tmod z1 9) - 2)],cls (ent a 4) 0 10 [],[vI 0,vI 0,vI 0,vI 0,vI 0,vI 0,vI 0,vI 0,vI 0,vI 0,vI 0,vI 0,.sl 0 5
 [],.sl 0 15 [],.sl 0 1 []],[.sl n3 31 c4]]))) (fun st7=>aa (cell (ent st7 0) 0) fun z8=>ah 31 (cell (ent st7 3) 0) fun n9 c10=>caK Is
 s81 [[vI 0],[vI z8],[.sl 0 15 []],cls (ent st7 1) 0 10 [],[.sl n9 31 c10]] fun r11=>ah 1 (cell (ent r11 1) 0) fun n12 c13=>ah 31 (cell
 (ent r11 3) 0) fun n14 c15=>K [cls (ent r11 0) 0 14 [],[.sl n12 1 c13],cls (ent r11 2) 0 10 [],[.sl n14 31 c15]])))) (aa (cell (ent a 0) 0)
 fun z16=>ifK (decide (z16 = (1 : Int))) (ckK ((2 : Int) ≠ 0) (caK Is s81 [[vI 1],[vI (Int.tmod z1 2)],[.sl 0 15 []],cls (ent a 4) 0 10 [],[.sl
 n3 31 c4]] fun r17=>ah 1 (cell (ent r17 1) 0) fun n18 c19=>ah 31 (cell (ent r17 3) 0) fun n20 c21=>K [cls (ent r17 0) 0 14 [],[.sl n18 1
 c19],cls (ent r17 2) 0 10 [],[.sl n20 31 c21]])) (aa (cell (ent a 0) 0) fun z22=>ifK (decide (z22 = (2 : Int))) (jn (fun k23=>Lp (fun zM
 dm=>aa (cell (ent dm 1) 0) fun z27=>aa (cell (ent dm 2) 0) fun z28=>aa (cell (ent dm 3) 0) fun z29=>ah 15 (cell (ent dm 7)
 0) fun n30 c31=>ah 31 (cell (ent dm 8) 0) fun n32 c33=>ckK ((3 : Int) ≠ 0) (ifK (decide (z29 < (Int.tmod z27 3))) (ifK (decide ((0 : Int) <=
 z28)) (aa (cell (ent dm 4) 4) fun z34=>ifK (decide ((0 : Int) < z34)) (ah 5 (cell (ent dm 5) 4) fun n35 c36=>ckK (0<=(0 : Int)/\(0 :
 Int) < (n35 : Int)) (ckK (okI (z28 - 1)) (caK Is s49 [el c36 5 0,[cell (ent dm 0) 0],[vI (z28 - 1)],cls (ent dm 4) 0 10 [],[.sl n32 31 c33]]
 fun r37=>ah 1 (cell (ent r37 1) 0) fun n38 c39=>ah 31 (cell (ent r37 3) 0) fun n40 c41=>ckK (room (n30+1) 169) (ckK (okI (z29+1))
 (zM [[cell (ent dm 0) 0],[vI z27],[vI z28],[vI (z29+1)],cls (ent r37 2) 0 10 [],ent dm 5,ent dm 6,[.sl (n30+1) 15 (c31++(cls
 (ent r37 0) 0 14 [.sl n38 1 c39]))],[.sl n40 31 c41]]))))) (k23 [cls (ent dm 4) 0 10 [],ent dm 5,ent dm 6,[.sl n30 15 c31],[.sl n32 31
 c33]])) (k23 [cls (ent dm 4) 0 10 [],ent dm 5,ent dm 6,[.sl n30 15 c31],[.sl n32 31 c33]])) (k23 [cls (ent dm 4) 0 10 [],ent dm 5,
 ent dm 6,[.sl n30 15 c31],[.sl n32 31 c33]]))) [[cell (ent a 1) 0],[vI z1],[vI z2],[vI 0],cls (ent a 4) 0 10 [],ent a 0,[vI 0,vI 0,vI 0,
 vI 0,vI 0,vI 0,vI 0,vI 0,vI 0,vI 0,vI 0,vI 0,.sl 0 5 [],.sl 0 15 [],.sl 0 1 []],[.sl 0 15 []],[.sl n3 31 c4]]) (fun vO=>ah 15
 (cell (ent vO 3) 0) fun n42 c43=>ah 31 (cell (ent vO 4) 0) fun n44 c45=>caK Is s81 [[vI 11],[vI 0],[.sl n42 15 c43],cls (ent vO 0) 0
 10 [],[.sl n44 31 c45]] fun r46=>ah 1 (cell (ent r46 1) 0) fun n47 c48=>ah 31 (cell (ent r46 3) 0) fun n49 c50=>ah 5 (cell (ent vO 1)
 4) fun n51 c52=>ckK (0<=(0 : Int)/\(0 : Int) < (n51 : Int)) (K [cls (ent r46 0) 0 8 (cls (el c52 5 0) 0 5 [cell (ent r46 0) 13]),[.sl n47 1
 c48],cls (ent r46 2) 0 10 [],[.sl n49 31 c50]]))) (caK Is s58 [[cell (ent a 4) 0],sub (ent a 0) 1 3,[.sl n3 31 c4]] fun r53=>bU (cell (ent
 r53 1) 0) fun _=>ah 31 (cell (ent r53 2) 0) fun n55 c56=>aa (cell (ent r53 0) 3) fun z57=>ifK (decide (z57 = (1 : Int))) (ah 11 (cell
 (ent r53 0) 8) fun n58 _=>ckK ((n58 : Int) ≠ 0) (jn (fun k60=>ifK (decide (z2 < (0 : Int))) (k60 [[cell (ent a 1) 0],[vI z2],[vI 0],cls (ent
 a 4) 0 10 [],[vI 0,vI 0,vI 0,vI 0,vI 0,vI 0,vI 0,vI 0,vI 0,vI 0,vI 0,vI 0,.sl 0 5 [],.sl 0 15 [],.sl 0 1 []],ent r53 0,[.sl n55 31
 c56]]) (k60 [[cell (ent a 1) 0],[vI z2],[vI (Int.tmod z1 (n58 : Int))],cls (ent a 4) 0 10 [],[vI 0,vI 0,vI 0,vI 0,vI 0,vI 0,vI 0,vI 0,vI
 0,vI 0,vI 0,vI 0,.sl 0 5 [],.sl 0 15 [],.sl 0 1 []],ent r53 0,[.sl n55 31 c56]])) (fun zl=>aa (cell (ent zl 1) 0) fun z62=>aa
 (cell (ent zl 2) 0) fun z63=>ah 31 (cell (ent zl 6) 0) fun n64 c65=>ah 11 (cell (ent zl 5) 8) fun n66 c67=>ckK (0<=z63/\z63 < (n66
 : Int)) (ckK (okI (z62 - 1)) (caK Is s49 [sub (el c67 11 (Int.toNat z63)) 4 5,[cell (ent zl 0) 0],[vI (z62 - 1)],cls (ent zl 3) 0 10 [],[.sl
 n64 31 c65]] fun r68=>ah 1 (cell (ent r68 1) 0) fun n69 c70=>ah 31 (cell (ent r68 3) 0) fun n71 c72=>caK Is s81 [[vI 9],[vI z63],[.sl 1
 15 (cls (ent r68 0) 0 14 [.sl n69 1 c70])],cls (ent r68 2) 0 10 [],[.sl n71 31 c72]] fun r73=>ah 1 (cell (ent r73 1) 0) fun n74 c75=>ah 31
 (cell (ent r73 3) 0) fun n76 c77=>K [cls (ent r73 0) 0 5 (cls (sub (ent zl 5) 0 3) 0 3 (cls (ent r73 0) 8 6 [])),[.sl n74 1 c75],cls (ent r73
 2) 0 10 [],[.sl n76 31 c77]]))))) (jn (fun k78=>Lp (fun next80 nV=>aa (cell (ent nV 1) 0) fun z82=>aa (cell (ent nV 2) 0) fun z83
 => ah 15 (cell (ent nV 6) 0) fun n84 c85=>ah 31 (cell (ent nV 7) 0) fun n86 c87=>ah 11 (cell (ent nV 5) 8) fun n88 _=>ifK (decide
 (z83 < (n88 : Int))) (ah 11 (cell (ent nV 5) 8) fun n90 c91=>ckK (0<=z83/\z83 < (n90 : Int)) (ckK (okI (z82 - 1)) (caK Is s49 [sub (el c91
 11 (Int.toNat z83)) 4 5,[cell (ent nV 0) 0],[vI (z82 - 1)],cls (ent nV 3) 0 10 [],[.sl n86 31 c87]] fun r92=>ah 1 (cell (ent r92 1) 0)
 fun n93 c94=>ah 31 (cell (ent r92 3) 0) fun n95 c96=>ckK (room (n84+1) 169) (ckK (okI (z83+1)) (next80 [[cell (ent nV 0) 0],[vI z82],
 [vI (z83+1)],cls (ent r92 2) 0 10 [],ent nV 4,ent nV 5,[.sl (n84+1) 15 (c85++(cls (ent r92 0) 0 14 [.sl n93 1 c94]))],[.sl n95 31
 c96]]))))) (k78 [cls (ent nV 3) 0 10 [],ent nV 4,ent nV 5,[.sl n84 15 c85],[.sl n86 31 c87]])) [[cell (ent a 1) 0],[vI z2],[vI 0],cls
 (ent a 4) 0 10 [],[vI 0,vI 0,vI 0,vI 0,vI 0,vI 0,vI 0,vI 0,vI 0,vI 0,vI 0,vI 0,.sl 0 5 [],.sl 0 15 [],.sl 0 1 []],ent r53 0,[.sl 0
 15 []],[.sl n55 31 c56]]) (fun st79=>ah 15 (cell (ent st79 3) 0) fun n97 c98=>ah 31 (cell (ent st79 4) 0) fun n99 c100=>caK Is s81 [[vI
 7],[vI 0],[.sl n97 15 c98],cls (ent st79 0) 0 10 [],[.sl n99 31 c100]] fun r101=>ah 1 (cell (ent r101 1) 0) fun n102 c103=>ah 31 (cell
 (ent r101 3) 0) fun n104 c105=>K [cls (ent r101 0) 0 5 (cls (sub (ent st79 2) 0 3) 0 3 (cls (ent r101 0) 8 6 [])),[.sl n102 1 c103],cls (ent
 r101 2) 0 10 [],[.sl n104 31 c105]])))))
theorem w80 : Wd ⟨[s49,s58,s81],[35],[]⟩ ⟨[(11,⟨[(0,.c (.p 0 0)),(2,.c .d),(3,.c .i),(4,.c .i),(6,.c (.p 2 0)),(10,.c (.p 3 0)),(12,.c (.w 4)),(13,.c .i)],[(0,.b 92 (.d::.w 1::ds 9)),(2,.a 38 5),(3,.a 50 15),(4,.w 50 15),(1,.w 52 31)]⟩),(28,⟨[(0,.c (.p 0 0)),(2,.c .d),(4,.c .i),(10,.c (.p 2 0)),(15,.c (.p 3 0)),(20,.c (.w 4)),(21,.c .i)],[(0,.b 92 (.d::.w 1::ds 9)),(2,.a 50 15),(3,.a 52 31),(4,.w 50 15),(1,.w 52 31)]⟩)],[(5,⟨[(0,.c (.p 0 0)),(10,.c (.p 2 0)),(11,.c .i)],[(0,.b 92 (.d::.w 1::ds 9)),(2,.a 50 15),(1,.w 52 31)]⟩),(14,⟨[(0,.c (.p 0 0)),(6,.c (.p 2 0)),(10,.c (.p 3 0)),(12,.c (.w 4))],[(0,.b 92 (.d::.w 1::ds 9)),(2,.a 38 5),(3,.a 50 15),(4,.w 50 15),(1,.w 52 31)]⟩),(22,⟨[(0,.c (.p 0 0)),(2,.c .d),(4,.c .i),(10,.c (.p 2 0)),(15,.c (.p 3 0)),(17,.c .i)],[(0,.b 92 (.d::.w 1::ds 9)),(2,.a 50 15),(3,.a 52 31),(1,.w 52 31)]⟩),(31,⟨[(0,.c (.p 0 0)),(10,.c (.p 2 0)),(15,.c (.p 3 0)),(20,.c (.w 4))],[(0,.b 92 (.d::.w 1::ds 9)),(2,.a 50 15),(3,.a 52 31),(4,.w 50 15),(1,.w 52 31)]⟩)],[]⟩ s80 g80:=fun _ _ _=>by kernel_rfl
def g58 : Tx:=fun _ a K=>ah 31 (cell (ent a 2) 0) fun n1 c2=>jn (fun k3=>Lp (fun x7 st6=>aa (cell (ent st6 1) 0) fun z7=>ah 31
 (cell (ent st6 2) 0) fun n8 c9=>ifK (decide (z7 < (n8 : Int))) (ckK (0<=z7/\z7 < (n8 : Int)) (aa (cell (sub (el c9 31 (Int.toNat z7)) 0 3) 0)
 fun z10=>aa (cell (sub (el c9 31 (Int.toNat z7)) 0 3) 1) fun z11=>aa (cell (sub (el c9 31 (Int.toNat z7)) 0 3) 2) fun z12=>aa (cell (ent
 st6 4) 0) fun z13=>aa (cell (ent st6 4) 1) fun z14=>aa (cell (ent st6 4) 2) fun z15=>ifK (decide (z10 = z13/\z11 = z14/\z12 = z15)) (ckK
 (0<=z7/\z7 < (n8 : Int)) (K [el c9 31 (Int.toNat z7),[vB true],[.sl n8 31 c9]])) (ckK (okI (z7+1)) (x7 [[cell (ent st6 0) 0],[vI (z7 +
 1)],[.sl n8 31 c9],[cell (ent st6 3) 0],ent st6 4,ent st6 5])))) (k3 [[cell (ent st6 0) 0],[.sl n8 31 c9],ent st6 5])) [[cell (ent a 0) 0],
 [vI 0],[.sl n1 31 c2],[cell (ent a 0) 0],ent a 1,[vI 0,vI 0,vI 0,vI 0,vI 0,vI 0,vI 0,.v (.string (ByteArray.mk #[])),.sl 0 11 [],vI 0,
 vI 0,vI 0,vI 0,.sl 0 5 [],vI 0,vI 0,vI 0,vI 0,vI 0,vI 0,vI 0,vI 0,vI 0,vI 0,vI 0,vI 0,.sl 0 5 [],.sl 0 15 [],.sl 0 1 [],vI 0,.sl
 0 1 []]]) (fun st4=>ah 31 (cell (ent st4 1) 0) fun n16 c17=>K [[vI 0,vI 0,vI 0,vI 0,vI 0,vI 0,vI 0,.v (.string (ByteArray.mk #[])),.sl
 0 11 [],vI 0,vI 0,vI 0,vI 0,.sl 0 5 [],vI 0,vI 0,vI 0,vI 0,vI 0,vI 0,vI 0,vI 0,vI 0,vI 0,vI 0,vI 0,.sl 0 5 [],.sl 0 15 [],.sl 0
 1 [],vI 0,.sl 0 1 []],[vB false],[.sl n16 31 c17]])
theorem w58 : Wd ⟨[],[35],[]⟩ ⟨[(2,⟨[(0,.g [.d,.w 0]),(2,.c (.p 1 0)),(3,.c (.p 2 0)),(4,.c (.p 3 0)),(6,.c .i)],[(0,.w 52 31),(1,.b 32 [.d,.w 0]),(2,.a 35 3),(3,.a 52 31)]⟩)],[(6,⟨[(0,.g [.d,.w 0]),(4,.c (.p 1 0))],[(0,.w 52 31),(1,.a 52 31)]⟩)],[]⟩ s58 g58:=fun _ _ _=>by kernel_rfl
def g84 : Tx:=fun Is a K=>aa (cell (ent a 2) 0) fun z1=>aa (cell (ent a 3) 0) fun z2=>ah 31 (cell (ent a 5) 0) fun n3 c4=>caK Is s106
 [[vI 1],[vI z1],cls (ent a 4) 0 10 [],[.sl n3 31 c4]] fun r5=>aa (cell (ent r5 0) 0) fun z6=>ah 31 (cell (ent r5 2) 0) fun n7 c8=>ifK
 (decide (z6 < (0 : Int))) (caK Is s87 [ent a 0,[cell (ent a 1) 0],[vI z1],[vI z2],cls (ent r5 1) 0 10 [],[.sl n7 31 c8]] fun r9=>ah 1 (cell
 (ent r9 1) 0) fun n10 c11=>ah 31 (cell (ent r9 3) 0) fun n12 c13=>K [cls (ent r9 0) 0 14 [],[.sl n10 1 c11],cls (ent r9 2) 0 10 [],[.sl n12
 31 c13]]) (ckK (0<=z6/\z6 < (n7 : Int)) (caK Is s42 [sub (el c8 31 (Int.toNat z6)) 0 3] fun r14=>ckK (okI (z2 - 2)) (caK Is s49 [ent r14 0,
 [cell (ent a 1) 0],[vI (z2 - 2)],cls (ent r5 1) 0 10 [],[.sl n7 31 c8]] fun r15=>ah 1 (cell (ent r15 1) 0) fun n16 c17=>ah 31 (cell (ent
 r15 3) 0) fun n18 c19=>caK Is s81 [[vI 10],[vI 0],[.sl 0 15 []],cls (ent r15 2) 0 10 [],[.sl n18 31 c19]] fun r20=>ah 1 (cell (ent r20 1)
 0) fun n21 c22=>ah 31 (cell (ent r20 3) 0) fun n23 c24=>jn (fun k25=>Lp (fun next27 gU=>aa (cell (ent gU 1) 0) fun z29=>aa (cell
 (ent gU 2) 0) fun z30=>ah 15 (cell (ent gU 7) 0) fun n31 c32=>ah 31 (cell (ent gU 9) 0) fun n33 c34=>ah 1 (cell (ent gU 10) 0)
 fun n35 c36=>ah 11 (cell (ent gU 6) 8) fun n37 _=>ifK (decide (z30 < (n37 : Int))) (ah 11 (cell (ent gU 6) 8) fun n39 c40=>ckK (0 <=
 z30/\z30 < (n39 : Int)) (caK Is s83 [[cell (ent gU 0) 0],cls (ent gU 8) 0 3 (vI z30::cls (sub (el c40 11 (Int.toNat z30)) 4 5) 0 5 [])] fun
 r41=>ah 9 (cell (ent r41 0) 0) fun n42 c43=>ckK (okI (z29 - 1)) (caK Is s49 [ent gU 4,[.sl n42 9 c43],[vI (z29 - 1)],cls (ent gU 3) 0
 10 [],[.sl n33 31 c34]] fun r44=>ah 1 (cell (ent r44 1) 0) fun n45 c46=>ah 31 (cell (ent r44 3) 0) fun n47 c48=>ckK (room (n31+1) 169)
 (caK Is s82 [cls (ent r44 2) 0 10 [],[.sl n47 31 c48]] fun r49=>ah 31 (cell (ent r49 2) 0) fun n50 c51=>ckK (room (n35+1) 17) (ckK (okI
 (z30+1)) (next27 [[cell (ent gU 0) 0],[vI z29],[vI (z30+1)],cls (ent r49 1) 0 10 [],ent gU 4,ent gU 5,ent gU 6,[.sl (n31+1) 15
 (c32++(cls (ent r44 0) 0 14 [.sl n45 1 c46]))],cls (ent gU 8) 0 14 [],[.sl n50 31 c51],[.sl (n35+1) 1 (c36++[cell (ent r49 0) 0])]]))))))
 (k25 [cls (ent gU 3) 0 10 [],ent gU 5,[.sl n31 15 c32],cls (ent gU 8) 0 14 [],[.sl n33 31 c34],[.sl n35 1 c36]])) [[cell (ent a 1) 0],
 [vI z2],[vI 0],cls (ent r20 2) 0 10 [],ent a 0,[vI 0,vI 0,vI 0,vI 0,vI 0,vI 0,vI 0,vI 0,vI 0,vI 0,vI 0,vI 0,.sl 0 5 [],.sl 0 15 [],
 .sl 0 1 []],el c8 31 (Int.toNat z6),[.sl 1 15 (cls (ent r15 0) 0 14 [.sl n16 1 c17])],cls (ent r20 0) 0 5 (cls (sub (el c8 31 (Int.toNat z6)) 0
 3) 0 3 (cls (ent r20 0) 8 6 [])),[.sl n23 31 c24],[.sl n21 1 c22]]) (fun dm=>ah 15 (cell (ent dm 2) 0) fun n52 c53=>ah 31 (cell (ent
 dm 4) 0) fun n54 c55=>ah 1 (cell (ent dm 5) 0) fun n56 c57=>K [cls (ent dm 3) 0 13 [.sl n52 15 c53],[.sl n56 1 c57],cls (ent dm 0) 0
 10 [],[.sl n54 31 c55]]))))
theorem w84 : Wd ⟨[s42,s49,s81,s82,s83,s87,s106],[35],[]⟩ ⟨[(9,⟨[(0,.c (.p 0 0)),(2,.c .d),(4,.c .i),(6,.c (.p 2 0)),(10,.c (.p 3 0)),(12,.c (.p 4 0)),(13,.c (.w 5)),(14,.c (.p 6 0)),(15,.c .i)],[(0,.b 92 (.d::.w 1::ds 9)),(2,.a 38 5),(3,.a 50 15),(4,.a 52 31),(5,.w 50 15),(6,.b 50 (ds 14++[.w 7])),(1,.w 52 31),(7,.w 9 1)]⟩)],[(13,⟨[(0,.c (.p 0 0)),(10,.c (.p 2 0)),(13,.c (.w 3)),(14,.c (.p 4 0))],[(0,.b 92 (.d::.w 1::ds 9)),(2,.a 50 15),(3,.w 50 15),(4,.b 50 (ds 14++[.w 5])),(1,.w 52 31),(5,.w 9 1)]⟩)],[]⟩ s84 g84:=fun _ _ _=>by kernel_rfl
def g106 : Tx:=fun Is a K=>aa (cell (ent a 0) 0) fun z1=>aa (cell (ent a 1) 0) fun z2=>ah 31 (cell (ent a 3) 0) fun n3 c4=>Lp (fun
 x7 st6=>aa (cell (ent st6 0) 0) fun z7=>aa (cell (ent st6 1) 0) fun z8=>aa (cell (ent st6 2) 0) fun z9=>aa (cell (ent st6 3) 0)
 fun z10=>ah 31 (cell (ent st6 5) 0) fun n11 c12=>ifK (decide (z10 < z9)) (jn (fun k13=>ckK (okI (z8+z10)) (ckK (z9 ≠ 0) (ckK (0 <=
 (Int.tmod (z8+z10) z9)/\(Int.tmod (z8+z10) z9) < (n11 : Int)) (aa (cell (el c12 31 (Int.toNat (Int.tmod (z8+z10) z9))) 3) fun z15=>ifK
 (decide (z15 = z7)) (caK Is xK [[vI (Int.tmod (z8+z10) z9)],cls (ent st6 4) 0 10 [],[.sl n11 31 c12]] fun r16=>bU (cell (ent r16 0) 0) fun
 b17=>ah 31 (cell (ent r16 2) 0) fun n18 c19=>ifK b17 (K [[vI (Int.tmod (z8+z10) z9)],cls (ent r16 1) 0 10 [],[.sl n18 31 c19]]) (k13 [[vI
 z7],[vI z8],[vI z9],[vI z10],cls (ent r16 1) 0 10 [],[.sl n18 31 c19]])) (k13 [[vI z7],[vI z8],[vI z9],[vI z10],cls (ent st6 4) 0 10 [],
 [.sl n11 31 c12]]))))) (fun jP=>aa (cell (ent jP 0) 0) fun z20=>aa (cell (ent jP 1) 0) fun z21=>aa (cell (ent jP 2) 0) fun z22
 => aa (cell (ent jP 3) 0) fun z23=>ah 31 (cell (ent jP 5) 0) fun n24 c25=>ckK (okI (z23+1)) (x7 [[vI z20],[vI z21],[vI z22],[vI
 (z23+1)],cls (ent jP 4) 0 10 [],[.sl n24 31 c25]]))) (K [[vI (-1)],cls (ent st6 4) 0 10 [],[.sl n11 31 c12]])) [[vI z1],[vI z2],[vI (n3 :
 Int)],[vI 0],cls (ent a 2) 0 10 [],[.sl n3 31 c4]]
theorem w106 : Wd ⟨[xK],[35],[]⟩ ⟨[(3,⟨[(0,.c (.p 0 0)),(1,.c .i),(2,.c .i),(7,.c .i),(8,.c .i)],[(0,.b 92 (.d::.w 1::ds 9)),(1,.w 52 31)]⟩)],[(4,⟨[(0,.c (.p 0 0)),(1,.c .i),(2,.c .i),(7,.c .i),(8,.c .i)],[(0,.b 92 (.d::.w 1::ds 9)),(1,.w 52 31)]⟩)],[]⟩ s106 g106:=fun _ _ _=>by kernel_rfl
def g107 : Tx:=fun _ a K=>aa (cell (ent a 0) 0) fun z1=>ah 31 (cell (ent a 2) 0) fun n2 c3=>ckK (0<=z1/\z1 < (n2 : Int)) (aa (cell
 (ent a 1) 5) fun z4=>ifK (decide (z1 < z4)) (aa (cell (sub (el c3 31 (Int.toNat z1)) 4 3) 0) fun z5=>aa (cell (sub (el c3 31 (Int.toNat z1))
 4 3) 1) fun z6=>aa (cell (sub (el c3 31 (Int.toNat z1)) 4 3) 2) fun z7=>aa (cell (ent a 1) 6) fun z8=>aa (cell (ent a 1) 7) fun z9 =>
 aa (cell (ent a 1) 8) fun z10=>ifK (decide (z5 = z8/\z6 = z9/\z7 = z10)) (K [[vB true],cls (ent a 1) 0 10 [],[.sl n2 31 c3]]) (ah 6 (cell
 (ent a 1) 0) fun n11 c12=>ckK (0<=(0 : Int)/\(0 : Int) < (n11 : Int)) (aa (cell (sub (el c3 31 (Int.toNat z1)) 4 3) 0) fun z13=>aa (cell
 (sub (el c3 31 (Int.toNat z1)) 4 3) 1) fun z14=>aa (cell (sub (el c3 31 (Int.toNat z1)) 4 3) 2) fun z15=>aa (cell (sub (el c12 6 0) 0 3) 0)
 fun z16=>aa (cell (sub (el c12 6 0) 0 3) 1) fun z17=>aa (cell (sub (el c12 6 0) 0 3) 2) fun z18=>K [[vB (decide (z13 = z16/\z14 = z17 /\
 z15 = z18))],cls (ent a 1) 0 10 [],[.sl n2 31 c3]]))) (K [[vB false],cls (ent a 1) 0 10 [],[.sl n2 31 c3]]))
theorem w107 : Wd ⟨[],[35],[]⟩ ⟨[],[],[]⟩ xK g107:=fun _ _ _=>by kernel_rfl
def g87 : Tx:=fun Is a K=>aa (cell (ent a 2) 0) fun z1=>aa (cell (ent a 3) 0) fun z2=>ah 31 (cell (ent a 5) 0) fun n3 c4=>aa (cell
 (ent a 0) 0) fun z5=>ifK (decide (z5 = (0 : Int))) (ckK ((6 : Int) ≠ 0) (ifK (decide ((Int.tmod z1 6) = (5 : Int))) (caK Is s41 [[vI 0,vI 0,vI
 0,vI 0,.sl 0 5 []]] fun r6=>ah 5 (cell (ent r6 1) 0) fun n7 c8=>ckK (okI (z2 - 1)) (caK Is s49 [cls (ent r6 0) 0 4 [.sl n7 5 c8],[cell (ent
 a 1) 0],[vI (z2 - 1)],cls (ent a 4) 0 10 [],[.sl n3 31 c4]] fun r9=>ah 1 (cell (ent r9 1) 0) fun n10 c11=>ah 31 (cell (ent r9 3) 0) fun
 n12 c13=>caK Is s81 [[vI 4],[vI 11],[.sl 1 15 (cls (ent r9 0) 0 14 [.sl n10 1 c11])],cls (ent r9 2) 0 10 [],[.sl n12 31 c13]] fun r14=>ah
 1 (cell (ent r14 1) 0) fun n15 c16=>ah 31 (cell (ent r14 3) 0) fun n17 c18=>K [cls (ent r14 0) 0 14 [],[.sl n15 1 c16],cls (ent r14 2) 0 10
 [],[.sl n17 31 c18]])) (ckK (okI (z2 - 1)) (caK Is s49 [ent a 0,[cell (ent a 1) 0],[vI (z2 - 1)],cls (ent a 4) 0 10 [],[.sl n3 31 c4]] fun r19
 => ah 1 (cell (ent r19 1) 0) fun n20 c21=>ah 31 (cell (ent r19 3) 0) fun n22 c23=>ckK ((5 : Int) ≠ 0) (ckK (0<=(Int.tmod z1 5)/\(Int.tmod
 z1 5) < (5 : Int)) (ckK (okI (z2 - 1)) (caK Is s49 [ent a 0,[cell (ent a 1) 0],[vI (z2 - 1)],cls (ent r19 2) 0 10 [],[.sl n22 31 c23]] fun r24
 => ah 1 (cell (ent r24 1) 0) fun n25 c26=>ah 31 (cell (ent r24 3) 0) fun n27 c28=>caK Is s81 [[vI 4],[cell (el [vI 0,vI 1,vI 2,vI 3,vI
 4] 1 (Int.toNat (Int.tmod z1 5))) 0],[.sl 2 15 (cls (ent r19 0) 0 14 (.sl n20 1 c21::cls (ent r24 0) 0 14 [.sl n25 1 c26]))],cls (ent r24 2) 0
 10 [],[.sl n27 31 c28]] fun r29=>ah 1 (cell (ent r29 1) 0) fun n30 c31=>ah 31 (cell (ent r29 3) 0) fun n32 c33=>K [cls (ent r29 0) 0 14
 [],[.sl n30 1 c31],cls (ent r29 2) 0 10 [],[.sl n32 31 c33]]))))))) (aa (cell (ent a 0) 0) fun z34=>ifK (decide (z34 = (1 : Int))) (ckK ((6 :
 Int) ≠ 0) (ifK (decide ((Int.tmod z1 6) = (0 : Int))) (ckK (okI (z2 - 1)) (caK Is s49 [ent a 0,[cell (ent a 1) 0],[vI (z2 - 1)],cls (ent a 4) 0
 10 [],[.sl n3 31 c4]] fun r35=>ah 1 (cell (ent r35 1) 0) fun n36 c37=>ah 31 (cell (ent r35 3) 0) fun n38 c39=>caK Is s81 [[vI 4],[vI 9],
 [.sl 1 15 (cls (ent r35 0) 0 14 [.sl n36 1 c37])],cls (ent r35 2) 0 10 [],[.sl n38 31 c39]] fun r40=>ah 1 (cell (ent r40 1) 0) fun n41 c42 =>
 ah 31 (cell (ent r40 3) 0) fun n43 c44=>K [cls (ent r40 0) 0 14 [],[.sl n41 1 c42],cls (ent r40 2) 0 10 [],[.sl n43 31 c44]])) (jn (fun k45
 => ckK ((6 : Int) ≠ 0) (ifK (decide ((Int.tmod z1 6) = (2 : Int))) (k45 [[cell (ent a 1) 0],[vI z1],[vI z2],[vI 6],cls (ent a 4) 0 10 [],ent a
 0,[vI 0,vI 0,vI 0,vI 0,vI 0,vI 0,vI 0,vI 0,vI 0,vI 0,vI 0,vI 0,.sl 0 5 [],.sl 0 15 [],.sl 0 1 []],[vI 0,vI 0,vI 0,vI 0,.sl 0 5
 []],[.sl n3 31 c4]]) (k45 [[cell (ent a 1) 0],[vI z1],[vI z2],[vI 5],cls (ent a 4) 0 10 [],ent a 0,[vI 0,vI 0,vI 0,vI 0,vI 0,vI 0,vI 0,
 vI 0,vI 0,vI 0,vI 0,vI 0,.sl 0 5 [],.sl 0 15 [],.sl 0 1 []],[vI 0,vI 0,vI 0,vI 0,.sl 0 5 []],[.sl n3 31 c4]]))) (fun gS=>aa (cell
 (ent gS 1) 0) fun z47=>aa (cell (ent gS 2) 0) fun z48=>aa (cell (ent gS 3) 0) fun z49=>ah 31 (cell (ent gS 8) 0) fun n50 c51 =>
 jn (fun k52=>ckK ((6 : Int) ≠ 0) (ifK (decide ((Int.tmod z47 6) = (3 : Int))) (ckK ((6 : Int) ≠ 0/\okI (Int.tdiv z47 6)) (ah 9 (cell (ent gS
 0) 0) fun n54 _=>ckK ((n54 : Int) ≠ 0) (ah 9 (cell (ent gS 0) 0) fun n56 c57=>ckK (0<=(Int.tmod (Int.tdiv z47 6) (n54 : Int))/\(Int.tmod
 (Int.tdiv z47 6) (n54 : Int)) < (n56 : Int)) (k52 [[cell (ent gS 0) 0],[vI z47],[vI z48],[vI 6],cls (ent gS 4) 0 10 [],ent gS 5,ent gS
 6,sub (el c57 9 (Int.toNat (Int.tmod (Int.tdiv z47 6) (n54 : Int)))) 4 5,[.sl n50 31 c51]])))) (k52 [[cell (ent gS 0) 0],[vI z47],[vI z48],
 [vI z49],cls (ent gS 4) 0 10 [],ent gS 5,ent gS 6,ent gS 7,[.sl n50 31 c51]]))) (fun qC=>aa (cell (ent qC 1) 0) fun z58=>aa
 (cell (ent qC 2) 0) fun z59=>aa (cell (ent qC 3) 0) fun z60=>ah 31 (cell (ent qC 8) 0) fun n61 c62=>jn (fun k63=>ckK ((6 : Int) ≠
 0) (ifK (decide ((4 : Int)<=(Int.tmod z58 6))) (ckK ((6 : Int) ≠ 0) (ckK (okI ((Int.tmod z58 6) - 4)) (ckK (0<=((Int.tmod z58 6) - 4)/\((Int.tmod
 z58 6) - 4) < (2 : Int)) (k63 [[cell (ent qC 0) 0],[vI z59],[cell (el [vI 7,vI 8] 1 (Int.toNat ((Int.tmod z58 6) - 4))) 0],cls (ent qC 4) 0
 10 [],ent qC 6,ent qC 5,[.sl n61 31 c62]])))) (k63 [[cell (ent qC 0) 0],[vI z59],[vI z60],cls (ent qC 4) 0 10 [],ent qC 6,ent qC
 7,[.sl n61 31 c62]]))) (fun xE=>aa (cell (ent xE 1) 0) fun z65=>aa (cell (ent xE 2) 0) fun z66=>ah 31 (cell (ent xE 6) 0) fun
 n67 c68=>ckK (okI (z65 - 1)) (caK Is s49 [ent xE 5,[cell (ent xE 0) 0],[vI (z65 - 1)],cls (ent xE 3) 0 10 [],[.sl n67 31 c68]] fun r69
 => ah 1 (cell (ent r69 1) 0) fun n70 c71=>ah 31 (cell (ent r69 3) 0) fun n72 c73=>ckK (okI (z65 - 1)) (caK Is s49 [ent xE 5,[cell (ent
 xE 0) 0],[vI (z65 - 1)],cls (ent r69 2) 0 10 [],[.sl n72 31 c73]] fun r74=>ah 1 (cell (ent r74 1) 0) fun n75 c76=>ah 31 (cell (ent r74
 3) 0) fun n77 c78=>caK Is s81 [[vI 4],[vI z66],[.sl 2 15 (cls (ent r69 0) 0 14 (.sl n70 1 c71::cls (ent r74 0) 0 14 [.sl n75 1 c76]))],cls
 (ent r74 2) 0 10 [],[.sl n77 31 c78]] fun r79=>ah 1 (cell (ent r79 1) 0) fun n80 c81=>ah 31 (cell (ent r79 3) 0) fun n82 c83=>K [cls (ent
 r79 0) 0 14 [],[.sl n80 1 c81],cls (ent r79 2) 0 10 [],[.sl n82 31 c83]])))))))) (jn (fun k84=>aa (cell (ent a 0) 0) fun z86=>ifK (decide
 (z86 = (2 : Int))) (ckK ((2 : Int) ≠ 0) (ifK (decide ((Int.tmod z1 2) = (0 : Int))) (ckK (okI (z2 - 1)) (caK Is s49 [ent a 0,[cell (ent a 1) 0],
 [vI (z2 - 1)],cls (ent a 4) 0 10 [],[.sl n3 31 c4]] fun r87=>ah 1 (cell (ent r87 1) 0) fun n88 c89=>ah 31 (cell (ent r87 3) 0) fun n90 c91
 => ckK (okI (z2 - 1)) (caK Is s49 [ent a 0,[cell (ent a 1) 0],[vI (z2 - 1)],cls (ent r87 2) 0 10 [],[.sl n90 31 c91]] fun r92=>ah 1 (cell
 (ent r92 1) 0) fun n93 c94=>ah 31 (cell (ent r92 3) 0) fun n95 c96=>caK Is s81 [[vI 4],[vI 10],[.sl 2 15 (cls (ent r87 0) 0 14 (.sl n88 1
 c89::cls (ent r92 0) 0 14 [.sl n93 1 c94]))],cls (ent r92 2) 0 10 [],[.sl n95 31 c96]] fun r97=>ah 1 (cell (ent r97 1) 0) fun n98 c99 =>
 ah 31 (cell (ent r97 3) 0) fun n100 c101=>K [cls (ent r97 0) 0 14 [],[.sl n98 1 c99],cls (ent r97 2) 0 10 [],[.sl n100 31 c101]]))) (k84
 [[cell (ent a 1) 0],[vI z1],[vI z2],cls (ent a 4) 0 10 [],ent a 0,[vI 0,vI 0,vI 0,vI 0,vI 0,vI 0,vI 0,vI 0,vI 0,vI 0,vI 0,vI 0,.sl
 0 5 [],.sl 0 15 [],.sl 0 1 []],[.sl n3 31 c4]]))) (k84 [[cell (ent a 1) 0],[vI z1],[vI z2],cls (ent a 4) 0 10 [],ent a 0,[vI 0,vI 0,vI 0,
 vI 0,vI 0,vI 0,vI 0,vI 0,vI 0,vI 0,vI 0,vI 0,.sl 0 5 [],.sl 0 15 [],.sl 0 1 []],[.sl n3 31 c4]])) (fun B7=>aa (cell (ent B7 1)
 0) fun z102=>aa (cell (ent B7 2) 0) fun z103=>ah 31 (cell (ent B7 6) 0) fun n104 c105=>ckK ((2 : Int) ≠ 0/\okI (Int.tdiv z102 2))
 (caK Is s80 [ent B7 4,[cell (ent B7 0) 0],[vI (Int.tdiv z102 2)],[vI z103],cls (ent B7 3) 0 10 [],[.sl n104 31 c105]] fun r106=>ah 1
 (cell (ent r106 1) 0) fun n107 c108=>ah 31 (cell (ent r106 3) 0) fun n109 c110=>K [cls (ent r106 0) 0 14 [],[.sl n107 1 c108],cls (ent r106
 2) 0 10 [],[.sl n109 31 c110]]))))
theorem w87 : Wd ⟨[s41,s49,s80,s81],[35],[]⟩ ⟨[],[(13,⟨[(0,.c (.p 0 0)),(2,.c .d),(3,.c .i),(4,.c .i),(6,.c (.p 2 0)),(10,.c (.p 3 0)),(12,.c (.p 4 0)),(13,.c .i)],[(0,.b 92 (.d::.w 1::ds 9)),(2,.a 38 5),(3,.a 50 15),(4,.a 38 5),(1,.w 52 31)]⟩),(16,⟨[(0,.c (.p 0 0)),(2,.c .d),(3,.c .i),(4,.c .i),(6,.c (.p 2 0)),(10,.c (.p 3 0)),(12,.c (.p 4 0)),(13,.c .i)],[(0,.b 92 (.d::.w 1::ds 9)),(2,.a 38 5),(3,.a 50 15),(4,.a 38 5),(1,.w 52 31)]⟩),(19,⟨[(0,.c (.p 0 0)),(2,.c .d),(4,.c .i),(10,.c (.p 2 0)),(12,.c (.p 3 0)),(13,.c .i)],[(0,.b 92 (.d::.w 1::ds 9)),(2,.a 50 15),(3,.a 38 5),(1,.w 52 31)]⟩),(24,⟨[(0,.c (.p 0 0)),(2,.c .d),(3,.c .i),(4,.c .i),(6,.c (.p 2 0)),(10,.c (.p 3 0))],[(0,.b 92 (.d::.w 1::ds 9)),(2,.a 38 5),(3,.a 50 15),(1,.w 52 31)]⟩)],[]⟩ s87 g87:=fun _ _ _=>by kernel_rfl
def g85 : Tx:=fun Is a K=>aa (cell (ent a 2) 0) fun z1=>aa (cell (ent a 3) 0) fun z2=>ah 31 (cell (ent a 5) 0) fun n3 c4=>jn (fun k5
 => Lp (fun Ew st8=>aa (cell (ent st8 1) 0) fun z9=>aa (cell (ent st8 2) 0) fun z10=>aa (cell (ent st8 3) 0) fun z11=>ah 31 (cell
 (ent st8 7) 0) fun n12 c13=>ifK (decide (z11 < (n12 : Int))) (jn (fun k14=>ckK (okI (z9+z11)) (ckK ((n12 : Int) ≠ 0) (ckK (0<=(Int.tmod (z9 +
 z11) (n12 : Int))/\(Int.tmod (z9+z11) (n12 : Int)) < (n12 : Int)) (Lp (fun zN eA=>aa (cell (ent eA 1) 0) fun z18=>aa (cell (ent
 eA 2) 0) fun z19=>aa (cell (ent eA 3) 0) fun z20=>aa (cell (ent eA 4) 0) fun z21=>aa (cell (ent eA 5) 0) fun z22=>ah 31
 (cell (ent eA 10) 0) fun n23 c24=>ah 11 (cell (ent eA 9) 8) fun n25 _=>ifK (decide (z22 < (n25 : Int))) (aa (cell (ent eA 9) 3) fun
 z27=>ifK (decide (z27 = (0 : Int))) (caK Is xK [[vI z21],cls (ent eA 6) 0 10 [],[.sl n23 31 c24]] fun r28=>bU (cell (ent r28 0) 0) fun
 b29=>ah 31 (cell (ent r28 2) 0) fun n30 c31=>ifK b29 (ah 11 (cell (ent eA 9) 8) fun n32 c33=>ckK (0<=z22/\z22 < (n32 : Int)) (caK Is
 tM [sub (el c33 11 (Int.toNat z22)) 4 5,ent eA 7] fun r34=>bU (cell (ent r34 0) 0) fun b35=>ifK b35 (caK Is s42 [sub (ent eA 9) 0 3]
 fun r36=>ckK (okI (z19 - 1)) (caK Is s49 [ent r36 0,[cell (ent eA 0) 0],[vI (z19 - 1)],cls (ent r28 1) 0 10 [],[.sl n30 31 c31]] fun r37 =>
 ah 1 (cell (ent r37 1) 0) fun n38 c39=>ah 31 (cell (ent r37 3) 0) fun n40 c41=>caK Is s81 [[vI 8],[vI z22],[.sl 1 15 (cls (ent r37 0) 0 14
 [.sl n38 1 c39])],cls (ent r37 2) 0 10 [],[.sl n40 31 c41]] fun r42=>ah 1 (cell (ent r42 1) 0) fun n43 c44=>ah 31 (cell (ent r42 3) 0) fun
 n45 c46=>K [cls (ent r42 0) 0 5 (cls (sub (ent eA 9) 0 3) 0 3 (cls (ent r42 0) 8 6 [])),[.sl n43 1 c44],cls (ent r42 2) 0 10 [],[.sl n45 31
 c46]])) (ckK (okI (z22+1)) (zN [[cell (ent eA 0) 0],[vI z18],[vI z19],[vI z20],[vI z21],[vI (z22+1)],cls (ent r28 1) 0 10 [],ent
 eA 7,ent eA 8,ent eA 9,[.sl n30 31 c31]])))) (k14 [[cell (ent eA 0) 0],[vI z18],[vI z19],[vI z20],cls (ent r28 1) 0 10 [],ent eA
 7,ent eA 8,[.sl n30 31 c31]])) (k14 [[cell (ent eA 0) 0],[vI z18],[vI z19],[vI z20],cls (ent eA 6) 0 10 [],ent eA 7,ent eA 8,[.sl
 n23 31 c24]])) (k14 [[cell (ent eA 0) 0],[vI z18],[vI z19],[vI z20],cls (ent eA 6) 0 10 [],ent eA 7,ent eA 8,[.sl n23 31 c24]]))
 [[cell (ent st8 0) 0],[vI z9],[vI z10],[vI z11],[vI (Int.tmod (z9+z11) (n12 : Int))],[vI 0],cls (ent st8 4) 0 10 [],ent st8 5,ent st8 6,
 el c13 31 (Int.toNat (Int.tmod (z9+z11) (n12 : Int))),[.sl n12 31 c13]])))) (fun cK=>aa (cell (ent cK 1) 0) fun z47=>aa (cell (ent
 cK 2) 0) fun z48=>aa (cell (ent cK 3) 0) fun z49=>ah 31 (cell (ent cK 7) 0) fun n50 c51=>ckK (okI (z49+1)) (Ew [[cell (ent cK
 0) 0],[vI z47],[vI z48],[vI (z49+1)],cls (ent cK 4) 0 10 [],ent cK 5,ent cK 6,[.sl n50 31 c51]]))) (k5 [[cell (ent st8 0) 0],[vI
 z9],[vI z10],cls (ent st8 4) 0 10 [],ent st8 5,ent st8 6,[.sl n12 31 c13]])) [[cell (ent a 1) 0],[vI z1],[vI z2],[vI 0],cls (ent a 4) 0 10
 [],ent a 0,[vI 0,vI 0,vI 0,vI 0,vI 0,vI 0,vI 0,vI 0,vI 0,vI 0,vI 0,vI 0,.sl 0 5 [],.sl 0 15 [],.sl 0 1 []],[.sl n3 31 c4]]) (fun
 st6=>aa (cell (ent st6 1) 0) fun z52=>aa (cell (ent st6 2) 0) fun z53=>ah 31 (cell (ent st6 6) 0) fun n54 c55=>caK Is s87 [ent st6 4,
 [cell (ent st6 0) 0],[vI z52],[vI z53],cls (ent st6 3) 0 10 [],[.sl n54 31 c55]] fun r56=>ah 1 (cell (ent r56 1) 0) fun n57 c58=>ah 31
 (cell (ent r56 3) 0) fun n59 c60=>K [cls (ent r56 0) 0 14 [],[.sl n57 1 c58],cls (ent r56 2) 0 10 [],[.sl n59 31 c60]])
theorem w85 : Wd ⟨[s42,s49,s81,s87,tM,xK],[35],[]⟩ ⟨[(2,⟨[(0,.c (.p 0 0)),(2,.c .d),(3,.c .i),(4,.c .i),(6,.c (.p 2 0)),(10,.c (.p 3 0)),(11,.c .i)],[(0,.b 92 (.d::.w 1::ds 9)),(2,.a 38 5),(3,.a 50 15),(1,.w 52 31)]⟩),(7,⟨[(0,.c (.p 0 0)),(2,.c .d),(3,.c .i),(4,.c .i),(6,.c (.p 2 0)),(10,.c (.p 3 0)),(11,.c .i),(12,.c .i),(13,.c (.p 4 0)),(14,.c .i)],[(0,.b 92 (.d::.w 1::ds 9)),(2,.a 38 5),(3,.a 50 15),(4,.a 52 31),(1,.w 52 31)]⟩)],[(3,⟨[(0,.c (.p 0 0)),(2,.c .d),(3,.c .i),(4,.c .i),(6,.c (.p 2 0)),(10,.c (.p 3 0)),(11,.c .i)],[(0,.b 92 (.d::.w 1::ds 9)),(2,.a 38 5),(3,.a 50 15),(1,.w 52 31)]⟩),(13,⟨[(0,.c (.p 0 0)),(2,.c .d),(3,.c .i),(4,.c .i),(6,.c (.p 2 0)),(10,.c (.p 3 0))],[(0,.b 92 (.d::.w 1::ds 9)),(2,.a 38 5),(3,.a 50 15),(1,.w 52 31)]⟩)],[]⟩ s85 g85:=fun _ _ _=>by kernel_rfl
def g86 : Tx:=fun Is a K=>aa (cell (ent a 2) 0) fun z1=>aa (cell (ent a 3) 0) fun z2=>ah 31 (cell (ent a 5) 0) fun n3 c4=>jn (fun k5
 => Lp (fun Ew st8=>aa (cell (ent st8 1) 0) fun z9=>aa (cell (ent st8 2) 0) fun z10=>aa (cell (ent st8 3) 0) fun z11=>ah 31 (cell
 (ent st8 7) 0) fun n12 c13=>ifK (decide (z11 < (n12 : Int))) (jn (fun k14=>ckK (0<=z11/\z11 < (n12 : Int)) (aa (cell (el c13 31 (Int.toNat
 z11)) 3) fun z16=>ifK (decide (z16 = (2 : Int))) (caK Is xK [[vI z11],cls (ent st8 4) 0 10 [],[.sl n12 31 c13]] fun r17=>bU (cell (ent r17
 0) 0) fun b18=>ah 31 (cell (ent r17 2) 0) fun n19 c20=>ifK b18 (caK Is tM [sub (el c13 31 (Int.toNat z11)) 9 5,ent st8 5] fun r21=>bU
 (cell (ent r21 0) 0) fun b22=>ifK b22 (jn (fun k23=>Lp (fun zM dm=>aa (cell (ent dm 1) 0) fun z27=>aa (cell (ent dm 2) 0) fun
 z28=>ah 15 (cell (ent dm 6) 0) fun n29 c30=>ah 31 (cell (ent dm 7) 0) fun n31 c32=>ah 11 (cell (ent dm 5) 8) fun n33 _=>ifK
 (decide (z28 < (n33 : Int))) (ah 11 (cell (ent dm 5) 8) fun n35 c36=>ckK (0<=z28/\z28 < (n35 : Int)) (ckK (okI (z27 - 1)) (caK Is s49 [sub
 (el c36 11 (Int.toNat z28)) 4 5,[cell (ent dm 0) 0],[vI (z27 - 1)],cls (ent dm 3) 0 10 [],[.sl n31 31 c32]] fun r37=>ah 1 (cell (ent r37
 1) 0) fun n38 c39=>ah 31 (cell (ent r37 3) 0) fun n40 c41=>ckK (room (n29+1) 169) (ckK (okI (z28+1)) (zM [[cell (ent dm 0) 0],[vI
 z27],[vI (z28+1)],cls (ent r37 2) 0 10 [],ent dm 4,ent dm 5,[.sl (n29+1) 15 (c30++(cls (ent r37 0) 0 14 [.sl n38 1 c39]))],[.sl n40
 31 c41]]))))) (k23 [cls (ent dm 3) 0 10 [],ent dm 4,ent dm 5,[.sl n29 15 c30],[.sl n31 31 c32]])) [[cell (ent st8 0) 0],[vI z10],[vI 0],
 cls (ent r17 1) 0 10 [],ent st8 6,el c13 31 (Int.toNat z11),[.sl 0 15 []],[.sl n19 31 c20]]) (fun vO=>ah 15 (cell (ent vO 3) 0) fun n42
 c43=>ah 31 (cell (ent vO 4) 0) fun n44 c45=>caK Is s81 [[vI 3],[vI 0],[.sl n42 15 c43],cls (ent vO 0) 0 10 [],[.sl n44 31 c45]] fun
 r46=>ah 1 (cell (ent r46 1) 0) fun n47 c48=>ah 31 (cell (ent r46 3) 0) fun n49 c50=>K [cls (ent r46 0) 0 5 (cls (sub (ent vO 2) 0 3) 0 3
 (cls (ent r46 0) 8 6 [])),[.sl n47 1 c48],cls (ent r46 2) 0 10 [],[.sl n49 31 c50]])) (k14 [[cell (ent st8 0) 0],[vI z9],[vI z10],[vI z11],
 cls (ent r17 1) 0 10 [],ent st8 5,ent st8 6,[.sl n19 31 c20]])) (k14 [[cell (ent st8 0) 0],[vI z9],[vI z10],[vI z11],cls (ent r17 1) 0 10 [],
 ent st8 5,ent st8 6,[.sl n19 31 c20]])) (k14 [[cell (ent st8 0) 0],[vI z9],[vI z10],[vI z11],cls (ent st8 4) 0 10 [],ent st8 5,ent st8 6,
 [.sl n12 31 c13]]))) (fun cK=>aa (cell (ent cK 1) 0) fun z51=>aa (cell (ent cK 2) 0) fun z52=>aa (cell (ent cK 3) 0) fun z53 =>
 ah 31 (cell (ent cK 7) 0) fun n54 c55=>ckK (okI (z53+1)) (Ew [[cell (ent cK 0) 0],[vI z51],[vI z52],[vI (z53+1)],cls (ent cK 4)
 0 10 [],ent cK 5,ent cK 6,[.sl n54 31 c55]]))) (k5 [[cell (ent st8 0) 0],[vI z9],[vI z10],cls (ent st8 4) 0 10 [],ent st8 5,ent st8 6,
 [.sl n12 31 c13]])) [[cell (ent a 1) 0],[vI z1],[vI z2],[vI 0],cls (ent a 4) 0 10 [],ent a 0,[vI 0,vI 0,vI 0,vI 0,vI 0,vI 0,vI 0,vI 0,
 vI 0,vI 0,vI 0,vI 0,.sl 0 5 [],.sl 0 15 [],.sl 0 1 []],[.sl n3 31 c4]]) (fun st6=>aa (cell (ent st6 1) 0) fun z56=>aa (cell (ent st6
 2) 0) fun z57=>ah 31 (cell (ent st6 6) 0) fun n58 c59=>caK Is s87 [ent st6 4,[cell (ent st6 0) 0],[vI z56],[vI z57],cls (ent st6 3) 0 10
 [],[.sl n58 31 c59]] fun r60=>ah 1 (cell (ent r60 1) 0) fun n61 c62=>ah 31 (cell (ent r60 3) 0) fun n63 c64=>K [cls (ent r60 0) 0 14 [],
 [.sl n61 1 c62],cls (ent r60 2) 0 10 [],[.sl n63 31 c64]])
theorem w86 : Wd ⟨[s49,s81,s87,tM,xK],[35],[]⟩ ⟨[(2,⟨[(0,.c (.p 0 0)),(2,.c .d),(3,.c .i),(4,.c .i),(6,.c (.p 2 0)),(10,.c (.p 3 0)),(11,.c .i)],[(0,.b 92 (.d::.w 1::ds 9)),(2,.a 38 5),(3,.a 50 15),(1,.w 52 31)]⟩),(8,⟨[(0,.c (.p 0 0)),(2,.c .d),(4,.c .i),(10,.c (.p 2 0)),(12,.c (.p 3 0)),(13,.c (.w 4)),(14,.c .i)],[(0,.b 92 (.d::.w 1::ds 9)),(2,.a 50 15),(3,.a 52 31),(4,.w 50 15),(1,.w 52 31)]⟩)],[(3,⟨[(0,.c (.p 0 0)),(2,.c .d),(3,.c .i),(4,.c .i),(6,.c (.p 2 0)),(10,.c (.p 3 0)),(11,.c .i)],[(0,.b 92 (.d::.w 1::ds 9)),(2,.a 38 5),(3,.a 50 15),(1,.w 52 31)]⟩),(11,⟨[(0,.c (.p 0 0)),(10,.c (.p 2 0)),(12,.c (.p 3 0)),(13,.c (.w 4))],[(0,.b 92 (.d::.w 1::ds 9)),(2,.a 50 15),(3,.a 52 31),(4,.w 50 15),(1,.w 52 31)]⟩),(14,⟨[(0,.c (.p 0 0)),(2,.c .d),(3,.c .i),(4,.c .i),(6,.c (.p 2 0)),(10,.c (.p 3 0))],[(0,.b 92 (.d::.w 1::ds 9)),(2,.a 38 5),(3,.a 50 15),(1,.w 52 31)]⟩)],[]⟩ s86 g86:=fun _ _ _=>by kernel_rfl
def g82 : Tx:=fun _ a K=>ah 31 (cell (ent a 1) 0) fun n1 c2=>aa (cell (ent a 0) 9) fun z3=>ckK (okI (z3+1)) (ckK ((3 : Int) ≠ 0) (ckK (0
 <= (Int.tmod (z3+1) 3)/\(Int.tmod (z3+1) 3) < (3 : Int)) (ckK ((3 : Int) ≠ 0/\okI (Int.tdiv (z3+1) 3)) (ckK ((8 : Int) ≠ 0) (ckK (0 <=
 (Int.tmod (Int.tdiv (z3+1) 3) 8)/\(Int.tmod (Int.tdiv (z3+1) 3) 8) < (8 : Int)) (B4 (cell (el ([vS (ByteArray.mk #[117]),vS (ByteArray.mk
 #[118]),vS (ByteArray.mk #[119])]) 1 (Int.toNat (Int.tmod (z3+1) 3))) 0) fun s4=>B4 (cell (el ([vS (ByteArray.mk #[]),vS (ByteArray.mk
 #[49]),vS (ByteArray.mk #[50]),vS (ByteArray.mk #[51]),vS (ByteArray.mk #[52]),vS (ByteArray.mk #[53]),vS (ByteArray.mk #[54]),vS
 (ByteArray.mk #[55])]) 1 (Int.toNat (Int.tmod (Int.tdiv (z3+1) 3) 8))) 0) fun s5=>ckK (ByteArray.size s4+ByteArray.size s5<=1000000) (K [[vS
 (s4++s5)],cls (ent a 0) 0 9 [vI (z3+1)],[.sl n1 31 c2]])))))))
theorem w82 : Wd ⟨[],[35],[]⟩ ⟨[],[],[]⟩ s82 g82:=fun _ _ _=>by kernel_rfl
def g83 : Tx:=fun _ a K=>ah 9 (cell (ent a 0) 0) fun n1 c2=>ckK (room (0+n1) 89) (ckK (room (0+n1+1) 89) (K [[.sl (0+n1+1) 9 (c2 ++
 ((ent a 1)++[]))]]))
theorem w83 : Wd ⟨[],[35],[]⟩ ⟨[],[],[]⟩ s83 g83:=fun _ _ _=>by kernel_rfl
def g50 : Tx:=fun Is a K=>Lp (fun lq st2=>aa (cell (ent st2 0) 0) fun z3=>aa (cell (ent st2 1) 0) fun z4=>ah 15 (cell (ent st2 2)
 13) fun n5 _=>ifK (decide (z4 < (n5 : Int))) (ah 15 (cell (ent st2 2) 13) fun n7 c8=>ckK (0<=z4/\z4 < (n7 : Int)) (caK Is s50 [el c8 15
 (Int.toNat z4)] fun r9=>aa (cell (ent r9 0) 0) fun z10=>ckK (okI (z3+z10)) (ckK (okI (z4+1)) (lq [[vI (z3+z10)],[vI (z4+1)],ent
 st2 2])))) (K [[vI z3]])) [[vI 1],[vI 0],ent a 0]
theorem w50 : Wd ⟨[s50],[35],[]⟩ ⟨[(3,⟨[(1,.c (.p 0 0)),(3,.c .i),(4,.c .i)],[(0,.a 50 15)]⟩)],[],[]⟩ s50 g50:=fun _ _ _=>by kernel_rfl
def g51 : Tx:=fun Is a K=>ah 1 (cell (ent a 1) 0) fun n1 c2=>Lp (fun fH st4=>aa (cell (ent st4 0) 0) fun z5=>ah 1 (cell (ent st4 1)
 0) fun n6 c7=>ah 15 (cell (ent st4 2) 13) fun n8 _=>ifK (decide (z5 < (n8 : Int))) (ah 15 (cell (ent st4 2) 13) fun n10 c11=>ckK (0<=z5 /\
 z5 < (n10 : Int)) (caK Is s51 [el c11 15 (Int.toNat z5),[.sl n6 1 c7]] fun r12=>ah 1 (cell (ent r12 0) 0) fun n13 c14=>ckK (okI (z5+1))
 (fH [[vI (z5+1)],[.sl n13 1 c14],ent st4 2]))) (ckK (room (n6+1) 9) (K [[.sl (n6+1) 1 (c7++[cell (ent st4 2) 2])]]))) [[vI 0],[.sl n1
 1 c2],ent a 0]
theorem w51 : Wd ⟨[s51],[35],[]⟩ ⟨[(2,⟨[(1,.c (.w 0)),(2,.c (.p 1 0)),(5,.c .i)],[(0,.w 3 1),(1,.a 50 15)]⟩)],[],[]⟩ s51 g51:=fun _ _ _=>by kernel_rfl
def g52 : Tx:=fun Is a K=>ah 3 (cell (ent a 1) 0) fun n1 c2=>aa (cell (ent a 0) 2) fun z3=>ckK (0<=z3/\z3 < (n1 : Int)) (jn (fun k4 =>
 aa (cell (ent a 0) 3) fun z6=>ifK (decide (z6 = (2 : Int))) (aa (cell (ent a 0) 6) fun z7=>ifK (decide (z7 = (0 : Int))) (aa (cell (ent a
 0) 7) fun z8=>ckK (0<=z8/\z8 < (n1 : Int)) (k4 [[.sl n1 3 c2],ent a 0,[vI 0,vI 0,vI 0,vI 0,vI 0,vI 0,vI 0,vI 0,vI 0,vI 0,vI 0,vI 0,
 .sl 0 5 [],.sl 0 15 [],.sl 0 1 []],cls (el c2 3 (Int.toNat z3)) 0 3 (cell (ent a 0) 3::cell (ent a 0) 4::cls (el c2 3 (Int.toNat z8)) 0 3
 (cls (ent a 0) 8 7 []))])) (k4 [[.sl n1 3 c2],ent a 0,[vI 0,vI 0,vI 0,vI 0,vI 0,vI 0,vI 0,vI 0,vI 0,vI 0,vI 0,vI 0,.sl 0 5 [],.sl 0
 15 [],.sl 0 1 []],cls (el c2 3 (Int.toNat z3)) 0 3 (cls (ent a 0) 3 12 [])])) (k4 [[.sl n1 3 c2],ent a 0,[vI 0,vI 0,vI 0,vI 0,vI 0,vI 0,vI
 0,vI 0,vI 0,vI 0,vI 0,vI 0,.sl 0 5 [],.sl 0 15 [],.sl 0 1 []],cls (el c2 3 (Int.toNat z3)) 0 3 (cls (ent a 0) 3 12 [])])) (fun st5=>ah
 3 (cell (ent st5 0) 0) fun n9 c10=>Lp (fun next11 eU=>aa (cell (ent eU 0) 0) fun z13=>ah 3 (cell (ent eU 1) 0) fun n14 c15=>ah
 15 (cell (ent eU 5) 0) fun n16 c17=>ah 15 (cell (ent eU 2) 13) fun n18 _=>ifK (decide (z13 < (n18 : Int))) (ah 15 (cell (ent eU 2) 13)
 fun n20 c21=>ckK (0<=z13/\z13 < (n20 : Int)) (caK Is s52 [el c21 15 (Int.toNat z13),[.sl n14 3 c15]] fun r22=>ah 15 (cell (ent r22 1) 0)
 fun n23 c24=>ah 3 (cell (ent r22 2) 0) fun n25 c26=>ckK (room (n16+1) 169) (ckK (okI (z13+1)) (next11 [[vI (z13+1)],[.sl n25 3 c26],
 ent eU 2,ent eU 3,cls (ent eU 4) 0 14 [],[.sl (n16+1) 15 (c17++(cls (ent r22 0) 0 13 [.sl n23 15 c24,cell (ent r22 0) 13]))]])))) (K
 [cls (ent eU 4) 0 14 [],[.sl n16 15 c17],[.sl n14 3 c15]])) [[vI 0],[.sl n9 3 c10],ent st5 1,ent st5 2,cls (ent st5 3) 0 13 [cell (ent st5
 3) 14],[.sl 0 15 []]]))
theorem w52 : Wd ⟨[s52],[35],[]⟩ ⟨[(7,⟨[(1,.c (.w 0)),(2,.c (.p 1 0)),(4,.c (.p 2 0)),(5,.c (.p 3 0)),(6,.c .i)],[(0,.w 35 3),(1,.a 50 15),(2,.a 50 15),(3,.b 50 (ds 13++[.w 4,.d])),(4,.w 50 15)]⟩)],[(5,⟨[(1,.c (.w 0)),(2,.c (.p 1 0)),(4,.c (.p 2 0)),(5,.c (.p 3 0))],[(0,.w 35 3),(1,.a 50 15),(2,.a 50 15),(3,.a 50 15)]⟩)],[]⟩ s52 g52:=fun _ _ _=>by kernel_rfl
set_option maxRecDepth 100000
abbrev s47 : Sig:=⟨47,⟨[(0,.a 2),(1,.a 15),(2,.c .i)],[]⟩,.t [.a 3,.c .i,.c .i],[],false⟩
abbrev s12 : Sig:=⟨12,⟨[(0,.c .i),(1,.c .d)],[]⟩,.a 3,[],false⟩
abbrev A4 : Sig:=⟨58,⟨[(0,.a 2),(1,.a 3)],[]⟩,.t [.a 31,.c .bo],[],false⟩
abbrev s5 : Sig:=⟨5,⟨[(0,.c .d),(1,.a 3)],[]⟩,.c .bo,[],true⟩
abbrev s20 : Sig:=⟨20,⟨[(0,.a 2),(1,.a 3)],[]⟩,.c .i,[],true⟩
abbrev s53 : Sig:=⟨53,⟨[(0,.a 2),(1,.a 3)],[]⟩,.t [.a 31,.c .bo],[],false⟩
abbrev s57 : Sig:=⟨57,⟨[(0,.a 2),(1,.a 3)],[]⟩,.t [.a 31,.c .bo],[],false⟩
abbrev s88 : Sig:=⟨88,⟨[(0,.c .d),(1,.c (.f 89 [.p 0 0]))],[(0,.a 35 3)]⟩,.c .i,[(0,.a 35 3)],false⟩
abbrev s89 : Sig:=⟨89,⟨[(0,.a 31),(1,.c (.p 0 0))],[(0,.a 35 3)]⟩,.c .bo,[(0,.a 35 3)],false⟩
abbrev s54 : Sig:=⟨54,⟨[(0,.a 31),(1,.c (.p 0 0)),(2,.c (.p 1 0))],[(0,.b 102 [.m 2]),(1,.b 97 [.f 55 [.p 1 0,.p 3 0,.p 4 0]]),(2,.m 102 false 1),(3,.a 32 2),(4,.b 104 [.f 54 [.p 0 0,.p 1 0]])]⟩,.c .i,[(0,.b 102 [.m 2]),(1,.b 97 [.f 55 [.p 1 0,.p 3 0,.p 4 0]]),(2,.m 102 false 1),(3,.a 32 2),(4,.b 104 [.f 54 [.p 0 0,.p 1 0]])],false⟩
abbrev s55 : Sig:=⟨55,⟨[(0,.a 15),(1,.c (.p 0 0)),(2,.c (.p 1 0)),(3,.c (.p 2 0))],[(0,.b 97 [.f 55 [.p 0 0,.p 1 0,.p 2 0]]),(1,.a 32 2),(2,.b 104 [.f 54 [.p 3 0,.p 0 0]]),(3,.b 102 [.m 4]),(4,.m 102 false 1)]⟩,.c .i,[(0,.b 97 [.f 55 [.p 0 0,.p 1 0,.p 2 0]]),(1,.a 32 2),(2,.b 104 [.f 54 [.p 3 0,.p 0 0]]),(3,.b 102 [.m 4]),(4,.m 102 false 1)],false⟩
abbrev s56 : Sig:=⟨56,⟨[(0,.c .i)],[]⟩,.c .i,[],true⟩
abbrev s21 : Sig:=⟨21,⟨[(0,.a 2),(1,.a 3)],[]⟩,.c .i,[],true⟩
abbrev s59 : Sig:=⟨59,⟨[(0,.a 31)],[]⟩,.c .bo,[],true⟩
abbrev s18 : Sig:=⟨18,⟨[],[]⟩,.c .bo,[],true⟩
abbrev s11 : Sig:=⟨11,⟨[(0,.a 3),(1,.a 3)],[]⟩,.c .bo,[],true⟩
abbrev s30 : Sig:=⟨30,⟨[(0,.a 3),(1,.a 3)],[]⟩,.c .i,[],true⟩
def g58_1 : Tx:=fun _ a K=>jn (fun k1=>Lp (fun fH st4=>aa (cell (ent st4 0) 0) fun z5=>ah 31 (cell (ent st4 1) 1) fun n6 _=>ifK
 (decide (z5 < (n6 : Int))) (ah 31 (cell (ent st4 1) 1) fun n8 c9=>ckK (0<=z5/\z5 < (n8 : Int)) (aa (cell (sub (el c9 31 (Int.toNat z5)) 0 3)
 0) fun z10=>aa (cell (sub (el c9 31 (Int.toNat z5)) 0 3) 1) fun z11=>aa (cell (sub (el c9 31 (Int.toNat z5)) 0 3) 2) fun z12=>aa (cell
 (ent st4 2) 0) fun z13=>aa (cell (ent st4 2) 1) fun z14=>aa (cell (ent st4 2) 2) fun z15=>ifK (decide (z10 = z13/\z11 = z14/\z12 = z15))
 (ah 31 (cell (ent st4 1) 1) fun n16 c17=>ckK (0<=z5/\z5 < (n16 : Int)) (K [el c17 31 (Int.toNat z5),[vB true]])) (ckK (okI (z5+1)) (fH
 [[vI (z5+1)],ent st4 1,ent st4 2,ent st4 3])))) (k1 [ent st4 3])) [[vI 0],ent a 0,ent a 1,[vI 0,vI 0,vI 0,vI 0,vI 0,vI 0,vI 0,.v
 (.string (ByteArray.mk #[])),.sl 0 11 [],vI 0,vI 0,vI 0,vI 0,.sl 0 5 [],vI 0,vI 0,vI 0,vI 0,vI 0,vI 0,vI 0,vI 0,vI 0,vI 0,vI 0,vI
 0,.sl 0 5 [],.sl 0 15 [],.sl 0 1 [],vI 0,.sl 0 1 []]]) (fun _=>K [[vI 0,vI 0,vI 0,vI 0,vI 0,vI 0,vI 0,.v (.string (ByteArray.mk #[])),
 .sl 0 11 [],vI 0,vI 0,vI 0,vI 0,.sl 0 5 [],vI 0,vI 0,vI 0,vI 0,vI 0,vI 0,vI 0,vI 0,vI 0,vI 0,vI 0,vI 0,.sl 0 5 [],.sl 0 15 [],
 .sl 0 1 [],vI 0,.sl 0 1 []],[vB false]])
theorem w58_1 : Wd ⟨[],[35],[]⟩ ⟨[(2,⟨[(2,.c (.p 0 0)),(3,.c (.p 1 0)),(4,.c (.p 2 0)),(6,.c .i)],[(0,.a 32 2),(1,.a 35 3),(2,.a 52 31)]⟩)],[(6,⟨[(4,.c (.p 0 0))],[(0,.a 52 31)]⟩)],[]⟩ A4 g58_1:=fun _ _ _=>by kernel_rfl
def g5 : Tx:=fun Is a K=>caK Is s19 [[cell (ent a 0) 0]] fun r1=>Lp (fun x9 st3=>aa (cell (ent st3 0) 0) fun z4=>ah 31 (cell (ent st3
 2) 1) fun n5 _=>ifK (decide (z4 < (n5 : Int))) (ah 31 (cell (ent st3 2) 1) fun n7 c8=>ckK (0<=z4/\z4 < (n7 : Int)) (caK Is s20 [ent st3 2,
 sub (el c8 31 (Int.toNat z4)) 0 3] fun r9=>aa (cell (ent r9 0) 0) fun z10=>ah 31 (cell (ent st3 2) 1) fun n11 c12=>ckK (0<=z4/\z4 < (n11
 : Int)) (caK Is s21 [ent st3 2,sub (el c12 31 (Int.toNat z4)) 0 3] fun r13=>aa (cell (ent r13 0) 0) fun z14=>ifK (!(decide (z10 = z14))) (K
 [[vB false]]) (ckK (okI (z4+1)) (x9 [[vI (z4+1)],ent st3 1,ent st3 2]))))) (caK Is s20 [ent st3 2,ent st3 1] fun r15=>aa (cell (ent
 r15 0) 0) fun z16=>caK Is s21 [ent st3 2,ent st3 1] fun r17=>aa (cell (ent r17 0) 0) fun z18=>ifK (decide (z16 = z18)) (caK Is s18 [] fun
 r19=>bU (cell (ent r19 0) 0) fun b20=>K [[vB b20]]) (K [[vB false]]))) [[vI 0],ent a 1,ent r1 0]
def g20 : Tx:=fun Is a K=>caK Is s53 [ent a 0,ent a 1] fun r1=>bU (cell (ent r1 1) 0) fun b2=>ifK (!b2) (K [[vI (-1)]]) (caK Is s54 [ent r1
 0,[.sl 0 4 []],ent a 0] fun r3=>aa (cell (ent r3 0) 0) fun z4=>ah 4 (cell (ent r3 1) 0) fun _ _=>K [[vI z4]])
theorem w20 : Wd ⟨[s53,s54],[35],[]⟩ ⟨[],[],[]⟩ s20 g20:=fun _ _ _=>by kernel_rfl
def g53 : Tx:=fun Is a K=>caK Is s57 [ent a 0,ent a 1] fun r1=>bU (cell (ent r1 1) 0) fun b2=>ifK b2 (aa (cell (ent r1 0) 3) fun z3 =>
 ifK (!(decide (z3 = (0 : Int)))) (aa (cell (ent r1 0) 3) fun z4=>K [ent r1 0,[vB (!(decide (z4 = (1 : Int))))]]) (K [ent r1 0,[vB false]])) (K
 [ent r1 0,[vB false]])
theorem w53 : Wd ⟨[s57],[35],[]⟩ ⟨[],[],[]⟩ s53 g53:=fun _ _ _=>by kernel_rfl
def g57 : Tx:=fun Is a K=>caK Is s88 [[cell (ent a 0) 1],ent a 1] fun r1=>aa (cell (ent r1 0) 0) fun z2=>ifK (decide (z2 < (0 : Int))) (K
 [[vI 0,vI 0,vI 0,vI 0,vI 0,vI 0,vI 0,.v (.string (ByteArray.mk #[])),.sl 0 11 [],vI 0,vI 0,vI 0,vI 0,.sl 0 5 [],vI 0,vI 0,vI 0,vI
 0,vI 0,vI 0,vI 0,vI 0,vI 0,vI 0,vI 0,vI 0,.sl 0 5 [],.sl 0 15 [],.sl 0 1 [],vI 0,.sl 0 1 []],[vB false]]) (ah 31 (cell (ent a 0) 1)
 fun n3 c4=>ckK (0<=z2/\z2 < (n3 : Int)) (K [el c4 31 (Int.toNat z2),[vB true]]))
theorem w57 : Wd ⟨[s88],[35],[]⟩ ⟨[],[],[]⟩ s57 g57:=fun _ _ _=>by kernel_rfl
def g88 : Tx:=fun Is a K=>ah 31 (cell (ent a 0) 0) fun n1 _=>Lp (fun fH st4=>aa (cell (ent st4 1) 0) fun z5=>aa (cell (ent st4 2)
 0) fun z6=>ifK (decide (z6 < z5)) (ah 31 (cell (ent st4 0) 0) fun n7 c8=>ckK (0<=z6/\z6 < (n7 : Int)) (caK Is s89 [el c8 31 (Int.toNat z6),
 ent st4 3] fun r9=>bU (cell (ent r9 0) 0) fun b10=>ifK b10 (K [[vI z6],ent r9 1]) (ckK (okI (z6+1)) (fH [[cell (ent st4 0) 0],[vI z5],
 [vI (z6+1)],ent r9 1])))) (K [[vI (-1)],ent st4 3])) [[cell (ent a 0) 0],[vI (n1 : Int)],[vI 0],ent a 1]
theorem w88 : Wd ⟨[s89],[35],[]⟩ ⟨[(2,⟨[(0,.c .d),(1,.c (.f 89 [.p 0 0])),(7,.c .i),(8,.c .i)],[(0,.a 35 3)]⟩)],[],[]⟩ s88 g88:=fun _ _ _=>by kernel_rfl
def g89 : Tx:=fun _ a K=>aa (cell (sub (ent a 0) 0 3) 0) fun z1=>aa (cell (sub (ent a 0) 0 3) 1) fun z2=>aa (cell (sub (ent a 0) 0 3) 2)
 fun z3=>aa (cell (ent a 1) 0) fun z4=>aa (cell (ent a 1) 1) fun z5=>aa (cell (ent a 1) 2) fun z6=>K [[vB (decide (z1 = z4/\z2 = z5 /\
 z3 = z6))],ent a 1]
theorem w89 : Wd ⟨[],[35],[]⟩ ⟨[],[],[]⟩ s89 g89:=fun _ _ _=>by kernel_rfl
def g54 : Tx:=fun Is a K=>ah 4 (cell (ent a 1) 0) fun n1 c2=>aa (cell (sub (ent a 0) 0 3) 0) fun z3=>aa (cell (sub (ent a 0) 0 3) 1) fun
 z4=>aa (cell (sub (ent a 0) 0 3) 2) fun z5=>ifK (!((dw 4 z3 z4 z5 n1 c2).isSome)) (caK Is s55 [sub (ent a 0) 14 15,ent a 2,[.sl n1 4
 c2]] fun r6=>aa (cell (ent r6 0) 0) fun z7=>ah 4 (cell (ent r6 2) 0) fun n8 c9=>aa (cell (sub (ent a 0) 0 3) 0) fun z10=>aa (cell
 (sub (ent a 0) 0 3) 1) fun z11=>aa (cell (sub (ent a 0) 0 3) 2) fun z12=>K [[vI z7],[.sl (gJ 4 z10 z11 z12 n8 c9) 4 (eR 4 z10 z11 z12
 [vI z7] n8 c9)],ent r6 1]) (K [[cell ((dw 4 z3 z4 z5 n1 c2).getD [vI 0]) 0],[.sl n1 4 c2],ent a 2])
theorem w54 : Wd ⟨[s55],[35],[]⟩ ⟨[],[],[]⟩ s54 g54:=fun _ _ _=>by kernel_rfl
def g55 : Tx:=fun Is a K=>ah 4 (cell (ent a 2) 0) fun n1 c2=>jn (fun k3=>aa (cell (ent a 0) 3) fun z5=>ifK (decide (z5 = (5 : Int))) (k3
 [[vI 1],[vI 0],[vB true],ent a 1,ent a 0,[.sl n1 4 c2]]) (aa (cell (ent a 0) 3) fun z6=>k3 [[vI 1],[vI 0],[vB (decide (z6 = (10 :
 Int)))],ent a 1,ent a 0,[.sl n1 4 c2]])) (fun st4=>aa (cell (ent st4 0) 0) fun z7=>aa (cell (ent st4 1) 0) fun z8=>bU (cell (ent st4
 2) 0) fun b9=>ah 4 (cell (ent st4 5) 0) fun n10 c11=>ah 15 (cell (ent st4 4) 13) fun n12 _=>Lp (fun zO cK=>aa (cell (ent cK 0)
 0) fun z16=>aa (cell (ent cK 1) 0) fun z17=>bU (cell (ent cK 2) 0) fun b18=>aa (cell (ent cK 4) 0) fun z19=>aa (cell (ent cK
 5) 0) fun z20=>ah 4 (cell (ent cK 8) 0) fun n21 c22=>ifK (decide (z20 < z19)) (ah 15 (cell (ent cK 3) 0) fun n23 c24=>ckK (0<=z20 /\
 z20 < (n23 : Int)) (caK Is s55 [el c24 15 (Int.toNat z20),ent cK 6,[.sl n21 4 c22]] fun r25=>aa (cell (ent r25 0) 0) fun z26=>ah 4 (cell
 (ent r25 2) 0) fun n27 c28=>ifK (decide (z26 < (0 : Int))) (K [[vI (-1)],ent r25 1,[.sl n27 4 c28]]) (ifK b18 (ifK (decide ((0 : Int) < z20))
 (ckK (okI (z20+1)) (zO [[vI z16],[vI (max z17 z26)],[vB b18],[cell (ent cK 3) 0],[vI z19],[vI (z20+1)],ent r25 1,ent cK 7,[.sl
 n27 4 c28]])) (ckK (okI (z16+z26)) (caK Is s56 [[vI (z16+z26)]] fun r29=>aa (cell (ent r29 0) 0) fun z30=>ckK (okI (z20+1)) (zO [[vI
 z30],[vI z17],[vB b18],[cell (ent cK 3) 0],[vI z19],[vI (z20+1)],ent r25 1,ent cK 7,[.sl n27 4 c28]])))) (ckK (okI (z16+z26)) (caK
 Is s56 [[vI (z16+z26)]] fun r31=>aa (cell (ent r31 0) 0) fun z32=>ckK (okI (z20+1)) (zO [[vI z32],[vI z17],[vB b18],[cell (ent cK
 3) 0],[vI z19],[vI (z20+1)],ent r25 1,ent cK 7,[.sl n27 4 c28]])))))) (jn (fun k33=>aa (cell (ent cK 7) 3) fun z35=>ifK (decide
 (z35 = (3 : Int))) (caK Is s57 [ent cK 6,sub (ent cK 7) 5 3] fun r36=>bU (cell (ent r36 1) 0) fun _=>caK Is s54 [ent r36 0,[.sl n21 4
 c22],ent cK 6] fun r38=>aa (cell (ent r38 0) 0) fun z39=>ah 4 (cell (ent r38 1) 0) fun n40 c41=>k33 [[vI z16],[vI z39],ent cK 7,
 ent r38 2,[.sl n40 4 c41]]) (k33 [[vI z16],[vI z17],ent cK 7,ent cK 6,[.sl n21 4 c22]])) (fun zm=>aa (cell (ent zm 0) 0) fun z42 =>
 aa (cell (ent zm 1) 0) fun z43=>ah 4 (cell (ent zm 4) 0) fun n44 c45=>aa (cell (ent zm 2) 3) fun z46=>ifK (decide (z46 = (12 :
 Int))) (K [[vI (-1)],ent zm 3,[.sl n44 4 c45]]) (ifK (decide (z43 < (0 : Int))) (K [[vI (-1)],ent zm 3,[.sl n44 4 c45]]) (ckK (okI (z42 +
 z43)) (caK Is s56 [[vI (z42+z43)]] fun r47=>aa (cell (ent r47 0) 0) fun z48=>K [[vI z48],ent zm 3,[.sl n44 4 c45]])))))) [[vI z7],[vI
 z8],[vB b9],[cell (ent st4 4) 13],[vI (n12 : Int)],[vI 0],ent st4 3,ent st4 4,[.sl n10 4 c11]])
theorem w55 : Wd ⟨[s54,s55,s56,s57],[35],[]⟩ ⟨[(3,⟨[(1,.c (.p 0 0)),(2,.c (.p 1 0)),(3,.c (.p 2 0)),(4,.c (.p 5 0)),(6,.c .i),(7,.c .i),(8,.c .bo),(23,.c .d),(24,.c .i),(25,.c .i)],[(0,.b 97 [.f 55 [.p 0 0,.p 1 0,.p 2 0]]),(1,.a 32 2),(2,.b 104 [.f 54 [.p 3 0,.p 0 0]]),(5,.a 50 15),(3,.b 102 [.m 4]),(4,.m 102 false 1)]⟩)],[(2,⟨[(1,.c (.p 0 0)),(2,.c (.p 1 0)),(3,.c (.p 2 0)),(4,.c (.p 5 0)),(6,.c .i),(7,.c .i),(8,.c .bo)],[(0,.b 97 [.f 55 [.p 0 0,.p 1 0,.p 2 0]]),(1,.a 32 2),(2,.b 104 [.f 54 [.p 3 0,.p 0 0]]),(5,.a 50 15),(3,.b 102 [.m 4]),(4,.m 102 false 1)]⟩),(15,⟨[(1,.c (.p 0 0)),(4,.c (.p 5 0)),(6,.c .i),(7,.c .i)],[(0,.b 97 [.f 55 [.p 0 0,.p 1 0,.p 2 0]]),(5,.a 50 15),(1,.a 32 2),(2,.b 104 [.f 54 [.p 3 0,.p 0 0]]),(3,.b 102 [.m 4]),(4,.m 102 false 1)]⟩)],[]⟩ s55 g55:=fun _ _ _=>by kernel_rfl
def g56 : Tx:=fun _ a K=>aa (cell (ent a 0) 0) fun z1=>K [[vI (min (max z1 (-1099511627776)) 1099511627776)]]
theorem w56 : Wd ⟨[],[35],[]⟩ ⟨[],[],[]⟩ s56 g56:=fun _ _ _=>by kernel_rfl
def g59 : Tx:=fun _ a K=>aa (cell (ent a 0) 3) fun z1=>ifK (decide (z1 = (2 : Int))) (K [[vB true]]) (aa (cell (ent a 0) 3) fun z2=>ifK
 (decide (z2 = (3 : Int))) (K [[vB true]]) (aa (cell (ent a 0) 3) fun z3=>ifK (decide (z3 = (4 : Int))) (K [[vB true]]) (aa (cell (ent a 0) 3)
 fun z4=>K [[vB (decide (z4 = (5 : Int)))]])))
theorem w59 : Wd ⟨[],[35],[]⟩ ⟨[],[],[]⟩ s59 g59:=fun _ _ _=>by kernel_rfl
def g18 : Tx:=fun Is _ K=>caK Is s47 [[.sl 0 6 [],.sl 0 31 []],[vI 0,vI 0,vI 0,vI 4,vI 0,vI 0,vI 0,vI 0,vI 0,vI 0,vI 0,vI 0,.sl 0 5
 [],.sl 2 15 ([vI 0,vI 0,vI 0,vI 0,vI 2,vI 0,vI 0,vI 0,vI 0,vI 0,vI 0,vI 0,.sl 0 5 [],.sl 0 15 [],.sl 0 1 [],vI 0,vI 0,vI 0,vI 0,
 vI 3,vI 0,vI 0,vI 0,vI 0,vI 0,vI 0,vI 0,.sl 0 5 [],.sl 0 15 [],.sl 0 1 []]),.sl 0 1 []],[vI 3]] fun r1=>aa (cell (ent r1 1) 0) fun
 z2=>aa (cell (ent r1 2) 0) fun z3=>caK Is s47 [[.sl 0 6 [],.sl 0 31 []],[vI 0,vI 0,vI 0,vI 4,vI 0,vI 0,vI 0,vI 0,vI 0,vI 0,vI 0,
 vI 0,.sl 0 5 [],.sl 2 15 ([vI 0,vI 0,vI 0,vI 0,vI 2,vI 0,vI 0,vI 0,vI 0,vI 0,vI 0,vI 0,.sl 0 5 [],.sl 0 15 [],.sl 0 1 [],vI 0,vI
 0,vI 0,vI 0,vI 3,vI 0,vI 0,vI 0,vI 0,vI 0,vI 0,vI 0,.sl 0 5 [],.sl 0 15 [],.sl 0 1 []]),.sl 0 1 []],[vI 2]] fun r4=>aa (cell (ent
 r4 1) 0) fun _=>aa (cell (ent r4 2) 0) fun z6=>caK Is s47 [[.sl 0 6 [],.sl 0 31 []],[vI 0,vI 1,vI 5,vI 12,vI 0,vI 0,vI 0,vI 0,vI 0,
 vI 0,vI 0,vI 0,.sl 0 5 [],.sl 3 15 ([vI 0,vI 0,vI 0,vI 11,vI 0,vI 0,vI 0,vI 0,vI 0,vI 0,vI 0,vI 0,.sl 0 5 [],.sl 2 15 ([vI 0,vI 0,
 vI 0,vI 0,vI 1,vI 0,vI 0,vI 0,vI 0,vI 0,vI 0,vI 0,.sl 0 5 [],.sl 0 15 [],.sl 0 1 [],vI 0,vI 0,vI 0,vI 0,vI 2,vI 0,vI 0,vI 0,vI
 0,vI 0,vI 0,vI 0,.sl 0 5 [],.sl 0 15 [],.sl 0 1 []]),.sl 0 1 [],vI 0,vI 0,vI 0,vI 0,vI 10,vI 0,vI 0,vI 0,vI 0,vI 0,vI 0,vI 0,.sl
 0 5 [],.sl 0 15 [],.sl 0 1 [],vI 0,vI 0,vI 0,vI 4,vI 0,vI 0,vI 0,vI 0,vI 0,vI 0,vI 0,vI 0,.sl 0 5 [],.sl 2 15 ([vI 0,vI 0,vI 0,vI
 2,vI 1,vI 0,vI 1,vI 5,vI 0,vI 0,vI 0,vI 0,.sl 0 5 [],.sl 0 15 [],.sl 0 1 [],vI 0,vI 0,vI 0,vI 2,vI 0,vI 0,vI 1,vI 5,vI 0,vI 0,
 vI 0,vI 0,.sl 0 5 [],.sl 0 15 [],.sl 0 1 []]),.sl 0 1 []]),.sl 0 1 []],[vI 50]] fun r7=>aa (cell (ent r7 1) 0) fun z8=>aa (cell (ent
 r7 2) 0) fun z9=>caK Is s12 [[vI 3],[.sl 2 3 ([vI 0,vI (-7),.sl 0 3 [],vI 0,vI 2,.sl 0 3 []])]] fun r10=>caK Is s12 [[vI 4],[.sl 2 3 ([vI
 0,vI (-7),.sl 0 3 [],vI 0,vI 2,.sl 0 3 []])]] fun r11=>caK Is s12 [[vI 2],[.sl 2 3 ([vI 0,vI 1099511627776,.sl 0 3 [],vI 0,vI 2,.sl 0 3
 []])]] fun r12=>caK Is s11 [ent r1 0,[vI 0,vI 5,.sl 0 3 []]] fun r13=>bU (cell (ent r13 0) 0) fun b14=>ifK b14 (ifK (decide (z2 = (3 :
 Int))) (ifK (decide (z3 = (0 : Int))) (ifK (decide (z6 = (18 : Int))) (caK Is s11 [ent r7 0,[vI 0,vI 13,.sl 0 3 []]] fun r15=>bU (cell (ent
 r15 0) 0) fun b16=>ifK b16 (ifK (decide (z8 = (11 : Int))) (ifK (decide (z9 = (0 : Int))) (aa (cell (ent r10 0) 1) fun z17=>ifK (decide (z17 =
 (-4 : Int))) (aa (cell (ent r11 0) 1) fun z18=>ifK (decide (z18 = (1 : Int))) (aa (cell (ent r12 0) 1) fun z19=>ifK (decide (z19 =
 (1099511627776 : Int))) (caK Is s20 [[.sl 0 6 [],.sl 0 31 []],[vI 0,vI 1,vI 5]] fun r20=>aa (cell (ent r20 0) 0) fun z21=>K [[vB (decide
 (z21 = (-1 : Int)))]]) (K [[vB false]])) (K [[vB false]])) (K [[vB false]])) (K [[vB false]])) (K [[vB false]])) (K [[vB false]])) (K [[vB false]]))
 (K [[vB false]])) (K [[vB false]])) (K [[vB false]])
theorem w18 : Wd ⟨[s11,s12,s20,s47],[35],[]⟩ ⟨[],[],[]⟩ s18 g18:=fun _ _ _=>by kernel_rfl
def g11 : Tx:=fun Is a K=>caK Is s30 [ent a 0,ent a 1] fun r1=>aa (cell (ent r1 0) 0) fun z2=>K [[vB (decide (z2 = (0 : Int)))]]
theorem w11 : Wd ⟨[s30],[35],[]⟩ ⟨[],[],[]⟩ s11 g11:=fun _ _ _=>by kernel_rfl
def g30 : Tx:=fun Is a K=>ah 3 (cell (ent a 0) 2) fun n1 _=>ah 3 (cell (ent a 1) 2) fun n3 _=>Lp (fun x7 st6=>aa (cell (ent st6 0)
 0) fun z7=>ah 1 (cell (ent st6 3) 0) fun n8 c9=>ah 1 (cell (ent st6 4) 0) fun n10 c11=>ifK (decide (z7 < (3 : Int))) (ckK (0<=z7/\z7 <
 (n8 : Int)) (ckK (0<=z7/\z7 < (n10 : Int)) (aa (cell (el c9 1 (Int.toNat z7)) 0) fun z12=>aa (cell (el c11 1 (Int.toNat z7)) 0) fun z13 =>
 ifK (decide (z12 < z13)) (K [[vI (-1)]]) (ckK (0<=z7/\z7 < (n8 : Int)) (ckK (0<=z7/\z7 < (n10 : Int)) (aa (cell (el c9 1 (Int.toNat z7)) 0)
 fun z14=>aa (cell (el c11 1 (Int.toNat z7)) 0) fun z15=>ifK (decide (z15 < z14)) (K [[vI 1]]) (ckK (okI (z7+1)) (x7 [[vI (z7+1)],ent
 st6 1,ent st6 2,[.sl n8 1 c9],[.sl n10 1 c11]])))))))) (Lp (fun zN eA=>aa (cell (ent eA 0) 0) fun z18=>ah 3 (cell (ent eA 1) 2)
 fun n19 _=>ifK (decide (z18 < (n19 : Int))) (ah 3 (cell (ent eA 1) 2) fun n21 c22=>ckK (0<=z18/\z18 < (n21 : Int)) (ah 3 (cell (ent eA
 2) 2) fun n23 c24=>ckK (0<=z18/\z18 < (n23 : Int)) (caK Is s30 [el c22 3 (Int.toNat z18),el c24 3 (Int.toNat z18)] fun r25=>aa (cell (ent
 r25 0) 0) fun z26=>ifK (!(decide (z26 = (0 : Int)))) (K [[vI z26]]) (ckK (okI (z18+1)) (zN [[vI (z18+1)],ent eA 1,ent eA 2]))))) (K
 [[vI 0]])) [[vI 0],ent st6 1,ent st6 2])) [[vI 0],ent a 0,ent a 1,[.sl 3 1 [cell (ent a 0) 0,cell (ent a 0) 1,vI (n1 : Int)]],[.sl 3 1 [cell
 (ent a 1) 0,cell (ent a 1) 1,vI (n3 : Int)]]]
theorem w30 : Wd ⟨[s30],[35],[]⟩ ⟨[(4,⟨[(2,.c (.p 0 0)),(3,.c (.p 1 0)),(5,.c (.w 2)),(6,.c (.w 3)),(7,.c .i)],[(0,.a 26 3),(1,.a 26 3),(2,.w 3 1),(3,.w 3 1)]⟩),(11,⟨[(2,.c (.p 0 0)),(3,.c (.p 1 0)),(8,.c .i)],[(0,.a 26 3),(1,.a 26 3)]⟩)],[],[]⟩ s30 g30:=fun _ _ _=>by kernel_rfl
set_option maxRecDepth 100000
abbrev s28 : Sig:=⟨28,⟨[(0,.a 2),(1,.a 5),(2,.a 3)],[]⟩,.c .bo,[],true⟩
abbrev s66 : Sig:=⟨66,⟨[(0,.a 3)],[]⟩,.c .bo,[],true⟩
abbrev s95 : Sig:=⟨95,⟨[(0,.a 3),(1,.c .i),(2,.c (.p 0 0)),(3,.c (.p 1 0))],[(0,.a 3 1),(1,.b 138 [.f 95 [.p 0 0,.p 1 0]])]⟩,.c .bo,[(0,.a 3 1),(1,.b 138 [.f 95 [.p 0 0,.p 1 0]])],false⟩
abbrev s96 : Sig:=⟨96,⟨[(0,.c .d),(1,.c (.f 97 [.p 0 0,.p 1 0]))],[(0,.b 138 [.f 95 [.p 2 0,.p 0 0]]),(1,.a 3 1),(2,.a 3 1)]⟩,.c .bo,[(0,.b 138 [.f 95 [.p 2 0,.p 0 0]]),(1,.a 3 1),(2,.a 3 1)],false⟩
abbrev A3 : Sig:=⟨96,⟨[(0,.c .d),(1,.c (.f 99 [.p 0 0,.p 1 0]))],[(0,.a 32 2),(1,.a 38 5)]⟩,.c .bo,[(0,.a 32 2),(1,.a 38 5)],false⟩
abbrev s109 : Sig:=⟨109,⟨[(0,.c .d),(1,.c (.f 97 [.p 0 0,.p 1 0]))],[(0,.b 138 [.f 95 [.p 2 0,.p 0 0]]),(1,.a 3 1),(2,.a 3 1)]⟩,.c .i,[(0,.b 138 [.f 95 [.p 2 0,.p 0 0]]),(1,.a 3 1),(2,.a 3 1)],false⟩
abbrev vU : Sig:=⟨109,⟨[(0,.c .d),(1,.c (.f 99 [.p 0 0,.p 1 0]))],[(0,.a 32 2),(1,.a 38 5)]⟩,.c .i,[(0,.a 32 2),(1,.a 38 5)],false⟩
abbrev s97 : Sig:=⟨97,⟨[(0,.a 3),(1,.c (.p 0 0)),(2,.c (.p 1 0))],[(0,.b 138 [.f 95 [.p 2 0,.p 0 0]]),(1,.a 3 1),(2,.a 3 1)]⟩,.c .bo,[(0,.b 138 [.f 95 [.p 2 0,.p 0 0]]),(1,.a 3 1),(2,.a 3 1)],false⟩
abbrev s67 : Sig:=⟨67,⟨[(0,.a 2),(1,.a 5),(2,.a 3)],[]⟩,.c .bo,[],true⟩
abbrev s98 : Sig:=⟨98,⟨[(0,.a 2),(1,.a 5)],[]⟩,.c .bo,[],true⟩
abbrev s99 : Sig:=⟨99,⟨[(0,.a 3),(1,.c (.p 0 0)),(2,.c (.p 1 0))],[(0,.a 32 2),(1,.a 38 5)]⟩,.c .bo,[(0,.a 32 2),(1,.a 38 5)],false⟩
abbrev s32 : Sig:=⟨32,⟨[(0,.a 3),(1,.a 3)],[]⟩,.c .i,[],true⟩
abbrev s69 : Sig:=⟨69,⟨[(0,.c .i),(1,.c .i)],[]⟩,.c .i,[],true⟩
abbrev DM : Sig:=⟨100,⟨[(0,.c .i)],[]⟩,.c .bo,[],true⟩
abbrev s68 : Sig:=⟨68,⟨[(0,.c .d)],[]⟩,.c .i,[],true⟩
abbrev s70 : Sig:=⟨70,⟨[(0,.c .d),(1,.c .d),(2,.c (.f 32 []))],[]⟩,.c .i,[],true⟩
abbrev s33 : Sig:=⟨33,⟨[(0,.c .d)],[]⟩,.c (.w 0),[(0,.w 26 3)],false⟩
abbrev vV : Sig:=⟨103,⟨[(0,.a 3)],[]⟩,.c .i,[],true⟩
abbrev Cg : Sig:=⟨104,⟨[(0,.a 3)],[]⟩,.c .i,[],true⟩
def g28 : Tx:=fun Is a K=>caK Is s66 [ent a 2] fun r1=>bU (cell (ent r1 0) 0) fun b2=>ifK b2 (caK Is s67 [ent a 0,ent a 1,ent a 2] fun r3
 => bU (cell (ent r3 0) 0) fun b4=>K [[vB b4]]) (K [[vB false]])
theorem w28 : Wd ⟨[s66,s67],[35],[]⟩ ⟨[],[],[]⟩ s28 g28:=fun _ _ _=>by kernel_rfl
def g66 : Tx:=fun Is a K=>caK Is s95 [ent a 0,[vI 1],[vI 256]] fun r1=>bU (cell (ent r1 0) 0) fun b2=>K [[vB b2]]
theorem w66 : Wd ⟨[s95],[35],[]⟩ ⟨[],[],[]⟩ s66 g66:=fun _ _ _=>by kernel_rfl
def g95 : Tx:=fun Is a K=>aa (cell (ent a 1) 0) fun z1=>aa (cell (ent a 2) 0) fun z2=>ckK (okI (z2 - 1)) (ifK (decide ((0 : Int)<=(z2 -
 1))) (ifK (decide (z1<=(24 : Int))) (caK Is s96 [[cell (ent a 0) 2],[vI z1],[vI (z2 - 1)]] fun r3=>bU (cell (ent r3 0) 0) fun b4=>K [[vB
 (!b4)],ent r3 2]) (K [[vB false],[vI (z2 - 1)]])) (K [[vB false],[vI (z2 - 1)]]))
theorem w95 : Wd ⟨[s96],[35],[]⟩ ⟨[],[],[]⟩ s95 g95:=fun _ _ _=>by kernel_rfl
def g96 : Tx:=fun Is a K=>caK Is s109 [[cell (ent a 0) 0],ent a 1,ent a 2] fun r1=>aa (cell (ent r1 0) 0) fun z2=>K [[vB (decide ((0 :
 Int)<=z2))],ent r1 1,ent r1 2]
theorem w96 : Wd ⟨[s109],[35],[]⟩ ⟨[],[],[]⟩ s96 g96:=fun _ _ _=>by kernel_rfl
def g96_1 : Tx:=fun Is a K=>caK Is vU [[cell (ent a 0) 0],ent a 1,ent a 2] fun r1=>aa (cell (ent r1 0) 0) fun z2=>K [[vB (decide ((0 :
 Int)<=z2))],ent r1 1,ent r1 2]
theorem w96_1 : Wd ⟨[vU],[35],[]⟩ ⟨[],[],[]⟩ A3 g96_1:=fun _ _ _=>by kernel_rfl
def g109 : Tx:=fun Is a K=>ah 3 (cell (ent a 0) 0) fun n1 _=>Lp (fun fH st4=>aa (cell (ent st4 1) 0) fun z5=>aa (cell (ent st4 2)
 0) fun z6=>ifK (decide (z6 < z5)) (ah 3 (cell (ent st4 0) 0) fun n7 c8=>ckK (0<=z6/\z6 < (n7 : Int)) (caK Is s97 [el c8 3 (Int.toNat z6),
 ent st4 3,ent st4 4] fun r9=>bU (cell (ent r9 0) 0) fun b10=>ifK b10 (K [[vI z6],ent r9 1,ent r9 2]) (ckK (okI (z6+1)) (fH [[cell (ent
 st4 0) 0],[vI z5],[vI (z6+1)],ent r9 1,ent r9 2])))) (K [[vI (-1)],ent st4 3,ent st4 4])) [[cell (ent a 0) 0],[vI (n1 : Int)],[vI 0],ent
 a 1,ent a 2]
theorem w109 : Wd ⟨[s97],[35],[]⟩ ⟨[(2,⟨[(0,.c .d),(1,.c (.f 97 [.p 0 0,.p 1 0])),(7,.c .i),(8,.c .i)],[(0,.b 138 [.f 95 [.p 2 0,.p 0 0]]),(1,.a 3 1),(2,.a 3 1)]⟩)],[],[]⟩ s109 g109:=fun _ _ _=>by kernel_rfl
def Fb : Tx:=fun Is a K=>ah 3 (cell (ent a 0) 0) fun n1 _=>Lp (fun fH st4=>aa (cell (ent st4 1) 0) fun z5=>aa (cell (ent st4 2)
 0) fun z6=>ifK (decide (z6 < z5)) (ah 3 (cell (ent st4 0) 0) fun n7 c8=>ckK (0<=z6/\z6 < (n7 : Int)) (caK Is s99 [el c8 3 (Int.toNat z6),
 ent st4 3,ent st4 4] fun r9=>bU (cell (ent r9 0) 0) fun b10=>ifK b10 (K [[vI z6],ent r9 1,ent r9 2]) (ckK (okI (z6+1)) (fH [[cell (ent
 st4 0) 0],[vI z5],[vI (z6+1)],ent r9 1,ent r9 2])))) (K [[vI (-1)],ent st4 3,ent st4 4])) [[cell (ent a 0) 0],[vI (n1 : Int)],[vI 0],ent
 a 1,ent a 2]
theorem w109_1 : Wd ⟨[s99],[35],[]⟩ ⟨[(2,⟨[(0,.c .d),(1,.c (.f 99 [.p 0 0,.p 1 0])),(7,.c .i),(8,.c .i)],[(0,.a 32 2),(1,.a 38 5)]⟩)],[],[]⟩ vU Fb:=fun _ _ _=>by kernel_rfl
def g97 : Tx:=fun Is a K=>aa (cell (ent a 1) 0) fun z1=>ckK (okI (z1+1)) (caK Is s95 [ent a 0,[vI (z1+1)],ent a 2] fun r2=>bU (cell
 (ent r2 0) 0) fun b3=>K [[vB (!b3)],ent a 1,ent r2 1])
theorem w97 : Wd ⟨[s95],[35],[]⟩ ⟨[],[],[]⟩ s97 g97:=fun _ _ _=>by kernel_rfl
def g67 : Tx:=fun Is a K=>caK Is s98 [ent a 0,ent a 1] fun r1=>bU (cell (ent r1 0) 0) fun b2=>ifK (!b2) (K [[vB false]]) (aa (cell (ent a
 1) 0) fun z3=>ifK (decide (z3 = (0 : Int))) (aa (cell (ent a 2) 0) fun z4=>ifK (decide (z4 = (0 : Int))) (ah 3 (cell (ent a 2) 2) fun n5 _
 => ifK (decide ((n5 : Int) = (0 : Int))) (aa (cell (ent a 2) 1) fun z7=>ifK (decide ((-1099511627776 : Int)<=z7)) (aa (cell (ent a 2) 1) fun
 z8=>K [[vB (decide (z8<=(1099511627776 : Int)))]]) (K [[vB false]])) (K [[vB false]])) (K [[vB false]])) (aa (cell (ent a 1) 0) fun z9=>ifK
 (decide (z9 = (1 : Int))) (aa (cell (ent a 2) 0) fun z10=>ifK (decide (z10 = (1 : Int))) (ah 3 (cell (ent a 2) 2) fun n11 _=>ifK (decide
 ((n11 : Int) = (0 : Int))) (aa (cell (ent a 2) 1) fun z13=>ifK (decide (z13 = (0 : Int))) (K [[vB true]]) (aa (cell (ent a 2) 1) fun z14=>K
 [[vB (decide (z14 = (1 : Int)))]])) (K [[vB false]])) (K [[vB false]])) (aa (cell (ent a 1) 0) fun z15=>ifK (decide (z15 = (2 : Int))) (aa
 (cell (ent a 2) 0) fun z16=>ifK (decide (z16 = (4 : Int))) (aa (cell (ent a 2) 1) fun z17=>ifK (decide (z17 = (0 : Int))) (caK Is A3 [[cell
 (ent a 2) 2],ent a 0,ent a 1] fun r18=>bU (cell (ent r18 0) 0) fun b19=>K [[vB (!b19)]]) (K [[vB false]])) (K [[vB false]])) (caK Is s57
 [ent a 0,sub (ent a 1) 1 3] fun r20=>bU (cell (ent r20 1) 0) fun _=>aa (cell (ent r20 0) 3) fun z22=>ifK (decide (z22 = (1 : Int))) (aa
 (cell (ent a 2) 0) fun z23=>ifK (decide (z23 = (3 : Int))) (aa (cell (ent a 2) 1) fun z24=>ifK (decide ((0 : Int)<=z24)) (ah 11 (cell (ent
 r20 0) 8) fun n25 _=>aa (cell (ent a 2) 1) fun z27=>ifK (decide (z27 < (n25 : Int))) (ah 3 (cell (ent a 2) 2) fun n28 _=>ifK (decide ((n28
 : Int) = (1 : Int))) (aa (cell (ent a 2) 1) fun z30=>ah 11 (cell (ent r20 0) 8) fun n31 c32=>ckK (0<=z30/\z30 < (n31 : Int)) (ah 3 (cell
 (ent a 2) 2) fun n33 c34=>ckK (0<=(0 : Int)/\(0 : Int) < (n33 : Int)) (caK Is s67 [ent a 0,sub (el c32 11 (Int.toNat z30)) 4 5,el c34 3 0] fun
 r35=>bU (cell (ent r35 0) 0) fun b36=>K [[vB b36]]))) (K [[vB false]])) (K [[vB false]])) (K [[vB false]])) (K [[vB false]])) (aa (cell (ent
 a 2) 0) fun z37=>ifK (!(decide (z37 = (2 : Int)))) (K [[vB false]]) (aa (cell (ent a 2) 1) fun z38=>ifK (!(decide (z38 = (0 : Int)))) (K [[vB
 false]]) (ah 3 (cell (ent a 2) 2) fun n39 _=>ah 11 (cell (ent r20 0) 8) fun n41 _=>ifK (!(decide ((n39 : Int) = (n41 : Int)))) (K [[vB
 false]]) (ah 3 (cell (ent a 2) 2) fun n43 _=>Lp (fun next45 gS=>aa (cell (ent gS 1) 0) fun z47=>aa (cell (ent gS 2) 0) fun z48 =>
 ifK (decide (z48 < z47)) (ah 3 (cell (ent gS 0) 0) fun n49 c50=>ckK (0<=z48/\z48 < (n49 : Int)) (ah 11 (cell (ent gS 4) 8) fun n51 c52
 => ckK (0<=z48/\z48 < (n51 : Int)) (caK Is s67 [ent gS 3,sub (el c52 11 (Int.toNat z48)) 4 5,el c50 3 (Int.toNat z48)] fun r53=>bU (cell
 (ent r53 0) 0) fun b54=>ifK (!b54) (K [[vB false]]) (ckK (okI (z48+1)) (next45 [[cell (ent gS 0) 0],[vI z47],[vI (z48+1)],ent gS 3,ent
 gS 4]))))) (K [[vB true]])) [[cell (ent a 2) 2],[vI (n43 : Int)],[vI 0],ent a 0,ent r20 0]))))))))
theorem w67 : Wd ⟨[s57,s67,A3,s98],[35],[]⟩ ⟨[(16,⟨[(3,.c (.p 0 0)),(7,.c (.p 1 0)),(141,.c .d),(142,.c .i),(143,.c .i)],[(0,.a 32 2),(1,.a 52 31)]⟩)],[],[]⟩ s67 g67:=fun _ _ _=>by kernel_rfl
def g98 : Tx:=fun Is a K=>Lp (fun lq st2=>aa (cell (ent st2 0) 0) fun z3=>ifK (decide (z3<=(24 : Int))) (jn (fun k4=>aa (cell (ent
 st2 2) 0) fun z6=>ifK (decide (z6 = (0 : Int))) (ifK (decide (z6 = (0 : Int))) (aa (cell (sub (ent st2 2) 1 3) 0) fun z7=>aa (cell (sub (ent
 st2 2) 1 3) 1) fun z8=>aa (cell (sub (ent st2 2) 1 3) 2) fun z9=>ifK (decide (z7 = (0 : Int)/\z8 = (0 : Int)/\z9 = (0 : Int))) (ah 5 (cell
 (ent st2 2) 4) fun n10 _=>K [[vB (decide ((n10 : Int) = (0 : Int)))]]) (K [[vB false]])) (aa (cell (ent st2 2) 0) fun z12=>ifK (decide (z12 =
 (3 : Int))) (caK Is s57 [ent st2 1,sub (ent st2 2) 1 3] fun r13=>bU (cell (ent r13 1) 0) fun b14=>ifK b14 (aa (cell (ent r13 0) 3) fun z15
 => ifK (decide (z15 = (0 : Int))) (ah 5 (cell (ent st2 2) 4) fun n16 _=>K [[vB (decide ((n16 : Int) = (0 : Int)))]]) (aa (cell (ent r13 0) 3)
 fun z18=>ifK (decide (z18 = (1 : Int))) (ah 5 (cell (ent st2 2) 4) fun n19 _=>K [[vB (decide ((n19 : Int) = (0 : Int)))]]) (K [[vB false]])))
 (K [[vB false]])) (aa (cell (ent st2 2) 0) fun z21=>ifK (decide (z21 = (2 : Int))) (aa (cell (sub (ent st2 2) 1 3) 0) fun z22=>aa (cell
 (sub (ent st2 2) 1 3) 1) fun z23=>aa (cell (sub (ent st2 2) 1 3) 2) fun z24=>ifK (!(decide (z22 = (0 : Int)/\z23 = (0 : Int)/\z24 = (0 :
 Int)))) (K [[vB false]]) (ah 5 (cell (ent st2 2) 4) fun n25 _=>ifK (!(decide ((n25 : Int) = (1 : Int)))) (K [[vB false]]) (ah 5 (cell (ent st2
 2) 4) fun n27 c28=>ckK (0<=(0 : Int)/\(0 : Int) < (n27 : Int)) (k4 [[vI z3],ent st2 1,el c28 5 0])))) (K [[vB false]])))) (aa (cell (ent st2
 2) 0) fun z29=>ifK (decide (z29 = (1 : Int))) (aa (cell (sub (ent st2 2) 1 3) 0) fun z30=>aa (cell (sub (ent st2 2) 1 3) 1) fun z31=>aa
 (cell (sub (ent st2 2) 1 3) 2) fun z32=>ifK (decide (z30 = (0 : Int)/\z31 = (0 : Int)/\z32 = (0 : Int))) (ah 5 (cell (ent st2 2) 4) fun n33 _
 => K [[vB (decide ((n33 : Int) = (0 : Int)))]]) (K [[vB false]])) (aa (cell (ent st2 2) 0) fun z35=>ifK (decide (z35 = (3 : Int))) (caK Is s57
 [ent st2 1,sub (ent st2 2) 1 3] fun r36=>bU (cell (ent r36 1) 0) fun b37=>ifK b37 (aa (cell (ent r36 0) 3) fun z38=>ifK (decide (z38 = (0
 : Int))) (ah 5 (cell (ent st2 2) 4) fun n39 _=>K [[vB (decide ((n39 : Int) = (0 : Int)))]]) (aa (cell (ent r36 0) 3) fun z41=>ifK (decide
 (z41 = (1 : Int))) (ah 5 (cell (ent st2 2) 4) fun n42 _=>K [[vB (decide ((n42 : Int) = (0 : Int)))]]) (K [[vB false]]))) (K [[vB false]])) (aa
 (cell (ent st2 2) 0) fun z44=>ifK (decide (z44 = (2 : Int))) (aa (cell (sub (ent st2 2) 1 3) 0) fun z45=>aa (cell (sub (ent st2 2) 1 3) 1)
 fun z46=>aa (cell (sub (ent st2 2) 1 3) 2) fun z47=>ifK (!(decide (z45 = (0 : Int)/\z46 = (0 : Int)/\z47 = (0 : Int)))) (K [[vB false]])
 (ah 5 (cell (ent st2 2) 4) fun n48 _=>ifK (!(decide ((n48 : Int) = (1 : Int)))) (K [[vB false]]) (ah 5 (cell (ent st2 2) 4) fun n50 c51=>ckK
 (0<=(0 : Int)/\(0 : Int) < (n50 : Int)) (k4 [[vI z3],ent st2 1,el c51 5 0])))) (K [[vB false]]))))) (fun st5=>aa (cell (ent st5 0) 0) fun
 z52=>ckK (okI (z52+1)) (lq [[vI (z52+1)],ent st5 1,ent st5 2]))) (K [[vB false]])) [[vI 1],ent a 0,ent a 1]
theorem w98 : Wd ⟨[s57],[35],[]⟩ ⟨[(2,⟨[(2,.c (.p 0 0)),(3,.c (.p 1 0)),(5,.c .i)],[(0,.a 32 2),(1,.a 38 5)]⟩)],[(3,⟨[(2,.c (.p 0 0)),(3,.c (.p 1 0)),(5,.c .i)],[(0,.a 32 2),(1,.a 38 5)]⟩)],[]⟩ s98 g98:=fun _ _ _=>by kernel_rfl
def g99 : Tx:=fun Is a K=>ah 5 (cell (ent a 2) 4) fun n1 c2=>ckK (0<=(0 : Int)/\(0 : Int) < (n1 : Int)) (caK Is s67 [ent a 1,el c2 5 0,ent
 a 0] fun r3=>bU (cell (ent r3 0) 0) fun b4=>K [[vB (!b4)],ent a 1,ent a 2])
theorem w99 : Wd ⟨[s67],[35],[]⟩ ⟨[],[],[]⟩ s99 g99:=fun _ _ _=>by kernel_rfl
def g32 : Tx:=fun Is a K=>caK Is s69 [[cell (ent a 0) 0],[cell (ent a 1) 0]] fun r1=>aa (cell (ent r1 0) 0) fun z2=>caK Is s69 [[cell (ent
 a 0) 1],[cell (ent a 1) 1]] fun r3=>aa (cell (ent r3 0) 0) fun z4=>ah 3 (cell (ent a 0) 2) fun n5 _=>ah 3 (cell (ent a 1) 2) fun n7 _
 => caK Is s69 [[vI (n5 : Int)],[vI (n7 : Int)]] fun r9=>aa (cell (ent r9 0) 0) fun z10=>caK Is s68 [[.sl 3 1 [vI z2,vI z4,vI z10]]] fun r11
 => aa (cell (ent r11 0) 0) fun z12=>ifK (!(decide (z12 = (0 : Int)))) (K [[vI z12]]) (caK Is s70 [[cell (ent a 0) 2],[cell (ent a 1) 2]] fun
 r13=>aa (cell (ent r13 0) 0) fun z14=>K [[vI z14]])
theorem w32 : Wd ⟨[s68,s69,s70],[35],[]⟩ ⟨[],[],[]⟩ s32 g32:=fun _ _ _=>by kernel_rfl
def g69 : Tx:=fun Is a K=>aa (cell (ent a 0) 0) fun z1=>aa (cell (ent a 1) 0) fun z2=>caK Is DM [[vI z1]] fun r3=>bU (cell (ent r3
 0) 0) fun b4=>caK Is DM [[vI z2]] fun r5=>bU (cell (ent r5 0) 0) fun b6=>ifK b4 (ifK b6 (K [[vI 0]]) (K [[vI (-1)]])) (ifK b6 (K [[vI 1]])
 (ifK (decide (z1 < z2)) (K [[vI (-1)]]) (ifK (decide (z2 < z1)) (K [[vI 1]]) (K [[vI 0]]))))
theorem w69 : Wd ⟨[DM],[35],[]⟩ ⟨[],[],[]⟩ s69 g69:=fun _ _ _=>by kernel_rfl
def g100 : Tx:=fun _ a K=>aa (cell (ent a 0) 0) fun z1=>K [[vB (!(decide (z1 = z1)))]]
theorem w100 : Wd ⟨[],[35],[]⟩ ⟨[],[],[]⟩ DM g100:=fun _ _ _=>by kernel_rfl
def g68 : Tx:=fun _ a K=>ah 1 (cell (ent a 0) 0) fun n1 _=>Lp (fun fH st4=>aa (cell (ent st4 0) 0) fun z5=>aa (cell (ent st4 2) 0)
 fun z6=>aa (cell (ent st4 3) 0) fun z7=>ifK (decide (z7 < z6)) (ah 1 (cell (ent st4 1) 0) fun n8 c9=>ckK (0<=z7/\z7 < (n8 : Int)) (aa
 (cell (el c9 1 (Int.toNat z7)) 0) fun z10=>ifK (!(decide (z10 = z5))) (K [[cell (el c9 1 (Int.toNat z7)) 0]]) (ckK (okI (z7+1)) (fH [[vI z5],
 [cell (ent st4 1) 0],[vI z6],[vI (z7+1)]])))) (K [[vI z5]])) [[vI 0],[cell (ent a 0) 0],[vI (n1 : Int)],[vI 0]]
theorem w68 : Wd ⟨[],[35],[]⟩ ⟨[(3,⟨[(3,.c .i),(6,.c .d),(7,.c .i),(8,.c .i)],[]⟩)],[],[]⟩ s68 g68:=fun _ _ _=>by kernel_rfl
def g70 : Tx:=fun Is a K=>ah 3 (cell (ent a 0) 0) fun n1 _=>Lp (fun fH st4=>aa (cell (ent st4 3) 0) fun z5=>aa (cell (ent st4 4) 0)
 fun z6=>ifK (decide (z6 < z5)) (ah 3 (cell (ent st4 2) 0) fun n7 c8=>ckK (0<=z6/\z6 < (n7 : Int)) (ah 3 (cell (ent st4 1) 0) fun n9 _ =>
 ifK (decide ((n9 : Int)<=z6)) (K [[vI 1]]) (ah 3 (cell (ent st4 1) 0) fun n11 c12=>ckK (0<=z6/\z6 < (n11 : Int)) (caK Is s32 [el c8 3
 (Int.toNat z6),el c12 3 (Int.toNat z6)] fun r13=>aa (cell (ent r13 0) 0) fun z14=>ifK (!(decide (z14 = (0 : Int)))) (K [[vI z14]]) (ckK (okI
 (z6+1)) (fH [[cell (ent st4 0) 0],[cell (ent st4 1) 0],[cell (ent st4 2) 0],[vI z5],[vI (z6+1)]])))))) (ah 3 (cell (ent st4 0) 0) fun
 n15 _=>ah 3 (cell (ent st4 1) 0) fun n17 _=>ifK (decide ((n15 : Int) < (n17 : Int))) (K [[vI (-1)]]) (K [[vI 0]]))) [[cell (ent a 0) 0],[cell
 (ent a 1) 0],[cell (ent a 0) 0],[vI (n1 : Int)],[vI 0]]
theorem w70 : Wd ⟨[s32],[35],[]⟩ ⟨[(2,⟨[(0,.c .d),(1,.c .d),(2,.c (.f 32 [])),(11,.c .d),(12,.c .i),(13,.c .i)],[]⟩)],[],[]⟩ s70 g70:=fun _ _ _=>by kernel_rfl
def g33 : Tx:=fun Is a K=>ah 3 (cell (ent a 0) 0) fun n1 _=>Lp (fun fH st4=>aa (cell (ent st4 1) 0) fun z5=>aa (cell (ent st4 2) 0)
 fun z6=>ah 3 (cell (ent st4 3) 0) fun n7 c8=>ifK (decide (z6 < z5)) (ah 3 (cell (ent st4 0) 0) fun n9 c10=>ckK (0<=z6/\z6 < (n9 : Int))
 (caK Is s33 [[cell (el c10 3 (Int.toNat z6)) 2]] fun r11=>ah 3 (cell (ent r11 0) 0) fun n12 c13=>ckK (room (n7+1) 41) (ckK (okI (z6+1))
 (fH [[cell (ent st4 0) 0],[vI z5],[vI (z6+1)],[.sl (n7+1) 3 (c8++[cell (el c10 3 (Int.toNat z6)) 0,cell (el c10 3 (Int.toNat z6)) 1,
 .sl n12 3 c13])]])))) (K [[.sl n7 3 c8]])) [[cell (ent a 0) 0],[vI (n1 : Int)],[vI 0],[.sl 0 3 []]]
def g103 : Tx:=fun Is a K=>ah 3 (cell (ent a 0) 2) fun n1 _=>Lp (fun fH st4=>aa (cell (ent st4 0) 0) fun z5=>aa (cell (ent st4 2)
 0) fun z6=>aa (cell (ent st4 3) 0) fun z7=>ifK (decide (z7 < z6)) (ah 3 (cell (ent st4 1) 0) fun n8 c9=>ckK (0<=z7/\z7 < (n8 : Int))
 (caK Is vV [el c9 3 (Int.toNat z7)] fun r10=>aa (cell (ent r10 0) 0) fun z11=>ckK (okI (z5+z11)) (ckK (okI (z7+1)) (fH [[vI (z5 +
 z11)],[cell (ent st4 1) 0],[vI z6],[vI (z7+1)]])))) (K [[vI z5]])) [[vI 1],[cell (ent a 0) 2],[vI (n1 : Int)],[vI 0]]
theorem w103 : Wd ⟨[vV],[35],[]⟩ ⟨[(3,⟨[(3,.c .i),(7,.c .d),(8,.c .i),(9,.c .i)],[]⟩)],[],[]⟩ vV g103:=fun _ _ _=>by kernel_rfl
def g104 : Tx:=fun Is a K=>ah 3 (cell (ent a 0) 2) fun n1 _=>Lp (fun fH st4=>aa (cell (ent st4 0) 0) fun z5=>aa (cell (ent st4 2)
 0) fun z6=>aa (cell (ent st4 3) 0) fun z7=>ifK (decide (z7 < z6)) (ah 3 (cell (ent st4 1) 0) fun n8 c9=>ckK (0<=z7/\z7 < (n8 : Int))
 (caK Is Cg [el c9 3 (Int.toNat z7)] fun r10=>aa (cell (ent r10 0) 0) fun z11=>ckK (okI (z7+1)) (fH [[vI (max z5 z11)],[cell (ent st4
 1) 0],[vI z6],[vI (z7+1)]]))) (ckK (okI (z5+1)) (K [[vI (z5+1)]]))) [[vI 0],[cell (ent a 0) 2],[vI (n1 : Int)],[vI 0]]
theorem w104 : Wd ⟨[Cg],[35],[]⟩ ⟨[(3,⟨[(3,.c .i),(7,.c .d),(8,.c .i),(9,.c .i)],[]⟩)],[],[]⟩ Cg g104:=fun _ _ _=>by kernel_rfl
set_option maxRecDepth 100000
abbrev s26 : Sig:=⟨26,⟨[(0,.a 2),(1,.a 3),(2,.c .d),(3,.c .i)],[]⟩,.t [.a 3,.c .i,.c .i],[],false⟩
abbrev s6 : Sig:=⟨6,⟨[(0,.c .d),(1,.c .i),(2,.c .d),(3,.c .i),(4,.c .i),(5,.c .i),(6,.c .i)],[]⟩,.c .bo,[],true⟩
abbrev s22 : Sig:=⟨22,⟨[(0,.a 2),(1,.c .i)],[]⟩,.a 31,[],false⟩
abbrev s23 : Sig:=⟨23,⟨[(0,.a 2),(1,.a 31),(2,.c .d)],[]⟩,.c (.w 0),[(0,.w 26 3)],false⟩
abbrev s17 : Sig:=⟨17,⟨[(0,.a 2),(1,.a 5),(2,.c .d)],[]⟩,.g [.d,.d,.w 0],[(0,.w 26 3)],false⟩
abbrev s43 : Sig:=⟨43,⟨[(0,.a 2),(1,.a 5),(2,.c .d),(3,.c .i),(4,.c .i)],[]⟩,.t [.g [.d,.d,.w 0],.c .i],[(0,.w 26 3)],false⟩
abbrev s44 : Sig:=⟨44,⟨[(0,.a 3)],[]⟩,.c .i,[],true⟩
abbrev s46 : Sig:=⟨46,⟨[(0,.a 2),(1,.a 5)],[]⟩,.t [.g [.d,.d,.w 0],.c .i],[(0,.w 26 3)],false⟩
abbrev s110 : Sig:=⟨110,⟨[(0,.a 2),(1,.a 5),(2,.c .i)],[]⟩,.c .bo,[],true⟩
abbrev s45 : Sig:=⟨45,⟨[(0,.a 3)],[]⟩,.c .i,[],true⟩
abbrev s24 : Sig:=⟨24,⟨[(0,.a 3),(1,.c .i),(2,.c .i),(3,.c .i)],[]⟩,.a 3,[],false⟩
abbrev s25 : Sig:=⟨25,⟨[(0,.c .i)],[]⟩,.c (.w 0),[(0,.w 3 1)],false⟩
abbrev s27 : Sig:=⟨27,⟨[(0,.a 2),(1,.a 3),(2,.c .d),(3,.c .i)],[]⟩,.t [.a 3,.c .i,.c .i],[],false⟩
abbrev s8 : Sig:=⟨8,⟨[(0,.c .d),(1,.c .i),(2,.c .d),(3,.c .i)],[]⟩,.c .bo,[],true⟩
def g6 : Tx:=fun Is a K=>aa (cell (ent a 1) 0) fun z1=>aa (cell (ent a 3) 0) fun z2=>aa (cell (ent a 4) 0) fun z3=>aa (cell (ent a
 5) 0) fun z4=>aa (cell (ent a 6) 0) fun z5=>caK Is s19 [[cell (ent a 0) 0]] fun r6=>caK Is s22 [ent r6 0,[vI z1]] fun r7=>caK Is s23 [ent
 r6 0,ent r7 0,[cell (ent a 2) 0]] fun r8=>ah 3 (cell (ent r8 0) 0) fun n9 c10=>ckK (room (0+n9) 41) (ckK (room (0+n9+1) 41) (jn (fun
 k11=>ifK (decide ((0 : Int) < (n9 : Int))) (ckK (room (0+n9) 41) (caK Is s16 [[vI z2],[vI (0+n9 : Int)]] fun r13=>aa (cell (ent r13 0) 0)
 fun z14=>ckK (0<=z14/\z14 < (0+n9 : Int)) (caK Is s24 [el c10 3 (Int.toNat z14),[vI z2],[vI z3],[vI z4]] fun r15=>ckK (0<=z14/\z14 < (0
 + n9 : Int)) (ckK (room (3+1) 25) (k11 [[vI z1],[vI z5],ent r6 0,ent r7 0,[.sl (3+1) 1 ([.sl n9 3 c10,.sl (0+n9+1) 3 (c10++([vI 0,vI
 0,.sl 0 3 []])),.sl 0 3 [],.sl (0+n9) 3 (upd c10 ((Int.toNat z14) * 3+0) (ent r15 0))])]]))))) (k11 [[vI z1],[vI z5],ent r6 0,ent r7 0,
 [.sl 3 1 ([.sl n9 3 c10,.sl (0+n9+1) 3 (c10++([vI 0,vI 0,.sl 0 3 []])),.sl 0 3 []])]])) (fun eU=>aa (cell (ent eU 0) 0) fun z16 =>
 aa (cell (ent eU 1) 0) fun z17=>ah 1 (cell (ent eU 4) 0) fun n18 c19=>ah 31 (cell (ent eU 2) 1) fun n20 _=>caK Is s16 [[vI z16],
 [vI (n20 : Int)]] fun r22=>aa (cell (ent r22 0) 0) fun z23=>ah 31 (cell (ent eU 2) 1) fun n24 c25=>ckK (0<=z23/\z23 < (n24 : Int))
 (caK Is s25 [[vI z17]] fun r26=>ah 1 (cell (ent r26 0) 0) fun n27 c28=>Lp (fun next29 Dz=>aa (cell (ent Dz 0) 0) fun z31=>ah 1
 (cell (ent Dz 2) 0) fun n32 c33=>ah 3 (cell (ent Dz 3) 0) fun n34 c35=>ah 1 (cell (ent Dz 4) 0) fun n36 c37=>ifK (decide (z31 < (n32
 : Int))) (Lp (fun next38 vN=>aa (cell (ent vN 0) 0) fun z40=>aa (cell (ent vN 1) 0) fun z41=>ah 1 (cell (ent vN 3) 0) fun n42
 c43=>ah 3 (cell (ent vN 4) 0) fun n44 c45=>ah 1 (cell (ent vN 5) 0) fun n46 c47=>ifK (decide (z41 < (n44 : Int))) (ckK (0<=z41/\z41
 < (n44 : Int)) (ckK (0<=z40/\z40 < (n42 : Int)) (ckK (okI (z40+z41)) (ckK ((4 : Int) ≠ 0) (ckK (0<=(Int.tmod (z40+z41) 4)/\(Int.tmod (z40 +
 z41) 4) < (n46 : Int)) (caK Is s26 [ent vN 2,el c45 3 (Int.toNat z41),[cell (el c43 1 (Int.toNat z40)) 0],[cell (el c47 1 (Int.toNat (Int.tmod
 (z40+z41) 4))) 0]] fun r48=>aa (cell (ent r48 1) 0) fun z49=>aa (cell (ent r48 2) 0) fun z50=>ckK (0<=z41/\z41 < (n44 : Int)) (ckK (0
 <= z40/\z40 < (n42 : Int)) (ckK (okI (z40+z41)) (ckK ((4 : Int) ≠ 0) (ckK (0<=(Int.tmod (z40+z41) 4)/\(Int.tmod (z40+z41) 4) < (n46 : Int))
 (caK Is s27 [ent vN 2,el c45 3 (Int.toNat z41),[cell (el c43 1 (Int.toNat z40)) 0],[cell (el c47 1 (Int.toNat (Int.tmod (z40+z41) 4))) 0]]
 fun r51=>aa (cell (ent r51 1) 0) fun z52=>aa (cell (ent r51 2) 0) fun z53=>ifK (!(decide (z50 = z53))) (K [[vB false]]) (ifK (!(decide
 (z49 = z52))) (K [[vB false]]) (caK Is s11 [ent r48 0,ent r51 0] fun r54=>bU (cell (ent r54 0) 0) fun b55=>ifK (!b55) (K [[vB false]]) (ckK
 (okI (z41+1)) (next38 [[vI z40],[vI (z41+1)],ent vN 2,[.sl n42 1 c43],[.sl n44 3 c45],[.sl n46 1 c47]]))))))))))))))) (ckK (okI (z40 +
 1)) (next29 [[vI (z40+1)],ent vN 2,[.sl n42 1 c43],[.sl n44 3 c45],[.sl n46 1 c47]]))) [[vI z31],[vI 0],ent Dz 1,[.sl n32 1 c33],[.sl
 n34 3 c35],[.sl n36 1 c37]]) (caK Is s18 [] fun r56=>bU (cell (ent r56 0) 0) fun b57=>K [[vB b57]])) [[vI 0],ent eU 2,[.sl n18 1 c19],
 [.sl 3 3 ((sub (ent eU 3) 0 3)++((sub (el c25 31 (Int.toNat z23)) 0 3)++[vI 3,vI 1,vI 0]))],[.sl n27 1 c28]]))))
def g22 : Tx:=fun Is a K=>aa (cell (ent a 1) 0) fun z1=>jn (fun k2=>Lp (fun next4 st5=>aa (cell (ent st5 0) 0) fun z6=>aa (cell (ent
 st5 1) 0) fun z7=>ah 31 (cell (ent st5 4) 0) fun n8 c9=>ah 31 (cell (ent st5 2) 1) fun n10 _=>ifK (decide (z7 < (n10 : Int))) (jn (fun k12
 => ah 31 (cell (ent st5 2) 1) fun n14 c15=>ckK (0<=z7/\z7 < (n14 : Int)) (caK Is s59 [el c15 31 (Int.toNat z7)] fun r16=>bU (cell (ent r16
 0) 0) fun b17=>ifK b17 (ah 31 (cell (ent st5 2) 1) fun n18 c19=>ckK (0<=z7/\z7 < (n18 : Int)) (ckK (room (n8+1) 353) (k12 [[vI z6],[vI
 z7],ent st5 2,ent st5 3,[.sl (n8+1) 31 (c9++((el c19 31 (Int.toNat z7))++[]))]]))) (k12 [[vI z6],[vI z7],ent st5 2,ent st5 3,[.sl n8 31
 c9]]))) (fun DA=>aa (cell (ent DA 0) 0) fun z20=>aa (cell (ent DA 1) 0) fun z21=>ah 31 (cell (ent DA 4) 0) fun n22 c23=>ckK
 (okI (z21+1)) (next4 [[vI z20],[vI (z21+1)],ent DA 2,ent DA 3,[.sl n22 31 c23]]))) (k2 [[vI z6],ent st5 3,[.sl n8 31 c9]])) [[vI z1],
 [vI 0],ent a 0,[vI 0,vI 0,vI 0,vI 0,vI 0,vI 0,vI 0,.v (.string (ByteArray.mk #[])),.sl 0 11 [],vI 0,vI 0,vI 0,vI 0,.sl 0 5 [],vI 0,
 vI 0,vI 0,vI 0,vI 0,vI 0,vI 0,vI 0,vI 0,vI 0,vI 0,vI 0,.sl 0 5 [],.sl 0 15 [],.sl 0 1 [],vI 0,.sl 0 1 []],[.sl 0 31 []]]) (fun st3
 => aa (cell (ent st3 0) 0) fun z24=>ah 31 (cell (ent st3 2) 0) fun n25 c26=>ifK (decide ((n25 : Int) = (0 : Int))) (K [[vI 0,vI 0,vI 0,vI
 0,vI 0,vI 0,vI 0,.v (.string (ByteArray.mk #[])),.sl 0 11 [],vI 0,vI 0,vI 0,vI 0,.sl 0 5 [],vI 0,vI 0,vI 0,vI 0,vI 0,vI 0,vI 0,vI
 0,vI 0,vI 0,vI 0,vI 0,.sl 0 5 [],.sl 0 15 [],.sl 0 1 [],vI 0,.sl 0 1 []]]) (caK Is s16 [[vI z24],[vI (n25 : Int)]] fun r27=>aa (cell
 (ent r27 0) 0) fun z28=>ckK (0<=z28/\z28 < (n25 : Int)) (K [el c26 31 (Int.toNat z28)])))
theorem w22 : Wd ⟨[s16,s59],[35],[]⟩ ⟨[(3,⟨[(1,.c .i),(2,.c (.p 0 0)),(4,.c (.p 1 0)),(5,.c (.w 2)),(6,.c .i)],[(0,.a 32 2),(1,.a 52 31),(2,.w 52 31)]⟩)],[(4,⟨[(1,.c .i),(2,.c (.p 0 0)),(4,.c (.p 1 0)),(5,.c (.w 2)),(6,.c .i)],[(0,.a 32 2),(1,.a 52 31),(2,.w 52 31)]⟩),(7,⟨[(1,.c .i),(4,.c (.p 0 0)),(5,.c (.w 1))],[(0,.a 52 31),(1,.w 52 31)]⟩)],[]⟩ s22 g22:=fun _ _ _=>by kernel_rfl
def g23 : Tx:=fun Is a K=>Lp (fun lq st2=>aa (cell (ent st2 1) 0) fun z3=>ah 3 (cell (ent st2 4) 0) fun n4 c5=>ah 11 (cell (ent st2
 3) 8) fun n6 _=>ifK (decide (z3 < (n6 : Int))) (ah 11 (cell (ent st2 3) 8) fun n8 c9=>ckK (0<=z3/\z3 < (n8 : Int)) (ckK (okI (7 * z3)) (ah
 1 (cell (ent st2 0) 0) fun n10 _=>ah 1 (cell (ent st2 0) 0) fun n12 c13=>ckK (0<=(min (7 * z3) (n10 : Int))/\(min (7 * z3) (n10 : Int)) <=
 (n12 : Int)/\(n12 : Int)<=(n12 : Int)) (caK Is s17 [ent st2 2,sub (el c9 11 (Int.toNat z3)) 4 5,[.sl (Int.toNat (n12 : Int) - Int.toNat (min (7
 * z3) (n10 : Int))) 1 (sub c13 (Int.toNat (min (7 * z3) (n10 : Int)) * 1) ((Int.toNat (n12 : Int) - Int.toNat (min (7 * z3) (n10 : Int))) * 1))]]
 fun r14=>ah 3 (cell (ent r14 1) 0) fun n15 c16=>ckK (room (n4+1) 41) (ckK (okI (z3+1)) (lq [[cell (ent st2 0) 0],[vI (z3+1)],ent
 st2 2,ent st2 3,[.sl (n4+1) 3 (c5++[cell (ent r14 0) 0,cell (ent r14 0) 1,.sl n15 3 c16])]])))))) (K [[.sl n4 3 c5]])) [[cell (ent a 2) 0],
 [vI 0],ent a 0,ent a 1,[.sl 0 3 []]]
theorem w23 : Wd ⟨[s17],[35],[]⟩ ⟨[(3,⟨[(2,.c .d),(3,.c (.p 0 0)),(4,.c (.p 1 0)),(7,.c (.w 2)),(8,.c .i)],[(0,.a 32 2),(1,.a 52 31),(2,.w 26 3)]⟩)],[],[]⟩ s23 g23:=fun _ _ _=>by kernel_rfl
def g17 : Tx:=fun Is a K=>caK Is s43 [ent a 0,ent a 1,[cell (ent a 2) 0],[vI 0],[vI 1]] fun r1=>aa (cell (ent r1 1) 0) fun _=>ah 3
 (cell (ent r1 2) 0) fun n3 c4=>caK Is s44 [[cell (ent r1 0) 0,cell (ent r1 0) 1,.sl n3 3 c4]] fun r5=>aa (cell (ent r5 0) 0) fun z6=>ifK
 (decide ((256 : Int) < z6)) (caK Is s46 [ent a 0,ent a 1] fun r7=>aa (cell (ent r7 1) 0) fun _=>ah 3 (cell (ent r7 2) 0) fun n9 c10=>K
 [[cell (ent r7 0) 0,cell (ent r7 0) 1],[.sl n9 3 c10]]) (caK Is s45 [[cell (ent r1 0) 0,cell (ent r1 0) 1,.sl n3 3 c4]] fun r11=>aa (cell
 (ent r11 0) 0) fun z12=>ifK (decide ((24 : Int) < z12)) (caK Is s46 [ent a 0,ent a 1] fun r13=>aa (cell (ent r13 1) 0) fun _=>ah 3 (cell
 (ent r13 2) 0) fun n15 c16=>K [[cell (ent r13 0) 0,cell (ent r13 0) 1],[.sl n15 3 c16]]) (K [[cell (ent r1 0) 0,cell (ent r1 0) 1],[.sl n3 3
 c4]]))
theorem w17 : Wd ⟨[s43,s44,s45,s46],[35],[]⟩ ⟨[],[],[]⟩ s17 g17:=fun _ _ _=>by kernel_rfl
def g43 : Tx:=fun Is a K=>aa (cell (ent a 3) 0) fun z1=>aa (cell (ent a 4) 0) fun z2=>caK Is s40 [[cell (ent a 2) 0],[vI z1],[vI
 1048576]] fun r3=>aa (cell (ent r3 0) 0) fun z4=>ckK (okI (z1+1)) (aa (cell (ent a 1) 0) fun z5=>ifK (decide (z5 = (0 : Int))) (ckK ((16
 : Int) ≠ 0) (ifK (decide ((Int.tmod z4 16) = (0 : Int))) (ckK ((16 : Int) ≠ 0/\okI (Int.tdiv z4 16)) (ckK ((3 : Int) ≠ 0) (ckK (okI (1099511627776
 - (Int.tmod (Int.tdiv z4 16) 3))) (K [[vI 0,vI (1099511627776 - (Int.tmod (Int.tdiv z4 16) 3))],[vI (z1+1)],[.sl 0 3 []]])))) (ckK ((16 : Int)
 ≠ 0) (ifK (decide ((Int.tmod z4 16) = (1 : Int))) (ckK ((16 : Int) ≠ 0/\okI (Int.tdiv z4 16)) (ckK ((3 : Int) ≠ 0) (ckK (okI ((-1099511627776) +
 (Int.tmod (Int.tdiv z4 16) 3))) (K [[vI 0,vI ((-1099511627776)+(Int.tmod (Int.tdiv z4 16) 3))],[vI (z1+1)],[.sl 0 3 []]])))) (ckK ((16 : Int)
 ≠ 0/\okI (Int.tdiv z4 16)) (ckK ((9 : Int) ≠ 0) (ckK (okI ((Int.tmod (Int.tdiv z4 16) 9) - 4)) (K [[vI 0,vI ((Int.tmod (Int.tdiv z4 16) 9) - 4)],
 [vI (z1+1)],[.sl 0 3 []]])))))))) (aa (cell (ent a 1) 0) fun z6=>ifK (decide (z6 = (1 : Int))) (ckK ((2 : Int) ≠ 0) (K [[vI 1,vI (Int.tmod
 z4 2)],[vI (z1+1)],[.sl 0 3 []]])) (aa (cell (ent a 1) 0) fun z7=>ifK (decide (z7 = (2 : Int))) (ckK ((3 : Int) ≠ 0) (jn (fun k8=>ifK
 (decide ((3 : Int) < z2)) (k8 [[cell (ent a 2) 0],[vI (z1+1)],[vI z2],[vI 0],ent a 0,ent a 1,[vI 0,vI 0,.sl 0 3 []],[vI 4,vI 0],[.sl 0
 3 []]]) (k8 [[cell (ent a 2) 0],[vI (z1+1)],[vI z2],[vI (Int.tmod z4 3)],ent a 0,ent a 1,[vI 0,vI 0,.sl 0 3 []],[vI 4,vI 0],[.sl 0 3
 []]])) (fun st9=>aa (cell (ent st9 1) 0) fun z10=>aa (cell (ent st9 2) 0) fun z11=>aa (cell (ent st9 3) 0) fun z12=>ah 3 (cell (ent
 st9 8) 0) fun n13 c14=>Lp (fun next15 mC=>aa (cell (ent mC 1) 0) fun z17=>aa (cell (ent mC 2) 0) fun z18=>aa (cell (ent mC 3)
 0) fun z19=>aa (cell (ent mC 4) 0) fun z20=>ah 3 (cell (ent mC 9) 0) fun n21 c22=>ifK (decide (z20 < z19)) (ah 5 (cell (ent mC 6)
 4) fun n23 c24=>ckK (0<=(0 : Int)/\(0 : Int) < (n23 : Int)) (ckK (okI (z18+1)) (caK Is s43 [ent mC 5,el c24 5 0,[cell (ent mC 0) 0],[vI
 z17],[vI (z18+1)]] fun r25=>aa (cell (ent r25 1) 0) fun z26=>ah 3 (cell (ent r25 2) 0) fun n27 c28=>ckK (room (n21+1) 41) (ckK (okI
 (z20+1)) (next15 [[cell (ent mC 0) 0],[vI z26],[vI z18],[vI z19],[vI (z20+1)],ent mC 5,ent mC 6,ent mC 7,[cell (ent mC 8) 0,
 cell (ent mC 8) 1],[.sl (n21+1) 3 (c22++[cell (ent r25 0) 0,cell (ent r25 0) 1,.sl n27 3 c28])]]))))) (K [[cell (ent mC 8) 0,cell (ent
 mC 8) 1],[vI z17],[.sl n21 3 c22]])) [[cell (ent st9 0) 0],[vI z10],[vI z11],[vI z12],[vI 0],ent st9 4,ent st9 5,ent st9 6,[cell (ent
 st9 7) 0,cell (ent st9 7) 1],[.sl n13 3 c14]]))) (caK Is A4 [ent a 0,sub (ent a 1) 1 3] fun r29=>bU (cell (ent r29 1) 0) fun _=>aa
 (cell (ent r29 0) 3) fun z31=>ifK (decide (z31 = (1 : Int))) (ah 11 (cell (ent r29 0) 8) fun n32 _=>ckK ((n32 : Int) ≠ 0) (ah 11 (cell (ent
 r29 0) 8) fun n34 c35=>ckK (0<=(Int.tmod z4 (n32 : Int))/\(Int.tmod z4 (n32 : Int)) < (n34 : Int)) (ckK (okI (z2+1)) (caK Is s43 [ent a 0,sub
 (el c35 11 (Int.toNat (Int.tmod z4 (n32 : Int)))) 4 5,[cell (ent a 2) 0],[vI (z1+1)],[vI (z2+1)]] fun r36=>aa (cell (ent r36 1) 0) fun
 z37=>ah 3 (cell (ent r36 2) 0) fun n38 c39=>K [[vI 3,vI (Int.tmod z4 (n32 : Int))],[vI z37],[.sl 1 3 [cell (ent r36 0) 0,cell (ent r36 0)
 1,.sl n38 3 c39]]])))) (jn (fun k40=>Lp (fun zL eD=>aa (cell (ent eD 1) 0) fun z44=>aa (cell (ent eD 2) 0) fun z45=>aa
 (cell (ent eD 3) 0) fun z46=>ah 3 (cell (ent eD 8) 0) fun n47 c48=>ah 11 (cell (ent eD 7) 8) fun n49 _=>ifK (decide (z46 < (n49 :
 Int))) (ah 11 (cell (ent eD 7) 8) fun n51 c52=>ckK (0<=z46/\z46 < (n51 : Int)) (ckK (okI (z45+1)) (caK Is s43 [ent eD 4,sub (el c52 11
 (Int.toNat z46)) 4 5,[cell (ent eD 0) 0],[vI z44],[vI (z45+1)]] fun r53=>aa (cell (ent r53 1) 0) fun z54=>ah 3 (cell (ent r53 2) 0)
 fun n55 c56=>ckK (room (n47+1) 41) (ckK (okI (z46+1)) (zL [[cell (ent eD 0) 0],[vI z54],[vI z45],[vI (z46+1)],ent eD 4,ent eD
 5,[cell (ent eD 6) 0,cell (ent eD 6) 1],ent eD 7,[.sl (n47+1) 3 (c48++[cell (ent r53 0) 0,cell (ent r53 0) 1,.sl n55 3 c56])]])))))
 (k40 [[vI z44],ent eD 5,[cell (ent eD 6) 0,cell (ent eD 6) 1],[.sl n47 3 c48]])) [[cell (ent a 2) 0],[vI (z1+1)],[vI z2],[vI 0],ent
 a 0,[vI 0,vI 0,.sl 0 3 []],[vI 2,vI 0],ent r29 0,[.sl 0 3 []]]) (fun gT=>aa (cell (ent gT 0) 0) fun z57=>ah 3 (cell (ent gT 3)
 0) fun n58 c59=>K [[cell (ent gT 2) 0,cell (ent gT 2) 1],[vI z57],[.sl n58 3 c59]]))))))
theorem w43 : Wd ⟨[s40,s43,A4],[35],[]⟩ ⟨[(17,⟨[(2,.c .d),(3,.c .i),(4,.c .i),(5,.c (.p 0 0)),(6,.c (.p 1 0)),(10,.c (.p 2 0)),(13,.c (.p 3 0)),(14,.c .i),(15,.c .i)],[(0,.a 32 2),(1,.a 38 5),(2,.a 26 3),(3,.b 26 [.d,.d,.w 4]),(4,.w 26 3)]⟩),(32,⟨[(2,.c .d),(3,.c .i),(4,.c .i),(5,.c (.p 0 0)),(10,.c (.p 1 0)),(13,.c (.p 2 0)),(18,.c (.p 3 0)),(22,.c .i)],[(0,.a 32 2),(1,.a 26 3),(2,.b 26 [.d,.d,.w 4]),(3,.a 52 31),(4,.w 26 3)]⟩)],[(16,⟨[(2,.c .d),(3,.c .i),(4,.c .i),(5,.c (.p 0 0)),(6,.c (.p 1 0)),(10,.c (.p 2 0)),(13,.c (.p 3 0)),(14,.c .i)],[(0,.a 32 2),(1,.a 38 5),(2,.a 26 3),(3,.b 26 [.d,.d,.w 4]),(4,.w 26 3)]⟩),(37,⟨[(3,.c .i),(10,.c (.p 0 0)),(13,.c (.p 1 0))],[(0,.a 26 3),(1,.b 26 [.d,.d,.w 2]),(2,.w 26 3)]⟩)],[]⟩ s43 g43:=fun _ _ _=>by kernel_rfl
def g44 : Tx:=fun Is a K=>Lp (fun lq st2=>aa (cell (ent st2 0) 0) fun z3=>aa (cell (ent st2 1) 0) fun z4=>ah 3 (cell (ent st2 2) 2)
 fun n5 _=>ifK (decide (z4 < (n5 : Int))) (ah 3 (cell (ent st2 2) 2) fun n7 c8=>ckK (0<=z4/\z4 < (n7 : Int)) (caK Is s44 [el c8 3 (Int.toNat
 z4)] fun r9=>aa (cell (ent r9 0) 0) fun z10=>ckK (okI (z3+z10)) (ckK (okI (z4+1)) (lq [[vI (z3+z10)],[vI (z4+1)],ent st2 2]))))
 (K [[vI z3]])) [[vI 1],[vI 0],ent a 0]
theorem w44 : Wd ⟨[s44],[35],[]⟩ ⟨[(3,⟨[(1,.c (.p 0 0)),(3,.c .i),(4,.c .i)],[(0,.a 26 3)]⟩)],[],[]⟩ s44 g44:=fun _ _ _=>by kernel_rfl
def g101 : Tx:=fun Is a K=>caK Is s110 [ent a 0,ent a 1,[vI 1]] fun r1=>bU (cell (ent r1 0) 0) fun b2=>K [[vB b2]]
def g45 : Tx:=fun Is a K=>Lp (fun lq st2=>aa (cell (ent st2 0) 0) fun z3=>aa (cell (ent st2 1) 0) fun z4=>ah 3 (cell (ent st2 2) 2)
 fun n5 _=>ifK (decide (z4 < (n5 : Int))) (ah 3 (cell (ent st2 2) 2) fun n7 c8=>ckK (0<=z4/\z4 < (n7 : Int)) (caK Is s45 [el c8 3 (Int.toNat
 z4)] fun r9=>aa (cell (ent r9 0) 0) fun z10=>ckK (okI (z4+1)) (lq [[vI (max z3 z10)],[vI (z4+1)],ent st2 2]))) (ckK (okI (z3+1)) (K
 [[vI (z3+1)]]))) [[vI 0],[vI 0],ent a 0]
theorem w45 : Wd ⟨[s45],[35],[]⟩ ⟨[(3,⟨[(1,.c (.p 0 0)),(3,.c .i),(4,.c .i)],[(0,.a 26 3)]⟩)],[],[]⟩ s45 g45:=fun _ _ _=>by kernel_rfl
def g25 : Tx:=fun Is a K=>aa (cell (ent a 0) 0) fun z1=>caK Is s16 [[vI z1],[vI 60]] fun r2=>aa (cell (ent r2 0) 0) fun z3=>K [[.sl 4 1
 [vI 65536,vI z3,vI 0,vI (-5)]]]
theorem w25 : Wd ⟨[s16],[35],[]⟩ ⟨[],[],[]⟩ s25 g25:=fun _ _ _=>by kernel_rfl
def g7 : Tx:=fun Is a K=>aa (cell (ent a 1) 0) fun z1=>aa (cell (ent a 3) 0) fun z2=>caK Is s19 [[cell (ent a 0) 0]] fun r3=>caK Is s22
 [ent r3 0,[vI z1]] fun r4=>caK Is s23 [ent r3 0,ent r4 0,[cell (ent a 2) 0]] fun r5=>ah 3 (cell (ent r5 0) 0) fun n6 c7=>caK Is s26 [ent
 r3 0,sub (ent r4 0) 0 3,[.sl n6 3 c7],[vI 65536]] fun r8=>aa (cell (ent r8 1) 0) fun z9=>aa (cell (ent r8 2) 0) fun z10=>ifK (!(decide
 (z10 = (0 : Int)))) (caK Is s18 [] fun r11=>bU (cell (ent r11 0) 0) fun b12=>K [[vB b12]]) (caK Is s26 [ent r3 0,sub (ent r4 0) 0 3,[.sl n6
 3 c7],[vI z9]] fun r13=>aa (cell (ent r13 1) 0) fun z14=>aa (cell (ent r13 2) 0) fun z15=>caK Is s16 [[vI z2],[vI 1000]] fun r16=>aa
 (cell (ent r16 0) 0) fun z17=>ckK (okI (z9+z17)) (caK Is s26 [ent r3 0,sub (ent r4 0) 0 3,[.sl n6 3 c7],[vI (z9+z17)]] fun r18=>aa
 (cell (ent r18 1) 0) fun z19=>aa (cell (ent r18 2) 0) fun z20=>ckK (okI (z9 - 1)) (caK Is s26 [ent r3 0,sub (ent r4 0) 0 3,[.sl n6 3 c7],
 [vI (z9 - 1)]] fun r21=>aa (cell (ent r21 1) 0) fun _=>aa (cell (ent r21 2) 0) fun z23=>caK Is s20 [ent r3 0,sub (ent r4 0) 0 3] fun r24
 => aa (cell (ent r24 0) 0) fun z25=>ifK (decide ((0 : Int) < z9)) (ifK (decide (z15 = (0 : Int))) (ifK (decide (z20 = (0 : Int))) (ifK (decide
 (z23 = (18 : Int))) (ifK (decide (z14 = z9)) (ifK (decide (z19 = z9)) (caK Is s11 [ent r8 0,ent r13 0] fun r26=>bU (cell (ent r26 0) 0) fun b27
 => ifK b27 (caK Is s11 [ent r8 0,ent r18 0] fun r28=>bU (cell (ent r28 0) 0) fun b29=>ifK b29 (ifK (decide (z25 < (0 : Int))) (caK Is s18 []
 fun r30=>bU (cell (ent r30 0) 0) fun b31=>K [[vB b31]]) (ifK (decide (z9<=z25)) (caK Is s18 [] fun r32=>bU (cell (ent r32 0) 0) fun b33
 => K [[vB b33]]) (K [[vB false]]))) (K [[vB false]])) (K [[vB false]])) (K [[vB false]])) (K [[vB false]])) (K [[vB false]])) (K [[vB false]])) (K
 [[vB false]])) (K [[vB false]]))))
def g8 : Tx:=fun Is a K=>aa (cell (ent a 1) 0) fun z1=>aa (cell (ent a 3) 0) fun z2=>caK Is s19 [[cell (ent a 0) 0]] fun r3=>caK Is s22
 [ent r3 0,[vI z1]] fun r4=>caK Is s25 [[vI z2]] fun r5=>ah 1 (cell (ent r5 0) 0) fun n6 c7=>Lp (fun next8 st9=>aa (cell (ent st9 1) 0)
 fun z10=>ah 1 (cell (ent st9 4) 0) fun n11 c12=>ifK (decide (z10 < (4 : Int))) (jn (fun k13=>caK Is s23 [ent st9 2,ent st9 3,[cell (ent
 st9 0) 0]] fun r15=>ah 3 (cell (ent r15 0) 0) fun n16 c17=>ckK (0<=z10/\z10 < (n11 : Int)) (caK Is s26 [ent st9 2,sub (ent st9 3) 0 3,[.sl
 n16 3 c17],[cell (el c12 1 (Int.toNat z10)) 0]] fun r18=>aa (cell (ent r18 1) 0) fun _=>aa (cell (ent r18 2) 0) fun z20=>ifK (decide (z20
 = (0 : Int))) (caK Is s28 [ent st9 2,sub (ent st9 3) 9 5,ent r18 0] fun r21=>bU (cell (ent r21 0) 0) fun b22=>ifK (!b22) (K [[vB false]])
 (ifK (!(decide (z20 = (0 : Int)))) (ifK (!(decide (z20 = (18 : Int)))) (ifK (!(decide (z20 = (4 : Int)))) (K [[vB false]]) (k13 [[cell (ent st9 0)
 0],[vI z10],ent st9 2,ent st9 3,[.sl n11 1 c12]])) (k13 [[cell (ent st9 0) 0],[vI z10],ent st9 2,ent st9 3,[.sl n11 1 c12]])) (k13 [[cell
 (ent st9 0) 0],[vI z10],ent st9 2,ent st9 3,[.sl n11 1 c12]]))) (ifK (!(decide (z20 = (0 : Int)))) (ifK (!(decide (z20 = (18 : Int)))) (ifK
 (!(decide (z20 = (4 : Int)))) (K [[vB false]]) (k13 [[cell (ent st9 0) 0],[vI z10],ent st9 2,ent st9 3,[.sl n11 1 c12]])) (k13 [[cell (ent st9
 0) 0],[vI z10],ent st9 2,ent st9 3,[.sl n11 1 c12]])) (k13 [[cell (ent st9 0) 0],[vI z10],ent st9 2,ent st9 3,[.sl n11 1 c12]])))) (fun jP
 => aa (cell (ent jP 1) 0) fun z23=>ah 1 (cell (ent jP 4) 0) fun n24 c25=>ckK (okI (z23+1)) (next8 [[cell (ent jP 0) 0],[vI (z23 +
 1)],ent jP 2,ent jP 3,[.sl n24 1 c25]]))) (caK Is s18 [] fun r26=>bU (cell (ent r26 0) 0) fun b27=>K [[vB b27]])) [[cell (ent a 2) 0],
 [vI 0],ent r3 0,ent r4 0,[.sl n6 1 c7]]
theorem w8 : Wd ⟨[s18,s19,s22,s23,s25,s26,s28],[35],[]⟩ ⟨[(5,⟨[(2,.c .d),(9,.c (.p 0 0)),(10,.c (.p 1 0)),(11,.c (.w 2)),(12,.c .i)],[(0,.a 32 2),(1,.a 52 31),(2,.w 3 1)]⟩)],[(6,⟨[(2,.c .d),(9,.c (.p 0 0)),(10,.c (.p 1 0)),(11,.c (.w 2)),(12,.c .i)],[(0,.a 32 2),(1,.a 52 31),(2,.w 3 1)]⟩)],[]⟩ s8 g8:=fun _ _ _=>by kernel_rfl
end Go.Proofs.YtanbipbiblikbaaDoor

namespace Xe
open Go
def kJ (dn : List Ex) (r : List Ex×MkS) : List Ex×MkS:=(dn++r.1,r.2)
theorem E0 (r : List Ex×MkS) : r = kJ [] r:=by unfold kJ;rw [List.nil_append]
theorem zV {g : GX} {t : Ty} {env : List Bnd} {d : Int} {m : Nat} {s : MkS} {dn : List Ex} {z : List Ex×MkS} (hz : z = kJ dn (dX g t env d (m+1) s)) (h : 0 < s.left) : z = kJ (dn++[(g t env d s).1]) (dX g t env d m (g t env d s).2):=by
 rw [hz,dX,if_pos h]
 simp [kJ]
theorem zU {g : GX} {t : Ty} {env : List Bnd} {d : Int} {m : Nat} {s : MkS} {dn : List Ex} {z : List Ex×MkS} (hz : z = kJ dn (dX g t env d m s)) (h : m = 0\/¬ 0 < s.left) : z = (dn,s):=by
 rw [hz]
 cases m with
 | zero=>rw [dX];simp [kJ]
 | succ m=>rw [dX,if_neg (by omega)];simp [kJ]
theorem zT {g : GX} {env : List Bnd} {d : Int} {ts : List Ty} {k : Nat} {s : MkS} {dn : List Ex} {z : List Ex×MkS} (hk : k < ts.length) (hz : z = kJ dn (eK g env d (ts.drop k) s)) : z = kJ (dn++[(g ts[k] env d s).1]) (eK g env d (ts.drop (k+1)) (g ts[k] env d s).2):=by
 rw [hz,List.drop_eq_getElem_cons hk,eK]
 simp [kJ]
theorem CJ {g : GX} {env : List Bnd} {d : Int} {ts : List Ty} {k : Nat} {s : MkS} {dn : List Ex} {z : List Ex×MkS} (hk : k = ts.length) (hz : z = kJ dn (eK g env d (ts.drop k) s)) : z = (dn,s):=by
 rw [hz,hk,List.drop_length,eK]
 simp [kJ]
def bJ (dn : List Ex) (ns : List ByteArray) (r : (List Ex×List ByteArray)×MkS) : (List Ex×List ByteArray)×MkS:=((dn++r.1.1,ns++r.1.2),r.2)
theorem bJ_nil (r : (List Ex×List ByteArray)×MkS) : r = bJ [] [] r:=by unfold bJ;rw [List.nil_append,List.nil_append]
theorem tS {g : GX} {t : Ty} {env : List Bnd} {d : Int} {id : IdT} {sl : List SlotT} {k : Nat} {s : MkS} {dn : List Ex} {ns : List ByteArray} {z : (List Ex×List ByteArray)×MkS} (hk : k < sl.length) (hz : z = bJ dn ns (aT g t env d id (sl.drop k) k s)) :
  z = bJ (dn++[(g t (env++[⟨id,k,sl[k].ty⟩]) d s).1]) (ns++[(dI (g t (env++[⟨id,k,sl[k].ty⟩]) d s).2).1]) (aT g t env d id (sl.drop (k+1)) (k+1) (dI (g t (env++[⟨id,k,sl[k].ty⟩]) d s).2).2):=by
 rw [hz,List.drop_eq_getElem_cons hk,aT]
 simp [bJ]
theorem w4 {g : GX} {t : Ty} {env : List Bnd} {d : Int} {id : IdT} {sl : List SlotT} {k : Nat} {s : MkS} {dn : List Ex} {ns : List ByteArray} {z : (List Ex×List ByteArray)×MkS} (hk : k = sl.length) (hz : z = bJ dn ns (aT g t env d id (sl.drop k) k s)) : z = ((dn,ns),s):=by
 rw [hz,hk,List.drop_length,aT]
 simp [bJ]
def GBd (q : Int) (g : GX) : Prop:=∀ (t : Ty) (env : List Bnd) (d : Int) (s : MkS) (B : Int),0<=B->Bd (q+B) s->Bd B (g t env d s).2
theorem sy {q : Int} {g : GX} (hg : GBd q g) (hq : 1<=q) {t : Ty} {env : List Bnd} {d B : Int} (hB : 0<=B) : ∀ (k : Nat) (s : MkS),Bd (k * q+B) s->Bd B (dX g t env d k s).2
 | 0,s,h=>by rw [dX];exact h.mono (by simp)
 | k+1,s,h=>by
  rw [dX]
  have e : ((k+1 : Nat) : Int) * q = k * q+q:=by rw [Int.natCast_add,Int.add_mul];simp
  have h0 : 0<=(k : Int) * q:=Int.mul_nonneg (by omega) (by omega)
  split
  ·exact sy hg hq hB k _ (hg t env d s _ (by omega) (h.mono (by omega)))
  ·exact h.mono (by omega)
theorem lD {q : Int} {g : GX} (hg : GBd q g) (hq : 1<=q) {env : List Bnd} {d B : Int} (hB : 0<=B) : ∀ (ts : List Ty) (s : MkS),Bd (ts.length * q+B) s->Bd B (eK g env d ts s).2
 | [],s,h=>by rw [eK];exact h.mono (by simp)
 | t::ts,s,h=>by
  rw [eK]
  have e : ((t::ts).length : Int) * q = ts.length * q+q:=by rw [List.length_cons,Int.natCast_add,Int.add_mul];simp
  have h0 : 0<=(ts.length : Int) * q:=Int.mul_nonneg (by omega) (by omega)
  exact lD hg hq hB ts _ (hg t env d s _ (by omega) (h.mono (by omega)))
theorem qx {q : Int} {g : GX} (hg : GBd q g) (hq : 1<=q) {t : Ty} {env : List Bnd} {d B : Int} {id : IdT} (hB : 0<=B) : ∀ (sl : List SlotT) (k : Nat) (s : MkS),Bd (sl.length * (q+1)+B) s->Bd B (aT g t env d id sl k s).2
 | [],k,s,h=>by rw [aT];exact h.mono (by simp)
 | x::xs,k,s,h=>by
  rw [aT]
  have e : ((x::xs).length : Int) * (q+1) = xs.length * (q+1)+(q+1):=by rw [List.length_cons,Int.natCast_add,Int.add_mul];simp
  have h0 : 0<=(xs.length : Int) * (q+1):=Int.mul_nonneg (by omega) (by omega)
  refine qx hg hq hB xs (k+1) _ (Bd.name' (A:=xs.length * (q+1)+B+1) (hg t _ d s _ (by omega) (h.mono (by omega))) (by omega))
theorem ry (p : ProgT) (id : IdT) : aj p id = ku\/aj p id∈p.defs:=by
 unfold aj
 cases h : p.defs.find? fun d=>decide (d.id = id) with
 | none=>exact .inl rfl
 | some d=>exact .inr (List.mem_of_find?_eq_some h)
def jJ (p : ProgT) : Prop:=∀ d∈p.defs,d.slots.length<=3
theorem jJ.the {p : ProgT} (h : jJ p) (id : IdT) : (aj p id).slots.length<=3:=by
 rcases ry p id with e | e
 ·rw [e];exact Nat.zero_le _
 ·exact h _ e
theorem jJ.at {c : MkC} (h : jJ c.p) (k : Nat) : (bG c k).slots.length<=3:=by
 unfold bG
 rcases Nat.lt_or_ge k c.p.defs.length with hk | hk
 ·rw [List.getD_eq_getElem?_getD,List.getElem?_eq_getElem hk];exact h _ (List.getElem_mem hk)
 ·rw [List.getD_eq_getElem?_getD,List.getElem?_eq_none hk];exact Nat.zero_le _
theorem le3 {n : Nat} {q : Int} (h : n<=3) (hq : 0<=q) : (n : Int) * q<=3 * q:=Int.mul_le_mul_of_nonneg_right (by omega) hq
theorem Bo {q : Int} {g : GX} {c : MkC} (hg : GBd q g) (hq : 1<=q) (hs : jJ c.p) {t : Ty} {env : List Bnd} {x d B : Int} {s : MkS} (hB : 0<=B) (h : Bd (3 * q+1+B) s) : Bd B (kH c g t env x d s).2:=by
 unfold kH
 split
 ·exact h.node (by omega)
 split
 ·exact h.node (by omega)
 split
 ·have h3 : (if 0<=d then (x.tmod 3).toNat else 0)<=3:=by
   split
   ·have:=Int.tmod_lt_of_pos x (show (0 : Int) < 3 by omega);omega
   ·omega
  dsimp only
  exact Bd.node (sy hg hq (B:=B+1) (by omega) _ s (h.mono (by have:=le3 h3 (show 0<=q by omega);omega))) (by omega)
 split
 ·dsimp only
  exact Bd.node (hg _ _ _ s (B+1) (by omega) (h.mono (by omega))) (by omega)
 ·have h3:=hs.the t.df
  dsimp only
  exact Bd.node (lD hg hq (B:=B+1) (by omega) _ s (h.mono (by have:=le3 h3 (show 0<=q by omega);rw [List.length_map];omega))) (by omega)
theorem tr {q : Int} {g : GX} (hg : GBd q g) (hq : 1<=q) {n : Int} {u : Ty} {env : List Bnd} {d B : Int} {s : MkS} (hB : 0<=B) (h : Bd (2 * q+1+B) s) : Bd B (lN g n u env d s).2:=by
 unfold lN
 exact Bd.node (hg _ _ _ _ (B+1) (by omega) (hg _ _ _ s (q+(B+1)) (by omega) (h.mono (by omega)))) (by omega)
theorem Bk {q : Int} {g : GX} (hg : GBd q g) {n : Int} {u : Ty} {env : List Bnd} {d B : Int} {s : MkS} (hB : 0<=B) (h : Bd (q+1+B) s) : Bd B (oneG g n u env d s).2:=by
 unfold oneG
 exact Bd.node (hg _ _ _ s (B+1) (by omega) (h.mono (by omega))) (by omega)
theorem wj {q : Int} {g : GX} {c : MkC} (hg : GBd q g) (hq : 1<=q) (hs : jJ c.p) {t : Ty} {env : List Bnd} {x d B : Int} {s : MkS} (hB : 0<=B) (h : Bd (3 * q+1+B) s) : Bd B (opG c g t env x d s).2:=by
 unfold opG
 split
 ·split
  ·exact Bk hg hB (h.mono (by omega))
  ·exact tr hg hq hB (h.mono (by omega))
 split
 ·split
  ·exact Bk hg hB (h.mono (by omega))
  ·exact tr hg hq hB (h.mono (by omega))
 split
 ·exact tr hg hq hB (h.mono (by omega))
 ·exact Bo hg hq hs hB h
theorem CH {q : Int} {g : GX} {c : MkC} (hg : GBd q g) (hq : 1<=q) (hs : jJ c.p) {t : Ty} {env : List Bnd} {x d B : Int} {s : MkS} (hB : 0<=B) (h : Bd (4 * q+4+B) s) : Bd B (j6 c g t env x d s).2:=by
 unfold j6
 split
 ·exact wj hg hq hs hB (h.mono (by omega))
 ·have h3:=le3 (hs.at (c:=c) (ofG c 1 x.toNat).toNat) (show 0<=q+1 by omega)
  dsimp only
  exact qx hg hq hB _ _ _ (Bd.node (A:=3 * (q+1)+B+1) (hg _ _ _ s _ (by omega) (h.mono (by omega))) (by omega))
theorem CZ {q : Int} {g : GX} {c : MkC} (hg : GBd q g) (hq : 1<=q) (hs : jJ c.p) {t : Ty} {env : List Bnd} {x d B : Int} {s : MkS} (hB : 0<=B) (h : Bd (4 * q+4+B) s) : Bd B (ko c g t env x d s).2:=by
 unfold ko
 split
 ·dsimp only
  exact Bd.node (hg _ _ _ s (B+1) (by omega) (h.mono (by omega))) (by omega)
 ·exact wj hg hq hs hB (h.mono (by omega))
theorem FP {q : Int} {g : GX} {c : MkC} (hg : GBd q g) (hq : 1<=q) (hs : jJ c.p) {t : Ty} {env : List Bnd} {x d B : Int} {s : MkS} (hB : 0<=B) (h : Bd (4 * q+4+B) s) : Bd B (oP c g t env x d s).2:=by
 unfold oP
 split
 ·rename_i k _
  have h3:=le3 (hs.at (c:=c) k) (show 0<=q by omega)
  dsimp only
  exact Bd.node (lD hg hq (B:=B+1) (by omega) _ s (h.mono (by rw [List.length_map];omega))) (by omega)
 ·exact wj hg hq hs hB (h.mono (by omega))
theorem DO {q : Int} {g : GX} {c : MkC} (hg : GBd q g) (hq : 1<=q) (hs : jJ c.p) {t : Ty} {env : List Bnd} {k x d B : Int} {s : MkS} (hB : 0<=B) (h : Bd (4 * q+4+B) s) : Bd B (qe c g t env k x d s).2:=by
 unfold qe
 split
 ·dsimp only [ifG]
  exact Bd.node (hg _ _ _ _ (B+1) (by omega) (hg _ _ _ _ (q+(B+1)) (by omega) (hg _ _ _ s (q+(q+(B+1))) (by omega) (h.mono (by omega))))) (by omega)
 split
 ·dsimp only [letG]
  exact hg _ _ _ _ B (by omega) (Bd.name' (A:=q+B+1) (Bd.node (A:=q+B+2) (hg _ _ _ s _ (by omega) (h.mono (by omega))) (by omega)) (by omega))
 split
 ·exact CH hg hq hs hB h
 split
 ·exact CZ hg hq hs hB h
 split
 ·exact FP hg hq hs hB h
 split
 ·dsimp only [Fi]
  exact hg _ _ _ _ B (by omega) (Bd.name' (A:=q+B+1) (Bd.name' (A:=q+B+2) (Bd.node (A:=q+B+3) (hg _ _ _ _ _ (by omega) (hg _ _ _ s (q+(q+B+3)) (by omega) (h.mono (by omega)))) (by omega)) (by omega)) (by omega))
 ·exact wj hg hq hs hB (h.mono (by omega))
theorem yG {q : Int} {g : GX} {c : MkC} (hg : GBd q g) (hq : 1<=q) (hs : jJ c.p) : GBd (9 * q) (sO c g):=by
 intro t env d s B hB h
 have h1 : Bd (4 * q+4+B) (fM c 65536 s).2:=h.num (by omega)
 unfold sO
 dsimp only
 generalize (if (fM c 65536 s).2.left<=0 then min d 0 else d) = dd
 split
 ·dsimp only [Dm]
  exact Bd.node (A:=4 * q+4+B) h1 (by omega)
 split
 ·exact Bo hg hq hs hB (h1.mono (by omega))
 ·exact DO hg hq hs hB h1
theorem cO {c : MkC} (hs : jJ c.p) : ∀ n : Nat,GBd (9 ^ n) (au c n)
 | 0=>fun t env d s B hB h=>h.mono (by have e : (9 : Int) ^ 0 = 1:=rfl;omega)
 | n+1=>by
  have h:=yG (cO hs n) (Int.pow_pos (by decide)) hs
  rw [show (9 : Int) ^ (n+1) = 9 * 9 ^ n by rw [Int.pow_succ,Int.mul_comm]]
  exact h
structure GenOk (p : ProgT) (R : Nat) : Prop where
 short : jJ p
 kase : ∀ d∈p.defs,d.kind = 1->0 < d.slots.length
 slot : ∀ d∈p.defs,∀ s∈d.slots,wfT p R s.ty
 res : ∀ d∈p.defs,d.kind = 2->wfT p R d.result
 own : ∀ d∈p.defs,d.kind = 0\/d.kind = 1->wfT p R (ofT d.id)
 R2 : 2<=R
def okT (p : ProgT) (R n : Nat) (t : Ty) (depth : Int) : Prop:=(depth<=0/\wfT p n t)\/(0 < depth/\wfT p R t/\(R : Int)+depth<=n)
theorem okT.wf {p : ProgT} {R n : Nat} {t : Ty} {depth : Int} (h : okT p R n t depth) : wfT p n t:=by
 rcases h with h | h
 ·exact h.2
 ·exact bE (by omega) h.2.1
theorem okT.pos {p : ProgT} {R n : Nat} {t : Ty} {depth : Int} (h : okT p R n t depth) : 0 < n:=by
 have:=h.wf
 cases n with
 | zero=>exact this.elim
 | succ n=>omega
theorem okT.any {p : ProgT} {R n : Nat} {t u : Ty} {depth : Int} (h : okT p R (n+1) t depth) (h0 : 0 < depth) (hu : wfT p R u) {j : Int} (hj : 1<=j) : okT p R n u (depth - j):=by
 rcases h with h | h
 ·omega
 ·by_cases h1 : depth - j<=0
  ·exact .inl ⟨h1,bE (by omega) hu⟩
  ·exact .inr ⟨by omega,hu,by omega⟩
theorem okT.part {p : ProgT} {R n : Nat} {t u : Ty} {depth : Int} (h : okT p R (n+1) t depth) (hu : ∀ m,wfT p (m+1) t->wfT p m u) : okT p R n u (depth - 1):=by
 by_cases h0 : 0 < depth
 ·rcases h with h1 | h1
  ·omega
  ·exact okT.any (.inr h1) h0 (hu R (bE (by omega) h1.2.1)) (by omega)
 ·rcases h with h1 | h1
  ·exact .inl ⟨by omega,hu n h1.2⟩
  ·omega
theorem okT.low {p : ProgT} {R n : Nat} {t : Ty} {depth : Int} (h : okT p R n t depth) : okT p R n t (min depth 0):=.inl ⟨by omega,h.wf⟩
abbrev bK (env : List Bnd) : D:=.sl env.length 9 (env.flatMap Bnd.enc)
theorem kO {p : ProgT} {R : Nat} (h : 2<=R) : wfT p R (bF ty0):=bE h (B0 (vH p 0))
theorem fit_mem {env : List Bnd} {t : Ty} {b : Bnd} (h : b∈dK env t) : b∈env:=(List.mem_filter.1 h).1
def dpt (s1 : MkS) (depth : Int) : Int:=if s1.left<=0 then min depth 0 else depth
theorem FG {p : ProgT} {R n : Nat} {t : Ty} {s1 : MkS} {depth : Int} (h : okT p R n t depth) : okT p R n t (dpt s1 depth):=by
 unfold dpt
 split
 ·exact h.low
 ·exact h
theorem sP (c : MkC) (n : Nat) (t : Ty) (env : List Bnd) (depth : Int) (s : MkS) : au c (n+1) t env depth s =
  if 0 < (dK env t).length/\(dpt (fM c 65536 s).2 depth<=0\/(fM c 65536 s).1.tmod 3 = 0) then Dm ((dK env t).getD (((fM c 65536 s).1.tdiv 3).tmod (dK env t).length).toNat default) (fM c 65536 s).2
  else if dpt (fM c 65536 s).2 depth<=0 then kH c (au c n) t env ((fM c 65536 s).1.tdiv 3) (dpt (fM c 65536 s).2 depth) (fM c 65536 s).2
  else qe c (au c n) t env (((fM c 65536 s).1.tdiv 3).tmod 12) ((fM c 65536 s).1.tdiv 36) (dpt (fM c 65536 s).2 depth) (fM c 65536 s).2:=rfl
mutual
def Ex.post : Ex->List Int
 | .mk i _ _ _ _ l _=>Ex.cS l++[i.index]
def Ex.cS : List Ex->List Int
 | []=>[]
 | e::es=>e.post++Ex.cS es
end
theorem Ex.dJ (e : Ex) : e.post = Ex.cS e.kids++[e.id.index]:=by cases e;rw [Ex.post];rfl
theorem Ex.oc : ∀ (l m : List Ex),Ex.cS (l++m) = Ex.cS l++Ex.cS m
 | [],m=>by simp [Ex.cS]
 | x::xs,m=>by rw [List.cons_append,Ex.cS,Ex.cS,Ex.oc xs m,List.append_assoc]
theorem Ex.zE (l : List Ex) (k : Nat) (h : k < l.length) : Ex.cS (l.take (k+1)) = Ex.cS (l.take k)++l[k].post:=by
 rw [List.take_succ_eq_append_getElem h,Ex.oc]
 simp [Ex.cS]
mutual
theorem Ex.od : ∀ e : Ex,e.post.length = e.size
 | .mk i k n r t l s=>by rw [Ex.post,Ex.size,List.length_append,Ex.o6 l];simp;omega
theorem Ex.o6 : ∀ l : List Ex,(Ex.cS l).length = Ex.sizes l
 | []=>by simp [Ex.cS,Ex.sizes]
 | e::es=>by rw [Ex.cS,Ex.sizes,List.length_append,Ex.od e,Ex.o6 es]
end
def gE (ids : List IdT) (z : Int) : IdT:=ids.getD z.toNat default
def iX (ids : List IdT) (k : Int) (r : IdT) : IdT:=if k = 2/\r.seq = 0 then gE ids r.index else r
mutual
def eN (ids : List IdT) : Ex->Ex
 | .mk i k n r t l s=>.mk (gE ids i.index) k n (iX ids k r) t (qD ids l) s
def qD (ids : List IdT) : List Ex->List Ex
 | []=>[]
 | e::es=>eN ids e::qD ids es
end
theorem renE_eq (ids : List IdT) (e : Ex) : eN ids e = .mk (gE ids e.id.index) e.kind e.n (iX ids e.kind e.ref) e.ty (qD ids e.kids) e.names:=by cases e;rw [eN];rfl
theorem rJ (ids : List IdT) : ∀ l : List Ex,qD ids l = l.map (eN ids)
 | []=>by simp [qD]
 | e::es=>by rw [qD,rJ ids es,List.map_cons]
mutual
def inB (m : Int) : Ex->Prop
 | .mk i k _ r _ l _=>(0<=i.index/\i.index < m)/\(k = 2/\r.seq = 0->0<=r.index/\r.index < m)/\oz m l
def oz (m : Int) : List Ex->Prop
 | []=>True
 | e::es=>inB m e/\oz m es
end
theorem inB_eq (m : Int) (e : Ex) : inB m e↔(0<=e.id.index/\e.id.index < m)/\(e.kind = 2/\e.ref.seq = 0->0<=e.ref.index/\e.ref.index < m)/\oz m e.kids:=by cases e;rw [inB];rfl
theorem yl {m : Int} : ∀ {l : List Ex} {e : Ex},oz m l->e∈l->inB m e
 | x::xs,e,h,he=>by
  rw [oz] at h
  rcases List.mem_cons.1 he with rfl | he
  ·exact h.1
  ·exact yl h.2 he
theorem idAt_eq {ids : List IdT} {k : Nat} {z : Int} (h : z = (k : Int)) (hk : k < ids.length) : gE ids z = ids[k]:=by
 unfold gE
 rw [h,Int.toNat_natCast,List.getD_eq_getElem?_getD,List.getElem?_eq_getElem hk]
 rfl
def Cd (a b : Ty) : List Ty:=[ty0,.mk 1 id0 [],bF ty0,a,b,ty0]
def bQ (n : Int) (a b : Ty) : Ty:=(Cd a b).getD (around n 6).toNat ty0
abbrev tyL : Ty:=.mk 1 id0 []
def inT1 (a : Int) : Ty:=if a = 1 then tyL else ty0
def inT2 (a : Int) : Ty:=if a = 2 then bF ty0 else inT1 a
def inT (a : Int) (T : Ty) : Ty:=if a = 3 then T else inT2 a
def inZ1 (l : List Int) (i a : Int) : Int:=if a = 1 then 0 else 1+atL l (i+1) 3
def inZ2 (l : List Int) (i a : Int) : Int:=if a = 2 then 1+atL l (i+1) 2 else inZ1 l i a
def inZ (l : List Int) (i a : Int) : Int:=if a = 3 then 1 else inZ2 l i a
def in1 (c : Int) : List Ty:=if c = 1 then [ty0] else []
def yo (c : Int) : List Int:=if c = 1 then [1] else []
def in2 (c : Int) : List Ty:=if c = 2 then [tyL] else in1 c
def E6 (c : Int) : List Int:=if c = 2 then [0] else yo c
def wI (l : List Int) (i : Int) (T : Ty) : List Ty:=inT (atL l i 5) T::in2 (atL l (i+2) 3)
def CP (l : List Int) (i : Int) : List Int:=inZ l i (atL l i 5)::E6 (atL l (i+2) 3)
theorem inZ_rng (l : List Int) (i a : Int) : 0<=inZ l i a/\inZ l i a<=3:=by
 have h2:=cC l (i+1) 2 (by omega)
 have h3:=cC l (i+1) 3 (by omega)
 unfold inZ inZ2 inZ1
 split
 ·omega
 split
 ·omega
 split <;> omega
theorem in2_len (c : Int) : (in2 c).length = (E6 c).length:=by
 unfold in2 E6 in1 yo
 split
 ·rfl
 split <;> rfl
theorem E5 (c : Int) : (in2 c).length<=1:=by
 unfold in2 in1
 split
 ·simp
 split <;> simp
structure PlanT where
 kind : Int
 name : ByteArray
 types : List Ty
 names : List ByteArray
 bases : List Int
 result : Ty
 mod : Int
def PlanT.enc (p : PlanT) : List D:=[an p.kind,eP p.name,.sl p.types.length 5 (p.types.flatMap Ty.enc),BG p.names,aK p.bases]++p.result.enc++[an p.mod]
theorem PlanT.aq (p : PlanT) : p.enc.length = 11:=by rw [PlanT.enc,Ty.ay];rfl
abbrev nPoint : ByteArray:=⟨#[80,111,105,110,116]⟩
abbrev zP : ByteArray:=⟨#[69,118,101,110,116]⟩
abbrev ED : ByteArray:=⟨#[83,116,97,116,101]⟩
abbrev nOut : ByteArray:=⟨#[79,117,116]⟩
abbrev n_a : ByteArray:=⟨#[97]⟩
abbrev n_b : ByteArray:=⟨#[98]⟩
abbrev n_c : ByteArray:=⟨#[99]⟩
abbrev n_e : ByteArray:=⟨#[101]⟩
abbrev n_f : ByteArray:=⟨#[102]⟩
abbrev n_g : ByteArray:=⟨#[103]⟩
abbrev n_s : ByteArray:=⟨#[115]⟩
abbrev n_t : ByteArray:=⟨#[116]⟩
abbrev n_x : ByteArray:=⟨#[120]⟩
abbrev n_y : ByteArray:=⟨#[121]⟩
abbrev n_z : ByteArray:=⟨#[122]⟩
abbrev EC : ByteArray:=⟨#[84,105,99,107]⟩
abbrev EE : ByteArray:=⟨#[80,117,115,104]⟩
abbrev nSet : ByteArray:=⟨#[83,101,116]⟩
abbrev EF : ByteArray:=⟨#[99,111,117,110,116]⟩
abbrev nLog : ByteArray:=⟨#[108,111,103]⟩
abbrev nMore : ByteArray:=⟨#[109,111,114,101]⟩
abbrev Ev : ByteArray:=⟨#[115,116,97,116,101]⟩
abbrev ya : ByteArray:=⟨#[115,105,103,110,97,108,115]⟩
abbrev nNext : ByteArray:=⟨#[110,101,120,116]⟩
abbrev nStep : ByteArray:=⟨#[115,116,101,112]⟩
abbrev nOld : ByteArray:=⟨#[111,108,100]⟩
def ek (l : List Int) : Bool:=decide (0 < atL l 1 4)
abbrev tyD (n : Int) : Ty:=ofT (idK n)
def fY (l : List Int) (q : Int) (m : Int) (T : Ty) (k : Nat) : List Ty:=(List.range k).map fun (i : Nat)=>bQ (atL l (q+(i : Int)) m) T T
theorem ni (l : List Int) (q m : Int) (T : Ty) (k : Nat) : fY l q m T (k+1) = fY l q m T k++[bQ (atL l (q+(k : Int)) m) T T]:=by
 simp [fY,List.range_succ]
theorem hY (l : List Int) (q m : Int) (T : Ty) (k : Nat) : (fY l q m T k).length = k:=by simp [fY]
def jX (l : List Int) (n : Int) : PlanT:=⟨0,nPoint,fY l 3 3 (tyD n) (1+(atL l 2 3).toNat),[n_x,n_y,n_z],[],ty0,0⟩
def lg (l : List Int) (n : Int) : PlanT:=⟨1,zP,ty0::fY l 7 4 (tyD n) (1+(atL l 6 2).toNat),[EC,EE,nSet],[],ty0,0⟩
def iG (l : List Int) (n : Int) : PlanT:=⟨0,ED,ty0::fY l 10 4 (tyD n) (atL l 9 3).toNat,[EF,nLog,nMore],[],ty0,0⟩
def nA (n : Int) : PlanT:=⟨0,nOut,[tyD (n+2),bF ty0,ty0],[Ev,ya,nNext],[],ty0,0⟩
def tyS (l : List Int) (n : Int) : Ty:=if ek l then tyD (n+2) else tyD n
def yF (l : List Int) (n : Int) : List Ty:=bQ (atL l 12 6) (tyD n) (tyD (n+1))::(if atL l 13 2 = 1 then [bQ (atL l 14 6) (tyD n) (tyD (n+1))] else [])
def kI (l : List Int) (n : Int) : Ty:=bQ (atL l 16 6) (tyD n) (tyD n)
def pF (l : List Int) (n : Int) : PlanT:=⟨2,n_f,yF l n,[n_a,n_b],[],kI l n,atL l 15 n⟩
def lf (n : Int) : PlanT:=⟨3,nStep,[tyD (n+2),tyD (n+1)],[n_s,n_e],[],tyD (n+3),n - 1⟩
def pG (l : List Int) (n : Int) : PlanT:=⟨2,n_g,[tyD (n+1)],[n_e],[],bQ (atL l 17 6) (tyD n) (tyD (n+1)),n - 1⟩
def pT (l : List Int) (n : Int) : PlanT:=⟨4,n_t,wI l 18 (tyD n),[n_a,n_b],CP l 18,bQ (atL l 21 6) (tyD n) (kI l n),n - 1⟩
def pC (l : List Int) (n : Int) : PlanT:=⟨5,n_c,[tyS l n],[nOld],[],bQ (atL l 23 6) (tyD n) (tyS l n),n - 1⟩
def jW (l : List Int) (n : Int) : List PlanT:=[jX l n,lg l n]
def eG (l : List Int) (n : Int) : List PlanT:=jW l n++(if ek l then [iG l n,nA n] else [])
def eF (l : List Int) (n : Int) : List PlanT:=eG l n++[pF l n]++[if ek l then lf n else pG l n]
def bp (l : List Int) (n : Int) : List PlanT:=eF l n++[pT l n]++(if 0 < atL l 22 4 then [pC l n] else [])
def ax (l : List Int) : Int:=1+atL l 0 2
def dz (p : PlanT) (next : Int) : List SlotT :=
 (List.range p.types.length).map fun (j : Nat)=>⟨idK (next+(j : Int)),p.names.getD j ByteArray.empty,p.types.getD j ty0,if p.kind = 4 then p.bases.getD j 0 else 0,(j : Int)⟩
def gV (p : PlanT) (i next : Int) : DefT:=⟨idK i,p.kind,idK p.mod,p.name,dz p next,p.result,ex0,0,[]⟩
def aP : List PlanT->Int->Int->List DefT
 | [],_,_=>[]
 | p::ps,i,next=>gV p i next::aP ps (i+1) (next+p.types.length)
theorem cx : ∀ (ps : List PlanT) (i next : Int),(aP ps i next).length = ps.length
 | [],_,_=>rfl
 | _::ps,_,_=>by rw [aP,List.length_cons,cx ps,List.length_cons]
end Xe

namespace Pm
open Go Xe
theorem iL (xs : List DefT) {k : Nat} (hk : k < xs.length) : el (xs.flatMap DefT.enc) 31 k = xs[k].enc:=hH DefT.aq xs hk
theorem lJ (xs : List SlotT) {k : Nat} (hk : k < xs.length) : el (xs.flatMap SlotT.enc) 11 k = xs[k].enc:=hH SlotT.aq xs hk
theorem BF (xs : List Bnd) {k : Nat} (hk : k < xs.length) : el (xs.flatMap Bnd.enc) 9 k = xs[k].enc:=hH Bnd.aq xs hk
theorem el_Md (xs : List ModT) {k : Nat} (hk : k < xs.length) : el (xs.flatMap ModT.enc) 6 k = xs[k].enc:=hH ModT.aq xs hk
theorem el_Id (xs : List IdT) {k : Nat} (hk : k < xs.length) : el (xs.flatMap IdT.enc) 3 k = xs[k].enc:=hH (enc:=IdT.enc) (fun _=>rfl) xs hk
theorem el_Pl (xs : List PlanT) {k : Nat} (hk : k < xs.length) : el (xs.flatMap PlanT.enc) 11 k = xs[k].enc:=hH PlanT.aq xs hk
theorem kD (xs : List Val) {k : Nat} (hk : k < xs.length) : el (xs.flatMap Val.enc) 3 k = xs[k].enc:=hH Val.aq xs hk
theorem id_eq (a b : IdT) : (a.shop = b.shop/\a.seq = b.seq/\a.index = b.index) = (a = b):=propext ⟨fun h=>IdT.ext' h.1 h.2.1 h.2.2,fun h=>by rw [h];exact ⟨rfl,rfl,rfl⟩⟩
theorem ifK_nd (p : Prop) (_ : Decidable p) (k h : Prop) : ifK (!decide p) k h = ((p->h)/\(¬ p->k)):=by
 by_cases hp : p <;> simp [ifK,hp]
theorem pms : (∀ (d : D) (ds : List D) (o n : Nat),sub (d::ds) (o+1) n = sub ds o n)/\(∀ (d : D) (ds : List D) (n : Nat),sub (d::ds) 0 (n+1) = d::sub ds 0 n)/\(∀ (ds : List D),sub ds 0 0 = []) /\
  (∀ (p : Prop) (_ : Decidable p) (k h : Prop),ifK (!decide p) k h = ((p->h)/\(¬ p->k))) /\
  (∀ (t : Ty) (o n : Nat),sub t.enc o n = sub [an t.kind,an t.df.shop,an t.df.seq,an t.df.index,.sl t.kids.length 5 (t.kids.flatMap Ty.enc)] o n) /\
  (∀ (b : Bnd) (i : Nat),cell b.enc i = cell [an b.id.shop,an b.id.seq,an b.id.index,an b.n,an b.ty.kind,an b.ty.df.shop,an b.ty.df.seq,an b.ty.df.index,.sl b.ty.kids.length 5 (b.ty.kids.flatMap Ty.enc)] i) /\
  (∀ (b : Bnd),sub b.enc 4 5 = b.ty.enc)/\(∀ (b : Bnd),sub b.enc 0 3 = b.id.enc) /\
  (∀ (x : SlotT),sub x.enc 4 5 = x.ty.enc)/\(∀ (x : SlotT),sub x.enc 0 3 = x.id.enc) /\
  (∀ (x : DefT),sub x.enc 0 3 = x.id.enc)/\(∀ (x : DefT),sub x.enc 4 3 = x.mod.enc)/\(∀ (x : DefT),sub x.enc 9 5 = x.result.enc)/\(∀ (x : DefT),sub x.enc 14 15 = x.body.enc) /\
  (∀ (x : DefT),cell x.enc 3 = an x.kind)/\(∀ (x : DefT),cell x.enc 8 = .sl x.slots.length 11 (x.slots.flatMap SlotT.enc))/\(∀ (x : ModT),sub x.enc 0 3 = x.id.enc) /\
  (∀ (x : IdT) (i : Nat),cell x.enc i = cell [an x.shop,an x.seq,an x.index] i)/\(∀ a b : IdT,(a.shop = b.shop/\a.seq = b.seq/\a.index = b.index) = (a = b))/\(∀ e : Ex,sub e.enc 5 3 = e.ref.enc)/\(∀ e : Ex,sub e.enc 0 3 = e.id.enc)/\(∀ e : Ex,sub e.enc 8 5 = e.ty.enc):=by
 refine ⟨fun _ _ _ _=>rfl,fun _ _ _=>rfl,fun _=>rfl,fun _ _ _ _=>ifK_nd _ _ _ _,fun t o n=>by rw [Ty.ay],fun _ _=>rfl,fun b=>by rw [Ty.ay];rfl,fun _=>rfl,fun b=>by rw [Ty.ay];rfl,fun _=>rfl,fun _=>rfl,fun _=>rfl,fun b=>by rw [Ty.ay];rfl,fun b=>by rw [Ex.ay];rfl,fun _=>rfl,fun _=>rfl,fun _=>rfl,fun _ _=>rfl,id_eq,fun e=>by rw [Ex.ay];rfl,fun e=>by rw [Ex.ay];rfl,fun e=>by rw [Ex.ay,Ty.ay];rfl⟩
def mkL (c : MkC) (s : MkS) : List D:=[.sl c.p.mods.length 6 (c.p.mods.flatMap ModT.enc),aK c.l,vI s.pos,vI s.temp,vI s.left,vI c.own,vI c.home.shop,vI c.home.seq,vI c.home.index,vI s.name]
def dfL (c : MkC) : List D:=[.sl c.p.defs.length 31 (c.p.defs.flatMap DefT.enc)]
def exL (e : Ex) : List D:=[an e.id.shop,an e.id.seq,an e.id.index,an e.kind,an e.n,an e.ref.shop,an e.ref.seq,an e.ref.index,an e.ty.kind,an e.ty.df.shop,an e.ty.df.seq,an e.ty.df.index,
  .sl e.ty.kids.length 5 (e.ty.kids.flatMap Ty.enc),.sl e.kids.length 15 (e.kids.flatMap Ex.enc)]
def nmL (e : Ex) : List D:=[BG e.names]
theorem di {X : (St'->Prop)->Prop} {k : St'->Prop} (r : St') (h : X fun st=>st = r) (hk : k r) : jn X k:=⟨_,h,fun _ e=>e ▸ hk⟩
def mkR (c : MkC) (r : Ex×MkS) : St':=[exL r.1,nmL r.1,mkL c r.2,dfL c]
theorem pmg : (∀ c s,mkL c s = [.sl c.p.mods.length 6 (c.p.mods.flatMap ModT.enc),aK c.l,vI s.pos,vI s.temp,vI s.left,vI c.own,vI c.home.shop,vI c.home.seq,vI c.home.index,vI s.name]) /\
  (∀ c,dfL c = [.sl c.p.defs.length 31 (c.p.defs.flatMap DefT.enc)])/\(∀ e,nmL e = [.sl e.names.length 1 (e.names.map eP)]) /\
  (∀ e,exL e = [an e.id.shop,an e.id.seq,an e.id.index,an e.kind,an e.n,an e.ref.shop,an e.ref.seq,an e.ref.index,an e.ty.kind,an e.ty.df.shop,an e.ty.df.seq,an e.ty.df.index,.sl e.ty.kids.length 5 (e.ty.kids.flatMap Ty.enc),.sl e.kids.length 15 (e.kids.flatMap Ex.enc)]) /\
  (∀ c r,mkR c r = [exL r.1,nmL r.1,mkL c r.2,dfL c]):=⟨fun _ _=>rfl,fun _=>rfl,fun _=>rfl,fun _=>rfl,fun _ _=>rfl⟩
structure Ctx (c : MkC) (R : Nat) : Prop where
 gen : GenOk c.p R
 li : ∀ x∈c.l,InI x
 m0 : 0 < c.p.mods.length
 d0 : 0 < c.p.defs.length
 d1 : c.p.defs.length<=100
 sty : ∀ d∈c.p.defs,∀ x∈d.slots,x.ty.size<=1000
 rty : ∀ d∈c.p.defs,d.result.size<=1000
structure Fit (c : MkC) (R n : Nat) (t : Ty) (env : List Bnd) (depth : Int) : Prop where
 e0 : 0 < env.length
 e1 : env.length+2 * n<=1000
 ew : ∀ b∈env,wfT c.p R b.ty
 es : ∀ b∈env,b.ty.size<=1000
 ts : t.size<=1000
 ok : okT c.p R n t depth
 dp : (n : Int) - 1000<=depth/\depth<=1000
theorem Fit.kid {c : MkC} {R n : Nat} {t : Ty} {env : List Bnd} {depth : Int} (h : Fit c R (n+1) t env depth) {u : Ty} (hu : ∀ m,wfT c.p (m+1) t->wfT c.p m u) (hs : u.size<=1000) : Fit c R n u env (depth - 1) :=
 ⟨h.e0,by have:=h.e1;omega,h.ew,h.es,hs,h.ok.part hu,by have:=h.dp;omega⟩
theorem Fit.any {c : MkC} {R n : Nat} {t : Ty} {env : List Bnd} {depth : Int} (h : Fit c R (n+1) t env depth) (h0 : 0 < depth) {u : Ty} (hu : wfT c.p R u) (hs : u.size<=1000) {j : Int} (hj : 1<=j) (hj2 : j<=2) : Fit c R n u env (depth - j) :=
 ⟨h.e0,by have:=h.e1;omega,h.ew,h.es,hs,h.ok.any h0 hu hj,by have:=h.dp;have:=h.e1;omega⟩
theorem Fit.wt {c : MkC} {R n : Nat} {t : Ty} {env : List Bnd} {depth : Int} (h : Fit c R n t env depth) (h0 : 0 < depth) : wfT c.p R t:=by
 rcases h.ok with h1 | h1
 ·omega
 ·exact h1.2.1
theorem Fit.more {c : MkC} {R n : Nat} {t : Ty} {env : List Bnd} {depth : Int} (h : Fit c R n t env depth) {b : Bnd} (hw : wfT c.p R b.ty) (hs : b.ty.size<=1000) (hl : env.length+1+2 * n<=1000) : Fit c R n t (env++[b]) depth :=
 ⟨by simp,by simp;omega,fun x hx=>by
  rcases List.mem_append.1 hx with hx | hx
  ·exact h.ew x hx
  ·rw [List.mem_singleton.1 hx];exact hw,fun x hx=>by
  rcases List.mem_append.1 hx with hx | hx
  ·exact h.es x hx
  ·rw [List.mem_singleton.1 hx];exact hs,h.ts,h.ok,h.dp⟩
theorem lX {p : ProgT} {R : Nat} (hR : 2<=R) {t : Ty} (h : t.kind = 0\/t.kind = 1) : wfT p R t:=by
 obtain ⟨m,rfl⟩ : ∃ m,R = m+1:=⟨R - 1,by omega⟩
 rw [wfT]
 rcases h with h | h
 ·exact .inl h
 ·exact .inr (.inl h)
theorem fK : ty0.enc = [vI 0,vI 0,vI 0,vI 0,.sl 0 5 []]:=by rw [Ty.ay];rfl
theorem qT : (bF ty0).enc = [vI 2,vI 0,vI 0,vI 0,.sl 1 5 [vI 0,vI 0,vI 0,vI 0,.sl 0 5 []]]:=by
 rw [Ty.ay]
 show [an 2,an 0,an 0,an 0,.sl 1 5 ([ty0].flatMap Ty.enc)] = _
 simp [fK]
theorem qJ : (Ty.mk 1 id0 []).enc = [vI 1,vI 0,vI 0,vI 0,.sl 0 5 []]:=by rw [Ty.ay];rfl
theorem sB {α : Type} {l : List α} {d : α} (h : 0 < l.length) : l.headD d = l[0]:=by
 cases l with
 | nil=>cases h
 | cons a l=>rfl
theorem bV {z n : Int} (hz : 0<=z) : z.tmod n = z % n:=Int.tmod_eq_emod_of_nonneg hz
theorem iw {z n : Int} (hz : 0<=z) : z.tdiv n = z / n:=Int.tdiv_eq_ediv_of_nonneg hz
end Pm

namespace Go.Proofs.YtanbipbiblikbaaDoor
open Xe Pm
abbrev IS:=Pm.Is Tryd.prog
theorem mB {z n : Int} (hn : 1<=n) (hz : InI z) : IS s16 [[vI z],[vI n]] [[vI (around z n)]]:=by
 refine w16.is ?_
 unfold g16
 simp only [pmr]
 refine ja ?_
 simp only [pmr]
 rw [Dh z n hn]
 unfold okI InI at *
 refine ⟨fun h=>⟨by omega,by omega,by omega,?_⟩,fun h=>⟨by omega,?_⟩⟩
 ·rw [if_pos h]
 ·rw [if_neg h]
theorem jf {z : Int} (h0 : 0<=z) (hz : InI z) : IS s39 [[vI z]] [(idK z).enc]:=by
 refine w39.is ?_
 unfold g39
 simp only [pmr]
 unfold okI InI at *
 have e:=iw (n:=32) h0
 refine ⟨⟨by decide,by omega,by omega⟩,by omega,by decide,?_⟩
 rfl
theorem BY {l : List Int} {i n : Int} (hn : 1<=n) (hl : ∀ x∈l,InI x) : IS s40 [[aK l],[vI i],[vI n]] [[vI (atL l i n)]]:=by
 refine w40.is ?_
 unfold g40 aK atL
 simp only [pmr]
 refine ⟨fun h=>by rw [if_pos (.inl h)],fun h=>⟨fun h1=>by rw [if_pos (.inr h1)],fun h1=>⟨by omega,?_⟩⟩⟩
 have hk : i.toNat < l.length:=by omega
 rw [pO l hk]
 simp only [pmr]
 refine ai (mB hn (hl _ (List.getElem_mem hk))) ?_
 simp only [pmr]
 rw [if_neg (by omega),List.getD_eq_getElem?_getD,List.getElem?_eq_getElem hk]
 rfl
section
variable {c : MkC} {s : MkS}
theorem num_is {n : Int} (hn : 1<=n) (hl : ∀ x∈c.l,InI x) (hb : Bd 1 s) : IS s77 [[vI n],mkL c s,dfL c] [[vI (fM c n s).1],mkL c (fM c n s).2,dfL c]:=by
 refine w77.is ?_
 unfold g77 mkL dfL
 simp only [pmr]
 unfold okI Bd at *
 refine ⟨by omega,by omega,?_⟩
 refine ai (BY hn hl) ?_
 simp only [pmr,fM,Int.add_sub_cancel]
theorem eZ {k n : Int} {kids : List Ex} (hb : Bd 1 s) : IS s81 [[vI k],[vI n],[.sl kids.length 15 (kids.flatMap Ex.enc)],mkL c s,dfL c] (mkR c (aR k n kids s)):=by
 refine w81.is ?_
 unfold g81 mkL dfL
 simp only [pmr]
 unfold okI Bd at *
 refine ⟨by omega,by omega,by omega,?_⟩
 simp only [aR,Int.add_sub_cancel]
 rfl
theorem qQ (hb : Bd 1 s) : IS s82 [mkL c s,dfL c] [[vS (dI s).1],mkL c (dI s).2,dfL c]:=by
 refine w82.is ?_
 unfold g82 mkL dfL
 simp only [pmr]
 unfold okI Bd at *
 obtain ⟨i,j,h1,h2,h3,h4,h5⟩:=nm_rng (k:=s.name+1) (by omega)
 have e2 : (s.name+1).tdiv 3 = (s.name+1) / 3:=iw (by omega)
 refine ⟨by omega,by decide,by omega,⟨by decide,by omega⟩,by decide,by omega,?_⟩
 rw [h1,h3,Int.toNat_natCast,Int.toNat_natCast]
 have e1 : cell (el [vS ⟨#[117]⟩,vS ⟨#[118]⟩,vS ⟨#[119]⟩] 1 i) 0 = vS (nm1.getD i ⟨#[]⟩):=by
  rcases i with _ | _ | _ | i <;> first | rfl | omega
 have e3 : cell (el [vS ⟨#[]⟩,vS ⟨#[49]⟩,vS ⟨#[50]⟩,vS ⟨#[51]⟩,vS ⟨#[52]⟩,vS ⟨#[53]⟩,vS ⟨#[54]⟩,vS ⟨#[55]⟩] 1 j) 0 = vS (nm2.getD j ⟨#[]⟩):=by
  rcases j with _ | _ | _ | _ | _ | _ | _ | _ | j <;> first | rfl | omega
 rw [e1,e3]
 simp only [pmr]
 have:=nm1_rng i h2
 have:=nm2_rng j h4
 refine ⟨by omega,?_⟩
 unfold dI
 rw [h5]
end
theorem BX (t : Ty) : IS s41 [t.enc] [[vI 2,vI 0,vI 0,vI 0],[.sl 1 5 t.enc]]:=by
 refine w41.is ?_
 unfold g41
 simp only [pmr,List.append_nil]
theorem vD (i : IdT) : IS s42 [i.enc] [(ofT i).enc]:=by
 refine w42.is ?_
 unfold g42
 rw [Ty.ay]
 rfl
theorem Ty.all_eq {a b : Ty} (h1 : a.kind = b.kind) (h2 : a.df = b.df) (h3 : a.kids = b.kids) : a = b:=by
 cases a;cases b
 simp only [Ty.kind,Ty.df,Ty.kids] at h1 h2 h3
 rw [h1,h2,h3]
theorem Ty.uq : ∀ l : List Ty,l.length<=Ty.sizes l
 | []=>Nat.zero_le _
 | t::l=>by
  have:=Ty.uq l
  have : 1<=t.size:=by cases t;simp [Ty.size]
  simp only [List.length_cons,Ty.sizes]
  omega
theorem Ty.kids_lt (a : Ty) : a.kids.length < a.size:=by
 have:=Ty.uq a.kids
 cases a
 simp only [Ty.size,Ty.kids] at *
 omega
theorem q7 (a b : Ty) (hs : a.size<=1000000000000) : IS tM [a.enc,b.enc] [[vB (decide (a = b))]]:=by
 refine w105.is ?_
 unfold g105
 simp only [pmr,pms]
 refine ⟨fun h1=>⟨fun h2'=>?_,fun h2=>?_⟩,fun h1=>by rw [decide_eq_false (fun e=>h1 (by rw [e]))]⟩
 ·refine ⟨fun h3=>?_,fun h3=>by rw [decide_eq_false (fun e=>h3 (by rw [e]))]⟩
  have h3' : a.kids.length = b.kids.length:=by omega
  refine cz a.kids.length (fun i=>[[vI (i : Int)],a.enc,b.enc]) (fun i=>a.kids.take i = b.kids.take i) (by simp) rfl fun i next hi hI hn=>?_
  simp only [pmr]
  refine ⟨fun h=>?_,fun h=>?_⟩
  ·have hk : i < a.kids.length:=by omega
   have hk' : i < b.kids.length:=by omega
   rw [oM _ hk,oM _ hk']
   have:=Ty.dy (List.getElem_mem hk)
   have hl:=Ty.kids_lt a
   refine ⟨by omega,by omega,ai (q7 _ _ (by omega)) ?_⟩
   simp only [pmr,pms]
   refine ⟨fun e=>⟨by unfold okI;omega,hn hk ?_⟩,fun e=>?_⟩
   ·rw [List.take_succ_eq_append_getElem hk,List.take_succ_eq_append_getElem hk',hI,e]
   ·rw [decide_eq_false (fun e'=>e (by subst e';rfl))]
  ·obtain rfl : i = a.kids.length:=by omega
   have e : a.kids = b.kids:=by
    rw [List.take_length] at hI
    rw [hI,h3',List.take_length]
   rw [decide_eq_true (Ty.all_eq h1 h2' e)]
 ·rw [decide_eq_false (fun e=>h2 (by rw [e]))]
 termination_by a.size
theorem Def_is (p : ProgT) (i : IdT) (hs : p.defs.length<=1000000000000) (md : D) : IS s58 [[md],i.enc,[.sl p.defs.length 31 (p.defs.flatMap DefT.enc)]] [(aj p i).enc,[vB (decide (cT p i))],[.sl p.defs.length 31 (p.defs.flatMap DefT.enc)]]:=by
 refine w58.is ?_
 unfold g58
 simp only [pmr]
 refine ja ?_
 refine cz p.defs.length (fun k=>[[md],[vI (k : Int)],[.sl p.defs.length 31 (p.defs.flatMap DefT.enc)],[md],i.enc,ku.enc]) (fun k=>∀ j (hj : j < p.defs.length),j < k->p.defs[j].id ≠ i) (fun _ _ h=>absurd h (Nat.not_lt_zero _)) rfl fun k next hi hI hn=>?_
 simp only [pmr,pms]
 refine ⟨fun h=>?_,fun h=>?_⟩
 ·have hk : k < p.defs.length:=by omega
  rw [iL _ hk]
  simp only [pmr,pms]
  refine ⟨by omega,fun e=>⟨by omega,?_⟩,fun e=>⟨by unfold okI;omega,hn hk fun j hj h=>?_⟩⟩
  ·obtain ⟨h1,h2⟩:=gd hk hI e
   rw [h2,decide_eq_true h1]
  ·by_cases e' : j = k
   ·subst e'
    exact e
   ·exact hI j hj (by omega)
 ·obtain rfl : k = p.defs.length:=by omega
  obtain ⟨h1,h2⟩:=iU fun j hj=>hI j hj hj
  rw [h2,decide_eq_false h1]
  rfl
section
variable {c : MkC} {s : MkS}
theorem mY {k : Nat} (hk : k < c.p.defs.length) (hm : 0 < c.p.mods.length) : IS xK [[vI k],mkL c s,dfL c] [[vB (decide (iR c k))],mkL c s,dfL c]:=by
 refine w107.is ?_
 unfold g107 mkL dfL
 simp only [pmr,pms]
 rw [iL _ hk,el_Md _ hm]
 simp only [pmr,pms]
 have e1:=gu hk
 have e2:=modA_eq hm
 refine ⟨by omega,fun h=>⟨fun h1=>?_,fun h1=>⟨by omega,?_⟩⟩,fun h=>?_⟩
 ·rw [decide_eq_true (show iR c k from ⟨h,.inl (by rw [e1];exact h1)⟩)]
 ·refine congrArg (fun b=>[[vB b],mkL c s,dfL c]) (decide_eq_decide.2 ?_)
  unfold iR
  rw [e1,e2]
  exact ⟨fun h2=>⟨h,.inr h2⟩,fun h2=>h2.2.resolve_left h1⟩
 ·rw [decide_eq_false (fun hv=>h hv.1)]
theorem of_is {kind : Int} {frm : Nat} (hm : 0 < c.p.mods.length) (hd : 0 < c.p.defs.length) (hl : c.p.defs.length<=1000) (hf : frm<=1000000000000) : IS s106 [[vI kind],[vI frm],mkL c s,dfL c] [[vI (ofG c kind frm)],mkL c s,dfL c]:=by
 refine w106.is ?_
 unfold g106 mkL dfL
 simp only [pmr]
 refine cz c.p.defs.length (fun i=>[[vI kind],[vI frm],[vI (c.p.defs.length : Int)],[vI (i : Int)],mkL c s,dfL c]) (fun i=>ofG c kind frm = fl c kind frm i (c.p.defs.length - i)) rfl rfl fun i next hi hI hn=>?_
 unfold mkL dfL
 simp only [pmr]
 refine ⟨fun h=>?_,fun h=>?_⟩
 ·have hk : i < c.p.defs.length:=by omega
  have ht : (((frm : Int)+i).tmod (c.p.defs.length : Int)) = ((frm+i) % c.p.defs.length : Nat):=by
   rw [bV (by omega)];simp
  have hlt : (frm+i) % c.p.defs.length < c.p.defs.length:=Nat.mod_lt _ hd
  rw [x3 hk] at hI
  refine ja ?_
  rw [ht,Int.toNat_natCast,iL _ hlt]
  simp only [pmr,pms]
  rw [gu hlt] at hI
  have fin : ofG c kind frm = fl c kind frm (i+1) (c.p.defs.length - (i+1))->okI ((i : Int)+1)/\next [[vI kind],[vI frm],[vI (c.p.defs.length : Int)],[vI ((i : Int)+1)],mkL c s,dfL c]:=fun e=>⟨by unfold okI;omega,hn hk e⟩
  refine ⟨by unfold okI;omega,by omega,by omega,fun h1=>ai (mY hlt hm) ?_,fun h1=>?_⟩
  ·unfold mkL dfL
   simp only [pmr]
   refine ⟨fun h2=>?_,fun h2=>fin ?_⟩
   ·rw [if_pos ⟨h1,h2⟩] at hI
    rw [hI]
   ·rwa [if_neg (fun h=>h2 h.2)] at hI
  ·refine fin ?_
   rwa [if_neg (fun h=>h1 h.1)] at hI
 ·obtain rfl : i = c.p.defs.length:=by omega
  rw [hI,Nat.sub_self]
  rfl
theorem Ag {env : List Bnd} {t : Ty} (ht : ∀ b∈env,b.ty.size<=1000000000000) (hl : env.length<=1000000) : IS s78 [[bK env],t.enc] [[bK (dK env t)]]:=by
 refine w78.is ?_
 unfold g78 bK
 simp only [pmr]
 refine cz env.length (fun i=>[[.sl env.length 9 (env.flatMap Bnd.enc)],[vI (i : Int)],t.enc,[bK (dK (env.take i) t)]]) (fun _=>True) trivial rfl fun i next hi _ hn=>?_
 unfold bK
 simp only [pmr]
 refine ⟨fun h=>?_,fun h=>?_⟩
 ·have hk : i < env.length:=by omega
  refine ja ?_
  rw [BF _ hk]
  simp only [pmr,pms]
  have hf:=sK (t:=t) hk
  have:=yA (l:=env) (t:=t) i
  have hn':=hn hk trivial
  rw [hf] at hn'
  refine ⟨by omega,ai (q7 _ _ (ht _ (List.getElem_mem hk))) ?_⟩
  simp only [pmr]
  refine ⟨fun h1=>?_,fun h1=>?_⟩
  ·rw [if_pos h1] at hn'
   refine ⟨by omega,by unfold room;omega,by unfold okI;omega,?_⟩
   simpa [bK] using hn'
  ·rw [if_neg h1] at hn'
   exact ⟨by unfold okI;omega,hn'⟩
 ·obtain rfl : i = env.length:=by omega
  rw [List.take_length]
theorem var_is {b : Bnd} (hb : Bd 1 s) : IS s79 [b.enc,mkL c s,dfL c] (mkR c (Dm b s)):=by
 refine w79.is ?_
 unfold g79 mkL dfL
 simp only [pmr,pms]
 refine ai (eZ (kids:=[]) hb) ?_
 simp only [pmg,pmr,pms]
 rfl
theorem qH {env : List Bnd} {b : Bnd} (hl : env.length<=1000000) : IS s83 [[bK env],b.enc] [[bK (env++[b])]]:=by
 refine w83.is ?_
 unfold g83 bK
 simp only [pmr]
 refine ⟨by unfold room;omega,by unfold room;omega,?_⟩
 simp
end
def p5 (c : MkC) (R n : Nat) : Prop:=∀ (t : Ty) (env : List Bnd) (depth : Int) (s : MkS),Fit c R n t env depth->Bd (9 ^ n) s->IS s49 [t.enc,[bK env],[vI depth],mkL c s,dfL c] (mkR c (au c n t env depth s))
theorem q1 (n : Nat) : (1 : Int)<=9 ^ n:=Int.pow_pos (by decide)
theorem oA (e : Ex) : [an e.id.shop,an e.id.seq,an e.id.index,an e.kind,an e.n,an e.ref.shop,an e.ref.seq,an e.ref.index,an e.ty.kind,an e.ty.df.shop,an e.ty.df.seq,an e.ty.df.index,
  .sl e.ty.kids.length 5 (e.ty.kids.flatMap Ty.enc),.sl e.kids.length 15 (e.kids.flatMap Ex.enc),.sl e.names.length 1 (e.names.map eP)] = e.enc:=(Ex.ay e).symm
theorem qZ (l : List Ex) (e : Ex) : l.flatMap Ex.enc++[an e.id.shop,an e.id.seq,an e.id.index,an e.kind,an e.n,an e.ref.shop,an e.ref.seq,an e.ref.index,an e.ty.kind,an e.ty.df.shop,an e.ty.df.seq,an e.ty.df.index,
  .sl e.ty.kids.length 5 (e.ty.kids.flatMap Ty.enc),.sl e.kids.length 15 (e.kids.flatMap Ex.enc),.sl e.names.length 1 (e.names.map eP)] = (l++[e]).flatMap Ex.enc:=by rw [oA];simp
def exC (e : Ex) : List D:=[an e.id.shop,an e.id.seq,an e.id.index,an e.kind,an e.n,an e.ref.shop,an e.ref.seq,an e.ref.index,an e.ty.kind,an e.ty.df.shop,an e.ty.df.seq,an e.ty.df.index,
  .sl e.ty.kids.length 5 (e.ty.kids.flatMap Ty.enc),.sl e.kids.length 15 (e.kids.flatMap Ex.enc),.sl e.names.length 1 (e.names.map eP)]
theorem kr (e : Ex) : exC e = e.enc:=(Ex.ay e).symm
section
variable {c : MkC} {s : MkS} {k n : Int}
theorem og (e : Ex) (hb : Bd 1 s) : IS s81 [[vI k],[vI n],[.sl 1 15 (exC e)],mkL c s,dfL c] (mkR c (aR k n [e] s)):=by
 have:=eZ (c:=c) (k:=k) (n:=n) (kids:=[e]) hb
 rw [kr]
 simpa using this
theorem rW (e f : Ex) (hb : Bd 1 s) : IS s81 [[vI k],[vI n],[.sl 2 15 (exC e++exC f)],mkL c s,dfL c] (mkR c (aR k n [e,f] s)):=by
 have:=eZ (c:=c) (k:=k) (n:=n) (kids:=[e,f]) hb
 rw [kr,kr]
 simpa using this
theorem x5 (e f g : Ex) (hb : Bd 1 s) : IS s81 [[vI k],[vI n],[.sl 3 15 (exC e++(exC f++exC g))],mkL c s,dfL c] (mkR c (aR k n [e,f,g] s)):=by
 have:=eZ (c:=c) (k:=k) (n:=n) (kids:=[e,f,g]) hb
 rw [kr,kr,kr]
 simpa using this
end
section
variable {c : MkC} {R n : Nat} {t : Ty} {env : List Bnd} {x depth : Int} {s : MkS}
theorem CK (h : t.size<=1000) : (t.kids.headD ty0).size<=1000:=by
 cases hk : t.kids with
 | nil=>simp [ty0,Ty.size,Ty.sizes]
 | cons a l =>
  have:=Ty.dy (t:=t) (k:=a) (by rw [hk];exact List.mem_cons_self ..)
  show a.size<=1000
  omega
theorem AV (hc : Ctx c R) (i : IdT) {z : SlotT} (hz : z∈(aj c.p i).slots) : z.ty.size<=1000:=by
 rcases ry c.p i with e | e
 ·rw [e] at hz;cases hz
 ·exact hc.sty _ e _ hz
theorem sx (hc : Ctx c R) (hg : p5 c R n) {d : Int} {ts : List Ty} (st : Nat->List Ex->MkS->St') (z : List Ex×MkS) (hz : eK (au c n) env d ts s = z) (hb : Bd (ts.length * 9 ^ n+1) s) (hk : ∀ u∈ts,Fit c R n u env d) {B : (St'->Prop)->St'->Prop} {s0 : St'} (e0 : s0 = st 0 [] s)
  (h : ∀ (i : Nat) (dn : List Ex) (s1 : MkS) (next : St'->Prop),i<=ts.length->dn.length = i ->
   (∀ hk : i < ts.length,IS s49 [ts[i].enc,[bK env],[vI d],mkL c s1,dfL c] (mkR c (au c n ts[i] env d s1))/\next (st (i+1) (dn++[(au c n ts[i] env d s1).1]) (au c n ts[i] env d s1).2)) ->
   (i = ts.length->z.1 = dn/\z.2 = s1)->B next (st i dn s1)) : Lp B s0:=by
 have hq:=q1 n
 refine lT (σ:=Nat×List Ex×MkS) (fun y=>st y.1 y.2.1 y.2.2) (fun y=>ts.length - y.1)
  (fun y=>y.1<=ts.length/\y.2.1.length = y.1/\z = kJ y.2.1 (eK (au c n) env d (ts.drop y.1) y.2.2)/\Bd ((ts.length - y.1 : Nat) * 9 ^ n+1) y.2.2) (0,[],s) ⟨Nat.zero_le _,rfl,by rw [List.drop_zero,hz];exact E0 z,hb⟩ e0 ?_
 rintro ⟨i,dn,s1⟩ next ⟨hi,hlen,hI,hB⟩ hn
 dsimp only at hi hlen hI hB hn ⊢
 refine h i dn s1 next hi hlen (fun hk1=>?_) (fun he=>?_)
 ·obtain ⟨m,hm⟩ : ∃ m,ts.length - i = m+1:=⟨ts.length - i - 1,by omega⟩
  rw [hm] at hB
  have e1 : ((m+1 : Nat) : Int) * 9 ^ n = m * 9 ^ n+9 ^ n:=by rw [Int.natCast_add,Int.add_mul];simp
  have h5 : (0 : Int)<=m * 9 ^ n:=Int.mul_nonneg (by omega) (by omega)
  refine ⟨hg _ env d s1 (hk _ (List.getElem_mem hk1)) (hB.mono (by omega)),?_⟩
  have hI':=zT hk1 hI
  have hB':=cO hc.gen.short n ts[i] env d s1 (m * 9 ^ n+1) (by omega) (hB.mono (by omega))
  exact hn (i+1,_,_) (by dsimp only;omega) ⟨by dsimp only;omega,by simp [hlen],hI',by dsimp only;rw [show ts.length - (i+1) = m by omega];exact hB'⟩
 ·have:=CJ he hI
  rw [this]
  exact ⟨rfl,rfl⟩
theorem EU (hc : Ctx c R) (hg : p5 c R n) (hf : Fit c R (n+1) t env depth) (hx : 0<=x/\x<=1000000) (hb : Bd (3 * 9 ^ n+1) s) : IS s80 [t.enc,[bK env],[vI x],[vI depth],mkL c s,dfL c] (mkR c (kH c (au c n) t env x depth s)):=by
 refine w80.is ?_
 unfold g80
 have hq:=q1 n
 have e29 : x.tmod 29 = x % 29:=bV hx.1
 have e9 : x.tmod 9 = x % 9:=bV hx.1
 have e2 : x.tmod 2 = x % 2:=bV hx.1
 have e3 : x.tmod 3 = x % 3:=bV hx.1
 simp only [pmr,pms,pmg,bK]
 refine ⟨fun h0=>?_,fun h0=>⟨fun h1=>?_,fun h1=>⟨fun h2=>?_,fun h2=>?_⟩⟩⟩
 ·refine ⟨by decide,by unfold okI;omega,di [[vI (EV x)],mkL c s,ex0.enc,dfL c] ?_ ?_⟩
  ·simp only [pmr,pmg]
   refine ⟨by decide,fun h=>⟨by decide,by unfold okI;omega,?_⟩,fun h=>?_⟩
   ·unfold EV;rw [if_pos h];rfl
   ·unfold EV;rw [if_neg h];rfl
  ·simp only [pmr,pmg]
   refine ai (eZ (kids:=[]) (hb.mono (by omega))) ?_
   simp only [pmr,pmg]
   unfold kH
   rw [if_pos h0]
 ·refine ⟨by decide,ai (eZ (kids:=[]) (hb.mono (by omega))) ?_⟩
  simp only [pmr,pmg]
  unfold kH
  rw [if_neg h0,if_pos h1]
 ·have hw:=hf.ok.wf
  obtain ⟨hk0,_⟩:=fJ hw h2
  have hd : t.kids.headD ty0 = t.kids[0]:=sB hk0
  have hs0:=CK hf.ts
  have el0:=oM t.kids hk0
  generalize hM : (if 0<=depth then (x.tmod 3).toNat else 0) = M
  have hM3 : M<=3:=by rw [<-hM];split <;> omega
  generalize hz : dX (au c n) (t.kids.headD ty0) env (depth - 1) M s = z
  have hr : kH c (au c n) t env x depth s = ((aR 11 0 z.1 z.2).1.DJ (t.kids.headD ty0),(aR 11 0 z.1 z.2).2):=by
   unfold kH
   rw [if_neg h0,if_neg h1,if_pos h2,hM]
   dsimp only
   rw [hz]
  rw [hr]
  have hzb : Bd 1 z.2:=by
   rw [<-hz]
   have:=le3 hM3 (show (0 : Int)<=9 ^ n by omega)
   exact sy (cO hc.gen.short n) hq (by omega) M s (hb.mono (by omega))
  refine di [mkL c z.2,t.enc,ex0.enc,[.sl z.1.length 15 (z.1.flatMap Ex.enc)],dfL c] ?_ ?_
  ·refine lT (σ:=Nat×List Ex×MkS) (fun y=>[[bK env],[vI x],[vI depth],[vI (y.1 : Int)],mkL c y.2.2,t.enc,ex0.enc,[.sl y.2.1.length 15 (y.2.1.flatMap Ex.enc)],dfL c]) (fun y=>M - y.1)
    (fun y=>y.1<=M/\y.2.1.length = y.1/\z = kJ y.2.1 (dX (au c n) (t.kids.headD ty0) env (depth - 1) (M - y.1) y.2.2)/\Bd ((M - y.1 : Nat) * 9 ^ n+1) y.2.2) (0,[],s) ⟨Nat.zero_le _,rfl,by rw [Nat.sub_zero,hz];exact E0 z,by
     have:=le3 hM3 (show (0 : Int)<=9 ^ n by omega);exact hb.mono (by rw [Nat.sub_zero];omega)⟩ rfl ?_
   rintro ⟨i,dn,s1⟩ next ⟨hi,hlen,hI,hB⟩ hn
   dsimp only at hi hlen hI hB hn ⊢
   simp only [pmr,pmg,bK]
   have stop : (M - i = 0\/¬ 0 < s1.left)->[[.sl c.p.mods.length 6 (c.p.mods.flatMap ModT.enc),aK c.l,vI s1.pos,vI s1.temp,vI s1.left,vI c.own,vI c.home.shop,vI c.home.seq,vI c.home.index,vI s1.name],t.enc,ex0.enc,[.sl dn.length 15 (dn.flatMap Ex.enc)],[.sl c.p.defs.length 31 (c.p.defs.flatMap DefT.enc)]] = [mkL c z.2,t.enc,ex0.enc,[.sl z.1.length 15 (z.1.flatMap Ex.enc)],dfL c]:=fun h=>by
    rw [zU hI h];rfl
   refine ⟨by decide,fun h=>⟨fun h3=>⟨fun h4=>?_,fun h4=>stop (.inr h4)⟩,fun h3=>stop (.inl ?_)⟩,fun h=>stop (.inl ?_)⟩
   ·rw [if_pos h3] at hM
    have hiM : i < M:=by omega
    obtain ⟨m,hm⟩ : ∃ m,M - i = m+1:=⟨M - i - 1,by omega⟩
    rw [hm] at hI hB
    have e1 : ((m+1 : Nat) : Int) * 9 ^ n = m * 9 ^ n+9 ^ n:=by rw [Int.natCast_add,Int.add_mul];simp
    have h5 : (0 : Int)<=m * 9 ^ n:=Int.mul_nonneg (by omega) (by omega)
    rw [el0,<-hd]
    have hdp:=hf.dp
    refine ⟨by omega,by unfold okI;omega,ai (hg _ env (depth - 1) s1 (hf.kid (fun m hm=>(fJ hm h2).2) hs0) (hB.mono (by omega))) ?_⟩
    simp only [pmr,pmg]
    have hI':=zV hI h4
    have hB':=cO hc.gen.short n (t.kids.headD ty0) env (depth - 1) s1 (m * 9 ^ n+1) (by omega) (hB.mono (by omega))
    generalize au c n (t.kids.headD ty0) env (depth - 1) s1 = r at hI' hB' ⊢
    refine ⟨by unfold room;omega,by unfold okI;omega,?_⟩
    have:=hn (i+1,dn++[r.1],r.2) (by dsimp only;omega) ⟨by dsimp only;omega,by simp [hlen],by dsimp only;rw [show M - (i+1) = m by omega];exact hI',by dsimp only;rw [show M - (i+1) = m by omega];exact hB'⟩
    rw [qZ]
    simpa [pmg,bK] using this
   ·rw [if_neg h3] at hM;omega
   ·split at hM <;> omega
  ·simp only [pmr,pmg]
   refine ai (eZ hzb) ?_
   simp only [pmr,pmg]
   refine ⟨by omega,?_⟩
   rw [el0,<-hd]
   simp only [pmr]
   rfl
 ·have hw:=hf.ok.wf
  obtain ⟨hw1,hw2,hw3⟩:=eY hw h0 h1 h2
  have hdp:=hf.dp
  have hs3:=hc.gen.short.the t.df
  have hdl:=hc.d1
  refine ai (Def_is c.p t.df (by omega) _) ?_
  simp only [pmr,pms]
  refine ⟨fun h3=>?_,fun h3=>?_⟩
  ·have hs0:=hw2 h3
   have hk : gP (aj c.p t.df) x depth = ((gP (aj c.p t.df) x depth).toNat : Int)/\(gP (aj c.p t.df) x depth).toNat < (aj c.p t.df).slots.length:=by
    have e : x.tmod ((aj c.p t.df).slots.length : Int) = x % ((aj c.p t.df).slots.length : Int):=bV hx.1
    have h1:=Int.emod_nonneg x (show ((aj c.p t.df).slots.length : Int) ≠ 0 by omega)
    have h2:=Int.emod_lt_of_pos x (show (0 : Int) < (aj c.p t.df).slots.length by omega)
    unfold gP
    split <;> omega
   have hr : kH c (au c n) t env x depth s = (((aR 9 (gP (aj c.p t.df) x depth) [(au c n ((((aj c.p t.df).slots.map SlotT.ty).getD (gP (aj c.p t.df) x depth).toNat ty0)) env (depth - 1) s).1] (au c n ((((aj c.p t.df).slots.map SlotT.ty).getD (gP (aj c.p t.df) x depth).toNat ty0)) env (depth - 1) s).2).1.setRef (aj c.p t.df).id),(aR 9 (gP (aj c.p t.df) x depth) [(au c n ((((aj c.p t.df).slots.map SlotT.ty).getD (gP (aj c.p t.df) x depth).toNat ty0)) env (depth - 1) s).1] (au c n ((((aj c.p t.df).slots.map SlotT.ty).getD (gP (aj c.p t.df) x depth).toNat ty0)) env (depth - 1) s).2).2):=by
    unfold kH
    rw [if_neg h0,if_neg h1,if_neg h2,if_pos h3]
   rw [hr]
   refine ⟨by omega,di [[bK env],[vI depth],[vI (gP (aj c.p t.df) x depth)],mkL c s,ex0.enc,(aj c.p t.df).enc,dfL c] ?_ ?_⟩
   ·simp only [pmr,pmg,bK]
    unfold gP
    exact ⟨fun h=>by rw [if_pos h];rfl,fun h=>by rw [if_neg h];rfl⟩
   ·generalize gP (aj c.p t.df) x depth = kk at hk ⊢
    obtain ⟨k,rfl⟩ : ∃ k : Nat,kk = k:=⟨_,hk.1⟩
    rw [Int.toNat_natCast] at hk ⊢
    have hk2:=hk.2
    have eg : ((aj c.p t.df).slots.map SlotT.ty).getD k ty0 = (aj c.p t.df).slots[k].ty:=by simp [List.getD_eq_getElem?_getD,List.getElem?_eq_getElem hk2]
    rw [eg]
    simp only [pmr,pms,pmg,bK]
    rw [lJ _ hk2]
    simp only [pmr,pms]
    have hm:=List.getElem_mem hk2
    refine ⟨by omega,by unfold okI;omega,ai (hg _ env (depth - 1) s (hf.kid (fun m hm'=>(eY hm' h0 h1 h2).2.2 _ hm) (AV hc _ hm)) (hb.mono (by omega))) ?_⟩
    have hB':=cO hc.gen.short n (aj c.p t.df).slots[k].ty env (depth - 1) s 1 (by omega) (hb.mono (by omega))
    generalize au c n (aj c.p t.df).slots[k].ty env (depth - 1) s = r at hB' ⊢
    simp only [pmr,pmg]
    refine ai (og r.1 hB') ?_
    simp only [pmr,pmg]
    rfl
  ·generalize hz : eK (au c n) env (depth - 1) ((aj c.p t.df).slots.map SlotT.ty) s = z
   have hr : kH c (au c n) t env x depth s = ((aR 7 0 z.1 z.2).1.setRef (aj c.p t.df).id,(aR 7 0 z.1 z.2).2):=by
    unfold kH
    rw [if_neg h0,if_neg h1,if_neg h2,if_neg h3]
    dsimp only
    rw [hz]
   rw [hr]
   have h3q:=le3 hs3 (show (0 : Int)<=9 ^ n by omega)
   have hzb : Bd 1 z.2:=by
    rw [<-hz]
    exact lD (cO hc.gen.short n) hq (by omega) _ s (hb.mono (by rw [List.length_map];omega))
   refine di [mkL c z.2,ex0.enc,(aj c.p t.df).enc,[.sl z.1.length 15 (z.1.flatMap Ex.enc)],dfL c] ?_ ?_
   ·refine sx hc hg (d:=depth - 1) (ts:=(aj c.p t.df).slots.map SlotT.ty) (s:=s) (fun i dn s1=>[[bK env],[vI depth],[vI (i : Int)],mkL c s1,ex0.enc,(aj c.p t.df).enc,[.sl dn.length 15 (dn.flatMap Ex.enc)],dfL c]) z hz (hb.mono (by rw [List.length_map];omega)) (fun u hu=>?_) rfl (fun i dn s1 next hi hlen hgo hend=>?_)
    ·obtain ⟨y,hy,rfl⟩:=List.mem_map.1 hu
     exact hf.kid (fun m hm'=>(eY hm' h0 h1 h2).2.2 _ hy) (AV hc _ hy)
    ·simp only [pmr,pms,pmg,bK]
     have hlm : ((aj c.p t.df).slots.map SlotT.ty).length = (aj c.p t.df).slots.length:=List.length_map ..
     refine ⟨fun h=>?_,fun h=>?_⟩
     ·have hk : i < (aj c.p t.df).slots.length:=by omega
      obtain ⟨hi1,hi2⟩:=hgo (by omega)
      rw [lJ _ hk]
      simp only [pmr,pms]
      rw [List.getElem_map] at hi1 hi2
      refine ⟨by omega,by unfold okI;omega,ai hi1 ?_⟩
      generalize au c n (aj c.p t.df).slots[i].ty env (depth - 1) s1 = r at hi2 ⊢
      simp only [pmr,pmg]
      rw [qZ]
      refine ⟨by unfold room;omega,by unfold okI;omega,?_⟩
      simpa [pmg,bK] using hi2
     ·obtain ⟨e1,e2⟩:=hend (by omega)
      rw [e1,e2]
   ·simp only [pmr,pmg]
    refine ai (eZ hzb) ?_
    simp only [pmr,pmg,pms]
    rfl
end
theorem ov : IS s41 [[vI 0,vI 0,vI 0,vI 0,.sl 0 5 []]] [[vI 2,vI 0,vI 0,vI 0],[.sl 1 5 [vI 0,vI 0,vI 0,vI 0,.sl 0 5 []]]]:=by
 have:=BX ty0
 rwa [fK] at this
section
variable {c : MkC} {R n : Nat} {t : Ty} {env : List Bnd} {x depth : Int} {s : MkS}
theorem p5.list0 (hg : p5 c R n) {d : Int} (hf : Fit c R n (bF ty0) env d) (hb : Bd (9 ^ n) s) : IS s49 [[vI 2,vI 0,vI 0,vI 0,.sl 1 5 [vI 0,vI 0,vI 0,vI 0,.sl 0 5 []]],[bK env],[vI d],mkL c s,dfL c] (mkR c (au c n (bF ty0) env d s)):=by
 have:=hg _ env d s hf hb
 rwa [qT] at this
theorem FV (g : GX) (u : Ty) (d : Int) (k : Int) : lN g k u env d s = aR 4 k [(g u env d s).1,(g u env d (g u env d s).2).1] (g u env d (g u env d s).2).2:=rfl
theorem vg (h : 0 < env.length) (hx : 0<=x) : ∃ k : Nat,x.tmod (env.length : Int) = k/\∃ hk : k < env.length,jA env x = env[k]:=by
 have e : x.tmod (env.length : Int) = x % (env.length : Int):=bV hx
 have h1:=Int.emod_nonneg x (show (env.length : Int) ≠ 0 by omega)
 have h2:=Int.emod_lt_of_pos x (show (0 : Int) < env.length by omega)
 refine ⟨(x % (env.length : Int)).toNat,by omega,by omega,?_⟩
 unfold jA
 rw [e,List.getD_eq_getElem?_getD,List.getElem?_eq_getElem (by omega)]
 rfl
theorem Bi (hc : Ctx c R) (hg : p5 c R n) (hf : Fit c R (n+1) t env depth) (h0 : 0 < depth) (hx : 0<=x/\x<=1000000) (hb : Bd (3 * 9 ^ n+1) s) : IS s87 [t.enc,[bK env],[vI x],[vI depth],mkL c s,dfL c] (mkR c (Xe.opG c (au c n) t env x depth s)):=by
 refine w87.is ?_
 unfold g87
 have hq:=q1 n
 have e6 : x.tmod 6 = x % 6:=bV hx.1
 have e5 : x.tmod 5 = x % 5:=bV hx.1
 have e2 : x.tmod 2 = x % 2:=bV hx.1
 have d6 : x.tdiv 6 = x / 6:=iw hx.1
 have d2 : x.tdiv 2 = x / 2:=iw hx.1
 have hdp:=hf.dp
 have hR2:=hc.gen.R2
 have bd:=cO hc.gen.short n
 simp only [pmr,pms,pmg,bK]
 refine ⟨fun k0=>?_,fun k0=>⟨fun k1=>?_,fun k1=>?_⟩⟩
 ·refine ⟨by decide,fun h=>?_,fun h=>?_⟩
  ·refine ai ov ?_
   simp only [pmr]
   have hf1:=hf.any h0 (kO (p:=c.p) hR2) (u:=bF ty0) (by decide) (j:=1) (by omega) (by omega)
   refine ⟨by unfold okI;omega,ai (hg.list0 hf1 (hb.mono (by omega))) ?_⟩
   have hB:=bd (bF ty0) env (depth - 1) s 1 (by omega) (hb.mono (by omega))
   rw [show Xe.opG c (au c n) t env x depth s = aR 4 11 [(au c n (bF ty0) env (depth - 1) s).1] (au c n (bF ty0) env (depth - 1) s).2 by unfold Xe.opG;rw [if_pos k0,if_pos h];rfl]
   generalize au c n (bF ty0) env (depth - 1) s = r at hB ⊢
   simp only [pmr,pmg]
   refine ai (og r.1 hB) ?_
   simp only [pmr,pmg]
  ·have hf1:=hf.any h0 (hf.wt h0) hf.ts (j:=1) (by omega) (by omega)
   refine ⟨by unfold okI;omega,ai (hg _ env _ s hf1 (hb.mono (by omega))) ?_⟩
   have hB:=bd t env (depth - 1) s (9 ^ n+1) (by omega) (hb.mono (by omega))
   rw [show Xe.opG c (au c n) t env x depth s = lN (au c n) (x.tmod 5) t env (depth - 1) s by unfold Xe.opG;rw [if_pos k0,if_neg h],FV]
   generalize au c n t env (depth - 1) s = r at hB ⊢
   simp only [pmr,pmg]
   refine ⟨by decide,by omega,by unfold okI;omega,ai (hg _ env _ r.2 hf1 (hB.mono (by omega))) ?_⟩
   have hB2:=bd t env (depth - 1) r.2 1 (by omega) (hB.mono (by omega))
   generalize au c n t env (depth - 1) r.2 = r2 at hB2 ⊢
   simp only [pmr,pmg]
   have ec : cell (el [vI 0,vI 1,vI 2,vI 3,vI 4] 1 (x.tmod 5).toNat) 0 = vI (x.tmod 5):=by
    have : x.tmod 5 = 0\/x.tmod 5 = 1\/x.tmod 5 = 2\/x.tmod 5 = 3\/x.tmod 5 = 4:=by omega
    rcases this with e | e | e | e | e <;> rw [e] <;> rfl
   rw [ec]
   refine ai (rW r.1 r2.1 hB2) ?_
   simp only [pmr,pmg]
 ·refine ⟨by decide,fun h=>?_,fun h=>?_⟩
  ·have hf1:=hf.any h0 (hf.wt h0) hf.ts (j:=1) (by omega) (by omega)
   refine ⟨by unfold okI;omega,ai (hg _ env _ s hf1 (hb.mono (by omega))) ?_⟩
   have hB:=bd t env (depth - 1) s 1 (by omega) (hb.mono (by omega))
   rw [show Xe.opG c (au c n) t env x depth s = aR 4 9 [(au c n t env (depth - 1) s).1] (au c n t env (depth - 1) s).2 by unfold Xe.opG;rw [if_neg k0,if_pos k1,if_pos h];rfl]
   generalize au c n t env (depth - 1) s = r at hB ⊢
   simp only [pmr,pmg]
   refine ai (og r.1 hB) ?_
   simp only [pmr,pmg]
  ·obtain ⟨ke,he1,he2,he3⟩:=vg (env:=env) hf.e0 (show 0<=x.tdiv 6 by omega)
   refine di [[bK env],[vI x],[vI depth],[vI (if x.tmod 6 = 2 then 6 else 5)],mkL c s,t.enc,ex0.enc,ty0.enc,dfL c] ?_ ?_
   ·rw [fK]
    refine ⟨by decide,?_⟩
    simp only [pmr]
    exact ⟨fun h=>by rw [if_pos h];rfl,fun h=>by rw [if_neg h];rfl⟩
   simp only [pmr,pmg,bK]
   refine di [[bK env],[vI x],[vI depth],[vI (if x.tmod 6 = 3 then 6 else if x.tmod 6 = 2 then 6 else 5)],mkL c s,t.enc,ex0.enc,(if x.tmod 6 = 3 then (jA env (x.tdiv 6)).ty else ty0).enc,dfL c] ?_ ?_
   ·refine ⟨by decide,?_⟩
    simp only [pmr]
    refine ⟨fun h=>⟨⟨by decide,by unfold okI;omega⟩,by omega,by omega,?_⟩,fun h=>by rw [if_neg h,if_neg h];rfl⟩
    rw [if_pos h,if_pos h,he1,Int.toNat_natCast,BF _ he2,he3]
    simp only [pms]
    rfl
   simp only [pmr,pmg,bK]
   refine di [[bK env],[vI depth],[vI (tu x)],mkL c s,ex0.enc,(gK t env x).enc,dfL c] ?_ ?_
   ·refine ⟨by decide,?_⟩
    simp only [pmr]
    unfold tu gK
    refine ⟨fun h=>⟨by decide,by unfold okI;omega,by omega,?_⟩,fun h=>by rw [if_neg h,if_neg h];rfl⟩
    have ec : cell (el [vI 7,vI 8] 1 (x.tmod 6 - 4).toNat) 0 = vI (7+(x.tmod 6 - 4)):=by
     have : x.tmod 6 - 4 = 0\/x.tmod 6 - 4 = 1:=by omega
     rcases this with e | e <;> rw [e] <;> rfl
    rw [ec,if_pos h,if_pos h]
    rfl
   simp only [pmr,pmg,bK]
   have hu : wfT c.p R (gK t env x)/\(gK t env x).size<=1000:=by
    unfold gK
    split
    ·exact ⟨hf.wt h0,hf.ts⟩
    split
    ·rw [he3];exact ⟨hf.ew _ (List.getElem_mem he2),hf.es _ (List.getElem_mem he2)⟩
    ·exact ⟨lX hR2 (.inl rfl),by decide⟩
   rw [show Xe.opG c (au c n) t env x depth s = lN (au c n) (tu x) (gK t env x) env (depth - 1) s by unfold Xe.opG;rw [if_neg k0,if_pos k1,if_neg h],FV]
   generalize gK t env x = u at hu ⊢
   have hf1:=hf.any h0 hu.1 hu.2 (j:=1) (by omega) (by omega)
   refine ⟨by unfold okI;omega,ai (hg _ env _ s hf1 (hb.mono (by omega))) ?_⟩
   have hB:=bd u env (depth - 1) s (9 ^ n+1) (by omega) (hb.mono (by omega))
   generalize au c n u env (depth - 1) s = r at hB ⊢
   simp only [pmr,pmg]
   refine ⟨by unfold okI;omega,ai (hg _ env _ r.2 hf1 (hB.mono (by omega))) ?_⟩
   have hB2:=bd u env (depth - 1) r.2 1 (by omega) (hB.mono (by omega))
   generalize au c n u env (depth - 1) r.2 = r2 at hB2 ⊢
   simp only [pmr,pmg]
   refine ai (rW r.1 r2.1 hB2) ?_
   simp only [pmr,pmg]
 ·by_cases h : t.kind = 2/\x.tmod 2 = 0
  ·refine ja ?_
   refine ⟨fun _=>⟨by decide,fun _=>?_,fun h'=>absurd h.2 h'⟩,fun h'=>absurd h.1 h'⟩
   have hf1:=hf.any h0 (hf.wt h0) hf.ts (j:=1) (by omega) (by omega)
   refine ⟨by unfold okI;omega,ai (hg _ env _ s hf1 (hb.mono (by omega))) ?_⟩
   have hB:=bd t env (depth - 1) s (9 ^ n+1) (by omega) (hb.mono (by omega))
   rw [show Xe.opG c (au c n) t env x depth s = lN (au c n) 10 t env (depth - 1) s by unfold Xe.opG;rw [if_neg k0,if_neg k1,if_pos h],FV]
   generalize au c n t env (depth - 1) s = r at hB ⊢
   simp only [pmr,pmg]
   refine ⟨by unfold okI;omega,ai (hg _ env _ r.2 hf1 (hB.mono (by omega))) ?_⟩
   have hB2:=bd t env (depth - 1) r.2 1 (by omega) (hB.mono (by omega))
   generalize au c n t env (depth - 1) r.2 = r2 at hB2 ⊢
   simp only [pmr,pmg]
   refine ai (rW r.1 r2.1 hB2) ?_
   simp only [pmr,pmg]
  ·refine di [[bK env],[vI x],[vI depth],mkL c s,t.enc,ex0.enc,dfL c] ?_ ?_
   ·refine ⟨fun h1=>⟨by decide,?_⟩,fun _=>rfl⟩
    exact ⟨fun h2=>absurd ⟨h1,h2⟩ h,fun _=>rfl⟩
   simp only [pmr,pmg,bK]
   refine ⟨⟨by decide,by unfold okI;omega⟩,ai (EU hc hg hf (x:=x.tdiv 2) (by omega) hb) ?_⟩
   rw [show Xe.opG c (au c n) t env x depth s = kH c (au c n) t env (x.tdiv 2) depth s by unfold Xe.opG;rw [if_neg k0,if_neg k1,if_neg h]]
   simp only [pmr,pmg]
end
section
variable {c : MkC} {R n : Nat} {t : Ty} {env : List Bnd} {x depth : Int} {s : MkS}
theorem tR {i : Nat} (h : i < c.p.defs.length) : eW c t i (c.p.defs.length - i) = if ((bG c i).kind = 2/\iR c i)/\(bG c i).result = t then some i else eW c t (i+1) (c.p.defs.length - (i+1)):=by
 obtain ⟨m,hm⟩ : ∃ m,c.p.defs.length - i = m+1:=⟨c.p.defs.length - i - 1,by omega⟩
 rw [hm,eW,show c.p.defs.length - (i+1) = m by omega]
theorem DC (hc : Ctx c R) (hb : Bd (4 * 9 ^ n+4) s) {l : List SlotT} (hl : l.length<=3) : Bd ((l.map SlotT.ty).length * 9 ^ n+1) s:=by
 have hq:=q1 n
 have:=le3 hl (show (0 : Int)<=9 ^ n by omega)
 exact hb.mono (by rw [List.length_map];omega)
theorem BM (hc : Ctx c R) (hg : p5 c R n) (hf : Fit c R (n+1) t env depth) (h0 : 0 < depth) (hx : 0<=x/\x<=1000000) (hb : Bd (4 * 9 ^ n+4) s) : IS s86 [t.enc,[bK env],[vI x],[vI depth],mkL c s,dfL c] (mkR c (oP c (au c n) t env x depth s)):=by
 refine w86.is ?_
 unfold g86
 have hq:=q1 n
 have hdp:=hf.dp
 have hdl:=hc.d1
 simp only [pmr,pmg,bK]
 refine ja ?_
 refine cz c.p.defs.length (fun i=>[[bK env],[vI x],[vI depth],[vI (i : Int)],mkL c s,t.enc,ex0.enc,dfL c]) (fun i=>eW c t 0 c.p.defs.length = eW c t i (c.p.defs.length - i)) rfl rfl fun i next hi hI hn=>?_
 simp only [pmr,pmg,bK]
 refine ⟨fun h=>?_,fun h=>?_⟩
 ·have hk : i < c.p.defs.length:=by omega
  rw [tR hk] at hI
  have fin : ¬ (((bG c i).kind = 2/\iR c i)/\(bG c i).result = t)->okI ((i : Int)+1)/\next [[bK env],[vI x],[vI depth],[vI ((i : Int)+1)],mkL c s,t.enc,ex0.enc,dfL c]:=fun e=>⟨by unfold okI;omega,hn hk (by rwa [if_neg e] at hI)⟩
  refine ja ?_
  rw [iL _ hk]
  have ed:=gu hk
  rw [<-ed]
  simp only [pmr,pms]
  refine ⟨by omega,fun h1=>ai (mY hk hc.m0) ?_,fun h1=>fin fun e=>h1 e.1.1⟩
  simp only [pmr,pmg]
  refine ⟨fun h2=>?_,fun h2=>fin fun e=>h2 e.1.2⟩
  have hm : bG c i∈c.p.defs:=by rw [ed];exact List.getElem_mem hk
  refine ai (q7 _ _ (by have:=hc.rty _ hm;omega)) ?_
  simp only [pmr]
  refine ⟨fun h3=>?_,fun h3=>fin fun e=>h3 e.2⟩
  rw [if_pos ⟨⟨h1,h2⟩,h3⟩] at hI
  have hs3:=hc.gen.short.at (c:=c) i
  generalize hz : eK (au c n) env (depth - 1) ((bG c i).slots.map SlotT.ty) s = z
  have hr : oP c (au c n) t env x depth s = ((aR 3 0 z.1 z.2).1.setRef (bG c i).id,(aR 3 0 z.1 z.2).2):=by
   unfold oP
   rw [hI]
   dsimp only
   rw [hz]
  rw [hr]
  have hb1:=DC hc hb hs3
  have hzb : Bd 1 z.2:=by
   rw [<-hz]
   exact lD (cO hc.gen.short n) hq (by omega) _ s hb1
  refine di [mkL c z.2,ex0.enc,(bG c i).enc,[.sl z.1.length 15 (z.1.flatMap Ex.enc)],dfL c] ?_ ?_
  ·refine sx hc hg (d:=depth - 1) (ts:=(bG c i).slots.map SlotT.ty) (s:=s) (fun i' dn s1=>[[bK env],[vI depth],[vI (i' : Int)],mkL c s1,ex0.enc,(bG c i).enc,[.sl dn.length 15 (dn.flatMap Ex.enc)],dfL c]) z hz hb1 (fun u hu=>?_) rfl (fun j dn s1 next hi hlen hgo hend=>?_)
   ·obtain ⟨y,hy,rfl⟩:=List.mem_map.1 hu
    exact hf.any h0 (hc.gen.slot _ hm _ hy) (hc.sty _ hm _ hy) (by omega) (by omega)
   ·simp only [pmr,pms,pmg,bK]
    have hlm : ((bG c i).slots.map SlotT.ty).length = (bG c i).slots.length:=List.length_map ..
    refine ⟨fun h=>?_,fun h=>?_⟩
    ·have hk : j < (bG c i).slots.length:=by omega
     obtain ⟨hi1,hi2⟩:=hgo (by omega)
     rw [lJ _ hk]
     simp only [pmr,pms]
     rw [List.getElem_map] at hi1 hi2
     refine ⟨by omega,by unfold okI;omega,ai hi1 ?_⟩
     generalize au c n (bG c i).slots[j].ty env (depth - 1) s1 = r at hi2 ⊢
     simp only [pmr,pmg]
     rw [qZ]
     refine ⟨by unfold room;omega,by unfold okI;omega,?_⟩
     simpa [pmg,bK] using hi2
    ·obtain ⟨e1,e2⟩:=hend (by omega)
     rw [e1,e2]
  ·simp only [pmr,pmg]
   refine ai (eZ hzb) ?_
   simp only [pmr,pmg,pms]
   rfl
 ·obtain rfl : i = c.p.defs.length:=by omega
  refine ai (Bi hc hg hf h0 hx (hb.mono (by omega))) ?_
  rw [show oP c (au c n) t env x depth s = Xe.opG c (au c n) t env x depth s by unfold oP;rw [hI,Nat.sub_self];rfl]
  simp only [pmr,pmg]
theorem sM {xn i : Nat} (h : i < c.p.defs.length) : ej c t xn i (c.p.defs.length - i) = match (if (bG c ((xn+i) % c.p.defs.length)).kind = 0/\iR c ((xn+i) % c.p.defs.length) then jQ (bG c ((xn+i) % c.p.defs.length)).slots t else none) with
  | some j=>some ((xn+i) % c.p.defs.length,j)
  | none=>ej c t xn (i+1) (c.p.defs.length - (i+1)):=by
 obtain ⟨m,hm⟩ : ∃ m,c.p.defs.length - i = m+1:=⟨c.p.defs.length - i - 1,by omega⟩
 rw [hm,ej,show c.p.defs.length - (i+1) = m by omega]
 rfl
theorem zo {l : List SlotT} {j : Nat} (hj : j < l.length) (h1 : ∀ k (hk : k < l.length),k < j->l[k].ty ≠ t) (h2 : l[j].ty = t) : jQ l t = some j:=by
 unfold jQ
 rw [List.findIdx?_eq_some_iff_getElem]
 exact ⟨hj,by simpa using h2,fun k hk=>by simpa using h1 k (by omega) hk⟩
theorem xG {l : List SlotT} (h1 : ∀ k (hk : k < l.length),l[k].ty ≠ t) : jQ l t = none:=by
 unfold jQ
 rw [List.findIdx?_eq_none_iff]
 intro y hy
 obtain ⟨k,hk,rfl⟩:=List.mem_iff_getElem.1 hy
 simpa using h1 k hk
theorem Fw (hc : Ctx c R) (hg : p5 c R n) (hf : Fit c R (n+1) t env depth) (h0 : 0 < depth) (hx : 0<=x/\x<=1000000) (hb : Bd (4 * 9 ^ n+4) s) : IS s85 [t.enc,[bK env],[vI x],[vI depth],mkL c s,dfL c] (mkR c (ko c (au c n) t env x depth s)):=by
 refine w85.is ?_
 unfold g85
 have hq:=q1 n
 have hdp:=hf.dp
 have hdl:=hc.d1
 have hd0:=hc.d0
 simp only [pmr,pmg,bK]
 obtain ⟨xn,rfl⟩ : ∃ k : Nat,x = k:=⟨x.toNat,by omega⟩
 refine ja ?_
 refine cz c.p.defs.length (fun i=>[[bK env],[vI xn],[vI depth],[vI (i : Int)],mkL c s,t.enc,ex0.enc,dfL c]) (fun i=>ej c t xn 0 c.p.defs.length = ej c t xn i (c.p.defs.length - i)) rfl rfl fun i next hi hI hn=>?_
 simp only [pmr,pmg,bK]
 refine ⟨fun h=>?_,fun h=>?_⟩
 ·have hk : i < c.p.defs.length:=by omega
  have ht : (((xn : Int)+i).tmod (c.p.defs.length : Int)) = ((xn+i) % c.p.defs.length : Nat):=by
   rw [bV (by omega)];simp
  have hlt : (xn+i) % c.p.defs.length < c.p.defs.length:=Nat.mod_lt _ hd0
  rw [sM hk] at hI
  rw [ht,Int.toNat_natCast,iL _ hlt,<-gu hlt]
  have hm : bG c ((xn+i) % c.p.defs.length)∈c.p.defs:=by rw [gu hlt];exact List.getElem_mem hlt
  generalize (xn+i) % c.p.defs.length = k at hI hlt hm ⊢
  have fin : (¬ ((bG c k).kind = 0/\iR c k)\/jQ (bG c k).slots t = none)->okI ((i : Int)+1)/\next [[bK env],[vI xn],[vI depth],[vI ((i : Int)+1)],mkL c s,t.enc,ex0.enc,dfL c]:=fun e=>⟨by unfold okI;omega,hn hk (by
   rcases e with e | e
   ·rwa [if_neg e] at hI
   ·rw [e,ite_self] at hI;exact hI)⟩
  refine ja ?_
  refine ⟨by unfold okI;omega,by omega,by omega,?_⟩
  refine cz (bG c k).slots.length (fun j=>[[bK env],[vI xn],[vI depth],[vI (i : Int)],[vI (k : Int)],[vI (j : Int)],mkL c s,t.enc,ex0.enc,(bG c k).enc,dfL c]) (fun j=>∀ q (hq : q < (bG c k).slots.length),q < j->(bG c k).slots[q].ty ≠ t) (fun _ _ h=>absurd h (Nat.not_lt_zero _)) rfl fun j x9 hj hJ hn2=>?_
  simp only [pmr,pmg,pms,bK]
  have hs3:=hc.gen.short.at (c:=c) k
  refine ⟨fun h2=>⟨fun h3=>ai (mY hlt hc.m0) ?_,fun h3=>fin (.inl fun e=>h3 e.1)⟩,fun h2=>?_⟩
  ·have hjk : j < (bG c k).slots.length:=by omega
   simp only [pmr,pmg]
   refine ⟨fun h4=>?_,fun h4=>fin (.inl fun e=>h4 e.2)⟩
   have hmem:=List.getElem_mem hjk
   rw [lJ _ hjk]
   simp only [pms]
   refine ⟨by omega,ai (q7 _ _ (by have:=hc.sty _ hm _ hmem;omega)) ?_⟩
   simp only [pmr]
   refine ⟨fun h5=>?_,fun h5=>⟨by unfold okI;omega,hn2 hjk fun q hq hlt=>?_⟩⟩
   ·rw [if_pos ⟨h3,h4⟩,zo hjk hJ h5] at hI
    dsimp only at hI
    have hr : ko c (au c n) t env xn depth s = ((aR 8 j [(au c n (ofT (bG c k).id) env (depth - 1) s).1] (au c n (ofT (bG c k).id) env (depth - 1) s).2).1.setRef (bG c k).id,(aR 8 j [(au c n (ofT (bG c k).id) env (depth - 1) s).1] (au c n (ofT (bG c k).id) env (depth - 1) s).2).2):=by
     unfold ko
     rw [Int.toNat_natCast,hI]
    rw [hr]
    refine ai (vD _) ?_
    simp only [pmr]
    have hf1 : Fit c R n (ofT (bG c k).id) env (depth - 1):=hf.any h0 (hc.gen.own _ hm (.inl h3)) (show (ofT (bG c k).id).size<=1000 by simp [ofT,Ty.size,Ty.sizes]) (by omega) (by omega)
    refine ⟨by unfold okI;omega,ai (hg _ env _ s hf1 (hb.mono (by omega))) ?_⟩
    have hB:=cO hc.gen.short n (ofT (bG c k).id) env (depth - 1) s 1 (by omega) (hb.mono (by omega))
    generalize au c n (ofT (bG c k).id) env (depth - 1) s = r at hB ⊢
    simp only [pmr,pmg]
    refine ai (og r.1 hB) ?_
    simp only [pmr,pmg,pms]
    rfl
   ·by_cases e : q = j
    ·subst e;exact h5
    ·exact hJ q hq (by omega)
  ·obtain rfl : j = (bG c k).slots.length:=by omega
   exact fin (.inr (xG fun q hq=>hJ q hq hq))
 ·obtain rfl : i = c.p.defs.length:=by omega
  refine ai (Bi hc hg hf h0 hx (hb.mono (by omega))) ?_
  rw [show ko c (au c n) t env xn depth s = Xe.opG c (au c n) t env xn depth s by unfold ko;rw [Int.toNat_natCast,hI,Nat.sub_self];rfl]
  simp only [pmr,pmg]
end
section
variable {c : MkC} {R n : Nat} {t : Ty} {env : List Bnd} {x depth : Int} {s : MkS}
theorem rU {kind : Int} {frm : Nat} (hd : 0 < c.p.defs.length) : ∀ m i,fl c kind frm i m = -1\/∃ k : Nat,fl c kind frm i m = k/\k < c.p.defs.length/\(bG c k).kind = kind/\iR c k
 | 0,i=>.inl rfl
 | m+1,i=>by
   rw [fl]
   split
   · rename_i h
     exact .inr ⟨_,rfl,Nat.mod_lt _ hd,h⟩
   · exact rU hd m (i+1)
theorem CE (l : List ByteArray) (e : ByteArray) : l.map eP++[vS e] = (l++[e]).map eP:=by simp [eP]
theorem yc (hc : Ctx c R) (hg : p5 c R n) (hf : Fit c R (n+1) t env depth) (h0 : 0 < depth) (hx : 0<=x/\x<=1000000) (hb : Bd (4 * 9 ^ n+4) s) : IS s84 [t.enc,[bK env],[vI x],[vI depth],mkL c s,dfL c] (mkR c (j6 c (au c n) t env x depth s)):=by
 refine w84.is ?_
 unfold g84
 have hq:=q1 n
 have hdp:=hf.dp
 have hdl:=hc.d1
 have hd0:=hc.d0
 simp only [pmr,pmg,bK]
 obtain ⟨xn,rfl⟩ : ∃ k : Nat,x = k:=⟨x.toNat,by omega⟩
 refine ai (of_is hc.m0 hc.d0 (by omega) (by omega)) ?_
 simp only [pmr,pmg]
 refine ⟨fun h=>?_,fun h=>?_⟩
 · refine ai (Bi hc hg hf h0 hx (hb.mono (by omega))) ?_
   rw [show j6 c (au c n) t env xn depth s = Xe.opG c (au c n) t env xn depth s by unfold j6;rw [Int.toNat_natCast,if_pos h]]
   simp only [pmr,pmg]
 · obtain ⟨k,hk,hlt,hkind,hvis⟩ : ∃ k : Nat,ofG c 1 xn = k/\k < c.p.defs.length/\(bG c k).kind = 1/\iR c k:=by
     rcases rU (kind:=1) (frm:=xn) hd0 c.p.defs.length 0 with e | e
     · exact absurd e (by intro e;apply h;unfold ofG;omega)
     · exact e
   have hm : bG c k∈c.p.defs:=by rw [gu hlt];exact List.getElem_mem hlt
   have hs3:=hc.gen.short.at (c:=c) k
   rw [show j6 c (au c n) t env xn depth s = (let d:=bG c k
    let r:=au c n (ofT d.id) env (depth - 2) s
    let q:=aR 10 0 [] r.2
    let z:=aT (au c n) t env (depth - 1) q.1.id d.slots 0 q.2
    ((q.1.setRef d.id).cQ (r.1::z.1.1) z.1.2,z.2)) by unfold j6;rw [Int.toNat_natCast,if_neg h,hk,Int.toNat_natCast]]
   rw [hk,Int.toNat_natCast,iL _ hlt,<-gu hlt]
   generalize bG c k = d at hm hs3 hkind ⊢
   dsimp only
   simp only [pms]
   refine ⟨by omega,ai (vD _) ?_⟩
   simp only [pmr]
   have hf1 : Fit c R n (ofT d.id) env (depth - 2):=hf.any h0 (hc.gen.own _ hm (.inr hkind)) (show (ofT d.id).size<=1000 by simp [ofT,Ty.size,Ty.sizes]) (by omega) (by omega)
   refine ⟨by unfold okI;omega,ai (hg _ env _ s hf1 (hb.mono (by omega))) ?_⟩
   have h3q:=le3 hs3 (show (0 : Int)<=9 ^ n+1 by omega)
   have hB:=cO hc.gen.short n (ofT d.id) env (depth - 2) s (3 * (9 ^ n+1)+1) (by omega) (hb.mono (by omega))
   generalize au c n (ofT d.id) env (depth - 2) s = r at hB ⊢
   simp only [pmr,pmg]
   refine ai (eZ (kids:=[]) (hB.mono (by omega))) ?_
   have hB2 : Bd (3 * (9 ^ n+1)) (aR 10 0 [] r.2).2:=hB.node (by omega)
   have hfl : (aR 10 0 [] r.2).1.kids = []/\(aR 10 0 [] r.2).1.names = []:=⟨rfl,rfl⟩
   generalize aR 10 0 [] r.2 = q at hB2 hfl ⊢
   simp only [pmr,pmg]
   generalize hz : aT (au c n) t env (depth - 1) q.1.id d.slots 0 q.2 = z
   refine di [mkL c z.2,ex0.enc,[.sl (r.1::z.1.1).length 15 ((r.1::z.1.1).flatMap Ex.enc)],exL (q.1.setRef d.id),dfL c,[.sl z.1.2.length 1 (z.1.2.map eP)]] ?_ ?_
   · refine lT (σ:=Nat×List Ex×List ByteArray×MkS) (fun y=>[[bK env],[vI depth],[vI (y.1 : Int)],mkL c y.2.2.2,t.enc,ex0.enc,d.enc,[.sl (r.1::y.2.1).length 15 ((r.1::y.2.1).flatMap Ex.enc)],exL (q.1.setRef d.id),dfL c,[.sl y.2.2.1.length 1 (y.2.2.1.map eP)]]) (fun y=>d.slots.length - y.1)
       (fun y=>y.1<=d.slots.length/\y.2.1.length = y.1/\y.2.2.1.length = y.1/\z = bJ y.2.1 y.2.2.1 (aT (au c n) t env (depth - 1) q.1.id (d.slots.drop y.1) y.1 y.2.2.2)/\Bd ((d.slots.length - y.1 : Nat) * (9 ^ n+1)) y.2.2.2) (0,[],[],q.2) ⟨Nat.zero_le _,rfl,rfl,by rw [List.drop_zero,hz];exact bJ_nil z,hB2.mono (by rw [Nat.sub_zero];omega)⟩ ?_ ?_
     · simp only [List.flatMap_cons,List.flatMap_nil,List.append_nil,<-kr]
       rw [hfl.2]
       rfl
     rintro ⟨i,dn,ns,s1⟩ next ⟨hi,hlen,hlen2,hI,hB3⟩ hn
     dsimp only at hi hlen hlen2 hI hB3 hn ⊢
     simp only [pmr,pmg,pms,bK]
     refine ⟨fun h5=>?_,fun h5=>?_⟩
     · have hkk : i < d.slots.length:=by omega
       obtain ⟨m,hm1⟩ : ∃ m,d.slots.length - i = m+1:=⟨d.slots.length - i - 1,by omega⟩
       rw [hm1] at hB3
       have e1 : ((m+1 : Nat) : Int) * (9 ^ n+1) = m * (9 ^ n+1)+(9 ^ n+1):=by rw [Int.natCast_add,Int.add_mul];simp
       have h6 : (0 : Int)<=m * (9 ^ n+1):=Int.mul_nonneg (by omega) (by omega)
       have hmem:=List.getElem_mem hkk
       rw [lJ _ hkk]
       simp only [pmr,pms]
       have hel:=hf.e1
       refine ⟨by omega,ai (qH (env:=env) (b:=⟨q.1.id,i,d.slots[i].ty⟩) (by omega)) ?_⟩
       simp only [pmr,bK]
       have hf2 : Fit c R n t (env++[⟨q.1.id,i,d.slots[i].ty⟩]) (depth - 1):=(hf.any h0 (hf.wt h0) hf.ts (by omega) (by omega)).more (hc.gen.slot _ hm _ hmem) (hc.sty _ hm _ hmem) (by omega)
       refine ⟨by unfold okI;omega,ai (hg _ _ _ s1 hf2 (hB3.mono (by omega))) ?_⟩
       have hB':=cO hc.gen.short n t (env++[⟨q.1.id,i,d.slots[i].ty⟩]) (depth - 1) s1 (m * (9 ^ n+1)+1) (by omega) (hB3.mono (by omega))
       have hI':=tS hkk hI
       generalize au c n t (env++[⟨q.1.id,i,d.slots[i].ty⟩]) (depth - 1) s1 = r2 at hI' hB' ⊢
       simp only [pmr,pmg]
       refine ⟨by unfold room;simp;omega,ai (qQ (hB'.mono (by omega))) ?_⟩
       simp only [pmr,pmg]
       refine ⟨by unfold room;omega,by unfold okI;omega,?_⟩
       have:=hn (i+1,dn++[r2.1],ns++[(dI r2.2).1],(dI r2.2).2) (by dsimp only;omega) ⟨by dsimp only;omega,by simp [hlen],by simp [hlen2],hI',by dsimp only;rw [show d.slots.length - (i+1) = m by omega];exact hB'.name' (by omega)⟩
       rw [qZ,CE]
       simpa [pmg,bK] using this
     · have:=w4 (by omega) hI
       rw [this]
   · simp only [pmr,pmg]
     rfl
theorem dptF (h : Fit c R n t env depth) (s1 : MkS) : Fit c R n t env (dpt s1 depth) :=
 ⟨h.e0,h.e1,h.ew,h.es,h.ts,FG h.ok,by have:=h.dp;have:=h.e1;unfold dpt;split <;> omega⟩
end
section
variable {c : MkC} {R n : Nat} {t : Ty} {env : List Bnd} {x depth : Int} {s : MkS}
theorem p5.bool (hg : p5 c R n) {d : Int} (hf : Fit c R n (Ty.mk 1 id0 []) env d) (hb : Bd (9 ^ n) s) : IS s49 [[vI 1,vI 0,vI 0,vI 0,.sl 0 5 []],[bK env],[vI d],mkL c s,dfL c] (mkR c (au c n (Ty.mk 1 id0 []) env d s)):=by
 have:=hg _ env d s hf hb
 rwa [qJ] at this
theorem C5 (hc : Ctx c R) (hg : p5 c R n) : p5 c R (n+1):=by
 intro t env depth s hf hb
 refine w49.is ?_
 unfold g49
 have hq:=q1 n
 have bd:=cO hc.gen.short n
 have h9 : (9 : Int) ^ (n+1) = 9 * 9 ^ n:=by rw [Int.pow_succ,Int.mul_comm]
 rw [h9] at hb
 have hel:=hf.e1
 simp only [pmr,pmg,bK]
 refine ai (num_is (by decide) hc.li (hb.mono (by omega))) ?_
 rw [sP]
 have hb1 : Bd (4 * 9 ^ n+4) (fM c 65536 s).2:=hb.num (by omega)
 have hx : 0<=(fM c 65536 s).1/\(fM c 65536 s).1 < 65536:=cC c.l s.pos 65536 (by omega)
 generalize fM c 65536 s = y at hb1 hx ⊢
 obtain ⟨x,s1⟩:=y
 dsimp only at hb1 hx ⊢
 simp only [pmr,pmg]
 have hfl : (dK env t).length<=env.length:=by have:=yA (l:=env) (t:=t) env.length;rwa [List.take_length] at this
 refine ai (Ag (t:=t) (fun b hb=>by have:=hf.es b hb;omega) (by omega)) ?_
 simp only [pmr,bK]
 have hf1:=dptF hf s1
 refine di [[bK env],[vI (dpt s1 depth)],[vI x],mkL c s1,t.enc,ex0.enc,[bK (dK env t)],dfL c] ?_ ?_
 ·unfold dpt
  exact ⟨fun h=>by rw [if_pos h];rfl,fun h=>by rw [if_neg h];rfl⟩
 generalize dpt s1 depth = d at hf1 ⊢
 have hdp:=hf1.dp
 simp only [pmr,pmg,bK]
 have d3 : x.tdiv 3 = x / 3:=iw hx.1
 have m3 : x.tmod 3 = x % 3:=bV hx.1
 by_cases hv : 0 < (dK env t).length/\(d<=0\/x.tmod 3 = 0)
 ·rw [if_pos hv]
  refine ja ?_
  obtain ⟨k,hk1,hk2⟩ : ∃ k : Nat,(x.tdiv 3).tmod ((dK env t).length : Int) = k/\k < (dK env t).length:=by
   have e : (x.tdiv 3).tmod ((dK env t).length : Int) = x.tdiv 3 % ((dK env t).length : Int):=bV (by omega)
   have h1:=Int.emod_nonneg (x.tdiv 3) (show ((dK env t).length : Int) ≠ 0 by omega)
   have h2:=Int.emod_lt_of_pos (x.tdiv 3) (show (0 : Int) < (dK env t).length by omega)
   exact ⟨(x.tdiv 3 % ((dK env t).length : Int)).toNat,by omega,by omega⟩
  have fin : ((3 : Int) ≠ 0/\okI (x.tdiv 3))/\((dK env t).length : Int) ≠ 0/\(0<=(x.tdiv 3).tmod ((dK env t).length : Int)/\(x.tdiv 3).tmod ((dK env t).length : Int) < ((dK env t).length : Int))/\IS s79 [el ((dK env t).flatMap Bnd.enc) 9 ((x.tdiv 3).tmod ((dK env t).length : Int)).toNat,mkL c s1,dfL c] (mkR c (Dm ((dK env t).getD (((x.tdiv 3).tmod ((dK env t).length : Int)).toNat) default) s1)):=by
   refine ⟨⟨by decide,by unfold okI;omega⟩,by omega,by omega,?_⟩
   rw [hk1,Int.toNat_natCast,BF _ hk2,List.getD_eq_getElem?_getD,List.getElem?_eq_getElem hk2]
   exact var_is (hb1.mono (by omega))
  obtain ⟨f1,f2,f3,f4⟩:=fin
  refine ⟨fun _=>⟨fun h1=>⟨f1,f2,f3,ai f4 ?_⟩,fun h1=>⟨by decide,fun h2=>⟨f1,f2,f3,ai f4 ?_⟩,fun h2=>?_⟩⟩,fun h=>absurd hv.1 (by omega)⟩
  ·simp only [pmr,pmg]
  ·simp only [pmr,pmg]
  ·rcases hv.2 with h | h
   ·exact absurd h h1
   ·exact absurd h h2
 ·rw [if_neg hv]
  refine di [[bK env],[vI d],[vI x],mkL c s1,t.enc,ex0.enc,dfL c] ?_ ?_
  ·refine ⟨fun h=>⟨fun h1=>absurd ⟨by omega,.inl h1⟩ hv,fun h1=>⟨by decide,?_⟩⟩,fun _=>rfl⟩
   exact ⟨fun h2=>absurd ⟨by omega,.inr h2⟩ hv,fun _=>rfl⟩
  simp only [pmr,pmg,bK]
  refine ⟨fun h0=>?_,fun h0=>?_⟩
  ·rw [if_pos h0]
   refine ⟨⟨by decide,by unfold okI;omega⟩,ai (EU hc hg hf1 (x:=x.tdiv 3) (by omega) (hb1.mono (by omega))) ?_⟩
   simp only [pmr,pmg]
  ·rw [if_neg h0]
   have h0' : 0 < d:=by omega
   have d36 : x.tdiv 36 = x / 36:=iw hx.1
   have m12 : (x.tdiv 3).tmod 12 = x.tdiv 3 % 12:=bV (by omega)
   refine ⟨⟨by decide,by unfold okI;omega⟩,by decide,⟨by decide,by unfold okI;omega⟩,?_⟩
   have hx36 : 0<=x.tdiv 36/\x.tdiv 36<=1000000:=by omega
   generalize x.tdiv 36 = xx at hx36 ⊢
   generalize (x.tdiv 3).tmod 12 = k
   have hkid : ∀ u,wfT c.p R u->u.size<=1000->Fit c R n u env (d - 1):=fun u h1 h2=>hf1.any h0' h1 h2 (by omega) (by omega)
   have ht : wfT c.p R t/\t.size<=1000:=⟨hf1.wt h0',hf1.ts⟩
   have hdm : okI (d - 1):=by unfold okI;omega
   unfold qe
   refine ⟨fun k0=>?_,fun k0=>⟨fun k1=>?_,fun k1=>⟨fun k2=>?_,fun k2=>⟨fun k3=>?_,fun k3=>⟨fun k4=>?_,fun k4=>⟨fun k5=>?_,fun k5=>⟨fun k6=>?_,fun k6=>⟨fun k7=>?_,fun k7=>⟨fun k8=>?_,fun k8=>?_⟩⟩⟩⟩⟩⟩⟩⟩⟩
   ·rw [if_pos (by omega)]
    unfold ifG
    dsimp only
    have hf0:=hkid (Ty.mk 1 id0 []) (lX hc.gen.R2 (.inr rfl)) (by decide)
    have hft:=hkid t ht.1 ht.2
    refine ⟨hdm,ai (hg.bool hf0 (hb1.mono (by omega))) ?_⟩
    have hB:=bd (Ty.mk 1 id0 []) env (d - 1) s1 (2 * 9 ^ n+1) (by omega) (hb1.mono (by omega))
    generalize au c n (Ty.mk 1 id0 []) env (d - 1) s1 = r at hB ⊢
    simp only [pmr,pmg]
    refine ⟨hdm,ai (hg _ env _ r.2 hft (hB.mono (by omega))) ?_⟩
    have hB2:=bd t env (d - 1) r.2 (9 ^ n+1) (by omega) (hB.mono (by omega))
    generalize au c n t env (d - 1) r.2 = r2 at hB2 ⊢
    simp only [pmr,pmg]
    refine ⟨hdm,ai (hg _ env _ r2.2 hft (hB2.mono (by omega))) ?_⟩
    have hB3:=bd t env (d - 1) r2.2 1 (by omega) (hB2.mono (by omega))
    generalize au c n t env (d - 1) r2.2 = r3 at hB3 ⊢
    simp only [pmr,pmg]
    refine ai (x5 r.1 r2.1 r3.1 hB3) ?_
    simp only [pmr,pmg]
   ·rw [if_pos (by omega)]
    unfold ifG
    dsimp only
    have hf0:=hkid (Ty.mk 1 id0 []) (lX hc.gen.R2 (.inr rfl)) (by decide)
    have hft:=hkid t ht.1 ht.2
    refine ⟨hdm,ai (hg.bool hf0 (hb1.mono (by omega))) ?_⟩
    have hB:=bd (Ty.mk 1 id0 []) env (d - 1) s1 (2 * 9 ^ n+1) (by omega) (hb1.mono (by omega))
    generalize au c n (Ty.mk 1 id0 []) env (d - 1) s1 = r at hB ⊢
    simp only [pmr,pmg]
    refine ⟨hdm,ai (hg _ env _ r.2 hft (hB.mono (by omega))) ?_⟩
    have hB2:=bd t env (d - 1) r.2 (9 ^ n+1) (by omega) (hB.mono (by omega))
    generalize au c n t env (d - 1) r.2 = r2 at hB2 ⊢
    simp only [pmr,pmg]
    refine ⟨hdm,ai (hg _ env _ r2.2 hft (hB2.mono (by omega))) ?_⟩
    have hB3:=bd t env (d - 1) r2.2 1 (by omega) (hB2.mono (by omega))
    generalize au c n t env (d - 1) r2.2 = r3 at hB3 ⊢
    simp only [pmr,pmg]
    refine ai (x5 r.1 r2.1 r3.1 hB3) ?_
    simp only [pmr,pmg]
   ·rw [if_neg (by omega),if_pos k2]
    obtain ⟨ke,he1,he2,he3⟩:=vg (env:=env) hf.e0 hx36.1
    unfold letG
    dsimp only
    rw [he1,Int.toNat_natCast,BF _ he2,he3]
    simp only [pms]
    have hm:=List.getElem_mem he2
    have hwu:=hf.ew _ hm
    have hsu:=hf.es _ hm
    generalize env[ke].ty = u at hwu hsu ⊢
    have hfu:=hkid u hwu hsu
    refine ⟨by omega,by omega,hdm,ai (hg _ env _ s1 hfu (hb1.mono (by omega))) ?_⟩
    have hB:=bd u env (d - 1) s1 (9 ^ n+3) (by omega) (hb1.mono (by omega))
    generalize au c n u env (d - 1) s1 = r at hB ⊢
    simp only [pmr,pmg]
    refine ai (eZ (kids:=[]) (hB.mono (by omega))) ?_
    have hB2 : Bd (9 ^ n+2) (aR 6 0 [] r.2).2:=hB.node (by omega)
    generalize aR 6 0 [] r.2 = q at hB2 ⊢
    simp only [pmr,pmg]
    refine ai (qQ (hB2.mono (by omega))) ?_
    have hB3 : Bd (9 ^ n+1) (dI q.2).2:=hB2.name' (by omega)
    generalize dI q.2 = m at hB3 ⊢
    simp only [pmr,pmg]
    refine ai (qH (env:=env) (b:=⟨q.1.id,0,u⟩) (by omega)) ?_
    simp only [pmr,bK]
    have hf2 : Fit c R n t (env++[⟨q.1.id,0,u⟩]) (d - 1):=(hkid t ht.1 ht.2).more hwu hsu (by omega)
    refine ⟨hdm,ai (hg _ _ _ m.2 hf2 (hB3.mono (by omega))) ?_⟩
    generalize au c n t (env++[⟨q.1.id,0,u⟩]) (d - 1) m.2 = r2
    simp only [pmr,pmg]
    simp only [Ex.cQ,Ex.id,Ex.kind,Ex.n,Ex.ref,Ex.ty,Ex.kids,Ex.names,List.flatMap_cons,List.flatMap_nil,Ex.ay,List.append_nil,List.cons_append,List.nil_append]
    rfl
   ·rw [if_neg (by omega),if_neg (by omega),if_pos (by omega)]
    refine ai (yc hc hg hf1 h0' hx36 hb1) ?_
    simp only [pmr,pmg]
   ·rw [if_neg (by omega),if_neg (by omega),if_pos (by omega)]
    refine ai (yc hc hg hf1 h0' hx36 hb1) ?_
    simp only [pmr,pmg]
   ·rw [if_neg (by omega),if_neg (by omega),if_neg (by omega),if_pos (by omega)]
    refine ai (Fw hc hg hf1 h0' hx36 hb1) ?_
    simp only [pmr,pmg]
   ·rw [if_neg (by omega),if_neg (by omega),if_neg (by omega),if_neg (by omega),if_pos (by omega)]
    refine ai (BM hc hg hf1 h0' hx36 hb1) ?_
    simp only [pmr,pmg]
   ·rw [if_neg (by omega),if_neg (by omega),if_neg (by omega),if_neg (by omega),if_pos (by omega)]
    refine ai (BM hc hg hf1 h0' hx36 hb1) ?_
    simp only [pmr,pmg]
   ·rw [if_neg (by omega),if_neg (by omega),if_neg (by omega),if_neg (by omega),if_neg (by omega),if_pos k8]
    unfold Fi
    dsimp only
    refine ai ov ?_
    simp only [pmr]
    have hfl0:=hkid (bF ty0) (kO (p:=c.p) hc.gen.R2) (by decide)
    refine ⟨hdm,ai (hg.list0 hfl0 (hb1.mono (by omega))) ?_⟩
    have hB:=bd (bF ty0) env (d - 1) s1 (2 * 9 ^ n+4) (by omega) (hb1.mono (by omega))
    generalize au c n (bF ty0) env (d - 1) s1 = r at hB ⊢
    simp only [pmr,pmg]
    refine ⟨hdm,ai (hg _ env _ r.2 (hkid t ht.1 ht.2) (hB.mono (by omega))) ?_⟩
    have hB1:=bd t env (d - 1) r.2 (9 ^ n+4) (by omega) (hB.mono (by omega))
    generalize au c n t env (d - 1) r.2 = r1 at hB1 ⊢
    simp only [pmr,pmg]
    refine ai (eZ (kids:=[]) (hB1.mono (by omega))) ?_
    have hB2 : Bd (9 ^ n+3) (aR 12 0 [] r1.2).2:=hB1.node (by omega)
    generalize aR 12 0 [] r1.2 = q at hB2 ⊢
    simp only [pmr,pmg]
    refine ai (qQ (hB2.mono (by omega))) ?_
    have hB3 : Bd (9 ^ n+2) (dI q.2).2:=hB2.name' (by omega)
    generalize dI q.2 = m at hB3 ⊢
    simp only [pmr,pmg]
    refine ai (qQ (hB3.mono (by omega))) ?_
    have hB4 : Bd (9 ^ n+1) (dI m.2).2:=hB3.name' (by omega)
    generalize dI m.2 = m2 at hB4 ⊢
    simp only [pmr,pmg]
    have e0:=fK
    refine ai (qH (env:=env) (b:=⟨q.1.id,0,ty0⟩) (by omega)) ?_
    simp only [pmr,bK]
    refine ai (qH (env:=env++[⟨q.1.id,0,ty0⟩]) (b:=⟨q.1.id,1,t⟩) (by simp;omega)) ?_
    simp only [pmr,bK]
    have hf2 : Fit c R n t (env++[⟨q.1.id,0,ty0⟩]) (d - 1):=(hkid t ht.1 ht.2).more (lX hc.gen.R2 (.inl rfl)) (show ty0.size<=1000 by decide) (by omega)
    have hf3:=hf2.more (b:=⟨q.1.id,1,t⟩) ht.1 ht.2 (by simp;omega)
    refine ⟨hdm,ai (hg _ _ _ m2.2 hf3 (hB4.mono (by omega))) ?_⟩
    generalize au c n t (env++[⟨q.1.id,0,ty0⟩]++[⟨q.1.id,1,t⟩]) (d - 1) m2.2 = r2
    simp only [pmr,pmg]
    simp only [Ex.cQ,Ex.id,Ex.kind,Ex.n,Ex.ref,Ex.ty,Ex.kids,Ex.names,List.flatMap_cons,List.flatMap_nil,Ex.ay,List.append_nil,List.cons_append,List.nil_append]
    rfl
   ·rw [if_neg (by omega),if_neg (by omega),if_neg (by omega),if_neg (by omega),if_neg (by omega),if_neg (by omega)]
    refine ai (Bi hc hg hf1 h0' hx36 (hb1.mono (by omega))) ?_
    simp only [pmr,pmg]
theorem sN (hc : Ctx c R) : ∀ n,p5 c R n
 | 0=>fun t env depth s hf _=>absurd hf.ok.pos (Nat.lt_irrefl _)
 | n+1=>C5 hc (sN hc n)
end
theorem kV : ∀ l : List Ex,l.length<=Ex.sizes l
 | []=>Nat.zero_le _
 | t::l=>by
  have:=kV l
  have : 1<=t.size:=by cases t;simp [Ex.size]
  simp only [List.length_cons,Ex.sizes]
  omega
theorem x4 (e : Ex) (hs : e.size<=1000000000000) : IS s50 [e.enc] [[vI e.size]]:=by
 refine w50.is ?_
 unfold g50
 refine cz e.kids.length (fun i=>[[vI (1+Ex.sizes (e.kids.take i) : Nat)],[vI (i : Int)],e.enc]) (fun _=>True) trivial rfl fun i next hi _ hn=>?_
 simp only [pmr]
 have h3:=Ex.fe e.kids (i+1)
 have h4:=Ex.size_eq e
 have h5:=kV e.kids
 refine ⟨fun h=>?_,fun h=>?_⟩
 ·have hk : i < e.kids.length:=by omega
  rw [BE _ hk]
  have:=Ex.dy (List.getElem_mem hk)
  have h2:=Ex.iA _ _ hk
  refine ⟨by omega,ai (x4 _ (by omega)) ?_⟩
  simp only [pmr]
  unfold okI
  refine ⟨by omega,by omega,?_⟩
  have:=hn hk trivial
  rw [h2] at this
  rw [show ((1+Ex.sizes (e.kids.take i) : Nat) : Int)+(e.kids[i].size : Nat) = (1+(Ex.sizes (e.kids.take i)+e.kids[i].size) : Nat) by omega]
  exact this
 ·obtain rfl : i = e.kids.length:=by omega
  rw [List.take_length,Ex.size_eq]
 termination_by e.size
theorem uK (e : Ex) (l : List Int) (hs : e.size+l.length<=1000000000000) : IS s51 [e.enc,[aK l]] [[aK (l++e.post)]]:=by
 refine w51.is ?_
 unfold g51 aK
 simp only [pmr]
 refine cz e.kids.length (fun i=>[[vI (i : Int)],[aK (l++Ex.cS (e.kids.take i))],e.enc]) (fun _=>True) trivial (by simp [Ex.cS,aK]) fun i next hi _ hn=>?_
 unfold aK
 simp only [pmr]
 have h4:=Ex.size_eq e
 have h5:=Ex.o6 (e.kids.take i)
 have h6 : (l++Ex.cS (e.kids.take i)).length = l.length+Ex.sizes (e.kids.take i):=by rw [List.length_append,h5]
 refine ⟨fun h=>?_,fun h=>?_⟩
 ·have hk : i < e.kids.length:=by omega
  rw [BE _ hk]
  have h2:=Ex.iA _ _ hk
  have h3:=Ex.fe e.kids (i+1)
  have:=Ex.dy (List.getElem_mem hk)
  refine ⟨by omega,ai (uK _ _ (by omega)) ?_⟩
  unfold aK
  simp only [pmr]
  have:=hn hk trivial
  rw [Ex.zE _ _ hk,<-List.append_assoc] at this
  exact ⟨by unfold okI;have:=kV e.kids;omega,this⟩
 ·obtain rfl : i = e.kids.length:=by omega
  rw [List.take_length] at h6 ⊢
  rw [Ex.dJ]
  refine ⟨by unfold room;omega,?_⟩
  simp [Nat.add_assoc]
 termination_by e.size
def rnR (ids : List IdT) (e : Ex) : St':=[[an e.id.shop,an e.id.seq,an e.id.index,an e.kind,an e.n,an e.ref.shop,an e.ref.seq,an e.ref.index,an e.ty.kind,an e.ty.df.shop,an e.ty.df.seq,an e.ty.df.index,
  .sl e.ty.kids.length 5 (e.ty.kids.flatMap Ty.enc),.sl e.names.length 1 (e.names.map eP)],[.sl e.kids.length 15 (e.kids.flatMap Ex.enc)],[.sl ids.length 3 (ids.flatMap IdT.enc)]]
theorem Bx {ids : List IdT} {z : Int} (h : 0<=z/\z < ids.length) : el (ids.flatMap IdT.enc) 3 z.toNat = (gE ids z).enc:=by
 have hk : z.toNat < ids.length:=by omega
 rw [el_Id _ hk,idAt_eq (k:=z.toNat) (by omega) hk]
theorem rI (ids : List IdT) (e : Ex) (hi : inB ids.length e) (hs : e.size<=100000000000) : IS s52 [e.enc,[.sl ids.length 3 (ids.flatMap IdT.enc)]] (rnR ids (eN ids e)):=by
 refine w52.is ?_
 unfold g52
 rw [inB_eq] at hi
 obtain ⟨h1,h2,h3⟩:=hi
 simp only [pmr,pms]
 refine ⟨h1,?_⟩
 rw [Bx h1]
 refine di [[.sl ids.length 3 (ids.flatMap IdT.enc)],e.enc,ex0.enc,exC (.mk (gE ids e.id.index) e.kind e.n (iX ids e.kind e.ref) e.ty e.kids e.names)] ?_ ?_
 ·unfold iX
  refine ⟨fun hk=>⟨fun hq=>?_,fun hq=>?_⟩,fun hk=>?_⟩
  ·have h4:=h2 ⟨hk,hq⟩
   refine ⟨h4,?_⟩
   rw [Bx h4,if_pos ⟨hk,hq⟩]
   simp only [pmr,pms]
   rfl
  ·rw [if_neg (fun h=>hq h.2)]
   rfl
  ·rw [if_neg (fun h=>hk h.1)]
   rfl
 simp only [pmr,pms,exC]
 refine cz e.kids.length (fun i=>[[vI (i : Int)],[.sl ids.length 3 (ids.flatMap IdT.enc)],e.enc,ex0.enc,[an (gE ids e.id.index).shop,an (gE ids e.id.index).seq,an (gE ids e.id.index).index,an e.kind,an e.n,an (iX ids e.kind e.ref).shop,an (iX ids e.kind e.ref).seq,an (iX ids e.kind e.ref).index,an e.ty.kind,an e.ty.df.shop,an e.ty.df.seq,an e.ty.df.index,
  .sl e.ty.kids.length 5 (e.ty.kids.flatMap Ty.enc),.sl e.names.length 1 (e.names.map eP)],[.sl i 15 (((e.kids.take i).map (eN ids)).flatMap Ex.enc)]]) (fun _=>True) trivial rfl fun i next hi _ hn=>?_
 simp only [pmr]
 have h4:=Ex.size_eq e
 have h5:=kV e.kids
 refine ⟨fun h=>?_,fun h=>?_⟩
 ·have hk : i < e.kids.length:=by omega
  rw [BE _ hk]
  have:=Ex.dy (List.getElem_mem hk)
  refine ⟨by omega,ai (rI ids _ (yl h3 (List.getElem_mem hk)) (by omega)) ?_⟩
  simp only [pmr,rnR]
  have:=hn hk trivial
  refine ⟨by unfold room;omega,by unfold okI;omega,?_⟩
  rw [List.take_succ_eq_append_getElem hk,List.map_append,List.flatMap_append] at this
  rw [oA]
  simpa using this
 ·obtain rfl : i = e.kids.length:=by omega
  rw [List.take_length,renE_eq,rJ]
  simp only [rnR,Ex.id,Ex.kind,Ex.n,Ex.ref,Ex.ty,Ex.kids,Ex.names,List.length_map]
 termination_by e.size
theorem Cb {n : Int} (hn : InI n) (a b : Ty) : IS s75 [[vI n],a.enc,b.enc] [(bQ n a b).enc]:=by
 refine w75.is ?_
 unfold g75
 simp only [pmr]
 have e0:=BX ty0
 rw [fK] at e0
 refine ai e0 ?_
 simp only [pmr]
 refine ai (mB (by decide) hn) ?_
 simp only [pmr]
 have hr:=ig n 6 (by omega)
 refine ⟨hr,?_⟩
 have hk : (around n 6).toNat < (Cd a b).length:=by simp [Cd];omega
 have:=oM (Cd a b) hk
 have e1 : (Cd a b).flatMap Ty.enc = [vI 0,vI 0,vI 0,vI 0,.sl 0 5 []]++([vI 1,vI 0,vI 0,vI 0,.sl 0 5 []]++([vI 2,vI 0,vI 0,vI 0,.sl 1 5 [vI 0,vI 0,vI 0,vI 0,.sl 0 5 []]]++(a.enc++(b.enc++[vI 0,vI 0,vI 0,vI 0,.sl 0 5 []])))):=by
  simp only [Cd,List.flatMap_cons,List.flatMap_nil,fK,qJ,qT,List.append_nil]
 rw [e1] at this
 rw [this]
 unfold bQ
 rw [List.getD_eq_getElem?_getD,List.getElem?_eq_getElem hk]
 rfl
end Go.Proofs.YtanbipbiblikbaaDoor
