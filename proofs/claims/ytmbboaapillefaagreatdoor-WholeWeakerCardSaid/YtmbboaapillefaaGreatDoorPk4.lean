/- Ev24, Wgn10, Wgn11, Wgn12, Zru, Zrq, Zrt, Zrs, Ev25, Ev26, Ev27, Ev28, Ev30, Ev31, Ev32, Ev33, Wp1, Wo1, Wq1, Wq2, Wp2, Wq3, Wq4, Wx9, Wx10, Wo2, Wo4, Wo5, Wo6, Wo7, WoS, Wx4, put together. -/
import Derived.Test.YtmbboaapillefaaGreatDoorPk3
import Derived.KernelRfl
import Derived.Shelf.SlSortCmp.NoneTotal
import Derived.Shelf.SlicesG.Cmp
import Derived.StillTailTactics
import Derived.Shelf.SlSortCmp.QuietGrown
import Derived.StillTail
open Bool renaming true_eq_false->XP,not_true->Ry,not_false->Sj,and_eq_true->QA
open ByteArray renaming mk->QX
open Go renaming World->QL,Calls->T8,rounds_succ->UX,ready_mono->YB,wpQuiet->YQ,getD_replicate_false->Yh
open Go.Code renaming region->Y0
open Go.IntKind renaming bits->Ta,wrap->Rs,signed->X1
open Go.Lib renaming compareInt->QJ
open Go.Proofs.AnyG renaming cmp_Compare_int->Tc
open Go.Proofs.SlLaysC2 renaming n5->Xl
open Go.Proofs.SlLaysF0 renaming n6->Uc
open Go.Proofs.Tryz renaming prog->Qu,func157->WB,func209->WC,func210->WD,func239->WE,func240->WG,underlying0->VG,isAgg0->WU,sizeOf0->WH,zeroValue0->VO,underlying3->Sc,isAgg3->Tw,sizeOf3->Tk,zeroValue3->SY,underlying4->Sd,isAgg4->SG,sizeOf4->SC,zeroValue4->Si,underlying5->VH,isAgg5->WV,sizeOf5->WI,zeroValue5->VP,underlying9->VI,isAgg9->WW,sizeOf9->UC,zeroValue9->VQ,underlying207->Va,isAgg207->Wn,sizeOf207->VV,zeroValue207->Vr,underlying248->Vb,isAgg248->Wo,sizeOf248->VW,zeroValue248->Vs,underlying249->Vc,isAgg249->Wp,sizeOf249->VX,zeroValue249->Vt,underlying253->Vd,isAgg253->Wq,sizeOf253->VY,zeroValue253->Vu,underlying256->Ve,isAgg256->Wr,sizeOf256->VZ,zeroValue256->Vv,underlying258->Vf,isAgg258->Ws,sizeOf258->V0,zeroValue258->Vw,underlying279->Vg,isAgg279->Wt,sizeOf279->Wa,zeroValue279->Vx,underlying283->Vh,isAgg283->Wu,sizeOf283->Wb,zeroValue283->Vy,underlying293->Vi,isAgg293->Wv,sizeOf293->Wc,zeroValue293->Vz,underlying183->Vj,isAgg183->Ww,sizeOf183->We,zeroValue183->VA
open Go.Region renaming Mode->YA,ready->Te,sinkB->Yr,chainB->Yg,binds->SV,lexHead->VU,lexTailB->VF
open Go.Shelf renaming Ren->TO
open Go.Sort renaming grow->Ya
open Go.World renaming cell?->RQ
open Iff renaming rfl->S4
open Int renaming toNat_natCast->Rx,le_refl->RC,toNat->Qr,mul_nonneg->SX,mul_le_mul_of_nonneg_right->VN,natCast_zero->TZ,add_zero->UF
open List renaming length_cons->QG,getElem_of_eq->Uj,flatten->S5,replicate->QY,map_congr_left->TM,flatMap_append->QV,flatMap_cons->QD,take_append->T4,drop_append->UE,take_of_length_le->Rj,getElem_set_self->SP,getElem_mem->QB,take_succ_eq_append_getElem->Qv,flatMap_nil->Ro,append_nil->QF,length_set->Sl,length_nil->TL,map_nil->R5,nil_append->Rk,length_take->Rf,take_length->Re,length_append->QC,take_zero->Sz,sum_nil->YP,getD_eq_getElem?_getD->RX,getElem?_eq_getElem->QQ,drop->Sr,mem_cons_self->Qt,mem_cons_of_mem->Qx,mem_iff_getElem->QO,mem_singleton->QI,mem_cons->Qz,not_mem_nil->Rp,nodup_append->R7,mem_append->QK,getElem_cons_zero->UL,nodup_cons->Rw,length_map->QS,getElem_map->RG,map_cons->QT,map_map->R3,pairwise_cons->SO,foldl_cons->VT,pairwise_append->SZ,pairwise_singleton->S6,take_succ_cons->RK,drop_succ_cons->RS,set_eq_take_append_cons_drop->U3,cons_append->Rm,append_assoc->QU,mem_filter->Rq,length_filter_le->Xk,findIdx?_eq_some_iff_getElem->TU,map_append->Rb,drop_zero->RR,filter_eq_self->Tj,drop_drop->SE,length_singleton->TA,take_set_of_le->XC,drop_set_of_lt->XD
open List.Pairwise renaming nil->SK,filter->YZ,imp->SH
open List.Perm renaming refl->RT
open Nat renaming zero_le->Rr,not_lt_zero->RP,le_refl->QW,min_eq_left->RU,add_zero->RY,le_trans->SS,add_mul->RA,add_comm->S9,zero_add->Rn,add_assoc->RW,lt_or_ge->U0
namespace Xe
open Go
theorem uN{Ts:Nat->Int}:∀(l:List Ex) (k:Nat),(∀i (h:i<l.length),(l[i].size:Int)+Ts (k+i)<=Ts (k+i+1))->(Ex.aW l:Int)+Ts k<=Ts (k+l.length)
 |[],k,_=>by simp[Ex.aW]
 |e::l,k,h=>by
  have h0:=h 0 Q2;have h1:=uN l (k+1) λi hi=>by have:=h (i+1) (by grind);rw[show k+1+i=k+(i+1) by omega];exact this
  simp only[Ex.aW,QG]
  grind
theorem Mk.size{c:fB}{t:Ty}{env:List cd}{T T':Int}{e:Ex}(h:Mk c t env T e T'):(e.size:Int)+T<=T':=by
 have row:∀{l:List Ex} {Ts:Nat->Int},(∀i (h:i<l.length),(l[i].size:Int)+Ts i<=Ts (i+1))->(Ex.aW l:Int)+Ts 0<=Ts l.length:=fun{l Ts} h=>by
  have:=uN (Ts:=Ts) l 0 λi hi=>by grind
  grind
 induction h with
 |int _=>rw[Ex.cb];show((1+0:Nat):Int)+_<=_;omega
 |bool _=>rw[Ex.cb];show((1+0:Nat):Int)+_<=_;omega
 |var _=>rw[Ex.cb];show((1+0:Nat):Int)+_<=_;omega
 |@qT env T kids Ts _ h0 _ ih=>rw[Ex.cb];have:=row ih;show((1+Ex.aW kids:Nat):Int)+_<=_;omega
 |@oJ env T T1 d k e _ _ _ hm ih=>rw[Ex.cb];show((1+(e.size+0):Nat):Int)+_<=_;omega
 |@rM env T d kids _ _ Ts _ h0 hm ih=>rw[Ex.cb];have:=row ih;show((1+Ex.aW kids:Nat):Int)+_<=_;omega
 |@len env T T1 a hm ih=>rw[Ex.cb];show((1+(a.size+0):Nat):Int)+_<=_;omega
 |@not env T T1 a hm ih=>rw[Ex.cb];show((1+(a.size+0):Nat):Int)+_<=_;omega
 |@tj t u env T T1 T2 n a b _ ha hb ih1 ih2=>rw[Ex.cb];show((1+(a.size+(b.size+0)):Nat):Int)+_<=_;omega
 |@Jh t env T T1 T2 T3 a b e ha hb he ih1 ih2 ih3=>rw[Ex.cb];show((1+(a.size+(b.size+(e.size+0))):Nat):Int)+_<=_;omega
 |@sC t u env T T1 T2 a b m ha hb ih1 ih2=>rw[Ex.cb];show((1+(a.size+(b.size+0)):Nat):Int)+_<=_;omega
 |@sR t env T T1 T2 T3 a b e m m2 ha hb he ih1 ih2 ih3=>rw[Ex.cb];show((1+(a.size+(b.size+(e.size+0))):Nat):Int)+_<=_;omega
 |@I0 t env T T1 d a kids ms _ _ Ts _ _ ha h0 hm ih1 ih=>rw[Ex.cb];have:=row ih;show((1+(a.size+Ex.aW kids):Nat):Int)+_<=_;omega
 |@field env T T1 d j a _ _ _ hm ih=>rw[Ex.cb];show((1+(a.size+0):Nat):Int)+_<=_;omega
 |@call env T k kids _ _ _ Ts _ h0 hm ih=>rw[Ex.cb];have:=row ih;show((1+Ex.aW kids:Nat):Int)+_<=_;omega
def Us(P:Int)(s:bY):Prop:=0<=s.pos/\s.pos<=P/\0<=s.be/\s.be<=P/\-P<=s.left/\s.left<=1099511627776/\0<=s.name/\s.name<=P
theorem Us.bd{P B:Int}{s:bY}(h:Us P s)(hP:P+B<=1099511627776):Bd B s:=by unfold Us at h;unfold Bd;omega
theorem FO{g:GX}{q P:Int}(hg:HH q g)(_:0<=q){t:Ty}{env:List cd}{d:Int}{s:bY}(h:Us P s)(hP:P+q<=1099511627776):Us (P+q) (g t env d s).2:=by have:=hg t env d s (1099511627776-P-q) Q0 (h.bd Q0);unfold Us at *;unfold Bd at this;omega
theorem uw(d:aq):(bQ d).length=d.ah.length:=by simp[bQ]
theorem km{d:aq}{b:cd}(h:b∈bQ d):∃s∈d.ah,b=⟨s.id,0,s.ty⟩:=by obtain⟨s,hs,rfl⟩:=List.mem_map.1 h;exact⟨s,hs,rfl⟩
theorem NZ{p:av}{t:Ty}(h:eN p 5 t):rW p 5 9 t 4:=.inr ⟨Q0,h,Q0⟩
theorem N0{p:av}{t:Ty}(h:eN p 5 t):rW p 5 9 t 0:=.inl ⟨Q0,b7 Q0 h⟩
theorem Mk.mv{c c':fB}(hl:cN c.p.ae c'.p.ae)(hm:c.p.al=c'.p.al)(ho:c.own=c'.own)(hh:c.j3=c'.j3){t:Ty}{env:List cd}{T T':Int}{e:Ex}(h:Mk c t env T e T'):Mk c' t env T e T':=by
 have get:∀d∈c.p.ae,∃d'∈c'.p.ae,d'.id=d.id/\d'.kind=d.kind/\d'.ah=d.ah:=λd hd=>by
  obtain⟨d',hd',hs⟩:=hl.mem hd;have:=bV hs
  grind
 induction h with
 |int h=>exact Mk.int h
 |bool h=>exact Mk.bool h
 |var h=>exact Mk.var h
 |qT Ts hl h0 _ ih=>exact Mk.qT Ts hl h0 ih
 |oJ hd hk h _ ih=>obtain⟨d',hd',e1,e2,e3⟩:=get _ hd;have:=Mk.oJ hd' Q0 (by rw[e3];exact h) (by rw[Uj e3];exact ih);rwa [e1]at this
 |rM hd hk Ts hn h0 _ ih =>
  obtain⟨d',hd',e1,e2,e3⟩:=get _ hd;have:=Mk.rM hd' Q0 Ts (by rw[e3];exact hn) h0 λi hi=>by rw[Uj e3];exact ih i hi
  rwa [e1]at this
 |len _ ih=>exact Mk.len ih
 |not _ ih=>exact Mk.not ih
 |tj h _ _ ih1 ih2=>exact Mk.tj h ih1 ih2
 |Jh _ _ _ ih1 ih2 ih3=>exact Mk.Jh ih1 ih2 ih3
 |sC _ _ ih1 ih2=>exact Mk.sC ih1 ih2
 |sR _ _ _ ih1 ih2 ih3=>exact Mk.sR ih1 ih2 ih3
 |I0 hd hk Ts hn hms _ h0 _ ih1 ih =>
  obtain⟨d',hd',e1,e2,e3⟩:=get _ hd;have:=Mk.I0 hd' Q0 Ts (by rw[e3];exact hn) (by rw[e3];exact hms) (by rw[e1];exact ih1) h0 λi hi=>by rw[Uj e3];exact ih i hi
  rwa [e1]at this
 |field hd hk h _ ih=>obtain⟨d',hd',e1,e2,e3⟩:=get _ hd;have:=Mk.field hd' Q0 (by rw[e3];exact h) (by rw[e1];exact ih);rwa [e1,Uj e3]at this
 |@call env T k kids hd hk hv Ts hn h0 _ ih =>
  have hd':k<c'.p.ae.length:=by rw[<-hl.len];exact hd
  have e:=bV (hl.get hd hd');have hv':kr c' k:=by
   unfold kr bN Lr at hv ⊢
   grind
  have:=Mk.call (c:=c') (env:=env) (kids:=kids) hd' Q0 hv' Ts (by grind) h0 λi hi=>by grind
  rwa [<-e.1,<-e.2.2.2.2.2.1]at this
theorem JH{c:fB}{d:aq}{s:bY}(hb:j8 c.p 5)(hn:iU c.p){i:Nat}(hi:i<c.p.ae.length)(hd':c.p.ae[i]=d)(ho:c.own=i){P:Int}(hs:Us P s)(hP:P+2*9 ^ 9<=1000000000000) :
  Us (P+2*9 ^ 9) (fL c d s).2/\∃T,s.be<=T/\Mk c d.au (bQ d) T (fL c d s).1 (fL c d s).2.be:=by
 have hd:d∈c.p.ae:=by grind
 have hg:=sU (hb.gctx hn) 9;have bd:=dz hb.gen.fE 9;have h0:0<(bQ d).length:=by rw[uw];exact hb.e0 d hd
 have he:∀b∈bQ d,eN c.p 5 b.ty/\nL c.p b.ty:=λb hb'=>by obtain⟨x,hx,rfl⟩:=km hb';exact⟨hb.gen.Dk d hd x hx,hn.gs d hd x hx⟩
 have h9:(9:Int) ^ 9=387420489:=Q1;have w:=hb.resA d hd;have m1:=hg d.au (bQ d) 4 s h0 he (NZ w) (hn.gr d hd);have u1:=FO bd Q0 (t:=d.au) (env:=bQ d) (d:=4) hs Q0;unfold fL;generalize ay c 9 d.au (bQ d) 4 s=r at m1 u1 ⊢;split
 .have hlk:cN (c.with d r.1).p.ae c.p.ae:=by show cN (c.p.ae.set c.own.toNat (d.bE r.1)) c.p.ae;rw[ho,Rx,<-hd'];exact(cN.refl _).set hi r.1
  have hb2:j8 (c.with d r.1).p 5:=j8.mv (ms:=c.p.al) hb hlk;have hn2:iU (c.with d r.1).p:=iU.mv (ms:=c.p.al) (ns:=c.p.al) hn hlk;have u0:Us (P+9 ^ 9) ⟨r.2.pos,r.2.be,0,r.2.name⟩:=by unfold Us at u1 ⊢;dsimp only;omega
  have m2:=sU (hb2.gctx hn2) 9 d.au (bQ d) 0 ⟨r.2.pos,r.2.be,0,r.2.name⟩ h0 (λb hb'=>⟨hlk.wf (ms:=c.p.al) (ns:=c.p.al) _ _ (he b hb').1,sP (ms:=c.p.al) (ns:=c.p.al) hlk (he b hb').2⟩) (N0 (hlk.wf (ms:=c.p.al) (ns:=c.p.al) _ _ w)) (sP (ms:=c.p.al) (ns:=c.p.al) hlk (hn.gr d hd));have u2:=FO (dz hb2.gen.fE 9) Q0 (t:=d.au) (env:=bQ d) (d:=0) u0 Q0;exact⟨by grind,r.2.be,by have:=m1.lt;omega,m2.mv hlk rfl rfl rfl⟩
 .exact⟨by unfold Us at u1 ⊢;omega,s.be,RC _,m1⟩
end Xe
namespace Go.Proofs.YtmbboaapillefaaGreatDoor
open Xe Pm
def oE(Is:Cx)(K:bR->Prop):bR->Prop:=Lp (λvT jW=>aw (cell (ab jW 0) 0) λz234=>aw (cell (ab jW 1) 0) λz235=>aH 31 (cell (ab jW 5) 0) λn236 c237
 => aB (decide (z235<(n236:Int))) (az (0<=z235/\z235<(n236:Int)) (aw (cell (el c237 31 (Qr z235)) 3) λz238=>aB (decide
 (z238=(0:Int))) (az (bt (z235+1)) (vT [[vI z234],[vI (z235+1)],ab jW 2,[cell (ab jW 3) 0],cls (ab jW 4) 0 10 [],[.sl
 n236 31 c237]])) (aw (cell (el c237 31 (Qr z235)) 3) λz239=>aB (decide (z239=(1:Int))) (az (bt (z235+1)) (vT [[vI z234],
 [vI (z235+1)],ab jW 2,[cell (ab jW 3) 0],cls (ab jW 4) 0 10 [],[.sl n236 31 c237]])) (Lp (λB1 gV=>aw (cell (ab
 gV 0) 0) λz242=>aw (cell (ab gV 1) 0) λz243=>aw (cell (ab gV 2) 0) λz244=>aH 9 (cell (ab gV 7) 0) λn245 c246
 => aH 31 (cell (ab gV 8) 0) λn247 c248=>aH 11 (cell (ab gV 6) 8) λn249 _=>aB (decide (z244<(n249:Int))) (aH 11 (cell
 (ab gV 6) 8) λn251 c252=>az (0<=z244/\z244<(n251:Int)) (aH 11 (cell (ab gV 6) 8) λn253 c254=>az (0<=z244/\z244<(n253
 : Int)) (az (aO (n245+1) 89) (az (bt (z244+1)) (B1 [[vI z242],[vI z243],[vI (z244+1)],ab gV 3,[cell (ab gV 4) 0],cls
 (ab gV 5) 0 10 [],ab gV 6,[.sl (n245+1) 9 (c246++(cls (sub (el c252 11 (Qr z244)) 0 3) 0 3 (vI 0::cls (sub (el c254 11
 (Qr z244)) 4 5) 0 5 [])))],[.sl n247 31 c248]]))))) (aA Is lf [sub (ab gV 6) 9 5,[.sl n245 9 c246],[vI 4],cls (ab gV 5) 0 4 (vI
 14::vI z243::cls (sub (ab gV 6) 4 3) 0 3 [vI 0]),[.sl n247 31 c248]] λr255=>aH 1 (cell (ab r255 1) 0) λn256 c257=>aH 31
 (cell (ab r255 3) 0) λn258 c259=>az (0<=z243/\z243<(n258:Int)) (az (0<=z243/\z243<(n258:Int)) (aA Is s33 [sub (el (cQ c259
 ((Qr z243)*31+14) (cls (ab r255 0) 0 14 [.sl n256 1 c257])) 31 (Qr z243)) 14 15] λr260=>aw (cell (ab r260 0) 0) λz261
 => aB (decide ((30:Int)<z261)) (aA Is lf [sub (ab gV 6) 9 5,[.sl n245 9 c246],[vI 0],cls (ab r255 2) 0 4 (vI 0::cls (ab r255 2) 5
 5 []),[.sl n258 31 (cQ c259 ((Qr z243)*31+14) (cls (ab r255 0) 0 14 [.sl n256 1 c257]))]] λr262=>aH 1 (cell (ab r262 1) 0) fun
 n263 c264=>aH 31 (cell (ab r262 3) 0) λn265 c266=>az (0<=z243/\z243<(n265:Int)) (az (bt (z243+1)) (vT [[vI z242],[vI
 (z243+1)],ab gV 3,[cell (ab gV 4) 0],cls (ab r262 2) 0 10 [],[.sl n265 31 (cQ c266 ((Qr z243)*31+14) (cls (ab r262 0) 0
 14 [.sl n263 1 c264]))]]))) (az (bt (z243+1)) (vT [[vI z242],[vI (z243+1)],ab gV 3,[cell (ab gV 4) 0],cls (ab r255 2) 0 10
 [],[.sl n258 31 (cQ c259 ((Qr z243)*31+14) (cls (ab r255 0) 0 14 [.sl n256 1 c257]))]])))))) [[vI z234],[vI z235],[vI 0],ab jW
 2,[cell (ab jW 3) 0],cls (ab jW 4) 0 10 [],el c237 31 (Qr z235),[.sl 0 9 []],[.sl n236 31 c237]])))) (aw (cell (ab jW 4)
 3) λz267=>aw (cell (ab jW 4) 3) λz268=>az (0<=z267/\z267=z268/\aO (Qr z267) 25) (Lp (λj2 od=>aw (cell
 (ab od 0) 0) λz271=>aw (cell (ab od 1) 0) λz272=>aH 3 (cell (ab od 4) 0) λn273 c274=>aH 31 (cell (ab od 5) 0)
 λn275 c276=>aB (decide (z272<(n275:Int))) (az (0<=z272/\z272<(n275:Int)) (aw (cell (el c276 31 (Qr z272)) 3) λz277 =>
 aB (decide (z277=(0:Int))) (az (bt (z272+1)) (j2 [[vI z271],[vI (z272+1)],ab od 2,[cell (ab od 3) 0],[.sl n273 3 c274],
 [.sl n275 31 c276]])) (az (0<=z272/\z272<(n275:Int)) (aw (cell (el c276 31 (Qr z272)) 3) λz278=>aB (decide (z278=(1:Int)))
 (az (bt (z272+1)) (j2 [[vI z271],[vI (z272+1)],ab od 2,[cell (ab od 3) 0],[.sl n273 3 c274],[.sl n275 31 c276]])) (az (0 <=
 z272/\z272<(n275:Int)) (aA Is s34 [sub (el c276 31 (Qr z272)) 14 15,[.sl 0 1 []]] λr279=>aH 1 (cell (ab r279 0) 0) λn280
 c281=>Lp (λB0 qc=>aw (cell (ab qc 0) 0) λz284=>aw (cell (ab qc 1) 0) λz285=>aw (cell (ab qc 2) 0) fun
 z286=>aH 3 (cell (ab qc 5) 0) λn287 c288=>aH 1 (cell (ab qc 6) 0) λn289 c290=>aH 31 (cell (ab qc 7) 0) λn291 c292
 => aB (decide (z286<(n289:Int))) (az (0<=z286/\z286<(n289:Int)) (aA Is nG [[vI z284]] λr293=>aw (cell (el c290 1 (Qr
 z286)) 0) λz294=>az (0<=z294/\z294<(n287:Int)) (az (bt (z284+1)) (az (bt (z286+1)) (B0 [[vI (z284+1)],[vI z285],[vI
 (z286+1)],ab qc 3,[cell (ab qc 4) 0],[.sl n287 3 (cQ c288 ((Qr z294)*3+0) (ab r293 0))],[.sl n289 1 c290],[.sl n291 31
 c292]]))))) (az (0<=z285/\z285<(n291:Int)) (aA Is s35 [sub (el c292 31 (Qr z285)) 14 15,[.sl n287 3 c288]] λr295=>aH 15 (cell
 (ab r295 1) 0) λn296 c297=>aH 3 (cell (ab r295 2) 0) λn298 c299=>az (0<=z285/\z285<(n291:Int)) (az (bt (z285+1)) (j2
 [[vI z284],[vI (z285+1)],ab qc 3,[cell (ab qc 4) 0],[.sl n298 3 c299],[.sl n291 31 (cQ c292 ((Qr z285)*31+14) (cls (ab
 r295 0) 0 13 [.sl n296 15 c297,cell (ab r295 0) 13]))]]))))) [[vI z271],[vI z272],[vI 0],ab od 2,[cell (ab od 3) 0],[.sl n273 3
 c274],[.sl n280 1 c281],[.sl n275 31 c276]])))))) (K [[cell (ab od 3) 0,.sl n275 31 c276]])) [[vI z234],[vI 0],ab jW 2,[cell (ab
 jW 3) 0],[.sl (Qr z267) 3 (S5 (QY (Qr z267) [vI 0,vI 0,vI 0]))],[.sl n236 31 c237]])))
theorem yg{α:Type}{enc:α->List D}{sz:Nat}(he:∀x,(enc x).length=sz)(xs:List α){k:Nat}(hk:k<xs.length){o:Nat}{vs:List D}{x':α}(hx:enc x'=(enc xs[k]).take o++vs++(enc xs[k]).drop (o+vs.length))(ho:o+vs.length<=sz):cQ (xs.flatMap enc) (k*sz+o) vs=(xs.set k x').flatMap enc:=by
 have e:xs=xs.take k++xs[k]::xs.drop (k+1):=by simp_all
 have hl:(xs.take k).length=k:=by grind
 have hA:((xs.take k).flatMap enc).length=k*sz:=by rw[List.length_flatMap,TM (g:=λ_=>sz) (λx _=>he x),List.map_const',List.sum_replicate_nat,hl]
 have e2:xs.set k x'=xs.take k++x'::xs.drop (k+1):=by grind
 have e3:xs.flatMap enc=(xs.take k).flatMap enc++(enc xs[k]++(xs.drop (k+1)).flatMap enc):=by
  grind
 rw[e2,QV,QD,e3,hx];generalize(xs.take k).flatMap enc=A at hA ⊢;generalize(xs.drop (k+1)).flatMap enc=B;have hk':=he xs[k];generalize enc xs[k]=X at hk' ⊢;unfold cQ
 rw[T4,UE,hA,Rj (show A.length<=k*sz+o by omega),List.drop_eq_nil_of_le (show A.length<=k*sz+o+vs.length by omega),show k*sz+o-k*sz=o by omega,show k*sz+o+vs.length-k*sz=o+vs.length by omega,
  List.take_append_of_le_length Q0,List.drop_append_of_le_length Q0]
 simp
theorem wF(ds:List aq){k:Nat}(hk:k<ds.length)(e:Ex):cQ (ds.flatMap aq.enc) (k*31+14) e.enc=(ds.set k (ds[k].bE e)).flatMap aq.enc:=by refine yg aq.aP ds hk ?_ (by rw[Ex.aP];decide);rw[Ex.aF];rfl
theorem upd_id(ids:List ar){k:Nat}(hk:k<ids.length)(i:ar):cQ (ids.flatMap ar.enc) (k*3+0) i.enc=(ids.set k i).flatMap ar.enc :=
 yg (enc:=ar.enc) (λ_=>rfl) ids hk rfl (show 0+3<=3 by decide)
theorem O2(n:Nat):S5 (QY n [vI 0,vI 0,vI 0])=(QY n ki).flatMap ar.enc:=by rw[List.flatMap_def,List.map_replicate];rfl
theorem sO{α:Type}{l:List α}{k:Nat}{d:α}(h:k<l.length):l.getD k d=l[k]:=by grind
section
variable {l:List Int} {K:bR->Prop}
structure BI(l:List Int)(ms:List aI)(ds0:List aq)(z:List aq×bY)(i:Nat)(ds:List aq)(s:bY):Prop where
 le:i<=ds0.length
 lk:cN ds ds0
 go:bn ms l (ds0.length-i) i ds s=z
 us:0<=s.pos/\s.pos+(ds0.length-i:Nat)*(2*9 ^ 9)<=100000000000/\0<=s.be/\s.be+(ds0.length-i:Nat)*(2*9 ^ 9)<=100000000000
 nm:∀k (hk:k<ds.length),k<i->¬bare ds[k]->Av s.be ds[k].body/\ds[k].body.size<=100000000000
theorem Mo(_:∀x∈l,lM x){ms:List aI}{ds0:List aq}{z:List aq×bY}(_:0<ms.length)(_:j8 ⟨ms,ds0⟩ 5)(_:iU ⟨ms,ds0⟩)(hd8:ds0.length<=8){nx:Int}{zp:List D}(_:∀d∈ds0,∀x∈d.ah,x.id.seq≠0)
  (hgo:bn ms l ds0.length 0 ds0 ⟨24,0,0,0⟩=z) {B:(bR->Prop)->bR->Prop} {s0:bR} (e0:s0=[[vI nx],[vI 0],zp,[.sl ms.length 6 (ms.flatMap aI.enc)],gp ⟨⟨ms,ds0⟩,l,0,ki⟩ ⟨24,0,0,0⟩,[.sl ds0.length 31 (ds0.flatMap aq.enc)]])
  (h:∀(i:Nat) (ds:List aq) (s:bY) (own:Int) (j3:ar) (next:bR->Prop),BI l ms ds0 z i ds s ->
   (∀ds' s' own' home',BI l ms ds0 z (i+1) ds' s'->next [[vI nx],[vI (i+1:Nat)],zp,[.sl ms.length 6 (ms.flatMap aI.enc)],gp ⟨⟨ms,ds'⟩,l,own',home'⟩ s',[.sl ds'.length 31 (ds'.flatMap aq.enc)]]) ->
   B next [[vI nx],[vI (i:Nat)],zp,[.sl ms.length 6 (ms.flatMap aI.enc)],gp ⟨⟨ms,ds⟩,l,own,j3⟩ s,[.sl ds.length 31 (ds.flatMap aq.enc)]]):Lp B s0:=by
 refine dG (σ:=Nat×List aq×bY×Int×ar) (λy=>[[vI nx],[vI (y.1:Nat)],zp,[.sl ms.length 6 (ms.flatMap aI.enc)],gp ⟨⟨ms,y.2.1⟩,l,y.2.2.2.1,y.2.2.2.2⟩ y.2.2.1,[.sl y.2.1.length 31 (y.2.1.flatMap aq.enc)]]) (λy=>ds0.length-y.1) (λy=>BI l ms ds0 z y.1 y.2.1 y.2.2.1)
  (0,ds0,⟨24,0,0,0⟩,0,ki) ⟨Rr _,cN.refl _,hgo,⟨by grind,by grind,by grind,by grind⟩,λk _ hk=>J3 hk (RP _)⟩ e0 ?_
 rintro⟨i,ds,s,own,j3⟩ next hI hnx
 dsimp only at hI hnx ⊢;refine h i ds s own j3 next hI λds' s' own' home' hI'=>?_
 have:=hI'.le;exact hnx (i+1,ds',s',own',home') Q0 hI'
theorem BI.skip{ms:List aI}{ds0 ds:List aq}{z:List aq×bY}{i:Nat}{s:bY}(h:BI l ms ds0 z i ds s)(hi:i<ds.length)(hb:bare ds[i]):BI l ms ds0 z (i+1) ds s:=by
 have hlen:=h.lk.len;have hle:=h.le;obtain⟨m,hm⟩:∃m,ds0.length-i=m+1:=⟨ds0.length-i-1,Q0⟩;have hgo:=h.go;have hus:=h.us;rw[hm]at hgo hus;rw[bn,sO hi,J2 hb]at hgo;have e1:((m+1:Nat):Int)*(2*9 ^ 9)=m*(2*9 ^ 9)+2*9 ^ 9:=Q0;have h9:(9:Int) ^ 9=387420489:=Q1;refine⟨Q0,h.lk,by grind,Q0,λk hk hlt hnb=>?_⟩;by_cases e:k=i
 .grind
 .exact h.nm k hk Q0 hnb
theorem BI.step{ms:List aI}{ds0 ds:List aq}{z:List aq×bY}{i:Nat}{s:bY}(h:BI l ms ds0 z i ds s)(hd8:ds0.length<=8)(hi:i<ds.length)(hnb:¬bare ds[i])(hb:j8 ⟨ms,ds⟩ 5)(hn:iU ⟨ms,ds⟩)(hsl:∀d∈ds,∀x∈d.ah,x.id.seq≠0) :
  BI l ms ds0 z (i+1) (ds.set i (ds[i].bE (fL ⟨⟨ms,ds⟩,l,i,ds[i].mod⟩ ds[i] ⟨s.pos,s.be,14,0⟩).1)) (fL ⟨⟨ms,ds⟩,l,i,ds[i].mod⟩ ds[i] ⟨s.pos,s.be,14,0⟩).2:=by
 have hlen:=h.lk.len;have hle:=h.le;obtain⟨m,hm⟩:∃m,ds0.length-i=m+1:=⟨ds0.length-i-1,Q0⟩;have hgo:=h.go;have hus:=h.us;rw[hm]at hgo hus;rw[bn,sO hi,J1 hnb]at hgo;have e1:((m+1:Nat):Int)*(2*9 ^ 9)=m*(2*9 ^ 9)+2*9 ^ 9:=Q0;have h9:(9:Int) ^ 9=387420489:=Q1;have hmn:(0:Int)<=m*(2*9 ^ 9):=SX Q0 Q0;have hu:Us (100000000000-(m*(2*9 ^ 9)+2*9 ^ 9)) ⟨s.pos,s.be,14,0⟩:=by have:(m:Int)*(2*9 ^ 9)<=8*(2*9 ^ 9):=VN Q0 Q0;unfold Us;dsimp only;omega
 obtain⟨hu2,T,hT,hmk⟩:=JH (c:=⟨⟨ms,ds⟩,l,i,ds[i].mod⟩) hb hn hi rfl rfl hu Q0;generalize fL ⟨⟨ms,ds⟩,l,i,ds[i].mod⟩ ds[i] ⟨s.pos,s.be,14,0⟩=r at hgo hu2 hmk ⊢;dsimp only at hT;have hin:Av r.2.be r.1:=hmk.Av Q0 λb hb' hs=>by
  obtain⟨x,hx,rfl⟩:=km hb'
  grind
 have hlt:=hmk.lt;have hsz:=hmk.size;unfold Us at hu2;refine⟨Q0,h.lk.set hi _,by grind,Q0,λk hk hlt2 hnb'=>?_⟩;by_cases e:k=i
 .subst e;simp only[SP];refine⟨hin,?_⟩;show r.1.size<=100000000000;omega
 .have hk':k<ds.length:=by simpa using hk
  have eg:(ds.set i (ds[i].bE r.1))[k]=ds[k]:=by grind
  rw[eg]at hnb' ⊢;have:=h.nm k hk' Q0 hnb';exact⟨cn Q0 this.1,this.2⟩
end
set_option maxHeartbeats 1000000
section
variable {l:List Int} {K:bR->Prop}
structure RI(ds0:List aq)(N:Nat)(out:List aq)(i:Nat)(ds:List aq)(ids:List ar)(nx:Int):Prop where
 le:i<=ds0.length
 lk:cN ds ds0
 go:dj (ds0.length-i) i ds ids nx=out
 len:ids.length=N
 nx0:0<=nx
 nx1:nx+(ds0.length-i:Nat)*1000000000000<=100000000000000
 nm:∀k (hk:k<ds.length),i<=k->¬bare ds[k]->Av N ds[k].body/\ds[k].body.size<=100000000000
theorem RI.skip{ds0 ds out:List aq}{N i:Nat}{ids:List ar}{nx:Int}(h:RI ds0 N out i ds ids nx)(hi:i<ds.length)(hb:bare ds[i]):RI ds0 N out (i+1) ds ids nx:=by have hlen:=h.lk.len;have hle:=h.le;obtain⟨m,hm⟩:∃m,ds0.length-i=m+1:=⟨ds0.length-i-1,Q0⟩;have hgo:=h.go;have hnx:=h.nx1;rw[hm]at hgo hnx;rw[dj,sO hi,J2 hb]at hgo;exact⟨Q0,h.lk,by grind,h.len,h.nx0,Q0,λk hk hlt=>h.nm k hk Q0⟩
theorem RI.step{ds0 ds out:List aq}{N i:Nat}{ids:List ar}{nx:Int}(h:RI ds0 N out i ds ids nx)(hi:i<ds.length)(hnb:¬bare ds[i]) :
  RI ds0 N out (i+1) (ds.set i (ds[i].bE (bZ (bB ids ds[i].body.post nx) ds[i].body))) (bB ids ds[i].body.post nx) (nx+ds[i].body.post.length):=by
 have hlen:=h.lk.len;have hle:=h.le;obtain⟨m,hm⟩:∃m,ds0.length-i=m+1:=⟨ds0.length-i-1,Q0⟩;have hgo:=h.go;have hnx:=h.nx1;have hn0:=h.nx0;have hsz:=(h.nm i hi (QW _) hnb).2;have hpl:=Ex.rR ds[i].body;rw[hm]at hgo hnx;rw[dj,sO hi,J1 hnb]at hgo;refine⟨Q0,h.lk.set hi _,by grind,by rw[ja];exact h.len,Q0,Q0,λk hk hlt hnb'=>?_⟩;have hk':k<ds.length:=by grind
 have eg:(ds.set i (ds[i].bE (bZ (bB ids ds[i].body.post nx) ds[i].body)))[k]=ds[k]:=by grind
 rw[eg]at hnb' ⊢;exact h.nm k hk' Q0 hnb'
theorem Od{ds0 ds out:List aq}{ids:List ar}{nx:Int}{N:Nat}(hI0:RI ds0 N out 0 ds ids nx){zp md:List D}{B:(bR->Prop)->bR->Prop}{s0:bR}(e0:s0=[[vI nx],[vI 0],zp,md,[.sl N 3 (ids.flatMap ar.enc)],[.sl ds.length 31 (ds.flatMap aq.enc)]])
  (h:∀(i:Nat) (ds:List aq) (ids:List ar) (nx:Int) (next:bR->Prop),RI ds0 N out i ds ids nx ->
   (∀ds' ids' nx',RI ds0 N out (i+1) ds' ids' nx'->next [[vI nx'],[vI (i+1:Nat)],zp,md,[.sl N 3 (ids'.flatMap ar.enc)],[.sl ds'.length 31 (ds'.flatMap aq.enc)]]) ->
   B next [[vI nx],[vI (i:Nat)],zp,md,[.sl N 3 (ids.flatMap ar.enc)],[.sl ds.length 31 (ds.flatMap aq.enc)]]):Lp B s0:=by
 refine dG (σ:=Nat×List aq×List ar×Int) (λy=>[[vI y.2.2.2],[vI (y.1:Nat)],zp,md,[.sl N 3 (y.2.2.1.flatMap ar.enc)],[.sl y.2.1.length 31 (y.2.1.flatMap aq.enc)]]) (λy=>ds0.length-y.1) (λy=>RI ds0 N out y.1 y.2.1 y.2.2.1 y.2.2.2) (0,ds,ids,nx) hI0 e0 ?_;rintro⟨i,ds,ids,nx⟩ next hI hnx
 dsimp only at hI hnx ⊢;refine h i ds ids nx next hI λds' ids' nx' hI'=>?_
 have:=hI'.le;exact hnx (i+1,ds',ids',nx') Q0 hI'
theorem uZ(hl:∀x∈l,lM x){ms:List aI}{ds0:List aq}(hm:0<ms.length)(hb:j8 ⟨ms,ds0⟩ 5)(hn:iU ⟨ms,ds0⟩)(hd8:ds0.length<=8){nx:Int}(hnx0:0<=nx/\nx<=1000000)(hsl:∀d∈ds0,∀x∈d.ah,x.id.seq≠0){zp:List D}
  (hK:K [[.sl ms.length 6 (ms.flatMap aI.enc),.sl (dj ds0.length 0 (bn ms l ds0.length 0 ds0 ⟨24,0,0,0⟩).1 (QY (bn ms l ds0.length 0 ds0 ⟨24,0,0,0⟩).2.be.toNat ki) nx).length 31 ((dj ds0.length 0 (bn ms l ds0.length 0 ds0 ⟨24,0,0,0⟩).1 (QY (bn ms l ds0.length 0 ds0 ⟨24,0,0,0⟩).2.be.toNat ki) nx).flatMap aq.enc)]]) :
  oE (la Qu) K [[vI nx],[vI 0],zp,[.sl ms.length 6 (ms.flatMap aI.enc)],gp ⟨⟨ms,ds0⟩,l,0,ki⟩ ⟨24,0,0,0⟩,[.sl ds0.length 31 (ds0.flatMap aq.enc)]]:=by
 unfold oE;generalize hz:bn ms l ds0.length 0 ds0 ⟨24,0,0,0⟩=z at hK;refine Mo hl hm hb hn hd8 hsl hz rfl λi ds s own j3 next hI hnx=>?_
 have hlen:=hI.lk.len;have hle:=hI.le;have hbd:j8 ⟨ms,ds⟩ 5:=hb.mv hI.lk;have hnd:iU ⟨ms,ds⟩:=hn.mv hI.lk;simp only[aj,cV];refine⟨λh=>?_,λh=>?_⟩
 .have hi:i<ds.length:=Q0;rw[gw _ hi];simp only[aj,aG];have hmem:=QB hi;refine⟨Q0,λk0=>⟨Q4,hnx ds s own j3 (hI.skip hi (.inl k0))⟩,λk0=>⟨λk1=>⟨Q4,hnx ds s own j3 (hI.skip hi (.inr k1))⟩,λk1=>?_⟩⟩;have hnb:¬bare ds[i]:=λh=>h.elim k0 k1;have h3:=hbd.gen.fE _ hmem;refine aZ ds[i].ah.length (λk=>[[vI nx],[vI (i:Nat)],[vI (k:Nat)],zp,[.sl ms.length 6 (ms.flatMap aI.enc)],gp ⟨⟨ms,ds⟩,l,own,j3⟩ s,ds[i].enc,[.sl k 9 (((bQ ds[i]).take k).flatMap cd.enc)],[.sl ds.length 31 (ds.flatMap aq.enc)]]) (λ_=>True) trivial rfl λk kH hk _ hn2=>?_;simp only[aj,cV,aG];refine⟨λhk1=>?_,λhk1=>?_⟩
  .have hk2:k<ds[i].ah.length:=Q0;rw[oU _ hk2];simp only[aj,aG];have:=hn2 hk2 trivial;have he:k<(bQ ds[i]).length:=by rw[uw];exact hk2
   rw[Qv he,QV,QD,Ro,QF]at this;have eb:(bQ ds[i])[k]=⟨ds[i].ah[k].id,0,ds[i].ah[k].ty⟩:=by simp[bQ]
   rw[eb]at this;exact⟨Q0,Q0,Qa,Q4,this⟩
  .obtain rfl:k=ds[i].ah.length:=Q0;have el:ds[i].ah.length=(bQ ds[i]).length:=(uw _).symm;rw[Rj Q0];have hc:Ctx ⟨⟨ms,ds⟩,l,i,ds[i].mod⟩ 5:=⟨hbd.gen,hl,hm,hbd.d0,hbd.d1,hbd.sty,hbd.rty⟩
   have fit:∀dp:Int,rW ⟨ms,ds⟩ 5 9 ds[i].au dp->(0<=dp/\dp<=4)->Fit ⟨⟨ms,ds⟩,l,i,ds[i].mod⟩ 5 9 ds[i].au (bQ ds[i]) dp:=λdp ho hr=>⟨by have:=hbd.e0 _ hmem;omega,Q0,λb hb'=>by
     obtain⟨x,hx,rfl⟩:=km hb';exact hbd.gen.Dk _ hmem x hx,λb hb'=>by
     obtain⟨x,hx,rfl⟩:=km hb'
     exact hbd.sty _ hmem x hx,hbd.rty _ hmem,ho,Q0⟩
   have hus:=hI.us;have h9:(9:Int) ^ 9=387420489:=Q1;have hm0:(0:Int)<=(ds0.length-i:Nat)*(2*9 ^ 9):=SX Q0 Q0;have hu:Us 100000000000 ⟨s.pos,s.be,14,0⟩:=by unfold Us;dsimp only;omega
   have hw:=hbd.resA _ hmem;refine aa (by rw[el];exact yq hc 9 ds[i].au (bQ ds[i]) 4 ⟨s.pos,s.be,14,0⟩ (fit 4 (NZ hw) Q0) (hu.bd Q0)) ?_;have hu1:=FO (dz (c:=⟨⟨ms,ds⟩,l,i,ds[i].mod⟩) hbd.gen.fE 9) (show(0:Int)<=9 ^ 9 by omega) (t:=ds[i].au) (env:=bQ ds[i]) (d:=4) hu Q0
   have hmk:=sU (c:=⟨⟨ms,ds⟩,l,i,ds[i].mod⟩) (hbd.gctx hnd) 9 ds[i].au (bQ ds[i]) 4 ⟨s.pos,s.be,14,0⟩ (by have:=hbd.e0 _ hmem;omega) (λb hb'=>by
     obtain⟨x,hx,rfl⟩:=km hb'
     exact⟨hbd.gen.Dk _ hmem x hx,hnd.gs _ hmem x hx⟩) (NZ hw) (hnd.gr _ hmem)
   have hst:=hI.step hd8 hi hnb hbd hnd (FX hI.lk hsl);have hbo:fL ⟨⟨ms,ds⟩,l,i,ds[i].mod⟩ ds[i] ⟨s.pos,s.be,14,0⟩=if 30<(ay ⟨⟨ms,ds⟩,l,i,ds[i].mod⟩ 9 ds[i].au (bQ ds[i]) 4 ⟨s.pos,s.be,14,0⟩).1.size then ay ⟨⟨ms,ds.set i (ds[i].bE (ay ⟨⟨ms,ds⟩,l,i,ds[i].mod⟩ 9 ds[i].au (bQ ds[i]) 4 ⟨s.pos,s.be,14,0⟩).1)⟩,l,i,ds[i].mod⟩ 9 ds[i].au (bQ ds[i]) 0 ⟨(ay ⟨⟨ms,ds⟩,l,i,ds[i].mod⟩ 9 ds[i].au (bQ ds[i]) 4 ⟨s.pos,s.be,14,0⟩).2.pos,(ay ⟨⟨ms,ds⟩,l,i,ds[i].mod⟩ 9 ds[i].au (bQ ds[i]) 4 ⟨s.pos,s.be,14,0⟩).2.be,0,(ay ⟨⟨ms,ds⟩,l,i,ds[i].mod⟩ 9 ds[i].au (bQ ds[i]) 4 ⟨s.pos,s.be,14,0⟩).2.name⟩ else ay ⟨⟨ms,ds⟩,l,i,ds[i].mod⟩ 9 ds[i].au (bQ ds[i]) 4 ⟨s.pos,s.be,14,0⟩:=rfl
   rw[hbo]at hst;have hsz:=hmk.size;generalize ay ⟨⟨ms,ds⟩,l,i,ds[i].mod⟩ 9 ds[i].au (bQ ds[i]) 4 ⟨s.pos,s.be,14,0⟩=r at hu1 hst hsz ⊢;simp only[aj,cV];refine⟨Q0,Q0,?_⟩;rw[sI,wF ds hi,gw _ (show i<(ds.set i (ds[i].bE r.1)).length by grind)];simp only[aG,SP];have hu1':=hu1;unfold Us at hu1';dsimp only at hsz;refine aa (D7 r.1 Q0) ?_;simp only[aj];refine⟨λh30=>?_,λh30=>?_⟩
   .rw[J2 Q0]at hst;have hlk:=hI.lk.set hi r.1;have hbd2:j8 ⟨ms,ds.set i (ds[i].bE r.1)⟩ 5:=hb.mv hlk;have hc2:Ctx ⟨⟨ms,ds.set i (ds[i].bE r.1)⟩,l,i,ds[i].mod⟩ 5:=⟨hbd2.gen,hl,hm,hbd2.d0,hbd2.d1,hbd2.sty,hbd2.rty⟩;have hl2:cN (ds.set i (ds[i].bE r.1)) ds:=(cN.refl ds).set hi r.1;have fit2:Fit ⟨⟨ms,ds.set i (ds[i].bE r.1)⟩,l,i,ds[i].mod⟩ 5 9 ds[i].au (bQ ds[i]) 0:=by have f:=fit 0 (N0 hw) Q0;exact⟨f.e0,f.e1,λb hb'=>hl2.wf _ _ (f.ew b hb'),f.es,f.ts,N0 (hl2.wf _ _ hw),f.dp⟩
    have hu0:Us (100000000000+9 ^ 9) ⟨r.2.pos,r.2.be,0,r.2.name⟩:=by unfold Us;dsimp only;omega
    have hcall:=yq hc2 9 ds[i].au (bQ ds[i]) 0 ⟨r.2.pos,r.2.be,0,r.2.name⟩ fit2 (hu0.bd Q0);simp only[cV,cf,Sl,<-el]at hcall;refine aa hcall ?_;clear hcall;generalize ay ⟨⟨ms,ds.set i (ds[i].bE r.1)⟩,l,i,ds[i].mod⟩ 9 ds[i].au (bQ ds[i]) 0 ⟨r.2.pos,r.2.be,0,r.2.name⟩=r2 at hst ⊢;simp only[aj];rw[sI,wF (ds.set i (ds[i].bE r.1)) (show i<(ds.set i (ds[i].bE r.1)).length by grind)];have:=hnx _ _ i ds[i].mod hst;refine⟨Q0,Q4,?_⟩;simp only[SP,List.set_set];rw[Sl]at this;exact this
   .rw[J1 Q0]at hst;have:=hnx _ _ i ds[i].mod hst;refine⟨Q4,?_⟩;rw[Sl]at this;exact this
 .have hiL:i=ds0.length:=Q0;have hgo:=hI.go;rw[hiL,Nat.sub_self,bn]at hgo;obtain⟨ht0,ht1⟩:0<=s.be/\s.be<=100000000000:=by have hus:=hI.us;omega
  have hN:(s.be.toNat:Int)=s.be:=Q0;have hnm:=hI.nm;rw[<-hgo]at hK;dsimp only at hK;refine⟨⟨ht0,trivial,Qa⟩,?_⟩;rw[O2];refine Od (out:=dj ds0.length 0 ds (QY s.be.toNat ki) nx) (N:=s.be.toNat) (ds0:=ds0) ⟨Rr _,hI.lk,by grind,Q2,hnx0.1,Q0,λk hk _ hnb=>by grind⟩ rfl λi ds ids nx next hI2 hnx2=>?_
  clear hnx hgo hnm hI hlen hle hiL;have hlen:=hI2.lk.len;have hle:=hI2.le;have hn0:=hI2.nx0;have hn1:=hI2.nx1;have hm0:(0:Int)<=(ds0.length-i:Nat)*1000000000000:=Q0;simp only[aj];refine⟨λh=>?_,λh=>?_⟩
  .have hi:i<ds.length:=Q0;rw[gw _ hi];simp only[aj,aG];refine⟨Q0,λk0=>⟨Q4,hnx2 ds ids nx (hI2.skip hi (.inl k0))⟩,λk0=>⟨Q0,λk1=>⟨Q4,hnx2 ds ids nx (hI2.skip hi (.inr k1))⟩,λk1=>⟨Q0,?_⟩⟩⟩;have hnb:¬bare ds[i]:=λh=>h.elim k0 k1;obtain⟨hin,hsz⟩:=hI2.nm i hi (QW _) hnb;have hpl:=Ex.rR ds[i].body;have hnum:=Af ds[i].body [] Qc;simp only[bU,TL,R5,Rk]at hnum;refine aa hnum ?_;simp only[aj];have hst:=hI2.step hi hnb;have hln:=hI2.len;refine aZ ds[i].body.post.length (λk=>[[vI (nx+(k:Nat))],[vI (i:Nat)],[vI (k:Nat)],zp,[.sl ms.length 6 (ms.flatMap aI.enc)],[.sl s.be.toNat 3 ((bB ids (ds[i].body.post.take k) nx).flatMap ar.enc)],[.sl ds[i].body.post.length 1 (ds[i].body.post.map ai)],[.sl ds.length 31 (ds.flatMap aq.enc)]]) (λ_=>True) trivial (by rw[TZ,UF];rfl) λk IX hk _ hn3=>?_;simp only[aj];refine⟨λhk1=>?_,λhk1=>?_⟩
   .have hk2:k<ds[i].body.post.length:=Q0;rw[ux _ hk2];simp only[aj];have hr:=EB hin _ (QB hk2);have hpl2:ds[i].body.post.length<=100000000000:=Q0;refine⟨Q0,aa (lN Q0 (by unfold lM;omega)) ?_⟩;simp only[aj];have hkl:(ds[i].body.post[k]).toNat<(bB ids (ds[i].body.post.take k) nx).length:=by rw[ja,hln];omega
    rw[upd_id _ hkl];have:=hn3 hk2 trivial;rw[Qv hk2,qe,Rf,RU Q0]at this;rw[show nx+(k:Int)+1=nx+((k+1:Nat):Int) by omega];exact⟨Q0,Q4,Q4,this⟩
   .obtain rfl:k=ds[i].body.post.length:=Q0;rw[Re];have hlp:(bB ids ds[i].body.post nx).length=s.be.toNat:=by rw[ja,hln]
    have hren:=xh (bB ids ds[i].body.post nx) ds[i].body (by grind) Q0;simp only[rnR]at hren;rw[hlp]at hren;rw[gw _ hi];simp only[aG];refine⟨Q0,aa hren ?_⟩;simp only[aj];have:=hnx2 _ _ _ hst;rw[sI,wF _ hi];rw[Sl]at this;exact⟨Q0,Q4,this⟩
  .have hgo2:=hI2.go;rw[show ds0.length-i=0 by omega,dj]at hgo2;rw[<-hgo2]at hK;exact hK
end
set_option maxHeartbeats 1000000
def g8c(Is:Cx)(a:bR)(K:bR->Prop):Prop:=aA Is rk [[cell (ab a 0) 0],[vI 0],[vI 2]] λr1=>aw (cell (ab r1 0) 0) λz2=>az (bt (1+z2)) (aB (decide ((0:Int)<(1+z2)))
 (aA Is nG [[vI 0]] λr3=>az (0<=(0:Int)/\(0:Int)<(2:Int)) (az (aO (0+1) 89) (az (bt (0+1:Int)) (aB (decide ((1:Int) <
 (1+z2))) (aA Is nG [[vI 1]] λr4=>az (0<=(1:Int)/\(1:Int)<(2:Int)) (aA Is nG [[vI 0]] λr5=>az (aO (1+1) 89) (az (bt
 (1+1:Int)) (aB (decide ((2:Int)<(1+z2))) (aA Is nG [[vI 2]] λ_=>az (0<=(2:Int)/\(2:Int)<(2:Int)) (az (aO (2+1) 89)
 (az (bt (2+1:Int)) (False)))) (aA Is s31 [[cell (ab a 0) 0],[vI (1+z2)]] λr7=>aH 11 (cell (ab r7 0) 0) λn8 c9=>az (bt ((1
 + z2)+(n8:Int))) (Lp (λsq jx=>aw (cell (ab jx 1) 0) λz186=>aw (cell (ab jx 2) 0) λz187=>aw (cell (ab jx
 3) 0) λz188=>aH 11 (cell (ab jx 5) 0) λn189 c190=>aH 31 (cell (ab jx 7) 0) λn191 c192=>aH 3 (cell (ab jx 8) 0) fun
 n193 c194=>aH 3 (cell (ab jx 9) 0) λn195 c196=>aH 3 (cell (ab jx 10) 0) λn197 c198=>aB (decide (z188<(n189:Int))) (az
 (bt (z186+z188)) (aA Is nG [[vI (z186+z188)]] λr199=>az (0<=z188/\z188<(n189:Int)) (az (0<=z188/\z188<(n189:Int)) (aA Is
 nG [[cell (el c190 11 (Qr z188)) 10]] λr200=>az (0<=z188/\z188<(n189:Int)) (az (0<=z188/\z188<(n189:Int)) (Lp (fun
 so du=>aw (cell (ab du 1) 0) λz203=>aw (cell (ab du 2) 0) λz204=>aw (cell (ab du 3) 0) λz205=>aw (cell
 (ab du 4) 0) λz206=>aH 11 (cell (ab du 6) 0) λn207 c208=>aH 31 (cell (ab du 9) 0) λn209 c210=>aH 11 (cell (ab
 du 10) 0) λn211 c212=>aH 3 (cell (ab du 11) 0) λn213 c214=>aH 3 (cell (ab du 12) 0) λn215 c216=>aH 3 (cell (ab
 du 13) 0) λn217 c218=>az (0<=z205/\z205<(n207:Int)) (aH 5 (cell (el c208 11 (Qr z205)) 2) λn219 _=>aB (decide (z206 <
 (n219:Int))) (aA Is nG [[vI z204]] λr221=>az (0<=z205/\z205<(n207:Int)) (aH 1 (cell (el c208 11 (Qr z205)) 3) λn222 c223
 => az (0<=z206/\z206<(n222:Int)) (az (0<=z205/\z205<(n207:Int)) (aH 5 (cell (el c208 11 (Qr z205)) 2) λn224 c225=>az (0
 <= z206/\z206<(n224:Int)) (aw (cell (ab du 7) 3) λz226=>aB (decide (z226=(4:Int))) (az (0<=z205/\z205<(n207:Int)) (aH 1
 (cell (el c208 11 (Qr z205)) 4) λn227 c228=>az (0<=z206/\z206<(n227:Int)) (az (aO (n211+1) 113) (az (bt (z204+1)) (az
 (bt (z206+1)) (so [[cell (ab du 0) 0],[vI z203],[vI (z204+1)],[vI z205],[vI (z206+1)],ab du 5,[.sl n207 11 c208],cls (ab
 du 7) 0 30 [],cls (ab du 8) 0 9 [],[.sl n209 31 c210],[.sl (n211+1) 11 (c212++(cls (ab r221 0) 0 3 (cell (el c223 1 (Qr z206))
 0::cls (el c225 5 (Qr z206)) 0 5 [cell (el c228 1 (Qr z206)) 0,vI z206])))],[.sl n213 3 c214],[.sl n215 3 c216],[.sl n217 3
 c218]])))))) (az (aO (n211+1) 113) (az (bt (z204+1)) (az (bt (z206+1)) (so [[cell (ab du 0) 0],[vI z203],[vI (z204+1)],
 [vI z205],[vI (z206+1)],ab du 5,[.sl n207 11 c208],cls (ab du 7) 0 30 [],cls (ab du 8) 0 9 [],[.sl n209 31 c210],[.sl (n211 +
 1) 11 (c212++(cls (ab r221 0) 0 3 (cell (el c223 1 (Qr z206)) 0::cls (el c225 5 (Qr z206)) 0 5 [vI 0,vI z206])))],[.sl n213 3
 c214],[.sl n215 3 c216],[.sl n217 3 c218]]))))))))) (az (aO (n209+1) 353) (az (0<=z205/\z205<(n207:Int)) (az (0<=z205/\z205<(n207
 : Int)) (aw (cell (el c208 11 (Qr z205)) 10) λz229=>az (0<=z229/\z229<((2:Nat):Int)) (aB (decide (z229=((0:Nat):Int)))
 (az (aO (n213+1) 25) (aw (cell (el c208 11 (Qr z205)) 10) λz230=>az (0<=z230/\z230<((2:Nat):Int)) (aB (decide (z230 =
 ((0:Nat):Int))) (az (bt (z205+1)) (sq [[cell (ab du 0) 0],[vI z203],[vI z204],[vI (z205+1)],ab du 5,[.sl n207 11 c208],
 cls (ab du 8) 0 9 [],[.sl (n209+1) 31 (c210++(cls (ab du 7) 0 8 (.sl n211 11 c212::cls (ab du 7) 8 22 [])))],[.sl (n213+1) 3
 (c214++(cls (ab du 7) 0 3 []))],[.sl n215 3 c216],[.sl n217 3 c218]])) (aB (decide (z230=((1:Nat):Int))) (az (bt (z205+1))
 (False)) (False))))) (aB (decide (z229=((1:Nat):Int))) (az (aO (n217+1) 25) (aw (cell (el c208 11 (Qr z205)) 10) λz231 =>
 az (0<=z231/\z231<((2:Nat):Int)) (aB (decide (z231=((0:Nat):Int))) (az (bt (z205+1)) (False)) (aB (decide (z231=((1:Nat) :
 Int))) (az (bt (z205+1)) (sq [[cell (ab du 0) 0],[vI z203],[vI z204],[vI (z205+1)],ab du 5,[.sl n207 11 c208],cls (ab
 du 8) 0 9 [],[.sl (n209+1) 31 (c210++(cls (ab du 7) 0 8 (.sl n211 11 c212::cls (ab du 7) 8 22 [])))],[.sl n213 3 c214],[.sl n215
 3 c216],[.sl (n217+1) 3 (c218++(cls (ab du 7) 0 3 []))]])) (False))))) (False))))))))) [[cell (ab jx 0) 0],[vI z186],[vI z187],[vI
 z188],[vI 0],ab jx 4,[.sl n189 11 c190],cls (ab r199 0) 0 3 (cell (el c190 11 (Qr z188)) 0::cls (ab r200 0) 0 3 (cell (el c190 11
 (Qr z188)) 1::cls (sub (el c190 11 (Qr z188)) 5 5) 0 5 ([vI 0,vI 0,vI 0,vI 0,vI 0,vI 0,vI 0,vI 0,vI 0,vI 0,vI 0,vI 0,.sl
 0 5 [],.sl 0 15 [],.sl 0 1 [],vI 0,.sl 0 1 []]))),cls (ab jx 6) 0 9 [],[.sl n191 31 c192],[.sl 0 11 []],[.sl n193 3 c194],[.sl n195 3
 c196],[.sl n197 3 c198]])))))) (oE Is K [[vI z187],[vI 0],ab jx 4,[.sl 2 6 (cls (ab jx 6) 0 5 (.sl n193 3 c194::cls (ab jx
 6) 5 4 [.sl n195 3 c196,.sl n197 3 c198]))],[.sl 2 6 (cls (ab jx 6) 0 5 (.sl n193 3 c194::cls (ab jx 6) 5 4 [.sl n195 3 c196,.sl n197 3
 c198])),cell (ab jx 0) 0,vI 24,vI 0,vI 0,vI 0,vI 0,vI 0,vI 0,vI 0],[.sl n191 31 c192]])) [[cell (ab a 0) 0],[vI (1+z2)],[vI ((1 +
 z2)+(n8:Int))],[vI 0],[.sl 0 6 [],.sl 0 31 []],[.sl n8 11 c9],cls (ab r3 0) 0 3 (cell (el ([vS (QX #[99,111,114,101]),vS
 (QX #[109,105,108,108])]) 1 0) 0::.sl 0 3 []::cls (ab r4 0) 0 3 ([cell (el ([vS (QX #[99,111,114,101]),vS
 (QX #[109,105,108,108])]) 1 1) 0])),[.sl 0 31 []],[.sl 0 3 []],[.sl 1 3 ((ab r5 0)++[])],[.sl 0 3 []]])))))) (aA Is s31 [[cell
 (ab a 0) 0],[vI (1+z2)]] λr300=>aH 11 (cell (ab r300 0) 0) λn301 c302=>az (bt ((1+z2)+(n301:Int))) (Lp (λBZ lZ
 => aw (cell (ab lZ 1) 0) λz438=>aw (cell (ab lZ 2) 0) λz439=>aw (cell (ab lZ 3) 0) λz440=>aH 11 (cell (ab lZ
 5) 0) λn441 c442=>aH 31 (cell (ab lZ 7) 0) λn443 c444=>aH 3 (cell (ab lZ 8) 0) λn445 c446=>aB (decide (z440<(n441 :
 Int))) (az (bt (z438+z440)) (aA Is nG [[vI (z438+z440)]] λr447=>az (0<=z440/\z440<(n441:Int)) (az (0<=z440/\z440<(n441 :
 Int)) (aA Is nG [[cell (el c442 11 (Qr z440)) 10]] λr448=>az (0<=z440/\z440<(n441:Int)) (az (0<=z440/\z440<(n441:Int))
 (Lp (λsm fD=>aw (cell (ab fD 1) 0) λz451=>aw (cell (ab fD 2) 0) λz452=>aw (cell (ab fD 3) 0) λz453 =>
 aw (cell (ab fD 4) 0) λz454=>aH 11 (cell (ab fD 6) 0) λn455 c456=>aH 31 (cell (ab fD 9) 0) λn457 c458=>aH 11
 (cell (ab fD 10) 0) λn459 c460=>aH 3 (cell (ab fD 11) 0) λn461 c462=>az (0<=z453/\z453<(n455:Int)) (aH 5 (cell (el c456
 11 (Qr z453)) 2) λn463 _=>aB (decide (z454<(n463:Int))) (aA Is nG [[vI z452]] λr465=>az (0<=z453/\z453<(n455:Int))
 (aH 1 (cell (el c456 11 (Qr z453)) 3) λn466 c467=>az (0<=z454/\z454<(n466:Int)) (az (0<=z453/\z453<(n455:Int)) (aH 5
 (cell (el c456 11 (Qr z453)) 2) λn468 c469=>az (0<=z454/\z454<(n468:Int)) (aw (cell (ab fD 7) 3) λz470=>aB (decide
 (z470=(4:Int))) (az (0<=z453/\z453<(n455:Int)) (aH 1 (cell (el c456 11 (Qr z453)) 4) λn471 c472=>az (0<=z454/\z454 <
 (n471:Int)) (az (aO (n459+1) 113) (az (bt (z452+1)) (az (bt (z454+1)) (sm [[cell (ab fD 0) 0],[vI z451],[vI (z452+1)],
 [vI z453],[vI (z454+1)],ab fD 5,[.sl n455 11 c456],cls (ab fD 7) 0 30 [],cls (ab fD 8) 0 5 [],[.sl n457 31 c458],[.sl (n459 +
 1) 11 (c460++(cls (ab r465 0) 0 3 (cell (el c467 1 (Qr z454)) 0::cls (el c469 5 (Qr z454)) 0 5 [cell (el c472 1 (Qr z454))
 0,vI z454])))],[.sl n461 3 c462]])))))) (az (aO (n459+1) 113) (az (bt (z452+1)) (az (bt (z454+1)) (sm [[cell (ab fD 0) 0],
 [vI z451],[vI (z452+1)],[vI z453],[vI (z454+1)],ab fD 5,[.sl n455 11 c456],cls (ab fD 7) 0 30 [],cls (ab fD 8) 0 5 [],[.sl
 n457 31 c458],[.sl (n459+1) 11 (c460++(cls (ab r465 0) 0 3 (cell (el c467 1 (Qr z454)) 0::cls (el c469 5 (Qr z454)) 0 5 [vI 0,
 vI z454])))],[.sl n461 3 c462]]))))))))) (az (aO (n457+1) 353) (az (0<=z453/\z453<(n455:Int)) (az (0<=z453/\z453<(n455:Int))
 (aw (cell (el c456 11 (Qr z453)) 10) λz473=>az (0<=z473/\z473<((1:Nat):Int)) (aB (decide (z473=((0:Nat):Int))) (az
 (aO (n461+1) 25) (aw (cell (el c456 11 (Qr z453)) 10) λz474=>az (0<=z474/\z474<((1:Nat):Int)) (aB (decide (z474=((0 :
 Nat):Int))) (az (bt (z453+1)) (BZ [[cell (ab fD 0) 0],[vI z451],[vI z452],[vI (z453+1)],ab fD 5,[.sl n455 11 c456],cls
 (ab fD 8) 0 5 [],[.sl (n457+1) 31 (c458++(cls (ab fD 7) 0 8 (.sl n459 11 c460::cls (ab fD 7) 8 22 [])))],[.sl (n461+1) 3 (c462
 ++ (cls (ab fD 7) 0 3 []))]])) (False)))) (False)))))))) [[cell (ab lZ 0) 0],[vI z438],[vI z439],[vI z440],[vI 0],ab lZ 4,[.sl
 n441 11 c442],cls (ab r447 0) 0 3 (cell (el c442 11 (Qr z440)) 0::cls (ab r448 0) 0 3 (cell (el c442 11 (Qr z440)) 1::cls (sub
 (el c442 11 (Qr z440)) 5 5) 0 5 ([vI 0,vI 0,vI 0,vI 0,vI 0,vI 0,vI 0,vI 0,vI 0,vI 0,vI 0,vI 0,.sl 0 5 [],.sl 0 15 [],.sl 0 1
 [],vI 0,.sl 0 1 []]))),cls (ab lZ 6) 0 5 [],[.sl n443 31 c444],[.sl 0 11 []],[.sl n445 3 c446]])))))) (oE Is K [[vI z439],[vI 0],
 ab lZ 4,[.sl 1 6 (cls (ab lZ 6) 0 5 [.sl n445 3 c446])],[.sl 1 6 (cls (ab lZ 6) 0 5 [.sl n445 3 c446]),cell (ab lZ 0) 0,vI 24,
 vI 0,vI 0,vI 0,vI 0,vI 0,vI 0,vI 0],[.sl n443 31 c444]])) [[cell (ab a 0) 0],[vI (1+z2)],[vI ((1+z2)+(n301:Int))],[vI 0],[.sl 0
 6 [],.sl 0 31 []],[.sl n301 11 c302],cls (ab r3 0) 0 3 ([cell (el ([vS (QX #[99,111,114,101]),vS (QX #[109,105,108,
 108])]) 1 0) 0,.sl 0 3 []]),[.sl 0 31 []],[.sl 0 3 []]])))))) (aA Is s31 [[cell (ab a 0) 0],[vI (1+z2)]] λr543=>aH 11 (cell (ab r543
 0) 0) λn544 c545=>az (bt ((1+z2)+(n544:Int))) (Lp (λ_ nF=>aw (cell (ab nF 1) 0) λz548=>aw (cell (ab nF 2) 0)
 λz549=>aw (cell (ab nF 3) 0) λz550=>aH 11 (cell (ab nF 6) 0) λn551 c552=>aH 31 (cell (ab nF 7) 0) λn553 c554 =>
 aB (decide (z550<(n551:Int))) (az (bt (z548+z550)) (aA Is nG [[vI (z548+z550)]] λr555=>az (0<=z550/\z550<(n551:Int)) (az
 (0<=z550/\z550<(n551:Int)) (aA Is nG [[cell (el c552 11 (Qr z550)) 10]] λr556=>az (0<=z550/\z550<(n551:Int)) (az (0 <=
 z550/\z550<(n551:Int)) (Lp (λsj jw=>aw (cell (ab jw 1) 0) λz584=>aw (cell (ab jw 2) 0) λz585=>aw (cell
 (ab jw 3) 0) λz586=>aw (cell (ab jw 4) 0) λz587=>aH 11 (cell (ab jw 7) 0) λn588 c589=>aH 31 (cell (ab jw 9) 0)
 λn590 c591=>aH 11 (cell (ab jw 10) 0) λn592 c593=>az (0<=z586/\z586<(n588:Int)) (aH 5 (cell (el c589 11 (Qr z586))
 2) λn594 _=>aB (decide (z587<(n594:Int))) (aA Is nG [[vI z585]] λr596=>az (0<=z586/\z586<(n588:Int)) (aH 1 (cell (el c589
 11 (Qr z586)) 3) λn597 c598=>az (0<=z587/\z587<(n597:Int)) (az (0<=z586/\z586<(n588:Int)) (aH 5 (cell (el c589 11
 (Qr z586)) 2) λn599 c600=>az (0<=z587/\z587<(n599:Int)) (aw (cell (ab jw 8) 3) λz601=>aB (decide (z601=(4:Int)))
 (az (0<=z586/\z586<(n588:Int)) (aH 1 (cell (el c589 11 (Qr z586)) 4) λn602 c603=>az (0<=z587/\z587<(n602:Int)) (az
 (aO (n592+1) 113) (az (bt (z585+1)) (az (bt (z587+1)) (sj [[cell (ab jw 0) 0],[vI z584],[vI (z585+1)],[vI z586],[vI (z587
 + 1)],ab jw 5,[cell (ab jw 6) 0],[.sl n588 11 c589],cls (ab jw 8) 0 30 [],[.sl n590 31 c591],[.sl (n592+1) 11 (c593++(cls (ab
 r596 0) 0 3 (cell (el c598 1 (Qr z587)) 0::cls (el c600 5 (Qr z587)) 0 5 [cell (el c603 1 (Qr z587)) 0,vI z587])))]]))))))
 (az (aO (n592+1) 113) (az (bt (z585+1)) (az (bt (z587+1)) (sj [[cell (ab jw 0) 0],[vI z584],[vI (z585+1)],[vI z586],[vI
 (z587+1)],ab jw 5,[cell (ab jw 6) 0],[.sl n588 11 c589],cls (ab jw 8) 0 30 [],[.sl n590 31 c591],[.sl (n592+1) 11 (c593 ++
 (cls (ab r596 0) 0 3 (cell (el c598 1 (Qr z587)) 0::cls (el c600 5 (Qr z587)) 0 5 [vI 0,vI z587])))]]))))))))) (az (aO (n590 +
 1) 353) (az (0<=z586/\z586<(n588:Int)) (az (0<=z586/\z586<(n588:Int)) (aw (cell (el c589 11 (Qr z586)) 10) λz604=>aH 6
 (cell (ab jw 6) 0) λn605 _=>az (0<=z604/\z604<(n605:Int)) (False))))))) [[cell (ab nF 0) 0],[vI z548],[vI z549],[vI z550],
 [vI 0],ab nF 4,[cell (ab nF 5) 0],[.sl n551 11 c552],cls (ab r555 0) 0 3 (cell (el c552 11 (Qr z550)) 0::cls (ab r556 0) 0 3
 (cell (el c552 11 (Qr z550)) 1::cls (sub (el c552 11 (Qr z550)) 5 5) 0 5 ([vI 0,vI 0,vI 0,vI 0,vI 0,vI 0,vI 0,vI 0,vI 0,vI
 0,vI 0,vI 0,.sl 0 5 [],.sl 0 15 [],.sl 0 1 [],vI 0,.sl 0 1 []]))),[.sl n553 31 c554],[.sl 0 11 []]])))))) (oE Is K [[vI z549],[vI
 0],ab nF 4,[cell (ab nF 5) 0],[cell (ab nF 5) 0,cell (ab nF 0) 0,vI 24,vI 0,vI 0,vI 0,vI 0,vI 0,vI 0,vI 0],[.sl n553 31
 c554]])) [[cell (ab a 0) 0],[vI (1+z2)],[vI ((1+z2)+(n544:Int))],[vI 0],[.sl 0 6 [],.sl 0 31 []],[.sl 0 6 []],[.sl n544 11 c545],
 [.sl 0 31 []]])))
theorem g8_eq(Is:Cx)(a:bR)(K:bR->Prop):g8 Is a K=g8c Is a K:=rfl
theorem pQ(p:aN)(i:Nat):cell p.enc i=cell [ai p.kind,bM p.name,.sl p.types.length 5 (p.types.flatMap Ty.enc),.sl p.aK.length 1 (p.aK.map bM),.sl p.kX.length 1 (p.kX.map ai),ai p.au.kind,ai p.au.df.aD,ai p.au.df.seq,ai p.au.df.index,.sl p.au.kids.length 5 (p.au.kids.flatMap Ty.enc),ai p.mod] i:=by cases p;rw[aN.iJ];rfl
theorem MU(p:aN):sub p.enc 5 5=p.au.enc:=by cases p;rw[aN.iJ,Ty.aF];rfl
def dL(d:aq):List D:=[ai d.id.aD,ai d.id.seq,ai d.id.index,ai d.kind,ai d.mod.aD,ai d.mod.seq,ai d.mod.index,bM d.name,ai d.au.kind,ai d.au.df.aD,ai d.au.df.seq,ai d.au.df.index,.sl d.au.kids.length 5 (d.au.kids.flatMap Ty.enc),
 ai d.body.id.aD,ai d.body.id.seq,ai d.body.id.index,ai d.body.kind,ai d.body.n,ai d.body.ref.aD,ai d.body.ref.seq,ai d.body.ref.index,ai d.body.ty.kind,ai d.body.ty.df.aD,ai d.body.ty.df.seq,ai d.body.ty.df.index,
  .sl d.body.ty.kids.length 5 (d.body.ty.kids.flatMap Ty.enc),.sl d.body.kids.length 15 (d.body.kids.flatMap Ex.enc),.sl d.body.aK.length 1 (d.body.aK.map bM),ai d.bq,.sl d.cg.length 1 (d.cg.map bM)]
theorem xE{p:aN}{nx:Int}{k:Nat}(hk:k<p.types.length)(hn:p.types.length<=p.aK.length)(hk':k<(cH p nx).length):(cH p nx)[k]=⟨fw (nx+k),p.aK[k]'Q0,p.types[k],if p.kind=4 then p.kX.getD k 0 else 0,k⟩:=by
 unfold cH
 grind
theorem kK(m:Int):∀(ps:List aN) (i:Int),(bL m ps i).length<=ps.length
 |[],_=>QW _
 |p::ps,i=>by rw[bL,QC,QG];have:=kK m ps (i+1);split <;> simp <;> omega
theorem oD(m:Int){ps:List aN}{k:Nat}(hk:k<ps.length)(i:Int):bL m (ps.take (k+1)) i=bL m (ps.take k) i++(if ps[k].mod=m then[fw (i+k)] else[]):=by rw[Qv hk,qh,Rf,RU Q0,bL,bL,QF]
theorem xF{ps:List aN}{k:Nat}(hk:k<ps.length)(i nx:Int):br (ps.take (k+1)) i nx=br (ps.take k) i nx++[jP ps[k] (i+k) (nx+dJ (ps.take k))]:=by rw[Qv hk,nc,Rf,RU Q0,br,br]
theorem tV{ps:List aN}{k:Nat}(hk:k<ps.length):dJ (ps.take (k+1))=dJ (ps.take k)+ps[k].types.length:=by rw[Qv hk,uR,mh];rfl
theorem IJ{ps:List aN}(h:∀p∈ps,p.types.length<=3):∀k,dJ (ps.take k)<=3*k:=by
 intro k;induction k with
 |zero=>simp[dJ]
 |succ k ih =>
  by_cases hk:k<ps.length
  .rw[tV hk];have:=h _ (QB hk);omega
  .rw[Rj Q0]at ih ⊢;omega
theorem prog_is{l:List Int}(hl:∀x∈l,lM x):IS s8 [[bU l]] [(aL l).enc]:=by
 refine w8.is ?_;rw[g8_eq];unfold g8c;simp only[aj];refine aa (Qn Q1 hl) ?_;simp only[aj];have h2:=eD l 0 2 Q0;have hM:ax l=1+er l 0 2:=rfl;have hn1:1<=ax l:=Q0;refine⟨Q4,λ_=>aa (lN Q1 (by unfold lM;omega)) ?_,λh=>J3 (show(0:Int)<1+er l 0 2 by omega) h⟩;simp only[aj];refine⟨Q1,by unfold aO;decide,by unfold bt;decide,λhw=>?_,λhw=>?_⟩
 .refine aa (lN Q1 (by unfold lM;omega)) ?_;simp only[aj];refine⟨Q1,aa (lN Q1 (by unfold lM;omega)) ⟨by unfold aO;decide,by unfold bt;decide,λh=>J3 h Q0,λ_=>?_⟩⟩;have hN:ax l=2:=Q0;rw[<-hM];refine aa (DR hl Q0) ?_;simp only[aj];have hok:=jA (l:=l) hn1;have hlen:=eB l (ax l);have hpt:=IJ λp hp=>(hok p hp).t3;have hb:=A3 l;have hnm:=ue l;have hsq:=qx l;have hfin:(aL l).enc=[.sl (bO l).length 6 ((bO l).flatMap aI.enc),.sl (dj (aV l).length 0 (bn (bO l) l (aV l).length 0 (aV l) ⟨24,0,0,0⟩).1 (QY (bn (bO l) l (aV l).length 0 (aV l) ⟨24,0,0,0⟩).2.be.toNat ki) (gY l)).length 31 ((dj (aV l).length 0 (bn (bO l) l (aV l).length 0 (aV l) ⟨24,0,0,0⟩).1 (QY (bn (bO l) l (aV l).length 0 (aV l) ⟨24,0,0,0⟩).2.be.toNat ki) (gY l)).flatMap aq.enc)]:=rfl;rw[hfin];have hpm:bO l=[⟨fw 0,qg,[],bL 0 (bw l (ax l)) (ax l)⟩,⟨fw 1,Ak,[fw 0],bL 1 (bw l (ax l)) (ax l)⟩]:=by unfold bO;rw[J1 Q0,hN]
  have hds:aV l=br (bw l (ax l)) (ax l) (ax l+(bw l (ax l)).length):=rfl;have hnx:gY l=ax l+(bw l (ax l)).length+dJ (bw l (ax l)):=rfl;rw[hds]at hb hnm hsq ⊢;rw[hnx];rw[hpm]at hb hnm ⊢;clear hfin hds hnx hpm;generalize bw l (ax l)=ps at hok hlen hpt hb hnm hsq ⊢;generalize ax l=n at hn1 hN hok hb hnm hsq ⊢;refine⟨Q4,?_⟩;refine aZ ps.length (λi=>[[bU l],[vI n],[vI (n+ps.length+dJ (ps.take i))],[vI (i:Nat)],[.sl 0 6 [],.sl 0 31 []],[.sl ps.length 11 (ps.flatMap aN.enc)],[ai (fw 0).aD,ai (fw 0).seq,ai (fw 0).index,vS qg,.sl 0 3 [],ai (fw 1).aD,ai (fw 1).seq,ai (fw 1).index,vS Ak],[.sl (br (ps.take i) n (n+ps.length)).length 31 ((br (ps.take i) n (n+ps.length)).flatMap aq.enc)],[.sl (bL 0 (ps.take i) n).length 3 ((bL 0 (ps.take i) n).flatMap ar.enc)],[.sl 1 3 ((fw 0).enc++[])],[.sl (bL 1 (ps.take i) n).length 3 ((bL 1 (ps.take i) n).flatMap ar.enc)]]) (λ_=>True) trivial (by rw[Sz];simp only[dJ,br,bL,R5,YP,TZ,UF];rfl) λi next hi _ hnext=>?_
  have h0:=kK 0 (ps.take i) n;have h1:=kK 1 (ps.take i) n;rw[Rf,RU hi]at h0 h1;simp only[aj];refine⟨λh=>?_,λh=>?_⟩
  .have hk:i<ps.length:=Q0;have ok:=hok _ (QB hk);have hnx:=hnext hk trivial;have hpi:=hpt i;rw[xF hk,tV hk,oD 0 hk,oD 1 hk]at hnx;have hep:=el_Pl ps hk;rw[hep];simp only[aj,pQ];generalize hnxt:n+(ps.length:Int)+(dJ (ps.take i):Int)=nxt at hnx ⊢;generalize ps[i]=p at ok hnx hep ⊢;refine⟨Q4,aa (lN Q0 (by unfold lM;omega)) ⟨Q0,Q0,aa (lN ok.mod.1 (by unfold lM;have:=ok.mod;omega)) ⟨Q0,Q0,?_⟩⟩⟩;have ok3:=ok.t3;refine aZ p.types.length (λk=>[[bU l],[vI n],[vI (nxt+k)],[vI (i:Nat)],[vI (k:Nat)],[.sl 0 6 [],.sl 0 31 []],[.sl ps.length 11 (ps.flatMap aN.enc)],dL (jP p (n+i) nxt),[ai (fw 0).aD,ai (fw 0).seq,ai (fw 0).index,vS qg,.sl 0 3 [],ai (fw 1).aD,ai (fw 1).seq,ai (fw 1).index,vS Ak],[.sl (br (ps.take i) n (n+ps.length)).length 31 ((br (ps.take i) n (n+ps.length)).flatMap aq.enc)],[.sl k 11 (((cH p nxt).take k).flatMap aC.enc)],[.sl (bL 0 (ps.take i) n).length 3 ((bL 0 (ps.take i) n).flatMap ar.enc)],[.sl 1 3 ((fw 0).enc++[])],[.sl (bL 1 (ps.take i) n).length 3 ((bL 1 (ps.take i) n).flatMap ar.enc)]]) (λ_=>True) trivial (by simp only[aj,aG,MU,TZ,UF];rfl) λk kH hkl _ hn2=>?_;simp only[aj];rw[hep];simp only[aj,pQ];have hnames:=ok.aK;have hpsl:=cw p nxt;refine⟨Q0,λh=>?_,λh=>?_⟩
   .have hk2:k<p.types.length:=Q0;refine aa (lN Q0 (by unfold lM;omega)) ?_;rw[ux p.aK (show k<p.aK.length by omega),yv _ hk2];simp only[aj,dL];have hgo:=hn2 hk2 trivial;rw[Qv (show k<(cH p nxt).length by omega),QV,QD,Ro,QF,xE hk2 hnames]at hgo;have hkd:(jP p (n+i) nxt).kind=p.kind:=rfl;have hkk:((nxt+(k:Int))+1)=nxt+((k+1:Nat):Int):=Q0;refine⟨Q0,Q0,Q0,Q0,λh4=>⟨Q0,?_⟩,λh4=>?_⟩
    .have hbs:=ok.kX Q0;rw[ux p.kX (show k<p.kX.length by omega)];simp only[aj];rw[J2 (show p.kind=4 by omega),RX,QQ (show k<p.kX.length by omega)]at hgo;refine⟨Q0,Qa,Q4,Q4,?_⟩;rw[hkk];exact hgo
    .rw[J1 (show ¬p.kind=4 by omega)]at hgo;refine⟨Qa,Q4,Q4,?_⟩;rw[hkk];exact hgo
   .obtain rfl:k=p.types.length:=Q0;rw[Rj (show(cH p nxt).length<=p.types.length by omega)];have hdl2:(br (ps.take i) n (n+ps.length)).length=i:=by rw[cE,Rf];omega
    have hmod:=ok.mod;rw[show n+(ps.length:Int)+((dJ (ps.take i)+p.types.length:Nat):Int)=nxt+(p.types.length:Int) by omega,QV,QD,Ro,QF]at hnx;simp only[QC,QG,TL]at hnx;simp only[aj,dL];refine⟨Qa,Q0,Q0,Q0,λhm0=>⟨Qa,Q0,λ_=>⟨Q4,?_⟩,λh=>J3 hm0 h⟩,λhm0=>⟨λhm1=>⟨Qa,Q0,λh=>J3 h hm0,λ_=>⟨λ_=>⟨Q4,?_⟩,λh=>J3 hm1 h⟩⟩,λhm1=>by omega⟩⟩
    .rw[J2 (show p.mod=0 from hm0),J1 (show ¬p.mod=1 by omega)]at hnx;simp only[QV,QD,Ro,QF,QG,TL,RY]at hnx;rw[<-hpsl];rw[<-hpsl]at hnx;exact hnx
    .rw[J1 (show ¬p.mod=0 from hm0),J2 (show p.mod=1 from hm1)]at hnx;simp only[QV,QD,Ro,QF,QG,TL,RY]at hnx;rw[<-hpsl];rw[<-hpsl]at hnx;exact hnx
  .obtain rfl:i=ps.length:=Q0;rw[Re];refine uZ hl Q2 hb hnm (by rw[cE];omega) (by grind) hsq ?_;rfl
 .have hN:ax l=1:=Q0;rw[<-hM];refine aa (DR hl Q0) ?_;simp only[aj];have hok:=jA (l:=l) hn1;have hlen:=eB l (ax l);have hpt:=IJ λp hp=>(hok p hp).t3;have hb:=A3 l;have hnm:=ue l;have hsq:=qx l;have hfin:(aL l).enc=[.sl (bO l).length 6 ((bO l).flatMap aI.enc),.sl (dj (aV l).length 0 (bn (bO l) l (aV l).length 0 (aV l) ⟨24,0,0,0⟩).1 (QY (bn (bO l) l (aV l).length 0 (aV l) ⟨24,0,0,0⟩).2.be.toNat ki) (gY l)).length 31 ((dj (aV l).length 0 (bn (bO l) l (aV l).length 0 (aV l) ⟨24,0,0,0⟩).1 (QY (bn (bO l) l (aV l).length 0 (aV l) ⟨24,0,0,0⟩).2.be.toNat ki) (gY l)).flatMap aq.enc)]:=rfl;rw[hfin];have hpm:bO l=[⟨fw 0,qg,[],bL 0 (bw l (ax l)) (ax l)⟩]:=by unfold bO;rw[J2 hN,hN]
  have hds:aV l=br (bw l (ax l)) (ax l) (ax l+(bw l (ax l)).length):=rfl;have hnx:gY l=ax l+(bw l (ax l)).length+dJ (bw l (ax l)):=rfl;rw[hds]at hb hnm hsq ⊢;rw[hnx];rw[hpm]at hb hnm ⊢;clear hfin hds hnx hpm;generalize bw l (ax l)=ps at hok hlen hpt hb hnm hsq ⊢;generalize ax l=n at hn1 hN hok hb hnm hsq ⊢;refine⟨Q4,?_⟩;refine aZ ps.length (λi=>[[bU l],[vI n],[vI (n+ps.length+dJ (ps.take i))],[vI (i:Nat)],[.sl 0 6 [],.sl 0 31 []],[.sl ps.length 11 (ps.flatMap aN.enc)],[ai (fw 0).aD,ai (fw 0).seq,ai (fw 0).index,vS qg,.sl 0 3 []],[.sl (br (ps.take i) n (n+ps.length)).length 31 ((br (ps.take i) n (n+ps.length)).flatMap aq.enc)],[.sl (bL 0 (ps.take i) n).length 3 ((bL 0 (ps.take i) n).flatMap ar.enc)]]) (λ_=>True) trivial (by rw[Sz];simp only[dJ,br,bL,R5,YP,TZ,UF];rfl) λi next hi _ hnext=>?_
  have h0:=kK 0 (ps.take i) n;have h1:=kK 1 (ps.take i) n;rw[Rf,RU hi]at h0 h1;simp only[aj];refine⟨λh=>?_,λh=>?_⟩
  .have hk:i<ps.length:=Q0;have ok:=hok _ (QB hk);have hnx:=hnext hk trivial;have hpi:=hpt i;rw[xF hk,tV hk,oD 0 hk]at hnx;have hep:=el_Pl ps hk;rw[hep];simp only[aj,pQ];generalize hnxt:n+(ps.length:Int)+(dJ (ps.take i):Int)=nxt at hnx ⊢;generalize ps[i]=p at ok hnx hep ⊢;refine⟨Q4,aa (lN Q0 (by unfold lM;omega)) ⟨Q0,Q0,aa (lN ok.mod.1 (by unfold lM;have:=ok.mod;omega)) ⟨Q0,Q0,?_⟩⟩⟩;have ok3:=ok.t3;refine aZ p.types.length (λk=>[[bU l],[vI n],[vI (nxt+k)],[vI (i:Nat)],[vI (k:Nat)],[.sl 0 6 [],.sl 0 31 []],[.sl ps.length 11 (ps.flatMap aN.enc)],dL (jP p (n+i) nxt),[ai (fw 0).aD,ai (fw 0).seq,ai (fw 0).index,vS qg,.sl 0 3 []],[.sl (br (ps.take i) n (n+ps.length)).length 31 ((br (ps.take i) n (n+ps.length)).flatMap aq.enc)],[.sl k 11 (((cH p nxt).take k).flatMap aC.enc)],[.sl (bL 0 (ps.take i) n).length 3 ((bL 0 (ps.take i) n).flatMap ar.enc)]]) (λ_=>True) trivial (by simp only[aj,aG,MU,TZ,UF];rfl) λk kH hkl _ hn2=>?_;simp only[aj];rw[hep];simp only[aj,pQ];have hnames:=ok.aK;have hpsl:=cw p nxt;refine⟨Q0,λh=>?_,λh=>?_⟩
   .have hk2:k<p.types.length:=Q0;refine aa (lN Q0 (by unfold lM;omega)) ?_;rw[ux p.aK (show k<p.aK.length by omega),yv _ hk2];simp only[aj,dL];have hgo:=hn2 hk2 trivial;rw[Qv (show k<(cH p nxt).length by omega),QV,QD,Ro,QF,xE hk2 hnames]at hgo;have hkd:(jP p (n+i) nxt).kind=p.kind:=rfl;have hkk:((nxt+(k:Int))+1)=nxt+((k+1:Nat):Int):=Q0;refine⟨Q0,Q0,Q0,Q0,λh4=>⟨Q0,?_⟩,λh4=>?_⟩
    .have hbs:=ok.kX Q0;rw[ux p.kX (show k<p.kX.length by omega)];simp only[aj];rw[J2 (show p.kind=4 by omega),RX,QQ (show k<p.kX.length by omega)]at hgo;refine⟨Q0,Qa,Q4,Q4,?_⟩;rw[hkk];exact hgo
    .rw[J1 (show ¬p.kind=4 by omega)]at hgo;refine⟨Qa,Q4,Q4,?_⟩;rw[hkk];exact hgo
   .obtain rfl:k=p.types.length:=Q0;rw[Rj (show(cH p nxt).length<=p.types.length by omega)];have hdl2:(br (ps.take i) n (n+ps.length)).length=i:=by rw[cE,Rf];omega
    have hmod:=ok.mod;rw[show n+(ps.length:Int)+((dJ (ps.take i)+p.types.length:Nat):Int)=nxt+(p.types.length:Int) by omega,QV,QD,Ro,QF]at hnx;simp only[QC,QG,TL]at hnx;simp only[aj,dL];refine⟨Qa,Q0,Q0,Q0,λhm0=>⟨Qa,Q0,λ_=>⟨Q4,?_⟩,λh=>J3 hm0 h⟩,λhm0=>by omega⟩
    .rw[J2 (show p.mod=0 from hm0)]at hnx;simp only[QV,QD,Ro,QF,QG,TL]at hnx;rw[<-hpsl];rw[<-hpsl]at hnx;exact hnx
  .obtain rfl:i=ps.length:=Q0;rw[Re];refine uZ hl Q2 hb hnm (by rw[cE];omega) (by grind) hsq ?_;rfl
open Go Xe Pm
set_option maxRecDepth 100000
abbrev Ir:bA:=⟨23,⟨[(0,.a 2),(1,.a 3)],[]⟩,.t [.a 31,.c .bo],[],false⟩
abbrev s15:bA:=⟨15,⟨[(0,.a 2)],[]⟩,.t [.c (.w 0),.c (.w 1)],[hR 0 42 3,hR 1 42 3],false⟩
abbrev s63:bA:=⟨63,⟨[(0,.a 2)],[]⟩,.c (.w 0),[hR 0 42 3],false⟩
abbrev s78:bA:=⟨78,⟨[hW 0 0,(1,.c (.f 55 []))],[hR 0 42 3]⟩,.t [],[hR 0 42 3],false⟩
abbrev s79:bA:=⟨79,⟨[hW 0 0],[hR 0 42 3]⟩,.c (.w 1),[hR 1 42 3],false⟩
abbrev s18:bA:=⟨18,⟨[(0,.a 2),(1,.a 3)],[]⟩,.c (.w 0),[hR 0 42 3],false⟩
abbrev FH:bA:=⟨46,⟨[(0,.a 2),(1,.a 3)],[]⟩,.t [.a 31,.c .bo],[],false⟩
abbrev s146:bA:=⟨146,⟨[hD 0,(1,.c (.f 147 [.p 0 0]))],[hA 0 42 3]⟩,.c .i,[hA 0 42 3],false⟩
abbrev s147:bA:=⟨147,⟨[(0,.a 31),hP 1 0],[hA 0 42 3]⟩,.c .bo,[hA 0 42 3],false⟩
abbrev s73:bA:=⟨73,⟨[(0,.a 5)],[]⟩,.c (.w 0),[hR 0 42 3],false⟩
abbrev s49:bA:=⟨49,⟨[(0,.a 31)],[]⟩,.c .bo,[],true⟩
abbrev s74:bA:=⟨74,⟨[(0,.a 15),(1,.c (.f 75 [.p 0 0]))],[(0,.b 36 [.w 1]),hR 1 42 3]⟩,.t [],[(0,.b 36 [.w 2]),hR 2 42 3],false⟩
abbrev s75:bA:=⟨75,⟨[(0,.a 15),hP 1 0],[(0,.b 36 [.w 1]),hR 1 42 3]⟩,.t [],[(0,.b 36 [.w 2]),hR 2 42 3],false⟩
abbrev s76:bA:=⟨76,⟨[hW 0 0,(1,.c (.f 77 [.p 1 0]))],[hR 0 42 3,hA 1 26 2]⟩,.c (.w 2),[hR 2 42 3,hA 1 26 2],false⟩
abbrev s64:bA:=⟨64,⟨[hW 0 0,(1,.c (.f 77 [.p 1 0]))],[hR 0 42 3,hA 1 26 2]⟩,.c .i,[hR 0 42 3,hA 1 26 2],false⟩
abbrev Io:bA:=⟨64,⟨[hW 0 0,(1,.c (.f 65 [.p 1 0,.p 2 0]))],[hR 0 42 3,(1,.b 122 [.m 3]),(2,.b 36 [.w 4]),(3,.m 122 false 1),hR 4 42 3]⟩,.c .i,[hR 0 42 3,(1,.b 122 [.m 3]),(2,.b 36 [.w 4]),(3,.m 122 false 1),hR 4 42 3],false⟩
abbrev Im:bA:=⟨64,⟨[hD 0,(1,.c (.f 67 [.p 0 0]))],[(0,.b 36 [.w 1]),hR 1 42 3]⟩,.c .i,[(0,.b 36 [.w 1]),hR 1 42 3],false⟩
abbrev s77:bA:=⟨77,⟨[(0,.a 3),hP 1 0],[hA 0 26 2]⟩,.c .bo,[hA 0 26 2],false⟩
abbrev s65:bA:=⟨65,⟨[(0,.a 3),hP 1 0,hP 2 1],[(0,.b 122 [.m 2]),(1,.b 36 [.w 3]),(2,.m 122 false 1),hR 3 42 3]⟩,.c .bo,[(0,.b 122 [.m 2]),(1,.b 36 [.w 3]),(2,.m 122 false 1),hR 3 42 3],false⟩
abbrev s66:bA:=⟨66,⟨[hD 0,(1,.c (.f 67 [.p 0 0]))],[(0,.b 36 [.w 1]),hR 1 42 3]⟩,.c .bo,[(0,.b 36 [.w 1]),hR 1 42 3],false⟩
abbrev s67:bA:=⟨67,⟨[(0,.a 3),hP 1 0],[(0,.b 36 [.w 1]),hR 1 42 3]⟩,.c .bo,[(0,.b 36 [.w 1]),hR 1 42 3],false⟩
abbrev s68:bA:=⟨68,⟨[hW 0 0,(1,.a 3)],[hR 0 42 3]⟩,.c .bo,[hR 0 42 3],false⟩
abbrev s160:bA:=⟨160,⟨[hW 0 0,(1,.a 3)],[hR 0 42 3]⟩,.c .i,[hR 0 42 3],false⟩
abbrev s69:bA:=⟨69,⟨[hW 0 0,hI 1,hI 2],[hR 0 42 3]⟩,.c (.w 1),[hR 1 42 3],false⟩
abbrev s161:bA:=⟨161,⟨[(0,.a 3),(1,.a 3)],[]⟩,.c .bo,[],true⟩
abbrev s17:bA:=⟨17,⟨[hD 0,hD 1],[]⟩,.c .bo,[],true⟩
abbrev s14:bA:=⟨14,⟨[],[]⟩,.c .bo,[],false⟩
def g23_1:Tx:=λ_ a K=>(λV1=>jn (λn=>Lp (λc b=>iK b 0 λd=>aH 31 (cell (ab b 1) 1) λo _=>lK d o (aH 31 (cell (ab b 1) 1) λp q=>kI d p (tK (sub (eT q 31 d) 0 3) λe f g=>iK b 2 λh=>aw (cell (ab b 2) 1) λi=>aw (cell (ab b 2) 2) λj=>aB (decide (e=h/\f=i/\g=j)) (aH 31 (cell (ab b 1) 1) λl m=>kI d l (K [eT m 31 d,[vB true]])) (oK d (c [[vI (d+1)],ab b 1,ab b 2,ab b 3])))) (n [ab b 3])) [[vI 0],ab a 0,ab a 1,V1]) (λ_=>K [V1,[vB false]])) [vI 0,vI 0,vI 0,vI 0,vI 0,vI 0,vI 0,.v (.string (QX #[])),.sl 0 11 [],vI 0,vI 0,vI 0,vI 0,.sl 0 5 [],vI 0,vI 0,vI 0,vI 0,vI 0,vI 0,vI 0,vI 0,vI 0,vI 0,vI 0,vI 0,.sl 0 5 [],.sl 0 15 [],.sl 0 1 [],vI 0,.sl 0 1 []]
theorem w23_1:Wd (cD []) ⟨[(2,⟨[hP 2 0,hP 3 1,hP 4 2,hI 6],[hA 0 26 2,hA 1 42 3,hA 2 52 31]⟩)],[(6,⟨[hP 4 0],[hA 0 52 31]⟩)],[]⟩ Ir g23_1:=Wk
def g15:Tx:=λIs a K=>aA Is s63 [ab a 0] λU=>sK 3 U 0 λS V=>jn (λW=>Lp (λi b=>iK b 0 λT=>iK b 1 λh=>sK 3 b 3 λj c=>sK 3 b 4 λr s=>sK 4 b 5 λl m=>aB (decide (h<T)) (kI h j (aA Is s18 [ab b 2,eT c 3 h] λx=>sK 3 x 0 λy z=>aw (cell (eT c 3 h) 0) λt=>aw (cell (eT c 3 h) 1) λu=>aw (cell (eT c 3 h) 2) λv=>oK h (i [[vI T],[vI (h+1)],ab b 2,[.sl j 3 c],[.sl r 3 s],[.sl (fH 4 t u v l m) 4 (cS 4 t u v [.sl y 3 z] l m)]]))) (W [[.sl j 3 c],[.sl r 3 s],[.sl l 4 m]])) [[vI S],[vI 0],ab a 0,[.sl S 3 V],[.sl 0 3 []],[.sl 0 4 []]]) (λn=>sK 3 n 0 λA B=>sK 3 n 1 λC D=>sK 4 n 2 λE F=>Lp (λf e=>sK 3 e 0 λG H=>sK 3 e 1 λI J=>sK 4 e 2 λL M=>aA Is Io [[.sl G 3 H],[.sl L 4 M],[.sl I 3 J]] λg=>iK g 0 λd=>sK 3 g 1 λo p=>sK 4 g 2 λN O=>sK 3 g 3 λq w=>aB (decide (d<(0:Int))) (K [[.sl q 3 w],[.sl o 3 p]]) (kI d o (az (aO (q+1) 25) (oK d (aA Is s69 [[vI d],[vI (d+1)],[.sl o 3 p]] λP=>sK 3 P 0 λQ R=>f [[.sl Q 3 R],[.sl (q+1) 3 (w++((eT p 3 d)++[]))],[.sl N 4 O]]))))) [[.sl A 3 B],[.sl C 3 D],[.sl E 4 F]])
theorem w15:Wd (cD [s18,s63,Io,s69]) ⟨[(5,⟨[hP 1 0,hP 4 1,hW 5 2,hP 6 3,hW 13 2,hI 14,hI 15],[hA 0 26 2,(1,.b 36 [.w 4]),hR 2 42 3,(3,.b 122 [.m 5]),hR 4 42 3,(5,.m 122 false 1)]⟩),(9,⟨[hP 4 0,hW 5 1,hP 6 2],[(0,.b 36 [.w 3]),hR 1 42 3,(2,.b 122 [.m 4]),hR 3 42 3,(4,.m 122 false 1)]⟩)],[(9,⟨[hP 4 0,hW 5 1,hP 6 2],[(0,.b 36 [.w 3]),hR 1 42 3,(2,.b 122 [.m 4]),hR 3 42 3,(4,.m 122 false 1)]⟩)],[]⟩ s15 g15:=Wk
def g63:Tx:=λIs a K=>jn (λt=>aH 31 (cell (ab a 0) 1) λu _=>Lp (λc b=>iK b 1 λs=>iK b 2 λd=>sK 3 b 3 λf e=>aB (decide (d<s)) (sK 31 b 0 λg h=>kI d g (az (aO (f+1) 25) (oK d (c [[Cz b 0],[vI s],[vI (d+1)],[.sl (f+1) 3 (e++((sub (eT h 31 d) 0 3)++[]))]])))) (t [[.sl f 3 e]])) [[cell (ab a 0) 1],[vI u],[vI 0],[.sl 0 3 []]]) (λi=>sK 3 i 0 λj l=>aA Is s78 [[.sl j 3 l]] λm=>sK 3 m 0 λn o=>aA Is s79 [[.sl n 3 o]] λp=>sK 3 p 0 λq r=>K [[.sl q 3 r]])
theorem w63:Wd (cD [s78,s79]) ⟨[(3,⟨[hW 3 0,hD 7,hI 8,hI 9],[hR 0 42 3]⟩)],[(7,⟨[hW 3 0],[hR 0 42 3]⟩)],[]⟩ s63 g63:=Wk
def g79:Tx:=λ_ a K=>sK 3 a 0 λs I=>aB (decide ((s:Int)<(2:Int))) (K [[.sl s 3 I]]) (Lp (λo p=>iK p 0 λg=>sK 3 p 1 λl m=>lK g l (kI g l (az (bt (g-1)) (az (0<=(g-1)/\(g-1)<(l:Int)) (aw (cell (eT m 3 g) 0) λJ=>aw (cell (eT m 3 g) 1) λL=>aw (cell (eT m 3 g) 2) λt=>aw (cell (el m 3 (Qr (g-1))) 0) λu=>aw (cell (el m 3 (Qr (g-1))) 1) λv=>aw (cell (el m 3 (Qr (g-1))) 2) λw=>aB (decide (J=u/\L=v/\t=w)) (az (0<=g/\g<=(l:Int)/\((0:Nat):Int)+l<=((l:Nat):Int)) (Lp (λn h=>iK h 0 λc=>iK h 1 λf=>aw (cell (ab h 1) 1) λj=>iK h 2 λb=>sK 3 h 3 λd e=>aB (decide (b<(((Qr j):Nat):Int))) (jn (λq=>az (0<=b/\b<(((Qr j):Nat):Int)) (az (bt (b-1)) (az (0<=(b-1)/\(b-1)<(((Qr j):Nat):Int)) (aw (cell (el e 3 ((Qr f)+(Qr b))) 0) λx=>aw (cell (el e 3 ((Qr f)+(Qr b))) 1) λy=>aw (cell (el e 3 ((Qr f)+(Qr b))) 2) λz=>aw (cell (el e 3 ((Qr f)+(Qr (b-1)))) 0) λA=>aw (cell (el e 3 ((Qr f)+(Qr (b-1)))) 1) λB=>aw (cell (el e 3 ((Qr f)+(Qr (b-1)))) 2) λC=>aB (!(decide (x=A/\y=B/\z=C))) (az (0<=b/\b<(((Qr j):Nat):Int)) (kI c d (oK c (q [[vI (c+1)],[vI (((Qr f):Nat):Int),vI (((Qr j):Nat):Int)],[vI b],[.sl d 3 (cQ e ((Qr c)*3+0) (el e 3 ((Qr f)+(Qr b))))]])))) (q [[vI c],[vI (((Qr f):Nat):Int),vI (((Qr j):Nat):Int)],[vI b],[.sl d 3 e]]))))) (λi=>iK i 0 λD=>iK i 1 λE=>aw (cell (ab i 1) 1) λF=>iK i 2 λr=>sK 3 i 3 λG H=>oK r (n [[vI D],[vI (((Qr E):Nat):Int),vI (((Qr F):Nat):Int)],[vI (r+1)],[.sl G 3 H]]))) (az (0<=c/\c<=(d:Int)/\((0:Nat):Int)+d<=((d:Nat):Int)) (az (3=3/\((0+(Qr c))+((Qr (d:Int))-(Qr c)))<=d/\((Qr (d:Int))-(Qr c))<=1000000000000000) (az (0<=c/\c<=((d:Nat):Int)) (K [[.sl (Qr c) 3 (sub (cQ e ((0+(Qr c))*3) (S5 (QY ((Qr (d:Int))-(Qr c)) [vI 0,vI 0,vI 0]))) (0*3) ((Qr c)*3))]]))))) [[vI g],[vI (((0+(Qr g)):Nat):Int),vI ((((Qr (l:Int))-(Qr g)):Nat):Int)],[vI 1],[.sl l 3 m]])) (oK g (o [[vI (g+1)],[.sl l 3 m]])))))) (K [[.sl l 3 m]])) [[vI 1],[.sl s 3 I]])
theorem w79:Wd ⟨[],[42],[],[],mB,mA,true,ie,false,false,[59]⟩ ⟨[(4,⟨[hW 0 0,hI 3],[hR 0 42 3]⟩),(9,⟨[hW 0 0,hI 3,(4,.c (.y 0 3)),hI 5],[hR 0 42 3]⟩)],[(10,⟨[hW 0 0,hI 3,(4,.c (.y 0 3)),hI 5],[hR 0 42 3]⟩)],[]⟩ s79 g79:=Wk
def g18:Tx:=λIs a K=>aA Is FH [ab a 0,ab a 1] λh=>bK h 1 λG=>aB (!G) (K [[.sl 0 3 []]]) (aA Is s73 [sub (ab h 0) 9 5] λH=>sK 3 H 0 λI J=>aH 11 (cell (ab h 0) 8) λL _=>Lp (λf b=>iK b 1 λi=>iK b 2 λc=>sK 3 b 5 λd g=>aB (decide (c<i)) (sK 11 b 0 λm n=>kI c m (aA Is s73 [sub (eT n 11 c) 4 5] λo=>sK 3 o 0 λj p=>az (aO (d+j) 25) (oK c (f [[Cz b 0],[vI i],[vI (c+1)],ab b 3,ab b 4,[.sl (d+j) 3 (g++p)]])))) (jn (λl=>aA Is s49 [ab b 4] λq=>bK q 0 λr=>aB r (aA Is s74 [sub (ab b 4) 14 15,[.sl d 3 g]] λs=>sK 3 s 0 λt u=>l [ab b 3,[.sl t 3 u]]) (l [ab b 3,[.sl d 3 g]])) (λe=>sK 3 e 1 λv w=>aA Is s76 [[.sl v 3 w],ab e 0] λx=>sK 3 x 0 λy z=>aA Is s78 [[.sl y 3 z]] λA=>sK 3 A 0 λB C=>aA Is s79 [[.sl B 3 C]] λD=>sK 3 D 0 λE F=>K [[.sl E 3 F]]))) [[cell (ab h 0) 8],[vI L],[vI 0],ab a 0,ab h 0,[.sl I 3 J]])
theorem w18:Wd (cD [FH,s49,s73,s74,s76,s78,s79]) ⟨[(6,⟨[hP 2 0,hP 5 1,hP 7 2,hD 22,hI 23,hI 24],[hA 0 26 2,hA 1 52 31,(2,.b 36 [.w 3]),hR 3 42 3]⟩)],[(12,⟨[hP 2 0,hP 7 1],[hA 0 26 2,(1,.b 36 [.w 2]),hR 2 42 3]⟩)],[]⟩ s18 g18:=Wk
def g46:Tx:=λIs a K=>aA Is s146 [[cell (ab a 0) 1],ab a 1] λc=>iK c 0 λb=>aB (decide (b<(0:Int))) (K [[vI 0,vI 0,vI 0,vI 0,vI 0,vI 0,vI 0,.v (.string (QX #[])),.sl 0 11 [],vI 0,vI 0,vI 0,vI 0,.sl 0 5 [],vI 0,vI 0,vI 0,vI 0,vI 0,vI 0,vI 0,vI 0,vI 0,vI 0,vI 0,vI 0,.sl 0 5 [],.sl 0 15 [],.sl 0 1 [],vI 0,.sl 0 1 []],[vB false]]) (aH 31 (cell (ab a 0) 1) λd e=>kI b d (K [eT e 31 b,[vB true]]))
theorem w46:Wd (cD [s146]) hZ FH g46:=Wk
def g146:Tx:=λIs a K=>sK 31 a 0 λh _=>Lp (λc b=>iK b 1 λg=>iK b 2 λd=>aB (decide (d<g)) (sK 31 b 0 λi j=>kI d i (aA Is s147 [eT j 31 d,ab b 3] λe=>bK e 0 λf=>aB f (K [[vI d],ab e 1]) (oK d (c [[Cz b 0],[vI g],[vI (d+1)],ab e 1])))) (K [[vI (-1)],ab b 3])) [[Cz a 0],[vI h],[vI 0],ab a 1]
theorem w146:Wd (cD [s147]) ⟨[(2,⟨[hD 0,(1,.c (.f 147 [.p 0 0])),hI 7,hI 8],[hA 0 42 3]⟩)],[],[]⟩ s146 g146:=Wk
def g147:Tx:=λ_ a K=>tK (sub (ab a 0) 0 3) λb c d=>iK a 1 λe=>aw (cell (ab a 1) 1) λf=>aw (cell (ab a 1) 2) λg=>K [[vB (decide (b=e/\c=f/\d=g))],ab a 1]
theorem w147:Wd (cD []) hZ s147 g147:=Wk
def g73:Tx:=λIs a K=>jn (λo=>iK a 0 λp=>aB (decide (p=(3:Int))) (az (aO (0+1) 25) (o [ab a 0,[.sl (0+1) 3 ((sub (ab a 0) 1 3)++[])]])) (o [ab a 0,[.sl 0 3 []]])) (λd=>sK 3 d 1 λq r=>aH 5 (cell (ab d 0) 4) λs _=>Lp (λe b=>iK b 1 λg=>iK b 2 λc=>sK 3 b 3 λf h=>aB (decide (c<g)) (sK 5 b 0 λj l=>kI c j (aA Is s73 [eT l 5 c] λm=>sK 3 m 0 λi n=>az (aO (f+i) 25) (oK c (e [[Cz b 0],[vI g],[vI (c+1)],[.sl (f+i) 3 (h++n)]])))) (K [[.sl f 3 h]])) [[cell (ab d 0) 4],[vI s],[vI 0],[.sl q 3 r]])
theorem w73:Wd (cD [s73]) ⟨[(5,⟨[hW 3 0,hD 15,hI 16,hI 17],[hR 0 42 3]⟩)],[(4,⟨[hP 1 0,hW 3 1],[hA 0 46 5,hR 1 42 3]⟩)],[]⟩ s73 g73:=Wk
def g49:Tx:=λ_ a K=>aw (cell (ab a 0) 3) λb=>aB (decide (b=(2:Int))) (K [[vB true]]) (aw (cell (ab a 0) 3) λc=>aB (decide (c=(3:Int))) (K [[vB true]]) (aw (cell (ab a 0) 3) λd=>aB (decide (d=(4:Int))) (K [[vB true]]) (aw (cell (ab a 0) 3) λe=>K [[vB (decide (e=(5:Int)))]])))
theorem w49:Wd (cD []) hZ s49 g49:=Wk
def g74:Tx:=λIs a K=>sK 3 a 1 λn o=>aA Is s75 [ab a 0,[.sl n 3 o]] λp=>sK 3 p 0 λq r=>aH 15 (cell (ab a 0) 13) λs _=>Lp (λd b=>iK b 1 λe=>iK b 2 λc=>sK 3 b 3 λf g=>aB (decide (c<e)) (sK 15 b 0 λh i=>kI c h (aA Is s74 [eT i 15 c,[.sl f 3 g]] λj=>sK 3 j 0 λl m=>oK c (d [[Cz b 0],[vI e],[vI (c+1)],[.sl l 3 m]]))) (K [[.sl f 3 g]])) [[cell (ab a 0) 13],[vI s],[vI 0],[.sl q 3 r]]
theorem w74:Wd (cD [s74,s75]) ⟨[(3,⟨[(1,.c (.f 75 [.p 0 0])),hD 10,hI 11,hI 12],[(0,.b 36 [.w 1]),hR 1 42 3]⟩)],[],[]⟩ s74 g74:=Wk
def g75:Tx:=λIs a K=>sK 3 a 1 λd g=>jn (λh=>aw (cell (ab a 0) 3) λj=>aB (!(decide (((xY j iI).getD 0)=(0:Int)))) (az (aO (d+1) 25) (h [ab a 0,[.sl (d+1) 3 (g++((sub (ab a 0) 5 3)++[]))]])) (h [ab a 0,[.sl d 3 g]])) (λb=>sK 3 b 1 λe i=>aw (cell (ab b 0) 3) λl=>aB (decide (l=(11:Int))) (aA Is s73 [sub (ab b 0) 8 5] λm=>sK 3 m 0 λc f=>az (aO (e+c) 25) (K [[.sl (e+c) 3 (i++f)]])) (K [[.sl e 3 i]]))
theorem w75:Wd ⟨[s73],[42],[],[],mB,mA,true,ie,false,false,[]⟩ ⟨[],[(3,⟨[hP 1 0,hP 2 1],[(0,.b 36 [.w 2]),hA 1 50 15,hR 2 42 3]⟩)],[]⟩ s75 g75:=Wk
def g76:Tx:=λIs a K=>sK 3 a 0 λu v=>aA Is s64 [[.sl u 3 v],ab a 1] λm=>iK m 0 λn=>sK 3 m 1 λs t=>aB (decide (n=(-1:Int))) (K [[.sl s 3 t],ab m 2]) (oK n (Lp (λh f=>iK f 0 λc=>iK f 1 λe=>sK 3 f 2 λb g=>lK e b (jn (λj=>kI e b (aA Is s77 [eT g 3 e,ab f 3] λi=>bK i 0 λo=>aB (!o) (kI c b (oK c (j [[vI (c+1)],[vI e],[.sl b 3 (cQ g ((Qr c)*3+0) (eT g 3 e))],ab i 1]))) (j [[vI c],[vI e],[.sl b 3 g],ab i 1]))) (λd=>iK d 0 λp=>iK d 1 λl=>sK 3 d 2 λq r=>oK l (h [[vI p],[vI (l+1)],[.sl q 3 r],ab d 3]))) (az (0<=c/\c<=(b:Int)/\((0:Nat):Int)+b<=((b:Nat):Int)) (az (3=3/\((0+(Qr c))+((Qr (b:Int))-(Qr c)))<=b/\((Qr (b:Int))-(Qr c))<=1000000000000000) (az (0<=c/\c<=((b:Nat):Int)) (K [[.sl (Qr c) 3 (sub (cQ g ((0+(Qr c))*3) (S5 (QY ((Qr (b:Int))-(Qr c)) [vI 0,vI 0,vI 0]))) (0*3) ((Qr c)*3))],ab f 3]))))) [[vI n],[vI (n+1)],[.sl s 3 t],ab m 2]))
theorem w76:Wd ⟨[s64,s77],[42],[],[],mB,mA,true,ie,false,false,[41]⟩ ⟨[(5,⟨[hW 0 2,(1,.c (.f 77 [.p 1 0])),hI 5,hI 6],[hR 2 42 3,hA 1 26 2]⟩)],[(6,⟨[hW 0 2,(1,.c (.f 77 [.p 1 0])),hI 5,hI 6],[hR 2 42 3,hA 1 26 2]⟩)],[]⟩ s76 g76:=Wk
def g64:Tx:=λIs a K=>sK 3 a 0 λi l=>Lp (λc b=>iK b 0 λj=>iK b 1 λd=>sK 3 b 2 λe f=>aB (decide (d<j)) (kI d e (aA Is s77 [eT f 3 d,ab b 3] λg=>bK g 0 λh=>aB h (K [[vI d],[.sl e 3 f],ab g 1]) (oK d (c [[vI j],[vI (d+1)],[.sl e 3 f],ab g 1])))) (K [[vI (-1)],[.sl e 3 f],ab b 3])) [[vI i],[vI 0],[.sl i 3 l],ab a 1]
theorem w64:Wd (cD [s77]) ⟨[(2,⟨[hW 0 0,(1,.c (.f 77 [.p 1 0])),hI 7,hI 8],[hR 0 42 3,hA 1 26 2]⟩)],[],[]⟩ s64 g64:=Wk
def g64_1:Tx:=λIs a K=>sK 3 a 0 λr t=>sK 4 a 1 λu v=>sK 3 a 2 λw x=>Lp (λf c=>iK c 0 λs=>iK c 1 λb=>sK 3 c 2 λd e=>sK 4 c 3 λh i=>sK 3 c 4 λj l=>aB (decide (b<s)) (kI b d (aA Is s65 [eT e 3 b,[.sl h 4 i],[.sl j 3 l]] λg=>bK g 0 λq=>sK 4 g 1 λm n=>sK 3 g 2 λo p=>aB q (K [[vI b],[.sl d 3 e],[.sl m 4 n],[.sl o 3 p]]) (oK b (f [[vI s],[vI (b+1)],[.sl d 3 e],[.sl m 4 n],[.sl o 3 p]])))) (K [[vI (-1)],[.sl d 3 e],[.sl h 4 i],[.sl j 3 l]])) [[vI r],[vI 0],[.sl r 3 t],[.sl u 4 v],[.sl w 3 x]]
theorem w64_1:Wd (cD [s65]) ⟨[(2,⟨[hW 0 0,(1,.c (.f 65 [.p 1 0,.p 2 0])),hI 7,hI 8],[hR 0 42 3,(1,.b 122 [.m 3]),(2,.b 36 [.w 4]),(3,.m 122 false 1),hR 4 42 3]⟩)],[],[]⟩ Io g64_1:=Wk
def Pb:Tx:=λIs a K=>sK 3 a 1 λo p=>sK 3 a 0 λq _=>Lp (λc b=>iK b 1 λm=>iK b 2 λd=>sK 3 b 3 λn e=>aB (decide (d<m)) (sK 3 b 0 λi j=>kI d i (aA Is s67 [eT j 3 d,[.sl n 3 e]] λf=>bK f 0 λl=>sK 3 f 1 λg h=>aB l (K [[vI d],[.sl g 3 h]]) (oK d (c [[Cz b 0],[vI m],[vI (d+1)],[.sl g 3 h]])))) (K [[vI (-1)],[.sl n 3 e]])) [[Cz a 0],[vI q],[vI 0],[.sl o 3 p]]
theorem w64_2:Wd (cD [s67]) ⟨[(2,⟨[hD 0,(1,.c (.f 67 [.p 0 0])),hI 7,hI 8],[(0,.b 36 [.w 1]),hR 1 42 3]⟩)],[],[]⟩ Im Pb:=Wk
def g77:Tx:=λIs a K=>aA Is FH [ab a 1,ab a 0] λb=>bK b 1 λc=>K [[vB (!c)],ab a 1]
theorem w77:Wd (cD [FH]) hZ s77 g77:=Wk
def g65:Tx:=λIs a K=>sK 4 a 1 λd e=>sK 3 a 2 λg h=>tK (ab a 0) λi j l=>aA Is s66 [[cell ((bu 4 i j l d e).getD [.sl 0 3 []]) 0],[.sl g 3 h]] λf=>bK f 0 λm=>sK 3 f 1 λb c=>K [[vB (!m)],[.sl d 4 e],[.sl b 3 c]]
theorem w65:Wd (cD [s66]) hZ s65 g65:=Wk
def g66:Tx:=λIs a K=>sK 3 a 1 λc d=>aA Is Im [[Cz a 0],[.sl c 3 d]] λb=>iK b 0 λe=>sK 3 b 1 λf g=>K [[vB (decide ((0:Int)<=e))],[.sl f 3 g]]
theorem w66:Wd (cD [Im]) hZ s66 g66:=Wk
def g67:Tx:=λIs a K=>sK 3 a 1 λc d=>aA Is s68 [ab a 0,[.sl c 3 d]] λb=>bK b 0 λe=>sK 3 b 1 λf g=>K [[vB (!e)],[.sl f 3 g]]
theorem w67:Wd (cD [s68]) hZ s67 g67:=Wk
def g68:Tx:=λIs a K=>sK 3 a 1 λc d=>aA Is s160 [ab a 0,[.sl c 3 d]] λb=>iK b 0 λe=>sK 3 b 1 λf g=>K [[vB (decide ((0:Int)<=e))],[.sl f 3 g]]
theorem w68:Wd (cD [s160]) hZ s68 g68:=Wk
def g160:Tx:=λ_ a K=>sK 3 a 1 λm o=>Lp (λd b=>iK b 0 λn=>iK b 1 λc=>sK 3 b 2 λf e=>aB (decide (c<n)) (kI c f (iK b 3 λp=>aw (cell (ab b 3) 1) λg=>aw (cell (ab b 3) 2) λh=>aw (cell (eT e 3 c) 0) λi=>aw (cell (eT e 3 c) 1) λj=>aw (cell (eT e 3 c) 2) λl=>aB (decide (p=i/\g=j/\h=l)) (K [[vI c],[.sl f 3 e]]) (oK c (d [[vI n],[vI (c+1)],[.sl f 3 e],ab b 3])))) (K [[vI (-1)],[.sl f 3 e]])) [[vI m],[vI 0],[.sl m 3 o],ab a 0]
theorem w160:Wd (cD []) ⟨[(2,⟨[hW 0 0,hP 3 1,hI 7,hI 8],[hR 0 42 3,hA 1 42 3]⟩)],[],[]⟩ s160 g160:=Wk
def g69:Tx:=λ_ a K=>iK a 0 λc=>iK a 1 λd=>sK 3 a 2 λb e=>az (true=true/\0<=c/\c<=d/\d<=(b:Int)/\((0:Nat):Int)+b<=((b:Nat):Int)) (aB (decide (c=d)) (K [[.sl b 3 e]]) (az (0<=(0:Int)/\(0:Int)<=c/\((0:Nat):Int)+c<=((b:Nat):Int)) (az (0<=d/\d<=(b:Int)/\((0:Nat):Int)+b<=((b:Nat):Int)) (aB (decide (((Qr (b:Int))-(Qr d))=0)) (az (0<=((((Qr c)-0):Nat):Int)/\((((Qr c)-0):Nat):Int)<=(b:Int)/\((0:Nat):Int)+b<=((b:Nat):Int)) (az (3=3/\((0+(Qr ((((Qr c)-0):Nat):Int)))+((Qr (b:Int))-(Qr ((((Qr c)-0):Nat):Int))))<=b/\((Qr (b:Int))-(Qr ((((Qr c)-0):Nat):Int)))<=1000000000000000) (az (0<b/\((Qr c)-0)<=b) (K [[.sl ((Qr c)-0) 3 (sub (cQ e ((0+(Qr ((((Qr c)-0):Nat):Int)))*3) (S5 (QY ((Qr (b:Int))-(Qr ((((Qr c)-0):Nat):Int))) [vI 0,vI 0,vI 0]))) (0*3) (((Qr c)-0)*3))]])))) (aB (decide (((0+((Qr c)-0))+((Qr (b:Int))-(Qr d)))<=b)) (az (0<=(((((Qr c)-0)+((Qr (b:Int))-(Qr d))):Nat):Int)/\(((((Qr c)-0)+((Qr (b:Int))-(Qr d))):Nat):Int)<=(b:Int)/\((0:Nat):Int)+b<=((b:Nat):Int)) (az (3=3/\((0+(Qr (((((Qr c)-0)+((Qr (b:Int))-(Qr d))):Nat):Int)))+((Qr (b:Int))-(Qr (((((Qr c)-0)+((Qr (b:Int))-(Qr d))):Nat):Int))))<=b/\((Qr (b:Int))-(Qr (((((Qr c)-0)+((Qr (b:Int))-(Qr d))):Nat):Int)))<=1000000000000000) (az (0<b/\(((Qr c)-0)+((Qr (b:Int))-(Qr d)))<=b) (K [[.sl (((Qr c)-0)+((Qr (b:Int))-(Qr d))) 3 (sub (cQ (cQ e ((0+((Qr c)-0))*3) (sub e ((0+(Qr d))*3) (((Qr (b:Int))-(Qr d))*3))) ((0+(Qr (((((Qr c)-0)+((Qr (b:Int))-(Qr d))):Nat):Int)))*3) (S5 (QY ((Qr (b:Int))-(Qr (((((Qr c)-0)+((Qr (b:Int))-(Qr d))):Nat):Int))) [vI 0,vI 0,vI 0]))) (0*3) ((((Qr c)-0)+((Qr (b:Int))-(Qr d)))*3))]])))) (az ((0+((Qr c)-0))=b/\aO ((((Qr c)-0)+((Qr (b:Int))-(Qr d)))) 25) (az (0<=(((((Qr c)-0)+((Qr (b:Int))-(Qr d))):Nat):Int)/\(((((Qr c)-0)+((Qr (b:Int))-(Qr d))):Nat):Int)<=(b:Int)/\((0:Nat):Int)+b<=(((((Qr c)-0)+((Qr (b:Int))-(Qr d))):Nat):Int)) (False))))))))
theorem w69:Wd ⟨[],[42],[],[],mB,mA,true,ie,false,false,[32]⟩ hZ s69 g69:=Wk
def g161:Tx:=λ_ a K=>iK a 0 λc=>iK a 1 λd=>aB (!(decide (c=d))) (iK a 0 λe=>iK a 1 λf=>K [[vB (decide (e<f))]]) (aw (cell (ab a 0) 1) λg=>aw (cell (ab a 1) 1) λh=>aB (!(decide (g=h))) (aw (cell (ab a 0) 1) λi=>aw (cell (ab a 1) 1) λj=>K [[vB (decide (i<j))]]) (aw (cell (ab a 0) 2) λl=>aw (cell (ab a 1) 2) λb=>K [[vB (decide (l<b))]]))
theorem w161:Wd (cD []) hZ s161 g161:=Wk
def g17:Tx:=λ_ a K=>sK 3 a 0 λp _=>sK 3 a 1 λq _=>aB (!(decide ((p:Int)=(q:Int)))) (K [[vB false]]) (Lp (λd b=>iK b 2 λc=>sK 3 b 0 λr _=>lK c r (sK 3 b 0 λg e=>kI c g (sK 3 b 1 λh f=>kI c h (aw (cell (eT e 3 c) 0) λi=>aw (cell (eT e 3 c) 1) λj=>aw (cell (eT e 3 c) 2) λl=>aw (cell (eT f 3 c) 0) λm=>aw (cell (eT f 3 c) 1) λn=>aw (cell (eT f 3 c) 2) λo=>aB (!(decide (i=m/\j=n/\l=o))) (K [[vB false]]) (oK c (d [[Cz b 0],[Cz b 1],[vI (c+1)]]))))) (K [[vB true]])) [[Cz a 0],[Cz a 1],[vI 0]])
theorem w17:Wd (cD []) ⟨[(4,⟨[hD 0,hD 1,hI 5],[]⟩)],[],[]⟩ s17 g17:=Wk
set_option maxRecDepth 100000
abbrev Dv:bA:=⟨78,⟨[hW 0 0,(1,.c (.f 95 []))],[hR 0 42 3]⟩,.t [],[hR 0 42 3],false⟩
abbrev Il:bA:=⟨68,⟨[hD 0,(1,.a 3)],[]⟩,.c .bo,[],true⟩
abbrev By:bA:=⟨160,⟨[hD 0,(1,.a 3)],[]⟩,.c .i,[],true⟩
abbrev Mx:bA:=⟨12,⟨[(0,.a 2)],[]⟩,.c (.w 0),[hR 0 57 6],false⟩
abbrev s44:bA:=⟨44,⟨[(0,.a 2)],[]⟩,.c (.w 0),[hR 0 57 6],false⟩
abbrev s25:bA:=⟨25,⟨[(0,.a 2)],[]⟩,.c (.w 0),[hR 0 70 38],false⟩
abbrev s85:bA:=⟨85,⟨[hD 0],[]⟩,.c (.w 0),[hR 0 42 3],false⟩
abbrev Ik:bA:=⟨86,⟨[(0,.a 5)],[]⟩,.g [.d,.d,.d,.d,.w 0],[hR 0 46 5],false⟩
abbrev s175:bA:=⟨175,⟨[hD 0],[]⟩,.c (.w 0),[hR 0 46 5],false⟩
abbrev s87:bA:=⟨87,⟨[hD 0],[]⟩,.c (.w 0),[hR 0 9 1],false⟩
abbrev s88:bA:=⟨88,⟨[hI 0],[]⟩,.c .bo,[],true⟩
abbrev s89:bA:=⟨89,⟨[(0,.a 15),(1,.c (.f 90 [.p 0 0]))],[(0,.b 65 [.w 1]),hR 1 70 38]⟩,.t [],[(0,.b 65 [.w 2]),hR 2 70 38],false⟩
abbrev s90:bA:=⟨90,⟨[(0,.a 15),hP 1 0],[(0,.b 65 [.w 1]),hR 1 70 38]⟩,.t [],[(0,.b 65 [.w 2]),hR 2 70 38],false⟩
abbrev s91:bA:=⟨91,⟨[(0,.a 15)],[]⟩,.g (ds 9++[.w 0,.w 1,.w 2]),[hR 0 46 5,hR 1 42 3,hR 2 9 1],false⟩
abbrev s92:bA:=⟨92,⟨[hD 0],[]⟩,.c (.w 0),[hR 0 70 38],false⟩
abbrev s93:bA:=⟨93,⟨[hW 0 0,(1,.c (.f 94 []))],[hR 0 70 38]⟩,.t [],[hR 0 70 38],false⟩
abbrev s26:bA:=⟨26,⟨[hD 0],[]⟩,.t [.g [.w 0,.w 1],.c (.w 2)],[hR 0 60 6,hR 1 52 31,hR 2 57 6],false⟩
abbrev s96:bA:=⟨96,⟨[hD 0],[]⟩,.c (.m 0),[(0,.m 148 true 38)],false⟩
abbrev s97:bA:=⟨97,⟨[(0,.c (.m 0)),hI 1,(2,.c (.f 98 [])),(3,.c (.f 99 []))],[(0,.m 148 true 38)]⟩,.c (.w 1),[hR 1 70 38,(0,.ms 148 true 38)],false⟩
abbrev Ij:bA:=⟨97,⟨[(0,.c (.m 0)),hI 1,(2,.c (.f 98 [])),(3,.c (.f 99 []))],[(0,.ms 148 true 38)]⟩,.c (.w 1),[hR 1 70 38,(0,.ms 148 true 38)],false⟩
abbrev Ii:bA:=⟨97,⟨[(0,.c (.m 0)),hI 1,(2,.c (.f 182 [.p 1 0])),(3,.c (.f 107 []))],[(0,.ms 148 true 38),hA 1 42 3]⟩,.c (.w 2),[hR 2 70 38,(0,.ms 148 true 38),hA 1 42 3],false⟩
abbrev Ih:bA:=⟨97,⟨[(0,.c (.m 0)),hI 1,(2,.c (.f 106 [.p 1 0])),(3,.c (.f 107 []))],[(0,.ms 148 true 38),hA 1 70 38]⟩,.c (.w 2),[hR 2 70 38,(0,.ms 148 true 38),hA 1 70 38],false⟩
abbrev s98:bA:=⟨98,⟨[(0,.a 38)],[]⟩,.c .bo,[],true⟩
abbrev Bx:bA:=⟨178,⟨[hW 0 0,(1,.c (.f 99 []))],[hR 0 70 38]⟩,.t [],[hR 0 70 38],false⟩
abbrev kB:bA:=⟨178,⟨[hW 0 0,(1,.c (.f 107 []))],[hR 0 70 38]⟩,.t [],[hR 0 70 38],false⟩
abbrev s100:bA:=⟨100,⟨[hP 0 0,hD 1,hD 2],[(0,.b 152 [.m 1,.w 2,.m 3,.w 4]),(1,.ms 148 true 38),hR 2 57 6,(3,.m 150 false 1),hR 4 42 3]⟩,.t [],[(0,.b 152 [.m 1,.w 5,.m 3,.w 6]),(1,.ms 148 true 38),(3,.m 150 false 1),hR 5 57 6,hR 6 42 3],false⟩
abbrev tJ:bA:=⟨104,⟨[hP 0 0,hI 1,(2,.a 3),hI 3],[(0,.b 152 [.m 1,.w 2,.m 3,.w 4]),(1,.ms 148 true 38),hR 2 57 6,(3,.m 150 false 1),hR 4 42 3]⟩,.t [],[(0,.b 152 [.m 1,.w 5,.m 3,.w 6]),(1,.ms 148 true 38),(3,.m 150 false 1),hR 5 57 6,hR 6 42 3],false⟩
abbrev DB:bA:=⟨105,⟨[(0,.c (.m 0)),(1,.a 3),hD 2],[(0,.ms 148 true 38)]⟩,.c .bo,[(0,.ms 148 true 38)],false⟩
abbrev s184:bA:=⟨184,⟨[hD 0,hI 1],[]⟩,.c .bo,[],true⟩
abbrev s226:bA:=⟨226,⟨[hD 0,hI 1],[]⟩,.c .i,[],true⟩
abbrev Ku:bA:=⟨102,⟨[hP 0 0,(1,.a 3)],[(0,.b 152 [.m 1,.w 2,.m 3,.w 4]),(1,.ms 148 true 38),hR 2 57 6,(3,.m 150 false 1),hR 4 42 3]⟩,.c (.w 5),[hR 5 70 38,(0,.b 152 [.m 1,.w 6,.m 3,.w 7]),(1,.ms 148 true 38),(3,.m 150 false 1),hR 6 57 6,hR 7 42 3],false⟩
abbrev s182:bA:=⟨182,⟨[(0,.a 38),hP 1 0],[hA 0 42 3]⟩,.c .bo,[hA 0 42 3],false⟩
abbrev Nb:bA:=⟨179,⟨[hP 0 0,(1,.a 3)],[(0,.b 152 [.m 1,.w 2,.m 3,.w 4]),(1,.ms 148 true 38),hR 2 57 6,(3,.m 150 false 1),hR 4 42 3]⟩,.t [],[(0,.b 152 [.m 1,.w 5,.m 3,.w 6]),(1,.ms 148 true 38),(3,.m 150 false 1),hR 5 57 6,hR 6 42 3],false⟩
abbrev s101:bA:=⟨101,⟨[hP 0 0],[(0,.b 152 [.m 1,.w 2,.m 3,.w 4]),(1,.ms 148 true 38),hR 2 57 6,(3,.m 150 false 1),hR 4 42 3]⟩,.c (.w 5),[hR 5 57 6],false⟩
abbrev Iq:bA:=⟨52,⟨[hW 0 0,(1,.c (.f 53 []))],[hR 0 57 6]⟩,.t [],[hR 0 57 6],false⟩
abbrev Ip:bA:=⟨58,⟨[hW 0 0,(1,.c (.f 59 []))],[hR 0 57 6]⟩,.c (.w 1),[hR 1 57 6],false⟩
abbrev s95:bA:=⟨95,⟨[(0,.a 3),(1,.a 3)],[]⟩,.c .i,[],true⟩
abbrev s56:bA:=⟨56,⟨[hI 0,hI 1],[]⟩,.c .i,[],true⟩
abbrev Nc:bA:=⟨158,⟨[hI 0],[]⟩,.c .bo,[],true⟩
abbrev s54:bA:=⟨54,⟨[hD 0],[]⟩,.c .i,[],true⟩
abbrev Ks:bA:=⟨103,⟨[hP 0 0,(1,.a 3)],[(0,.b 152 [.m 1,.w 2,.m 3,.w 4]),(1,.ms 148 true 38),hR 2 57 6,(3,.m 150 false 1),hR 4 42 3]⟩,.t [.g (ds 12++[.w 5,.w 6,.w 7]),.c .i,.c .i],[hR 5 46 5,hR 6 50 15,hR 7 9 1,(0,.b 152 [.m 1,.w 8,.m 3,.w 9]),(1,.ms 148 true 38),(3,.m 150 false 1),hR 8 57 6,hR 9 42 3],false⟩
abbrev s183:bA:=⟨183,⟨[(0,.a 12)],[]⟩,.g (ds 9++[.w 0,.w 1,.w 2]),[hR 0 46 5,hR 1 42 3,hR 2 9 1],false⟩
abbrev s106:bA:=⟨106,⟨[(0,.a 38),hP 1 0],[hA 0 70 38]⟩,.c .bo,[hA 0 70 38],false⟩
abbrev s140:bA:=⟨140,⟨[hD 0,hD 1,(2,.c (.f 141 []))],[]⟩,.c .bo,[],true⟩
abbrev Nf:bA:=⟨141,⟨[(0,.a 38),(1,.a 38)],[]⟩,.c .bo,[],true⟩
abbrev Dy:bA:=⟨136,⟨[hD 0,hD 1],[]⟩,.c .bo,[],true⟩
abbrev y8:bA:=⟨192,⟨[(0,.a 5),(1,.a 5)],[]⟩,.c .bo,[],true⟩
abbrev s236:bA:=⟨236,⟨[hD 0,hD 1,(2,.c (.f 192 []))],[]⟩,.c .bo,[],true⟩
abbrev Km:bA:=⟨193,⟨[hD 0,hD 1],[]⟩,.c .bo,[],true⟩
abbrev s194:bA:=⟨194,⟨[(0,.a 12),(1,.a 12)],[]⟩,.c .bo,[],true⟩
abbrev s142:bA:=⟨142,⟨[hD 0,hD 1,(2,.c (.f 135 []))],[]⟩,.c .bo,[],true⟩
abbrev Ni:bA:=⟨135,⟨[(0,.a 6),(1,.a 6)],[]⟩,.c .bo,[],true⟩
abbrev s143:bA:=⟨143,⟨[hD 0,hD 1,(2,.c (.f 138 [.p 0 0]))],[(0,.b 187 [.f 137 []])]⟩,.c .bo,[(0,.b 187 [.f 137 []])],false⟩
abbrev Ng:bA:=⟨138,⟨[(0,.a 31),(1,.a 31),hP 2 0],[(0,.b 187 [.f 137 []])]⟩,.c .bo,[(0,.b 187 [.f 137 []])],false⟩
abbrev s139:bA:=⟨139,⟨[hD 0,hD 1,(2,.c (.f 137 []))],[]⟩,.c .bo,[],true⟩
abbrev Nh:bA:=⟨137,⟨[(0,.a 11),(1,.a 11)],[]⟩,.c .bo,[],true⟩
abbrev s45:bA:=⟨45,⟨[hP 0 0,hD 1,hD 2],[(0,.b 107 [.d,.d,.w 1]),hR 1 57 6]⟩,.t [],[(0,.b 107 [.d,.d,.w 2]),hR 2 57 6],false⟩
abbrev qD:bA:=⟨144,⟨[hD 0],[]⟩,.c .bo,[],false⟩
abbrev y7:bA:=⟨48,⟨[hP 0 0,hI 1,(2,.a 3),hI 3],[(0,.b 107 [.d,.d,.w 1]),hR 1 57 6]⟩,.t [],[(0,.b 107 [.d,.d,.w 2]),hR 2 57 6],false⟩
abbrev Nd:bA:=⟨145,⟨[hD 0,hD 1],[]⟩,.c .bo,[],true⟩
abbrev s197:bA:=⟨197,⟨[hD 0,hD 1],[]⟩,.c .i,[],true⟩
abbrev s47:bA:=⟨47,⟨[(0,.a 2),(1,.a 5)],[]⟩,.c .bo,[],true⟩
abbrev s50:bA:=⟨50,⟨[hP 0 0,(1,.a 31)],[(0,.b 107 [.d,.d,.w 1]),hR 1 57 6]⟩,.t [],[(0,.b 107 [.d,.d,.w 2]),hR 2 57 6],false⟩
abbrev Kp:bA:=⟨148,⟨[(0,.a 15),hD 1,hP 2 0,hP 3 1],[(0,.b 105 [.p 2 0]),(1,.b 198 [.f 148 [.p 0 0,.p 1 0]]),(2,.b 107 [.d,.d,.w 3]),hR 3 57 6]⟩,.t [],[(0,.b 105 [.p 2 0]),(1,.b 198 [.f 148 [.p 0 0,.p 1 0]]),(2,.b 107 [.d,.d,.w 4]),hR 4 57 6],false⟩
abbrev s149:bA:=⟨149,⟨[hP 0 0,(1,.a 15)],[(0,.b 107 [.d,.d,.w 1]),hR 1 57 6]⟩,.t [.c .bo,.c .bo],[(0,.b 107 [.d,.d,.w 1]),hR 1 57 6],false⟩
abbrev s150:bA:=⟨150,⟨[hD 0,(1,.a 4)],[]⟩,.c .bo,[],true⟩
abbrev s198:bA:=⟨198,⟨[hD 0,(1,.a 4)],[]⟩,.c .i,[],true⟩
abbrev s151:bA:=⟨151,⟨[(0,.a 15)],[]⟩,.c .i,[],true⟩
abbrev s152:bA:=⟨152,⟨[hD 0,(1,.c (.f 153 []))],[]⟩,.c .bo,[],true⟩
abbrev s199:bA:=⟨199,⟨[hD 0,(1,.c (.f 153 []))],[]⟩,.c .i,[],true⟩
abbrev s153:bA:=⟨153,⟨[hD 0],[]⟩,.c .bo,[],true⟩
abbrev s155:bA:=⟨155,⟨[(0,.a 15),hI 1],[]⟩,.c (.w 0),[hR 0 197 4],false⟩
abbrev Ko:bA:=⟨154,⟨[hD 0],[]⟩,.c (.w 0),[hR 0 197 4],false⟩
abbrev s51:bA:=⟨51,⟨[hP 0 0],[(0,.b 107 [.d,.d,.w 1]),hR 1 57 6]⟩,.t [],[(0,.b 107 [.d,.d,.w 2]),hR 2 57 6],false⟩
abbrev s59:bA:=⟨59,⟨[(0,.a 6),(1,.a 6)],[]⟩,.c .bo,[],true⟩
def g68_1:Tx:=λIs a K=>aA Is By [[Cz a 0],ab a 1] λb=>iK b 0 λc=>K [[vB (decide ((0:Int)<=c))]]
theorem w68_1:Wd (cD [By]) hZ Il g68_1:=Wk
def G7:Tx:=λ_ a K=>sK 3 a 0 λm _=>Lp (λd b=>iK b 1 λl=>iK b 2 λc=>aB (decide (c<l)) (sK 3 b 0 λn e=>kI c n (iK b 3 λo=>aw (cell (ab b 3) 1) λf=>aw (cell (ab b 3) 2) λg=>aw (cell (eT e 3 c) 0) λh=>aw (cell (eT e 3 c) 1) λi=>aw (cell (eT e 3 c) 2) λj=>aB (decide (o=h/\f=i/\g=j)) (K [[vI c]]) (oK c (d [[Cz b 0],[vI l],[vI (c+1)],ab b 3])))) (K [[vI (-1)]])) [[Cz a 0],[vI m],[vI 0],ab a 1]
theorem w160_1:Wd (cD []) ⟨[(2,⟨[hD 0,hP 3 0,hI 7,hI 8],[hA 0 42 3]⟩)],[],[]⟩ By G7:=Wk
def g12:Tx:=λIs a K=>aA Is s44 [ab a 0] λr1=>sK 6 r1 0 λn2 c3=>aB (decide ((0:Int)<(n2:Int))) (K [[.sl n2 6 c3]]) (jn (λk4=>sK 6 a 0 λn6 _=>Lp (λF i=>iK i 1 λX=>iK i 2 λq=>sK 3 i 5 λG Y=>sK 1 i 6 λH Z=>sK 6 i 7 λn16 c17=>(λV5=>aB (decide (q<X)) (sK 6 i 0 λn18 c19=>kI q n18 (az (aO (G+1) 25) (az (aO (H+1) 17) (oK q (F [[Cz i 0],[vI X],[vI (q+1)],ab i 3,V5,[.sl (G+1) 3 (Y++((sub (eT c19 6 q) 0 3)++[]))],[.sl (H+1) 1 (Z++[cell (eT c19 6 q) 3])],[.sl n16 6 c17]]))))) (k4 [ab i 3,V5,[.sl G 3 Y],[.sl H 1 Z],[.sl n16 6 c17]])) [Cz i 4,cell (ab i 4) 1]) [[Cz a 0],[vI n6],[vI 0],ab a 0,[Cz a 0,cell (ab a 0) 1],[.sl 0 3 []],[.sl 0 1 []],[.sl 0 6 []]]) (λm=>sK 3 m 2 λn20 c21=>sK 1 m 3 λn22 c23=>sK 6 m 4 λn24 c25=>aA Is s45 [[.sl n20 3 c21],[.sl n22 1 c23],[Cz m 1,cell (ab m 1) 1],[.sl n24 6 c25]] λI=>sK 6 I 1 λn27 c28=>sK 6 m 0 λn29 _=>Lp (λz e=>iK e 1 λz33=>iK e 2 λr=>sK 6 e 5 λn35 c36=>(λV7=>aB (decide (r<z33)) (sK 6 e 0 λn37 J=>kI r n37 (jn (λk39=>aH 3 (cell (eT J 6 r) 5) λn41 _=>Lp (λA c=>iK c 1 λz45=>iK c 2 λz46=>iK c 4 λz47=>iK c 5 λu=>sK 1 c 9 λL c50=>sK 6 c 10 λn51 c52=>(λV8=>aB (decide (u<z47)) (sK 3 c 3 λn53 c54=>kI u n53 (aA Is FH [ab c 6,eT c54 3 u] λr55=>bK r55 1 λ_=>az (aO (L+1) 17) (oK u (A [[Cz c 0],[vI z45],[vI z46],[Cz c 3],[vI z47],[vI (u+1)],ab c 6,V8,ab c 8,[.sl (L+1) 1 (c50++[cell (ab r55 0) 7])],[.sl n51 6 c52]])))) (k39 [[Cz c 0],[vI z45],[vI z46],ab c 6,V8,ab c 8,[.sl L 1 c50],[.sl n51 6 c52]])) [Cz c 7,cell (ab c 7) 1]) [[Cz e 0],[vI z33],[vI r],[cell (eT J 6 r) 5],[vI n41],[vI 0],ab e 3,V7,eT J 6 r,[.sl 0 1 []],[.sl n35 6 c36]]) (λh=>iK h 1 λz57=>iK h 2 λz58=>sK 1 h 6 λn59 c60=>sK 6 h 7 λn61 c62=>aA Is s45 [[cell (ab h 5) 5],[.sl n59 1 c60],[Cz h 4,cell (ab h 4) 1],[.sl n61 6 c62]] λM=>sK 6 M 1 λn64 c65=>oK z58 (z [[Cz h 0],[vI z57],[vI (z58+1)],ab h 3,[Cz M 0,cell (ab M 0) 1],[.sl n64 6 c65]])))) (aH 31 (cell (ab e 3) 1) λn66 _=>Lp (λn g=>iK g 1 λz70=>iK g 2 λs=>sK 6 g 5 λn72 c73=>(λV6=>aB (decide (s<z70)) (sK 31 g 0 λn74 N=>kI s n74 (jn (λk76=>aH 11 (cell (eT N 31 s) 8) λn78 _=>Lp (λo b=>iK b 1 λO=>iK b 2 λP=>iK b 4 λQ=>iK b 5 λj=>sK 3 b 9 λB R=>sK 1 b 10 λC S=>sK 6 b 11 λT U=>(λV3=>aB (decide (j<Q)) (sK 11 b 3 λn92 t=>kI j n92 (az (aO (B+1) 25) (az (aO (C+1) 17) (aA Is s47 [ab b 6,sub (eT t 11 j) 4 5] λr94=>bK r94 0 λb95=>(λV1=>(λV4=>aB (!b95) (aA Is y7 [[vI 14],sub (eT t 11 j) 0 3,[vI 9],V3,[.sl T 6 U]] λV=>sK 6 V 1 λn97 c98=>oK j (o [[Cz b 0],[vI O],[vI P],[Cz b 3],[vI Q],[vI (j+1)],ab b 6,[Cz V 0,cell (ab V 0) 1],ab b 8,V1,V4,[.sl n97 6 c98]])) (oK j (o [[Cz b 0],[vI O],[vI P],[Cz b 3],[vI Q],[vI (j+1)],ab b 6,V3,ab b 8,V1,V4,[.sl T 6 U]]))) [.sl (C+1) 1 (S++[cell (eT t 11 j) 3])]) [.sl (B+1) 3 (R++((sub (eT t 11 j) 0 3)++[]))])))) (k76 [[Cz b 0],[vI O],[vI P],ab b 6,V3,ab b 8,[.sl B 3 R],[.sl C 1 S],[.sl T 6 U]])) [Cz b 7,cell (ab b 7) 1]) [[Cz g 0],[vI z70],[vI s],[cell (eT N 31 s) 8],[vI n78],[vI 0],ab g 3,V6,eT N 31 s,[.sl 0 3 []],[.sl 0 1 []],[.sl n72 6 c73]]) (λd=>iK d 1 λW=>iK d 2 λp=>sK 3 d 6 λn101 c102=>sK 1 d 7 λn103 c104=>sK 6 d 8 λn105 c106=>aA Is s45 [[.sl n101 3 c102],[.sl n103 1 c104],[Cz d 4,cell (ab d 4) 1],[.sl n105 6 c106]] λl=>sK 6 l 1 λv w=>aA Is s49 [ab d 5] λr110=>bK r110 0 λb111=>(λV2=>aB b111 (jn (λD=>aA Is s47 [ab d 3,sub (ab d 5) 9 5] λr114=>bK r114 0 λb115=>aB (!b115) (aA Is y7 [[vI 14],sub (ab d 5) 0 3,[vI 10],V2,[.sl v 6 w]] λx=>sK 6 x 1 λn117 c118=>D [[Cz d 0],[vI W],[vI p],ab d 3,[Cz x 0,cell (ab x 0) 1],ab d 5,[.sl n117 6 c118]]) (D [[Cz d 0],[vI W],[vI p],ab d 3,V2,ab d 5,[.sl v 6 w]])) (λf=>iK f 1 λz119=>iK f 2 λE=>sK 6 f 6 λn121 c122=>aA Is s50 [ab f 5,[Cz f 4,cell (ab f 4) 1],[.sl n121 6 c122]] λy=>sK 6 y 1 λn124 c125=>oK E (n [[Cz f 0],[vI z119],[vI (E+1)],ab f 3,[Cz y 0,cell (ab y 0) 1],[.sl n124 6 c125]]))) (oK p (n [[Cz d 0],[vI W],[vI (p+1)],ab d 3,V2,[.sl v 6 w]]))) [Cz l 0,cell (ab l 0) 1]))) (aA Is s51 [V6,[.sl n72 6 c73]] λr126=>sK 6 r126 1 λn127 c128=>aA Is Iq [[.sl n127 6 c128]] λr129=>sK 6 r129 0 λn130 c131=>aA Is Ip [[.sl n130 6 c131]] λr132=>sK 6 r132 0 λn133 c134=>K [[.sl n133 6 c134]])) [Cz g 4,cell (ab g 4) 1]) [[cell (ab e 3) 1],[vI n66],[vI 0],ab e 3,V7,[.sl n35 6 c36]])) [Cz e 4,cell (ab e 4) 1]) [[Cz m 0],[vI n29],[vI 0],ab m 0,[Cz I 0,cell (ab I 0) 1],[.sl n27 6 c28]]))
theorem w12:Wd (cD [s44,s45,FH,s47,y7,s49,s50,s51,Iq,Ip]) ⟨[(8,⟨[hP 1 0,hP 4 1,hW 5 2,hW 6 3,hD 32,hI 33,hI 34],[hA 0 26 2,(1,.b 107 [.d,.d,.w 4]),hR 2 42 3,hR 3 9 1,hR 4 57 6]⟩),(15,⟨[hP 1 0,hP 4 1,hD 54,hI 55,hI 56],[hA 0 26 2,(1,.b 107 [.d,.d,.w 2]),hR 2 57 6]⟩),(19,⟨[hP 1 0,hP 4 1,hP 10 2,hW 11 3,hD 54,hI 55,hI 56,hD 61,hI 62,hI 63],[hA 0 26 2,(1,.b 107 [.d,.d,.w 4]),hA 2 60 6,hR 3 9 1,hR 4 57 6]⟩),(27,⟨[hP 1 0,hP 4 1,hD 86,hI 87,hI 88],[hA 0 26 2,(1,.b 107 [.d,.d,.w 2]),hR 2 57 6]⟩),(32,⟨[hP 1 0,hP 4 1,hP 17 2,hW 18 3,hW 19 4,hD 86,hI 87,hI 88,hD 93,hI 94,hI 95],[hA 0 26 2,(1,.b 107 [.d,.d,.w 5]),hA 2 52 31,hR 3 42 3,hR 4 9 1,hR 5 57 6]⟩)],[(13,⟨[hP 1 0,hP 4 1,hW 5 2,hW 6 3],[hA 0 26 2,(1,.b 107 [.d,.d,.w 4]),hR 2 42 3,hR 3 9 1,hR 4 57 6]⟩),(24,⟨[hP 1 0,hP 4 1,hP 10 2,hW 11 3,hD 54,hI 55,hI 56],[hA 0 26 2,(1,.b 107 [.d,.d,.w 4]),hA 2 60 6,hR 3 9 1,hR 4 57 6]⟩),(39,⟨[hP 1 0,hP 4 1,hP 17 2,hW 18 3,hW 19 4,hD 86,hI 87,hI 88],[hA 0 26 2,(1,.b 107 [.d,.d,.w 5]),hA 2 52 31,hR 3 42 3,hR 4 9 1,hR 5 57 6]⟩),(43,⟨[hP 1 0,hP 4 1,hP 17 2,hD 86,hI 87,hI 88],[hA 0 26 2,(1,.b 107 [.d,.d,.w 3]),hA 2 52 31,hR 3 57 6]⟩)],[]⟩ Mx g12:=Wk
def g44:Tx:=λIs a K=>aA Is s25 [ab a 0] λu=>sK 38 u 0 λn o=>aA Is s26 [[.sl n 38 o]] λb=>sK 6 b 0 λp q=>sK 31 b 1 λr s=>sK 6 b 2 λt c=>aB (decide ((0:Int)<(t:Int))) (K [[.sl t 6 c]]) (aA Is s25 [[.sl p 6 q,.sl r 31 s]] λd=>sK 38 d 0 λe f=>aA Is s140 [[.sl n 38 o],[.sl e 38 f]] λg=>bK g 0 λh=>(λV1=>aB (!h) (K V1) (aA Is s142 [[Cz a 0],[.sl p 6 q]] λi=>bK i 0 λj=>aB (!j) (K V1) (aA Is s143 [[cell (ab a 0) 1],[.sl r 31 s]] λl=>bK l 0 λm=>aB (!m) (K V1) (K [[.sl 0 6 []]])))) [[.sl 1 6 ([vI 2,vI 0,vI 0,vI 0,vI 14,.sl 0 3 []])]])
theorem w44:Wd (cD [s25,s26,s140,s142,s143]) hZ s44 g44:=Wk
def g25:Tx:=λIs a K=>jn (λk1=>sK 6 a 0 λn3 _=>Lp (λq g=>iK g 1 λz7=>iK g 2 λr=>sK 38 g 4 λn9 u=>sK 38 g 5 λv w=>sK 38 g 6 λx y=>sK 38 g 7 λz A=>aB (decide (r<z7)) (sK 6 g 0 λn17 s=>kI r n17 (aA Is s85 [[cell (eT s 6 r) 4]] λr19=>sK 3 r19 0 λn20 c21=>az (aO (n9+1) 425) (oK r (q [[Cz g 0],[vI z7],[vI (r+1)],ab g 3,[.sl (n9+1) 38 (u++(cls (sub (eT s 6 r) 0 3) 0 3 ([vI 0,cell (eT s 6 r) 3,.sl n20 3 c21,vI 0,vI 0,vI 0,vI 0,vI 0,vI 0,vI 0,vI 0,vI 0,.sl 0 5 [],vI 0,vI 0,vI 0,.sl 0 1 [],vI 0,vI 0,vI 0,vI 0,.sl 0 5 [],vI 0,vI 0,vI 0,vI 0,vI 0,vI 0,vI 0,vI 0,vI 0,vI 0,.sl 0 5 [],.sl 0 3 [],.sl 0 1 []])))],[.sl v 38 w],[.sl x 38 y],[.sl z 38 A]])))) (k1 [ab g 3,[.sl n9 38 u],[.sl v 38 w],[.sl x 38 y],[.sl z 38 A]])) [[Cz a 0],[vI n3],[vI 0],ab a 0,[.sl 0 38 []],[.sl 0 38 []],[.sl 0 38 []],[.sl 0 38 []]]) (λj=>sK 38 j 1 λn22 c23=>sK 38 j 2 λn24 c25=>sK 38 j 3 λn26 c27=>sK 38 j 4 λn28 c29=>aH 31 (cell (ab j 0) 1) λn30 _=>Lp (λm f=>iK f 1 λB=>iK f 2 λe=>sK 38 f 3 λC D=>sK 38 f 4 λE F=>sK 38 f 5 λG H=>sK 38 f 6 λI J=>aB (decide (e<B)) (sK 31 f 0 λn44 h=>kI e n44 (aA Is Ik [sub (eT h 31 e) 9 5] λL=>sK 5 L 1 λn47 c48=>aA Is s87 [[cell (eT h 31 e) 30]] λr49=>sK 1 r49 0 λn50 c51=>jn (λk52=>aH 11 (cell (eT h 31 e) 8) λn54 _=>Lp (λn b=>iK b 1 λM=>iK b 2 λN=>iK b 4 λO=>iK b 5 λi=>sK 38 b 6 λP Q=>sK 38 b 7 λR S=>sK 38 b 8 λt T=>sK 38 b 11 λU V=>sK 5 b 12 λW X=>sK 1 b 13 λY Z=>aB (decide (i<O)) (sK 11 b 3 λn74 l=>kI i n74 (aA Is Ik [sub (eT l 11 i) 4 5] λr76=>sK 5 r76 1 λn77 c78=>az (aO (t+1) 425) (oK i (n [[Cz b 0],[vI M],[vI N],[Cz b 3],[vI O],[vI (i+1)],[.sl P 38 Q],[.sl R 38 S],[.sl (t+1) 38 (T++(cls (sub (eT l 11 i) 0 3) 0 3 (vI 3::cell (eT l 11 i) 3::.sl 0 3 []::vI 0::cls (sub (ab b 9) 0 3) 0 3 (cell (eT l 11 i) 10::vI 0::vI 0::vI 0::vI 0::.sl 0 5 []::vI 0::vI 0::vI 0::.sl 0 1 []::cls (ab r76 0) 0 4 ([.sl n77 5 c78,cell (eT l 11 i) 9,vI 0,vI 0,vI 0,vI 0,vI 0,vI 0,vI 0,vI 0,vI 0,.sl 0 5 [],.sl 0 3 [],.sl 0 1 []])))))],ab b 9,cls (ab b 10) 0 36 [],[.sl U 38 V],[.sl W 5 X],[.sl Y 1 Z]])))) (k52 [[Cz b 0],[vI M],[vI N],[.sl P 38 Q],[.sl R 38 S],[.sl t 38 T],ab b 9,cls (ab b 10) 0 36 [],[.sl U 38 V],[.sl W 5 X],[.sl Y 1 Z]])) [[Cz f 0],[vI B],[vI e],[cell (eT h 31 e) 8],[vI n54],[vI 0],[.sl C 38 D],[.sl E 38 F],[.sl G 38 H],eT h 31 e,cls (sub (eT h 31 e) 0 3) 0 3 (vI 2::cell (eT h 31 e) 7::.sl 0 3 []::cell (eT h 31 e) 3::cls (sub (eT h 31 e) 4 3) 0 3 (cell (eT h 31 e) 29::cls (ab L 0) 0 4 ([vI 0,vI 0,vI 0,vI 0,vI 0,vI 0,vI 0,.sl 0 5 [],vI 0,vI 0,vI 0,vI 0,vI 0,vI 0,vI 0,vI 0,vI 0,vI 0,.sl 0 5 [],.sl 0 3 [],.sl 0 1 []]))),[.sl I 38 J],[.sl n47 5 c48],[.sl n50 1 c51]]) (λc=>iK c 1 λz79=>iK c 2 λz80=>sK 38 c 3 λn81 c82=>sK 38 c 4 λn83 c84=>sK 38 c 5 λn85 c86=>sK 38 c 8 λn87 c88=>sK 5 c 9 λn89 c90=>sK 1 c 10 λn91 c92=>jn (λk93=>aA Is s88 [[cell (ab c 6) 3]] λr95=>bK r95 0 λb96=>aB b96 (aA Is s89 [sub (ab c 6) 14 15,[.sl n87 38 c88]] λr97=>sK 38 r97 0 λn98 c99=>k93 [[Cz c 0],[vI z79],[vI z80],[.sl n81 38 c82],[.sl n83 38 c84],[.sl n85 38 c86],cls (ab c 7) 0 15 (cls (sub (ab c 6) 14 3) 0 3 (cls (ab c 7) 18 18 [])),[.sl n98 38 c99],[.sl n89 5 c90],[.sl n91 1 c92]]) (k93 [[Cz c 0],[vI z79],[vI z80],[.sl n81 38 c82],[.sl n83 38 c84],[.sl n85 38 c86],cls (ab c 7) 0 36 [],[.sl n87 38 c88],[.sl n89 5 c90],[.sl n91 1 c92]])) (λd=>iK d 1 λz100=>iK d 2 λo=>sK 38 d 3 λn102 c103=>sK 38 d 4 λp c105=>sK 38 d 5 λn106 c107=>sK 38 d 7 λn108 c109=>sK 5 d 8 λn110 c111=>sK 1 d 9 λn112 c113=>az (aO (p+1) 425) (oK o (m [[Cz d 0],[vI z100],[vI (o+1)],[.sl n102 38 c103],[.sl (p+1) 38 (c105++(cls (ab d 6) 0 15 (.sl n110 5 c111::cls (ab d 6) 15 3 (.sl n112 1 c113::cls (ab d 6) 18 18 []))))],[.sl n106 38 c107],[.sl n108 38 c109]])))))) (aA Is s92 [[.sl 4 1 [.sl C 38 D,.sl E 38 F,.sl G 38 H,.sl I 38 J]]] λr114=>sK 38 r114 0 λn115 c116=>aA Is s93 [[.sl n115 38 c116]] λr117=>sK 38 r117 0 λn118 c119=>K [[.sl n118 38 c119]])) [[cell (ab j 0) 1],[vI n30],[vI 0],[.sl n22 38 c23],[.sl n24 38 c25],[.sl n26 38 c27],[.sl n28 38 c29]])
theorem w25:Wd (cD [s85,Ik,s87,s88,s89,s92,s93]) ⟨[(3,⟨[hP 1 0,hW 3 1,hW 4 2,hW 5 3,hP 6 4,hD 16,hI 17,hI 18],[hA 0 26 2,hR 1 70 38,hR 2 70 38,hR 3 70 38,(4,.b 65 [.w 5]),hR 5 70 38]⟩),(8,⟨[hW 3 0,hW 4 1,hW 5 2,hP 6 3,hD 35,hI 36,hI 37],[hR 0 70 38,hR 1 70 38,hR 2 70 38,(3,.b 65 [.w 4]),hR 4 70 38]⟩),(12,⟨[hW 3 0,hW 4 1,hW 5 2,hP 6 3,hP 10 4,hP 11 5,hD 35,hI 36,hI 37,hD 59,hI 60,hI 61],[hR 0 70 38,hR 1 70 38,hR 2 70 38,(3,.b 65 [.w 6]),hA 4 52 31,(5,.b 70 (.d::.d::.d::.d::.d::.d::.d::.d::.d::.d::.d::.d::.d::.d::.d::.w 7::.d::.d::.d::.w 8::ds 18)),hR 6 70 38,hR 7 46 5,hR 8 9 1]⟩)],[(7,⟨[hP 1 0,hW 3 1,hW 4 2,hW 5 3,hP 6 4],[hA 0 26 2,hR 1 70 38,hR 2 70 38,hR 3 70 38,(4,.b 65 [.w 5]),hR 5 70 38]⟩),(16,⟨[hW 3 0,hW 4 1,hW 5 2,hP 6 3,hP 10 4,hP 11 5,hD 35,hI 36,hI 37],[hR 0 70 38,hR 1 70 38,hR 2 70 38,(3,.b 65 [.w 6]),hA 4 52 31,(5,.b 70 (.d::.d::.d::.d::.d::.d::.d::.d::.d::.d::.d::.d::.d::.d::.d::.w 7::.d::.d::.d::.w 8::ds 18)),hR 6 70 38,hR 7 46 5,hR 8 9 1]⟩),(19,⟨[hW 3 0,hW 4 1,hW 5 2,hP 6 3,hP 11 4,hD 35,hI 36,hI 37],[hR 0 70 38,hR 1 70 38,hR 2 70 38,(3,.b 65 [.w 5]),(4,.b 70 (.d::.d::.d::.d::.d::.d::.d::.d::.d::.d::.d::.d::.d::.d::.d::.w 6::.d::.d::.d::.w 7::ds 18)),hR 5 70 38,hR 6 46 5,hR 7 9 1]⟩)],[]⟩ s25 g25:=Wk
def g86:Tx:=λIs a K=>aA Is s175 [[cell (ab a 0) 4]] λm=>sK 5 m 0 λl n=>Lp (λd b=>iK b 0 λg=>iK b 1 λc=>sK 5 b 4 λe f=>aB (decide (c<g)) (kI c e (aA Is Ik [eT f 5 c] λh=>sK 5 h 1 λi j=>kI c e (oK c (d [[vI g],[vI (c+1)],cls (ab b 2) 0 4 [],ab b 3,[.sl e 5 (cQ f ((Qr c)*5+0) (cls (ab h 0) 0 4 [.sl i 5 j]))]])))) (K [cls (ab b 2) 0 4 [],[.sl e 5 f]])) [[vI l],[vI 0],cls (ab a 0) 0 4 [],[vI 0,vI 0,vI 0,vI 0,.sl 0 5 []],[.sl l 5 n]]
theorem w86:Wd (cD [Ik,s175]) ⟨[(3,⟨[hP 1 0,hP 2 1,hW 10 2,hI 11,hI 12],[(0,.b 46 [.d,.d,.d,.d,.w 2]),hA 1 46 5,hR 2 46 5]⟩)],[],[]⟩ Ik g86:=Wk
def g88:Tx:=λ_ a K=>iK a 0 λb=>aB (decide (b=(2:Int))) (K [[vB true]]) (aB (decide (b=(3:Int))) (K [[vB true]]) (aB (decide (b=(4:Int))) (K [[vB true]]) (K [[vB (decide (b=(5:Int)))]])))
theorem w88:Wd (cD []) hZ s88 g88:=Wk
def g89:Tx:=λIs a K=>sK 38 a 1 λq r=>aH 15 (cell (ab a 0) 13) λs _=>Lp (λc b=>iK b 1 λo=>iK b 2 λd=>sK 38 b 4 λp e=>aB (decide (d<o)) (sK 15 b 0 λf g=>kI d f (aA Is s89 [eT g 15 d,[.sl p 38 e]] λh=>sK 38 h 0 λi j=>oK d (c [[Cz b 0],[vI o],[vI (d+1)],ab b 3,[.sl i 38 j]]))) (aA Is s90 [ab b 3,[.sl p 38 e]] λl=>sK 38 l 0 λm n=>K [[.sl m 38 n]])) [[cell (ab a 0) 13],[vI s],[vI 0],ab a 0,[.sl q 38 r]]
theorem w89:Wd (cD [s89,s90]) ⟨[(2,⟨[(1,.c (.f 90 [.p 0 0])),hP 2 1,hD 7,hI 8,hI 9],[(0,.b 65 [.w 2]),hA 1 50 15,hR 2 70 38]⟩)],[],[]⟩ s89 g89:=Wk
def g90:Tx:=λIs a K=>sK 38 a 1 λc d=>aA Is s91 [ab a 0] λb=>sK 5 b 1 λe f=>sK 3 b 2 λg h=>sK 1 b 3 λi j=>az (aO (c+1) 425) (K [[.sl (c+1) 38 (d++(cls (sub (ab a 0) 0 3) 0 3 (vI 4::.v (.string (QX #[]))::.sl 0 3 []::vI 0::vI 0::vI 0::vI 0::vI 0::vI 0::vI 0::vI 0::vI 0::.sl 0 5 []::vI 0::vI 0::vI 0::.sl 0 1 []::vI 0::vI 0::vI 0::vI 0::.sl 0 5 []::vI 0::cls (ab b 0) 0 9 [.sl e 5 f,.sl g 3 h,.sl i 1 j])))]])
theorem w90:Wd (cD [s91]) hZ s90 g90:=Wk
def g91:Tx:=λIs a K=>aA Is Ik [sub (ab a 0) 8 5] λo=>sK 5 o 1 λp q=>aA Is s87 [[cell (ab a 0) 14]] λr=>sK 1 r 0 λs t=>aH 15 (cell (ab a 0) 13) λu _=>Lp (λd b=>iK b 1 λf=>iK b 2 λc=>sK 5 b 5 λg h=>sK 3 b 6 λe i=>sK 1 b 7 λj l=>aB (decide (c<f)) (sK 15 b 0 λm n=>kI c m (az (aO (e+1) 25) (oK c (d [[Cz b 0],[vI f],[vI (c+1)],ab b 3,cls (ab b 4) 0 9 [],[.sl g 5 h],[.sl (e+1) 3 (i++((sub (eT n 15 c) 0 3)++[]))],[.sl j 1 l]])))) (K [cls (ab b 4) 0 9 [],[.sl g 5 h],[.sl e 3 i],[.sl j 1 l]])) [[cell (ab a 0) 13],[vI u],[vI 0],[vI 0,vI 0,vI 0,vI 0,vI 0,vI 0,vI 0,vI 0,vI 0,.sl 0 5 [],.sl 0 3 [],.sl 0 1 []],cell (ab a 0) 3::cell (ab a 0) 4::cls (sub (ab a 0) 5 3) 0 3 (cls (ab o 0) 0 4 []),[.sl p 5 q],[.sl 0 3 []],[.sl s 1 t]]
theorem w91:Wd (cD [Ik,s87]) ⟨[(3,⟨[hP 2 0,hP 3 1,hD 20,hI 21,hI 22],[hA 0 68 12,(1,.b 68 (ds 9++[.w 2,.w 3,.w 4])),hR 2 46 5,hR 3 42 3,hR 4 9 1]⟩)],[],[]⟩ s91 g91:=Wk
def g26:Tx:=λIs a K=>aA Is s96 [[Cz a 0]] λr1=>sK 41 r1 0 λn2 c3=>aA Is s97 [[vI 0],[.sl n2 41 c3]] λr4=>sK 38 r4 0 λn5 c6=>sK 41 r4 1 λn7 c8=>aA Is Ij [[vI 2],[.sl n7 41 c8]] λr9=>sK 38 r9 0 λn10 c11=>sK 41 r9 1 λn12 c13=>aA Is s100 [[.sl n5 38 c6],[.sl n10 38 c11],[.sl n12 41 c13],[.sl 0 6 []],[.sl 0 4 []],[.sl 0 3 []]] λr14=>sK 41 r14 0 λn15 c16=>sK 4 r14 1 λn17 c18=>sK 6 r14 2 λn19 c20=>sK 3 r14 3 λn21 c22=>aB (decide ((0:Int)<(n19:Int))) (aA Is s101 [[.sl n15 41 c16],[.sl n19 6 c20],[.sl n17 4 c18],[.sl n21 3 c22]] λr23=>sK 6 r23 0 λn24 c25=>K [[.sl 0 6 []],[.sl 0 31 []],[.sl n24 6 c25]]) (jn (λk26=>Lp (λnext28 i=>iK i 2 λz30=>iK i 3 λo=>sK 41 i 5 λn32 c33=>sK 6 i 6 λn34 c35=>sK 4 i 7 λn36 c37=>sK 3 i 8 λn38 c39=>sK 6 i 9 λn40 c41=>sK 31 i 10 λn42 c43=>aB (decide (o<z30)) (sK 38 i 1 λn44 p=>kI o n44 (aA Is Ik [sub (eT p 38 o) 11 5] λr46=>sK 5 r46 1 λn47 c48=>aA Is s87 [[cell (eT p 38 o) 19]] λr49=>sK 1 r49 0 λn50 c51=>jn (λk52=>aA Is Ku [sub (eT p 38 o) 0 3,[.sl n32 41 c33],[.sl n34 6 c35],[.sl n36 4 c37],[.sl n38 3 c39]] λJ=>sK 38 J 0 λn55 c56=>sK 41 J 1 λn57 c58=>sK 4 J 2 λn59 c60=>sK 6 J 3 λn61 c62=>sK 3 J 4 λn63 c64=>Lp (λnext65 e=>iK e 2 λz67=>iK e 3 λz68=>iK e 4 λz69=>iK e 5 λq=>sK 38 e 9 λn71 I=>sK 41 e 10 λn73 c74=>sK 6 e 11 λn75 c76=>sK 4 e 12 λn77 c78=>sK 3 e 13 λn79 c80=>sK 6 e 14 λn81 c82=>sK 31 e 15 λn83 c84=>sK 11 e 16 λn85 c86=>sK 5 e 17 λn87 c88=>sK 1 e 18 λn89 c90=>aB (decide (q<z69)) (kI q n71 (aA Is Ik [sub (eT I 38 q) 20 5] λr91=>sK 5 r91 1 λn92 c93=>az (aO (n85+1) 113) (oK q (next65 [[Cz e 0],[Cz e 1],[vI z67],[vI z68],[vI z69],[vI (q+1)],ab e 6,ab e 7,cls (ab e 8) 0 28 [],[.sl n71 38 I],[.sl n73 41 c74],[.sl n75 6 c76],[.sl n77 4 c78],[.sl n79 3 c80],[.sl n81 6 c82],[.sl n83 31 c84],[.sl (n85+1) 11 (c86++(cls (sub (eT I 38 q) 0 3) 0 3 (cell (eT I 38 q) 4::cls (ab r91 0) 0 4 [.sl n92 5 c93,cell (eT I 38 q) 25,cell (eT I 38 q) 10])))],[.sl n87 5 c88],[.sl n89 1 c90]])))) (k52 [[Cz e 0],[Cz e 1],[vI z67],[vI z68],ab e 6,ab e 7,cls (ab e 8) 0 28 [],[.sl n73 41 c74],[.sl n75 6 c76],[.sl n77 4 c78],[.sl n79 3 c80],[.sl n81 6 c82],[.sl n83 31 c84],[.sl n85 11 c86],[.sl n87 5 c88],[.sl n89 1 c90]])) [[Cz i 0],[Cz i 1],[vI z30],[vI o],[vI n55],[vI 0],ab i 4,eT p 38 o,cls (sub (eT p 38 o) 0 3) 0 3 (cell (eT p 38 o) 6::cls (sub (eT p 38 o) 7 3) 0 3 (cell (eT p 38 o) 4::cls (ab r46 0) 0 4 ([vI 0,vI 0,vI 0,vI 0,vI 0,vI 0,vI 0,vI 0,vI 0,vI 0,vI 0,vI 0,.sl 0 5 [],.sl 0 15 [],.sl 0 1 [],cell (eT p 38 o) 10]))),[.sl n55 38 c56],[.sl n57 41 c58],[.sl n61 6 c62],[.sl n59 4 c60],[.sl n63 3 c64],[.sl n40 6 c41],[.sl n42 31 c43],[.sl 0 11 []],[.sl n47 5 c48],[.sl n50 1 c51]]) (λc=>iK c 2 λz94=>iK c 3 λz95=>sK 41 c 7 λn96 c97=>sK 6 c 8 λn98 c99=>sK 4 c 9 λn100 c101=>sK 3 c 10 λn102 c103=>sK 6 c 11 λu v=>sK 31 c 12 λw x=>sK 11 c 13 λy z=>sK 5 c 14 λA B=>sK 1 c 15 λC D=>jn (λE=>aA Is s88 [[cell (ab c 5) 6]] λr116=>bK r116 0 λb117=>aB b117 (aA Is Ks [sub (ab c 5) 16 3,[.sl n96 41 c97],[.sl n98 6 c99],[.sl n100 4 c101],[.sl n102 3 c103]] λj=>iK j 1 λz119=>iK j 2 λz120=>sK 5 j 3 λL M=>sK 15 j 4 λN O=>sK 1 j 5 λP Q=>sK 41 j 6 λR S=>sK 4 j 7 λT U=>sK 6 j 8 λV W=>sK 3 j 9 λX Y=>(λV1=>(λV2=>aB (decide ((128:Int)<z119)) (aA Is tJ V2 λF=>sK 41 F 0 λn136 c137=>sK 4 F 1 λn138 c139=>sK 6 F 2 λn140 c141=>sK 3 F 3 λn142 c143=>E [[Cz c 0],[Cz c 1],[vI z94],[vI z95],ab c 4,cls (ab c 6) 0 12 V1,[.sl n136 41 c137],[.sl n140 6 c141],[.sl n138 4 c139],[.sl n142 3 c143],[.sl u 6 v],[.sl w 31 x],[.sl y 11 z],[.sl A 5 B],[.sl C 1 D]]) (aB (decide ((24:Int)<z120)) (aA Is tJ V2 λG=>sK 41 G 0 λn145 c146=>sK 4 G 1 λn147 c148=>sK 6 G 2 λn149 c150=>sK 3 G 3 λn151 c152=>E [[Cz c 0],[Cz c 1],[vI z94],[vI z95],ab c 4,cls (ab c 6) 0 12 V1,[.sl n145 41 c146],[.sl n149 6 c150],[.sl n147 4 c148],[.sl n151 3 c152],[.sl u 6 v],[.sl w 31 x],[.sl y 11 z],[.sl A 5 B],[.sl C 1 D]]) (E [[Cz c 0],[Cz c 1],[vI z94],[vI z95],ab c 4,cls (ab c 6) 0 12 V1,[.sl R 41 S],[.sl V 6 W],[.sl T 4 U],[.sl X 3 Y],[.sl u 6 v],[.sl w 31 x],[.sl y 11 z],[.sl A 5 B],[.sl C 1 D]]))) [[vI 4],sub (ab c 5) 0 3,[vI 11],[.sl R 41 S],[.sl V 6 W],[.sl T 4 U],[.sl X 3 Y]]) (cls (ab j 0) 0 12 [.sl L 5 M,.sl N 15 O,.sl P 1 Q,cell (ab c 6) 27])) (E [[Cz c 0],[Cz c 1],[vI z94],[vI z95],ab c 4,cls (ab c 6) 0 28 [],[.sl n96 41 c97],[.sl n98 6 c99],[.sl n100 4 c101],[.sl n102 3 c103],[.sl u 6 v],[.sl w 31 x],[.sl y 11 z],[.sl A 5 B],[.sl C 1 D]])) (λf=>iK f 2 λz153=>iK f 3 λz154=>sK 41 f 6 λn155 c156=>sK 6 f 7 λn157 c158=>sK 4 f 8 λn159 c160=>sK 3 f 9 λn161 c162=>sK 6 f 10 λn163 c164=>sK 31 f 11 λn165 c166=>sK 11 f 12 λn167 c168=>sK 5 f 13 λn169 c170=>sK 1 f 14 λn171 c172=>az (aO (n165+1) 353) (oK z154 (next28 [[Cz f 0],[Cz f 1],[vI z153],[vI (z154+1)],ab f 4,[.sl n155 41 c156],[.sl n157 6 c158],[.sl n159 4 c160],[.sl n161 3 c162],[.sl n163 6 c164],[.sl (n165+1) 31 (c166++(cls (ab f 5) 0 8 (.sl n167 11 c168::cls (ab f 5) 8 4 (.sl n169 5 c170::cls (ab f 5) 12 16 [.sl n171 1 c172]))))]])))))) (k26 [[Cz i 0],ab i 4,[.sl n32 41 c33],[.sl n34 6 c35],[.sl n36 4 c37],[.sl n38 3 c39],[.sl n40 6 c41],[.sl n42 31 c43]])) [[.sl n5 38 c6],[.sl n10 38 c11],[vI n10],[vI 0],[.sl 0 6 [],.sl 0 31 []],[.sl n15 41 c16],[.sl n19 6 c20],[.sl n17 4 c18],[.sl n21 3 c22],[.sl 0 6 []],[.sl 0 31 []]]) (λl=>sK 41 l 2 λn173 c174=>sK 6 l 3 λZ c176=>sK 4 l 4 λn177 c178=>sK 3 l 5 λn179 c180=>sK 6 l 6 λn181 c182=>sK 31 l 7 λn183 c184=>aB (decide ((0:Int)<(Z:Int))) (aA Is s101 [[.sl n173 41 c174],[.sl Z 6 c176],[.sl n177 4 c178],[.sl n179 3 c180]] λr185=>sK 6 r185 0 λn186 c187=>K [[.sl 0 6 []],[.sl 0 31 []],[.sl n186 6 c187]]) (sK 38 l 0 λn188 _=>Lp (λnext190 h=>iK h 1 λz192=>iK h 2 λm=>sK 41 h 4 λn194 c195=>sK 6 h 5 λn196 c197=>sK 4 h 6 λn198 c199=>sK 3 h 7 λn200 c201=>sK 6 h 8 λn202 c203=>sK 31 h 9 λn204 c205=>aB (decide (m<z192)) (sK 38 h 0 λn206 r=>kI m n206 (jn (λk208=>aH 3 (cell (eT r 38 m) 5) λn210 _=>Lp (λs b=>iK b 1 λz214=>iK b 2 λz215=>iK b 4 λz216=>iK b 5 λn=>sK 41 b 9 λn218 c219=>sK 6 b 10 λn220 c221=>sK 4 b 11 λn222 c223=>sK 3 b 12 λn224 c225=>sK 6 b 13 λn226 c227=>sK 31 b 14 λn228 c229=>sK 3 b 15 λH c231=>sK 3 b 16 λn232 c233=>(λV3=>(λV4=>(λV5=>(λV6=>(λV7=>(λV8=>aB (decide (n<z216)) (sK 3 b 3 λn234 c235=>kI n n234 (aA Is DB [eT c235 3 n,[.sl 1 1 [vI 0]],[.sl n218 41 c219]] λr236=>bK r236 0 λb237=>sK 41 r236 1 λn238 c239=>aB b237 (az (aO (H+1) 25) (oK n (s [[Cz b 0],[vI z214],[vI z215],[Cz b 3],[vI z216],[vI (n+1)],ab b 6,ab b 7,cls (ab b 8) 0 4 [],[.sl n238 41 c239],V8,V7,V6,V5,V3,[.sl (H+1) 3 (c231++((eT c235 3 n)++[]))],V4]))) (oK n (s [[Cz b 0],[vI z214],[vI z215],[Cz b 3],[vI z216],[vI (n+1)],ab b 6,ab b 7,cls (ab b 8) 0 4 [],[.sl n238 41 c239],V8,V7,V6,V5,V3,[.sl H 3 c231],V4])))) (k208 [[Cz b 0],[vI z214],[vI z215],ab b 6,ab b 7,cls (ab b 8) 0 4 [],[.sl n218 41 c219],V8,V7,V6,V5,V3,[.sl H 3 c231],V4])) [.sl n220 6 c221]) [.sl n222 4 c223]) [.sl n224 3 c225]) [.sl n226 6 c227]) [.sl n232 3 c233]) [.sl n228 31 c229]) [[Cz h 0],[vI z192],[vI m],[cell (eT r 38 m) 5],[vI n210],[vI 0],ab h 3,eT r 38 m,cls (sub (eT r 38 m) 0 3) 0 3 [cell (eT r 38 m) 4],[.sl n194 41 c195],[.sl n196 6 c197],[.sl n198 4 c199],[.sl n200 3 c201],[.sl n202 6 c203],[.sl n204 31 c205],[.sl 0 3 []],[.sl 0 3 []]]) (λg=>iK g 1 λz240=>iK g 2 λz241=>sK 41 g 6 λn242 c243=>sK 6 g 7 λn244 c245=>sK 4 g 8 λn246 c247=>sK 3 g 9 λn248 c249=>sK 6 g 10 λn250 c251=>sK 31 g 11 λn252 c253=>sK 3 g 12 λn254 c255=>sK 3 g 13 λn256 c257=>aA Is Dv [[.sl n254 3 c255]] λr258=>sK 3 r258 0 λn259 c260=>aA Is s79 [[.sl n259 3 c260]] λr261=>sK 3 r261 0 λn262 c263=>aA Is Ih [[vI 2],[.sl n242 41 c243],ab g 4] λr264=>sK 38 r264 0 λn265 c266=>sK 41 r264 1 λn267 c268=>Lp (λj2 d=>iK d 1 λz271=>iK d 2 λz272=>iK d 3 λz273=>iK d 4 λt=>sK 38 d 7 λn275 c276=>sK 41 d 8 λn277 c278=>sK 6 d 9 λn279 c280=>sK 4 d 10 λn281 c282=>sK 3 d 11 λn283 c284=>sK 6 d 12 λn285 c286=>sK 31 d 13 λn287 c288=>sK 3 d 14 λn289 c290=>sK 3 d 15 λn291 c292=>aB (decide (t<z273)) (kI t n275 (az (aO (n291+1) 25) (oK t (j2 [[Cz d 0],[vI z271],[vI z272],[vI z273],[vI (t+1)],ab d 5,cls (ab d 6) 0 4 [],[.sl n275 38 c276],[.sl n277 41 c278],[.sl n279 6 c280],[.sl n281 4 c282],[.sl n283 3 c284],[.sl n285 6 c286],[.sl n287 31 c288],[.sl n289 3 c290],[.sl (n291+1) 3 (c292++((sub (eT c276 38 t) 0 3)++[]))]])))) (az (aO (n285+1) 89) (oK z272 (next190 [[Cz d 0],[vI z271],[vI (z272+1)],ab d 5,[.sl n277 41 c278],[.sl n279 6 c280],[.sl n281 4 c282],[.sl n283 3 c284],[.sl (n285+1) 6 (c286++(cls (ab d 6) 0 4 [.sl n289 3 c290,.sl n291 3 c292]))],[.sl n287 31 c288]])))) [[Cz g 0],[vI z240],[vI z241],[vI n265],[vI 0],ab g 3,cls (ab g 5) 0 4 [],[.sl n265 38 c266],[.sl n267 41 c268],[.sl n244 6 c245],[.sl n246 4 c247],[.sl n248 3 c249],[.sl n250 6 c251],[.sl n252 31 c253],[.sl n262 3 c263],[.sl n256 3 c257]]))) (K [[.sl n202 6 c203],[.sl n204 31 c205],[.sl 0 6 []]])) [[Cz l 0],[vI n188],[vI 0],ab l 1,[.sl n173 41 c174],[.sl Z 6 c176],[.sl n177 4 c178],[.sl n179 3 c180],[.sl n181 6 c182],[.sl n183 31 c184]])))
theorem w26:Wd (cD [Dv,s79,Ik,s87,s88,s96,s97,Ij,Ih,s100,s101,Ku,Ks,tJ,DB]) ⟨[(8,⟨[hP 2 0,hP 4 1,hD 5,hP 7 2,hD 51,hI 52,hI 53],[hA 0 26 2,(1,.b 152 [.m 3,.w 4,.m 5,.w 6]),(2,.b 26 [.w 7,.w 8]),(3,.ms 148 true 38),hR 4 57 6,(5,.m 150 false 1),hR 6 42 3,hR 7 60 6,hR 8 52 31]⟩),(12,⟨[hP 2 0,hP 4 1,hD 5,hP 7 2,hP 9 3,hP 10 4,hD 51,hI 52,hI 53,hW 77 5,hI 78,hI 79],[hA 0 26 2,(1,.b 152 [.m 6,.w 7,.m 8,.w 9]),(2,.b 26 [.w 10,.w 11]),hA 3 70 38,(4,.b 52 (.d::.d::.d::.d::.d::.d::.d::.d::.w 12::.d::.d::.d::.d::.w 13::ds 16++[.w 14])),hR 5 70 38,(6,.ms 148 true 38),hR 7 57 6,(8,.m 150 false 1),hR 9 42 3,hR 10 60 6,hR 11 52 31,hR 12 75 11,hR 13 46 5,hR 14 9 1]⟩),(26,⟨[hP 2 0,hP 4 1,hP 7 2,hD 140,hI 141,hI 142],[hA 0 26 2,(1,.b 152 [.m 3,.w 4,.m 5,.w 6]),(2,.b 26 [.w 7,.w 8]),(3,.ms 148 true 38),hR 4 57 6,(5,.m 150 false 1),hR 6 42 3,hR 7 60 6,hR 8 52 31]⟩),(30,⟨[hP 2 0,hP 4 1,hP 7 2,hP 17 3,hP 18 4,hD 140,hI 141,hI 142,hD 152,hI 153,hI 154],[hA 0 26 2,(1,.b 152 [.m 5,.w 6,.m 7,.w 8]),(2,.b 26 [.w 9,.w 10]),hA 3 70 38,(4,.b 60 [.d,.d,.d,.d,.w 11,.w 12]),(5,.ms 148 true 38),hR 6 57 6,(7,.m 150 false 1),hR 8 42 3,hR 9 60 6,hR 10 52 31,hR 11 42 3,hR 12 42 3]⟩),(38,⟨[hP 2 0,hP 4 1,hP 7 2,hP 18 3,hD 140,hI 141,hI 142,hW 184 4,hI 185,hI 186],[hA 0 26 2,(1,.b 152 [.m 5,.w 6,.m 7,.w 8]),(2,.b 26 [.w 9,.w 10]),(3,.b 60 [.d,.d,.d,.d,.w 11,.w 12]),hR 4 70 38,(5,.ms 148 true 38),hR 6 57 6,(7,.m 150 false 1),hR 8 42 3,hR 9 60 6,hR 10 52 31,hR 11 42 3,hR 12 42 3]⟩)],[(16,⟨[hP 2 0,hP 4 1,hD 5,hP 7 2,hP 9 3,hP 10 4,hD 51,hI 52,hI 53],[hA 0 26 2,(1,.b 152 [.m 5,.w 6,.m 7,.w 8]),(2,.b 26 [.w 9,.w 10]),hA 3 70 38,(4,.b 52 (.d::.d::.d::.d::.d::.d::.d::.d::.w 11::.d::.d::.d::.d::.w 12::ds 16++[.w 13])),(5,.ms 148 true 38),hR 6 57 6,(7,.m 150 false 1),hR 8 42 3,hR 9 60 6,hR 10 52 31,hR 11 75 11,hR 12 46 5,hR 13 9 1]⟩),(21,⟨[hP 2 0,hP 4 1,hD 5,hP 7 2,hP 10 3,hD 51,hI 52,hI 53],[hA 0 26 2,(1,.b 152 [.m 4,.w 5,.m 6,.w 7]),(2,.b 26 [.w 8,.w 9]),(3,.b 52 (.d::.d::.d::.d::.d::.d::.d::.d::.w 10::.d::.d::.d::.d::.w 11::ds 16++[.w 12])),(4,.ms 148 true 38),hR 5 57 6,(6,.m 150 false 1),hR 7 42 3,hR 8 60 6,hR 9 52 31,hR 10 75 11,hR 11 46 5,hR 12 9 1]⟩),(23,⟨[hP 2 0,hP 4 1,hD 5,hP 7 2],[hA 0 26 2,(1,.b 152 [.m 3,.w 4,.m 5,.w 6]),(2,.b 26 [.w 7,.w 8]),(3,.ms 148 true 38),hR 4 57 6,(5,.m 150 false 1),hR 6 42 3,hR 7 60 6,hR 8 52 31]⟩),(35,⟨[hP 2 0,hP 4 1,hP 7 2,hP 17 3,hP 18 4,hD 140,hI 141,hI 142],[hA 0 26 2,(1,.b 152 [.m 5,.w 6,.m 7,.w 8]),(2,.b 26 [.w 9,.w 10]),hA 3 70 38,(4,.b 60 [.d,.d,.d,.d,.w 11,.w 12]),(5,.ms 148 true 38),hR 6 57 6,(7,.m 150 false 1),hR 8 42 3,hR 9 60 6,hR 10 52 31,hR 11 42 3,hR 12 42 3]⟩)],[]⟩ s26 g26:=Wk
def g96:Tx:=λ_ a K=>sK 38 a 0 λp _=>Lp (λc b=>iK b 1 λl=>iK b 2 λd=>sK 41 b 3 λf g=>aB (decide (d<l)) (sK 38 b 0 λq e=>kI d q (tK (sub (eT e 38 d) 0 3) λm n o=>aB (!((bu 41 m n o f g).isSome)) (tK (sub (eT e 38 d) 0 3) λh i j=>oK d (c [[Cz b 0],[vI l],[vI (d+1)],[.sl (fH 41 h i j f g) 41 (cS 41 h i j (eT e 38 d) f g)]])) (oK d (c [[Cz b 0],[vI l],[vI (d+1)],[.sl f 41 g]])))) (K [[.sl f 41 g]])) [[Cz a 0],[vI p],[vI 0],[.sl 0 41 []]]
theorem w96:Wd (cD []) ⟨[(3,⟨[(3,.c (.m 0)),hD 9,hI 10,hI 11],[(0,.m 148 true 38)]⟩)],[],[]⟩ s96 g96:=Wk
def g97:Tx:=λIs a K=>iK a 0 λy=>sK 41 a 1 λw x=>jn (λz=>Lp (λb f=>iK f 0 λj=>sK 41 f 1 λl g=>sK 38 f 2 λd h=>sK 41 f 3 λe c=>((e=0->(z [[.sl l 41 g],[.sl d 38 h]]))/\∀i15,i15<e->(aw (cell (Sr 3 (el c 41 i15)) 3) λm=>aB (decide (m=j)) (aA Is s98 [Sr 3 (el c 41 i15)] λn=>bK n 0 λo=>aB o (az (aO (d+1) 425) (b [[vI j],[.sl l 41 g],[.sl (d+1) 38 (h++((Sr 3 (el c 41 i15))++[]))],[.sl (e-1) 41 (mF c 41 i15)]])) (b [[vI j],[.sl l 41 g],[.sl d 38 h],[.sl (e-1) 41 (mF c 41 i15)]])) (b [[vI j],[.sl l 41 g],[.sl d 38 h],[.sl (e-1) 41 (mF c 41 i15)]])))) [[vI y],[.sl w 41 x],[.sl 0 38 []],[.sl w 41 x]]) (λi=>sK 41 i 0 λp q=>sK 38 i 1 λr s=>aA Is Bx [[.sl r 38 s]] λt=>sK 38 t 0 λu v=>K [[.sl u 38 v],[.sl p 41 q]])
theorem w97:Wd ⟨[s98,Bx],[42],[],[],mB,mA,false,ie,true,false,[]⟩ ⟨[(3,⟨[(0,.c (.m 0)),hI 1,(2,.c (.f 98 [])),(3,.c (.f 99 [])),hW 9 1,hP 13 2],[(0,.ms 148 true 38),hR 1 70 38,(2,.it true 38)]⟩)],[(7,⟨[(0,.c (.m 0)),(3,.c (.f 99 [])),hW 9 1],[(0,.ms 148 true 38),hR 1 70 38]⟩)],[]⟩ s97 g97:=Wk
def g97_1:Tx:=λIs a K=>iK a 0 λy=>sK 41 a 1 λw x=>jn (λz=>Lp (λb f=>iK f 0 λj=>sK 41 f 1 λl g=>sK 38 f 2 λd h=>sK 41 f 3 λe c=>((e=0->(z [[.sl l 41 g],[.sl d 38 h]]))/\∀i15,i15<e->(aw (cell (Sr 3 (el c 41 i15)) 3) λm=>aB (decide (m=j)) (aA Is s98 [Sr 3 (el c 41 i15)] λn=>bK n 0 λo=>aB o (az (aO (d+1) 425) (b [[vI j],[.sl l 41 g],[.sl (d+1) 38 (h++((Sr 3 (el c 41 i15))++[]))],[.sl (e-1) 41 (mF c 41 i15)]])) (b [[vI j],[.sl l 41 g],[.sl d 38 h],[.sl (e-1) 41 (mF c 41 i15)]])) (b [[vI j],[.sl l 41 g],[.sl d 38 h],[.sl (e-1) 41 (mF c 41 i15)]])))) [[vI y],[.sl w 41 x],[.sl 0 38 []],[.sl w 41 x]]) (λi=>sK 41 i 0 λp q=>sK 38 i 1 λr s=>aA Is Bx [[.sl r 38 s]] λt=>sK 38 t 0 λu v=>K [[.sl u 38 v],[.sl p 41 q]])
theorem w97_1:Wd ⟨[s98,Bx],[42],[],[],mB,mA,false,ie,true,false,[]⟩ ⟨[(3,⟨[(0,.c (.m 0)),hI 1,(2,.c (.f 98 [])),(3,.c (.f 99 [])),hW 9 1,hP 13 2],[(0,.ms 148 true 38),hR 1 70 38,(2,.it true 38)]⟩)],[(7,⟨[(0,.c (.m 0)),(3,.c (.f 99 [])),hW 9 1],[(0,.ms 148 true 38),hR 1 70 38]⟩)],[]⟩ Ij g97_1:=Wk
def g97_2:Tx:=λIs a K=>iK a 0 λy=>sK 41 a 1 λw x=>jn (λz=>Lp (λb c=>iK c 0 λl=>sK 41 c 1 λm g=>sK 38 c 3 λe h=>sK 41 c 4 λf d=>((f=0->(z [[.sl m 41 g],ab c 2,[.sl e 38 h]]))/\∀i15,i15<f->(aw (cell (Sr 3 (el d 41 i15)) 3) λn=>aB (decide (n=l)) (aA Is s182 [Sr 3 (el d 41 i15),ab c 2] λi=>bK i 0 λo=>aB o (az (aO (e+1) 425) (b [[vI l],[.sl m 41 g],ab i 1,[.sl (e+1) 38 (h++((Sr 3 (el d 41 i15))++[]))],[.sl (f-1) 41 (mF d 41 i15)]])) (b [[vI l],[.sl m 41 g],ab i 1,[.sl e 38 h],[.sl (f-1) 41 (mF d 41 i15)]])) (b [[vI l],[.sl m 41 g],ab c 2,[.sl e 38 h],[.sl (f-1) 41 (mF d 41 i15)]])))) [[vI y],[.sl w 41 x],ab a 2,[.sl 0 38 []],[.sl w 41 x]]) (λj=>sK 41 j 0 λp q=>sK 38 j 2 λr s=>aA Is kB [[.sl r 38 s]] λt=>sK 38 t 0 λu v=>K [[.sl u 38 v],[.sl p 41 q],ab j 1])
theorem w97_2:Wd ⟨[kB,s182],[42],[],[],mB,mA,false,ie,true,false,[]⟩ ⟨[(3,⟨[(0,.c (.m 0)),hI 1,(2,.c (.f 182 [.p 1 0])),(3,.c (.f 107 [])),hW 9 2,hP 13 3],[(0,.ms 148 true 38),hA 1 42 3,hR 2 70 38,(3,.it true 38)]⟩)],[(7,⟨[(0,.c (.m 0)),(2,.c (.f 182 [.p 1 0])),(3,.c (.f 107 [])),hW 9 2],[(0,.ms 148 true 38),hA 1 42 3,hR 2 70 38]⟩)],[]⟩ Ii g97_2:=Wk
def g97_3:Tx:=λIs a K=>iK a 0 λy=>sK 41 a 1 λw x=>jn (λz=>Lp (λb c=>iK c 0 λl=>sK 41 c 1 λm g=>sK 38 c 3 λe h=>sK 41 c 4 λf d=>((f=0->(z [[.sl m 41 g],ab c 2,[.sl e 38 h]]))/\∀i15,i15<f->(aw (cell (Sr 3 (el d 41 i15)) 3) λn=>aB (decide (n=l)) (aA Is s106 [Sr 3 (el d 41 i15),ab c 2] λi=>bK i 0 λo=>aB o (az (aO (e+1) 425) (b [[vI l],[.sl m 41 g],ab i 1,[.sl (e+1) 38 (h++((Sr 3 (el d 41 i15))++[]))],[.sl (f-1) 41 (mF d 41 i15)]])) (b [[vI l],[.sl m 41 g],ab i 1,[.sl e 38 h],[.sl (f-1) 41 (mF d 41 i15)]])) (b [[vI l],[.sl m 41 g],ab c 2,[.sl e 38 h],[.sl (f-1) 41 (mF d 41 i15)]])))) [[vI y],[.sl w 41 x],ab a 2,[.sl 0 38 []],[.sl w 41 x]]) (λj=>sK 41 j 0 λp q=>sK 38 j 2 λr s=>aA Is kB [[.sl r 38 s]] λt=>sK 38 t 0 λu v=>K [[.sl u 38 v],[.sl p 41 q],ab j 1])
theorem w97_3:Wd ⟨[s106,kB],[42],[],[],mB,mA,false,ie,true,false,[]⟩ ⟨[(3,⟨[(0,.c (.m 0)),hI 1,(2,.c (.f 106 [.p 1 0])),(3,.c (.f 107 [])),hW 9 2,hP 13 3],[(0,.ms 148 true 38),hA 1 70 38,hR 2 70 38,(3,.it true 38)]⟩)],[(7,⟨[(0,.c (.m 0)),(2,.c (.f 106 [.p 1 0])),(3,.c (.f 107 [])),hW 9 2],[(0,.ms 148 true 38),hA 1 70 38,hR 2 70 38]⟩)],[]⟩ Ih g97_3:=Wk
def g98:Tx:=λ_ _ K=>K [[vB true]]
theorem w98:Wd (cD []) hZ s98 g98:=Wk
def g100:Tx:=λIs a K=>sK 41 a 2 λn1 c2=>sK 6 a 3 λn3 c4=>sK 4 a 4 λn5 c6=>sK 3 a 5 λn7 c8=>jn (λk9=>sK 38 a 0 λn11 _=>(λV2=>aB (decide ((16:Int)<(n11:Int))) (aA Is tJ V2 λX=>sK 41 X 0 λn14 c15=>sK 4 X 1 λn16 c17=>sK 6 X 2 λn18 c19=>sK 3 X 3 λn20 c21=>k9 [[Cz a 1],[.sl n14 41 c15],[.sl n18 6 c19],[.sl n16 4 c17],[.sl n20 3 c21]]) (sK 38 a 1 λn22 _=>aB (decide ((32:Int)<(n22:Int))) (aA Is tJ V2 λY=>sK 41 Y 0 λn25 c26=>sK 4 Y 1 λn27 c28=>sK 6 Y 2 λn29 c30=>sK 3 Y 3 λn31 c32=>k9 [[Cz a 1],[.sl n25 41 c26],[.sl n29 6 c30],[.sl n27 4 c28],[.sl n31 3 c32]]) (k9 [[Cz a 1],[.sl n1 41 c2],[.sl n3 6 c4],[.sl n5 4 c6],[.sl n7 3 c8]]))) [[vI 4],[vI 0,vI 0,vI 0],[vI 14],[.sl n1 41 c2],[.sl n3 6 c4],[.sl n5 4 c6],[.sl n7 3 c8]]) (λl=>sK 41 l 1 λn33 c34=>sK 6 l 2 λn35 c36=>sK 4 l 3 λn37 c38=>sK 3 l 4 λn39 c40=>sK 38 l 0 λn41 _=>Lp (λp g=>iK g 1 λz45=>iK g 2 λq=>sK 41 g 3 λn47 c48=>sK 6 g 4 λn49 c50=>sK 4 g 5 λn51 c52=>sK 3 g 6 λn53 c54=>(λV3=>(λV4=>(λV5=>aB (decide (q<z45)) (sK 38 g 0 λn55 Z=>kI q n55 (jn (λk57=>aA Is DB [sub (eT Z 38 q) 7 3,[.sl 1 1 [vI 0]],[.sl n47 41 c48]] λr59=>bK r59 0 λb60=>sK 41 r59 1 λn61 c62=>aB (!b60) (aA Is tJ [[vI 14],sub (eT Z 38 q) 0 3,[vI 6],[.sl n61 41 c62],V5,V4,V3] λr63=>sK 41 r63 0 λn64 c65=>sK 4 r63 1 λn66 c67=>sK 6 r63 2 λn68 c69=>sK 3 r63 3 λn70 c71=>k57 [[Cz g 0],[vI z45],[vI q],eT Z 38 q,[.sl n64 41 c65],[.sl n68 6 c69],[.sl n66 4 c67],[.sl n70 3 c71]]) (k57 [[Cz g 0],[vI z45],[vI q],eT Z 38 q,[.sl n61 41 c62],V5,V4,V3])) (λd=>iK d 1 λz72=>iK d 2 λz73=>sK 41 d 4 λn74 c75=>sK 6 d 5 λn76 c77=>sK 4 d 6 λn78 c79=>sK 3 d 7 λn80 c81=>jn (λk82=>aA Is Ku [sub (ab d 3) 0 3,[.sl n74 41 c75],[.sl n76 6 c77],[.sl n78 4 c79],[.sl n80 3 c81]] λz=>sK 38 z 0 λn85 _=>sK 41 z 1 λn87 c88=>sK 4 z 2 λn89 c90=>sK 6 z 3 λn91 c92=>sK 3 z 4 λn93 c94=>aB (decide ((6:Int)<(n85:Int))) (aA Is tJ [[vI 4],sub (ab d 3) 0 3,[vI 3],[.sl n87 41 c88],[.sl n91 6 c92],[.sl n89 4 c90],[.sl n93 3 c94]] λr95=>sK 41 r95 0 λn96 c97=>sK 4 r95 1 λn98 c99=>sK 6 r95 2 λn100 c101=>sK 3 r95 3 λn102 c103=>k82 [[Cz d 0],[vI z72],[vI z73],ab d 3,[.sl n96 41 c97],[.sl n100 6 c101],[.sl n98 4 c99],[.sl n102 3 c103]]) (k82 [[Cz d 0],[vI z72],[vI z73],ab d 3,[.sl n87 41 c88],[.sl n91 6 c92],[.sl n89 4 c90],[.sl n93 3 c94]])) (λc=>iK c 1 λA=>iK c 2 λm=>sK 41 c 4 λn106 c107=>sK 6 c 5 λB C=>sK 4 c 6 λD E=>sK 3 c 7 λF G=>aA Is s88 [[cell (ab c 3) 6]] λr114=>bK r114 0 λb115=>aB (!b115) (oK m (p [[Cz c 0],[vI A],[vI (m+1)],[.sl n106 41 c107],[.sl B 6 C],[.sl D 4 E],[.sl F 3 G]])) (aA Is DB [sub (ab c 3) 16 3,[.sl 1 1 [vI 4]],[.sl n106 41 c107]] λr116=>bK r116 0 λb117=>sK 41 r116 1 λn118 c119=>aB b117 (aA Is Nb [sub (ab c 3) 16 3,[.sl n118 41 c119],[.sl B 6 C],[.sl D 4 E],[.sl F 3 G]] λt=>sK 41 t 0 λn121 c122=>sK 4 t 1 λn123 c124=>sK 6 t 2 λn125 c126=>sK 3 t 3 λn127 c128=>oK m (p [[Cz c 0],[vI A],[vI (m+1)],[.sl n121 41 c122],[.sl n125 6 c126],[.sl n123 4 c124],[.sl n127 3 c128]])) (aA Is tJ [[vI 11],sub (ab c 3) 0 3,[vI 11],[.sl n118 41 c119],[.sl B 6 C],[.sl D 4 E],[.sl F 3 G]] λu=>sK 41 u 0 λn130 c131=>sK 4 u 1 λn132 c133=>sK 6 u 2 λn134 c135=>sK 3 u 3 λn136 c137=>oK m (p [[Cz c 0],[vI A],[vI (m+1)],[.sl n130 41 c131],[.sl n134 6 c135],[.sl n132 4 c133],[.sl n136 3 c137]]))))))) (Lp (λH j=>iK j 0 λf=>sK 41 j 1 λn o=>sK 6 j 2 λI J=>sK 4 j 3 λL M=>sK 3 j 4 λr h=>lK f r (kI f r (aw (cell (eT h 3 f) 0) λN=>aw (cell (eT h 3 f) 1) λO=>aw (cell (eT h 3 f) 2) λP=>jn (λk152=>(λV1=>aH 3 (cell (sub ((bu 41 N O P n o).getD V1) 26 12) 10) λn154 _=>aB (decide ((8:Int)<(n154:Int))) (aA Is tJ [[vI 4],eT h 3 f,[vI 12],[.sl n 41 o],[.sl I 6 J],[.sl L 4 M],[.sl r 3 h]] λv=>sK 41 v 0 λn157 c158=>sK 4 v 1 λn159 c160=>sK 6 v 2 λn161 c162=>sK 3 v 3 λn163 c164=>k152 [[vI f],eT h 3 f,sub ((bu 41 N O P n o).getD V1) 26 12,[.sl n157 41 c158],[.sl n161 6 c162],[.sl n159 4 c160],[.sl n163 3 c164]]) (k152 [[vI f],eT h 3 f,sub ((bu 41 N O P n o).getD V1) 26 12,[.sl n 41 o],[.sl I 6 J],[.sl L 4 M],[.sl r 3 h]])) [vI 0,vI 0,vI 0,vI 0,.v (.string (QX #[])),.sl 0 3 [],vI 0,vI 0,vI 0,vI 0,vI 0,vI 0,vI 0,vI 0,vI 0,.sl 0 5 [],vI 0,vI 0,vI 0,.sl 0 1 [],vI 0,vI 0,vI 0,vI 0,.sl 0 5 [],vI 0,vI 0,vI 0,vI 0,vI 0,vI 0,vI 0,vI 0,vI 0,vI 0,.sl 0 5 [],.sl 0 3 [],.sl 0 1 []]) (λe=>iK e 0 λz165=>sK 41 e 3 λn166 c167=>sK 6 e 4 λn168 c169=>sK 4 e 5 λn170 c171=>sK 3 e 6 λn172 c173=>aH 3 (cell (ab e 2) 10) λn174 _=>Lp (λs b=>iK b 0 λw=>iK b 2 λQ=>iK b 3 λi=>sK 41 b 5 λn181 c182=>sK 6 b 6 λR S=>sK 4 b 7 λT U=>sK 3 b 8 λV W=>aB (decide (i<Q)) (sK 3 b 1 λn189 c190=>kI i n189 (aA Is DB [eT c190 3 i,[.sl 1 1 [vI 4]],[.sl n181 41 c182]] λr191=>bK r191 0 λb192=>sK 41 r191 1 λn193 c194=>aB b192 (aA Is Nb [eT c190 3 i,[.sl n193 41 c194],[.sl R 6 S],[.sl T 4 U],[.sl V 3 W]] λx=>sK 41 x 0 λn196 c197=>sK 4 x 1 λn198 c199=>sK 6 x 2 λn200 c201=>sK 3 x 3 λn202 c203=>oK i (s [[vI w],[Cz b 1],[vI Q],[vI (i+1)],ab b 4,[.sl n196 41 c197],[.sl n200 6 c201],[.sl n198 4 c199],[.sl n202 3 c203]])) (aA Is tJ [[vI 14],ab b 4,[vI 12],[.sl n193 41 c194],[.sl R 6 S],[.sl T 4 U],[.sl V 3 W]] λy=>sK 41 y 0 λn205 c206=>sK 4 y 1 λn207 c208=>sK 6 y 2 λn209 c210=>sK 3 y 3 λn211 c212=>oK i (s [[vI w],[Cz b 1],[vI Q],[vI (i+1)],ab b 4,[.sl n205 41 c206],[.sl n209 6 c210],[.sl n207 4 c208],[.sl n211 3 c212]])))) (oK w (H [[vI (w+1)],[.sl n181 41 c182],[.sl R 6 S],[.sl T 4 U],[.sl V 3 W]]))) [[vI z165],[cell (ab e 2) 10],[vI n174],[vI 0],ab e 1,[.sl n166 41 c167],[.sl n168 6 c169],[.sl n170 4 c171],[.sl n172 3 c173]]))) (K [[.sl n 41 o],[.sl L 4 M],[.sl I 6 J],[.sl r 3 h]])) [[vI 0],[.sl n47 41 c48],V5,V4,V3])) [.sl n49 6 c50]) [.sl n51 4 c52]) [.sl n53 3 c54]) [[Cz l 0],[vI n41],[vI 0],[.sl n33 41 c34],[.sl n35 6 c36],[.sl n37 4 c38],[.sl n39 3 c40]])
theorem w100:Wd (cD [s88,Ku,tJ,DB,Nb]) ⟨[(3,⟨[hP 0 0,hD 24,hI 25,hI 26],[(0,.b 152 [.m 1,.w 4,.m 3,.w 5]),(1,.ms 148 true 38),hR 4 57 6,(3,.m 150 false 1),hR 5 42 3]⟩),(15,⟨[hP 0 0,hI 8],[(0,.b 152 [.m 1,.w 4,.m 3,.w 5]),(1,.ms 148 true 38),hR 4 57 6,(3,.m 150 false 1),hR 5 42 3]⟩),(22,⟨[hP 0 0,hI 8,hP 9 4,hD 107,hI 108,hI 109],[(0,.b 152 [.m 1,.w 5,.m 3,.w 6]),hA 4 42 3,(1,.ms 148 true 38),hR 5 57 6,(3,.m 150 false 1),hR 6 42 3]⟩)],[(2,⟨[hP 0 0,hD 2],[(0,.b 152 [.m 1,.w 4,.m 3,.w 5]),(1,.ms 148 true 38),hR 4 57 6,(3,.m 150 false 1),hR 5 42 3]⟩),(7,⟨[hP 0 0,hP 7 4,hD 24,hI 25,hI 26],[(0,.b 152 [.m 1,.w 5,.m 3,.w 6]),hA 4 70 38,(1,.ms 148 true 38),hR 5 57 6,(3,.m 150 false 1),hR 6 42 3]⟩),(10,⟨[hP 0 0,hP 7 4,hD 24,hI 25,hI 26],[(0,.b 152 [.m 1,.w 5,.m 3,.w 6]),hA 4 70 38,(1,.ms 148 true 38),hR 5 57 6,(3,.m 150 false 1),hR 6 42 3]⟩),(21,⟨[hP 0 0,hI 8,hP 9 4,hP 10 5],[(0,.b 152 [.m 1,.w 6,.m 3,.w 7]),hA 4 42 3,hA 5 68 12,(1,.ms 148 true 38),hR 6 57 6,(3,.m 150 false 1),hR 7 42 3]⟩)],[]⟩ s100 g100:=Wk
def g105:Tx:=λIs a K=>sK 41 a 2 λb c=>tK (ab a 0) λd e f=>aB ((bu 41 d e f b c).isSome) (aA Is s184 [[Cz a 1],[cell ((bu 41 d e f b c).getD [vI 0,vI 0,vI 0,vI 0,.v (.string (QX #[])),.sl 0 3 [],vI 0,vI 0,vI 0,vI 0,vI 0,vI 0,vI 0,vI 0,vI 0,.sl 0 5 [],vI 0,vI 0,vI 0,.sl 0 1 [],vI 0,vI 0,vI 0,vI 0,.sl 0 5 [],vI 0,vI 0,vI 0,vI 0,vI 0,vI 0,vI 0,vI 0,vI 0,vI 0,.sl 0 5 [],.sl 0 3 [],.sl 0 1 []]) 3]] λg=>bK g 0 λh=>K [[vB h],[.sl b 41 c]]) (K [[vB false],[.sl b 41 c]])
theorem w105:Wd (cD [s184]) hZ DB g105:=Wk
def g184:Tx:=λIs a K=>iK a 1 λb=>aA Is s226 [[Cz a 0],[vI b]] λc=>iK c 0 λd=>K [[vB (decide ((0:Int)<=d))]]
theorem w184:Wd (cD [s226]) hZ s184 g184:=Wk
def g226:Tx:=λ_ a K=>iK a 1 λi=>sK 1 a 0 λj _=>Lp (λc b=>iK b 1 λg=>iK b 2 λh=>iK b 3 λd=>aB (decide (d<h)) (sK 1 b 0 λl e=>kI d l (aw (cell (eT e 1 d) 0) λf=>aB (decide (g=f)) (K [[vI d]]) (oK d (c [[Cz b 0],[vI g],[vI h],[vI (d+1)]])))) (K [[vI (-1)]])) [[Cz a 0],[vI i],[vI j],[vI 0]]
theorem w226:Wd (cD []) ⟨[(2,⟨[hD 0,hI 1,hI 7,hI 8],[]⟩)],[],[]⟩ s226 g226:=Wk
def g102:Tx:=λIs a K=>sK 41 a 1 λg h=>sK 6 a 2 λi j=>sK 4 a 3 λl m=>sK 3 a 4 λn o=>aA Is Ii [[vI 3],[.sl g 41 h],ab a 0] λf=>sK 38 f 0 λb c=>sK 41 f 1 λd e=>K [[.sl b 38 c],[.sl d 41 e],[.sl l 4 m],[.sl i 6 j],[.sl n 3 o]]
theorem w102:Wd (cD [Ii]) hZ Ku g102:=Wk
def g182:Tx:=λ_ a K=>tK (sub (ab a 0) 7 3) λb c d=>iK a 1 λe=>aw (cell (ab a 1) 1) λf=>aw (cell (ab a 1) 2) λg=>K [[vB (decide (b=e/\c=f/\d=g))],ab a 1]
theorem w182:Wd (cD []) hZ s182 g182:=Wk
def g179:Tx:=λIs a K=>sK 41 a 1 λu v=>sK 6 a 2 λw x=>sK 4 a 3 λf g=>sK 3 a 4 λh y=>tK (ab a 0) λz i j=>oX (cell ((bu 4 z i j f g).getD [vB false]) 0) λl=>aB l (aA Is tJ [[vI 7],ab a 0,[vI 12],[.sl u 41 v],[.sl w 6 x],[.sl f 4 g],[.sl h 3 y]] λb=>sK 41 b 0 λm n=>sK 4 b 1 λo p=>sK 6 b 2 λq r=>sK 3 b 3 λs t=>K [[.sl m 41 n],[.sl o 4 p],[.sl q 6 r],[.sl s 3 t]]) (tK (ab a 0) λc d e=>az (aO (h+1) 25) (K [[.sl u 41 v],[.sl (fH 4 c d e f g) 4 (cS 4 c d e [vB true] f g)],[.sl w 6 x],[.sl (h+1) 3 (y++((ab a 0)++[]))]]))
theorem w179:Wd (cD [tJ]) hZ Nb g179:=Wk
def g58_1:Tx:=λIs a K=>sK 6 a 0 λs A=>aB (decide ((s:Int)<(2:Int))) (K [[.sl s 6 A]]) (Lp (λn o=>iK o 0 λg=>sK 6 o 1 λl p=>lK g l (kI g l (az (bt (g-1)) (az (0<=(g-1)/\(g-1)<(l:Int)) (aA Is s59 [eT p 6 g,el p 6 (Qr (g-1))] λB=>bK B 0 λC=>aB C (az (0<=g/\g<=(l:Int)/\((0:Nat):Int)+l<=((l:Nat):Int)) (Lp (λm e=>iK e 0 λb=>iK e 1 λj=>aw (cell (ab e 1) 1) λh=>iK e 2 λc=>sK 6 e 3 λd i=>aB (decide (c<(((Qr h):Nat):Int))) (jn (λq=>az (0<=c/\c<(((Qr h):Nat):Int)) (az (bt (c-1)) (az (0<=(c-1)/\(c-1)<(((Qr h):Nat):Int)) (aA Is s59 [el i 6 ((Qr j)+(Qr c)),el i 6 ((Qr j)+(Qr (c-1)))] λt=>bK t 0 λu=>aB (!u) (az (0<=c/\c<(((Qr h):Nat):Int)) (kI b d (oK b (q [[vI (b+1)],[vI (((Qr j):Nat):Int),vI (((Qr h):Nat):Int)],[vI c],[.sl d 6 (cQ i ((Qr b)*6+0) (el i 6 ((Qr j)+(Qr c))))]])))) (q [[vI b],[vI (((Qr j):Nat):Int),vI (((Qr h):Nat):Int)],[vI c],[.sl d 6 i]]))))) (λf=>iK f 0 λv=>iK f 1 λw=>aw (cell (ab f 1) 1) λx=>iK f 2 λr=>sK 6 f 3 λy z=>oK r (m [[vI v],[vI (((Qr w):Nat):Int),vI (((Qr x):Nat):Int)],[vI (r+1)],[.sl y 6 z]]))) (az (0<=b/\b<=(d:Int)/\((0:Nat):Int)+d<=((d:Nat):Int)) (az (6=6/\((0+(Qr b))+((Qr (d:Int))-(Qr b)))<=d/\((Qr (d:Int))-(Qr b))<=1000000000000000) (az (0<=b/\b<=((d:Nat):Int)) (K [[.sl (Qr b) 6 (sub (cQ i ((0+(Qr b))*6) (S5 (QY ((Qr (d:Int))-(Qr b)) [vI 0,vI 0,vI 0,vI 0,vI 0,.sl 0 3 []]))) (0*6) ((Qr b)*6))]]))))) [[vI g],[vI (((0+(Qr g)):Nat):Int),vI ((((Qr (l:Int))-(Qr g)):Nat):Int)],[vI 1],[.sl l 6 p]])) (oK g (n [[vI (g+1)],[.sl l 6 p]])))))) (K [[.sl l 6 p]])) [[vI 1],[.sl s 6 A]])
theorem w58_1:Wd ⟨[s59],[42],[],[],mB,mA,true,ie,false,false,[64]⟩ ⟨[(4,⟨[hW 0 0,(1,.c (.f 59 [])),hI 5],[hR 0 57 6]⟩),(9,⟨[hW 0 0,(1,.c (.f 59 [])),hI 5,(6,.c (.y 0 6)),hI 7],[hR 0 57 6]⟩)],[(10,⟨[hW 0 0,(1,.c (.f 59 [])),hI 5,(6,.c (.y 0 6)),hI 7],[hR 0 57 6]⟩)],[]⟩ Ip g58_1:=Wk
def g95:Tx:=λIs a K=>aA Is s56 [[Cz a 0],[Cz a 1]] λb=>iK b 0 λc=>aA Is s56 [[cell (ab a 0) 1],[cell (ab a 1) 1]] λd=>iK d 0 λe=>aA Is s56 [[cell (ab a 0) 2],[cell (ab a 1) 2]] λf=>iK f 0 λg=>aA Is s54 [[.sl 3 1 [vI c,vI e,vI g]]] λh=>iK h 0 λi=>K [[vI i]]
theorem w95:Wd (cD [s54,s56]) hZ s95 g95:=Wk
def g56:Tx:=λIs a K=>iK a 0 λb=>iK a 1 λc=>aA Is Nc [[vI b]] λe=>bK e 0 λf=>aA Is Nc [[vI c]] λg=>bK g 0 λd=>aB f (aB d (K [[vI 0]]) (K [[vI (-1)]])) (aB d (K [[vI 1]]) (aB (decide (b<c)) (K [[vI (-1)]]) (aB (decide (c<b)) (K [[vI 1]]) (K [[vI 0]]))))
theorem w56:Wd (cD [Nc]) hZ s56 g56:=Wk
def g158:Tx:=λ_ a K=>iK a 0 λb=>K [[vB (!(decide (b=b)))]]
theorem w158:Wd (cD []) hZ Nc g158:=Wk
def g54:Tx:=λ_ a K=>sK 1 a 0 λi _=>Lp (λc b=>iK b 0 λe=>iK b 2 λg=>iK b 3 λd=>aB (decide (d<g)) (sK 1 b 1 λj h=>kI d j (aw (cell (eT h 1 d) 0) λf=>aB (!(decide (f=e))) (K [[cell (eT h 1 d) 0]]) (oK d (c [[vI e],[Cz b 1],[vI g],[vI (d+1)]])))) (K [[vI e]])) [[vI 0],[Cz a 0],[vI i],[vI 0]]
theorem w54:Wd (cD []) ⟨[(3,⟨[hI 3,hD 6,hI 7,hI 8],[]⟩)],[],[]⟩ s54 g54:=Wk
def g103:Tx:=λIs a K=>sK 41 a 1 λn1 c2=>sK 6 a 2 λn3 c4=>sK 4 a 3 λn5 c6=>sK 3 a 4 λn7 c8=>tK (ab a 0) λz9 E F=>aA Is s183 [sub ((bu 41 z9 E F n1 c2).getD [vI 0,vI 0,vI 0,vI 0,.v (.string (QX #[])),.sl 0 3 [],vI 0,vI 0,vI 0,vI 0,vI 0,vI 0,vI 0,vI 0,vI 0,.sl 0 5 [],vI 0,vI 0,vI 0,.sl 0 1 [],vI 0,vI 0,vI 0,vI 0,.sl 0 5 [],vI 0,vI 0,vI 0,vI 0,vI 0,vI 0,vI 0,vI 0,vI 0,vI 0,.sl 0 5 [],.sl 0 3 [],.sl 0 1 []]) 26 12] λf=>sK 5 f 1 λG H=>sK 3 f 2 λj I=>sK 1 f 3 λJ L=>jn (λM=>Lp (λg b=>iK b 0 λh=>iK b 1 λl=>iK b 2 λm=>iK b 3 λe=>sK 3 b 6 λn o=>sK 41 b 7 λp q=>sK 6 b 8 λr s=>sK 4 b 9 λt u=>sK 3 b 10 λv w=>sK 5 b 11 λx y=>sK 15 b 12 λi z=>sK 1 b 13 λA B=>aB (decide (e<m)) (kI e n (aA Is Ks [eT o 3 e,[.sl p 41 q],[.sl r 6 s],[.sl t 4 u],[.sl v 3 w]] λd=>iK d 1 λC=>iK d 2 λN=>sK 5 d 3 λO P=>sK 15 d 4 λQ R=>sK 1 d 5 λS T=>sK 41 d 6 λU V=>sK 4 d 7 λW X=>sK 6 d 8 λY Z=>sK 3 d 9 λn58 c59=>az (aO (i+1) 169) (az (bt (h+C)) (oK e (g [[vI (h+C)],[vI (max l N)],[vI m],[vI (e+1)],ab b 4,cls (ab b 5) 0 12 [],[.sl n 3 o],[.sl U 41 V],[.sl Y 6 Z],[.sl W 4 X],[.sl n58 3 c59],[.sl x 5 y],[.sl (i+1) 15 (z++(cls (ab d 0) 0 12 [.sl O 5 P,.sl Q 15 R,.sl S 1 T]))],[.sl A 1 B]]))))) (M [[vI h],[vI l],ab b 4,cls (ab b 5) 0 12 [],[.sl p 41 q],[.sl r 6 s],[.sl t 4 u],[.sl v 3 w],[.sl x 5 y],[.sl i 15 z],[.sl A 1 B]])) [[vI 1],[vI 0],[vI j],[vI 0],[vI 0,vI 0,vI 0,vI 0,vI 0,vI 0,vI 0,vI 0,vI 0,vI 0,vI 0,vI 0,.sl 0 5 [],.sl 0 15 [],.sl 0 1 []],cls (ab a 0) 0 3 (cls (ab f 0) 0 9 []),[.sl j 3 I],[.sl n1 41 c2],[.sl n3 6 c4],[.sl n5 4 c6],[.sl n7 3 c8],[.sl G 5 H],[.sl 0 15 []],[.sl J 1 L]]) (λc=>iK c 0 λz60=>iK c 1 λD=>sK 41 c 4 λn62 c63=>sK 6 c 5 λn64 c65=>sK 4 c 6 λn66 c67=>sK 3 c 7 λn68 c69=>sK 5 c 8 λn70 c71=>sK 15 c 9 λn72 c73=>sK 1 c 10 λn74 c75=>oK D (K [cls (ab c 3) 0 12 [],[vI z60],[vI (D+1)],[.sl n70 5 c71],[.sl n72 15 c73],[.sl n74 1 c75],[.sl n62 41 c63],[.sl n66 4 c67],[.sl n64 6 c65],[.sl n68 3 c69]]))
theorem w103:Wd (cD [Ks,s183]) ⟨[(5,⟨[hP 0 0,hP 4 4,hP 8 5,hI 9,hI 10,hW 37 6,hI 38,hI 39],[(0,.b 152 [.m 1,.w 7,.m 3,.w 8]),hA 4 50 15,(5,.b 50 (ds 12++[.w 9,.w 10,.w 11])),hR 6 42 3,(1,.ms 148 true 38),hR 7 57 6,(3,.m 150 false 1),hR 8 42 3,hR 9 46 5,hR 10 50 15,hR 11 9 1]⟩)],[(12,⟨[hP 0 0,hP 4 4,hP 8 5,hI 9,hI 10],[(0,.b 152 [.m 1,.w 6,.m 3,.w 7]),hA 4 50 15,(5,.b 50 (ds 12++[.w 8,.w 9,.w 10])),(1,.ms 148 true 38),hR 6 57 6,(3,.m 150 false 1),hR 7 42 3,hR 8 46 5,hR 9 50 15,hR 10 9 1]⟩)],[]⟩ Ks g103:=Wk
def g183:Tx:=λIs a K=>aA Is s85 [[cell (ab a 0) 10]] λc=>sK 3 c 0 λd e=>aA Is s87 [[cell (ab a 0) 11]] λf=>sK 1 f 0 λg h=>aA Is Ik [sub (ab a 0) 5 5] λb=>sK 5 b 1 λi j=>K [cls (ab a 0) 0 5 (cls (ab b 0) 0 4 []),[.sl i 5 j],[.sl d 3 e],[.sl g 1 h]]
theorem w183:Wd (cD [s85,Ik,s87]) hZ s183 g183:=Wk
def g106:Tx:=λ_ a K=>tK (sub (ab a 0) 7 3) λb c d=>tK (sub (ab a 1) 0 3) λe f g=>K [[vB (decide (b=e/\c=f/\d=g))],ab a 1]
theorem w106:Wd (cD []) hZ s106 g106:=Wk
def g140:Tx:=λIs a K=>sK 38 a 0 λm _=>sK 38 a 1 λn _=>aB (!(decide ((m:Int)=(n:Int)))) (K [[vB false]]) (sK 38 a 0 λo _=>Lp (λd c=>iK c 2 λl=>iK c 3 λb=>aB (decide (b<l)) (sK 38 c 1 λe f=>kI b e (sK 38 c 0 λg h=>kI b g (aA Is Nf [eT f 38 b,eT h 38 b] λi=>bK i 0 λj=>aB (!j) (K [[vB false]]) (oK b (d [[Cz c 0],[Cz c 1],[vI l],[vI (b+1)]]))))) (K [[vB true]])) [[Cz a 1],[Cz a 0],[vI o],[vI 0]])
theorem w140:Wd (cD [Nf]) ⟨[(4,⟨[hD 1,(2,.c (.f 141 [])),hD 15,hI 16,hI 17],[]⟩)],[],[]⟩ s140 g140:=Wk
def g141:Tx:=λIs a K=>tK (sub (ab a 0) 0 3) λF G H=>tK (sub (ab a 1) 0 3) λI J L=>aB (decide (F=I/\G=J/\H=L)) (aw (cell (ab a 0) 3) λM=>aw (cell (ab a 1) 3) λN=>aB (decide (M=N)) (rA (cell (ab a 0) 4) λO=>rA (cell (ab a 1) 4) λb=>aB (decide (O=b)) (aA Is Dy [[cell (ab a 0) 5],[cell (ab a 1) 5]] λc=>bK c 0 λd=>aB d (aw (cell (ab a 0) 6) λe=>aw (cell (ab a 1) 6) λf=>aB (decide (e=f)) (tK (sub (ab a 0) 7 3) λg h i=>tK (sub (ab a 1) 7 3) λj l m=>aB (decide (g=j/\h=l/\i=m)) (aw (cell (ab a 0) 10) λn=>aw (cell (ab a 1) 10) λo=>aB (decide (n=o)) (aA Is y8 [sub (ab a 0) 11 5,sub (ab a 1) 11 5] λp=>bK p 0 λq=>aB q (tK (sub (ab a 0) 16 3) λr s t=>tK (sub (ab a 1) 16 3) λu v w=>aB (decide (r=u/\s=v/\t=w)) (aA Is Km [[cell (ab a 0) 19],[cell (ab a 1) 19]] λx=>bK x 0 λy=>aB y (aA Is y8 [sub (ab a 0) 20 5,sub (ab a 1) 20 5] λz=>bK z 0 λA=>aB A (aw (cell (ab a 0) 25) λB=>aw (cell (ab a 1) 25) λC=>aB (decide (B=C)) (aA Is s194 [sub (ab a 0) 26 12,sub (ab a 1) 26 12] λD=>bK D 0 λE=>K [[vB E]]) (K [[vB false]])) (K [[vB false]])) (K [[vB false]])) (K [[vB false]])) (K [[vB false]])) (K [[vB false]])) (K [[vB false]])) (K [[vB false]])) (K [[vB false]])) (K [[vB false]])) (K [[vB false]])) (K [[vB false]])
theorem w141:Wd (cD [Dy,y8,Km,s194]) hZ Nf g141:=Wk
def g136:Tx:=λ_ a K=>sK 3 a 0 λq _=>sK 3 a 1 λr _=>aB (!(decide ((q:Int)=(r:Int)))) (K [[vB false]]) (sK 3 a 0 λs _=>Lp (λd c=>iK c 2 λp=>iK c 3 λb=>aB (decide (b<p)) (sK 3 c 0 λg e=>kI b g (sK 3 c 1 λh f=>kI b h (aw (cell (eT e 3 b) 0) λi=>aw (cell (eT e 3 b) 1) λj=>aw (cell (eT e 3 b) 2) λl=>aw (cell (eT f 3 b) 0) λm=>aw (cell (eT f 3 b) 1) λn=>aw (cell (eT f 3 b) 2) λo=>aB (!(decide (i=m/\j=n/\l=o))) (K [[vB false]]) (oK b (d [[Cz c 0],[Cz c 1],[vI p],[vI (b+1)]]))))) (K [[vB true]])) [[Cz a 0],[Cz a 1],[vI s],[vI 0]])
theorem w136:Wd (cD []) ⟨[(4,⟨[hD 0,hD 1,hI 12,hI 13],[]⟩)],[],[]⟩ Dy g136:=Wk
def g192:Tx:=λIs a K=>iK a 0 λc=>iK a 1 λd=>aB (decide (c=d)) (tK (sub (ab a 0) 1 3) λe f g=>tK (sub (ab a 1) 1 3) λh i j=>aB (decide (e=h/\f=i/\g=j)) (aA Is s236 [[cell (ab a 0) 4],[cell (ab a 1) 4]] λl=>bK l 0 λb=>K [[vB b]]) (K [[vB false]])) (K [[vB false]])
theorem w192:Wd (cD [s236]) hZ y8 g192:=Wk
def g236:Tx:=λIs a K=>sK 5 a 0 λm _=>sK 5 a 1 λn _=>aB (!(decide ((m:Int)=(n:Int)))) (K [[vB false]]) (sK 5 a 0 λo _=>Lp (λd c=>iK c 2 λl=>iK c 3 λb=>aB (decide (b<l)) (sK 5 c 1 λe f=>kI b e (sK 5 c 0 λg h=>kI b g (aA Is y8 [eT f 5 b,eT h 5 b] λi=>bK i 0 λj=>aB (!j) (K [[vB false]]) (oK b (d [[Cz c 0],[Cz c 1],[vI l],[vI (b+1)]]))))) (K [[vB true]])) [[Cz a 1],[Cz a 0],[vI o],[vI 0]])
theorem w236:Wd (cD [y8]) ⟨[(4,⟨[hD 1,(2,.c (.f 192 [])),hD 15,hI 16,hI 17],[]⟩)],[],[]⟩ s236 g236:=Wk
def g193:Tx:=λ_ a K=>sK 1 a 0 λm _=>sK 1 a 1 λn _=>aB (!(decide ((m:Int)=(n:Int)))) (K [[vB false]]) (sK 1 a 0 λo _=>Lp (λd c=>iK c 2 λl=>iK c 3 λb=>aB (decide (b<l)) (sK 1 c 0 λe f=>kI b e (sK 1 c 1 λg h=>kI b g (rA (cell (eT f 1 b) 0) λi=>rA (cell (eT h 1 b) 0) λj=>aB (!(decide (i=j))) (K [[vB false]]) (oK b (d [[Cz c 0],[Cz c 1],[vI l],[vI (b+1)]]))))) (K [[vB true]])) [[Cz a 0],[Cz a 1],[vI o],[vI 0]])
theorem w193:Wd (cD []) ⟨[(4,⟨[hD 0,hD 1,hI 12,hI 13],[]⟩)],[],[]⟩ Km g193:=Wk
def g194:Tx:=λIs a K=>iK a 0 λi=>iK a 1 λj=>aB (decide (i=j)) (aw (cell (ab a 0) 1) λl=>aw (cell (ab a 1) 1) λm=>aB (decide (l=m)) (tK (sub (ab a 0) 2 3) λn o p=>tK (sub (ab a 1) 2 3) λq r b=>aB (decide (n=q/\o=r/\p=b)) (aA Is y8 [sub (ab a 0) 5 5,sub (ab a 1) 5 5] λc=>bK c 0 λd=>aB d (aA Is Dy [[cell (ab a 0) 10],[cell (ab a 1) 10]] λe=>bK e 0 λf=>aB f (aA Is Km [[cell (ab a 0) 11],[cell (ab a 1) 11]] λg=>bK g 0 λh=>K [[vB h]]) (K [[vB false]])) (K [[vB false]])) (K [[vB false]])) (K [[vB false]])) (K [[vB false]])
theorem w194:Wd (cD [Dy,y8,Km]) hZ s194 g194:=Wk
def g142:Tx:=λIs a K=>sK 6 a 0 λm _=>sK 6 a 1 λn _=>aB (!(decide ((m:Int)=(n:Int)))) (K [[vB false]]) (sK 6 a 0 λo _=>Lp (λd c=>iK c 2 λl=>iK c 3 λb=>aB (decide (b<l)) (sK 6 c 1 λe f=>kI b e (sK 6 c 0 λg h=>kI b g (aA Is Ni [eT f 6 b,eT h 6 b] λi=>bK i 0 λj=>aB (!j) (K [[vB false]]) (oK b (d [[Cz c 0],[Cz c 1],[vI l],[vI (b+1)]]))))) (K [[vB true]])) [[Cz a 1],[Cz a 0],[vI o],[vI 0]])
theorem w142:Wd (cD [Ni]) ⟨[(4,⟨[hD 1,(2,.c (.f 135 [])),hD 15,hI 16,hI 17],[]⟩)],[],[]⟩ s142 g142:=Wk
def g135:Tx:=λIs a K=>tK (sub (ab a 0) 0 3) λb c d=>tK (sub (ab a 1) 0 3) λe f g=>aB (decide (b=e/\c=f/\d=g)) (aA Is Dy [[cell (ab a 0) 5],[cell (ab a 1) 5]] λh=>bK h 0 λi=>K [[vB i]]) (K [[vB false]])
theorem w135:Wd (cD [Dy]) hZ Ni g135:=Wk
def g143:Tx:=λIs a K=>sK 31 a 0 λm _=>sK 31 a 1 λn _=>aB (!(decide ((m:Int)=(n:Int)))) (K [[vB false]]) (sK 31 a 0 λo _=>Lp (λd c=>iK c 2 λl=>iK c 3 λb=>aB (decide (b<l)) (sK 31 c 1 λe f=>kI b e (sK 31 c 0 λg h=>kI b g (aA Is Ng [eT f 31 b,eT h 31 b] λi=>bK i 0 λj=>aB (!j) (K [[vB false]]) (oK b (d [[Cz c 0],[Cz c 1],[vI l],[vI (b+1)]]))))) (K [[vB true]])) [[Cz a 1],[Cz a 0],[vI o],[vI 0]])
theorem w143:Wd (cD [Ng]) ⟨[(4,⟨[hD 1,(2,.c (.f 138 [.p 0 0])),hD 15,hI 16,hI 17],[(0,.b 187 [.f 137 []])]⟩)],[],[]⟩ s143 g143:=Wk
def g138:Tx:=λIs a K=>tK (sub (ab a 0) 0 3) λb c d=>tK (sub (ab a 1) 0 3) λe f g=>aB (decide (b=e/\c=f/\d=g)) (aA Is s139 [[cell (ab a 0) 8],[cell (ab a 1) 8]] λh=>bK h 0 λi=>K [[vB i]]) (K [[vB false]])
theorem w138:Wd (cD [s139]) hZ Ng g138:=Wk
def g139:Tx:=λIs a K=>sK 11 a 0 λm _=>sK 11 a 1 λn _=>aB (!(decide ((m:Int)=(n:Int)))) (K [[vB false]]) (sK 11 a 0 λo _=>Lp (λd c=>iK c 2 λl=>iK c 3 λb=>aB (decide (b<l)) (sK 11 c 1 λe f=>kI b e (sK 11 c 0 λg h=>kI b g (aA Is Nh [eT f 11 b,eT h 11 b] λi=>bK i 0 λj=>aB (!j) (K [[vB false]]) (oK b (d [[Cz c 0],[Cz c 1],[vI l],[vI (b+1)]]))))) (K [[vB true]])) [[Cz a 1],[Cz a 0],[vI o],[vI 0]])
theorem w139:Wd (cD [Nh]) ⟨[(4,⟨[hD 1,(2,.c (.f 137 [])),hD 15,hI 16,hI 17],[]⟩)],[],[]⟩ s139 g139:=Wk
def g137:Tx:=λ_ a K=>tK (sub (ab a 0) 0 3) λb c d=>tK (sub (ab a 1) 0 3) λe f g=>K [[vB (decide (b=e/\c=f/\d=g))]]
theorem w137:Wd (cD []) hZ Nh g137:=Wk
def g45:Tx:=λIs a K=>sK 6 a 3 λJ L=>sK 1 a 1 λM _=>Lp (λd b=>iK b 3 λl=>iK b 4 λc=>sK 6 b 6 λm e=>(λV1=>aB (decide (c<l)) (sK 1 b 2 λn g=>(λV2=>kI c n (aA Is qD [V2] λo=>bK o 0 λp=>aB (!p) (sK 3 b 0 λq r=>kI c q (aA Is y7 [[vI 16],eT r 3 c,[vI 5],V1,[.sl m 6 e]] λh=>sK 6 h 1 λs t=>oK c (d [[Cz b 0],[Cz b 1],[Cz b 2],[vI l],[vI (c+1)],[Cz h 0,cell (ab h 0) 1],[.sl s 6 t]]))) (sK 1 b 1 λu v=>az (0<=(0:Int)/\(0:Int)<=c/\c<=(u:Int)) (aA Is Nd [[.sl (Qr c-Qr (0:Int)) 1 (sub v (Qr (0:Int)*1) ((Qr c-Qr (0:Int))*1))],V2] λw=>bK w 0 λx=>aB x (sK 3 b 0 λy z=>kI c y (aA Is y7 [[vI 16],eT z 3 c,[vI 5],V1,[.sl m 6 e]] λi=>sK 6 i 1 λA B=>oK c (d [[Cz b 0],[Cz b 1],[Cz b 2],[vI l],[vI (c+1)],[Cz i 0,cell (ab i 0) 1],[.sl A 6 B]]))) (oK c (sK 1 b 1 λf C=>az (0<=(c+1)/\(c+1)<=(f:Int)/\(f:Int)<=(f:Int)) (aA Is Nd [[.sl (Qr (f:Int)-Qr (c+1)) 1 (sub C (Qr (c+1)*1) ((Qr (f:Int)-Qr (c+1))*1))],V2] λD=>bK D 0 λE=>aB E (sK 3 b 0 λF G=>kI c F (aA Is y7 [[vI 16],eT G 3 c,[vI 5],V1,[.sl m 6 e]] λj=>sK 6 j 1 λH I=>oK c (d [[Cz b 0],[Cz b 1],[Cz b 2],[vI l],[vI (c+1)],[Cz j 0,cell (ab j 0) 1],[.sl H 6 I]]))) (oK c (d [[Cz b 0],[Cz b 1],[Cz b 2],[vI l],[vI (c+1)],V1,[.sl m 6 e]]))))))))) [cell (eT g 1 c) 0]) (K [V1,[.sl m 6 e]])) [Cz b 5,cell (ab b 5) 1]) [[Cz a 0],[Cz a 1],[Cz a 1],[vI M],[vI 0],[Cz a 2,cell (ab a 2) 1],[.sl J 6 L]]
theorem w45:Wd (cD [y7,qD,Nd]) ⟨[(1,⟨[hP 0 0,hD 1,hD 2,hD 8,hI 9,hI 10],[(0,.b 107 [.d,.d,.w 1]),hR 1 57 6]⟩)],[],[]⟩ s45 g45:=Wk
def g48:Tx:=λ_ a K=>iK a 0 λc=>iK a 2 λd=>sK 6 a 4 λb e=>az (aO (b+1) 65) (K [[Cz a 3,cell (ab a 3) 1],[.sl (b+1) 6 (e++(vI c::cls (ab a 1) 0 3 ([vI d,.sl 0 3 []])))]])
theorem w48:Wd (cD []) hZ y7 g48:=Wk
def g145:Tx:=λIs a K=>aA Is s197 [[Cz a 0],[Cz a 1]] λb=>iK b 0 λc=>K [[vB (decide ((0:Int)<=c))]]
theorem w145:Wd (cD [s197]) hZ Nd g145:=Wk
def g197:Tx:=λ_ a K=>sK 1 a 0 λg _=>Lp (λc b=>iK b 2 λf=>iK b 3 λd=>aB (decide (d<f)) (sK 1 b 0 λh i=>kI d h (rA (Cz b 1) λj=>rA (cell (eT i 1 d) 0) λe=>aB (decide (j=e)) (K [[vI d]]) (oK d (c [[Cz b 0],[Cz b 1],[vI f],[vI (d+1)]])))) (K [[vI (-1)]])) [[Cz a 0],[Cz a 1],[vI g],[vI 0]]
theorem w197:Wd (cD []) ⟨[(2,⟨[hD 0,hD 1,hI 7,hI 8],[]⟩)],[],[]⟩ s197 g197:=Wk
def g47:Tx:=λIs a K=>Lp (λc b=>iK b 0 λh=>aB (decide (h<=(24:Int))) (jn (λQ=>iK b 2 λR=>(λV1=>(λV2=>aB (decide (R=(0:Int))) (aB (decide (R=(0:Int))) (tK V1 λS T U=>aB (decide (S=(0:Int)/\T=(0:Int)/\U=(0:Int))) (aH 5 (cell (ab b 2) 4) λi _=>K [[vB (decide ((i:Int)=(0:Int)))]]) (K [[vB false]])) (iK b 2 λj=>aB (decide (j=(3:Int))) (aA Is FH V2 λd=>bK d 1 λl=>aB l (aw (cell (ab d 0) 3) λm=>aB (decide (m=(0:Int))) (aH 5 (cell (ab b 2) 4) λn _=>K [[vB (decide ((n:Int)=(0:Int)))]]) (aw (cell (ab d 0) 3) λo=>aB (decide (o=(1:Int))) (aH 5 (cell (ab b 2) 4) λp _=>K [[vB (decide ((p:Int)=(0:Int)))]]) (K [[vB false]]))) (K [[vB false]])) (iK b 2 λq=>aB (decide (q=(2:Int))) (tK V1 λr s t=>aB (!(decide (r=(0:Int)/\s=(0:Int)/\t=(0:Int)))) (K [[vB false]]) (aH 5 (cell (ab b 2) 4) λu _=>aB (!(decide ((u:Int)=(1:Int)))) (K [[vB false]]) (aH 5 (cell (ab b 2) 4) λv w=>az (0<=(0:Int)/\(0:Int)<(v:Int)) (Q [[vI h],ab b 1,el w 5 0])))) (K [[vB false]])))) (iK b 2 λx=>aB (decide (x=(1:Int))) (tK V1 λy z A=>aB (decide (y=(0:Int)/\z=(0:Int)/\A=(0:Int))) (aH 5 (cell (ab b 2) 4) λB _=>K [[vB (decide ((B:Int)=(0:Int)))]]) (K [[vB false]])) (iK b 2 λC=>aB (decide (C=(3:Int))) (aA Is FH V2 λe=>bK e 1 λD=>aB D (aw (cell (ab e 0) 3) λE=>aB (decide (E=(0:Int))) (aH 5 (cell (ab b 2) 4) λF _=>K [[vB (decide ((F:Int)=(0:Int)))]]) (aw (cell (ab e 0) 3) λG=>aB (decide (G=(1:Int))) (aH 5 (cell (ab b 2) 4) λH _=>K [[vB (decide ((H:Int)=(0:Int)))]]) (K [[vB false]]))) (K [[vB false]])) (iK b 2 λI=>aB (decide (I=(2:Int))) (tK V1 λJ L M=>aB (!(decide (J=(0:Int)/\L=(0:Int)/\M=(0:Int)))) (K [[vB false]]) (aH 5 (cell (ab b 2) 4) λN _=>aB (!(decide ((N:Int)=(1:Int)))) (K [[vB false]]) (aH 5 (cell (ab b 2) 4) λO P=>az (0<=(0:Int)/\(0:Int)<(O:Int)) (Q [[vI h],ab b 1,el P 5 0])))) (K [[vB false]]))))) [ab b 1,sub (ab b 2) 1 3]) (sub (ab b 2) 1 3)) (λf=>iK f 0 λg=>oK g (c [[vI (g+1)],ab f 1,ab f 2]))) (K [[vB false]])) [[vI 1],ab a 0,ab a 1]
theorem w47:Wd (cD [FH]) ⟨[(2,⟨[hP 2 0,hP 3 1,hI 5],[hA 0 26 2,hA 1 46 5]⟩)],[(3,⟨[hP 2 0,hP 3 1,hI 5],[hA 0 26 2,hA 1 46 5]⟩)],[]⟩ s47 g47:=Wk
def g50:Tx:=λIs a K=>sK 6 a 2 λu v=>jn (λw=>aH 11 (cell (ab a 0) 8) λx _=>Lp (λe b=>iK b 1 λt=>iK b 2 λc=>sK 4 b 5 λf h=>sK 6 b 6 λi j=>(λV1=>aB (decide (c<t)) (sK 11 b 0 λl m=>kI c l (az (aO (f+1) 33) (oK c (e [[Cz b 0],[vI t],[vI (c+1)],V1,ab b 4,[.sl (f+1) 4 (h++(cls (sub (eT m 11 c) 0 3) 0 3 [vI 0]))],[.sl i 6 j]])))) (w [V1,ab b 4,[.sl f 4 h],[.sl i 6 j]])) [Cz b 3,cell (ab b 3) 1]) [[cell (ab a 0) 8],[vI x],[vI 0],[Cz a 1,cell (ab a 1) 1],ab a 0,[.sl 0 4 []],[.sl u 6 v]]) (λd=>sK 4 d 2 λn o=>sK 6 d 3 λp q=>aA Is Kp [sub (ab d 1) 14 15,[.sl n 4 o],[Cz d 0,cell (ab d 0) 1],[.sl p 6 q]] λg=>sK 6 g 1 λr s=>K [[Cz g 0,cell (ab g 0) 1],[.sl r 6 s]])
theorem w50:Wd (cD [Kp]) ⟨[(3,⟨[hP 0 0,hP 2 1,hP 3 2,hW 4 3,hD 9,hI 10,hI 11],[(0,.b 107 [.d,.d,.w 4]),(1,.b 105 [.p 0 0]),hA 2 52 31,hR 3 197 4,hR 4 57 6]⟩)],[(7,⟨[hP 0 0,hP 2 1,hP 3 2,hW 4 3],[(0,.b 107 [.d,.d,.w 4]),(1,.b 105 [.p 0 0]),hA 2 52 31,hR 3 197 4,hR 4 57 6]⟩)],[]⟩ s50 g50:=Wk
def g148:Tx:=λIs a K=>sK 6 a 3 λn1 c2=>aA Is s149 [ab a 0,[Cz a 2,cell (ab a 2) 1],[.sl n1 6 c2]] λl=>bK l 0 λb4=>bK l 1 λb5=>sK 6 l 3 λn6 c7=>jn (λk8=>(λV4=>aB b4 (aA Is y7 [[vI 17],sub (ab a 0) 0 3,[vI 12],V4,[.sl n6 6 c7]] λm=>sK 6 m 1 λy z=>k8 [[Cz a 1],[vB b5],ab a 0,[Cz m 0,cell (ab m 0) 1],[.sl y 6 z]]) (k8 [[Cz a 1],[vB b5],ab a 0,V4,[.sl n6 6 c7]])) [Cz l 2,cell (ab l 2) 1]) (λc=>bK c 1 λA=>sK 6 c 4 λg h=>jn (λi=>(λV6=>(λV2=>aB A (aA Is y7 V2 λn=>sK 6 n 1 λB C=>i [[Cz c 0],ab c 2,[Cz n 0,cell (ab n 0) 1],[.sl B 6 C]]) (aw (cell (ab c 2) 3) λD=>(λV3=>aB (decide (D=(2:Int))) (aA Is s150 [[Cz c 0],cls (sub (ab c 2) 5 3) 0 3 [cell (ab c 2) 4]] λE=>bK E 0 λF=>aB (!F) (aA Is y7 V2 λo=>sK 6 o 1 λG H=>i [[Cz c 0],ab c 2,[Cz o 0,cell (ab o 0) 1],[.sl G 6 H]]) (i V3)) (i V3)) [[Cz c 0],ab c 2,V6,[.sl g 6 h]])) [[vI 14],sub (ab c 2) 0 3,[vI 12],V6,[.sl g 6 h]]) [Cz c 3,cell (ab c 3) 1]) (λb=>sK 6 b 3 λp q=>jn (λr=>aH 1 (cell (ab b 1) 14) λI _=>aA Is s151 [ab b 1] λJ=>iK J 0 λL=>(λV7=>(λV1=>aB (!(decide ((I:Int)=L))) (aA Is y7 V1 λs=>sK 6 s 1 λM N=>r [[Cz b 0],ab b 1,[Cz s 0,cell (ab s 0) 1],[.sl M 6 N]]) (aA Is s152 [[cell (ab b 1) 14]] λO=>bK O 0 λP=>aB P (aA Is y7 V1 λt=>sK 6 t 1 λQ R=>r [[Cz b 0],ab b 1,[Cz t 0,cell (ab t 0) 1],[.sl Q 6 R]]) (r [[Cz b 0],ab b 1,V7,[.sl p 6 q]]))) [[vI 16],sub (ab b 1) 0 3,[vI 12],V7,[.sl p 6 q]]) [Cz b 2,cell (ab b 2) 1]) (λe=>sK 6 e 3 λS T=>aH 15 (cell (ab e 1) 13) λU _=>Lp (λj d=>iK d 2 λv=>iK d 3 λf=>sK 6 d 6 λw x=>(λV5=>aB (decide (f<v)) (sK 15 d 1 λV W=>kI f V (aA Is s155 [ab d 4,[vI f]] λX=>sK 4 X 0 λY Z=>aA Is Ko [[.sl 2 1 [Cz d 0,.sl Y 4 Z]]] λr58=>sK 4 r58 0 λn59 c60=>aA Is Kp [eT W 15 f,[.sl n59 4 c60],V5,[.sl w 6 x]] λu=>sK 6 u 1 λn62 c63=>oK f (j [[Cz d 0],[Cz d 1],[vI v],[vI (f+1)],ab d 4,[Cz u 0,cell (ab u 0) 1],[.sl n62 6 c63]]))) (K [V5,[.sl w 6 x]])) [Cz d 5,cell (ab d 5) 1]) [[Cz e 0],[cell (ab e 1) 13],[vI U],[vI 0],ab e 1,[Cz e 2,cell (ab e 2) 1],[.sl S 6 T]])))
theorem w148:Wd (cD [y7,Kp,s149,s150,s151,s152,Ko,s155]) ⟨[(9,⟨[hD 1,hP 2 0,hP 3 1,hP 4 3,hD 57,hI 58,hI 59],[(0,.b 105 [.p 2 0]),(1,.b 198 [.f 148 [.p 0 0,.p 1 0]]),hA 3 50 15,(2,.b 107 [.d,.d,.w 4]),hR 4 57 6]⟩)],[(4,⟨[hD 1,hP 2 0,hP 3 1,hP 4 3,hB 7],[(0,.b 105 [.p 2 0]),(1,.b 198 [.f 148 [.p 0 0,.p 1 0]]),hA 3 50 15,(2,.b 107 [.d,.d,.w 4]),hR 4 57 6]⟩),(6,⟨[hD 1,hP 2 0,hP 3 1,hP 4 3],[(0,.b 105 [.p 2 0]),(1,.b 198 [.f 148 [.p 0 0,.p 1 0]]),hA 3 50 15,(2,.b 107 [.d,.d,.w 4]),hR 4 57 6]⟩),(8,⟨[hD 1,hP 2 0,hP 3 1,hP 4 3],[(0,.b 105 [.p 2 0]),(1,.b 198 [.f 148 [.p 0 0,.p 1 0]]),hA 3 50 15,(2,.b 107 [.d,.d,.w 4]),hR 4 57 6]⟩)],[]⟩ Kp g148:=Wk
def g149:Tx:=λIs a K=>sK 6 a 2 λm n=>aw (cell (ab a 0) 3) λz3=>(λV3=>(λV9=>aB (decide (z3<(0:Int))) (K V9) (aw (cell (ab a 0) 3) λz4=>aB (decide ((13:Int)<=z4)) (K V9) (aw (cell (ab a 0) 3) λp=>az (0<=p/\p<((13:Nat):Int)) (jn (λq=>aw (cell (ab a 0) 3) λz8=>(λV4=>aB (decide (z8=(4:Int))) (jn (λB=>aw (cell (ab a 0) 4) λC=>(λV8=>aB (decide (C=(9:Int))) (B V8) (aw (cell (ab a 0) 4) λD=>aB (decide (D=(11:Int))) (B V8) (B [[vB false],V4,V3,ab a 0,[.sl m 6 n]]))) [[vB false],[vI 1],V3,ab a 0,[.sl m 6 n]]) (λe=>bK e 0 λv=>iK e 1 λw=>sK 6 e 4 λx y=>aw (cell (ab e 3) 4) λE=>(λV10=>aB (decide (E<(0:Int))) (q [[vB true],[vB v],[vI w],V10,ab e 3,[.sl x 6 y]]) (aw (cell (ab e 3) 4) λF=>q [[vB (decide ((11:Int)<F))],[vB v],[vI w],V10,ab e 3,[.sl x 6 y]])) [Cz e 2,cell (ab e 2) 1])) (aw (cell (ab a 0) 3) λG=>aB (decide (G=(0:Int))) (aw (cell (ab a 0) 4) λH=>aB (decide (H<(-1099511627776:Int))) (q [[vB true],[vB false],V4,V3,ab a 0,[.sl m 6 n]]) (aw (cell (ab a 0) 4) λI=>q [[vB (decide ((1099511627776:Int)<I))],[vB false],V4,V3,ab a 0,[.sl m 6 n]])) (aw (cell (ab a 0) 3) λJ=>(λV6=>aB (decide (J=(1:Int))) (aw (cell (ab a 0) 4) λL=>aB (!(decide (L=(0:Int)))) (aw (cell (ab a 0) 4) λM=>q [[vB (!(decide (M=(1:Int))))],[vB false],V4,V3,ab a 0,[.sl m 6 n]]) (q V6)) (aw (cell (ab a 0) 3) λN=>aB (decide (N=(11:Int))) (aA Is s47 [V3,sub (ab a 0) 8 5] λO=>bK O 0 λP=>q [[vB false],[vB (!P)],V4,V3,ab a 0,[.sl m 6 n]]) (q V6))) [[vB false],[vB false],V4,V3,ab a 0,[.sl m 6 n]]))) [cell (el kidsD 1 (Qr p)) 0]) (λh=>bK h 0 λQ=>bK h 1 λr=>iK h 2 λz=>sK 6 h 5 λs t=>jn (λu=>(λV7=>aB Q (u [[vB true],[vB r],V7,ab h 4,[.sl s 6 t]]) (aB (decide ((0:Int)<=z)) (aH 15 (cell (ab h 4) 13) λR _=>u [[vB (!(decide ((R:Int)=z)))],[vB r],V7,ab h 4,[.sl s 6 t]]) (u [[vB false],[vB r],V7,ab h 4,[.sl s 6 t]]))) [Cz h 3,cell (ab h 3) 1]) (λb=>bK b 0 λi=>bK b 1 λf=>sK 6 b 4 λc d=>aw (cell (ab b 3) 3) λS=>(λV2=>aB (decide (((xY S iI).getD 0)=(0:Int))) (K [[vB i],[vB f],V2,[.sl c 6 d]]) (aA Is FH [V2,sub (ab b 3) 5 3] λo=>bK o 1 λT=>(λV5=>aB (!T) (K V5) (aw (cell (ab o 0) 3) λU=>aB (decide (U<(0:Int))) (K V5) (aw (cell (ab o 0) 3) λV=>aB (decide ((5:Int)<V)) (K V5) (aw (cell (ab b 3) 3) λW=>qk .i64 (vI ((xY W iI).getD 0)) λu47=>qk .i64 (cell (ab o 0) 3) λu48=>az (0<=u48) (aB (decide ((bits .and .i64 (u47 / 2 ^ min (Qr u48) (Ta .i64)) 1)=(0:Int))) (K V5) (aH 11 (cell (ab o 0) 8) λj _=>jn (λg=>aw (cell (ab b 3) 3) λA=>(λV1=>aB (decide (A=(3:Int))) (aB (decide (A=(3:Int))) (aB i (g V1) (aH 15 (cell (ab b 3) 13) λX _=>g [[vB (!(decide ((X:Int)=(j:Int))))],[vB f],V2,[.sl c 6 d]])) (aw (cell (ab b 3) 3) λY=>aB (decide (Y=(10:Int))) (aB i (g V1) (aH 15 (cell (ab b 3) 13) λZ _=>az (bt ((j:Int)+1)) (aB (!(decide ((Z:Int)=((j:Int)+1)))) (g V1) (g [[vB (decide ((j:Int)=(0:Int)))],[vB f],V2,[.sl c 6 d]])))) (aB i (g V1) (aw (cell (ab b 3) 4) λz59=>aB (decide (z59<(0:Int))) (g V1) (aw (cell (ab b 3) 4) λz60=>g [[vB (decide ((j:Int)<=z60))],[vB f],V2,[.sl c 6 d]]))))) (aw (cell (ab b 3) 3) λz61=>aB (decide (z61=(7:Int))) (aB i (g V1) (aH 15 (cell (ab b 3) 13) λn62 _=>g [[vB (!(decide ((n62:Int)=(j:Int))))],[vB f],V2,[.sl c 6 d]])) (aw (cell (ab b 3) 3) λz64=>aB (decide (z64=(10:Int))) (aB i (g V1) (aH 15 (cell (ab b 3) 13) λn65 _=>az (bt ((j:Int)+1)) (aB (!(decide ((n65:Int)=((j:Int)+1)))) (g V1) (g [[vB (decide ((j:Int)=(0:Int)))],[vB f],V2,[.sl c 6 d]])))) (aB i (g V1) (aw (cell (ab b 3) 4) λz67=>aB (decide (z67<(0:Int))) (g V1) (aw (cell (ab b 3) 4) λz68=>g [[vB (decide ((j:Int)<=z68))],[vB f],V2,[.sl c 6 d]])))))) [[vB true],[vB f],V2,[.sl c 6 d]]) (λl=>bK l 0 λb69=>bK l 1 λb70=>sK 6 l 3 λn71 c72=>K [[vB b69],[vB b70],[Cz l 2,cell (ab l 2) 1],[.sl n71 6 c72]]))))))) [[vB i],[vB true],V2,[.sl c 6 d]])) [Cz b 2,cell (ab b 2) 1])))))) [[vB true],[vB false],V3,[.sl m 6 n]]) [Cz a 1,cell (ab a 1) 1]
theorem w149:Wd ⟨[FH,s47],[42],[],[],mB,mA,true,ie,false,false,[]⟩ ⟨[],[(8,⟨[hP 0 0,hP 3 2,hB 5,hI 6],[(0,.b 107 [.d,.d,.w 1]),hA 2 50 15,hR 1 57 6]⟩),(15,⟨[hP 0 0,hP 3 2,hB 4,hB 5,hI 6],[(0,.b 107 [.d,.d,.w 1]),hA 2 50 15,hR 1 57 6]⟩),(16,⟨[hP 0 0,hP 3 2,hB 4,hB 5],[(0,.b 107 [.d,.d,.w 1]),hA 2 50 15,hR 1 57 6]⟩),(29,⟨[hP 0 0,hB 4,hB 5],[(0,.b 107 [.d,.d,.w 1]),hR 1 57 6]⟩)],[]⟩ s149 g149:=Wk
def g150:Tx:=λIs a K=>aA Is s198 [[Cz a 0],ab a 1] λb=>iK b 0 λc=>K [[vB (decide ((0:Int)<=c))]]
theorem w150:Wd (cD [s198]) hZ s150 g150:=Wk
def g198:Tx:=λ_ a K=>sK 4 a 0 λf _=>Lp (λc b=>iK b 1 λe=>iK b 2 λd=>aB (decide (d<e)) (sK 4 b 0 λg h=>kI d g (PT .i64 (ab b 3) λl9=>PT .i64 (eT h 4 d) λl10=>az (l9.length=4/\l10.length=4) (aB (decide (l9=l10)) (K [[vI d]]) (oK d (c [[Cz b 0],[vI e],[vI (d+1)],ab b 3]))))) (K [[vI (-1)]])) [[Cz a 0],[vI f],[vI 0],ab a 1]
theorem w198:Wd ⟨[],[42],[],[],mB,mA,true,ie,false,false,[]⟩ ⟨[(2,⟨[hD 0,hP 3 0,hI 7,hI 8],[hA 0 197 4]⟩)],[],[]⟩ s198 g198:=Wk
def g151:Tx:=λ_ a K=>aw (cell (ab a 0) 3) λc=>aB (decide (c=(6:Int))) (K [[vI 1]]) (aw (cell (ab a 0) 3) λd=>aB (decide (d=(12:Int))) (K [[vI 2]]) (aw (cell (ab a 0) 3) λe=>aB (decide (e=(10:Int))) (aH 15 (cell (ab a 0) 13) λb _=>az (bt ((b:Int)-1)) (K [[vI (max 0 ((b:Int)-1))]])) (K [[vI 0]])))
theorem w151:Wd (cD []) hZ s151 g151:=Wk
def g152:Tx:=λIs a K=>aA Is s199 [[Cz a 0]] λb=>iK b 0 λc=>K [[vB (decide ((0:Int)<=c))]]
theorem w152:Wd (cD [s199]) hZ s152 g152:=Wk
def g199:Tx:=λIs a K=>sK 1 a 0 λg _=>Lp (λc b=>iK b 1 λf=>iK b 2 λd=>aB (decide (d<f)) (sK 1 b 0 λh i=>kI d h (aA Is s153 [[cell (eT i 1 d) 0]] λj=>bK j 0 λe=>aB e (K [[vI d]]) (oK d (c [[Cz b 0],[vI f],[vI (d+1)]])))) (K [[vI (-1)]])) [[Cz a 0],[vI g],[vI 0]]
theorem w199:Wd (cD [s153]) ⟨[(2,⟨[hD 0,(1,.c (.f 153 [])),hI 7,hI 8],[]⟩)],[],[]⟩ s199 g199:=Wk
def g153:Tx:=λIs a K=>aA Is qD [[Cz a 0]] λb=>bK b 0 λc=>K [[vB (!c)]]
theorem w153:Wd (cD [qD]) hZ s153 g153:=Wk
def g155:Tx:=λ_ a K=>iK a 1 λb=>aw (cell (ab a 0) 3) λc=>(λV4=>(λV1=>(λV2=>(λV3=>aB (decide (c=(6:Int))) (aB (decide (b=(1:Int))) (K [[.sl 1 4 (cls V4 0 3 [vI 0])]]) (aw (cell (ab a 0) 3) λd=>aB (decide (d=(12:Int))) (aB (decide (b=(2:Int))) (K V2) (aw (cell (ab a 0) 3) λe=>aB (decide (e=(10:Int))) (aB (decide ((0:Int)<b)) (az (bt (b-1)) (K V1)) (K V3)) (K V3))) (aw (cell (ab a 0) 3) λf=>aB (decide (f=(10:Int))) (aB (decide ((0:Int)<b)) (az (bt (b-1)) (K V1)) (K V3)) (K V3)))) (aw (cell (ab a 0) 3) λg=>aB (decide (g=(12:Int))) (aB (decide (b=(2:Int))) (K V2) (aw (cell (ab a 0) 3) λh=>aB (decide (h=(10:Int))) (aB (decide ((0:Int)<b)) (az (bt (b-1)) (K V1)) (K V3)) (K V3))) (aw (cell (ab a 0) 3) λi=>aB (decide (i=(10:Int))) (aB (decide ((0:Int)<b)) (az (bt (b-1)) (K V1)) (K V3)) (K V3)))) [[.sl 0 4 []]]) [[.sl 2 4 (cls V4 0 3 (vI 0::cls V4 0 3 [vI 1]))]]) [[.sl 1 4 (cls V4 0 3 [vI (b-1)])]]) (sub (ab a 0) 0 3)
theorem w155:Wd (cD []) hZ s155 g155:=Wk
def g51:Tx:=λIs a K=>sK 6 a 1 λn1 c2=>aH 31 (cell (ab a 0) 1) λn3 _=>Lp (λT i=>iK i 1 λz7=>iK i 2 λz8=>sK 4 i 4 λn9 U=>sK 6 i 5 λn11 c12=>(λV4=>aB (decide (z8<z7)) (sK 31 i 0 λn13 c14=>kI z8 n13 (aA Is s18 [V4,sub (eT c14 31 z8) 0 3] λr15=>sK 3 r15 0 λn16 c17=>tK (sub (eT c14 31 z8) 0 3) λz18 z19 z20=>oK z8 (T [[Cz i 0],[vI z7],[vI (z8+1)],V4,[.sl (fH 4 z18 z19 z20 n9 U) 4 (cS 4 z18 z19 z20 [.sl n16 3 c17] n9 U)],[.sl n11 6 c12]]))) (sK 6 i 3 λn21 _=>Lp (λC e=>iK e 1 λz25=>iK e 2 λn=>sK 4 e 4 λn27 c28=>sK 4 e 5 λV W=>sK 6 e 6 λn31 c32=>(λV7=>aB (decide (n<z25)) (sK 6 e 0 λn33 X=>kI n n33 (aA Is s85 [[cell (eT X 6 n) 4]] λr35=>sK 3 r35 0 λn36 c37=>az (aO (n36+1) 25) (tK (sub (eT X 6 n) 0 3) λz38 z39 z40=>oK n (C [[Cz e 0],[vI z25],[vI (n+1)],V7,[.sl n27 4 c28],[.sl (fH 4 z38 z39 z40 V W) 4 (cS 4 z38 z39 z40 ([.sl (n36+1) 3 (c37++((sub (eT X 6 n) 0 3)++[]))]) V W)],[.sl n31 6 c32]])))) (aH 31 (cell (ab e 3) 1) λn41 _=>Lp (λp h=>iK h 1 λz45=>iK h 2 λx=>sK 4 h 4 λY Z=>sK 4 h 5 λn49 c50=>sK 6 h 6 λn51 c52=>(λV6=>aB (decide (x<z45)) (sK 31 h 0 λn53 c54=>kI x n53 (tK (sub (eT c54 31 x) 0 3) λz55 z56 z57=>aH 3 (cell ((bu 4 z55 z56 z57 Y Z).getD [.sl 0 3 []]) 0) λn58 _=>Lp (λq b=>iK b 1 λz62=>iK b 2 λz63=>iK b 4 λz64=>iK b 5 λo=>sK 4 b 7 λD E=>sK 4 b 8 λF G=>sK 6 b 10 λn70 c71=>(λV2=>(λV5=>aB (decide (o<z64)) (sK 3 b 3 λn72 c73=>kI o n72 (aA Is FH [V2,eT c73 3 o] λr74=>bK r74 1 λ_=>tK (sub (ab b 9) 4 3) λz76 z77 z78=>aA Is Il [[cell ((bu 4 z76 z77 z78 F G).getD [.sl 0 3 []]) 0],sub (ab r74 0) 4 3] λr79=>bK r79 0 λb80=>aB (!b80) (aA Is y7 [[vI 11],sub (ab b 9) 0 3,[vI 1],V2,V5] λr81=>sK 6 r81 1 λn82 c83=>oK o (q [[Cz b 0],[vI z62],[vI z63],[Cz b 3],[vI z64],[vI (o+1)],[Cz r81 0,cell (ab r81 0) 1],[.sl D 4 E],[.sl F 4 G],ab b 9,[.sl n82 6 c83]])) (oK o (q [[Cz b 0],[vI z62],[vI z63],[Cz b 3],[vI z64],[vI (o+1)],V2,[.sl D 4 E],[.sl F 4 G],ab b 9,V5])))) (tK (sub (ab b 9) 0 3) λz84 z85 z86=>aA Is s85 [[cell ((bu 4 z84 z85 z86 D E).getD [.sl 0 3 []]) 0]] λr87=>sK 3 r87 0 λn88 c89=>jn (λk90=>Lp (λm c=>iK c 1 λH=>iK c 2 λI=>sK 4 c 4 λy z=>sK 4 c 5 λJ L=>sK 4 c 7 λj l=>sK 3 c 8 λf g=>sK 6 c 9 λr s=>(λV1=>aB (decide ((0:Int)<(f:Int))) (az (0<=(0:Int)/\(0:Int)<(f:Int)) (az (0<=(1:Int)/\(1:Int)<=(f:Int)/\(f:Int)<=((f:Nat):Int)/\0<f) (aw (cell (el g 3 0) 0) λz106=>aw (cell (el g 3 0) 1) λz107=>aw (cell (el g 3 0) 2) λz108=>oX (cell ((bu 4 z106 z107 z108 j l).getD [vB false]) 0) λb109=>aB (!b109) (aw (cell (el g 3 0) 0) λt=>aw (cell (el g 3 0) 1) λu=>aw (cell (el g 3 0) 2) λv=>aw (cell (el g 3 0) 0) λz113=>aw (cell (el g 3 0) 1) λz114=>aw (cell (el g 3 0) 2) λz115=>aH 3 (cell ((bu 4 z113 z114 z115 y z).getD [.sl 0 3 []]) 0) λA c117=>(λV3=>aB (decide (A=0)) (m [[Cz c 0],[vI H],[vI I],V1,[.sl y 4 z],[.sl J 4 L],ab c 6,V3,[.sl (Qr (f:Int)-1) 3 (sub g (1*3) ((Qr (f:Int)-1)*3))],[.sl r 6 s]]) (az (aO (((Qr (f:Int)-1)+A)) 25) (m [[Cz c 0],[vI H],[vI I],V1,[.sl y 4 z],[.sl J 4 L],ab c 6,V3,[.sl ((Qr (f:Int)-1)+A) 3 ((sub g (1*3) ((Qr (f:Int)-1)*3))++c117)],[.sl r 6 s]]))) [.sl (fH 4 t u v j l) 4 (cS 4 t u v [vB true] j l)]) (m [[Cz c 0],[vI H],[vI I],V1,[.sl y 4 z],[.sl J 4 L],ab c 6,[.sl j 4 l],[.sl (Qr (f:Int)-1) 3 (sub g (1*3) ((Qr (f:Int)-1)*3))],[.sl r 6 s]])))) (k90 [[Cz c 0],[vI H],[vI I],V1,[.sl y 4 z],[.sl J 4 L],ab c 6,[.sl j 4 l],[.sl r 6 s]])) [Cz c 3,cell (ab c 3) 1]) [[Cz b 0],[vI z62],[vI z63],V2,[.sl D 4 E],[.sl F 4 G],ab b 9,[.sl 0 4 []],[.sl n88 3 c89],V5]) (λd=>iK d 1 λM=>iK d 2 λw=>sK 4 d 4 λN O=>sK 4 d 5 λP Q=>sK 4 d 7 λn124 c125=>sK 6 d 8 λR S=>tK (sub (ab d 6) 0 3) λz128 z129 z130=>oX (cell ((bu 4 z128 z129 z130 n124 c125).getD [vB false]) 0) λb131=>(λV8=>aB b131 (aA Is y7 [[vI 13],sub (ab d 6) 0 3,[vI 14],V8,[.sl R 6 S]] λB=>sK 6 B 1 λn133 c134=>oK w (p [[Cz d 0],[vI M],[vI (w+1)],[Cz B 0,cell (ab B 0) 1],[.sl N 4 O],[.sl P 4 Q],[.sl n133 6 c134]])) (oK w (p [[Cz d 0],[vI M],[vI (w+1)],V8,[.sl N 4 O],[.sl P 4 Q],[.sl R 6 S]]))) [Cz d 3,cell (ab d 3) 1]))) [.sl n70 6 c71]) [Cz b 6,cell (ab b 6) 1]) [[Cz h 0],[vI z45],[vI x],[cell ((bu 4 z55 z56 z57 Y Z).getD [.sl 0 3 []]) 0],[vI n58],[vI 0],V6,[.sl Y 4 Z],[.sl n49 4 c50],eT c54 31 x,[.sl n51 6 c52]])) (K [V6,[.sl n51 6 c52]])) [Cz h 3,cell (ab h 3) 1]) [[cell (ab e 3) 1],[vI n41],[vI 0],V7,[.sl n27 4 c28],[.sl V 4 W],[.sl n31 6 c32]])) [Cz e 3,cell (ab e 3) 1]) [[Cz i 3],[vI n21],[vI 0],V4,[.sl n9 4 U],[.sl 0 4 []],[.sl n11 6 c12]])) [Cz i 3,cell (ab i 3) 1]) [[cell (ab a 0) 1],[vI n3],[vI 0],[Cz a 0,cell (ab a 0) 1],[.sl 0 4 []],[.sl n1 6 c2]]
theorem w51:Wd ⟨[s18,FH,y7,Il,s85],[42],[],[],mB,mA,true,ie,false,false,[115]⟩ ⟨[(2,⟨[hP 0 0,(2,.c (.m 1)),hD 22,hI 23,hI 24],[(0,.b 107 [.d,.d,.w 2]),(1,.m 122 false 1),hR 2 57 6]⟩),(8,⟨[hP 0 0,(2,.c (.m 1)),(5,.c (.m 2)),hD 44,hI 45,hI 46],[(0,.b 107 [.d,.d,.w 3]),(1,.m 122 false 1),(2,.m 122 false 1),hR 3 57 6]⟩),(13,⟨[hP 0 0,(2,.c (.m 1)),(5,.c (.m 2)),hD 65,hI 66,hI 67],[(0,.b 107 [.d,.d,.w 3]),(1,.m 122 false 1),(2,.m 122 false 1),hR 3 57 6]⟩),(16,⟨[hP 0 0,(2,.c (.m 1)),(5,.c (.m 2)),hP 9 3,hD 65,hI 66,hI 67,hD 74,hI 75,hI 76],[(0,.b 107 [.d,.d,.w 4]),(1,.m 122 false 1),(2,.m 122 false 1),hA 3 52 31,hR 4 57 6]⟩),(24,⟨[hP 0 0,(2,.c (.m 1)),(5,.c (.m 2)),hP 9 3,(14,.c (.m 4)),hW 15 5,hD 65,hI 66,hI 67],[(0,.b 107 [.d,.d,.w 6]),(1,.m 122 false 1),(2,.m 122 false 1),hA 3 52 31,(4,.m 150 false 1),(5,.x 42 3),hR 6 57 6]⟩)],[(30,⟨[hP 0 0,(2,.c (.m 1)),(5,.c (.m 2)),hP 9 3,(14,.c (.m 4)),hD 65,hI 66,hI 67],[(0,.b 107 [.d,.d,.w 5]),(1,.m 122 false 1),(2,.m 122 false 1),hA 3 52 31,(4,.m 150 false 1),hR 5 57 6]⟩)],[]⟩ s51 g51:=Wk
def g59:Tx:=λ_ a K=>tK (sub (ab a 0) 1 3) λc d e=>tK (sub (ab a 1) 1 3) λf g h=>aB (decide (c=f/\d=g/\e=h)) (aw (cell (ab a 0) 4) λi=>aw (cell (ab a 1) 4) λj=>aB (decide (i=j)) (iK a 0 λl=>iK a 1 λb=>K [[vB (decide (l=b))]]) (K [[vB false]])) (K [[vB false]])
theorem w59:Wd (cD []) hZ s59 g59:=Wk
set_option maxRecDepth 100000
abbrev s6:bA:=⟨6,⟨[hD 0,hI 1,hI 2],[]⟩,.c .bo,[],true⟩
abbrev s13:bA:=⟨13,⟨[(0,.a 2)],[]⟩,.c .bo,[],true⟩
abbrev s24:bA:=⟨24,⟨[hD 0,(1,.a 6)],[]⟩,.c .d,[],false⟩
abbrev s84:bA:=⟨84,⟨[(0,.a 6),(1,.a 6)],[]⟩,.c .bo,[],true⟩
abbrev s11:bA:=⟨11,⟨[hD 0,hD 1],[]⟩,.c .bo,[],true⟩
def g6:Tx:=λIs a K=>iK a 1 λz1=>iK a 2 λz2=>aA Is s8 [[Cz a 0]] λv=>sK 6 v 0 λD c5=>az (aO (0+D) 89) (sK 6 v 0 λn6 _=>aA Is s22 [[vI z1],[vI n6]] λr8=>iK r8 0 λo=>sK 6 v 0 λE h=>kI o E (aH 3 (cell (eT h 6 o) 4) λF _=>aB (decide ((F:Int)=(0:Int))) (aA Is s13 [ab v 0] λG=>bK G 0 λH=>aB H (aA Is s14 [] λI=>bK I 0 λJ=>K [[vB J]]) (K [[vB false]])) (aH 3 (cell (eT h 6 o) 4) λL _=>aA Is s22 [[vI z2],[vI L]] λM=>iK M 0 λe=>aH 3 (cell (eT h 6 o) 4) λN O=>kI e N (aH 3 (cell (eT h 6 o) 4) λP Q=>az (0<=(0:Int)/\(0:Int)<=e/\e<=(P:Int)) (az (aO (0+(Qr e-Qr (0:Int))) 25) (oK e (aH 3 (cell (eT h 6 o) 4) λi R=>az (0<=(e+1)/\(e+1)<=(i:Int)/\(i:Int)<=(i:Int)) (az (aO (0+(Qr e-Qr (0:Int))+(Qr (i:Int)-Qr (e+1))) 25) (az (0<=o/\o<((0+D:Nat):Int)) (jn (λS=>Lp (λp c=>iK c 1 λq=>sK 6 c 6 λw x=>aH 31 (cell (ab c 2) 1) λT _=>lK q T (jn (λt=>aH 31 (cell (ab c 2) 1) λU V=>kI q U (aA Is s18 [ab c 2,sub (eT V 31 q) 0 3] λW=>sK 3 W 0 λX Y=>Lp (λr b=>iK b 1 λg=>bK b 2 λy=>iK b 3 λj=>sK 3 b 8 λs u=>sK 6 b 9 λl m=>(λV1=>lK j s (jn (λz=>kI j s (aA Is Ir [ab b 4,eT u 3 j] λA=>bK A 1 λ_=>aB y (z [[Cz b 0],[vI g],[vB true],[vI j],ab b 4,[Cz b 5],ab b 6,ab b 7,[.sl s 3 u],[.sl l 6 m]]) (tK (sub (ab A 0) 4 3) λZ z58 z59=>iK b 7 λz60=>aw (cell (ab b 7) 1) λz61=>aw (cell (ab b 7) 2) λz62=>z [[Cz b 0],[vI g],[vB (decide (Z=z60/\z58=z61/\z59=z62))],[vI j],ab b 4,[Cz b 5],ab b 6,ab b 7,[.sl s 3 u],[.sl l 6 m]]))) (λd=>iK d 1 λz63=>bK d 2 λb64=>iK d 3 λB=>sK 3 d 8 λn66 c67=>sK 6 d 9 λn68 c69=>oK B (r [[Cz d 0],[vI z63],[vB b64],[vI (B+1)],ab d 4,[Cz d 5],ab d 6,ab d 7,[.sl n66 3 c67],[.sl n68 6 c69]]))) (aB y (aH 31 (cell (ab b 4) 1) λn70 c71=>kI g n70 (tK (sub (eT c71 31 g) 4 3) λz72 z73 z74=>tK (sub (ab b 6) 0 3) λz75 z76 z77=>aB (decide (z72=z75/\z73=z76/\z74=z77)) (aH 31 (cell (ab b 4) 1) λn78 c79=>kI g n78 (aA Is s24 [[Cz b 0],vI 11::cls (sub (eT c79 31 g) 0 3) 0 3 ([vI 1,.sl 0 3 []])] λr80=>t [[Cz r80 0],[vI g],ab b 4,[Cz b 5],ab b 6,ab b 7,[.sl l 6 m]])) (t V1))) (t V1))) [[Cz b 0],[vI g],ab b 4,[Cz b 5],ab b 6,ab b 7,[.sl l 6 m]]) [[Cz c 0],[vI q],[vB false],[vI 0],ab c 2,[Cz c 3],ab c 4,ab c 5,[.sl X 3 Y],[.sl w 6 x]])) (λf=>iK f 1 λC=>sK 6 f 6 λn82 c83=>oK C (p [[Cz f 0],[vI (C+1)],ab f 2,[Cz f 3],ab f 4,ab f 5,[.sl n82 6 c83]]))) (S [[Cz c 0],[Cz c 3],[.sl w 6 x]])) [[.sl 0 6 []],[vI 0],ab v 0,[cell (ab v 0) 1],eT h 6 o,eT O 3 e,[.sl (0+D) 6 (cQ c5 ((Qr o)*6+4) [.sl (0+(Qr e-Qr (0:Int))+(Qr (i:Int)-Qr (e+1))) 3 ((sub Q (Qr (0:Int)*3) ((Qr e-Qr (0:Int))*3))++(sub R (Qr (e+1)*3) ((Qr (i:Int)-Qr (e+1))*3)))])]]) (λn=>sK 6 n 2 λn84 c85=>aA Is Mx [[.sl n84 6 c85,Cz n 1]] λr86=>sK 6 r86 0 λn87 c88=>aA Is s11 [[.sl n87 6 c88],[Cz n 0]] λr89=>bK r89 0 λb90=>aB b90 (aA Is s14 [] λr91=>bK r91 0 λb92=>K [[vB b92]]) (K [[vB false]]))))))))))))
theorem w6:Wd (cD [s8,s11,Mx,s13,s14,s18,s22,Ir,s24]) ⟨[(13,⟨[hP 7 0,hP 8 1,hP 10 2,hP 12 3,hD 13,hI 14],[hA 0 26 2,(1,.b 26 [.w 4,.d]),hA 2 60 6,hA 3 42 3,hR 4 60 6]⟩),(18,⟨[hP 7 0,hP 8 1,hP 10 2,hP 12 3,hD 13,hI 14,hW 15 4,hB 16,hI 17],[hA 0 26 2,(1,.b 26 [.w 5,.d]),hA 2 60 6,hA 3 42 3,hR 4 42 3,hR 5 60 6]⟩)],[(14,⟨[hP 7 0,hP 8 1,hP 10 2,hP 12 3,hD 13,hI 14],[hA 0 26 2,(1,.b 26 [.w 4,.d]),hA 2 60 6,hA 3 42 3,hR 4 60 6]⟩),(19,⟨[hP 7 0,hP 8 1,hP 10 2,hP 12 3,hD 13,hI 14,hW 15 4,hB 16,hI 17],[hA 0 26 2,(1,.b 26 [.w 5,.d]),hA 2 60 6,hA 3 42 3,hR 4 42 3,hR 5 60 6]⟩),(24,⟨[hP 8 0,hD 13],[(0,.b 26 [.w 1,.d]),hR 1 60 6]⟩)],[]⟩ s6 g6:=Wk
def g13:Tx:=λIs a K=>aA Is Mx [ab a 0] λb=>sK 6 b 0 λc _=>K [[vB (decide ((c:Int)=(0:Int)))]]
theorem w13:Wd (cD [Mx]) hZ s13 g13:=Wk
def g24:Tx:=λIs a K=>jn (λv=>Lp (λh c=>iK c 1 λi=>sK 6 c 0 λw _=>(λV2=>lK i w (sK 6 c 0 λx y=>kI i x (aA Is s84 [eT y 6 i,ab c 2] λl=>bK l 0 λm=>aB m (oK i (h [[Cz c 0],[vI (i+1)],ab c 2])) (v V2))) (v V2)) [[Cz c 0],[vI i],ab c 2]) [[Cz a 0],[vI 0],ab a 1]) (λd=>iK d 1 λg=>jn (λj=>sK 6 d 0 λn _=>(λV1=>lK g n (sK 6 d 0 λo p=>kI g o (aA Is s84 [ab d 2,eT p 6 g] λq=>bK q 0 λr=>aB (!r) (K [[Cz d 0]]) (j V1))) (j V1)) [[Cz d 0],[vI g],ab d 2]) (λe=>iK e 1 λb=>sK 6 e 0 λs t=>az (0<=(0:Int)/\(0:Int)<=b/\b<=(s:Int)) (az (aO (0+(Qr b-Qr (0:Int))) 65) (az (aO (0+(Qr b-Qr (0:Int))+1) 65) (sK 6 e 0 λf u=>az (0<=b/\b<=(f:Int)/\(f:Int)<=(f:Int)) (az (aO (0+(Qr b-Qr (0:Int))+1+(Qr (f:Int)-Qr b)) 65) (K [[.sl (0+(Qr b-Qr (0:Int))+1+(Qr (f:Int)-Qr b)) 6 (((sub t (Qr (0:Int)*6) ((Qr b-Qr (0:Int))*6))++((ab e 2)++[]))++(sub u (Qr b*6) ((Qr (f:Int)-Qr b)*6)))]])))))))
theorem w24:Wd (cD [s84]) ⟨[(2,⟨[hD 0,hP 3 0,hI 5],[hA 0 57 6]⟩)],[(4,⟨[hD 0,hP 3 0,hI 5],[hA 0 57 6]⟩),(6,⟨[hD 0,hP 3 0,hI 5],[hA 0 57 6]⟩)],[]⟩ s24 g24:=Wk
def g84:Tx:=λIs a K=>tK (sub (ab a 0) 1 3) λg h i=>tK (sub (ab a 1) 1 3) λj l m=>aB (!(decide (g=j/\h=l/\i=m))) (aA Is s161 [sub (ab a 0) 1 3,sub (ab a 1) 1 3] λn=>bK n 0 λo=>K [[vB o]]) (aw (cell (ab a 0) 4) λp=>aw (cell (ab a 1) 4) λb=>aB (!(decide (p=b))) (aw (cell (ab a 0) 4) λc=>aw (cell (ab a 1) 4) λd=>K [[vB (decide (c<d))]]) (iK a 0 λe=>iK a 1 λf=>K [[vB (decide (e<f))]]))
theorem w84:Wd (cD [s161]) hZ s84 g84:=Wk
def g11:Tx:=λIs a K=>sK 6 a 0 λH _=>sK 6 a 1 λI _=>aB (!(decide ((H:Int)=(I:Int)))) (K [[vB false]]) (Lp (λd b=>iK b 2 λc=>sK 6 b 0 λJ _=>lK c J (sK 6 b 0 λe f=>kI c e (sK 6 b 1 λg h=>kI c g (aw (cell (eT f 6 c) 0) λi=>aw (cell (eT h 6 c) 0) λj=>aB (!(decide (i=j))) (K [[vB false]]) (sK 6 b 0 λl m=>kI c l (sK 6 b 1 λn o=>kI c n (tK (sub (eT m 6 c) 1 3) λp q r=>tK (sub (eT o 6 c) 1 3) λs t u=>aB (!(decide (p=s/\q=t/\r=u))) (K [[vB false]]) (sK 6 b 0 λv w=>kI c v (sK 6 b 1 λx y=>kI c x (aw (cell (eT w 6 c) 4) λz=>aw (cell (eT y 6 c) 4) λA=>aB (!(decide (z=A))) (K [[vB false]]) (sK 6 b 0 λB C=>kI c B (sK 6 b 1 λD E=>kI c D (aA Is s17 [[cell (eT C 6 c) 5],[cell (eT E 6 c) 5]] λF=>bK F 0 λG=>aB (!G) (K [[vB false]]) (oK c (d [[Cz b 0],[Cz b 1],[vI (c+1)]])))))))))))))) (K [[vB true]])) [[Cz a 0],[Cz a 1],[vI 0]])
theorem w11:Wd (cD [s17]) ⟨[(4,⟨[hD 0,hD 1,hI 5],[]⟩)],[],[]⟩ s11 g11:=Wk
set_option maxRecDepth 100000
abbrev s177:bA:=⟨177,⟨[hW 0 0,hI 1,(2,.c (.f 94 []))],[hR 0 70 38]⟩,.t [],[hR 0 70 38],false⟩
abbrev Na:bA:=⟨223,⟨[hW 0 0,hI 1,hI 2,(3,.c (.f 94 []))],[hR 0 70 38]⟩,.t [],[hR 0 70 38],false⟩
abbrev s94:bA:=⟨94,⟨[(0,.a 38),(1,.a 38)],[]⟩,.c .i,[],true⟩
abbrev Dw:bA:=⟨224,⟨[hW 0 0,hI 1,hI 2,hI 3,(4,.c (.f 94 []))],[hR 0 70 38]⟩,.t [],[hR 0 70 38],false⟩
abbrev s249:bA:=⟨249,⟨[hW 0 0,hI 1,hI 2,hI 3,(4,.c (.f 94 []))],[hR 0 70 38]⟩,.t [],[hR 0 70 38],false⟩
abbrev Kl:bA:=⟨263,⟨[hW 0 0,hI 1,hI 2,hI 3,(4,.c (.f 94 []))],[hR 0 70 38]⟩,.t [],[hR 0 70 38],false⟩
def g93:Tx:=λIs a K=>sK 38 a 0 λb c=>aA Is s177 [[vI b],[.sl b 38 c]] λd=>sK 38 d 0 λe f=>K [[.sl e 38 f]]
theorem w93:Wd (cD [s177]) hZ s93 g93:=Wk
def g177:Tx:=λIs a K=>iK a 0 λR=>sK 38 a 1 λS T=>Lp (λn f=>iK f 0 λy=>iK f 1 λz=>iK f 2 λQ=>iK f 3 λq=>sK 38 f 4 λr s=>aB (decide (q<=y)) (aA Is Na [[vI Q],[vI q],[.sl r 38 s]] λA=>sK 38 A 0 λB C=>az (bt (q+z)) (n [[vI y],[vI z],[vI q],[vI (q+z)],[.sl B 38 C]])) (aA Is Na [[vI Q],[vI y],[.sl r 38 s]] λD=>sK 38 D 0 λE F=>Lp (λj g=>iK g 0 λt=>iK g 1 λl=>sK 38 g 2 λu v=>aB (decide (l<t)) (az (bt (2*l)) (Lp (λm c=>iK c 0 λe=>iK c 1 λb=>iK c 2 λd=>iK c 3 λh=>sK 38 c 4 λo p=>aB (decide (h<=e)) (az (bt (d+b)) (aA Is Dw [[vI d],[vI (d+b)],[vI h],[.sl o 38 p]] λG=>sK 38 G 0 λH I=>az (bt (2*b)) (az (bt (h+(2*b))) (m [[vI e],[vI b],[vI h],[vI (h+(2*b))],[.sl H 38 I]])))) (jn (λw=>az (bt (d+b)) (aB (decide ((d+b)<e)) (aA Is Dw [[vI d],[vI (d+b)],[vI e],[.sl o 38 p]] λJ=>sK 38 J 0 λL M=>w [[vI e],[vI b],[.sl L 38 M]]) (w [[vI e],[vI b],[.sl o 38 p]]))) (λi=>iK i 0 λN=>iK i 1 λx=>sK 38 i 2 λO P=>az (bt (x*2)) (j [[vI N],[vI (x*2)],[.sl O 38 P]])))) [[vI t],[vI l],[vI 0],[vI (2*l)],[.sl u 38 v]])) (K [[.sl u 38 v]])) [[vI y],[vI z],[.sl E 38 F]])) [[vI R],[vI 20],[vI 0],[vI 20],[.sl S 38 T]]
theorem w177:Wd (cD [Na,Dw]) ⟨[(2,⟨[hW 0 0,hI 1,(2,.c (.f 94 [])),hI 6,hI 7,hI 8],[hR 0 70 38]⟩),(7,⟨[hW 0 0,hI 1,(2,.c (.f 94 [])),hI 6],[hR 0 70 38]⟩),(9,⟨[hW 0 0,hI 1,(2,.c (.f 94 [])),hI 6,hI 7,hI 8],[hR 0 70 38]⟩)],[(16,⟨[hW 0 0,hI 1,(2,.c (.f 94 [])),hI 6],[hR 0 70 38]⟩)],[]⟩ s177 g177:=Wk
def g223:Tx:=λIs a K=>iK a 0 λr=>iK a 1 λA=>sK 38 a 2 λB C=>oK r (Lp (λj g=>iK g 0 λD=>iK g 1 λz=>iK g 2 λs=>sK 38 g 3 λn o=>aB (decide (s<z)) (jn (λp=>Lp (λh d=>iK d 0 λi=>iK d 1 λl=>iK d 2 λm=>iK d 3 λb=>sK 38 d 4 λc e=>(λV1=>aB (decide (i<b)) (kI b c (az (bt (b-1)) (az (0<=(b-1)/\(b-1)<(c:Int)) (aA Is s94 [eT e 38 b,el e 38 (Qr (b-1))] λt=>iK t 0 λu=>aB (decide (u<(0:Int))) (az (bt (b-1)) (az (bt (b-1)) (az (0<=(b-1)/\(b-1)<(c:Int)) (kI b c (kI b c (az (0<=(b-1)/\(b-1)<(c:Int)) (az (bt (b-1)) (h [[vI i],[vI l],[vI m],[vI (b-1)],[.sl c 38 (cQ (cQ e ((Qr b)*38+0) (el e 38 (Qr (b-1)))) ((Qr (b-1))*38+0) (eT e 38 b))]])))))))) (p V1))))) (p V1)) [[vI i],[vI l],[vI m],[.sl c 38 e]]) [[vI D],[vI z],[vI s],[vI s],[.sl n 38 o]]) (λf=>iK f 0 λv=>iK f 1 λw=>iK f 2 λq=>sK 38 f 3 λx y=>oK q (j [[vI v],[vI w],[vI (q+1)],[.sl x 38 y]]))) (K [[.sl n 38 o]])) [[vI r],[vI A],[vI (r+1)],[.sl B 38 C]])
theorem w223:Wd (cD [s94]) ⟨[(1,⟨[hW 0 0,hI 1,hI 2,(3,.c (.f 94 [])),hI 8],[hR 0 70 38]⟩),(4,⟨[hW 0 0,hI 1,hI 2,(3,.c (.f 94 [])),hI 8,hI 9],[hR 0 70 38]⟩)],[(2,⟨[hW 0 0,hI 1,hI 2,(3,.c (.f 94 [])),hI 8],[hR 0 70 38]⟩)],[]⟩ Na g223:=Wk
def g94:Tx:=λIs a K=>aA Is s95 [sub (ab a 0) 0 3,sub (ab a 1) 0 3] λb=>iK b 0 λc=>K [[vI c]]
theorem w94:Wd (cD [s95]) hZ s94 g94:=Wk
def g224:Tx:=λIs a K=>iK a 0 λH=>iK a 1 λi=>iK a 2 λI=>sK 38 a 3 λn4 c5=>(λV4=>az (bt (i-H)) (aB (decide ((i-H)=(1:Int))) (Lp (λt J=>iK J 0 λz8=>iK J 1 λz9=>iK J 2 λL=>sK 38 J 3 λu v=>aB (decide (z9<L)) (az (bt (z9+L)) (qk .i64 (vI (z9+L)) λu13=>qk .u64 (vK .u64 (Rs .u64 u13)) λu14=>qk .u64 (vK .u64 1) λu15=>az (0<=u15) (qk .u64 (vK .u64 (u14 / 2 ^ min (Qr u15) (Ta .u64))) λu16=>az (0<=(Rs .i64 u16)/\(Rs .i64 u16)<(u:Int)) (kI z8 u (aA Is s94 [el v 38 (Qr (Rs .i64 u16)),eT v 38 z8] λr17=>iK r17 0 λz18=>aB (decide (z18<(0:Int))) (az (bt ((Rs .i64 u16)+1)) (t [[vI z8],[vI ((Rs .i64 u16)+1)],[vI L],[.sl u 38 v]])) (t [[vI z8],[vI z9],[vI (Rs .i64 u16)],[.sl u 38 v]])))))) (Lp (λM w=>iK w 0 λS=>iK w 1 λb=>sK 38 w 2 λq N=>az (bt (S-1)) (aB (decide (b<(S-1))) (oK b (oK b (az (0<=(b+1)/\(b+1)<(q:Int)) (kI b q (kI b q (az (0<=(b+1)/\(b+1)<(q:Int)) (oK b (M [[vI S],[vI (b+1)],[.sl q 38 (cQ (cQ N ((Qr b)*38+0) (el N 38 (Qr (b+1)))) ((Qr (b+1))*38+0) (eT N 38 b))]])))))))) (K [[.sl q 38 N]]))) [[vI z9],[vI z8],[.sl u 38 v]])) [[vI H],[vI i],[vI I],V4]) (az (bt (I-i)) (aB (decide ((I-i)=(1:Int))) (Lp (λm n=>iK n 0 λx=>iK n 1 λy=>iK n 2 λO=>sK 38 n 3 λz A=>aB (decide (y<O)) (az (bt (y+O)) (qk .i64 (vI (y+O)) λu32=>qk .u64 (vK .u64 (Rs .u64 u32)) λu33=>qk .u64 (vK .u64 1) λu34=>az (0<=u34) (qk .u64 (vK .u64 (u33 / 2 ^ min (Qr u34) (Ta .u64))) λu35=>kI x z (az (0<=(Rs .i64 u35)/\(Rs .i64 u35)<(z:Int)) (aA Is s94 [eT A 38 x,el A 38 (Qr (Rs .i64 u35))] λr36=>iK r36 0 λz37=>aB (!(decide (z37<(0:Int)))) (az (bt ((Rs .i64 u35)+1)) (m [[vI x],[vI ((Rs .i64 u35)+1)],[vI O],[.sl z 38 A]])) (m [[vI x],[vI y],[vI (Rs .i64 u35)],[.sl z 38 A]])))))) (Lp (λP B=>iK B 0 λz40=>iK B 1 λc=>sK 38 B 2 λr Q=>aB (decide (z40<c)) (az (bt (c-1)) (az (bt (c-1)) (az (0<=(c-1)/\(c-1)<(r:Int)) (kI c r (kI c r (az (0<=(c-1)/\(c-1)<(r:Int)) (az (bt (c-1)) (P [[vI z40],[vI (c-1)],[.sl r 38 (cQ (cQ Q ((Qr c)*38+0) (el Q 38 (Qr (c-1)))) ((Qr (c-1))*38+0) (eT Q 38 c))]])))))))) (K [[.sl r 38 Q]])) [[vI y],[vI x],[.sl z 38 A]])) [[vI i],[vI H],[vI i],V4]) (az (bt (H+I)) (qk .i64 (vI (H+I)) λu44=>qk .u64 (vK .u64 (Rs .u64 u44)) λu45=>qk .u64 (vK .u64 1) λu46=>az (0<=u46) (qk .u64 (vK .u64 (u45 / 2 ^ min (Qr u46) (Ta .u64))) λu47=>az (bt ((Rs .i64 u47)+i)) (jn (λk48=>(λV2=>(λV5=>aB (decide ((Rs .i64 u47)<i)) (az (bt (((Rs .i64 u47)+i)-I)) (k48 [[vI H],[vI i],[vI I],V2,V5,[vI (((Rs .i64 u47)+i)-I)],V2,V4])) (k48 [[vI H],[vI i],[vI I],V2,V5,[vI H],[vI i],V4])) [vI ((Rs .i64 u47)+i)]) [vI (Rs .i64 u47)]) (λf=>iK f 0 λz50=>iK f 1 λz51=>iK f 2 λz52=>iK f 3 λz53=>iK f 4 λT=>iK f 5 λz55=>iK f 6 λz56=>sK 38 f 7 λn57 c58=>az (bt (T-1)) (Lp (λo e=>iK e 0 λC=>iK e 1 λD=>iK e 2 λE=>iK e 3 λF=>iK e 4 λh=>iK e 5 λd=>iK e 6 λR=>iK e 7 λs=>sK 38 e 8 λj l=>aB (decide (d<R)) (az (bt (d+R)) (qk .i64 (vI (d+R)) λu71=>qk .u64 (vK .u64 (Rs .u64 u71)) λu72=>qk .u64 (vK .u64 1) λu73=>az (0<=u73) (qk .u64 (vK .u64 (u72 / 2 ^ min (Qr u73) (Ta .u64))) λu74=>az (bt (s-(Rs .i64 u74))) (az (0<=(s-(Rs .i64 u74))/\(s-(Rs .i64 u74))<(j:Int)) (az (0<=(Rs .i64 u74)/\(Rs .i64 u74)<(j:Int)) (aA Is s94 [el l 38 (Qr (s-(Rs .i64 u74))),el l 38 (Qr (Rs .i64 u74))] λr75=>iK r75 0 λz76=>aB (!(decide (z76<(0:Int)))) (az (bt ((Rs .i64 u74)+1)) (o [[vI C],[vI D],[vI E],[vI F],[vI h],[vI ((Rs .i64 u74)+1)],[vI R],[vI s],[.sl j 38 l]])) (o [[vI C],[vI D],[vI E],[vI F],[vI h],[vI d],[vI (Rs .i64 u74)],[vI s],[.sl j 38 l]]))))))) (az (bt (h-d)) (jn (λU=>(λV1=>aB (decide (d<D)) (aB (decide (D<(h-d))) (aA Is s249 [[vI d],[vI D],[vI (h-d)],[.sl j 38 l]] λr79=>sK 38 r79 0 λn80 c81=>U [[vI C],[vI E],[vI F],[vI d],[vI (h-d)],[.sl n80 38 c81]]) (U V1)) (U V1)) [[vI C],[vI E],[vI F],[vI d],[vI (h-d)],[.sl j 38 l]]) (λg=>iK g 0 λz82=>iK g 1 λV=>iK g 2 λG=>iK g 3 λW=>iK g 4 λX=>sK 38 g 5 λY Z=>jn (λk89=>(λV3=>aB (decide (z82<W)) (aB (decide (W<G)) (aA Is Dw [[vI z82],[vI W],[vI G],[.sl Y 38 Z]] λr91=>sK 38 r91 0 λn92 c93=>k89 [[vI V],[vI G],[vI X],[.sl n92 38 c93]]) (k89 V3)) (k89 V3)) [[vI V],[vI G],[vI X],[.sl Y 38 Z]]) (λp=>iK p 0 λz94=>iK p 1 λz95=>iK p 2 λz96=>sK 38 p 3 λn97 c98=>(λV6=>aB (decide (z95<z96)) (aB (decide (z96<z94)) (aA Is Dw [[vI z95],[vI z96],[vI z94],V6] λr99=>sK 38 r99 0 λn100 c101=>K [[.sl n100 38 c101]]) (K [V6])) (K [V6])) [.sl n97 38 c98]))))) [[vI z50],[vI z51],[vI z52],[vI z53],[vI T],[vI z55],[vI z56],[vI (T-1)],[.sl n57 38 c58]])))))))))) [.sl n4 38 c5]
theorem w224:Wd (cD [s94,Dw,s249]) ⟨[(3,⟨[hW 0 0,hI 1,(4,.c (.f 94 [])),hI 10,hI 11],[hR 0 70 38]⟩),(9,⟨[hW 0 0,hI 10,hI 13],[hR 0 70 38]⟩),(15,⟨[hW 0 0,hI 2,(4,.c (.f 94 [])),hI 14,hI 15],[hR 0 70 38]⟩),(21,⟨[hW 0 0,hI 14,hI 17],[hR 0 70 38]⟩),(33,⟨[hW 0 0,hI 1,hI 2,hI 3,(4,.c (.f 94 [])),hI 18,hI 19,hI 20,hI 21,hI 22],[hR 0 70 38]⟩)],[(32,⟨[hW 0 0,hI 1,hI 2,hI 3,(4,.c (.f 94 [])),hI 18,hI 19,hI 20,hI 21],[hR 0 70 38]⟩),(41,⟨[hW 0 0,hI 1,hI 3,(4,.c (.f 94 [])),hI 18,hI 20,hI 24],[hR 0 70 38]⟩),(43,⟨[hW 0 0,hI 3,(4,.c (.f 94 [])),hI 18,hI 24],[hR 0 70 38]⟩)],[]⟩ Dw g224:=Wk
def g249:Tx:=λIs a K=>iK a 0 λt=>iK a 1 λi=>iK a 2 λu=>sK 38 a 3 λv w=>az (bt (i-t)) (az (bt (u-i)) (Lp (λe f=>iK f 0 λd=>iK f 1 λc=>iK f 2 λb=>sK 38 f 3 λg h=>aB (!(decide (c=b))) (aB (decide (b<c)) (az (bt (d-c)) (aA Is Kl [[vI (d-c)],[vI d],[vI b],[.sl g 38 h]] λj=>sK 38 j 0 λl m=>az (bt (c-b)) (e [[vI d],[vI (c-b)],[vI b],[.sl l 38 m]]))) (az (bt (d-c)) (az (bt (d+b)) (az (bt ((d+b)-c)) (aA Is Kl [[vI (d-c)],[vI ((d+b)-c)],[vI c],[.sl g 38 h]] λn=>sK 38 n 0 λo p=>az (bt (b-c)) (e [[vI d],[vI c],[vI (b-c)],[.sl o 38 p]])))))) (az (bt (d-c)) (aA Is Kl [[vI (d-c)],[vI d],[vI c],[.sl g 38 h]] λq=>sK 38 q 0 λr s=>K [[.sl r 38 s]]))) [[vI i],[vI (i-t)],[vI (u-i)],[.sl v 38 w]]))
theorem w249:Wd (cD [Kl]) ⟨[(2,⟨[hW 0 0,hI 2,(4,.c (.f 94 [])),hI 10,hI 11],[hR 0 70 38]⟩)],[],[]⟩ s249 g249:=Wk
def g263:Tx:=λ_ a K=>iK a 0 λj=>iK a 1 λl=>iK a 2 λm=>sK 38 a 3 λn o=>Lp (λh d=>iK d 0 λe=>iK d 1 λf=>iK d 2 λi=>iK d 3 λb=>sK 38 d 4 λc g=>aB (decide (b<i)) (az (bt (e+b)) (az (bt (f+b)) (az (bt (f+b)) (az (0<=(f+b)/\(f+b)<(c:Int)) (az (bt (e+b)) (az (0<=(e+b)/\(e+b)<(c:Int)) (az (0<=(e+b)/\(e+b)<(c:Int)) (az (0<=(f+b)/\(f+b)<(c:Int)) (oK b (h [[vI e],[vI f],[vI i],[vI (b+1)],[.sl c 38 (cQ (cQ g ((Qr (e+b))*38+0) (el g 38 (Qr (f+b)))) ((Qr (f+b))*38+0) (el g 38 (Qr (e+b))))]])))))))))) (K [[.sl c 38 g]])) [[vI j],[vI l],[vI m],[vI 0],[.sl n 38 o]]
theorem w263:Wd (cD []) ⟨[(1,⟨[hW 0 0,hI 1,hI 2,hI 3,hI 10],[hR 0 70 38]⟩)],[],[]⟩ Kl g263:=Wk
end Go.Proofs.YtmbboaapillefaaGreatDoor
namespace Xe
open Go
theorem eW{α:Type}{l:List α}{k:Nat}{d:α}(h:k<l.length):l.getD k d=l[k]:=by grind
def Made(ms:List aI)(l:List Int)(ds0:List aq)(k:Nat)(d:aq)(e:Ex)(T T':Int):Prop :=
 ∃c:fB,c.p.al=ms/\cN c.p.ae ds0/\c.l=l/\c.own=k/\c.j3=d.mod/\0<=T/\Mk c d.au (bQ d) T e T'
structure BPn(ms:List aI)(l:List Int)(ds0:List aq)(i:Nat)(ds:List aq)(s:bY):Prop where
 lk:cN ds ds0
 us:0<=s.pos/\s.pos+(ds0.length-i:Nat)*(2*9 ^ 9)<=100000000000/\0<=s.be/\s.be+(ds0.length-i:Nat)*(2*9 ^ 9)<=100000000000
 made:∀k (hk:k<ds.length),k<i->¬bare ds[k]->∃T T',T'<=s.be/\Made ms l ds0 k ds[k] ds[k].body T T'
theorem nC{ms:List aI}{l:List Int}{ds0:List aq}(hb:j8 ⟨ms,ds0⟩ 5)(hn:iU ⟨ms,ds0⟩)(hd8:ds0.length<=8):∀(m i:Nat) (ds:List aq) (s:bY),i+m=ds0.length->BPn ms l ds0 i ds s->BPn ms l ds0 ds0.length (bn ms l m i ds s).1 (bn ms l m i ds s).2
 |0,i,ds,s,h,hp=>by
  rw[bn]
  grind
 |m+1,i,ds,s,h,hp=>by
  have hlen:=hp.lk.len;have hi:i<ds.length:=Q0;have h9:(9:Int) ^ 9=387420489:=Q1;have em:ds0.length-i=m+1:=Q0;have em':ds0.length-(i+1)=m:=Q0;have e1:((m+1:Nat):Int)*(2*9 ^ 9)=m*(2*9 ^ 9)+2*9 ^ 9:=Q0;have hmn:(0:Int)<=m*(2*9 ^ 9):=SX Q0 Q0;have hus:=hp.us;rw[em]at hus;rw[bn,eW hi];split
  .rename_i hbr;refine nC hb hn hd8 m (i+1) ds s Q0 ⟨hp.lk,Q0,λk hk hlt hnb=>?_⟩;by_cases e:k=i
   .grind
   .exact hp.made k hk Q0 hnb
  .rename_i hnb;have hbd:j8 ⟨ms,ds⟩ 5:=hb.mv hp.lk;have hnd:iU ⟨ms,ds⟩:=hn.mv hp.lk;have hu:Us (100000000000-(m*(2*9 ^ 9)+2*9 ^ 9)) ⟨s.pos,s.be,14,0⟩:=by have:(m:Int)*(2*9 ^ 9)<=8*(2*9 ^ 9):=VN Q0 Q0;unfold Us;dsimp only;omega
   obtain⟨hu2,T,hT,hmk⟩:=JH (c:=⟨⟨ms,ds⟩,l,i,ds[i].mod⟩) hbd hnd hi rfl rfl hu Q0;generalize fL ⟨⟨ms,ds⟩,l,i,ds[i].mod⟩ ds[i] ⟨s.pos,s.be,14,0⟩=r at hu2 hmk ⊢;dsimp only at hT;have hlt:=hmk.lt;unfold Us at hu2;refine nC hb hn hd8 m (i+1) _ _ Q0 ⟨hp.lk.set hi _,Q0,λk hk hlt2 hnb'=>?_⟩;by_cases e:k=i
   .subst e;simp only[SP];exact⟨T,r.2.be,RC _,_,rfl,hp.lk,rfl,rfl,rfl,Q0,hmk⟩
   .have hk':k<ds.length:=Q0;have eg:(ds.set i (ds[i].bE r.1))[k]=ds[k]:=by grind
    rw[eg]at hnb' ⊢;obtain⟨T1,T2,h1,h2⟩:=hp.made k hk' Q0 hnb'
    grind
def Qh(ms:List aI)(l:List Int)(ds0:List aq)(N:Nat)(nx0:Int)(k:Nat)(d:aq):Prop :=
 ∃(e:Ex) (T T':Int) (ids:List ar) (nx:Int),Made ms l ds0 k d e T T'/\T'<=N/\ids.length=N/\nx0<=nx/\nx<=100000000000000/\d.body=bZ (bB ids e.post nx) e
structure RPn(ms:List aI)(l:List Int)(ds0:List aq)(N:Nat)(nx0:Int)(i:Nat)(ds:List aq)(ids:List ar)(nx:Int):Prop where
 lk:cN ds ds0
 len:ids.length=N
 nx:nx0<=nx/\nx+(ds0.length-i:Nat)*100000000000<=100000000000000
 old:∀k (hk:k<ds.length),i<=k->¬bare ds[k]->∃(T T':Int),T'<=N/\Made ms l ds0 k ds[k] ds[k].body T T'
 done:∀k (hk:k<ds.length),k<i->¬bare ds[k]->Qh ms l ds0 N nx0 k ds[k]
theorem BD{ms:List aI}{l:List Int}{ds0:List aq}{N:Nat}(hN:N<=100000000000){nx0:Int}:∀(m i:Nat) (ds:List aq) (ids:List ar) (nx:Int),i+m=ds0.length->RPn ms l ds0 N nx0 i ds ids nx->cN (dj m i ds ids nx) ds0/\∀k (hk:k<(dj m i ds ids nx).length),¬bare (dj m i ds ids nx)[k]->Qh ms l ds0 N nx0 k (dj m i ds ids nx)[k]
 |0,i,ds,ids,nx,h,hp=>by
  have hlen:=hp.lk.len;have e:dj 0 i ds ids nx=ds:=by rw[dj]
  rw[e];exact⟨hp.lk,λk hk hnb=>hp.done k hk Q0 hnb⟩
 |m+1,i,ds,ids,nx,h,hp=>by
  have hlen:=hp.lk.len;have hi:i<ds.length:=Q0;have em:ds0.length-i=m+1:=Q0;have em':ds0.length-(i+1)=m:=Q0;have hnx:=hp.nx;rw[em]at hnx;by_cases hbr:bare ds[i]
  .have e:dj (m+1) i ds ids nx=dj m (i+1) ds ids nx:=by rw[dj,eW hi,J2 hbr]
   rw[e];refine BD hN m (i+1) ds ids nx Q0 ⟨hp.lk,hp.len,Q0,λk hk hlt=>hp.old k hk Q0,λk hk hlt hnb=>?_⟩;by_cases e:k=i
   .grind
   .exact hp.done k hk Q0 hnb
  .have e:dj (m+1) i ds ids nx=dj m (i+1) (ds.set i (ds[i].bE (bZ (bB ids ds[i].body.post nx) ds[i].body))) (bB ids ds[i].body.post nx) (nx+ds[i].body.post.length):=by rw[dj,eW hi,J1 hbr]
   rw[e];obtain⟨T,T',hT',hmade⟩:=hp.old i hi (QW _) hbr;have hsz:(ds[i].body.size:Int)<=100000000000:=by obtain⟨c,_,_,_,_,_,h0,hmk⟩:=hmade;have:=hmk.size;omega
   have hpl:=Ex.rR ds[i].body;refine BD hN m (i+1) _ _ _ Q0 ⟨hp.lk.set hi _,by rw[ja];exact hp.len,Q0,λk hk hlt hnb=>?_,λk hk hlt hnb=>?_⟩
   .have hk':k<ds.length:=by grind
    have eg:(ds.set i (ds[i].bE (bZ (bB ids ds[i].body.post nx) ds[i].body)))[k]=ds[k]:=by grind
    rw[eg]at hnb ⊢;exact hp.old k hk' Q0 hnb
   .by_cases e:k=i
    .subst e;simp only[SP];exact⟨ds[k].body,T,T',ids,nx,hmade,hT',hp.len,Q0,Q0,rfl⟩
    .have hk':k<ds.length:=Q0;have eg:(ds.set i (ds[i].bE (bZ (bB ids ds[i].body.post nx) ds[i].body)))[k]=ds[k]:=by grind
     rw[eg]at hnb ⊢;exact hp.done k hk' Q0 hnb
theorem xP(l:List Int):0<=gY l/\gY l<=100:=by
 have hn:1<=ax l/\ax l<=2:=by rcases dq l with h|h <;> omega
 have hok:=jA (l:=l) hn.1;have hlen:=eB l (ax l);have ht:dJ (cA l)<=3*(cA l).length:=by
  have key:∀ps:List aN,(∀p∈ps,p.types.length<=3)->dJ ps<=3*ps.length:=λps=>by
   induction ps with
   |nil=>intro _;simp[dJ]
   |cons p ps ih=>intro h;have h1:=h p (Qt ..);have h2:=ih λq hq=>h q (Qx _ hq);rw[mh,QG];omega
  exact key _ λp hp=>(hok p hp).t3
 unfold gY cA at *;omega
theorem dv(l:List Int):∃N:Nat,N<=100000000000/\cN (aL l).ae (aV l)/\∀k (hk:k<(aL l).ae.length),¬bare (aL l).ae[k]->Qh (bO l) l (aV l) N (gY l) k (aL l).ae[k]:=by
 have hb:=A3 l;have hn:=ue l;have hl8:(aV l).length<=8:=by unfold aV;rw[cE];exact(eB l (ax l)).2
 have h9:(9:Int) ^ 9=387420489:=Q1;have hB:=nC (l:=l) hb hn hl8 (aV l).length 0 (aV l) ⟨24,0,0,0⟩ Q0 ⟨cN.refl _,by grind,λk _ h=>J3 h (RP _)⟩;obtain⟨hlk,hus,hmk⟩:=hB;have hnx:=xP l;have hmm:(0:Int)<=((aV l).length-(aV l).length:Nat)*(2*9 ^ 9):=SX Q0 Q0;have hlen:(eH l).1.length=(aV l).length:=hlk.len;refine⟨(eH l).2.be.toNat,by unfold eH;omega,?_⟩;have ht:((eH l).2.be.toNat:Int)=(eH l).2.be:=by unfold eH;omega
 have hR:=BD (ms:=bO l) (l:=l) (ds0:=aV l) (N:=(eH l).2.be.toNat) (by unfold eH;omega) (nx0:=gY l) (aV l).length 0 (eH l).1 (QY (eH l).2.be.toNat ki) (gY l) Q0
  ⟨hlk,Q2,Q0,λk hk _ hnb=>by
   obtain⟨T,T',h1,h2⟩:=hmk k hk Q0 hnb
   exact⟨T,T',by rw[ht];exact h1,h2⟩,λk _ h=>J3 h (RP _)⟩
 exact hR
mutual
def iP(q:ar->Prop):Ex->Prop
 |.mk _ k _ r _ l _=>(k=3->q r)/\fz q l
def fz(q:ar->Prop):List Ex->Prop
 |[]=>True
 |e::es=>iP q e/\fz q es
end
theorem vi(q:ar->Prop):∀l:List Ex,fz q l↔∀e∈l,iP q e
 |[]=>by rw[fz];simp
 |e::es=>by rw[fz,vi q es];simp
theorem vj{q q':ar->Prop}(h:∀r,q r->q' r):∀e:Ex,iP q e->iP q' e
 |.mk i k n r t l s,hc=>by rw[iP]at hc ⊢;exact⟨λhk=>h _ (hc.1 hk),go l hc.2⟩
 where go:∀l:List Ex,fz q l->fz q' l
 |[],_=>by rw[fz];trivial
 |e::es,hc=>by rw[fz]at hc ⊢;exact⟨vj h e hc.1,go es hc.2⟩
theorem yC{q:ar->Prop}(ids:List ar):∀e:Ex,iP q e->iP q (bZ ids e)
 |.mk i k n r t l s,hc=>by
  rw[iP]at hc;rw[bZ,iP];refine⟨λhk=>?_,go l hc.2⟩;unfold jY
  grind
 where go:∀l:List Ex,fz q l->fz q (iq ids l)
 |[],_=>by rw[iq,fz];trivial
 |e::es,hc=>by rw[fz]at hc;rw[iq,fz];exact⟨yC ids e hc.1,go es hc.2⟩
theorem bX{q:ar->Prop}{k n:Int}{l:List Ex}{T:ar}{r:ar}{u:Ty}{ns:List ByteArray}(hk:k=3->q r)(hl:∀e∈l,iP q e):iP q (.mk T k n r u l ns):=by rw[iP];exact⟨hk,(vi q l).2 hl⟩
def Qe(ds:List aq)(j:Int)(r:ar):Prop:=∃k,∃h:k<ds.length,(k:Int)<j/\ds[k].id=r/\ds[k].kind=2
theorem Mk.calls{c:fB}{t:Ty}{env:List cd}{T T':Int}{e:Ex}(h:Mk c t env T e T'):iP (Qe c.p.ae c.own) e:=by
 induction h with
 |int _=>exact bX (k:=0) (l:=[]) (λh=>J3 h Q1) (λ_ h=>by cases h)
 |bool _=>exact bX (k:=1) (l:=[]) (λh=>J3 h Q1) (λ_ h=>by cases h)
 |var _=>exact bX (k:=2) (l:=[]) (λh=>J3 h Q1) (λ_ h=>by cases h)
 |@qT env T kids Ts _ h0 _ ih=>refine bX (k:=11) (l:=kids) (λh=>J3 h Q1) λx hx=>?_;obtain⟨i,hi,rfl⟩:=QO.1 hx;exact ih i hi
 |@oJ env T T1 d k e _ _ _ hm ih=>refine bX (k:=9) (l:=[e]) (λh=>J3 h Q1) λx hx=>?_;rw[QI.1 hx];exact ih
 |@rM env T d kids _ _ Ts _ h0 hm ih=>refine bX (k:=7) (l:=kids) (λh=>J3 h Q1) λx hx=>?_;obtain⟨i,hi,rfl⟩:=QO.1 hx;exact ih i hi
 |@len env T T1 a hm ih=>refine bX (k:=4) (l:=[a]) (λh=>J3 h Q1) λx hx=>?_;rw[QI.1 hx];exact ih
 |@not env T T1 a hm ih=>refine bX (k:=4) (l:=[a]) (λh=>J3 h Q1) λx hx=>?_;rw[QI.1 hx];exact ih
 |@tj t u env T T1 T2 n a b _ ha hb ih1 ih2 =>
  refine bX (k:=4) (l:=[a,b]) (λh=>J3 h Q1) λx hx=>?_;simp only[Qz,Rp,or_false]at hx;rcases hx with rfl|rfl
  .exact ih1
  .exact ih2
 |@Jh t env T T1 T2 T3 a b e ha hb he ih1 ih2 ih3 =>
  refine bX (k:=5) (l:=[a,b,e]) (λh=>J3 h Q1) λx hx=>?_;simp only[Qz,Rp,or_false]at hx;rcases hx with rfl|rfl|rfl
  .exact ih1
  .exact ih2
  .exact ih3
 |@sC t u env T T1 T2 a b m ha hb ih1 ih2 =>
  refine bX (k:=6) (l:=[a,b]) (λh=>J3 h Q1) λx hx=>?_;simp only[Qz,Rp,or_false]at hx;rcases hx with rfl|rfl
  .exact ih1
  .exact ih2
 |@sR t env T T1 T2 T3 a b e m m2 ha hb he ih1 ih2 ih3 =>
  refine bX (k:=12) (l:=[a,b,e]) (λh=>J3 h Q1) λx hx=>?_;simp only[Qz,Rp,or_false]at hx;rcases hx with rfl|rfl|rfl
  .exact ih1
  .exact ih2
  .exact ih3
 |@I0 t env T T1 d a kids ms _ _ Ts _ _ ha h0 hm ih1 ih =>
  refine bX (k:=10) (l:=a::kids) (λh=>J3 h Q1) λx hx=>?_;rcases Qz.1 hx with rfl|hx
  .exact ih1
  .obtain⟨i,hi,rfl⟩:=QO.1 hx;exact ih i hi
 |@field env T T1 d j a _ _ _ hm ih=>refine bX (k:=8) (l:=[a]) (λh=>J3 h Q1) λx hx=>?_;rw[QI.1 hx];exact ih
 |@call env T k kids hd hk hv Ts _ h0 hm ih=>refine bX (k:=3) (l:=kids) (λ_=>⟨k,hd,hv.1,rfl,hk⟩) λx hx=>?_;obtain⟨i,hi,rfl⟩:=QO.1 hx;exact ih i hi
theorem Qe.mv{a b:List aq}(h:cN a b){j:Int}{r:ar}(hp:Qe a j r):Qe b j r:=by
 obtain⟨k,hk,h1,h2,h3⟩:=hp;have hk':k<b.length:=by rw[<-h.len];exact hk
 have hs:=bV (h.get hk hk');exact⟨k,hk',h1,by grind,Q0⟩
theorem tN(ids:List ar):∀e:Ex,(bZ ids e).size=e.size
 |.mk i k n r t l s=>by rw[bZ,Ex.size,Ex.size,go l]
 where go:∀l:List Ex,Ex.aW (iq ids l)=Ex.aW l
 |[]=>by rw[iq]
 |e::es=>by rw[iq,Ex.aW,Ex.aW,tN ids e,go es]
structure CallsP(p:av):Prop where
 nm:iU p
 len:p.ae.length<=8
 calls:∀k (hk:k<p.ae.length),¬bare p.ae[k]->iP (Qe p.ae k) p.ae[k].body/\p.ae[k].body.size<=100000000000
theorem kE(l:List Int):CallsP (aL l):=by
 obtain⟨N,hN,hlk,h⟩:=dv l;have hlen:(aV l).length<=8:=by unfold aV;rw[cE];exact(eB l (ax l)).2
 refine⟨(ue l).mv hlk,by rw[hlk.len];exact hlen,λk hk hnb=>?_⟩;obtain⟨e,T,T',ids,nx,⟨c,_,hcl,_,hco,_,h0,hmk⟩,hT',_,_,_,hbody⟩:=h k hk hnb;rw[hbody,tN];have hc:=hmk.calls;rw[hco]at hc;exact⟨vj (λr hr=>(hr.mv hcl).mv hlk.symm) _ (yC _ _ hc),by have:=hmk.size;omega⟩
abbrev kZ:=List (ar×Int×Ty)
def qi(G:kZ)(r:ar)(n:Int):Option Ty:=(G.find? λx=>decide (x.1=r/\x.2.1=n)).map (·.2.2)
inductive gy(p:av):kZ->Ex->Ty->Prop
 |int {G:kZ} {i r:ar} {n:Int} {t:Ty} {s:List ByteArray}:InR n->gy p G (.mk i 0 n r t [] s) bS
 |bool {G:kZ} {i r:ar} {n:Int} {t:Ty} {s:List ByteArray}:0<=n/\n<=1->gy p G (.mk i 1 n r t [] s) qs
 |var {G:kZ} {i r:ar} {n:Int} {t u:Ty} {s:List ByteArray}:qi G r n=some u->gy p G (.mk i 2 n r t [] s) u
 |qT {G:kZ} {i r:ar} {n:Int} {t:Ty} {s:List ByteArray} {kids:List Ex}:kids.length<=2->(∀j (h:j<kids.length),gy p G kids[j] bS)->gy p G (.mk i 11 n r t kids s) (b8 bS)
 |oJ {G:kZ} {i:ar} {t:Ty} {s:List ByteArray} {d:aq} {k:Nat} {e:Ex} (hd:d∈p.ae) (hk:d.kind=1) (h:k<d.ah.length):gy p G e d.ah[k].ty->gy p G (.mk i 9 k d.id t [e] s) (mm d.id)
 |rM {G:kZ} {i:ar} {n:Int} {t:Ty} {s:List ByteArray} {d:aq} {kids:List Ex} (hd:d∈p.ae) (hk:d.kind=0) (hl:kids.length=d.ah.length):(∀j (h:j<kids.length),gy p G kids[j] (d.ah[j]'Q0).ty)->gy p G (.mk i 7 n d.id t kids s) (mm d.id)
 |len {G:kZ} {i r:ar} {t:Ty} {s:List ByteArray} {a:Ex}:gy p G a (b8 bS)->gy p G (.mk i 4 11 r t [a] s) bS
 |not {G:kZ} {i r:ar} {t:Ty} {s:List ByteArray} {a:Ex}:gy p G a qs->gy p G (.mk i 4 9 r t [a] s) qs
 |tj {G:kZ} {i r:ar} {n:Int} {t u v:Ty} {s:List ByteArray} {a b:Ex}:opTy n u v->gy p G a u->gy p G b u->gy p G (.mk i 4 n r t [a,b] s) v
 |Jh {G:kZ} {i r:ar} {n:Int} {t v:Ty} {s:List ByteArray} {a b e:Ex}:gy p G a qs->gy p G b v->gy p G e v->gy p G (.mk i 5 n r t [a,b,e] s) v
 |sC {G:kZ} {i r:ar} {n:Int} {t u v:Ty} {s:List ByteArray} {a b:Ex}:gy p G a u->gy p ((i,0,u)::G) b v->gy p G (.mk i 6 n r t [a,b] s) v
 |sR {G:kZ} {i r:ar} {n:Int} {t v:Ty} {s:List ByteArray} {a b e:Ex}:gy p G a (b8 bS)->gy p G b v->gy p ((i,1,v)::(i,0,bS)::G) e v->gy p G (.mk i 12 n r t [a,b,e] s) v
 |I0 {G:kZ} {i r:ar} {n:Int} {t v:Ty} {s:List ByteArray} {d:aq} {a:Ex} {kids:List Ex} (hd:d∈p.ae) (hk:d.kind=1) (hl:kids.length=d.ah.length):gy p G a (mm d.id) ->
   (∀j (h:j<kids.length),gy p ((i,(j:Int),(d.ah[j]'Q0).ty)::G) kids[j] v)->gy p G (.mk i 10 n r t (a::kids) s) v
 |field {G:kZ} {i r:ar} {t:Ty} {s:List ByteArray} {d:aq} {j:Nat} {a:Ex} (hd:d∈p.ae) (hk:d.kind=0) (h:j<d.ah.length):gy p G a (mm d.id)->gy p G (.mk i 8 j r t [a] s) d.ah[j].ty
 |call {G:kZ} {i:ar} {n:Int} {t:Ty} {s:List ByteArray} {d:aq} {kids:List Ex} (hd:d∈p.ae) (hk:¬bare d) (hl:kids.length=d.ah.length):(∀j (h:j<kids.length),gy p G kids[j] (d.ah[j]'Q0).ty)->gy p G (.mk i 3 n d.id t kids s) d.au
theorem ok0(p:av):cr p bS:=by unfold cr;exact(jv Q1 Q1).2 ⟨rfl,rfl,.inl rfl⟩
theorem okL(p:av):cr p qs:=by unfold cr;exact(jv Q1 Q1).2 ⟨rfl,rfl,.inr rfl⟩
theorem okList(p:av):cr p (b8 bS):=by unfold cr;exact(mO rfl).2 ⟨rfl,bS,rfl,(jv Q1 Q1).2 ⟨rfl,rfl,.inl rfl⟩⟩
theorem okOf{p:av}{i:ar}(h:lB p i):cr p (mm i):=by unfold cr;exact(uK rfl).2 ⟨h,rfl⟩
def H9(d:aq):kZ:=(d.ah.map λs=>(s.id,(0:Int),s.ty)).reverse
structure TyP(p:av):Prop where
 body:∀d∈p.ae,¬bare d->gy p (H9 d) d.body d.au
 qt:∀d∈p.ae,an p d.id=d
 few:∀d∈p.ae,d.ah.length<=1000
def nO(a b:Int)(l:List Int):Prop:=l.Nodup/\∀x∈l,a<=x/\x<b
theorem nO.nil{a b:Int}:nO a b []:=⟨List.nodup_nil,λx h=>by simp at h⟩
theorem nO.app{a b c:Int}{l m:List Int}(h:nO a b l)(k:nO b c m)(h1:a<=b)(h2:b<=c):nO a c (l++m):=by
 refine⟨R7.2 ⟨h.1,k.1,λx hx y hy e=>?_⟩,λx hx=>?_⟩
 .have:=h.2 x hx;have:=k.2 y hy;omega
 .rcases QK.1 hx with hx|hx
  .have:=h.2 x hx;omega
  .have:=k.2 x hx;omega
theorem nO.one{a:Int}:nO a (a+1) [a]:=⟨Q2,λx h=>by grind⟩
theorem nO.mono{a b c d:Int}{l:List Int}(h:nO b c l)(h1:a<=b)(h2:c<=d):nO a d l:=⟨h.1,λx hx=>by have:=h.2 x hx;omega⟩
theorem zW{Ts:Nat->Int}:∀(l:List Ex) (k:Nat),(∀i (h:i<l.length),nO (Ts (k+i)) (Ts (k+i+1)) l[i].post/\Ts (k+i)<Ts (k+i+1))->nO (Ts k) (Ts (k+l.length)) (Ex.cP l)/\Ts k<=Ts (k+l.length)
 |[],k,_=>by rw[Ex.cP];exact⟨nO.nil,Q2⟩
 |e::es,k,h=>by
  have h0:=h 0 Q2;have h1:=zW es (k+1) λi hi=>by have:=h (i+1) (by grind);rw[show k+1+i=k+(i+1) by omega];simpa using this
  simp only[UL,RY]at h0;rw[Ex.cP,QG,show k+(es.length+1)=k+1+es.length by omega];exact⟨h0.1.app h1.1 Q0 h1.2,Q0⟩
theorem Mk.cP{c:fB}{t:Ty}{env:List cd}{T T':Int}{e:Ex}(h:Mk c t env T e T'):nO T T' e.post:=by
 have row:∀{l:List Ex} {Ts:Nat->Int},(∀i (h:i<l.length),nO (Ts i) (Ts (i+1)) l[i].post/\Ts i<Ts (i+1))->nO (Ts 0) (Ts l.length) (Ex.cP l)/\Ts 0<=Ts l.length:=fun{l Ts} h=>by
  have:=zW (Ts:=Ts) l 0 λi hi=>by grind
  grind
 induction h with
 |int _=>exact nO.one
 |bool _=>exact nO.one
 |var _=>exact nO.one
 |@qT env T kids Ts _ h0 hm ih=>have:=row λi hi=>⟨ih i hi,(hm i hi).lt⟩;rw[Ex.eP,<-h0];exact this.1.app nO.one this.2 Q0
 |@oJ env T T1 d k e _ _ _ hm ih=>rw[Ex.eP];have:=hm.lt;show nO _ _ (e.post++[]++[T1]);rw[QF];exact ih.app nO.one Q0 Q0
 |@rM env T d kids _ _ Ts _ h0 hm ih=>have:=row λi hi=>⟨ih i hi,(hm i hi).lt⟩;rw[Ex.eP,<-h0];exact this.1.app nO.one this.2 Q0
 |@len env T T1 a hm ih=>rw[Ex.eP];have:=hm.lt;show nO _ _ (a.post++[]++[T1]);rw[QF];exact ih.app nO.one Q0 Q0
 |@not env T T1 a hm ih=>rw[Ex.eP];have:=hm.lt;show nO _ _ (a.post++[]++[T1]);rw[QF];exact ih.app nO.one Q0 Q0
 |@tj t u env T T1 T2 n a b _ ha hb ih1 ih2=>rw[Ex.eP];have:=ha.lt;have:=hb.lt;show nO _ _ (a.post++(b.post++[])++[T2]);rw[QF];exact(ih1.app ih2 Q0 Q0).app nO.one Q0 Q0
 |@Jh t env T T1 T2 T3 a b e ha hb he ih1 ih2 ih3=>rw[Ex.eP];have:=ha.lt;have:=hb.lt;have:=he.lt;show nO _ _ (a.post++(b.post++(e.post++[]))++[T3]);rw[QF];exact(ih1.app (ih2.app ih3 Q0 Q0) Q0 Q0).app nO.one Q0 Q0
 |@sC t u env T T1 T2 a b m ha hb ih1 ih2 =>
  rw[Ex.eP];have:=ha.lt;have:=hb.lt;show nO _ _ (a.post++(b.post++[])++[T1]);rw[QF];refine⟨R7.2 ⟨(ih1.app (ih2.mono (show T1<=T1+1 by omega) (RC _)) Q0 Q0).1,Q2,λx hx y hy e=>?_⟩,λx hx=>?_⟩
  .simp only[QI]at hy;rcases QK.1 hx with hx|hx
   .have:=ih1.2 x hx;omega
   .have:=ih2.2 x hx;omega
  .rcases QK.1 hx with hx|hx
   .rcases QK.1 hx with hx|hx
    .have:=ih1.2 x hx;omega
    .have:=ih2.2 x hx;omega
   .simp only[QI]at hx;omega
 |@sR t env T T1 T2 T3 a b e m m2 ha hb he ih1 ih2 ih3 =>
  rw[Ex.eP];have:=ha.lt;have:=hb.lt;have:=he.lt;show nO _ _ (a.post++(b.post++(e.post++[]))++[T2]);rw[QF];refine⟨R7.2 ⟨(ih1.app (ih2.app (ih3.mono (show T2<=T2+1 by omega) (RC _)) Q0 Q0) Q0 Q0).1,Q2,λx hx y hy e=>?_⟩,λx hx=>?_⟩
  .simp only[QI]at hy;rcases QK.1 hx with hx|hx
   .have:=ih1.2 x hx;omega
   .rcases QK.1 hx with hx|hx
    .have:=ih2.2 x hx;omega
    .have:=ih3.2 x hx;omega
  .rcases QK.1 hx with hx|hx
   .rcases QK.1 hx with hx|hx
    .have:=ih1.2 x hx;omega
    .rcases QK.1 hx with hx|hx
     .have:=ih2.2 x hx;omega
     .have:=ih3.2 x hx;omega
   .simp only[QI]at hx;omega
 |@I0 t env T T1 d a kids ms _ _ Ts _ _ ha h0 hm ih1 ih =>
  rw[Ex.eP];have hr:=row λi hi=>⟨ih i hi,(hm i hi).lt⟩;rw[h0]at hr;have:=ha.lt;show nO _ _ (a.post++Ex.cP kids++[T1]);refine⟨R7.2 ⟨(ih1.app (hr.1.mono (show T1<=T1+1 by omega) (RC _)) Q0 Q0).1,Q2,λx hx y hy e=>?_⟩,λx hx=>?_⟩
  .simp only[QI]at hy;rcases QK.1 hx with hx|hx
   .have:=ih1.2 x hx;omega
   .have:=hr.1.2 x hx;omega
  .rcases QK.1 hx with hx|hx
   .rcases QK.1 hx with hx|hx
    .have:=ih1.2 x hx;omega
    .have:=hr.1.2 x hx;omega
   .simp only[QI]at hx;omega
 |@field env T T1 d j a _ _ _ hm ih=>rw[Ex.eP];have:=hm.lt;show nO _ _ (a.post++[]++[T1]);rw[QF];exact ih.app nO.one Q0 Q0
 |@call env T k kids _ _ _ Ts _ h0 hm ih=>have:=row λi hi=>⟨ih i hi,(hm i hi).lt⟩;rw[Ex.eP,<-h0];exact this.1.app nO.one this.2 Q0
theorem rP:∀{ks:List Int} {ids:List ar} {nx x:Int},0<=x->(∀k∈ks,0<=k)->x ∉ ks->iH (bB ids ks nx) x=iH ids x
 |[],ids,nx,x,_,_,_=>by rw[bB]
 |k::ks,ids,nx,x,h0,hk,hx=>by
  have hk0:=hk k (Qt ..);have hne:x≠k:=λe=>hx (by grind);rw[bB,rP h0 (λj hj=>hk j (Qx _ hj)) (λh=>hx (Qx _ h))];unfold iH
  grind
theorem kD:∀{ks:List Int} {ids:List ar} {nx:Int},(∀k∈ks,0<=k/\k<ids.length)->ks.Nodup->∀j (h:j<ks.length),iH (bB ids ks nx) ks[j]=fw (nx+j)
 |k::ks,ids,nx,hk,hn,0,_=>by
  have hk0:=hk k (Qt ..);have hn:=Rw.1 hn;rw[UL,bB,rP hk0.1 (λj hj=>(hk j (Qx _ hj)).1) hn.1];unfold iH
  grind
 |k::ks,ids,nx,hk,hn,j+1,h=>by
  have hn:=Rw.1 hn;rw[List.getElem_cons_succ,bB,kD (λi hi=>by grind) hn.2 j (by grind)]
  grind
theorem Gc{ks:List Int}{ids:List ar}{nx:Int}(hk:∀k∈ks,0<=k/\k<ids.length)(hn:ks.Nodup)(h0:0<=nx){x y:Int}(hx:x∈ks)(hy:y∈ks)(h:iH (bB ids ks nx) x=iH (bB ids ks nx) y):x=y:=by
 obtain⟨i,hi,rfl⟩:=QO.1 hx;obtain⟨j,hj,rfl⟩:=QO.1 hy;rw[kD hk hn i hi,kD hk hn j hj]at h;have:i=j:=by
  by_cases e:(nx+i:Int)=nx+j
  .omega
  .exact J3 h (qV Q0 Q0 e)
 subst this;rfl
def sg(ids:List ar)(i:ar):ar:=if i.seq=0 then iH ids i.index else i
def gOf(ids:List ar)(env:List cd):kZ:=(env.map λb=>(sg ids b.id,b.n,b.ty)).reverse
theorem sQ(ids:List ar)(env:List cd)(b:cd):gOf ids (env++[b])=(sg ids b.id,b.n,b.ty)::gOf ids env:=by unfold gOf;simp
structure Nm(ids:List ar)(S:List Int)(Q:ar->Prop):Prop where
 inj:∀x y,x∈S->y∈S->iH ids x=iH ids y->x=y
 sep:∀x∈S,∀q,Q q->q≠iH ids x
structure zq(ids:List ar)(S:List Int)(Q:ar->Prop)(env:List cd)(T:Int):Prop where
 is:∀b∈env,(b.id.seq=0/\b.id.index∈S/\b.id.index<T)\/(b.id.seq≠0/\Q b.id)
 look:∀b∈env,qi (gOf ids env) (sg ids b.id) b.n=some b.ty
variable {ids:List ar} {S:List Int} {Q:ar->Prop} {env:List cd} {T T1:Int}
theorem zq.mono(h:zq ids S Q env T)(hT:T<=T1):zq ids S Q env T1:=⟨λb hb=>(h.is b hb).imp (λk=>⟨k.1,k.2.1,Q0⟩) id,h.look⟩
theorem zq.fresh(h:zq ids S Q env T)(hn:Nm ids S Q)(hT:T<=T1)(hS:T1∈S):∀b∈env,sg ids b.id≠iH ids T1:=λb hb e=>by
 unfold sg at e;rcases h.is b hb with⟨h1,h2,h3⟩|⟨h1,h2⟩
 .rw[J2 h1]at e;have:=hn.inj _ _ h2 hS e;omega
 .rw[J1 h1]at e;exact hn.sep _ hS _ h2 e
theorem zq.add(h:zq ids S Q env T){k:Int}{u:Ty}{T2:Int}(hT:T<=T2)(hS:T1∈S)(h2:T1<T2)(hne:∀b∈env,¬(sg ids b.id=iH ids T1/\b.n=k)):zq ids S Q (env++[⟨⟨0,0,T1⟩,k,u⟩]) T2:=by
 refine⟨λb hb=>?_,λb hb=>?_⟩
 .rcases QK.1 hb with hb|hb
  .exact(h.mono hT).is b hb
  all_goals grind
 .rw[sQ];have e:sg ids (⟨⟨0,0,T1⟩,k,u⟩:cd).id=iH ids T1:=rfl;rcases QK.1 hb with hb|hb
  .unfold qi;have hc:¬(sg ids (⟨⟨0,0,T1⟩,k,u⟩:cd).id=sg ids b.id/\k=b.n):=λhc=>hne b hb ⟨hc.1.symm.trans e,hc.2.symm⟩;rw[List.find?_cons,J6 hc];exact h.look b hb
  .simp only[QI]at hb;subst hb;unfold qi
   grind
end Xe
namespace Xe
open Go
theorem rL{ids:List ar}{k:Int}{r:ar}(h:k≠2):jY ids k r=r:=by unfold jY;rw[J1 (λc=>h c.1)]
theorem Ky(ids:List ar)(r:ar):jY ids 2 r=sg ids r:=by
 unfold jY sg
 grind
theorem gJ(ids:List ar)(i:ar)(k n:Int)(r:ar)(t:Ty)(l:List Ex)(s:List ByteArray):bZ ids (.mk i k n r t l s)=.mk (iH ids i.index) k n (jY ids k r) t (l.map (bZ ids)) s:=by rw[bZ,rJ]
theorem zX:∀{l:List Ex} {e:Ex} {x:Int},e∈l->x∈e.post->x∈Ex.cP l
 |a::l,e,x,he,hx=>by
  rw[Ex.cP];rcases Qz.1 he with rfl|he
  .grind
  .exact List.mem_append_right _ (zX he hx)
theorem cC{e k:Ex}{x:Int}(hk:k∈e.kids)(hx:x∈k.post):x∈e.post:=by rw[Ex.eP];exact List.mem_append_left _ (zX hk hx)
theorem xG(e:Ex):e.id.index∈e.post:=by rw[Ex.eP];simp
theorem oH{a:List aq}{p:av}(hl:cN a p.ae){d:aq}(hd:d∈a):∃d'∈p.ae,d.id=d'.id/\d.kind=d'.kind/\d.ah=d'.ah/\d.au=d'.au:=by
 obtain⟨e,he,hs⟩:=hl.mem hd;have:=bV hs
 grind
theorem Mk.wty{c:fB}{p:av}(hl:cN c.p.ae p.ae){ids:List ar}{S:List Int}{Q:ar->Prop}(hn:Nm ids S Q){t:Ty}{env:List cd}{T T':Int}{e:Ex}(h:Mk c t env T e T'):(∀x∈e.post,x∈S)->zq ids S Q env T->gy p (gOf ids env) (bZ ids e) t:=by
 induction h with
 |int hi=>intro _ _;rw[dw,gJ];exact gy.int hi
 |bool hi=>intro _ _;rw[dw,gJ];exact gy.bool hi
 |@var env T b hb=>intro _ hE;show gy _ _ (bZ ids (.mk _ 2 _ _ _ [] _)) _;rw[gJ,Ky];exact gy.var (hE.look b hb)
 |@qT env T kids Ts hk h0 hm ih =>
  intro hS hE;show gy _ _ (bZ ids (.mk _ 11 _ _ _ kids _)) _;rw[gJ];refine gy.qT (by grind) λj hj=>?_;rw[QS]at hj;rw[RG];refine ih j hj (λx hx=>hS x (cC (e:=.mk _ 11 _ _ _ kids _) (QB hj) hx)) (hE.mono ?_)
  .rw[<-h0];exact(dQ (Ts:=Ts) _ (λi hi=>(hm i hi).lt) j Q0).1
 |@oJ env T T1 d k e hd hk hlt hm ih=>intro hS hE;obtain⟨d',hd',e1,e2,e3,e4⟩:=oH hl hd;show gy _ _ (bZ ids (.mk _ 9 _ _ _ [e] _)) _;rw[gJ,rL Q1,e1];refine gy.oJ hd' Q0 (by grind) ?_;simp only[<-e3];exact ih (λx hx=>hS x (cC (k:=e) (Qt ..) hx)) hE
 |@rM env T d kids hd hk Ts hkl h0 hm ih=>intro hS hE;obtain⟨d',hd',e1,e2,e3,e4⟩:=oH hl hd;show gy _ _ (bZ ids (.mk _ 7 _ _ _ kids _)) _;rw[gJ,rL Q1,e1];refine gy.rM hd' Q0 (by grind) λj hj=>?_;rw[QS]at hj;rw[RG];simp only[<-e3];refine ih j hj (λx hx=>hS x (cC (e:=.mk _ 7 _ _ _ kids _) (QB hj) hx)) (hE.mono ?_);rw[<-h0];exact(dQ (Ts:=Ts) _ (λi hi=>(hm i hi).lt) j Q0).1
 |@len env T T1 a hm ih=>intro hS hE;show gy _ _ (bZ ids (.mk _ 4 _ _ _ [a] _)) _;rw[gJ];exact gy.len (ih (λx hx=>hS x (cC (k:=a) (Qt ..) hx)) hE)
 |@not env T T1 a hm ih=>intro hS hE;show gy _ _ (bZ ids (.mk _ 4 _ _ _ [a] _)) _;rw[gJ];exact gy.not (ih (λx hx=>hS x (cC (k:=a) (Qt ..) hx)) hE)
 |@tj t u env T T1 T2 n a b ho ha hb ih1 ih2=>intro hS hE;show gy _ _ (bZ ids (.mk _ 4 _ _ _ [a,b] _)) _;rw[gJ];exact gy.tj ho (ih1 (λx hx=>hS x (cC (k:=a) (by simp[dw,Ex.kids]) hx)) hE) (ih2 (λx hx=>hS x (cC (k:=b) (by simp[dw,Ex.kids]) hx)) (hE.mono (by have:=ha.lt;omega)))
 |@Jh t env T T1 T2 T3 a b e ha hb he ih1 ih2 ih3=>intro hS hE;have:=ha.lt;have:=hb.lt;show gy _ _ (bZ ids (.mk _ 5 _ _ _ [a,b,e] _)) _;rw[gJ];exact gy.Jh (ih1 (λx hx=>hS x (cC (k:=a) (by simp[dw,Ex.kids]) hx)) hE) (ih2 (λx hx=>hS x (cC (k:=b) (by simp[dw,Ex.kids]) hx)) (hE.mono Q0)) (ih3 (λx hx=>hS x (cC (k:=e) (by simp[dw,Ex.kids]) hx)) (hE.mono Q0))
 |@sC t u env T T1 T2 a b m ha hb ih1 ih2=>intro hS hE;have:=ha.lt;have hT1:T1∈S:=hS T1 (xG ((dw 6 0 [] T1).dD [a,b] [m]));show gy _ _ (bZ ids (.mk ⟨0,0,T1⟩ 6 _ _ _ [a,b] _)) _;rw[gJ];have h2:=ih2 (λx hx=>hS x (cC (k:=b) (by simp[dw,Ex.dD,Ex.kids]) hx)) (hE.add Q0 hT1 Q0 λb hb hc=>hE.fresh hn Q0 hT1 b hb hc.1);rw[sQ]at h2;exact gy.sC (ih1 (λx hx=>hS x (cC (k:=a) (by simp[dw,Ex.dD,Ex.kids]) hx)) hE) h2
 |@sR t env T T1 T2 T3 a b e m m2 ha hb he ih1 ih2 ih3 =>
  intro hS hE;have:=ha.lt;have:=hb.lt;have hT2:T2∈S:=hS T2 (xG ((dw 12 0 [] T2).dD [a,b,e] [m,m2]));show gy _ _ (bZ ids (.mk ⟨0,0,T2⟩ 12 _ _ _ [a,b,e] _)) _;rw[gJ];have hf:=hE.fresh hn (show T<=T2 by omega) hT2;have hE1:=hE.add (k:=0) (u:=bS) (show T<=T2+1 by omega) hT2 Q0 λb hb hc=>hf b hb hc.1;have hE2:=hE1.add (k:=1) (u:=t) (show T2+1<=T2+1 by omega) hT2 Q0 λb hb hc=>by
   grind
  have h3:=ih3 (λx hx=>hS x (cC (k:=e) (by simp[dw,Ex.dD,Ex.kids]) hx)) hE2;rw[sQ,sQ]at h3;exact gy.sR (ih1 (λx hx=>hS x (cC (k:=a) (by simp[dw,Ex.dD,Ex.kids]) hx)) hE) (ih2 (λx hx=>hS x (cC (k:=b) (by simp[dw,Ex.dD,Ex.kids]) hx)) (hE.mono Q0)) h3
 |@I0 t env T T1 d a kids ms hd hk Ts hkl hml ha h0 hm ih1 ih=>intro hS hE;obtain⟨d',hd',e1,e2,e3,e4⟩:=oH hl hd;have:=ha.lt;have hT1:T1∈S:=hS T1 (xG (((dw 10 0 [] T1).dH d.id).dD (a::kids) ms));show gy _ _ (bZ ids (.mk ⟨0,0,T1⟩ 10 _ _ _ (a::kids) _)) _;rw[gJ,QT];refine gy.I0 hd' Q0 (by grind) (by rw[<-e1];exact ih1 (λx hx=>hS x (cC (k:=a) (Qt ..) hx)) hE) λj hj=>?_;rw[QS]at hj;rw[RG];simp only[<-e3];have hstep:=(dQ (Ts:=Ts) _ (λi hi=>(hm i hi).lt) j Q0).1;have h2:=ih j hj (λx hx=>hS x (cC (e:=((dw 10 0 [] T1).dH d.id).dD (a::kids) ms) (Qx _ (QB hj)) hx)) (hE.add Q0 hT1 Q0 λb hb hc=>hE.fresh hn Q0 hT1 b hb hc.1);rw[sQ]at h2;exact h2
 |@field env T T1 d j a hd hk hlt hm ih=>intro hS hE;obtain⟨d',hd',e1,e2,e3,e4⟩:=oH hl hd;show gy _ _ (bZ ids (.mk _ 8 _ _ _ [a] _)) _;rw[gJ];have:=gy.field (i:=iH ids T1) (r:=jY ids 8 d.id) (t:=bS) (s:=[]) hd' Q0 (show j<d'.ah.length by grind) (by rw[<-e1];exact ih (λx hx=>hS x (cC (k:=a) (Qt ..) hx)) hE);simp only[<-e3]at this;exact this
 |@call env T k kids hd hk hv Ts hkl h0 hm ih=>intro hS hE;obtain⟨d',hd',e1,e2,e3,e4⟩:=oH hl (QB hd);show gy _ _ (bZ ids (.mk _ 3 _ _ _ kids _)) _;rw[gJ,rL Q1,e1,e4];refine gy.call hd' (by unfold bare;omega) (by grind) λj hj=>?_;rw[QS]at hj;rw[RG];simp only[<-e3];refine ih j hj (λx hx=>hS x (cC (e:=.mk _ 3 _ _ _ kids _) (QB hj) hx)) (hE.mono ?_);rw[<-h0];exact(dQ (Ts:=Ts) _ (λi hi=>(hm i hi).lt) j Q0).1
theorem KM(ps:List aN){j:Nat}(hj:j<ps.length):dJ (ps.take j)+ps[j].types.length<=dJ ps:=by
 have e:ps=ps.take j++(ps[j]::ps.drop (j+1)):=by simp_all
 have:=J4 dJ e;rw[uR,mh]at this;omega
theorem KQ(q:aN)(nx:Int)(k:Nat)(hk:k<(cH q nx).length):(cH q nx)[k].id=fw (nx+k):=by simp[cH]
theorem zK(l:List Int):∀d∈aV l,∃m:Int,0<=m/\m+d.ah.length<=gY l/\∀j (h:j<d.ah.length),d.ah[j].id=fw (m+j):=by
 intro d hd;have hn:1<=ax l:=by rcases dq l with h|h <;> omega
 obtain⟨j,hj,rfl⟩:=QO.1 hd;unfold aV at hj ⊢;rw[cE]at hj;rw[dK _ _ _ hj];refine⟨ax l+(cA l).length+dJ ((cA l).take j),Q0,?_,λk hk=>?_⟩
 .have:=KM (cA l) hj;show _+((cH _ _).length:Int)<=_;rw[cw];unfold gY;omega
 .exact KQ _ _ _ hk
theorem few0(l:List Int):∀d∈aV l,(d.ah.length:Int)<=100:=λd hd=>by obtain⟨m,h0,h1,_⟩:=zK l d hd;have:=xP l;omega
theorem CG{a b:aq}(h:a.kind=b.kind):bare a↔bare b:=by unfold bare;rw[h]
theorem GJ{ids:List ar}{_m:Int}:∀(ss:List aC),(∀s∈ss,s.id.seq≠0)->(∀i j (hi:i<ss.length) (hj:j<ss.length),ss[i].id=ss[j].id->i=j)->∀s∈ss,qi (gOf ids (ss.map λx=>⟨x.id,0,x.ty⟩)) s.id 0=some s.ty:=by
 intro ss hq hi s hs;unfold qi;obtain⟨k,hk,rfl⟩:=QO.1 hs;have hg:gOf ids (ss.map λx=>(⟨x.id,0,x.ty⟩:cd))=(ss.map λx=>(x.id,(0:Int),x.ty)).reverse:=by
  unfold gOf;rw[R3]
  congr 1
  refine TM λx hx=>?_;show(sg ids x.id,(0:Int),x.ty)=_;unfold sg;rw[J1 (hq x hx)]
 rw[hg];have:((ss.map λx=>(x.id,(0:Int),x.ty)).reverse.find? λx=>decide (x.1=ss[k].id/\x.2.1=0))=some (ss[k].id,0,ss[k].ty):=by
  rw[List.find?_eq_some_iff_getElem];refine⟨Q2,ss.length-1-k,Qc,?_,λj hj=>?_⟩
  all_goals grind
 rw[this];rfl
theorem Gf(l:List Int):TyP (aL l):=by
 obtain⟨N,hN,hlk,hnm⟩:=dv l;have hb0:iU (aL l):=(ue l).mv hlk;have hget:∀d∈(aL l).ae,∃e∈aV l,d.ah=e.ah:=λd hd=>by obtain⟨e,he,hs⟩:=hlk.mem hd;exact⟨e,he,(bV hs).2.2.2.2.1⟩
 have hn0:=xP l;refine⟨λd hd hnb=>?_,λd hd=>hb0.qt hd,λd hd=>?_⟩
 .obtain⟨k,hk,rfl⟩:=QO.1 hd;obtain⟨e,T,T',ids,nx,⟨c,hc1,hc2,hc3,hc4,hc5,hT,hmk⟩,hTN,hlen,hnx,hnx2,hbody⟩:=hnm k hk hnb;obtain⟨d0,hd0,hsl⟩:=hget _ hd;obtain⟨m,hm0,hm1,hm2⟩:=zK l d0 hd0;have hseq:=qx l d0 hd0;rw[<-hsl]at hm1 hm2 hseq;generalize(aL l).ae[k]=d at hm1 hm2 hseq hbody hmk hnb;have hp:=hmk.cP;have hks:∀x∈e.post,0<=x/\x<ids.length:=λx hx=>by have:=hp.2 x hx;omega
  have hN':Nm (bB ids e.post nx) e.post (λq=>∃s∈d.ah,s.id=q):=by refine⟨λx y hx hy h=>Gc hks hp.1 Q0 hx hy h,?_⟩;rintro x hx _ ⟨s,hs,rfl⟩ h;obtain⟨j,hj,rfl⟩:=QO.1 hs;obtain⟨i,hi,rfl⟩:=QO.1 hx;rw[kD hks hp.1 i hi,hm2 j hj]at h;exact qV Q0 Q0 Q0 h
  have hinj:∀i j (hi:i<d.ah.length) (hj:j<d.ah.length),d.ah[i].id=d.ah[j].id->i=j:=λi j hi hj h=>by
   rw[hm2 i hi,hm2 j hj]at h;by_cases hij:(m+i:Int)=m+j
   .omega
   .exact J3 h (qV Q0 Q0 hij)
  have hE:zq (bB ids e.post nx) e.post (λq=>∃s∈d.ah,s.id=q) (bQ d) T:=by
   refine⟨λb hb=>?_,λb hb=>?_⟩ <;> obtain⟨s,hs,rfl⟩:=km hb
   .grind
   .have:=GJ (ids:=bB ids e.post nx) (_m:=0) d.ah hseq hinj s hs;show qi _ (sg _ s.id) 0=_;unfold sg;rw[J1 (hseq s hs)];exact this
  have hw:=hmk.wty (p:=aL l) (hc2.trans hlk.symm) hN' (λx hx=>hx) hE;rw[hbody];have hg:gOf (bB ids e.post nx) (bQ d)=H9 d:=by
   unfold gOf bQ H9;rw[R3]
   congr 1
   refine TM λx hx=>?_;show(sg _ x.id,(0:Int),x.ty)=_;unfold sg;rw[J1 (hseq x hx)]
  rw[<-hg];exact hw
 .obtain⟨e,he,hs⟩:=hget d hd;rw[hs];have:=few0 l e he;omega
def gZ(a b:ar):Bool:=decide (a.aD<b.aD\/a.aD=b.aD/\(a.seq<b.seq\/a.seq=b.seq/\a.index<b.index))
theorem jm{a b:ar}:gZ a b=true↔(a.aD<b.aD\/a.aD=b.aD/\(a.seq<b.seq\/a.seq=b.seq/\a.index<b.index)):=decide_eq_true_iff
theorem iF(a:ar):gZ a a=false:=by
 cases h:gZ a a with
 |false=>rfl
 |true=>rw[jm]at h;omega
theorem mn{a b c:ar}(h:gZ a b=true)(k:gZ b c=true):gZ a c=true:=by rw[jm]at *;omega
theorem mq{a b:ar}(h:gZ a b=true):gZ b a=false:=by
 cases k:gZ b a with
 |false=>rfl
 |true=>rw[jm]at *;omega
theorem qS{a b:ar}(h:gZ a b=false)(k:gZ b a=false):a=b:=by
 have h1:¬(a.aD<b.aD\/a.aD=b.aD/\(a.seq<b.seq\/a.seq=b.seq/\a.index<b.index)):=λe=>by rw[<-jm,h]at e;cases e
 have h2:¬(b.aD<a.aD\/b.aD=a.aD/\(b.seq<a.seq\/b.seq=a.seq/\b.index<a.index)):=λe=>by rw[<-jm,k]at e;cases e
 exact ar.ext' Q0 Q0 Q0
theorem np{a b:ar}(h:gZ a b=true):a≠b:=λe=>by rw[e,iF]at h;cases h
theorem sy{a b c:ar}(h:gZ a b=false)(k:gZ b c=false):gZ a c=false:=by
 cases e:gZ a c with
 |false=>rfl
 |true =>
  have h1:¬(a.aD<b.aD\/a.aD=b.aD/\(a.seq<b.seq\/a.seq=b.seq/\a.index<b.index)):=λe=>by rw[<-jm,h]at e;cases e
  have h2:¬(b.aD<c.aD\/b.aD=c.aD/\(b.seq<c.seq\/b.seq=c.seq/\b.index<c.index)):=λe=>by rw[<-jm,k]at e;cases e
  rw[jm]at e;omega
def iS(l:List ar):Prop:=l.Pairwise λa b=>gZ a b=true
theorem G0:∀{a b:List ar},iS a->iS b->(∀x,x∈a↔x∈b)->a=b
 |[],[],_,_,_=>rfl
 |[],y::b,_,_,h=>by have:=(h y).2 (Qt ..);cases this
 |x::a,[],_,_,h=>by have:=(h x).1 (Qt ..);cases this
 |x::a,y::b,ha,hb,h=>by
  have a1:=SO.1 ha;have b1:=SO.1 hb;have e:x=y:=by
   rcases Qz.1 ((h x).1 (Qt ..)) with e|e
   .exact e
   .rcases Qz.1 ((h y).2 (Qt ..)) with e2|e2
    .exact e2.symm
    .have h1:=b1.1 x e;have h2:=a1.1 y e2;rw[mq h1]at h2;cases h2
  subst e;refine J4 (x::·) (G0 a1.2 b1.2 λz=>⟨λhz=>?_,λhz=>?_⟩)
  .rcases Qz.1 ((h z).1 (Qx _ hz)) with e|e
   .have:=a1.1 z hz;rw[e,iF]at this;cases this
   .exact e
  .rcases Qz.1 ((h z).2 (Qx _ hz)) with e|e
   .have:=b1.1 z hz;rw[e,iF]at this;cases this
   .exact e
def CQ(x:ar)(s:List ar×Bool)(y:ar):List ar×Bool :=
 let o:=if s.2=false/\gZ y x=false then(s.1++[x],true) else s
 (if y=x then o.1 else o.1++[y],o.2)
def GV(l:List ar)(x:ar):List ar:=let s:=l.foldl (CQ x) ([],false);if s.2=false then s.1++[x] else s.1
theorem wP{x:ar}:∀{l:List ar} {o:List ar},(∀y∈l,gZ x y=true)->l.foldl (CQ x) (o,true)=(o++l,true)
 |[],o,_=>by simp
 |y::l,o,h=>by
  have h1:=h y (Qt ..);have h2:¬y=x:=λe=>by rw[e,iF]at h1;cases h1
  rw[VT];have e:CQ x (o,true) y=(o++[y],true):=by simp[CQ,h2]
  rw[e,wP λz hz=>h z (Qx _ hz)];simp
theorem Je{x:ar}:∀{l:List ar} {o:List ar},iS l->(∀a∈o,gZ a x=true/\∀b∈l,gZ a b=true)->iS o ->
  iS (let s:=l.foldl (CQ x) (o,false);if s.2=false then s.1++[x] else s.1)/\∀z,z∈(let s:=l.foldl (CQ x) (o,false);if s.2=false then s.1++[x] else s.1)↔(z∈o\/z=x\/z∈l)
 |[],o,_,ho,hi=>by refine⟨?_,λz=>by simp⟩;simp only[List.foldl_nil,if_true];exact SZ.2 ⟨hi,S6 ..,λa ha b hb=>by grind⟩
 |y::l,o,hl,ho,hi=>by
  have l1:=SO.1 hl;rw[VT];cases hyx:gZ y x with
  |true =>
   have hne:=np hyx;have e:CQ x (o,false) y=(o++[y],false):=by simp[CQ,hyx,hne]
   rw[e]
   obtain⟨h1,h2⟩:=Je (x:=x) (l:=l) (o:=o++[y]) l1.2 (λa ha=>by
    rcases QK.1 ha with ha|ha
    .exact⟨(ho a ha).1,λb hb=>(ho a ha).2 b (Qx _ hb)⟩
    .rw[QI.1 ha];exact⟨hyx,l1.1⟩) (SZ.2 ⟨hi,S6 ..,λa ha b hb=>by grind⟩)
   refine⟨h1,λz=>(h2 z).trans ?_⟩;simp only[QK,Qz,Rp,or_false];constructor
   .rintro((h|h)|h|h) <;> simp[h]
   .rintro(h|h|h|h) <;> simp[h]
  |false =>
   have hxo:iS (o++[x]):=SZ.2 ⟨hi,S6 ..,λa ha b hb=>by grind⟩;by_cases hne:y=x
   .subst hne;have e:CQ y (o,false) y=(o++[y],true):=by simp[CQ,hyx]
    rw[e,wP l1.1];simp only[XP,if_false];refine⟨SZ.2 ⟨hxo,l1.2,λa ha b hb=>?_⟩,λz=>?_⟩
    .rcases QK.1 ha with ha|ha
     .exact(ho a ha).2 b (Qx _ hb)
     .rw[QI.1 ha];exact l1.1 b hb
    .simp only[QK,Qz,Rp,or_false];constructor
     .rintro((h|h)|h) <;> simp[h]
     .rintro(h|h|h|h) <;> simp[h]
   .have hxy:gZ x y=true:=by
     cases h:gZ x y with
     |true=>rfl
     |false=>exact J3 (qS hyx h) hne
    have e:CQ x (o,false) y=(o++[x]++[y],true):=by simp[CQ,hyx,hne]
    rw[e,wP λz hz=>mn hxy (l1.1 z hz)];simp only[XP,if_false];refine⟨SZ.2 ⟨SZ.2 ⟨hxo,S6 ..,λa ha b hb=>?_⟩,l1.2,λa ha b hb=>?_⟩,λz=>?_⟩
    .rw[QI.1 hb];rcases QK.1 ha with ha|ha
     .exact(ho a ha).2 y (Qt ..)
     .rw[QI.1 ha];exact hxy
    .rcases QK.1 ha with ha|ha
     .rcases QK.1 ha with ha|ha
      .exact(ho a ha).2 b (Qx _ hb)
      .rw[QI.1 ha];exact mn hxy (l1.1 b hb)
     .rw[QI.1 ha];exact l1.1 b hb
    .simp only[QK,Qz,Rp,or_false];constructor
     .rintro(((h|h)|h)|h) <;> simp[h]
     .rintro(h|h|h|h) <;> simp[h]
theorem insR_ok{l:List ar}{x:ar}(h:iS l):iS (GV l x)/\∀z,z∈GV l x↔(z=x\/z∈l):=by have:=Je (x:=x) (l:=l) (o:=[]) h (λ_ h=>by cases h) SK;refine⟨this.1,λz=>(this.2 z).trans ?_⟩;simp
def jo(l:List ar)(xs:List ar):List ar:=xs.foldl GV l
theorem kN:∀{xs l:List ar},iS l->iS (jo l xs)/\∀z,z∈jo l xs↔(z∈xs\/z∈l)
 |[],l,h=>⟨h,λz=>by simp[jo]⟩
 |x::xs,l,h=>by
  obtain⟨h1,h2⟩:=insR_ok (x:=x) h;obtain⟨h3,h4⟩:=kN (xs:=xs) h1;refine⟨h3,λz=>(h4 z).trans ?_⟩
  grind
def jX(l:List ar):List ar:=l.mergeSort λx y=>!gZ y x
def gP:List ar->List ar
 |[]=>[]
 |[x]=>[x]
 |x::y::l=>if x=y then gP (y::l) else x::gP (y::l)
theorem rC(l:List ar):(jX l).Pairwise (λa b=>gZ b a=false)/\(jX l).Perm l:=by
 refine⟨?_,List.mergeSort_perm l _⟩
 have:=List.pairwise_mergeSort (le:=λx y=>!gZ y x) (λa b c h k=>by
  simp only[Bool.not_eq_true']at *;exact sy k h) (λa b=>by
  cases h:gZ b a with
  |false=>simp
  |true=>simp[mq h]) l
 exact this.imp λh=>by grind
theorem Cn:∀{l:List ar},l.Pairwise (λa b=>gZ b a=false)->iS (gP l)/\∀z,z∈gP l↔z∈l
 |[],_=>⟨SK,λ_=>S4⟩
 |[x],_=>⟨S6 ..,λ_=>S4⟩
 |x::y::l,h=>by
  have h1:=SO.1 h;obtain⟨h2,h3⟩:=Cn (l:=y::l) h1.2;unfold gP;by_cases e:x=y
  .grind
  .rw[J1 e];refine⟨SO.2 ⟨λz hz=>?_,h2⟩,λz=>?_⟩
   .have hz:=(h3 z).1 hz;have hxy:gZ x y=true:=by
     cases k:gZ x y with
     |true=>rfl
     |false=>exact J3 (qS k (h1.1 y (Qt ..))) e
    rcases Qz.1 hz with rfl|hz
    .exact hxy
    .cases k:gZ x z with
     |true=>rfl
     |false=>have h4:=(SO.1 h1.2).1 z hz;have:gZ x y=false:=sy k h4;rw[this]at hxy;cases hxy
   all_goals grind
theorem Kb{l m:List ar}(h:∀z,z∈l↔z∈m):gP (jX l)=jo [] m:=by
 obtain⟨h1,h2⟩:=rC l;obtain⟨h3,h4⟩:=Cn h1;obtain⟨h5,h6⟩:=kN (xs:=m) (l:=[]) SK;refine G0 h3 h5 λz=>?_
 grind
theorem GZ{l:List ar}(f:ar->Bool)(h:iS l):iS (l.filter f):=YZ f h
end Xe
namespace Go.Proofs.YtmbboaapillefaaGreatDoor
open Xe Pm
abbrev dI(l:List ar):D:=.sl l.length 3 (l.flatMap ar.enc)
theorem zj{l:List ar}{k:Nat}(hk:k<l.length){x:ar}(h:x ∉ l.take k)(hx:l[k]≠x):x ∉ l.take (k+1):=by
 rw[Qv hk,QK,QI]
 grind
theorem j6(l:List ar)(x:ar):D.sl (l.length+1) 3 (l.flatMap ar.enc++(x.enc++[]))=dI (l++[x]):=by unfold dI;simp
theorem less_is(a b:ar):IS s161 [a.enc,b.enc] [[vB (gZ a b)]]:=by
 refine w161.is ?_;unfold g161;simp only[aj,aG];have key:∀(q:Prop) [Decidable q],(q↔(a.aD<b.aD\/a.aD=b.aD/\(a.seq<b.seq\/a.seq=b.seq/\a.index<b.index)))->[[vB (decide q)]]=[[vB (gZ a b)]]:=λq _ h=>by unfold gZ;rw[decide_eq_decide.2 h]
 grind
abbrev j5(l:List ByteArray):D:=.sl l.length 1 (l.map bM)
structure eL where
 kind:Int
 n:Int
 ref:ar
 type:Ty
 kids:List ar
 aK:List ByteArray
def eL.enc(x:eL):List D:=[ai x.kind,ai x.n]++(x.ref.enc++(x.type.enc++[dI x.kids,j5 x.aK]))
structure ao where
 id:ar
 kind:Int
 name:ByteArray
 bP:List ar
 n:Int
 um:ar
 bq:Int
 au:Ty
 body:ar
 cg:List ByteArray
 type:Ty
 B6:Int
 node:eL
def ao.enc(x:ao):List D:=x.id.enc++([ai x.kind,bM x.name,dI x.bP,ai x.n]++(x.um.enc++([ai x.bq]++(x.au.enc++(x.body.enc++([j5 x.cg]++(x.type.enc++([ai x.B6]++x.node.enc))))))))
theorem eL.aP(x:eL):x.enc.length=12:=by simp[eL.enc,ar.enc,Ty.aP]
theorem ao.aP(x:ao):x.enc.length=38:=by simp[ao.enc,ar.enc,Ty.aP,eL.aP]
theorem iL(xs:List ao){k:Nat}(hk:k<xs.length):el (xs.flatMap ao.enc) 38 k=xs[k].enc:=dE ao.aP xs hk
theorem yc(l:List ar)(hl:l.length<=1000000000000):IS Dy [[dI l],[dI l]] [[vB true]]:=by
 refine w136.is ?_;unfold g136 dI;simp only[aj,decide_true,Ry];refine aZ l.length (λk=>[[.sl l.length 3 (l.flatMap ar.enc)],[.sl l.length 3 (l.flatMap ar.enc)],[vI (l.length:Int)],[vI (k:Int)]]) (λ_=>True) trivial rfl λk next hi _ hn=>?_
 simp only[aj,aG];refine⟨λh=>?_,λh=>trivial⟩;have hk:k<l.length:=Q0;rw[eK _ hk];simp only[aj,aG];exact⟨Q0,Q0,λ_=>⟨Q4,hn hk trivial⟩,λh=>J3 Q2 h⟩
theorem tg{α:Type}(f:α->D)(l:List α){k:Nat}(hk:k<l.length):cell (el (l.map f) 1 k) 0=f l[k]:=by
 unfold cell el
 grind
theorem wJ(l:List ByteArray)(hl:l.length<=1000000000000):IS Km [[j5 l],[j5 l]] [[vB true]]:=by
 refine w193.is ?_;unfold g193 j5;simp only[aj,decide_true,Ry];refine aZ l.length (λk=>[[.sl l.length 1 (l.map bM)],[.sl l.length 1 (l.map bM)],[vI (l.length:Int)],[vI (k:Int)]]) (λ_=>True) trivial rfl λk next hi _ hn=>?_
 simp only[aj,aG];refine⟨λh=>?_,λh=>trivial⟩;have hk:k<l.length:=Q0;have hc:=tg bM l hk;simp only[hc];exact⟨Q0,Q0,λ_=>⟨Q4,hn hk trivial⟩,λh=>J3 Q2 h⟩
theorem FQ{l:List Ty}(hl:l.length<=1000000000000)(h0:∀t∈l,IS y8 [t.enc,t.enc] [[vB true]]):IS s236 [[.sl l.length 5 (l.flatMap Ty.enc)],[.sl l.length 5 (l.flatMap Ty.enc)]] [[vB true]]:=by
 refine w236.is ?_;unfold g236;simp only[aj,decide_true,Ry];refine aZ l.length (λk=>[[.sl l.length 5 (l.flatMap Ty.enc)],[.sl l.length 5 (l.flatMap Ty.enc)],[vI (l.length:Int)],[vI (k:Int)]]) (λ_=>True) trivial rfl λk next hi _ hn=>?_
 simp only[aj];refine⟨λh=>?_,λh=>trivial⟩;have hk:k<l.length:=Q0;rw[dE Ty.aP _ hk];refine⟨Q0,Q0,aa (h0 _ (QB hk)) ?_⟩;simp only[aj,Ry];exact⟨Q4,hn hk trivial⟩
theorem pc:∀(n:Nat) (t:Ty),t.size<=n->t.size<=1000000000000->IS y8 [t.enc,t.enc] [[vB true]]
 |0,.mk a b l,h,_=>by rw[Ty.size]at h;omega
 |n+1,.mk a b l,h,hb=>by rw[Ty.size]at h hb;have hl:=Ty.l8 l;have hk:=FQ (l:=l) Q0 λt ht=>pc n t (by have:=Ty.jy ht;omega) (by have:=Ty.jy ht;omega);refine w192.is ?_;unfold g192;rw[Ty.aF];simp only[aj,aG,Ty.kind,Ty.df,Ty.kids,forall_const,not_true_eq_false,false_implies,and_true];refine aa hk ?_;simp only[aj]
structure eL.Fit(x:eL):Prop where
 type:x.type.size<=1000000000000
 kids:x.kids.length<=1000000000000
 aK:x.aK.length<=1000000000000
structure ao.Fit(x:ao):Prop where
 bP:x.bP.length<=1000000000000
 au:x.au.size<=1000000000000
 cg:x.cg.length<=1000000000000
 type:x.type.size<=1000000000000
 node:x.node.Fit
theorem Lg{x:eL}(h:x.Fit):IS s194 [x.enc,x.enc] [[vB true]]:=by
 refine w194.is ?_;unfold g194;have h1:sub x.enc 5 5=x.type.enc:=by unfold eL.enc sub ar.enc;simp[Ty.aP]
 have h2:cell x.enc 10=dI x.kids:=by unfold eL.enc cell ar.enc;rw[Ty.aF];rfl
 have h3:cell x.enc 11=j5 x.aK:=by unfold eL.enc cell ar.enc;rw[Ty.aF];rfl
 have h4:cell x.enc 0=ai x.kind/\cell x.enc 1=ai x.n/\sub x.enc 2 3=x.ref.enc:=⟨rfl,rfl,by unfold eL.enc sub ar.enc;simp⟩;simp only[aj,aG,h1,h2,h3,h4,forall_const,not_true_eq_false,false_implies,and_true];refine aa (pc _ _ (QW _) h.type) ?_;simp only[aj];refine aa (yc _ h.kids) ?_;simp only[aj];refine aa (wJ _ h.aK) ?_;simp only[aj]
theorem KJ{x:ao}(h:x.Fit):IS Nf [x.enc,x.enc] [[vB true]]:=by
 refine w141.is ?_;unfold g141;have e0:sub x.enc 0 3=x.id.enc:=rfl;have e1:cell x.enc 3=ai x.kind/\cell x.enc 4=bM x.name/\cell x.enc 5=dI x.bP/\cell x.enc 6=ai x.n/\sub x.enc 7 3=x.um.enc/\cell x.enc 10=ai x.bq:=⟨rfl,rfl,rfl,rfl,rfl,rfl⟩;have e2:sub x.enc 11 5=x.au.enc:=by unfold ao.enc sub ar.enc;simp[Ty.aP]
 have e3:sub x.enc 16 3=x.body.enc:=by unfold ao.enc sub ar.enc;simp[Ty.aF]
 have e4:cell x.enc 19=j5 x.cg:=by unfold ao.enc cell ar.enc;simp[Ty.aF]
 have e5:sub x.enc 20 5=x.type.enc:=by unfold ao.enc sub ar.enc;simp[Ty.aF]
 have e6:cell x.enc 25=ai x.B6:=by unfold ao.enc cell ar.enc;simp[Ty.aF]
 have e7:sub x.enc 26 12=x.node.enc:=by unfold ao.enc sub ar.enc;simp[Ty.aF,Rj (Nat.le_of_eq x.node.aP)]
 simp only[aj,aG,e0,e1,e2,e3,e4,e5,e6,e7,forall_const,not_true_eq_false,false_implies,and_true];unfold bM;simp only[aj,forall_const,not_true_eq_false,false_implies,and_true];refine aa (yc _ h.bP) ?_;simp only[aj];refine aa (pc _ _ (QW _) h.au) ?_;simp only[aj];refine aa (wJ _ h.cg) ?_;simp only[aj];refine aa (pc _ _ (QW _) h.type) ?_;simp only[aj];refine aa (Lg h.node) ?_;simp only[aj]
theorem mod_self{x:aI}(h:x.ae.length<=1000000000000):IS Ni [x.enc,x.enc] [[vB true]]:=by refine w135.is ?_;unfold g135;have e0:sub x.enc 0 3=x.id.enc:=rfl;have e1:cell x.enc 5=dI x.ae:=rfl;simp only[aj,aG,e0,e1,forall_const,not_true_eq_false,false_implies,and_true];refine aa (yc _ h) ?_;simp only[aj]
theorem Kf(x:aC):IS Nh [x.enc,x.enc] [[vB true]]:=by refine w137.is ?_;unfold g137;have e0:sub x.enc 0 3=x.id.enc:=rfl;simp only[aj,aG,e0,and_true,decide_true]
theorem Gl(l:List ao)(hl:l.length<=1000000000000)(h0:∀x∈l,IS Nf [x.enc,x.enc] [[vB true]]):IS s140 [[.sl l.length 38 (l.flatMap ao.enc)],[.sl l.length 38 (l.flatMap ao.enc)]] [[vB true]]:=by
 refine w140.is ?_;unfold g140;simp only[aj,decide_true,Ry];refine aZ l.length (λk=>[[.sl l.length 38 (l.flatMap ao.enc)],[.sl l.length 38 (l.flatMap ao.enc)],[vI (l.length:Int)],[vI (k:Int)]]) (λ_=>True) trivial rfl λk next hi _ hn=>?_
 simp only[aj];refine⟨λh=>?_,λh=>trivial⟩;have hk:k<l.length:=Q0;rw[iL _ hk];refine⟨Q0,Q0,aa (h0 _ (QB hk)) ?_⟩;simp only[aj,Ry];exact⟨Q4,hn hk trivial⟩
theorem Lo(l:List aI)(hl:l.length<=1000000000000)(h0:∀x∈l,IS Ni [x.enc,x.enc] [[vB true]]):IS s142 [[.sl l.length 6 (l.flatMap aI.enc)],[.sl l.length 6 (l.flatMap aI.enc)]] [[vB true]]:=by
 refine w142.is ?_;unfold g142;simp only[aj,decide_true,Ry];refine aZ l.length (λk=>[[.sl l.length 6 (l.flatMap aI.enc)],[.sl l.length 6 (l.flatMap aI.enc)],[vI (l.length:Int)],[vI (k:Int)]]) (λ_=>True) trivial rfl λk next hi _ hn=>?_
 simp only[aj];refine⟨λh=>?_,λh=>trivial⟩;have hk:k<l.length:=Q0;rw[yw _ hk];refine⟨Q0,Q0,aa (h0 _ (QB hk)) ?_⟩;simp only[aj,Ry];exact⟨Q4,hn hk trivial⟩
theorem FW(l:List aC)(hl:l.length<=1000000000000)(h0:∀x∈l,IS Nh [x.enc,x.enc] [[vB true]]):IS s139 [[.sl l.length 11 (l.flatMap aC.enc)],[.sl l.length 11 (l.flatMap aC.enc)]] [[vB true]]:=by
 refine w139.is ?_;unfold g139;simp only[aj,decide_true,Ry];refine aZ l.length (λk=>[[.sl l.length 11 (l.flatMap aC.enc)],[.sl l.length 11 (l.flatMap aC.enc)],[vI (l.length:Int)],[vI (k:Int)]]) (λ_=>True) trivial rfl λk next hi _ hn=>?_
 simp only[aj];refine⟨λh=>?_,λh=>trivial⟩;have hk:k<l.length:=Q0;rw[oU _ hk];refine⟨Q0,Q0,aa (h0 _ (QB hk)) ?_⟩;simp only[aj,Ry];exact⟨Q4,hn hk trivial⟩
theorem PC{x:aq}(h:x.ah.length<=1000000000000):IS Ng [x.enc,x.enc] [[vB true]]:=by refine w138.is ?_;unfold g138;have e0:sub x.enc 0 3=x.id.enc:=rfl;have e1:cell x.enc 8=.sl x.ah.length 11 (x.ah.flatMap aC.enc):=rfl;simp only[aj,aG,e0,e1,forall_const,not_true_eq_false,false_implies,and_true];refine aa (FW _ h λx _=>Kf x) ?_;simp only[aj]
theorem Md(l:List aq)(hl:l.length<=1000000000000)(h0:∀x∈l,IS Ng [x.enc,x.enc] [[vB true]]):IS s143 [[.sl l.length 31 (l.flatMap aq.enc)],[.sl l.length 31 (l.flatMap aq.enc)]] [[vB true]]:=by
 refine w143.is ?_;unfold g143;simp only[aj,decide_true,Ry];refine aZ l.length (λk=>[[.sl l.length 31 (l.flatMap aq.enc)],[.sl l.length 31 (l.flatMap aq.enc)],[vI (l.length:Int)],[vI (k:Int)]]) (λ_=>True) trivial rfl λk next hi _ hn=>?_
 simp only[aj];refine⟨λh=>?_,λh=>trivial⟩;have hk:k<l.length:=Q0;rw[gw _ hk];refine⟨Q0,Q0,aa (h0 _ (QB hk)) ?_⟩;simp only[aj,Ry];exact⟨Q4,hn hk trivial⟩
section
variable {α:Type} {enc:α->List D} {sz:Nat}
theorem je(he:∀x,(enc x).length=sz):∀(R:List α) (i:Nat),(R.flatMap enc).take (i*sz)=(R.take i).flatMap enc
 |[],i=>by simp
 |x::R,0=>by simp
 |x::R,i+1=>by rw[QD,RK,QD,<-je he R i,T4,he,Rj (by grind),show(i+1)*sz-sz=i*sz by grind]
theorem nz(he:∀x,(enc x).length=sz):∀(R:List α) (i:Nat),(R.flatMap enc).drop (i*sz)=(R.drop i).flatMap enc
 |[],i=>by simp
 |x::R,0=>by simp
 |x::R,i+1=>by rw[QD,RS,<-nz he R i,UE,he,List.drop_of_length_le (by grind),Rk,show(i+1)*sz-sz=i*sz by grind]
theorem rr(he:∀x,(enc x).length=sz)(R:List α){i:Nat}(hi:i<R.length)(x:α):cQ (R.flatMap enc) (i*sz) (enc x)=(R.set i x).flatMap enc:=by unfold cQ;rw[je he,he,show i*sz+sz=(i+1)*sz by grind,nz he,U3,J2 hi];simp
end
structure gE:Prop where
 ids:∀l:List ar,l.length<=1000000000000->IS s85 [[dI l]] [[dI l]]
 txt:∀l:List ByteArray,l.length<=1000000000000->IS s87 [[j5 l]] [[j5 l]]
 typ:∀l:List Ty,l.length<=1000000000000->IS s175 [[.sl l.length 5 (l.flatMap Ty.enc)]] [[.sl l.length 5 (l.flatMap Ty.enc)]]
abbrev tyC(t:Ty):List D:=[ai t.kind,ai t.df.aD,ai t.df.seq,ai t.df.index]
abbrev CP(t:Ty):D:=.sl t.kids.length 5 (t.kids.flatMap Ty.enc)
theorem jf(C:gE):∀(n:Nat) (t:Ty),t.size<=n->t.size<=1000000000000->IS Ik [t.enc] [tyC t,[CP t]]
 |0,.mk a b l,h,_=>by rw[Ty.size]at h;omega
 |n+1,.mk a b l,h,hb=>by
  rw[Ty.size]at h hb;have hl:=Ty.l8 l;refine w86.is ?_;unfold g86;rw[Ty.aF];simp only[aj,Ty.kind,Ty.df,Ty.kids];refine aa (C.typ l Q0) ?_;simp only[aj];refine aZ l.length (λk=>[[vI (l.length:Int)],[vI (k:Int)],[ai a,ai b.aD,ai b.seq,ai b.index],[vI 0,vI 0,vI 0,vI 0,.sl 0 5 []],[.sl l.length 5 (l.flatMap Ty.enc)]]) (λ_=>True) trivial rfl λk next hi _ hn=>?_
  simp only[aj];refine⟨λh2=>?_,λh2=>?_⟩
  .have hk:k<l.length:=Q0;have hm:=QB hk;rw[dE Ty.aP _ hk];have hsz:=Ty.jy hm;refine⟨Q0,aa (jf C n l[k] Q0 Q0) ?_⟩;simp only[aj];have hu:cQ (l.flatMap Ty.enc) (k*5+0) ((tyC l[k])++[CP l[k]])=l.flatMap Ty.enc:=by
    have e:(tyC l[k])++[CP l[k]]=(l[k]).enc:=by rw[Ty.aF];rfl
    rw[e,RY,rr Ty.aP _ hk,List.set_getElem_self]
   refine⟨Q0,Q4,?_⟩
   grind
  .rfl
end Go.Proofs.YtmbboaapillefaaGreatDoor
namespace Xe
open Go
theorem stI_cb(x:ar)(s:List ar×Bool)(y:ar):(CQ x s y).1.length+(if(CQ x s y).2=false then 1 else 0)<=s.1.length+(if s.2=false then 1 else 0)+1:=by
 obtain⟨o,b⟩:=s;unfold CQ
 grind
theorem insR_le(l:List ar)(x:ar):(GV l x).length<=l.length+1:=by
 have:∀(l:List ar) (s:List ar×Bool),(l.foldl (CQ x) s).1.length+(if(l.foldl (CQ x) s).2=false then 1 else 0)<=s.1.length+(if s.2=false then 1 else 0)+l.length:=by
  intro l;induction l with
  |nil=>intro s;exact QW _
  |cons y l ih=>intro s;rw[VT];have h1:=ih (CQ x s y);have h2:=stI_cb x s y;simp only[QG];omega
 have h:=this l ([],false);unfold GV
 grind
theorem qU:∀(xs l:List ar),(jo l xs).length<=l.length+xs.length
 |[],l=>by simp[jo]
 |x::xs,l=>by
  have h1:=insR_le l x;have h2:=qU xs (GV l x);have e:jo l (x::xs)=jo (GV l x) xs:=rfl
  grind
mutual
def cR:Ty->List ar
 |.mk k d l=>(if k=3 then[d] else[])++dS l
def dS:List Ty->List ar
 |[]=>[]
 |t::ts=>cR t++dS ts
end
theorem Ln(t:Ty):cR t=(if t.kind=3 then[t.df] else[])++dS t.kids:=by cases t;rw[cR];rfl
theorem uX:∀(l m:List Ty),dS (l++m)=dS l++dS m
 |[],m=>rfl
 |t::l,m=>by rw[Rm,dS,uX l m,dS,QU]
theorem B4{l:List Ty}{k:Nat}(h:k<l.length):dS (l.take (k+1))=dS (l.take k)++cR l[k]:=by rw[Qv h,uX];simp[dS]
mutual
theorem eV:∀t:Ty,(cR t).length<=t.size
 |.mk k d l=>by have:=oC l;rw[cR,QC,Ty.size];split <;> simp <;> omega
theorem oC:∀l:List Ty,(dS l).length<=Ty.aW l
 |[]=>by simp[dS]
 |t::l=>by have:=eV t;have:=oC l;rw[dS,QC,Ty.aW];omega
end
theorem B3(l:List Ty)(k:Nat):(dS (l.take k)).length<=Ty.aW l:=by
 refine SS (oC _) ?_;induction l generalizing k with
 |nil=>simp
 |cons t l ih =>
  cases k with
  |zero=>simp[Ty.aW]
  |succ k=>have:=ih k;simp only[RK,Ty.aW];omega
theorem Ty.M5(t:Ty):t.size=1+Ty.aW t.kids:=by cases t;rw[Ty.size];rfl
theorem Ty.Am:∀{l:List Ty} {t:Ty},t∈l->t.size<=Ty.aW l
 |x::xs,t,h=>by
  rw[Ty.aW];rcases Qz.1 h with rfl|h
  .omega
  .have:=Ty.Am h;omega
def fA(k:Int):Prop:=k=3\/k=7\/k=8\/k=9\/k=10
instance (k:Int):Decidable (fA k):=by unfold fA;exact inferInstance
def DV(e:Ex):List ar:=if fA e.kind then[e.ref] else[]
def ownT(e:Ex):List ar:=if e.kind=11 then cR e.ty else[]
def pZ(e:Ex):List ar:=DV e++ownT e
mutual
def jR:Ex->List ar
 |.mk i k n r t l ns=>pZ (.mk i k n r t l ns)++cY l
def cY:List Ex->List ar
 |[]=>[]
 |e::l=>jR e++cY l
end
mutual
def cL:Ex->List Ex
 |.mk i k n r t l ns=>aY l++[.mk i k n r t l ns]
def aY:List Ex->List Ex
 |[]=>[]
 |e::l=>cL e++aY l
end
mutual
def Ex.wt:Ex->Nat
 |.mk _ _ _ _ t l ns=>1+t.size+ns.length+Ex.fb l
def Ex.fb:List Ex->Nat
 |[]=>0
 |e::l=>Ex.wt e+Ex.fb l
end
theorem Ll(e:Ex):jR e=pZ e++cY e.kids:=by cases e;rw[jR];rfl
theorem lH(e:Ex):cL e=aY e.kids++[e]:=by cases e;rw[cL];rfl
theorem Ex.cT(e:Ex):e.wt=1+e.ty.size+e.aK.length+Ex.fb e.kids:=by cases e;rw[Ex.wt];rfl
theorem uW:∀(l m:List Ex),cY (l++m)=cY l++cY m
 |[],m=>rfl
 |t::l,m=>by rw[Rm,cY,uW l m,cY,QU]
theorem pW:∀(l m:List Ex),aY (l++m)=aY l++aY m
 |[],m=>rfl
 |t::l,m=>by rw[Rm,aY,pW l m,aY,QU]
theorem B2{l:List Ex}{k:Nat}(h:k<l.length):cY (l.take (k+1))=cY (l.take k)++jR l[k]:=by rw[Qv h,uW];simp[cY]
theorem HC{l:List Ex}{k:Nat}(h:k<l.length):aY (l.take (k+1))=aY (l.take k)++cL l[k]:=by rw[Qv h,pW];simp[aY]
theorem Ex.rm:∀(l m:List Ex),Ex.fb (l++m)=Ex.fb l+Ex.fb m
 |[],m=>by simp[Ex.fb]
 |t::l,m=>by have:=Ex.rm l m;simp only[Rm,Ex.fb];omega
theorem Ex.wA(l:List Ex)(k:Nat):Ex.fb (l.take k)<=Ex.fb l:=by
 induction l generalizing k with
 |nil=>simp
 |cons t l ih =>
  cases k with
  |zero=>simp[Ex.fb]
  |succ k=>have:=ih k;simp only[RK,Ex.fb];omega
theorem Ex.wB{l:List Ex}{k:Nat}(h:k<l.length):Ex.fb (l.take (k+1))=Ex.fb (l.take k)+l[k].wt:=by rw[Qv h,Ex.rm];simp[Ex.fb]
theorem Ex.Bk:∀{l:List Ex} {t:Ex},t∈l->t.wt<=Ex.fb l
 |x::xs,t,h=>by
  rw[Ex.fb];rcases Qz.1 h with rfl|h
  .omega
  .have:=Ex.Bk h;omega
theorem xH(e:Ex):(pZ e).length<=1+e.ty.size:=by
 unfold pZ DV ownT;have:=eV e.ty
 grind
mutual
theorem xT:∀e:Ex,(jR e).length<=e.wt
 |.mk i k n r t l ns=>by have:=oB l;have h:(pZ (.mk i k n r t l ns)).length<=1+t.size:=xH _;rw[jR,QC,Ex.wt];omega
theorem oB:∀l:List Ex,(cY l).length<=Ex.fb l
 |[]=>by simp[cY]
 |e::l=>by have:=xT e;have:=oB l;rw[cY,QC,Ex.fb];omega
end
mutual
theorem yO:∀e:Ex,(cL e).length<=e.wt
 |.mk i k n r t l ns=>by have:=uC l;rw[cL,QC,Ex.wt];simp;omega
theorem uC:∀l:List Ex,(aY l).length<=Ex.fb l
 |[]=>by simp[aY]
 |e::l=>by have:=yO e;have:=uC l;rw[aY,QC,Ex.fb];omega
end
mutual
theorem FA:∀e:Ex,((cL e).flatMap pZ).length<=e.wt
 |.mk i k n r t l ns=>by
  have:=Bc l;have h:(pZ (.mk i k n r t l ns)).length<=1+t.size:=xH _;rw[cL,QV,QC,Ex.wt]
  grind
theorem Bc:∀l:List Ex,((aY l).flatMap pZ).length<=Ex.fb l
 |[]=>by simp[aY]
 |e::l=>by have:=FA e;have:=Bc l;rw[aY,QV,QC,Ex.fb];omega
end
mutual
theorem JQ:∀e:Ex,∀x∈cL e,x.wt<=e.wt
 |.mk i k n r t l ns,x,h=>by
  have:=Fz l;rw[cL]at h;rcases QK.1 h with h|h
  .have:=this x h;rw[Ex.cT (.mk i k n r t l ns)];show x.wt<=1+t.size+ns.length+Ex.fb l;omega
  all_goals grind
theorem Fz:∀l:List Ex,∀x∈aY l,x.wt<=Ex.fb l
 |[],x,h=>by cases h
 |e::l,x,h=>by
  rw[aY]at h;rw[Ex.fb];rcases QK.1 h with h|h
  .have:=JQ e x h;omega
  .have:=Fz l x h;omega
end
mutual
theorem Aj:∀(e:Ex) (z:ar),z∈jR e↔z∈(cL e).flatMap pZ
 |.mk i k n r t l ns,z=>by
  rw[jR,cL,QV,QK,QK,xS l z]
  grind
theorem xS:∀(l:List Ex) (z:ar),z∈cY l↔z∈(aY l).flatMap pZ
 |[],z=>by simp[cY,aY]
 |e::l,z=>by rw[cY,aY,QV,QK,QK,Aj e z,xS l z]
end
def lF(k:Int):Prop:=k=2\/k=3\/k=4\/k=5
instance (k:Int):Decidable (lF k):=by unfold lF;exact inferInstance
def kA(l:List aC):List ar:=l.flatMap λs=>cR s.ty
def Ga(d:aq):List ar:=cR d.au++kA d.ah++if lF d.kind then jR d.body else[]
def DN(d:aq):List ar:=cR d.au++kA d.ah++if lF d.kind then(cL d.body).flatMap pZ else[]
def kz:List aC->Nat
 |[]=>0
 |s::l=>1+s.ty.size+kz l
def aq.wt(d:aq):Nat:=d.au.size+kz d.ah+d.body.wt
theorem zM:∀l:List aC,l.length<=kz l
 |[]=>QW _
 |s::l=>by have:=zM l;rw[kz,QG];omega
theorem zL:∀{l:List aC} {s:aC},s∈l->s.ty.size<=kz l
 |x::l,s,h=>by
  rw[kz];rcases Qz.1 h with rfl|h
  .omega
  .have:=zL h;omega
theorem pg:∀l:List aC,(kA l).length<=kz l
 |[]=>QW _
 |s::l=>by have h1:=pg l;have h2:=eV s.ty;have e:kA (s::l)=cR s.ty++kA l:=QD;rw[e,QC,kz];omega
theorem FZ{l:List aC}{k:Nat}(h:k<l.length):kA (l.take (k+1))=kA (l.take k)++cR l[k].ty:=by unfold kA;rw[Qv h,QV];simp
theorem FY(l:List aC)(k:Nat):(kA (l.take k)).length<=kz l:=by
 refine SS (pg _) ?_;induction l generalizing k with
 |nil=>simp
 |cons t l ih =>
  cases k with
  |zero=>simp[kz]
  |succ k=>have:=ih k;simp only[RK,kz];omega
theorem Nu(d:aq):(Ga d).length<=d.wt:=by
 unfold Ga aq.wt;have h1:=eV d.au;have h2:=pg d.ah;have h3:=xT d.body
 grind
theorem Nw(d:aq):(DN d).length<=d.wt:=by
 unfold DN aq.wt;have h1:=eV d.au;have h2:=pg d.ah;have h3:=FA d.body
 grind
theorem Nt(d:aq)(z:ar):z∈Ga d↔z∈DN d:=by
 unfold Ga DN;rw[QK,QK (t:=if lF d.kind then(cL d.body).flatMap pZ else[])];refine or_congr S4 ?_;split
 .exact Aj _ _
 .exact S4
def dT(p:av)(x:ar):Bool:=decide (dy p x)
def aU(p:av)(i:ar):List ar:=if dy p i then(jo [] (DN (an p i))).filter (dT p) else[]
theorem MF{p:av}{i:ar}(h:dy p i):gP (jX ((Ga (an p i)).filter (dT p)))=aU p i:=by unfold aU;rw[J2 h];obtain⟨h1,h2⟩:=rC ((Ga (an p i)).filter (dT p));obtain⟨h3,h4⟩:=Cn h1;obtain⟨h5,h6⟩:=kN (xs:=DN (an p i)) (l:=[]) SK;refine G0 h3 (GZ _ h5) λz=>?_;rw[h4,h2.mem_iff,Rq,Rq,h6,Nt];simp
theorem tt(p:av)(i:ar):(aU p i).length<=(an p i).wt:=by
 unfold aU;split
 .refine SS (Xk _ _) (SS (qU _ _) ?_);simpa using Nw _
 .simp
def iG(l m:List ar):Bool:=decide (∀x∈l,x∈m)
def kS(p:av)(out left:List ar):Option Nat:=left.findIdx? λx=>iG (aU p x) out
def jQ(p:av):Nat->List ar->List ar->List ar×List ar
 |0,out,left=>(out,left)
 |n+1,out,left=>match kS p out left with
  |none=>(out,left)
  |some k=>jQ p n (out++[left.getD k default]) (left.eraseIdx k)
theorem EP{p:av}{out left:List ar}{k:Nat}(h:kS p out left=some k):∃hk:k<left.length,iG (aU p left[k]) out=true/\∀j (hj:j<k),iG (aU p (left[j]'Q0)) out=false:=by
 unfold kS at h;rw[TU]at h
 grind
theorem L4{p:av}{out left:List ar}{k:Nat}(hk:k<left.length)(h1:iG (aU p left[k]) out=true)(h2:∀j (hj:j<k),iG (aU p (left[j]'Q0)) out=false):kS p out left=some k:=by
 unfold kS;rw[TU]
 grind
theorem ER{p:av}{out left:List ar}(h:∀j (hj:j<left.length),iG (aU p left[j]) out=false):kS p out left=none:=by unfold kS;rw[List.findIdx?_eq_none_iff];intro x hx;obtain⟨j,hj,rfl⟩:=QO.1 hx;exact h j hj
theorem DY{p:av}{n:Nat}{out left:List ar}(h:kS p out left=none):jQ p n out left=(out,left):=by
 cases n with
 |zero=>rfl
 |succ n=>rw[jQ,h]
end Xe
namespace Go.Proofs.YtmbboaapillefaaGreatDoor
open Xe Pm
theorem Ex.o7:∀l:List Ex,l.length<=Ex.fb l
 |[]=>by grind
 |e::l=>by have:=Ex.o7 l;have:=Ex.cT e;rw[Ex.fb,QG];omega
def iO(e:Ex):eL:=⟨e.kind,e.n,e.ref,e.ty,e.kids.map Ex.id,e.aK⟩
abbrev exCn(e:Ex):List D:=[ai e.kind,ai e.n,ai e.ref.aD,ai e.ref.seq,ai e.ref.index,ai e.ty.kind,ai e.ty.df.aD,ai e.ty.df.seq,ai e.ty.df.index]
theorem Hi(C:gE)(e:Ex)(hw:e.wt<=1000000000000):IS s91 [e.enc] [exCn e,[CP e.ty],[dI (e.kids.map Ex.id)],[j5 e.aK]]:=by
 have h1:=Ex.cT e;have h2:=Ex.o7 e.kids;refine w91.is ?_;unfold g91;have e1:sub e.enc 8 5=e.ty.enc:=by rw[Ex.aF,Ty.aF];rfl
 have e2:cell e.enc 14=j5 e.aK:=by rw[Ex.aF];rfl
 have e3:cell e.enc 13=.sl e.kids.length 15 (e.kids.flatMap Ex.enc):=by rw[Ex.aF];rfl
 have e4:sub e.enc 5 3=e.ref.enc:=by rw[Ex.aF];rfl
 have e5:cell e.enc 3=ai e.kind/\cell e.enc 4=ai e.n:=by rw[Ex.aF];exact⟨rfl,rfl⟩
 simp only[aj,aG,e1,e2,e3,e4,e5];refine aa (jf C _ _ (QW _) Q0) ?_;simp only[aj];refine aa (C.txt _ Q0) ?_;simp only[aj];refine aZ e.kids.length (λk=>[[.sl e.kids.length 15 (e.kids.flatMap Ex.enc)],[vI (e.kids.length:Int)],[vI (k:Int)],[vI 0,vI 0,vI 0,vI 0,vI 0,vI 0,vI 0,vI 0,vI 0,.sl 0 5 [],.sl 0 3 [],.sl 0 1 []],exCn e,[CP e.ty],[dI ((e.kids.take k).map Ex.id)],[j5 e.aK]]) (λ_=>True) trivial rfl λk next hi _ hn=>?_
 have hln:((e.kids.take k).map Ex.id).length=k:=by grind
 simp only[aj];refine⟨λh=>?_,λh=>?_⟩
 .have hk:k<e.kids.length:=Q0;rw[yx _ hk];refine⟨Q0,Qa,Q4,?_⟩;have h3:=hn hk trivial;have e6:sub (e.kids[k]).enc 0 3=(e.kids[k]).id.enc:=by rw[Ex.aF];rfl
  rw[Qv hk,Rb,QT,R5,<-j6]at h3;rw[e6];exact h3
 all_goals grind
abbrev p6:ar:=⟨0,0,0⟩
abbrev C2:Ty:=.mk 0 p6 []
abbrev BW:eL:=⟨0,0,p6,C2,[],[]⟩
abbrev tx0:ByteArray:=QX #[]
abbrev dP(l:List ao):D:=.sl l.length 38 (l.flatMap ao.enc)
def jC(e:Ex):ao:=⟨e.id,4,tx0,[],0,p6,0,C2,p6,[],C2,0,iO e⟩
theorem s9(l:List ao)(x:ao):D.sl (l.length+1) 38 (l.flatMap ao.enc++(x.enc))=dP (l++[x]):=by unfold dP;simp
theorem JW(C:gE)(e:Ex)(l:List ao)(hw:e.wt<=1000000000000)(hl:l.length<=300000000000):IS s90 [e.enc,[dP l]] [[dP (l++[jC e])]]:=by
 refine w90.is ?_;unfold g90;have e2:sub e.enc 0 3=e.id.enc:=by rw[Ex.aF];rfl
 simp only[aj,aG,e2];refine aa (Hi C e Q0) ?_;simp only[aj];refine⟨Qa,?_⟩;rw[<-s9];have e1:(jC e).enc=e.id.enc++(vI 4::D.v (.string (QX #[]))::.sl 0 3 []::vI 0::vI 0::vI 0::vI 0::vI 0::vI 0::vI 0::vI 0::vI 0::.sl 0 5 []::vI 0::vI 0::vI 0::.sl 0 1 []::vI 0::vI 0::vI 0::vI 0::.sl 0 5 []::vI 0::(exCn e++[CP e.ty,dI (e.kids.map Ex.id),j5 e.aK])):=by unfold jC ao.enc iO eL.enc;rw[Ty.aF,Ty.aF];rfl
 rw[e1];rfl
theorem Ex.zu:∀(l:List Ex) (k:Nat),Ex.fb (l.take k)+Ex.fb (l.drop k)=Ex.fb l
 |[],k=>by simp[Ex.fb]
 |e::l,0=>by simp[Ex.fb]
 |e::l,k+1=>by rw[RK,RS,Ex.fb,Ex.fb,<-Ex.zu l k];omega
theorem CX(C:gE):∀(n:Nat) (e:Ex) (l:List ao),e.wt<=n->e.wt+l.length<=300000000000->IS s89 [e.enc,[dP l]] [[dP (l++(cL e).map jC)]]
 |0,e,l,h,_=>by have:=Ex.cT e;omega
 |n+1,e,l,h,hw=>by
  have h1:=Ex.cT e;have h2:=Ex.o7 e.kids;refine w89.is ?_;unfold g89;have e3:cell e.enc 13=.sl e.kids.length 15 (e.kids.flatMap Ex.enc):=by rw[Ex.aF];rfl
  simp only[aj,e3];refine aZ e.kids.length (λk=>[[.sl e.kids.length 15 (e.kids.flatMap Ex.enc)],[vI (e.kids.length:Int)],[vI (k:Int)],e.enc,[dP (l++(aY (e.kids.take k)).map jC)]]) (λ_=>True) trivial (by simp[aY]) λk next hi _ hn=>?_
  have hle:(aY (e.kids.take k)).length+Ex.fb (e.kids.drop k)<=Ex.fb e.kids:=by have:=uC (e.kids.take k);have:=Ex.zu e.kids k;omega
  simp only[aj];refine⟨λh=>?_,λh=>?_⟩
  .have hk:k<e.kids.length:=Q0;rw[yx _ hk];have h5:Ex.fb (e.kids.drop k)=(e.kids[k]).wt+Ex.fb (e.kids.drop (k+1)):=by rw[List.drop_eq_getElem_cons hk,Ex.fb]
   refine⟨Q0,aa (CX C n e.kids[k] _ Q0 (by grind)) ?_⟩;simp only[aj];have h3:=hn hk trivial;rw[HC hk,Rb,<-QU]at h3;exact⟨Q4,h3⟩
  .obtain rfl:k=e.kids.length:=Q0;rw[Re]at hle ⊢;refine aa (JW C e _ Q0 (by grind)) ?_;simp only[aj];rw[lH,Rb,QU];rfl
theorem Oa(a:Int):∃b:Bool,IS Nc [[vI a]] [[vB b]]:=by
 have key:g158 (la Qu) [[vI a]] (λr=>∃b:Bool,r=[[vB b]]):=by unfold g158;simp only[aj];exact⟨_,rfl⟩
 obtain⟨r,⟨b,rfl⟩,h⟩:=w158.some key (by rintro r ⟨b,rfl⟩;exact trivial);exact⟨b,h⟩
theorem PF(a b:Int):∃z:Int,IS s56 [[vI a],[vI b]] [[vI z]]:=by
 have key:g56 (la Qu) [[vI a],[vI b]] (λr=>∃z:Int,r=[[vI z]]):=by
  unfold g56;simp only[aj];obtain⟨x,hx⟩:=Oa a;obtain⟨y,hy⟩:=Oa b;refine aa hx ?_;simp only[aj];refine aa hy ?_;cases x <;> cases y <;> simp only[aj]
  all_goals grind
 obtain⟨r,⟨b,rfl⟩,h⟩:=w56.some key (by rintro r ⟨b,rfl⟩;exact trivial);exact⟨b,h⟩
theorem or54T(l:List Int)(hl:l.length<=1000000):∃z:Int,IS s54 [[.sl l.length 1 (l.map vI)]] [[vI z]]:=by
 have key:g54 (la Qu) [[.sl l.length 1 (l.map vI)]] (λr=>∃z:Int,r=[[vI z]]):=by
  unfold g54;simp only[aj];refine aZ l.length (λk=>[[vI 0],[.sl l.length 1 (l.map vI)],[vI (l.length:Int)],[vI (k:Int)]]) (λ_=>True) trivial rfl λk next hi _ hn=>?_
  simp only[aj,aG];refine⟨λh=>?_,λh=>⟨_,rfl⟩⟩;have hk:k<l.length:=Q0;have hc:cell (el (l.map vI) 1 k) 0=vI l[k]:=by
   unfold cell el
   grind
  simp only[hc,aj];exact⟨Q0,λ_=>⟨Q4,hn hk trivial⟩,λ_=>⟨_,rfl⟩⟩
 obtain⟨r,⟨b,rfl⟩,h⟩:=w54.some key (by rintro r ⟨b,rfl⟩;exact trivial);exact⟨b,h⟩
theorem cmp95(x y:ar):∃z:Int,IS s95 [x.enc,y.enc] [[vI z]]:=by
 have key:g95 (la Qu) [x.enc,y.enc] (λr=>∃z:Int,r=[[vI z]]):=by unfold g95;have c0:∀i:ar,cell i.enc 0=vI i.aD/\cell i.enc 1=vI i.seq/\cell i.enc 2=vI i.index:=λi=>⟨rfl,rfl,rfl⟩;simp only[aj,c0];obtain⟨a,ha⟩:=PF x.aD y.aD;obtain⟨b,hb⟩:=PF x.seq y.seq;obtain⟨c,hc⟩:=PF x.index y.index;obtain⟨d,hd⟩:=or54T [a,b,c] Q2;refine aa ha ?_;simp only[aj];refine aa hb ?_;simp only[aj];refine aa hc ?_;simp only[aj];refine aa hd ?_;simp only[aj];exact⟨_,rfl⟩
 obtain⟨r,⟨b,rfl⟩,h⟩:=w95.some key (by rintro r ⟨b,rfl⟩;exact trivial);exact⟨b,h⟩
theorem JC(x y:ao):∃z:Int,IS s94 [x.enc,y.enc] [[vI z]]:=by obtain⟨z,h⟩:=cmp95 x.id y.id;refine⟨z,w94.is ?_⟩;unfold g94;have e0:∀x:ao,sub x.enc 0 3=x.id.enc:=λx=>rfl;simp only[aj,e0];refine aa h ?_;simp only[aj]
def uL(R:List ao)(i j:Nat)(hi:i<R.length)(hj:j<R.length):List ao:=(R.set i R[j]).set j R[i]
theorem mR(R:List ao){i j:Nat}(hi:i<R.length)(hj:j<R.length):(uL R i j hi hj).Perm R:=List.set_set_perm hi hj
theorem JZ(R:List ao){i j:Nat}(hi:i<R.length)(hj:j<R.length):(uL R i j hi hj).length=R.length:=by unfold uL;rw[Sl,Sl]
theorem rz(R:List ao){i j:Nat}(hi:i<R.length)(hj:j<R.length) :
  D.sl R.length 38 (cQ (cQ (R.flatMap ao.enc) (i*38+0) (el (R.flatMap ao.enc) 38 j)) (j*38+0) (el (R.flatMap ao.enc) 38 i))=dP (uL R i j hi hj):=by
 rw[iL _ hi,iL _ hj,RY,RY,rr ao.aP R hi,rr ao.aP _ (by grind)];unfold dP;rw[JZ R hi hj];rfl
abbrev Qf(l:List ao)(r:bR):Prop:=∃R:List ao,R.Perm l/\r=[[dP R]]
theorem mQ(a b n:Int)(l:List ao)(h0:0<=a)(h1:0<=b)(hn:0<=n)(ha:a+n<=l.length)(hb:b+n<=l.length)(hl:l.length<=300000000000):∃R:List ao,R.Perm l/\IS Kl [[vI a],[vI b],[vI n],[dP l]] [[dP R]]:=by
 have key:g263 (la Qu) [[vI a],[vI b],[vI n],[dP l]] (Qf l):=by
  unfold g263;simp only[aj];refine dG (σ:=Int×List ao) (λx=>[[vI a],[vI b],[vI n],[vI x.1],[dP x.2]]) (λx=>(n-x.1).toNat) (λx=>0<=x.1/\x.1<=n/\x.2.Perm l) (0,l) ⟨RC _,hn,RT _⟩ rfl ?_;rintro⟨i,R⟩ next ⟨hi0,hin,hp⟩ hnx
  have hi0:0<=i:=hi0;have hin:i<=n:=hin;have hp:R.Perm l:=hp;have hlen:=hp.length_eq;simp only[aj];refine⟨λh=>?_,λh=>⟨R,hp,rfl⟩⟩;have e1:(a+i).toNat<R.length:=Q0;have e2:(b+i).toNat<R.length:=Q0;have h7:=hnx (i+1,uL R (a+i).toNat (b+i).toNat e1 e2) Q0 ⟨Q0,Q0,(mR R e1 e2).trans hp⟩;rw[rz R e1 e2];refine⟨Q4,Q4,Q4,⟨Q0,Q0⟩,Q4,⟨Q0,Q0⟩,⟨Q0,Q0⟩,⟨Q0,Q0⟩,Q4,?_⟩;exact h7
 obtain⟨r,⟨R,hp,rfl⟩,h⟩:=w263.some key (by rintro r ⟨b,_,rfl⟩;exact trivial);exact⟨R,hp,h⟩
theorem yb(a b:Int)(l:List ao)(h0:0<=a)(hb:b<=l.length)(hl:l.length<=300000000000)(hal:a<=l.length):∃R:List ao,R.Perm l/\IS Na [[vI a],[vI b],[dP l]] [[dP R]]:=by
 have key:g223 (la Qu) [[vI a],[vI b],[dP l]] (Qf l):=by
  unfold g223;simp only[aj];refine⟨Q4,?_⟩;refine dG (σ:=Int×List ao) (λx=>[[vI a],[vI b],[vI x.1],[dP x.2]]) (λx=>(b-x.1).toNat) (λx=>a+1<=x.1/\x.2.Perm l) (a+1,l) ⟨RC _,RT _⟩ rfl ?_;rintro⟨i,R⟩ next ⟨hi0,hp⟩ hnx
  have hi0:a+1<=i:=hi0;have hp:R.Perm l:=hp;have hlen:=hp.length_eq;simp only[aj];refine⟨λh=>?_,λh=>⟨R,hp,rfl⟩⟩;refine hY ?_;refine dG (σ:=Int×List ao) (λx=>[[vI a],[vI b],[vI i],[vI x.1],[dP x.2]]) (λx=>(x.1-a).toNat) (λx=>a<=x.1/\x.1<=i/\x.2.Perm l) (i,R) ⟨Q0,RC _,hp⟩ rfl ?_;rintro⟨j,S⟩ kH ⟨hj0,hji,hq⟩ hnx2;have hj0:a<=j:=hj0;have hji:j<=i:=hji;have hq:S.Perm l:=hq;have hlen2:=hq.length_eq;have hout:bt (i+1)/\next [[vI a],[vI b],[vI (i+1)],[dP S]]:=⟨Q4,hnx (i+1,S) Q0 ⟨Q0,hq⟩⟩
  simp only[aj];refine⟨λh2=>?_,λh2=>hout⟩;have e1:j.toNat<S.length:=Q0;have e2:(j-1).toNat<S.length:=Q0;refine⟨⟨Q0,Q0⟩,Q4,⟨Q0,Q0⟩,?_⟩;rw[iL _ e1,iL _ e2];obtain⟨z,hz⟩:=JC S[j.toNat] S[(j-1).toNat];refine aa hz ?_;simp only[aj];refine⟨λh3=>?_,λh3=>hout⟩;have h7:=hnx2 (j-1,uL S j.toNat (j-1).toNat e1 e2) Q0 ⟨Q0,Q0,(mR S e1 e2).trans hq⟩;have he:=rz S e1 e2;rw[iL _ e1,iL _ e2]at he;rw[he];refine⟨Q4,Q4,⟨Q0,Q0⟩,⟨Q0,Q0⟩,⟨Q0,Q0⟩,⟨Q0,Q0⟩,Q4,?_⟩;exact h7
 obtain⟨r,⟨R,hp,rfl⟩,h⟩:=w223.some key (by rintro r ⟨b,_,rfl⟩;exact trivial);exact⟨R,hp,h⟩
theorem Kv(a m b:Int)(l:List ao)(h0:0<=a)(h1:a<m)(h2:m<b)(hb:b<=l.length)(hl:l.length<=300000000000):∃R:List ao,R.Perm l/\IS s249 [[vI a],[vI m],[vI b],[dP l]] [[dP R]]:=by
 have key:g249 (la Qu) [[vI a],[vI m],[vI b],[dP l]] (Qf l):=by
  unfold g249;simp only[aj];refine⟨Q4,Q4,?_⟩;refine dG (σ:=Int×Int×List ao) (λx=>[[vI m],[vI x.1],[vI x.2.1],[dP x.2.2]]) (λx=>(x.1+x.2.1).toNat) (λx=>0<x.1/\0<x.2.1/\a<=m-x.1/\m+x.2.1<=b/\x.2.2.Perm l) (m-a,b-m,l) ⟨Q0,by grind,Q0,by grind,RT _⟩ rfl ?_;rintro⟨i,j,R⟩ next ⟨hi,hj,hai,hjb,hp⟩ hnx
  simp only at hi hj hai hjb hp;have hlen:=hp.length_eq;simp only[aj,aG];refine⟨λh=>?_,λh=>⟨λh3=>?_,λh3=>?_⟩⟩
  .obtain⟨S,hS,hs⟩:=mQ (m-i) m i R Q0 Q0 Q0 Q0 Q0 Q0;refine⟨Q4,aa hs ?_⟩;simp only[aj];exact⟨S,hS.trans hp,rfl⟩
  .obtain⟨S,hS,hs⟩:=mQ (m-i) m j R Q0 Q0 Q0 Q0 Q0 Q0;refine⟨Q4,aa hs ?_⟩;simp only[aj];exact⟨Q4,hnx (i-j,j,S) (by grind) ⟨Q0,hj,Q0,hjb,hS.trans hp⟩⟩
  .obtain⟨S,hS,hs⟩:=mQ (m-i) (m+j-i) i R Q0 Q0 Q0 Q0 Q0 Q0;refine⟨Q4,Q4,Q4,aa hs ?_⟩;simp only[aj];exact⟨Q4,hnx (i,j-i,S) (by grind) ⟨hi,by grind,hai,by grind,hS.trans hp⟩⟩
 obtain⟨r,⟨R,hp,rfl⟩,h⟩:=w249.some key (by rintro r ⟨b,_,rfl⟩;exact trivial);exact⟨R,hp,h⟩
theorem wrapU{u:Int}(h0:0<=u)(h1:u<=1000000000000000):Rs .u64 u=u:=by unfold Rs;simp[Ta,X1];omega
theorem HM{u:Int}(h0:0<=u)(h1:u<=1000000000000000):Rs .i64 u=u:=by unfold Rs;simp[Ta,X1];omega
theorem ikJ(k:IntKind)(z:Int)(K:Int->Prop):qk k (vK k z) K=K z:=by simp[qk]
theorem wh{u:Int}(h0:0<=u)(h1:u<=1000000000000)(K:Int->Prop):(qk .i64 (vI u) λu13=>qk .u64 (vK .u64 (Rs .u64 u13)) λu14=>qk .u64 (vK .u64 1) λu15=>0<=u15/\qk .u64 (vK .u64 (u14 / 2 ^ min (Qr u15) (Ta .u64))) K)=K (u / 2):=by rw[show(vI u)=vK .i64 u from rfl,ikJ,ikJ,ikJ,wrapU h0 Q0];have e:(2:Int) ^ min (Qr 1) (Ta .u64)=2:=Q1;rw[e,ikJ];simp
theorem lv:∀(n:Nat) (a m b:Int) (l:List ao),(b-a).toNat<=n->0<=a->a<m->m<b->b<=l.length->l.length<=300000000000->∃R:List ao,R.Perm l/\IS Dw [[vI a],[vI m],[vI b],[dP l]] [[dP R]]
 |0,a,m,b,l,h,h0,h1,h2,_,_=>by omega
 |n+1,a,m,b,l,h,h0,h1,h2,hb,hl=>by
  have key:g224 (la Qu) [[vI a],[vI m],[vI b],[dP l]] (Qf l):=by
   unfold g224;simp only[aj];refine⟨Q4,λhma=>?_,λhma=>⟨Q4,λhbm=>?_,λhbm=>?_⟩⟩
   .refine dG (σ:=Int×Int) (λx=>[[vI a],[vI x.1],[vI x.2],[dP l]]) (λx=>(x.2-x.1).toNat) (λx=>m<=x.1/\x.1<=x.2/\x.2<=b) (m,b) ⟨RC _,Q0,RC _⟩ rfl ?_;rintro⟨i,j⟩ next ⟨hi,hij,hjb⟩ hnx
    simp only at hi hij hjb;simp only[aj];refine⟨λhlt=>⟨Q4,?_⟩,λhlt=>?_⟩
    .rw[wh Q0 Q0];have hw:=HM (u:=(i+j) / 2) Q0 Q0;simp only[hw];have e1:((i+j) / 2).toNat<l.length:=Q0;have e2:a.toNat<l.length:=Q0;rw[iL _ e1,iL _ e2];obtain⟨z,hz⟩:=JC l[((i+j) / 2).toNat] l[a.toNat];refine⟨⟨Q0,Q0⟩,⟨Q0,Q0⟩,aa hz ?_⟩;simp only[aj]
     exact⟨λ_=>⟨Q4,hnx ((i+j) / 2+1,j) Q0 ⟨Q0,Q0,hjb⟩⟩,
      λ_=>hnx (i,(i+j) / 2) Q0 ⟨hi,Q0,Q0⟩⟩
    .refine dG (σ:=Int×List ao) (λx=>[[vI i],[vI x.1],[dP x.2]]) (λx=>(i-x.1).toNat) (λx=>a<=x.1/\x.2.Perm l) (a,l) ⟨RC _,RT _⟩ rfl ?_;rintro⟨k,R⟩ kH ⟨hk,hp⟩ hnx2;simp only at hk hp;have hlen:=hp.length_eq;simp only[aj];refine⟨Q4,λh5=>?_,λ_=>⟨R,hp,rfl⟩⟩;have e1:k.toNat<R.length:=Q0;have e2:(k+1).toNat<R.length:=Q0;rw[rz R e1 e2];refine⟨Q4,Q4,⟨Q0,Q0⟩,⟨Q0,Q0⟩,⟨Q0,Q0⟩,⟨Q0,Q0⟩,Q4,?_⟩;exact hnx2 (k+1,uL R k.toNat (k+1).toNat e1 e2) Q0 ⟨Q0,(mR R e1 e2).trans hp⟩
   .refine dG (σ:=Int×Int) (λx=>[[vI m],[vI x.1],[vI x.2],[dP l]]) (λx=>(x.2-x.1).toNat) (λx=>a<=x.1/\x.1<=x.2/\x.2<=m) (a,m) ⟨RC _,Q0,RC _⟩ rfl ?_;rintro⟨i,j⟩ next ⟨hi,hij,hjb⟩ hnx
    simp only at hi hij hjb;simp only[aj,aG];refine⟨λhlt=>⟨Q4,?_⟩,λhlt=>?_⟩
    .rw[wh Q0 Q0];have hw:=HM (u:=(i+j) / 2) Q0 Q0;simp only[hw];have e1:((i+j) / 2).toNat<l.length:=Q0;have e2:m.toNat<l.length:=Q0;rw[iL _ e1,iL _ e2];obtain⟨z,hz⟩:=JC l[m.toNat] l[((i+j) / 2).toNat];refine⟨⟨Q0,Q0⟩,⟨Q0,Q0⟩,aa hz ?_⟩;simp only[aj]
     exact⟨λ_=>hnx (i,(i+j) / 2) Q0 ⟨hi,Q0,Q0⟩,
      λ_=>⟨Q4,hnx ((i+j) / 2+1,j) Q0 ⟨Q0,Q0,hjb⟩⟩⟩
    .refine dG (σ:=Int×List ao) (λx=>[[vI i],[vI x.1],[dP x.2]]) (λx=>(x.1-i).toNat) (λx=>i<=x.1/\x.1<=m/\x.2.Perm l) (m,l) ⟨Q0,RC _,RT _⟩ rfl ?_;rintro⟨k,R⟩ kH ⟨hk,hkm,hp⟩ hnx2;simp only at hk hkm hp;have hlen:=hp.length_eq;simp only[aj];refine⟨λh5=>?_,λ_=>⟨R,hp,rfl⟩⟩;have e1:k.toNat<R.length:=Q0;have e2:(k-1).toNat<R.length:=Q0;rw[rz R e1 e2];refine⟨Q4,Q4,⟨Q0,Q0⟩,⟨Q0,Q0⟩,⟨Q0,Q0⟩,⟨Q0,Q0⟩,Q4,?_⟩;exact hnx2 (k-1,uL R k.toNat (k-1).toNat e1 e2) Q0 ⟨Q0,Q0,(mR R e1 e2).trans hp⟩
   .refine⟨Q4,?_⟩;rw[wh Q0 Q0];have hw:=HM (u:=(a+b) / 2) Q0 Q0;simp only[hw];have hmid1:a<(a+b) / 2:=Q0;have hmid2:(a+b) / 2<b:=Q0;have hmid3:2*((a+b) / 2)<=a+b/\a+b<=2*((a+b) / 2)+1:=Q0;generalize(a+b) / 2=mid at hmid1 hmid2 hmid3 ⊢;refine⟨Q4,?_⟩;refine⟨λst=>∃s r:Int,((mid<m/\s=mid+m-b/\r=mid)\/(¬mid<m/\s=a/\r=m))/\st=[[vI a],[vI m],[vI b],[vI mid],[vI (mid+m)],[vI s],[vI r],[dP l]],?_,?_⟩
    .exact⟨λh5=>⟨Q4,_,_,.inl ⟨h5,rfl,rfl⟩,rfl⟩,λh5=>⟨_,_,.inr ⟨h5,rfl,rfl⟩,rfl⟩⟩
    rintro _ ⟨s0,r0,hsr,rfl⟩;have hs0:a<=s0/\s0<=r0:=Q0;have hc:∀c,s0<=c->c<r0->(0<=mid+m-1-c/\mid+m-1-c<l.length)/\c<l.length:=λc h1 h2=>by omega
    have hend:∀c,s0<=c->mid+m-c<=b:=λc h1=>by omega
    have hr0:r0<=b:=Q0;clear hsr;simp only[aj,aG];refine⟨Q4,?_⟩;refine dG (σ:=Int×Int) (λx=>[[vI a],[vI m],[vI b],[vI mid],[vI (mid+m)],[vI x.1],[vI x.2],[vI (mid+m-1)],[dP l]]) (λx=>(x.2-x.1).toNat) (λx=>s0<=x.1/\x.1<=x.2/\x.2<=r0) (s0,r0) ⟨RC _,hs0.2,RC _⟩ rfl ?_;rintro⟨s,r⟩ next ⟨hs,hsr,hr⟩ hnx
    simp only at hs hsr hr;simp only[aj];refine⟨λhlt=>⟨Q4,?_⟩,λhlt=>⟨Q4,?_⟩⟩
    .rw[wh Q0 Q0];have hw:=HM (u:=(s+r) / 2) Q0 Q0;simp only[hw];have hcc:=hc ((s+r) / 2) Q0 Q0;have e1:(mid+m-1-(s+r) / 2).toNat<l.length:=Q0;have e2:((s+r) / 2).toNat<l.length:=Q0;rw[iL _ e1,iL _ e2];obtain⟨z,hz⟩:=JC l[(mid+m-1-(s+r) / 2).toNat] l[((s+r) / 2).toNat];refine⟨Q4,⟨Q0,Q0⟩,⟨Q0,Q0⟩,aa hz ?_⟩;simp only[aj]
     exact⟨λ_=>hnx (s,(s+r) / 2) Q0 ⟨hs,Q0,Q0⟩,
      λ_=>⟨Q4,hnx ((s+r) / 2+1,r) Q0 ⟨Q0,Q0,hr⟩⟩⟩
    .have he:=hend s hs;refine⟨λst=>∃R:List ao,R.Perm l/\st=[[vI a],[vI b],[vI mid],[vI s],[vI (mid+m-s)],[dP R]],?_,?_⟩
     .refine⟨λh5=>⟨λh6=>?_,λ_=>⟨l,RT _,rfl⟩⟩,λ_=>⟨l,RT _,rfl⟩⟩;obtain⟨R,hR,hrr⟩:=Kv s m (mid+m-s) l Q0 h5 h6 Q0 hl;refine aa hrr ?_;simp only[aj];exact⟨R,hR,rfl⟩
     rintro _ ⟨R,hR,rfl⟩;have hRl:=hR.length_eq;simp only[aj];refine⟨λst=>∃S:List ao,S.Perm l/\st=[[vI b],[vI mid],[vI (mid+m-s)],[dP S]],?_,?_⟩
     .refine⟨λh5=>⟨λh6=>?_,λ_=>⟨R,hR,rfl⟩⟩,λ_=>⟨R,hR,rfl⟩⟩;obtain⟨S,hS,hss⟩:=lv n a s mid R Q0 h0 h5 h6 Q0 Q0;refine aa hss ?_;simp only[aj];exact⟨S,hS.trans hR,rfl⟩
     rintro _ ⟨S,hS,rfl⟩;have hSl:=hS.length_eq;simp only[aj];refine⟨λh5=>⟨λh6=>?_,λ_=>⟨S,hS,rfl⟩⟩,λ_=>⟨S,hS,rfl⟩⟩;obtain⟨U,hU,huu⟩:=lv n mid (mid+m-s) b S Q0 Q0 h5 h6 Q0 Q0;refine aa huu ?_;simp only[aj];exact⟨U,hU.trans hS,rfl⟩
  obtain⟨r,⟨R,hp,rfl⟩,h⟩:=w224.some key (by rintro r ⟨b,_,rfl⟩;exact trivial);exact⟨R,hp,h⟩
theorem Ka(l:List ao)(hl:l.length<=300000000000):∃R:List ao,R.Perm l/\IS s177 [[vI (l.length:Int)],[dP l]] [[dP R]]:=by
 have key:g177 (la Qu) [[vI (l.length:Int)],[dP l]] (Qf l):=by
  unfold g177;simp only[aj];refine dG (σ:=Int×List ao) (λx=>[[vI (l.length:Int)],[vI 20],[vI x.1],[vI (x.1+20)],[dP x.2]]) (λx=>((l.length:Int)-x.1).toNat) (λx=>0<=x.1/\x.1<=l.length/\x.2.Perm l) (0,l) ⟨RC _,Q0,RT _⟩ rfl ?_;rintro⟨a,R⟩ next ⟨ha,hal,hp⟩ hnx
  simp only at ha hal hp;have hlen:=hp.length_eq;simp only[aj];refine⟨λh=>?_,λh=>?_⟩
  .obtain⟨S,hS,hs⟩:=yb a (a+20) R ha Q0 Q0 Q0;refine aa hs ?_;simp only[aj];exact⟨Q4,hnx (a+20,S) Q0 ⟨Q0,Q0,hS.trans hp⟩⟩
  .obtain⟨S,hS,hs⟩:=yb a l.length R ha Q0 Q0 Q0;refine aa hs ?_;simp only[aj];refine dG (σ:=Int×List ao) (λx=>[[vI (l.length:Int)],[vI x.1],[dP x.2]]) (λx=>((l.length:Int)-x.1).toNat) (λx=>20<=x.1/\x.1<=1000000000000/\x.2.Perm l) (20,S) ⟨RC _,Q0,hS.trans hp⟩ rfl ?_;rintro⟨bs,U⟩ kH ⟨hbs,hbs2,hU⟩ hnx2;simp only at hbs hbs2 hU;simp only[aj];refine⟨λh5=>⟨Q4,?_⟩,λh5=>⟨U,hU,rfl⟩⟩;refine dG (σ:=Int×List ao) (λx=>[[vI (l.length:Int)],[vI bs],[vI x.1],[vI (x.1+2*bs)],[dP x.2]]) (λx=>((l.length:Int)-x.1).toNat) (λx=>0<=x.1/\x.1<=l.length/\x.2.Perm l) (0,U) ⟨RC _,Q0,hU⟩ (by grind) ?_;rintro⟨c,V⟩ IX ⟨hc,hcl,hV⟩ hnx3;simp only at hc hcl hV;have hVl:=hV.length_eq;simp only[aj];refine⟨λh6=>⟨Q4,?_⟩,λh6=>?_⟩
   .obtain⟨X,hX,hx⟩:=lv _ c (c+bs) (c+2*bs) V (QW _) hc Q0 Q0 Q0 Q0;refine aa hx ?_;simp only[aj];exact⟨Q4,Q4,hnx3 (c+2*bs,X) Q0 ⟨Q0,Q0,hX.trans hV⟩⟩
   .refine⟨λst=>∃X:List ao,X.Perm l/\st=[[vI (l.length:Int)],[vI bs],[dP X]],?_,?_⟩
    .refine⟨Q4,λh7=>?_,λ_=>⟨V,hV,rfl⟩⟩;obtain⟨X,hX,hx⟩:=lv _ c (c+bs) l.length V (QW _) hc Q0 h7 Q0 Q0;refine aa hx ?_;simp only[aj];exact⟨X,hX.trans hV,rfl⟩
    rintro _ ⟨X,hX,rfl⟩;simp only[aj];exact⟨Q4,hnx2 (bs*2,X) Q0 ⟨Q0,Q0,hX⟩⟩
 obtain⟨r,⟨R,hp,rfl⟩,h⟩:=w177.some key (by rintro r ⟨b,_,rfl⟩;exact trivial);exact⟨R,hp,h⟩
theorem y5(l:List ao)(hl:l.length<=300000000000):∃R:List ao,R.Perm l/\IS s93 [[dP l]] [[dP R]]:=by obtain⟨R,hR,h⟩:=Ka l hl;refine⟨R,hR,w93.is ?_⟩;unfold g93;simp only[aj];refine aa h ?_;simp only[aj]
noncomputable def C7(l:List ao):List ao:=if h:l.length<=300000000000 then(y5 l h).choose else l
theorem wO(l:List ao):(C7 l).Perm l:=by
 unfold C7;split
 .grind
 .exact RT _
theorem MX(l:List ao)(hl:l.length<=300000000000):IS s93 [[dP l]] [[dP (C7 l)]]:=by
 unfold C7
 grind
theorem vO(l m:List ar)(hl:l.length<=1000000000000)(hm:m.length<=1000000000000):IS s17 [[dI l],[dI m]] [[vB (decide (l=m))]]:=by
 refine w17.is ?_;unfold g17 dI;simp only[aj,aG];refine⟨λe=>?_,λe=>?_⟩
 .have e:l.length=m.length:=Q0;refine aZ l.length (λk=>[[.sl l.length 3 (l.flatMap ar.enc)],[.sl m.length 3 (m.flatMap ar.enc)],[vI (k:Int)]]) (λk=>l.take k=m.take k) Q2 rfl λk next hi hI hn=>?_
  simp only[aj];refine⟨λh=>?_,λh=>?_⟩
  .have hk:k<l.length:=Q0;have hk':k<m.length:=Q0;rw[eK _ hk,eK _ hk'];simp only[aj,aG];refine⟨Q0,Q0,λe2=>⟨Q4,hn hk ?_⟩,λe2=>?_⟩
   .rw[Qv hk,Qv hk',hI,e2]
   .rw[J6 (λh=>e2 (by subst h;rfl))]
  all_goals grind
 .rw[J6 (λh=>e (by rw[h]))]
theorem yH(d:aq):IS s49 [d.enc] [[vB (decide (lF d.kind))]]:=by refine w49.is ?_;unfold g49;simp only[aj,aG];refine⟨λh=>by rw[J5 (show lF d.kind from .inl h)],λh1=>⟨λh=>by rw[J5 (show lF d.kind from .inr (.inl h))],λh2=>⟨λh=>by rw[J5 (show lF d.kind from .inr (.inr (.inl h)))],λh3=>?_⟩⟩⟩;refine J4 (λb=>[[vB b]]) (decide_eq_decide.2 ?_);unfold lF;omega
theorem sr(t:Ty)(hs:t.size<=1000000000000):IS s73 [t.enc] [[dI (cR t)]]:=by
 refine w73.is ?_;unfold g73;simp only[aj,aG];have hsz:=Ty.M5 t;have hlen:=Ty.l8 t.kids;refine bC [t.enc,[dI (if t.kind=3 then[t.df] else[])]] ?_ ?_
 .refine⟨λh=>⟨Qa,?_⟩,λh=>?_⟩
  .rw[J2 h];rfl
  .rw[J1 h];rfl
 .simp only[aj];refine aZ t.kids.length (λi=>[[.sl t.kids.length 5 (t.kids.flatMap Ty.enc)],[vI (t.kids.length:Int)],[vI (i:Int)],[dI ((if t.kind=3 then[t.df] else[])++dS (t.kids.take i))]]) (λ_=>True) trivial (by simp[dS]) λi next hi _ hn=>?_
  have h3:=B3 t.kids i;have h4:(if t.kind=3 then[t.df] else[]).length<=1:=by grind
  simp only[aj];refine⟨λh=>?_,λh=>?_⟩
  .have hk':i<t.kids.length:=Q0;have hm:=Ty.Am (QB hk');have h5:=eV t.kids[i];rw[yv _ hk'];refine⟨Q0,aa (sr _ Q0) ?_⟩;simp only[aj];refine⟨by unfold aO;rw[QC];omega,Q4,?_⟩;have:=hn hk' trivial;rw[B4 hk',<-QU]at this
   grind
  .obtain rfl:i=t.kids.length:=Q0;rw[Re,<-Ln]
 termination_by t.size
theorem def_is(p:av)(i:ar)(hs:p.ae.length<=1000000000000):IS Ir [p.enc,i.enc] [(an p i).enc,[vB (decide (dy p i))]]:=by
 refine w23_1.is ?_;unfold g23_1;simp only[aj];refine hY ?_;have hc:cell p.enc 1=.sl p.ae.length 31 (p.ae.flatMap aq.enc):=rfl;refine aZ p.ae.length (λk=>[[vI (k:Int)],p.enc,i.enc,lj.enc]) (λk=>∀j (hj:j<p.ae.length),j<k->p.ae[j].id≠i) (λ_ _ h=>J3 h (RP _)) rfl λk next hi hI hn=>?_
 simp only[aj,aG,hc];refine⟨λh=>?_,λh=>?_⟩
 .have hk:k<p.ae.length:=Q0;rw[gw _ hk];simp only[aj,aG];refine⟨Q0,λe=>⟨Q0,?_⟩,λe=>⟨Q4,hn hk λj hj h=>?_⟩⟩
  .obtain⟨h1,h2⟩:=iX hk hI e
   grind
  all_goals grind
 .obtain rfl:k=p.ae.length:=Q0;obtain⟨h1,h2⟩:=oa λj hj=>hI j hj hj;rw[h2,J6 h1];rfl
theorem Wd.isG{l:List bA}{dp:List Nat}{hp nd ic:Bool}{cs:List Nat}{H:p9}{s:bA}{g:Tx}(w:Wd ⟨l,[42],dp,[],mB,mA,hp,ie,nd,ic,cs⟩ H s g){a r:bR}(h:g (la Qu) a λst=>st=r)(hu:ct bc (jB s) r (λ_=>True):=by exact trivial):Pm.Is Qu s a r:=Pg (MO ..) Oj (H:=H) (by rw[w];exact h) hu
theorem Wd.someG{l:List bA}{dp:List Nat}{hp ic:Bool}{cs:List Nat}{H:p9}{s:bA}{g:Tx}(w:Wd ⟨l,[42],dp,[],mB,mA,hp,ie,false,ic,cs⟩ H s g){a:bR}{K:bR->Prop}(h:g (la Qu) a K)(hu:∀r,K r->ct bc (jB s) r λ_=>True):∃r,K r/\Pm.Is Qu s a r:=Jn rfl (MO ..) Oj (H:=H) (by rw[w];exact h) hu
theorem OS(p:av)(i:ar)(hs:p.ae.length<=1000000000000):∃z:Int,((z=-1/\¬dy p i/\an p i=lj)\/∃k,∃hk:k<p.ae.length,z=(k:Int)/\dy p i/\an p i=p.ae[k])/\IS s146 [[.sl p.ae.length 31 (p.ae.flatMap aq.enc)],i.enc] [[vI z],i.enc]:=by
 have key:g146 (la Qu) [[.sl p.ae.length 31 (p.ae.flatMap aq.enc)],i.enc] (λr=>∃z:Int,((z=-1/\¬dy p i/\an p i=lj)\/∃k,∃hk:k<p.ae.length,z=(k:Int)/\dy p i/\an p i=p.ae[k])/\r=[[vI z],i.enc]):=by
  unfold g146;simp only[aj];refine aZ p.ae.length (λk=>[[.sl p.ae.length 31 (p.ae.flatMap aq.enc)],[vI (p.ae.length:Int)],[vI (k:Int)],i.enc]) (λk=>∀j (hj:j<p.ae.length),j<k->p.ae[j].id≠i) (λ_ _ h=>J3 h (RP _)) rfl λk next hi hI hn=>?_
  simp only[aj];refine⟨λh=>?_,λh=>?_⟩
  .have hk:k<p.ae.length:=Q0;rw[gw _ hk];refine⟨Q0,aa (r:=[[vB (decide (p.ae[k].id=i))],i.enc]) (w147.is ?_) ?_⟩
   .unfold g147;simp only[aj,aG]
   .simp only[aj];refine⟨λe=>⟨_,.inr ⟨k,hk,rfl,iX hk hI e⟩,rfl⟩,λe=>⟨Q4,hn hk λj hj h=>?_⟩⟩
    grind
  .obtain rfl:k=p.ae.length:=Q0;exact⟨_,.inl ⟨rfl,oa λj hj=>hI j hj hj⟩,rfl⟩
 obtain⟨r,⟨z,hz,rfl⟩,h⟩:=w146.some key (by rintro r ⟨z,_,rfl⟩;exact trivial);exact⟨z,hz,h⟩
theorem pN(p:av)(i:ar)(hs:p.ae.length<=1000000000000):IS FH [p.enc,i.enc] [(an p i).enc,[vB (decide (dy p i))]]:=by
 refine w46.is ?_;unfold g46;have hc:cell p.enc 1=.sl p.ae.length 31 (p.ae.flatMap aq.enc):=rfl;simp only[aj,hc];obtain⟨z,hz,h⟩:=OS p i hs;refine aa h ?_;simp only[aj];rcases hz with⟨rfl,h1,h2⟩|⟨k,hk,rfl,h1,h2⟩
 .refine⟨λ_=>?_,λh=>J3 h Q1⟩;rw[h2,J6 h1];rfl
 .refine⟨λh=>by omega,λ_=>⟨Q0,?_⟩⟩;rw[Rx,gw _ hk,h2,J5 h1]
theorem Ag(p:av)(x:ar)(hs:p.ae.length<=1000000000000):IS s77 [x.enc,p.enc] [[vB (!dT p x)],p.enc]:=by refine w77.is ?_;unfold g77;simp only[aj];refine aa (pN p x hs) ?_;simp only[aj];rfl
theorem yi(k:Int):((xY k iI).getD 0=(0:Int))↔¬fA k:=by
 unfold fA iI;simp only[xY]
 grind
theorem dI_app(l m:List ar):D.sl (l.length+m.length) 3 (l.flatMap ar.enc++m.flatMap ar.enc)=dI (l++m):=by unfold dI;simp
theorem MA(e:Ex)(l:List ar)(hs:l.length+e.wt<=800000000000):IS s75 [e.enc,[dI l]] [[dI (l++pZ e)]]:=by
 refine w75.isG ?_;unfold g75;simp only[aj,aG];have hw:=Ex.cT e;refine bC [e.enc,[dI (l++DV e)]] ?_ ?_
 .refine⟨λh=>?_,λh=>?_⟩
  .rw[yi]at h;unfold DV
   grind
  .rw[yi,Classical.not_not]at h;refine⟨Qa,?_⟩;unfold DV;rw[J2 h,j6]
 .simp only[aj,aG];have h1:(DV e).length<=1:=by unfold DV;split <;> simp
  have h2:=eV e.ty;unfold pZ ownT;refine⟨λh=>aa (sr _ Q0) ?_,λh=>?_⟩
  .simp only[aj];refine⟨by unfold aO;rw[QC];omega,?_⟩
   grind
  all_goals grind
theorem HO(e:Ex)(l:List ar)(hs:l.length+e.wt<=800000000000):IS s74 [e.enc,[dI l]] [[dI (l++jR e)]]:=by
 refine w74.is ?_;unfold g74;simp only[aj];refine aa (MA e l hs) ?_;simp only[aj];have hw:=Ex.cT e;have ho:=xH e;have hk0:e.kids.length<=Ex.fb e.kids:=by
  have:∀l:List Ex,l.length<=Ex.fb l:=by
   intro l;induction l with
   |nil=>exact QW _
   |cons x l ih=>have:=Ex.cT x;rw[Ex.fb,QG];omega
  exact this _
 refine aZ e.kids.length (λi=>[[.sl e.kids.length 15 (e.kids.flatMap Ex.enc)],[vI (e.kids.length:Int)],[vI (i:Int)],[dI (l++pZ e++cY (e.kids.take i))]]) (λ_=>True) trivial (by simp[cY]) λi next hi _ hn=>?_
 have h3:=oB (e.kids.take i);simp only[aj];refine⟨λh=>?_,λh=>?_⟩
 .have hk:i<e.kids.length:=Q0;have h4:=Ex.wB hk;have h5:=Ex.wA e.kids (i+1);rw[yx _ hk];have hm:=Ex.Bk (QB hk);refine⟨Q0,aa (HO _ _ (by grind)) ?_⟩;simp only[aj];refine⟨Q4,?_⟩;have:=hn hk trivial;rw[B2 hk,<-QU]at this;exact this
 .obtain rfl:i=e.kids.length:=Q0;rw[Re,QU,<-Ll]
 termination_by e.wt
theorem oN(R:List ar):∀i:Nat,(R.flatMap ar.enc).take (i*3)=(R.take i).flatMap ar.enc:=by
 induction R with
 |nil=>intro i;simp
 |cons x R ih =>
  intro i;cases i with
  |zero=>simp
  |succ i=>rw[QD,RK,QD,<-ih i,RA,S9];show List.take (1*3+i*3) ([_,_,_]++_)=_;rw[Nat.one_mul,S9];rfl
theorem yd(R:List ar):∀i:Nat,(R.flatMap ar.enc).drop (i*3)=(R.drop i).flatMap ar.enc:=by
 induction R with
 |nil=>intro i;simp
 |cons x R ih =>
  intro i;cases i with
  |zero=>simp
  |succ i=>rw[QD,RS,<-ih i,RA];rfl
theorem Ji(R:List ar){i:Nat}(hi:i<R.length)(x:ar):cQ (R.flatMap ar.enc) (i*3+0) x.enc=(R.set i x).flatMap ar.enc:=by unfold cQ;rw[RY,oN,show x.enc.length=3 from rfl,show i*3+3=(i+1)*3 by omega,yd,U3,J2 hi];simp
theorem ids_cut(R:List ar){i:Nat}(hi:i<=R.length)(z:List D):sub (cQ (R.flatMap ar.enc) ((0+i)*3) z) (0*3) (i*3)=(R.take i).flatMap ar.enc:=by
 unfold sub cQ;rw[Rn,Nat.zero_mul,RR,QU,oN];have hl:((R.take i).flatMap ar.enc).length=i*3:=by rw[<-oN,Rf,eJ (sz:=3) (λ_=>rfl)];omega
 rw[<-hl,List.take_left]
theorem Pq(p:av)(l:List ar)(hp:p.ae.length<=1000000000000)(hl:l.length<=1000000000000):∃z:Int,((z=-1/\∀x∈l,dT p x=true)\/∃k,∃hk:k<l.length,z=(k:Int)/\(∀x∈l.take k,dT p x=true)/\dT p l[k]=false)/\IS s64 [[dI l],p.enc] [[vI z],[dI l],p.enc]:=by
 have key:g64 (la Qu) [[dI l],p.enc] (λr=>∃z:Int,((z=-1/\∀x∈l,dT p x=true)\/∃k,∃hk:k<l.length,z=(k:Int)/\(∀x∈l.take k,dT p x=true)/\dT p l[k]=false)/\r=[[vI z],[dI l],p.enc]):=by
  unfold g64;simp only[aj];refine aZ l.length (λk=>[[vI (l.length:Int)],[vI (k:Int)],[dI l],p.enc]) (λk=>∀x∈l.take k,dT p x=true) Q2 rfl λk next hi hI hn=>?_
  simp only[aj];refine⟨λh=>?_,λh=>?_⟩
  .have hk:k<l.length:=Q0;rw[eK _ hk];refine⟨Q0,aa (Ag p _ hp) ?_⟩;simp only[aj];cases hb:dT p l[k]with
   |false=>simp only[aj,Sj];exact⟨_,.inr ⟨k,hk,rfl,hI,hb⟩,rfl⟩
   |true =>
    simp only[aj,Ry];refine⟨Q4,hn hk λx hx=>?_⟩;rw[Qv hk,QK,QI]at hx;rcases hx with hx|hx
    .exact hI x hx
    .rw[hx];exact hb
  all_goals grind
 obtain⟨r,⟨z,hz,rfl⟩,h⟩:=w64.some key (by rintro r ⟨z,_,rfl⟩;exact trivial);exact⟨z,hz,h⟩
theorem Hh{R:List ar}{i:Nat}(hi:i<=R.length)(z:List D):D.sl i 3 (sub (cQ (R.flatMap ar.enc) ((0+i)*3) z) (0*3) (i*3))=dI (R.take i):=by
 rw[ids_cut R hi]
 grind
theorem zk(p:av)(l:List ar)(hp:p.ae.length<=1000000000000)(hl:l.length<=1000000000000):IS s76 [[dI l],p.enc] [[dI (l.filter (dT p))],p.enc]:=by
 refine w76.isG ?_;unfold g76;simp only[aj];obtain⟨z,hz,h⟩:=Pq p l hp Q0;refine aa h ?_;simp only[aj];rcases hz with⟨rfl,ha⟩|⟨k0,hk0,rfl,ha,hb⟩
 .refine⟨λ_=>?_,λh=>J3 rfl h⟩;rw[Tj.2 ha]
 .refine⟨λh=>by omega,λ_=>⟨Q4,?_⟩⟩;have e0:(l.take (k0+1)).filter (dT p)=l.take k0:=by rw[Qv hk0,List.filter_append,Tj.2 ha];simp[hb]
  refine dG (σ:=Nat×List ar) (λs=>[[vI (((l.take s.1).filter (dT p)).length:Int)],[vI (s.1:Int)],[dI s.2],p.enc]) (λs=>l.length-s.1)
   (λs=>s.1<=l.length/\s.2.length=l.length/\s.2.take ((l.take s.1).filter (dT p)).length=(l.take s.1).filter (dT p)/\s.2.drop s.1=l.drop s.1/\((l.take s.1).filter (dT p)).length<s.1) (k0+1,l)
   ⟨Q0,rfl,by grind,rfl,by grind⟩ (by
    show _=[[vI (((l.take (k0+1)).filter (dT p)).length:Int)],[vI ((k0+1:Nat):Int)],[dI l],p.enc]
    rw[e0,Rf,RU Q0];rfl) ?_
  rintro⟨j,R⟩ next ⟨h1,h2,h3,h4,h5⟩ hn
  dsimp only at h1 h2 h3 h4 h5 hn ⊢;simp only[aj];refine⟨λh=>?_,λh=>?_⟩
  .have hj:j<l.length:=Q0;have hjR:j<R.length:=Q0;have e1:R[j]=l[j]:=by
    have h6:(R.drop j)[0]'Qc=(l.drop j)[0]'Qc:=by grind
    simpa using h6
   have hstep:=Qv hj;refine hY ?_;rw[eK _ hjR,e1];refine⟨Q0,aa (Ag p _ hp) ?_⟩;simp only[aj];cases hb:dT p l[j]with
   |false =>
    simp only[aj,Sj,Ry];have e2:(l.take (j+1)).filter (dT p)=(l.take j).filter (dT p):=by
     grind
    have:=hn (j+1,R) Q0 ⟨hj,h2,by grind,by dsimp only;rw[<-SE,<-SE,h4],by grind⟩;dsimp only at this;rw[e2]at this;exact⟨Q4,this⟩
   |true =>
    simp only[aj,Sj,Ry];have e2:(l.take (j+1)).filter (dT p)=(l.take j).filter (dT p)++[l[j]]:=by
     grind
    rw[Ji R Q0]
    have:=hn (j+1,R.set ((l.take j).filter (dT p)).length l[j]) Q0 ⟨hj,by grind,by
     dsimp only;rw[e2,QC,TA];rw[Qv (by grind),XC (QW _),h3]
     simp,by dsimp only;rw[XD Q0,<-SE,<-SE,h4],by grind⟩
    dsimp only at this;rw[e2,QC,TA]at this;simp only[dI,Sl]at this ⊢;exact⟨Q0,Q4,Q4,this⟩
  .obtain rfl:j=l.length:=Q0;rw[Re]at h3 h5 ⊢;have hc:=Hh (R:=R) (i:=(l.filter (dT p)).length) Q0 ((QY (R.length-(l.filter (dT p)).length) [vI 0,vI 0,vI 0]).flatten);rw[h3]at hc;refine⟨Q0,⟨trivial,Q0,Q0⟩,Q0,?_⟩;rw[<-hc]
theorem sZ(x y:ar)(l:List ar):gP (x::y::l)=if x=y then gP (y::l) else x::gP (y::l):=by rw[gP]
theorem E6(x:ar):gP [x]=[x]:=rfl
theorem AR(y:ar):∀{l:List ar} (x:ar),gP (l++[x]++[y])=if x=y then gP (l++[x]) else gP (l++[x])++[y]
 |[],x=>by
  simp only[Rk,Rm,sZ,E6]
  grind
 |[a],x=>by
  simp only[Rk,Rm,sZ,E6]
  grind
 |a::b::l,x=>by
  have h:=AR y (l:=b::l) x;simp only[Rm]at h ⊢;rw[sZ,sZ,h]
  grind
theorem AQ{l:List ar}{k:Nat}(h1:1<=k)(hk:k<l.length):gP (l.take (k+1))=if l[k-1]'Q0=l[k]then gP (l.take k) else gP (l.take k)++[l[k]]:=by
 have e:l.take k=l.take (k-1)++[l[k-1]'Q0]:=by simp_all
 rw[Qv hk,e];exact AR _ _
theorem rb(l:List ar)(hl:l.length<=1000000000000):IS s79 [[dI l]] [[dI (gP l)]]:=by
 refine w79.isG ?_;unfold g79;simp only[aj];refine⟨λh=>?_,λh=>?_⟩
 .match l,h with
  |[],_=>rfl
  |[x],_=>rfl
  |_::_::l,h=>simp at h;omega
 .refine dG (σ:=Nat) (λk=>[[vI (k:Int)],[dI l]]) (λk=>l.length-k) (λk=>1<=k/\k<=l.length/\gP (l.take k)=l.take k) 1 ⟨QW _,Q0,by
   match l,h with
   |[],_=>rfl
   |[x],_=>rfl
   |x::_::l,_=>rfl⟩ rfl ?_
  rintro k next ⟨h1,h2,h3⟩ hn
  simp only[aj];refine⟨λh=>?_,λh=>?_⟩
  .have hk:k<l.length:=Q0;have ek:((k:Int)-1).toNat=k-1:=Q0;have hst:=AQ h1 hk;rw[ek,eK _ hk,eK _ (show k-1<l.length by omega)];simp only[aj,aG];refine⟨Q0,Q4,Q0,λe=>⟨Q0,?_⟩,λe=>⟨Q4,?_⟩⟩
   .rw[J2 e.symm]at hst;refine dG (σ:=Nat×List ar) (λs=>[[vI ((gP (l.take (k+s.1))).length:Int)],[vI (k:Int),vI ((l.length-k:Nat):Int)],[vI (s.1:Int)],[dI s.2]]) (λs=>l.length-s.1)
     (λs=>1<=s.1/\k+s.1<=l.length/\s.2.length=l.length/\s.2.take (gP (l.take (k+s.1))).length=gP (l.take (k+s.1))/\s.2.drop (k+s.1-1)=l.drop (k+s.1-1)/\(gP (l.take (k+s.1))).length<=k+s.1-1) (1,l) ⟨QW _,hk,rfl,by grind,rfl,by grind⟩ (by
      show _=[[vI ((gP (l.take (k+1))).length:Int)],[vI (k:Int),vI ((l.length-k:Nat):Int)],[vI ((1:Nat):Int)],[dI l]]
      rw[hst,h3,Rf,RU Q0,Rn];rfl) ?_
    rintro⟨j,R⟩ next ⟨q1,q2,q3,q4,q5,q6⟩ hn
    dsimp only at q1 q2 q3 q4 q5 q6 hn ⊢;simp only[aj];refine⟨λh=>?_,λh=>?_⟩
    .have hj:k+j<l.length:=Q0;have ej:((j:Int)-1).toNat=j-1:=Q0;have hR1:R[k+j]'Q0=l[k+j]:=by
      have h6:(R.drop (k+j-1))[1]'Qc=(l.drop (k+j-1))[1]'Qc:=by grind
      simpa[show k+j-1+1=k+j by omega]using h6
     have hR2:R[k+j-1]'Q0=l[k+j-1]:=by
      have h6:(R.drop (k+j-1))[0]'Qc=(l.drop (k+j-1))[0]'Qc:=by grind
      simpa using h6
     have hst:=AQ (l:=l) (k:=k+j) Q0 hj;refine hY ?_;rw[ej,eK _ (show k+j<R.length by omega),show k+(j-1)=k+j-1 by omega,eK _ (show k+j-1<R.length by omega),hR1,hR2];simp only[aj,aG];have hd:R.drop (k+(j+1)-1)=l.drop (k+(j+1)-1):=by have:=J4 (Sr 1) q5;rwa [SE,SE,show k+j-1+1=k+(j+1)-1 by omega]at this
     refine⟨Q0,Q4,Q0,λe2=>?_,λe2=>?_⟩
     .rw[J2 e2.symm]at hst;have:=hn (j+1,R) Q0 ⟨Q0,Q0,q3,by grind,hd,by dsimp only;rw[<-RW,hst];omega⟩;dsimp only at this;rw[<-RW,hst]at this;exact⟨Q4,this⟩
     .rw[J1 (λe3=>e2 e3.symm)]at hst;rw[Ji R Q0]
      have:=hn (j+1,R.set (gP (l.take (k+j))).length l[k+j]) Q0 ⟨Q0,Q0,by grind,by
       dsimp only;rw[<-RW,hst,QC,TA];rw[Qv (by grind),XC (QW _),q4]
       simp,by dsimp only;rw[XD Q0];exact hd,by dsimp only;rw[<-RW,hst];simp;omega⟩
      dsimp only at this;rw[<-RW,hst,QC,TA]at this;simp only[dI,Sl]at this ⊢;exact⟨Q0,Q0,Q4,Q4,this⟩
    .have ej:k+j=l.length:=Q0;rw[ej,Re]at q4 q6 ⊢;have hc:=Hh (R:=R) (i:=(gP l).length) Q0 ((QY (R.length-(gP l).length) [vI 0,vI 0,vI 0]).flatten);rw[q4]at hc;refine⟨Q0,⟨trivial,Q0,Q0⟩,Q0,?_⟩;rw[<-hc]
   .rw[J1 (λe2=>e e2.symm)]at hst;exact hn (k+1) Q0 ⟨Q0,hk,by simp_all⟩
  all_goals grind
theorem OU(l:List ar)(x:ar)(hl:l.length<=1000000000000):∃z:Int,(0<=z↔x∈l)/\IS s160 [x.enc,[dI l]] [[vI z],[dI l]]:=by
 have key:g160 (la Qu) [x.enc,[dI l]] (λr=>∃z:Int,(0<=z↔x∈l)/\r=[[vI z],[dI l]]):=by
  unfold g160;simp only[aj];refine aZ l.length (λk=>[[vI (l.length:Int)],[vI (k:Int)],[dI l],x.enc]) (λk=>x ∉ l.take k) Q2 rfl λk next hi hI hn=>?_
  simp only[aj,aG];refine⟨λh=>?_,λh=>?_⟩
  .have hk:k<l.length:=Q0;rw[eK _ hk];simp only[aj,aG];refine⟨Q0,λe=>⟨_,?_,rfl⟩,λe=>⟨Q4,hn hk (zj hk hI λe2=>e e2.symm)⟩⟩
   grind
  all_goals grind
 obtain⟨r,⟨z,hz,rfl⟩,h⟩:=w160.some key (by rintro r ⟨z,_,rfl⟩;exact trivial);exact⟨z,hz,h⟩
theorem Ff(l:List ar)(x:ar)(hl:l.length<=1000000000000):IS s68 [x.enc,[dI l]] [[vB (decide (x∈l))],[dI l]]:=by
 refine w68.is ?_;unfold g68;simp only[aj];obtain⟨z,hz,h⟩:=OU l x hl;refine aa h ?_;simp only[aj]
 grind
theorem GC(l:List ar)(x:ar)(hl:l.length<=1000000000000):IS s67 [x.enc,[dI l]] [[vB (!decide (x∈l))],[dI l]]:=by refine w67.is ?_;unfold g67;simp only[aj];refine aa (Ff l x hl) ?_;simp only[aj]
theorem GD(u l:List ar)(hl:l.length<=1000000000000)(hu:u.length<=1000000000000):∃z:Int,(0<=z↔¬∀x∈u,x∈l)/\IS Im [[dI u],[dI l]] [[vI z],[dI l]]:=by
 have key:Pb (la Qu) [[dI u],[dI l]] (λr=>∃z:Int,(0<=z↔¬∀x∈u,x∈l)/\r=[[vI z],[dI l]]):=by
  unfold Pb;simp only[aj];refine aZ u.length (λk=>[[dI u],[vI (u.length:Int)],[vI (k:Int)],[dI l]]) (λk=>∀x∈u.take k,x∈l) Q2 rfl λk next hi hI hn=>?_
  simp only[aj];refine⟨λh=>?_,λh=>?_⟩
  .have hk:k<u.length:=Q0;rw[eK _ hk];refine⟨Q0,aa (GC l _ hl) ?_⟩;simp only[aj,aG];refine⟨λe=>⟨Q4,hn hk λx hx=>?_⟩,λe=>⟨_,?_,rfl⟩⟩
   .rw[Qv hk,QK,QI]at hx
    grind
   all_goals grind
  all_goals grind
 obtain⟨r,⟨z,hz,rfl⟩,h⟩:=w64_2.some key (by rintro r ⟨z,_,rfl⟩;exact trivial);exact⟨z,hz,h⟩
theorem Ls(u l:List ar)(hl:l.length<=1000000000000)(hu:u.length<=1000000000000):IS s66 [[dI u],[dI l]] [[vB (!iG u l)],[dI l]]:=by
 refine w66.is ?_;unfold g66;simp only[aj];obtain⟨z,hz,h⟩:=GD u l hl hu;refine aa h ?_;simp only[aj];unfold iG
 grind
def mE(f:ar->D)(x:ar):List D:=[ai x.aD,ai x.seq,ai x.index,f x]
abbrev dM(f:ar->D)(L:List ar):D:=.sl L.length 4 (L.flatMap (mE f))
theorem mkey(i x:ar)(ds:List D):x9 i.aD i.seq i.index (ai x.aD::ai x.seq::ai x.index::ds)=decide (i=x):=by show decide (x.aD=i.aD/\x.seq=i.seq/\x.index=i.index)=_;refine decide_eq_decide.2 ⟨λh=>(ar.ext' h.1 h.2.1 h.2.2).symm,λh=>by grind⟩
theorem Ow(f:ar->D)(x:ar)(L:List ar):(x::L).flatMap (mE f)=ai x.aD::ai x.seq::ai x.index::([f x]++L.flatMap (mE f)):=rfl
theorem qQ(f:ar->D)(i:ar):∀L:List ar,bu 4 i.aD i.seq i.index L.length (L.flatMap (mE f))=if i∈L then some [f i] else none
 |[]=>rfl
 |x::L=>by
  rw[Ow,QG,bu,mkey];by_cases h:i=x
  .grind
  .rw[J6 h];show bu 4 i.aD i.seq i.index L.length (L.flatMap (mE f))=_;rw[qQ f i L];simp[h]
theorem Ao(f:ar->D)(i:ar):∀L:List ar,i ∉ L->cS 4 i.aD i.seq i.index [f i] L.length (L.flatMap (mE f))=(L++[i]).flatMap (mE f)
 |[],_=>rfl
 |x::L,hf=>by have h:¬i=x:=λe=>hf (by grind);have hk:=Ao f i L λhm=>hf (Qx _ hm);rw[Ow,QG,cS,mkey,J6 h];show List.take 4 _++cS 4 i.aD i.seq i.index [f i] L.length (L.flatMap (mE f))=_;rw[hk];rfl
theorem El(f:ar->D)(i:ar)(L:List ar)(h:i ∉ L):fH 4 i.aD i.seq i.index L.length (L.flatMap (mE f))=L.length+1:=by unfold fH;rw[qQ,J1 h]
abbrev uD(p:av)(x:ar):D:=dI (aU p x)
theorem free_is(p:av)(L out:List ar)(x:ar)(hx:x∈L)(ho:out.length<=1000000000000)(hs:∀j,(an p j).wt<=800000000000):IS s65 [x.enc,[dM (uD p) L],[dI out]] [[vB (iG (aU p x) out)],[dM (uD p) L],[dI out]]:=by refine w65.is ?_;unfold g65;simp only[aj,aG];rw[qQ,J2 hx];have hu:=tt p x;have:=hs x;refine aa (Ls (aU p x) out ho Q0) ?_;simp only[aj,Bool.not_not]
theorem Ch(p:av)(L out left:List ar)(hL:∀x∈left,x∈L)(ho:out.length<=1000000000000)(hl:left.length<=1000000000000)(hs:∀j,(an p j).wt<=800000000000) :
  IS Io [[dI left],[dM (uD p) L],[dI out]] [[vI (match kS p out left with|some k=>(k:Int)|none=>-1)],[dI left],[dM (uD p) L],[dI out]]:=by
 refine w64_1.is ?_;unfold g64_1;simp only[aj];refine aZ left.length (λk=>[[vI (left.length:Int)],[vI (k:Int)],[dI left],[dM (uD p) L],[dI out]]) (λk=>∀j (hj:j<left.length),j<k->iG (aU p left[j]) out=false) (λ_ _ h=>J3 h (RP _)) rfl λk next hi hI hn=>?_
 simp only[aj];refine⟨λh=>?_,λh=>?_⟩
 .have hk:k<left.length:=Q0;rw[eK _ hk];refine⟨Q0,aa (free_is p L out _ (hL _ (QB hk)) ho hs) ?_⟩;simp only[aj];cases hb:iG (aU p left[k]) out with
  |true=>simp only[aj];rw[L4 hk hb λj hj=>hI j Q0 hj]
  |false =>
   simp only[aj];refine⟨Q4,hn hk λj hj h=>?_⟩;by_cases e:j=k
   .subst e;exact hb
   .exact hI j hj Q0
 .obtain rfl:k=left.length:=Q0;rw[ER λj hj=>hI j hj hj]
theorem Mc(l:List ar)(k:Nat)(hk:k<l.length)(hl:l.length<=1000000000000):IS s69 [[vI (k:Int)],[vI ((k:Int)+1)],[dI l]] [[dI (l.eraseIdx k)]]:=by
 have hlen:(l.eraseIdx k).length=l.length-1:=by grind
 have e1:((k:Int)+1).toNat=k+1:=Q0;have hmid:cQ (l.flatMap ar.enc) (k*3) (sub (l.flatMap ar.enc) ((k+1)*3) ((l.length-(k+1))*3))=(l.eraseIdx k++l.drop (l.length-1)).flatMap ar.enc:=by
  have hsub:sub (l.flatMap ar.enc) ((k+1)*3) ((l.length-(k+1))*3)=(l.drop (k+1)).flatMap ar.enc:=by unfold sub;rw[yd,oN,Rj Q2]
  have hlen2:((l.drop (k+1)).flatMap ar.enc).length=(l.length-(k+1))*3:=by rw[eJ (sz:=3) (λ_=>rfl),List.length_drop]
  rw[hsub];unfold cQ;rw[hlen2,<-RA,show k+(l.length-(k+1))=l.length-1 by omega,oN,yd,List.eraseIdx_eq_take_drop_succ,QV,QV]
 have e0:∀n:Nat,((0:Nat):Int)+(n:Int)=n:=λn=>by omega
 have hcut:∀(z:List D) (R:List ar),R.length=l.length->R.take (l.length-1)=l.eraseIdx k->D.sl (l.length-1) 3 (sub (cQ (R.flatMap ar.enc) ((0+(l.length-1))*3) z) (0*3) ((l.length-1)*3))=dI (l.eraseIdx k):=λz R h1 h2=>by rw[Hh Q0,h2]
 refine w69.isG ?_;unfold g69;simp only[aj,e0,e1,Nat.sub_zero,Rn];refine⟨⟨trivial,Q0,Q0,Q0,Q0⟩,λh=>by omega,λ_=>⟨Q0,Q0,λh=>?_,λh=>⟨λh2=>?_,λh2=>by omega⟩⟩⟩
 .have ek:k=l.length-1:=Q0;have:=hcut ((QY (l.length-k) [vI 0,vI 0,vI 0]).flatten) l rfl (by grind);rw[<-ek,Rn]at this;refine⟨Q0,⟨trivial,Q0,Q0⟩,Q0,?_⟩;rw[<-this]
 .have ek:k+(l.length-(k+1))=l.length-1:=Q0;have hx:=hcut ((QY (l.length-(l.length-1)) [vI 0,vI 0,vI 0]).flatten) (l.eraseIdx k++l.drop (l.length-1)) (by grind) (by grind);rw[<-hmid,Rn]at hx;rw[ek];refine⟨Q0,⟨trivial,Q0,Q0⟩,Q0,?_⟩;rw[<-hx]
def uE:Prop:=∀l:List ar,l.length<=1000000000000->IS s78 [[dI l]] [[dI (jX l)]]
structure Bh(p:av):Prop where
 d:p.ae.length<=1000
 w:∀j,(an p j).wt<=800000000000
theorem zI(l:List ar):(jX l).length=l.length:=(rC l).2.length_eq
theorem vH(hS:uE){p:av}(hp:Bh p)(i:ar):IS s18 [p.enc,i.enc] [[dI (aU p i)]]:=by
 refine w18.is ?_;unfold g18;simp only[aj];refine aa (pN p i (by have:=hp.d;omega)) ?_;simp only[aj,aG];refine⟨λh=>?_,λh=>?_⟩
 .have hd:=hp.w i;have hu:=MF h;have hraw:=Nu (an p i);have hw:(an p i).wt=(an p i).au.size+kz (an p i).ah+(an p i).body.wt:=rfl;unfold Ga at hu hraw;generalize an p i=d at hd hu hraw hw ⊢;refine aa (sr _ Q0) ?_;simp only[aj];have hsl:=zM d.ah;have h1:=eV d.au;refine aZ d.ah.length (λi=>[[.sl d.ah.length 11 (d.ah.flatMap aC.enc)],[vI (d.ah.length:Int)],[vI (i:Int)],p.enc,d.enc,[dI (cR d.au++kA (d.ah.take i))]]) (λ_=>True) trivial (by simp[kA]) λi next hi _ hn=>?_
  have h2:=FY d.ah i;simp only[aj,aG];refine⟨λh=>?_,λh=>?_⟩
  .have hk:i<d.ah.length:=Q0;have hm:=zL (QB hk);have h5:=eV d.ah[i].ty;rw[oU _ hk];simp only[aG];refine⟨Q0,aa (sr _ Q0) ?_⟩;simp only[aj];refine⟨by unfold aO;rw[QC];omega,Q4,?_⟩;have:=hn hk trivial;rw[FZ hk,<-QU]at this
   grind
  .obtain rfl:i=d.ah.length:=Q0;rw[Re]at h2 ⊢;refine bC [p.enc,[dI (cR d.au++kA d.ah++if lF d.kind then jR d.body else[])]] ?_ ?_
   .refine aa (yH d) ?_;simp only[aj];refine⟨λhb=>aa (HO d.body _ (by grind)) ?_,λhb=>?_⟩
    .simp only[aj];rw[J2 hb]
    all_goals grind
   .simp only[aj];have hf:((cR d.au++kA d.ah++if lF d.kind then jR d.body else[]).filter (dT p)).length<=d.wt:=SS (Xk _ _) hraw;refine aa (zk p _ (by have:=hp.d;omega) Q0) ?_;simp only[aj];refine aa (hS _ Q0) ?_;simp only[aj];refine aa (rb _ (by rw[zI];omega)) ?_;simp only[aj];rw[hu]
 .unfold aU;rw[J1 h];rfl
theorem G1(hS:uE){p:av}(hp:Bh p):IS s63 [p.enc] [[dI (gP (jX (p.ae.map aq.id)))]]:=by
 have hd:=hp.d;refine w63.is ?_;unfold g63;have hc:cell p.enc 1=.sl p.ae.length 31 (p.ae.flatMap aq.enc):=rfl;simp only[aj,hc];refine bC [[dI (p.ae.map aq.id)]] ?_ ?_
 .refine aZ p.ae.length (λk=>[[.sl p.ae.length 31 (p.ae.flatMap aq.enc)],[vI (p.ae.length:Int)],[vI (k:Int)],[dI ((p.ae.take k).map aq.id)]]) (λ_=>True) trivial rfl λk next hi _ hn=>?_
  have hl:((p.ae.take k).map aq.id).length<=p.ae.length:=by simp;omega
  simp only[aj];refine⟨λh=>?_,λh=>?_⟩
  .have hk:k<p.ae.length:=Q0;rw[gw _ hk];simp only[aG];refine⟨Q0,Qa,Q4,?_⟩;have:=hn hk trivial;rw[Qv hk,Rb]at this;rw[j6];exact this
  all_goals grind
 .simp only[aj];refine aa (hS _ Qc) ?_;simp only[aj];refine aa (rb _ (by rw[zI];simp;omega)) ?_;simp only[aj]
def uo(p:av):List ar:=jo [] (p.ae.map aq.id)
theorem idsP_eq(p:av):gP (jX (p.ae.map aq.id))=uo p:=Kb λ_=>S4
theorem O5(p:av):iS (uo p):=(kN SK).1
theorem O4(p:av):(uo p).length<=p.ae.length:=by have:=qU (p.ae.map aq.id) [];simpa[uo]using this
theorem LP{l:List ar}(h:iS l):l.Nodup:=SH (λh=>np h) h
theorem DX{p:av}{out left:List ar}{k:Nat}(h:kS p out left=some k)(hk:k<left.length):jQ p left.length out left=jQ p (left.eraseIdx k).length (out++[left[k]]) (left.eraseIdx k):=by
 obtain⟨n,hn⟩:∃n,left.length=n+1:=⟨left.length-1,Q0⟩;rw[hn,jQ,h]
 grind
theorem DW(hS:uE){p:av}(hp:Bh p):IS s15 [p.enc] [[dI (jQ p (uo p).length [] (uo p)).1],[dI (jQ p (uo p).length [] (uo p)).2]]:=by
 have hd:=hp.d;have hlen:=O4 p;have hnd:=LP (O5 p);have hall:=G1 hS hp;rw[idsP_eq]at hall;have hs:∀j,(an p j).wt<=800000000000:=λj=>by have:=hp.w j;omega
 refine w15.is ?_;unfold g15;simp only[aj];refine aa hall ?_;simp only[aj];generalize uo p=L at hlen hnd ⊢;refine bC [[dI L],[dI []],[dM (uD p) L]] ?_ ?_
 .refine aZ L.length (λk=>[[vI (L.length:Int)],[vI (k:Int)],p.enc,[dI L],[dI []],[dM (uD p) (L.take k)]]) (λ_=>True) trivial rfl λk next hi _ hn=>?_
  simp only[aj];refine⟨λh=>?_,λh=>?_⟩
  .have hk:k<L.length:=Q0;rw[eK _ hk];refine⟨Q0,aa (vH hS hp _) ?_⟩;simp only[aj,aG];have hnot:L[k] ∉ L.take k:=λhm=>by obtain⟨j,hj,e⟩:=QO.1 hm;rw[List.getElem_take]at e;rw[Rf]at hj;exact List.pairwise_iff_getElem.1 hnd j k Q0 hk Q0 e
   have:=hn hk trivial;rw[Qv hk]at this;rw[Ao (uD p) _ _ hnot,El (uD p) _ _ hnot];refine⟨Q4,?_⟩;have e:((L.take k)++[L[k]]).length=(L.take k).length+1:=by grind
   grind
  all_goals grind
 .simp only[aj];refine dG (σ:=List ar×List ar) (λs=>[[dI s.2],[dI s.1],[dM (uD p) L]]) (λs=>s.2.length) (λs=>(∀x∈s.2,x∈L)/\s.1.length+s.2.length<=1000/\jQ p s.2.length s.1 s.2=jQ p L.length [] L) ([],L) ⟨λ_ h=>h,Qc,rfl⟩ rfl ?_;rintro⟨out,left⟩ next ⟨h1,h2,h3⟩ hn
  dsimp only at h1 h2 h3 hn ⊢;simp only[aj];refine aa (Ch p L out left h1 Q0 Q0 hs) ?_;simp only[aj];cases hf:kS p out left with
  |none=>refine⟨λ_=>?_,λh=>J3 (show(-1:Int)<0 by decide) h⟩;rw[<-h3,DY hf]
  |some k =>
   obtain⟨hk,_⟩:=EP hf;dsimp only;have hel:(left.eraseIdx k).length=left.length-1:=by grind
   refine⟨λh=>by omega,λ_=>⟨Q0,Qa,Q4,aa (Mc left k hk Q0) ?_⟩⟩;rw[Rx,eK _ hk,j6];simp only[aj];exact hn (out++[left[k]],left.eraseIdx k) (by grind) ⟨λx hx=>h1 x (List.mem_of_mem_eraseIdx hx),by grind,by rw[<-DX hf hk];exact h3⟩
open Go.Shelf Go.RowKit Go.Lib Go.Sort
def De:TO:=⟨fun|6=>78|15=>157|14=>162|28=>209|29=>210|20=>211|21=>212|22=>213|23=>214|24=>215|25=>216|26=>217|27=>218|46=>243|47=>239|48=>240|49=>244|50=>245|57=>262|n=>n,fun|22=>36|24=>42|25=>114|3=>3|39=>207|0=>0|53=>256|55=>258|4=>4|46=>249|45=>248|50=>253|5=>5|9=>9|66=>279|70=>283|76=>293|77=>183|n=>n,fun|n=>n⟩
theorem H7:Uc Qu De:={
 mixed:=by kernel_rfl
 f6:=⟨Tryz.f78.name,Q1,Tryz.func78.trans (J4 some (by kernel_rfl))⟩
 f14:=⟨Tryz.f162.name,Q1,Tryz.func162.trans (J4 some (by kernel_rfl))⟩
 f15:=WB.trans (J4 some (by kernel_rfl))
 f20:=⟨Tryz.f211.name,Q1,Tryz.func211.trans (J4 some (by kernel_rfl))⟩
 f21:=⟨Tryz.f212.name,Q1,Tryz.func212.trans (J4 some (by kernel_rfl))⟩
 f22:=⟨Tryz.f213.name,Q1,Tryz.func213.trans (J4 some (by kernel_rfl))⟩
 f23:=⟨Tryz.f214.name,Q1,Tryz.func214.trans (J4 some (by kernel_rfl))⟩
 f24:=⟨Tryz.f215.name,Q1,Tryz.func215.trans (J4 some (by kernel_rfl))⟩
 f25:=⟨Tryz.f216.name,Q1,Tryz.func216.trans (J4 some (by kernel_rfl))⟩
 f26:=⟨Tryz.f217.name,Q1,Tryz.func217.trans (J4 some (by kernel_rfl))⟩
 f27:=⟨Tryz.f218.name,Q1,Tryz.func218.trans (J4 some (by kernel_rfl))⟩
 f28:=WC.trans (J4 some (by kernel_rfl))
 f29:=WD.trans (J4 some (by kernel_rfl))
 f46:=⟨Tryz.f243.name,Q1,Tryz.func243.trans (J4 some (by kernel_rfl))⟩
 f47:=WE.trans (J4 some (by kernel_rfl))
 f48:=WG.trans (J4 some (by kernel_rfl))
 f49:=⟨Tryz.f244.name,Q1,Tryz.func244.trans (J4 some (by kernel_rfl))⟩
 f50:=⟨Tryz.f245.name,Q1,Tryz.func245.trans (J4 some (by kernel_rfl))⟩
 f57:=⟨Tryz.f262.name,Q1,Tryz.func262.trans (J4 some (by kernel_rfl))⟩
 t0:=VG
 a0:=WU
 z0:=WH
 v0:=VO
 t3:=Sc
 a3:=Tw
 z3:=Tk
 v3:=SY
 t4:=Sd
 a4:=SG
 z4:=SC
 v4:=Si
 t5:=VH
 a5:=WV
 z5:=WI
 v5:=VP
 t9:=VI
 a9:=WW
 z9:=UC
 v9:=VQ
 t22:=Tryz.underlying36
 a22:=Tryz.isAgg36
 z22:=Tryz.sizeOf36
 v22:=Tryz.zeroValue36
 t25:=Tryz.underlying114
 a25:=Tryz.isAgg114
 z25:=Tryz.sizeOf114
 v25:=Tryz.zeroValue114
 t39:=Va
 a39:=Wn
 z39:=VV
 v39:=Vr
 t45:=Vb
 a45:=Wo
 z45:=VW
 v45:=Vs
 t46:=Vc
 a46:=Wp
 z46:=VX
 v46:=Vt
 t50:=Vd
 a50:=Wq
 z50:=VY
 v50:=Vu
 t53:=Ve
 a53:=Wr
 z53:=VZ
 v53:=Vv
 t55:=Vf
 a55:=Ws
 z55:=V0
 v55:=Vw
 t66:=Vg
 a66:=Wt
 z66:=Wa
 v66:=Vx
 t70:=Vh
 a70:=Wu
 z70:=Wb
 v70:=Vy
 t76:=Vi
 a76:=Wv
 z76:=Wc
 v76:=Vz
 t77:=Vj
 a77:=Ww
 z77:=We
 v77:=VA}
def Mf:TO:=⟨fun|5=>56|7=>158|n=>n,fun|22=>3|3=>3|4=>4|n=>n,fun|n=>n⟩
theorem JB:Xl Qu Mf:={
 mixed:=by kernel_rfl
 f5:=⟨Tryz.f56.name,Q1,Tryz.func56.trans (J4 some (by kernel_rfl))⟩
 f7:=⟨Tryz.f158.name,Q1,Tryz.func158.trans (J4 some (by kernel_rfl))⟩
 t3:=Sc
 a3:=Tw
 z3:=Tk
 v3:=SY
 t4:=Sd
 a4:=SG
 z4:=SC
 v4:=Si
 t22:=Sc
 a22:=Tw
 z22:=Tk
 v22:=SY}
set_option maxHeartbeats 1000000 in
theorem or54(x y z:Int)(b:Nat)(W:QL)(h0:W.cell? ⟨b,0,none⟩=some (.int .i64 x))(h1:W.cell? ⟨b,1,none⟩=some (.int .i64 y))(h2:W.cell? ⟨b,2,none⟩=some (.int .i64 z)) :
  T8 Qu 54 #[.slice (some ⟨b,0,none⟩) 3 3] W λe w'=>e=.returned (.int .i64 (if x=0 then(if y=0 then z else y) else x))/\w'=W:=by
 generalize hr:(if x=0 then(if y=0 then z else y) else x)=r;go_enter Tryz.func54,Tryz.ntmps54;go_wp2;refine wp_loop_rounds 4 ?_;rw[UX];go_wp2
 .go_ret;refine⟨?_,rfl⟩;simp_all
 rw[UX];go_wp2
 .go_ret;refine⟨?_,rfl⟩;simp_all
 rw[UX];go_wp2
 .go_ret;refine⟨?_,rfl⟩;simp_all
 rw[UX];go_wp2;go_ret;refine⟨?_,rfl⟩;simp_all
theorem al3(W:QL)(a b c:Value)(k:Nat)(v:Value)(hk:#[a,b,c][k]?=some v):(W.alloc (.cells #[a,b,c] 3)).cell? ⟨W.heap.size,k,none⟩=some v:=by simp_all
set_option maxRecDepth 20000 in
set_option maxHeartbeats 2000000 in
theorem IM(x y:Int×Int×Int)(W:QL):T8 Qu 55 #[.agg #[.int .i64 x.1,.int .i64 x.2.1,.int .i64 x.2.2],.agg #[.int .i64 y.1,.int .i64 y.2.1,.int .i64 y.2.2]] W λe w' =>
  e=.returned (.int .i64 (if QJ x.1 y.1=0 then(if QJ x.2.1 y.2.1=0 then QJ x.2.2 y.2.2 else QJ x.2.1 y.2.1) else QJ x.1 y.1))/\∃q os',w'=grow (W.drewN q) os':=by
 have hcmp:∀(a b:Int) (W':QL),T8 Qu 56 #[.int .i64 a,.int .i64 b] W' λe w'=>e=.returned (.int .i64 (QJ a b))/\w'=W':=λa b W'=>Tc JB a b W';obtain⟨x1,x2,x3⟩:=x;obtain⟨y1,y2,y3⟩:=y;dsimp only;generalize hr:(if QJ x1 y1=0 then(if QJ x2 y2=0 then QJ x3 y3 else QJ x2 y2) else QJ x1 y1)=r;go_enter Tryz.func55,Tryz.ntmps55;go_wp2;have hg:(W.alloc (.cells #[.int .i64 x1,.int .i64 x2,.int .i64 x3] 42)).alloc (.cells #[.int .i64 y1,.int .i64 y2,.int .i64 y3] 42)=grow W #[.cells #[.int .i64 x1,.int .i64 x2,.int .i64 x3] 42,.cells #[.int .i64 y1,.int .i64 y2,.int .i64 y3] 42]:=by rw[alloc_eq_grow,alloc_eq_grow,grow_grow];rfl
 rw[hg];have c1:(grow W #[.cells #[.int .i64 x1,.int .i64 x2,.int .i64 x3] 42,.cells #[.int .i64 y1,.int .i64 y2,.int .i64 y3] 42]).heap[W.heap.size]?=some (.cells #[.int .i64 x1,.int .i64 x2,.int .i64 x3] 42):=by simp[grow]
 have c2:(grow W #[.cells #[.int .i64 x1,.int .i64 x2,.int .i64 x3] 42,.cells #[.int .i64 y1,.int .i64 y2,.int .i64 y3] 42]).heap[W.heap.size+1]?=some (.cells #[.int .i64 y1,.int .i64 y2,.int .i64 y3] 42):=by simp[grow]
 generalize hW1:grow W #[.cells #[.int .i64 x1,.int .i64 x2,.int .i64 x3] 42,.cells #[.int .i64 y1,.int .i64 y2,.int .i64 y3] 42]=W1 at c1 c2 ⊢;refine wp_region_still_tail 15 (by kernel_rfl) (by kernel_rfl) ?_;simp only[RK,Sz,RS,RR];generalize hW2:({heap:=W1.heap,tape:=W1.tape,drawn:=W1.drawn+1,os:=W1.os,output:=W1.output}:QL)=W2;have c10:W2.cell? ⟨W.heap.size,0,none⟩=some (.int .i64 x1):=by rw[<-hW2];simp[RQ,c1]
 have c11:W2.cell? ⟨W.heap.size,1,none⟩=some (.int .i64 x2):=by rw[<-hW2];simp[RQ,c1]
 have c12:W2.cell? ⟨W.heap.size,2,none⟩=some (.int .i64 x3):=by rw[<-hW2];simp[RQ,c1]
 have c20:W2.cell? ⟨W.heap.size+1,0,none⟩=some (.int .i64 y1):=by rw[<-hW2];simp[RQ,c2]
 have c21:W2.cell? ⟨W.heap.size+1,1,none⟩=some (.int .i64 y2):=by rw[<-hW2];simp[RQ,c2]
 have c22:W2.cell? ⟨W.heap.size+1,2,none⟩=some (.int .i64 y3):=by rw[<-hW2];simp[RQ,c2]
 repeat still_step
 still_call (hcmp _ _ _)
 repeat still_step
 still_call (hcmp _ _ _)
 repeat still_step
 still_call (hcmp _ _ _)
 refine wpStill_nil ?_;have hor:T8 Qu 54 #[.slice (some ⟨W2.heap.size,0,none⟩) 3 3] (W2.alloc (.cells #[.int .i64 (QJ x1 y1),.int .i64 (QJ x2 y2),.int .i64 (QJ x3 y3)] 3)) _ :=
  or54 (QJ x1 y1) (QJ x2 y2) (QJ x3 y3) W2.heap.size _ (al3 _ _ _ _ _ _ rfl) (al3 _ _ _ _ _ _ rfl) (al3 _ _ _ _ _ _ rfl)
 rw[hr]at hor
 go_wp2_with (go_at_call 54;refine hor.mono ?_;rintro e w' ⟨rfl,rfl⟩)
 go_ret;refine⟨rfl,1,#[.cells #[.int .i64 x1,.int .i64 x2,.int .i64 x3] 42,.cells #[.int .i64 y1,.int .i64 y2,.int .i64 y3] 42,.cells #[.int .i64 (QJ x1 y1),.int .i64 (QJ x2 y2),.int .i64 (QJ x3 y3)] 3],?_⟩;rw[<-hW2,<-hW1,alloc_eq_grow];rfl
end Go.Proofs.YtmbboaapillefaaGreatDoor
namespace Go
open Xe
section
variable {P:Program} {ops:Array Oper} {md:YA} {C:QL->Prop}
def rp(P:Program)(md:YA)(ops:Array Oper)(C:QL->Prop)(n:Nat)(L:Array Bool->Act->Prop):Nat->Array Bool->Act->Prop
 |0,listed,a=>L listed a
 |f+1,listed,a =>
  Te md ops listed≠[]/\∀i∈Te md ops listed,i<n/\qOp P ops C i (rp P md ops C n L f (listed.setIfInBounds i true)) a
theorem nV{n g:Nat}{L:Array Bool->Act->Prop}{Q':Exit->Act->QL->Prop}(hL:∀listed a w,C w->L listed a->wpAny P md ops Q' g listed a w) :
  ∀(f:Nat) (listed:Array Bool) (a:Act) (w:QL),C w->rp P md ops C n L f listed a->wpAny P md ops Q' (f+g) listed a w
 |0,listed,a,w,hw,h=>by rw[Rn];exact hL _ _ _ hw h
 |f+1,listed,a,w,hw,h=>by rw[show f+1+g=(f+g)+1 by omega];exact⟨λh0=>J3 h0 h.1,λi hi=>wpOp_of_qOp hw (λa' w' hw' h'=>nV hL f _ a' w' hw' h') (h.2 i hi).2⟩
theorem yY{n i:Nat}{oi:Oper}{v:Value}{L:Array Bool->Act->Prop}(hi:ops[i]?=some oi)(hsel:∀(j:Nat) (o:Oper) cs b,ops[j]?=some o->o.op≠.select cs b)
  (hs:Yr md ops n=true) (hc:Yg md ops n=true) (hn:n<ops.size) (hin:i<n)
  (hdone:∀listed a,L listed a->∀j∈Te md ops listed,n<=j) :
  ∀(f:Nat) (listed:Array Bool) (a:Act),HeadInv md ops n listed ->
   (∀j oj,ops[j]?=some oj->j≠i->listed.getD j true=false->(∀e∈oj.after,SV md e=true->e.on≠i)->oi.apart ops oj=true) ->
   i∈Te md ops listed->YieldsIn P ops C oi v a ->
   rp P md ops C n L f (listed.setIfInBounds i true) (a.put oi.dst v)->rp P md ops C n L (f+1) listed a:=by
 intro f;induction f with
 |zero =>
  intro listed a inv _ hr hy H;have hun:=(mem_ready.1 hr).1;refine⟨λh=>(by grind),λj hj=>?_⟩;have hjn:j<n:=by
   rcases U0 j n with h|h
   .exact h
   .exact J3 hj (tail_waits hs hc hn inv _ i rfl hin hun j h)
  refine⟨hjn,?_⟩;by_cases hji:j=i
  .subst hji;exact hy.qOp hi H
  .have:=hdone _ _ H j (YB hj hji);omega
 |succ f ih =>
  intro listed a inv hfree hr hy H;have hun:=(mem_ready.1 hr).1;refine⟨λh=>(by grind),λj hj=>?_⟩;have hjn:j<n:=by
   rcases U0 j n with h|h
   .exact h
   .exact J3 hj (tail_waits hs hc hn inv _ i rfl hin hun j h)
  refine⟨hjn,?_⟩;by_cases hji:j=i
  .subst hji;exact hy.qOp hi H
  .have h1:=(H.2 j (YB hj hji)).2;obtain⟨hjun,oj,hoj,hall⟩:=mem_ready.1 hj;have hnot:∀e∈oj.after,SV md e=true->e.on≠i:=λe he hb heq=>by
    grind
   have h2:=qOp_put hoj (hfree j oj hoj hji hjun hnot) (λcs b=>hsel i oi cs b hi) (λcs b=>hsel j oj cs b hoj) hy h1;have hfree':∀k ok,ops[k]?=some ok->k≠i->(listed.setIfInBounds j true).getD k true=false ->
     (∀e∈ok.after,SV md e=true->e.on≠i)->oi.apart ops ok=true:=λk ok hk hki hun hno=>by
    refine hfree k ok hk hki ?_ hno;by_cases hjk:j=k
    .subst hjk;exact hjun
    .rw[getD_set_ne true hjk]at hun;exact hun
   refine qOp_mono (λa' h3=>ih (listed.setIfInBounds j true) a' (inv.set hj hjn) hfree' (YB hr (Ne.symm hji)) h3.1 ?_) h2;rw[Array.setIfInBounds_comm _ _ hji];exact h3.2
theorem uJ{n g:Nat}{Lq:Act->Prop}(hsel:Region.noSelect ops=true)(hs:Yr md ops n=true)(hc:Yg md ops n=true)(hn:n<ops.size) :
  ∀(l:List Oper) (k:Nat) (listed:Array Bool) (a:Act),(∀j,j<l.length->l[j]?=ops[k+j]?)->k+l.length=n->HeadInv md ops n listed ->
  VU md ops g l.length k listed=true->YQ P ops C Lq l a ->
  rp P md ops C n (λlisted' a'=>Region.seqB md ops g n listed'=true/\Lq a') l.length listed a
 |[],k,listed,a,_,hk,_,hB,h=>by have:k=n:=Q0;subst this;exact⟨by simpa[VU]using hB,h⟩
 |o::l,k,listed,a,hl,hk,inv,hB,h=>by
  have h0:ops[k]?=some o:=by simpa using(hl 0 Q2).symm
  simp only[QG,VU,QA]at hB;obtain⟨⟨hr,hf⟩,hB'⟩:=hB;have hkn:k<n:=by grind
  have hr':k∈Te md ops listed:=by grind
  have hst:qOp P ops C k (YQ P ops C Lq l) a:=by unfold qOp;simp only[h0];exact h
  obtain⟨v,hy,hK⟩:=yieldsIn_of_qOp h0 hst;exact yY h0 (Region.noSelect_spec hsel) hs hc hn hkn (λlisted' a' hL=>seqB_ready hL.1) l.length listed a inv (Region.free_spec h0 hf) hr' hy
   (uJ hsel hs hc hn l (k+1) _ _ (λj hj=>by have:=hl (j+1) Qc;simpa[RW,S9 1 j]using this) (by grind) (inv.set hr' hkn) hB' hK)
theorem nU{id:Nat}{Q:Exit->Act->QL->Prop}{a:Act}{w:QL}{l:List Oper}(n:Nat)(hm:P.follows .mixedOrders=true)(hB:VF .any l.toArray n=true)(hC:C {w with drawn:=w.drawn+1})
  (h:YQ P l.toArray C (λa'=>∀w',C w'->wpList P l.toArray Q (l.drop n) a' w') (l.take n) a):(Y0 id l.toArray true).wp P Q a w:=by
 simp only[VF,QA,decide_eq_true_eq]at hB;obtain⟨⟨⟨⟨hsel,hn⟩,hs⟩,hc⟩,hlex⟩:=hB;have hn':n<l.length:=Q0;have htl:(l.take n).length=n:=by simp;omega
 have hdl:(l.drop n).length=l.toArray.size-n:=Q2;have inv0:HeadInv .any l.toArray n (Array.replicate l.toArray.size false) :=
  ⟨Q2,λj oj _ hl=>(by rw[Yh]at hl;cases hl),λt _ ht=>getD_in (by grind) (Yh _ _)⟩
 have H:=uJ (md:=.any) (g:=l.toArray.size-n) hsel hs hc hn (l.take n) 0 _ a (λj hj=>by
  have hj':j<n:=Q0
  simp[hj']) Q0 inv0 (by grind) h
 refine wp_region_any hm ?_
 have:=nV (Q':=Q) (g:=l.toArray.size-n) (λlisted a' w' hw' hL=>by
  have:=wpAny_of_seq (md:=.any) (Q':=Q) (l.drop n) n listed a' w' (λj=>by grind) (by grind) (hL.2 w' hw')
  rwa [hdl]at this) _ _ _ _ hC H
 rw[htl,show n+(l.toArray.size-n)=l.toArray.size by omega]at this;exact this
theorem ju{id:Nat}{Q:Exit->Act->QL->Prop}{a:Act}{w:QL}{l:List Oper}(n:Nat)(hm:P.follows .mixedOrders=true)(hB:VF .any l.toArray n=true)
  (h:YQ P l.toArray (λw'=>∃p:GrownBy,w'=Ya (w.drewN p.n) p.os) (λa'=>∀w',(∃p:GrownBy,w'=Ya (w.drewN p.n) p.os)->wpList P l.toArray Q (l.drop n) a' w') (l.take n) a):(Y0 id l.toArray true).wp P Q a w :=
 nU (C:=λw'=>∃p:GrownBy,w'=Ya (w.drewN p.n) p.os) n hm hB ⟨⟨1,#[]⟩,by rw[Sort.grow_empty];rfl⟩ h
end
end Go
