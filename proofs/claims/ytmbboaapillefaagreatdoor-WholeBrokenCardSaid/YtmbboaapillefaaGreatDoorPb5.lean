/- Wx6, Wq5, Wq6, Wq7, Wq8, Wq9, Wq10, Wq11, Wp3, Wp4, Wp5, Wp6, Wq12, Wq13, Wq14, Wq15, Wq16, Wq17, Wq18, Wq19, Wq20, Wq21, Wq22, Wq23, Wx7, Wx8, Wz4, Wx10, Wx2, ZwcatTab, ZwcatC, Wx3, Wx11, PmZl, Wy1, Wy2, Wy3, Wy4, Wy5, Wy6, Wy7, Wy8, Wy9, Wy10, Wy11, Wy13, Wz1, Wz2, Wz3, put together. -/
import Derived.Test.YtmbboaapillefaaGreatDoorPb4
import Derived.Test.YtmbboaapillefaaGreatDoorProg
import Derived.KernelRfl
open Array renaming getElem?_append_left->XN,getElem?_modify->Yb
open Bool renaming not_eq_true'->UH,false_eq_true->VO,not_false->Tq,not_true->SJ,and_eq_true->RP,eq_false_iff->Y3,true_or->VQ,false_or->UC
open ByteArray renaming mk->Se,empty->Ys
open Decidable renaming not_not->Yd
open Go renaming Value->RK,World->R0,Calls->UU,rounds_succ->Ux
open Go.IntKind renaming bits->Uo,wrap->SD,signed->Y4
open Go.Lib renaming compareInt->RR
open Go.Proofs.AnyG renaming cmp_Compare_int->TU
open Go.Proofs.SlLaysC2 renaming n5->Yk
open Go.Proofs.SlLaysE0 renaming n41->UL
open Go.Proofs.SlLaysF0 renaming n6->UQ
open Go.Proofs.Tryz renaming prog->RH,func157->WJ,func209->WK,func210->WL,func239->WM,func240->WN,underlying0->VJ,isAgg0->WU,sizeOf0->WO,zeroValue0->VS,underlying3->Ta,isAgg3->Uf,sizeOf3->T0,zeroValue3->TT,underlying4->Tc,isAgg4->TH,sizeOf4->Tv,zeroValue4->Tj,underlying5->VK,isAgg5->WV,sizeOf5->WQ,zeroValue5->VT,underlying9->VL,isAgg9->WW,sizeOf9->U5,zeroValue9->VU,underlying65->Tp,underlying207->Vi,isAgg207->Wt,sizeOf207->Wf,zeroValue207->Vv,underlying248->Vj,isAgg248->Wu,sizeOf248->Wg,zeroValue248->Vw,underlying249->Vk,isAgg249->Wv,sizeOf249->Wh,zeroValue249->Vx,underlying253->Vl,isAgg253->Ww,sizeOf253->Wi,zeroValue253->Vy,underlying256->Vm,isAgg256->Wx,sizeOf256->Wj,zeroValue256->Vz,underlying258->Vn,isAgg258->Wy,sizeOf258->Wl,zeroValue258->VA,underlying279->Vo,isAgg279->Wz,sizeOf279->Wm,zeroValue279->VB,underlying283->Vp,isAgg283->WA,sizeOf283->Wn,zeroValue283->VC,underlying293->Vq,isAgg293->WB,sizeOf293->Wo,zeroValue293->VD,underlying183->Vr,isAgg183->WC,sizeOf183->Wp,zeroValue183->VE,isAgg42->XT,sizeOf42->WD,isAgg70->XU,sizeOf70->XP,func54->X0,ntmps54->XS,func109->XV,underlying195->TI,underlying224->Xn,underlying245->Xo
open Go.Shelf renaming Ren->UN
open Go.Value.slice renaming injEq->Sm
open Go.World renaming cell?->SU
open Int renaming le_refl->SM,toNat->RF
open List renaming flatMap_cons->RT,getElem?_eq_getElem->R5,getElem_cons_zero->W3,length_cons->RU,length_append->RS,mem_cons_self->RG,filterMap_cons->Sr,mem_cons->RO,mem_cons_of_mem->RM,nodup_cons->SG,map_cons->Sb,mergeSort_perm->W8,pairwise_mergeSort->WI,length_mergeSort->Ym,mem_singleton->RZ,eq_nil_of_length_eq_zero->Sq,size_toArray->UZ,pairwise_iff_getElem->Ua,pairwise_map->S4,length_map->Sa,sum_cons->T7,take_succ_cons->SO,getElem_mem->RQ,take_succ_eq_append_getElem->RJ,map_append->Si,map_nil->Tr,take_zero->TB,append_nil->RW,append_assoc->R9,take_length->Sl,drop_of_length_le->WZ,take_of_length_le->Su,find?_cons->VI,drop->TG,nodup_append->Td,mem_map_of_mem->Ss,flatMap_append->Sd,filter_cons->Va,nil_append->Sv,cons_append->SA,mem_iff_getElem->R8,replicate->Sj,range->W6,map_map->SP,map_congr_left->TM,Pairwise->ZB,pairwise_lt_range->Yc,ext_getElem->Vh,getElem_map->S0,length_set->TF,drop_eq_getElem_cons->Ui,mem_append->RY,getD_eq_getElem?_getD->S9,mem_of_getElem?->UM,not_mem_nil->Sx,mem_map->R3,getElem?_eq_some_iff->TN,flatMap_nil->Sw,take_append_drop->TS,mem_flatMap->TO,filter_append->SS,mem_filter->Sp,length_take->Sn,drop_zero->Te,any_eq_true->XO,drop_drop->TR,length_singleton->UE,take_subset->Zb,flatten_append->UP,flatten_singleton->Ut,flatten->T6,all_append->XH,filter_filter->YQ,filter_map->WX,map_flatMap->Zc,mem_range->U9,flatMap_eq_nil_iff->TC,filter_sublist->TK,isEmpty_iff->Vf,mergeSort_nil->YR,flatMap_map->Zd,length_filter_le->UK,map_id->Z2,append_eq_nil_iff->U0
open List.Pairwise renaming imp->We,imp_of_mem->Xh,nil->TZ,sublist->Z1,filter->Y1
open List.Perm renaming refl->S5,cons->YH,append_left->TY,trans->Yr,eq_of_pairwise->T8
open List.Sublist renaming map->Z5
open List.cons renaming injEq->Tn
open Nat renaming div_lt_of_lt_mul->YG,add_mul->SK,one_mul->U4,le_trans->TQ,beq->RN,zero_le->Sy,le_refl->Sc,add_assoc->S8,add_comm->Un,add_zero->S2,not_lt_zero->S6,le_of_ble_eq_true->Tz,mul_one->UG,lt_or_ge->Xc,le_of_eq->XI,min_eq_left->Tf,zero_add->Sz,zero_lt_succ->Zk,mul_le_mul_right->SI
open Option renaming map_none->Y2,isSome_none->Yp,map_some->UT,getD_some->UJ,getD_none->YP
open Option.some renaming injEq->RE,inj->TW
namespace Go.Proofs.YtmbboaapillefaaGreatDoor
open Go Xe Pm Go.Sort Go.Lib Go.RowKit Go.Shelf
section
variable {α:Type} {gM:α->List RK} {k:Nat}
theorem z6(hk:∀x,(gM x).length=k)(h0:0<k):∀(l:List α) (t:Nat) (h:t<l.length*k),(l.flatMap gM)[t]?=some ((gM (l[t / k]'(YG (by grind))))[t % k]'(by rw[hk];exact Nat.mod_lt _ h0))
 |[],t,h=>by simp at h
 |x::l,t,h=>by
  rw[RT];by_cases ht:t<k
  .grind [List.getElem?_append_left,R5,Nat.div_eq_of_lt,Nat.mod_eq_of_lt]
  .have hge:k<=t:=Q0;rw[List.getElem?_append_right (by grind),hk];rw[RU,SK,U4]at h;rw[z6 hk h0 l (t-k) Q0];have e1:t / k=(t-k) / k+1:=by rw[<-Nat.add_div_right _ h0,Nat.sub_add_cancel hge]
   grind [Nat.mod_eq_sub_mod]
theorem zZ(hk:∀x,(gM x).length=k)(l:List α):(l.flatMap gM).length=l.length*k:=by
 induction l with
 |nil=>simp
 |cons x l ih=>rw[RT,RS,ih,hk,RU,SK];omega
variable [Inhabited α]
theorem A6(hk:∀x,(gM x).length=k)(h0:0<k)(l:List α)(t:Nat)(h:t<l.length*k):(flatK gM k l.toArray)[t]! = (l.flatMap gM)[t]'(by rw[zZ hk];exact h):=by
 have h3:t / k<l.length:=YG (by grind);rw[get_flatK _ _ _ _ Q0];have e:=z6 hk h0 l t h
 grind
theorem LI(hk:∀x,(gM x).length=k)(h0:0<k)(l:List α)(cur:Array RK)(h:l.length*k<=cur.size):(putCells id 0 (flatK gM k l.toArray) cur).toList.take (l.length*k)=l.flatMap gM:=by
 refine List.ext_getElem? λt=>?_;rw[List.getElem?_take];by_cases ht:t<l.length*k
 .rw[J2 ht];have hf:=A6 hk h0 l t ht;unfold putCells;rw[Array.getElem?_toList,Array.getElem?_mapIdx,Array.getElem?_eq_getElem Q0];simp_all
 all_goals grind [List.getElem?_eq_none,zZ]
end
theorem _root_.Xe.St.repl{w0 w w':R0}{M:Mem}{Γ:List As}{b:Nat}{o o':Obj}(h:St w0 M (.raw b o::Γ) w)(h1:w'.os=w.os)(h2:w'.tape=w.tape)(h3:w'.output=w.output)(h4:w.heap.size<=w'.heap.size)(h5:w'.heap[b]?=some o')
  (h6:∀c,c≠b->c<w.heap.size->w'.heap[c]?=w.heap[c]?):St w0 M (.raw b o'::Γ) w':=by
 obtain⟨hM,hb⟩:=h.all _ (RG ..);have hnd:=h.nodup;simp only[Sr,As.gx]at hnd;refine⟨h1.trans h.os,h2.trans h.tape,h3.trans h.output,TQ h.size h4,λc x hc=>?_,λx hx=>?_,by grind [As.gx]⟩
 .rw[h6 c (λe=>by grind) (h.lt hc)];exact h.mem c x hc
 .rcases RO.1 hx with rfl|hm
  .exact⟨hM,h5⟩
  .have hx':=h.all x (RM _ hm);refine As.fz hx' (Sub.refl M) λc hc=>⟨h6 c (λe=>?_) (As.bk hx' hc).1,(As.bk hx' hc).2⟩;subst e;exact(SG.1 hnd).1 (wh hm hc)
section
variable {E:Type} (enc:E->List D) (M:Mem)
abbrev KR:={x:E×List RK // bz M (enc x.1) x.2}
variable {enc} {M}
theorem Rg(k:Nat)(he:∀x,(enc x).length=k):∀(Q:List E) (us:List RK),bz M (Q.flatMap enc) us->∃L:List (KR enc M),L.map (λx=>x.1.1)=Q/\L.flatMap (λx=>x.1.2)=us
 |[],us,h=>⟨[],rfl,by have:=h.1;simp at this;rw[this];rfl⟩
 |x::Q,us,h=>by rw[RT]at h;obtain⟨h1,h2⟩:=h.split;obtain⟨L,h3,h4⟩:=Rg k he Q _ h2;refine⟨⟨(x,us.take (enc x).length),h1⟩::L,by grind,?_⟩;simp_all
theorem Bu:∀L:List (KR enc M),bz M ((L.map λx=>x.1.1).flatMap enc) (L.flatMap λx=>x.1.2)
 |[]=>bz.nil _
 |x::L=>by rw[Sb,RT,RT];exact x.2.append (Bu L)
end
def frG(g T k n:Nat)(ds:List D):Fr:=⟨λi=>match RN i 1 with
 |true=>.c (.f g [])
 |false=>match RN i 0 with
  |true=>.c (.w 0)
  |false=>su,Dj 0 (.w T k n ds) (λ_=>none),1⟩
abbrev sG(f g T k:Nat):bC:=⟨f,⟨[(0,.c (.w 0)),(1,.c (.f g []))],[(0,.w T k)]⟩,.t [],[(0,.w T k)],false⟩
theorem unG(f g T k n:Nat)(ds:List D)(K:Fr->Prop):cu bg (sG f g T k).ins [[.sl n k ds]] K=K (frG g T k n ds):=by show aG k (.sl n k ds) (λn ds=>K (frG g T k n ds))=K (frG g T k n ds);rw[xk]
def frH(T k n:Nat)(ds:List D):Fr:=⟨λ_=>su,Dj 0 (.w T k n ds) (λ_=>none),1⟩
theorem unH(f g T k n:Nat)(ds:List D)(K:Fr->Prop):cu bg (jE (sG f g T k)) [[.sl n k ds]] K=K (frH T k n ds):=by show aG k (.sl n k ds) (λn ds=>K (frH T k n ds))=K (frH T k n ds);rw[xk]
theorem mq{E:Type}(enc:E->List D){k:Nat}(h0:0<k)(he:∀x,(enc x).length=k)(cfE:E->E->Int)(hO:SWO (ltOf cfE)){f g T:Nat}{ρr:UN}(L0:UQ RH ρr)(hf:ρr.f 6=f)(hT:ρr.t 24=T)
  (aE:∀w,(isAgg T).run RH w=.ok true w) (zE:∀w,(Go.sizeOf T).run RH w=.ok k w) (eg:∀args w,(callFunc g args).run RH w=.ok (.enter g args) w)
  (hcmp:∀(M:Mem) (x y:E) (vx vy:List RK),bz M (enc x) vx->bz M (enc y) vy->∀W,UU RH g #[.agg vx.toArray,.agg vy.toArray] W λe w'=>e=.returned (.int .i64 (cfE x y))/\∃q os',w'=grow (W.drewN q) os')
  (Q R:List E) (hn:Q.length<=lim) (hU:∀S:List E,S.Perm Q->S.Pairwise (λa b=>ltOf cfE b a=false)->S=R):IS (sG f g T k) [[.sl Q.length k (Q.flatMap enc)]] [[.sl R.length k (R.flatMap enc)]]:=by
 subst hf hT;have hRQ:R.length=Q.length:=by
  have hs:(Q.mergeSort λx y=>!ltOf cfE y x)=R:=hU _ (W8 _ _) (by
   have:=WI (le:=λx y=>!ltOf cfE y x) (λa b c h1 h2=>by
    simp only[UH]at *;exact hO.ntrans _ _ _ h2 h1) (λa b=>by
    cases h:ltOf cfE b a with
    |false=>simp
    |true =>
     cases h2:ltOf cfE a b with
     |false=>simp
     |true=>have:=hO.trans _ _ _ h h2;rw[hO.irrefl]at this;cases this) Q
   exact this.imp λh=>by grind)
  rw[<-hs,Ym]
 unfold IS Pm.Is;rw[unG];intro w0 Γ0 ρ M lst vs w hlen hρ hR;have h0':∃v,Pm.gM vs 0=some v/\SR M ρ (.c (.w 0)) v:=(hR.sl 0).resolve_left (by unfold su;simp[frG]);have h1':∃v,Pm.gM vs 1=some v/\SR M ρ (.c (.f g [])) v:=(hR.sl 1).resolve_left (by unfold su;simp[frG]);obtain⟨v0,hv0,hr0,_⟩:=h0';obtain⟨v1,hv1,us1,hr1,hu1⟩:=h1';obtain⟨ad,c,us,k1,k2,k3,k4,k5⟩:=hR.ob 0 (.w (ρr.t 24) k Q.length (Q.flatMap enc)) rfl;rw[k1]at hr0;simp only[RE]at hr0;subst hr0;have hvs:vs=[.slice ad Q.length c,v1]:=by
  have hl2:vs.length=2:=hlen
  match vs,hl2 with
  |[a,b],_ =>
   have e1:a=.slice ad Q.length c:=by grind [Pm.gM]
   have e2:b=v1:=by grind [Pm.gM]
   rw[e1,e2]
 subst hvs;have hu0:us1=[]:=by
  cases us1 with
  |nil=>rfl
  |cons x xs=>exact hu1.elim
 subst hu0;have hk0:∀p∈lst,p.1=0:=λp hp=>by have:=hρ _ (hR.gq p hp);simpa[sG]using this
 have hlst:lst=[(0,.acc (.slice ad Q.length c) (ρr.t 24) k Q.length us)]:=by
  have hnd:=hR.nd
  match lst,k2,hk0,hnd with
  |[p],k2,_,_=>rw[RZ.1 k2]
  |p::q::_,_,hk0,hnd=>have e1:=hk0 p (RG ..);have e2:=hk0 q (RM _ (RG ..));rw[Sb,Sb]at hnd;exact J3 (by grind) (SG.1 hnd).1
 subst hlst;have hst:St w0 M (.acc (.slice ad Q.length c) (ρr.t 24) k Q.length us::Γ0) w:=hR.st;have hacc:=hst.all _ (RG ..);obtain⟨⟨_,hh⟩,hMb⟩:=hacc;have fin:∀(w':R0) (us':List RK),bz M (R.flatMap enc) us'->us'.length=Q.length*k->St w0 M (.acc (.slice ad Q.length c) (ρr.t 24) k Q.length us'::Γ0) w'->Pm.Left w0 Γ0 ρ M (sG (ρr.f 6) g (ρr.t 24) k) [[.sl R.length k (R.flatMap enc)]] (.returned (.tuple #[])) w':=λw' us' hrd yB hw'=>by
  refine⟨.tuple #[],[],ρ,M,[(0,.acc (.slice ad Q.length c) (ρr.t 24) k Q.length us')],frH (ρr.t 24) k R.length (R.flatMap enc),rfl,⟨rfl,rfl⟩,Sub.refl M,λ_ _ h _=>h,λi hi=>hρ i hi,λp hp=>?_,?_,⟨λt=>.inl rfl,λb o hb=>?_,λb v hv=>?_,λp hp=>?_,Q2,hw',hR.gr⟩⟩
  .grind
  .rw[unH]
  .cases b with
   |zero=>obtain rfl:O.w (ρr.t 24) k R.length (R.flatMap enc)=o:=TW hb;refine⟨ad,c,us',by rw[k1,hRQ],by grind,hrd,by grind,Q0⟩
   |succ b=>cases hb
  .have:=hρ b (by rw[hv];rfl);left;show b<1
   grind
  all_goals grind
 obtain⟨L,hL1,hL2⟩:=Rg (M:=M) k he Q us k3;subst hL2;have hLl:L.length=Q.length:=by grind
 have hk:∀x:KR enc M,(x.1.2).length=k:=λx=>x.2.1.trans (he _);by_cases hq0:Q.length=0
 .have hQ:Q=[]:=Sq hq0;have hR0:R=[]:=Sq (hRQ.trans hq0);have hL:L=[]:=Sq (hLl.trans hq0);subst hQ hR0 hL;have hcon:=AnyF.slices_SortFunc_none L0 ad c v1 w;refine hcon.mono ?_;rintro e w' ⟨rfl,rfl⟩;exact fin _ [] (bz.nil _) Q2 hst
 .rcases hh with⟨e1,e2⟩|⟨g0,cap,cur,e1,_,hb,hnc,hcm,hcs,htk⟩
  .exact J3 e2 hq0
  simp only[Sm]at e1;obtain⟨rfl,_,rfl⟩:=e1;have hLp:0<L.length:=Q0
  haveI:Inhabited (KR enc M):=⟨L[0]⟩
  have hblk:g0<w.heap.size:=(Array.getElem?_eq_some_iff.1 hb).1;have hle:L.length*k<=cur.size:=by grind
  have hH:HoldsK (λx:KR enc M=>x.1.2) k w g0 0 L.toArray:=λj hj=>by
   rw[size_flatK,UZ]at hj;have hf:=A6 hk h0 L j hj
   grind [SU,World.frozen?]
  have hO':SWO (ltOf λx y:KR enc M=>cfE x.1.1 y.1.1):=⟨λx=>hO.irrefl x.1.1,λx y z=>hO.trans x.1.1 y.1.1 z.1.1,λx y z=>hO.ntrans x.1.1 y.1.1 z.1.1⟩;have hlays:CmpLays RH g #[] (λx:KR enc M=>x.1.2) k (λx y=>cfE x.1.1 y.1.1) g0 0 L.toArray.size w:=λm os dk _ x y=>hcmp M x.1.1 y.1.1 x.1.2 y.1.2 x.2 y.2 _;have hcon:=AnyQ.slices_SortFunc L0 k aE zE (λx:KR enc M=>x.1.2) hk (λx=>B6 x.2) (λx y=>cfE x.1.1 y.1.1) hO' g #[] g0 0 c L.toArray w eg hlays hH hblk (by grind [lim]);rw[UZ,hLl]at hcon;have hr1':v1=.func (.func g) #[] #[]:=hr1;rw[hr1'];refine hcon.mono ?_;rintro e w' ⟨rfl,d',m,os,hperm,hsort,rfl⟩;have hds:d'.size=L.length:=by have:=hperm.1;simpa using this
  have e1:d'.extract 0 Q.length=d':=by grind
  have e2:L.toArray.extract 0 Q.length=L.toArray:=by
   grind
  have hp2:d'.toList.Perm L:=by have:=hperm.2.2;rw[e1,e2]at this;simpa using this
  have hsl:d'.toList.Pairwise λa b=>ltOf cfE b.1.1 a.1.1=false:=by
   rw[Ua];intro i j hi hj hij;have:=hsort i j (Sy _) hij (by grind)
   grind [getElem,ltOf]
  have hRe:d'.toList.map (λx=>x.1.1)=R:=hU _ (by grind) (S4.2 hsl);have hdl:d'.toList.length=Q.length:=by grind
  refine fin _ (d'.toList.flatMap λx=>x.1.2) (by grind [Bu]) (by grind) ?_;have hraw:St w0 M (.raw g0 (.cells cur (ρr.t 24) (0,0))::Γ0) w:=by
   refine⟨hst.os,hst.tape,hst.output,hst.size,hst.mem,λx hx=>?_,by simpa[Sr,As.gx,Value.ownBlock]using hst.nodup⟩;rcases RO.1 hx with rfl|hx
   .exact⟨hMb g0 rfl,hb⟩
   .exact hst.all x (RM _ hx)
  have hmod:(sortWorldK (λx:KR enc M=>x.1.2) k w g0 0 m d' os).heap[g0]?=some (.cells (putCells id 0 (flatK (λx:KR enc M=>x.1.2) k d') cur) (ρr.t 24) (0,0)):=by show((w.heap.modify g0 (onCells (putCells id 0 (flatK (λx:KR enc M=>x.1.2) k d'))))++os)[g0]?=_;rw[XN (by grind),Yb,J2 rfl,hb];rfl
  have hrep:=hraw.repl (w':=sortWorldK (λx:KR enc M=>x.1.2) k w g0 0 m d' os) rfl rfl rfl (by
   show w.heap.size<=((w.heap.modify g0 (onCells (putCells id 0 (flatK (λx:KR enc M=>x.1.2) k d'))))++os).size;simp) hmod (λb hne hlt=>by
   show((w.heap.modify g0 (onCells (putCells id 0 (flatK (λx:KR enc M=>x.1.2) k d'))))++os)[b]?=_
   rw[XN (by grind),Yb,J1 (Ne.symm hne)])
  have hpt:=LI hk h0 d'.toList cur (by grind);rw[Array.toArray_toList,hdl]at hpt;exact hrep.Oi hnc hcm (by grind [putCells,Array.size_mapIdx]) (by grind) hpt
end Go.Proofs.YtmbboaapillefaaGreatDoor
namespace Go.Proofs.YtmbboaapillefaaGreatDoor
open Xe Pm
def dR(k:Int):Bool:=decide (k=2\/k=3\/k=4\/k=5)
theorem Da(k:Int):IS s88 [[aj k]] [[vB (dR k)]]:=by
 refine w88.is ?_;unfold g88 dR;simp only[ai]
 grind
def fe(m:aO):ao:=⟨m.id,0,m.name,m.cZ,0,qg,0,DA,qg,[],DA,0,Cp⟩
def mv(d:av)(s:aC):ao:=⟨s.id,3,s.name,[],0,d,s.bm,DA,qg,[],s.ty,s.CC,Cp⟩
def cM(d:an):ao:=⟨d.id,2,d.name,[],d.kind,d.mod,d.bm,d.aq,if dR d.kind then d.body.id else qg,d.bF,DA,0,Cp⟩
def fb(d:an):List ao:=if dR d.kind then(bV d.body).map jF else[]
def cH(d:an):List ao:=d.ah.map (mv d.id)
structure Dm where
 NV:List ao->List ao
 fD:∀l,(NV l).Perm l
 cat:∀a b c d:List ao,a.length+b.length+c.length+d.length<=300000000000->IS s92 [[.sl 4 1 [dP a,dP b,dP c,dP d]]] [[dP (a++b++c++d)]]
 sort:∀l,l.length<=300000000000->IS s93 [[dP l]] [[dP (NV l)]]
def bb(p:au):List ao:=p.aw.map fe++p.aa.map cM++p.aa.flatMap cH++p.aa.flatMap fb
def fP(d:an):Nat:=1+d.aq.size+d.bF.length+d.body.wt+d.ah.length+(d.ah.map λs=>s.ty.size).sum
structure RA(p:au):Prop where
 aw:p.aw.length<=10000000000
 aa:(p.aa.map fP).sum<=50000000000
 cZ:∀m∈p.aw,m.cZ.length<=1000000000000
theorem C2(l:List ao)(x:ao)(ds:List D)(h:ds=x.enc):D.sl (l.length+1) 38 (l.flatMap ao.enc++ds)=dP (l++[x]):=by grind
theorem qI(l:List an):(l.flatMap cH).length<=(l.map fP).sum:=by
 induction l with
 |nil=>simp
 |cons d l ih =>
  have:(cH d).length<=fP d:=by grind [cH,fP,Sa]
  rw[RT,RS,Sb,T7];omega
theorem qZ(l:List an):(l.flatMap fb).length<=(l.map fP).sum:=by
 induction l with
 |nil=>simp
 |cons d l ih =>
  have:(fb d).length<=fP d:=by
   grind [ph,fb,fP]
  rw[RT,RS,Sb,T7];omega
theorem QZ(l:List an):l.length<=(l.map fP).sum:=by
 induction l with
 |nil=>simp
 |cons d l ih =>
  have:1<=fP d:=by unfold fP;omega
  rw[RU,Sb,T7];omega
theorem bulk_at(l:List an){k:Nat}(hk:k<l.length):((l.take k).map fP).sum+fP l[k]<=(l.map fP).sum:=by
 induction l generalizing k with
 |nil=>simp at hk
 |cons d l ih =>
  cases k with
  |zero=>simp
  |succ k=>have:=ih (k:=k) (by grind);rw[SO,Sb,T7,Sb,T7,List.getElem_cons_succ];omega
theorem Li(d:an){s:aC}(h:s∈d.ah):s.ty.size<=fP d:=by
 grind [HB,aC,fP]
abbrev xC(d:an)(b:av):List D:=d.id.enc++([vI 2,bM d.name,.sl 0 3 [],aj d.kind]++(d.mod.enc++(aj d.bm::(tyC d.aq++(b.enc++[vI 0,vI 0,vI 0,vI 0,.sl 0 5 [],vI 0,vI 0,vI 0,vI 0,vI 0,vI 0,vI 0,vI 0,vI 0,vI 0,.sl 0 5 [],.sl 0 3 [],.sl 0 1 []])))))
theorem Hk(l:List an):l.flatMap fb=l.flatMap λd=>if dR d.kind then(bV d.body).map jF else[]:=rfl
theorem xQ(C:gL)(S:Dm)(p:au)(hb:RA p):IS s25 [p.enc] [[dP (S.NV (bb p))]]:=by
 refine w25.is ?_;unfold g25;have e1:cell p.enc 0=.sl p.aw.length 6 (p.aw.flatMap aO.enc):=rfl;have e2:cell p.enc 1=.sl p.aa.length 31 (p.aa.flatMap an.enc):=rfl;have hm:=hb.aw;refine bB [p.enc,[dP (p.aw.map fe)],[dP []],[dP []],[dP []]] ?_ ?_
 .simp only[ai,e1];refine bc p.aw.length (λk=>[[.sl p.aw.length 6 (p.aw.flatMap aO.enc)],[vI (p.aw.length:Int)],[vI (k:Int)],p.enc,[dP ((p.aw.take k).map fe)],[dP []],[dP []],[dP []]]) (λ_=>True) trivial Q2 λk next hi _ hn=>?_
  have hln:((p.aw.take k).map fe).length=k:=by grind
  simp only[ai];refine⟨λh=>?_,λh=>?_⟩
  .have hk:k<p.aw.length:=Q0;rw[Bg _ hk];have e3:cell (p.aw[k]).enc 4=dI (p.aw[k]).cZ:=rfl;have e4:cell (p.aw[k]).enc 3=bM (p.aw[k]).name:=rfl;have e5:sub (p.aw[k]).enc 0 3=(p.aw[k]).id.enc:=rfl;rw[e3,e4,e5];refine⟨Q0,ab (C.ids _ (hb.cZ _ (RQ hk))) ?_⟩;simp only[ai,aF];refine⟨Qa,Q4,?_⟩;have h3:=hn hk trivial;rw[RJ hk,Si,Sb,Tr]at h3;rw[C2 _ (fe p.aw[k]) _ (by unfold fe ao.enc eU.enc;rw[Ty.aD];rfl)];exact h3
  all_goals grind
 .simp only[ai,e2];refine bc p.aa.length (λk=>[[.sl p.aa.length 31 (p.aa.flatMap an.enc)],[vI (p.aa.length:Int)],[vI (k:Int)],[dP (p.aw.map fe)],[dP ((p.aa.take k).map cM)],[dP ((p.aa.take k).flatMap cH)],[dP ((p.aa.take k).flatMap fb)]]) (λ_=>True) trivial Q2 λk next hi _ hn=>?_
  have hln:((p.aa.take k).map cM).length=k:=by grind
  have hb1:=QZ p.aa;have hb2:=hb.aa;have hs:=qI (p.aa.take k);have hN:=qZ (p.aa.take k);simp only[ai];refine⟨λh=>?_,λh=>?_⟩
  .have hk:k<p.aa.length:=Q0;have hbk:=bulk_at p.aa hk;rw[gE _ hk];have hn':=hn hk trivial;rw[RJ hk]at hn';generalize p.aa[k]=d at hbk hn' ⊢;have d1:sub d.enc 9 5=d.aq.enc:=by rw[Ty.aD];rfl
   have d2:cell d.enc 30=kg d.bF:=rfl;have d3:cell d.enc 8=.sl d.ah.length 11 (d.ah.flatMap aC.enc):=rfl;have d4:sub d.enc 14 15=d.body.enc:=by rw[Ex.aD];rfl
   have d5:sub d.enc 0 3=d.id.enc/\cell d.enc 7=bM d.name/\cell d.enc 3=aj d.kind/\sub d.enc 4 3=d.mod.enc/\cell d.enc 29=aj d.bm/\sub d.enc 14 3=d.body.id.enc:=⟨rfl,rfl,rfl,rfl,rfl,rfl⟩;have hd:fP d=1+d.aq.size+d.bF.length+d.body.wt+d.ah.length+(d.ah.map λs=>s.ty.size).sum:=rfl;rw[d1,d2,d3];refine⟨Q0,ab (jk C _ _ (Sc _) Q0) ?_⟩;simp only[ai,aF];refine ab (C.txt _ Q0) ?_;simp only[ai];have hsd:(cH d).length=d.ah.length:=by unfold cH;rw[Sa]
   refine bB [[.sl p.aa.length 31 (p.aa.flatMap an.enc)],[vI (p.aa.length:Int)],[vI (k:Int)],[dP (p.aw.map fe)],[dP ((p.aa.take k).map cM)],[dP ((p.aa.take k).flatMap cH++cH d)],d.enc,xC d qg,[dP ((p.aa.take k).flatMap fb)],[Dq d.aq],[kg d.bF]] ?_ ?_
   .refine bc d.ah.length (λj=>[[.sl p.aa.length 31 (p.aa.flatMap an.enc)],[vI (p.aa.length:Int)],[vI (k:Int)],[.sl d.ah.length 11 (d.ah.flatMap aC.enc)],[vI (d.ah.length:Int)],[vI (j:Int)],[dP (p.aw.map fe)],[dP ((p.aa.take k).map cM)],[dP ((p.aa.take k).flatMap cH++(d.ah.take j).map (mv d.id))],d.enc,xC d qg,[dP ((p.aa.take k).flatMap fb)],[Dq d.aq],[kg d.bF]]) (λ_=>True) trivial (by rw[TB,Tr,RW];rfl) λj lO hj _ hn2=>?_;have hlj:((d.ah.take j).map (mv d.id)).length=j:=by grind
    simp only[ai,aF];refine⟨λh3=>?_,λh3=>?_⟩
    .have hj2:j<d.ah.length:=Q0;rw[mN _ hj2];have hss:=Li d (RQ hj2);have hn3:=hn2 hj2 trivial;rw[RJ hj2,Si,Sb,Tr,<-R9]at hn3;generalize d.ah[j]=s at hss hn3 ⊢;have s1:sub s.enc 4 5=s.ty.enc:=by rw[Ty.aD];rfl
     rw[s1];refine⟨Q0,ab (jk C _ _ (Sc _) Q0) ?_⟩;simp only[ai,aF];refine⟨by grind [aL,RS],Q4,?_⟩;rw[C2 _ (mv d.id s) _ (by unfold mv ao.enc eU.enc;rw[Ty.aD,Ty.aD];rfl)];exact hn3
    .obtain rfl:j=d.ah.length:=Q0;rw[Sl];rfl
   .simp only[ai,aF];refine bB [[.sl p.aa.length 31 (p.aa.flatMap an.enc)],[vI (p.aa.length:Int)],[vI (k:Int)],[dP (p.aw.map fe)],[dP ((p.aa.take k).map cM)],[dP ((p.aa.take k).flatMap cH++cH d)],xC d (if dR d.kind then d.body.id else qg),[dP ((p.aa.take k).flatMap fb++fb d)],[Dq d.aq],[kg d.bF]] ?_ ?_
    .refine ab (Da _) ?_;simp only[ai];unfold fb;cases hB:dR d.kind with
     |true=>simp only[ai,if_true];refine ab (Dv C _ _ _ (Sc _) (by rw[<-Hk];omega)) ?_;simp only[ai];rfl
     |false=>simp only[ai,VO,if_false,RW];rfl
    .simp only[ai];refine⟨Qa,Q4,?_⟩;rw[C2 _ (cM d) _ (by unfold cM ao.enc eU.enc;rw[Ty.aD,Ty.aD];rfl)]
     grind
  .obtain rfl:k=p.aa.length:=Q0;rw[Sl]at hs hN ⊢;have:=qI p.aa;have:=qZ p.aa;refine ab (S.cat _ _ _ _ (by grind)) ?_;simp only[ai];refine ab (S.sort (bb p) (by grind [bb,RS,Sa])) ?_;simp only[ai]
def tE(x:ao):List D:=x.id.enc++x.enc
abbrev jv(l:List ao):D:=.sl l.length 41 (l.flatMap tE)
theorem oh(x:ao):(tE x).length=41:=by unfold tE;rw[RS,ao.aP];rfl
theorem NQ(x:ao)(L:List ao):((x::L).flatMap tE).drop 41=L.flatMap tE:=by
 grind [List.drop_append,oh,WZ]
theorem NO(x:ao)(L:List ao):((x::L).flatMap tE).take 41=tE x:=by
 grind [List.take_append,oh,Su]
theorem tD(i:av):∀L:List ao,bA 41 i.aH i.seq i.index L.length (L.flatMap tE)=(L.find? λx=>decide (i=x.id)).map ao.enc
 |[]=>rfl
 |x::L=>by
  rw[RU,bA];have hk:yw i.aH i.seq i.index ((x::L).flatMap tE)=decide (i=x.id):=mkey i x.id _;rw[hk,NQ,NO,VI];cases hd:decide (i=x.id) with
  |true=>show some ((tE x).drop 3)=some x.enc;rfl
  |false=>exact tD i L
theorem t_set(y:ao):∀L:List ao,(∀x∈L,y.id≠x.id)->dc 41 y.id.aH y.id.seq y.id.index y.enc L.length (L.flatMap tE)=(L++[y]).flatMap tE
 |[],_=>by simp[dc,tE,av.enc,aj]
 |x::L,hf=>by rw[RU,dc];have hk:yw y.id.aH y.id.seq y.id.index ((x::L).flatMap tE)=decide (y.id=x.id):=mkey y.id x.id _;rw[hk,J6 (hf x (RG ..))];show List.take 41 _++dc 41 _ _ _ y.enc L.length (TG 41 _)=_;rw[NQ,NO,t_set y L λz hz=>hf z (RM _ hz)];rfl
theorem NP(i:av)(L:List ao)(h:∀x∈L,i≠x.id):(L.find? λx=>decide (i=x.id))=none:=by
 grind
theorem t_len(i:av)(L:List ao)(h:∀x∈L,i≠x.id):fM 41 i.aH i.seq i.index L.length (L.flatMap tE)=L.length+1:=by unfold fM;rw[tD,NP i L h];rfl
theorem KX(l:List ao)(hl:l.length<=1000000000000)(hn:(l.map ao.id).Nodup):IS s96 [[dP l]] [[jv l]]:=by
 refine w96.is ?_;unfold g96;simp only[ai];refine bc l.length (λk=>[[dP l],[vI (l.length:Int)],[vI (k:Int)],[jv (l.take k)]]) (λ_=>True) trivial Q2 λk next hi _ hnx=>?_
 have hlk:(l.take k).length=k:=by grind
 simp only[ai];refine⟨λh=>?_,λh=>?_⟩
 .have hk:k<l.length:=Q0;have h3:=hnx hk trivial;have hne:∀x∈l.take k,(l[k]).id≠x.id:=by
   intro x hx e;have e2:l=l.take k++l[k]::l.drop (k+1):=by simp_all
   grind [Td,Ss,RG]
  rw[iq _ hk];have e0:sub (l[k]).enc 0 3=(l[k]).id.enc:=rfl;simp only[ai,aF,e0,tD,NP _ _ hne];rw[RJ hk]at h3;simp only[Y2,Yp,Tq,ai];refine⟨Q0,Q4,?_⟩;rw[t_len _ _ hne,t_set _ _ hne];have e1:(l.take k++[l[k]]).length=(l.take k).length+1:=by grind
  rw[<-e1];exact h3
 all_goals grind
theorem IY(L:List ao)(i:Nat):mO (L.flatMap tE) 41 i=(L.eraseIdx i).flatMap tE:=by unfold mO;rw[lh oh,rm oh,List.eraseIdx_eq_take_drop_succ,Sd]
theorem Jv{α:Type}:∀{R:List α} {i:Nat} (h:i<R.length),R.Perm (R[i]::R.eraseIdx i)
 |r::R,0,_=>S5 _
 |r::R,i+1,h=>by have:=Jv (R:=R) (i:=i) (by grind);exact(YH r this).trans (List.Perm.swap ..)
theorem pX{α:Type}(g:α->Bool){R:List α}{i:Nat}(h:i<R.length):(R.filter g).Perm ((if g R[i]then[R[i]] else[])++(R.eraseIdx i).filter g):=by
 grind [Jv,S5]
theorem FI(x:ao):IS s98 [x.enc] [[vB true]]:=w98.is (by unfold g98;rfl)
theorem list_is(z:Int)(L R:List ao)(hL:L.length<=300000000000)(hs:∀Q:List ao,Q.Perm (L.filter λx=>decide (x.kind=z))->IS BZ [[dP Q]] [[dP R]]):IS s97 [[vI z],[jv L]] [[dP R],[jv L]]:=by
 refine w97.is ?_;unfold g97;simp only[ai];refine ij ?_;refine cY (σ:=List ao×List ao) (λx=>[[vI z],[jv L],[dP x.1],[jv x.2]]) (λx=>x.2.length)
  (λx=>(x.1++x.2.filter λx=>decide (x.kind=z)).Perm (L.filter λx=>decide (x.kind=z))/\x.1.length+x.2.length<=300000000000) ([],L) ⟨S5 _,by grind⟩ rfl ?_
 rintro⟨Q,T⟩ next ⟨hp,hl⟩ hnext
 have hl:Q.length+T.length<=300000000000:=hl;simp only[ai];refine⟨λh0=>?_,λi hi=>?_⟩
 .have:T=[]:=Sq h0;subst this;have hp':Q.Perm (L.filter λx=>decide (x.kind=z)):=by grind
  refine ab (hs Q hp') ?_;simp only[ai]
 .have hi:i<T.length:=hi;rw[dq oh _ hi,IY];have hst:=hp.symm.trans (TY Q (pX (λx=>decide (x.kind=z)) hi));have hlen:(T.eraseIdx i).length=T.length-1:=by grind
  have e0:TG 3 (tE T[i])=(T[i]).enc:=rfl;have e1:cell (T[i]).enc 3=vI (T[i]).kind:=rfl;generalize T[i]=x at hst e0 e1 ⊢;rw[e0,e1];simp only[ai];have hlt:(T.eraseIdx i).length<T.length:=Q0;have hno:¬(decide (x.kind=z))=true->next [[vI z],[jv L],[dP Q],[.sl (T.length-1) 41 ((T.eraseIdx i).flatMap tE)]]:=λhg=>by
   rw[J1 hg,Sv]at hst;have:=hnext (Q,T.eraseIdx i) hlt ⟨hst.symm,by grind⟩
   grind
  have hyes:(decide (x.kind=z))=true->next [[vI z],[jv L],[.sl (Q.length+1) 38 (Q.flatMap ao.enc++(x.enc++[]))],[.sl (T.length-1) 41 ((T.eraseIdx i).flatMap tE)]]:=λhg=>by
   rw[J2 hg]at hst;have:=hnext (Q++[x],T.eraseIdx i) hlt ⟨by simpa using hst.symm,by grind⟩
   grind [p6]
  refine⟨λe=>?_,λe=>hno (by simp[e])⟩;refine ab (FI x) ?_;simp only[ai]
  grind [aL]
theorem PT(z:Int)(L R:List ao)(hL:L.length<=300000000000)(hs:∀Q:List ao,Q.Perm (L.filter λx=>decide (x.kind=z))->IS BZ [[dP Q]] [[dP R]]):IS Jc [[vI z],[jv L]] [[dP R],[jv L]]:=by
 refine w97_1.is ?_;unfold g97_1;simp only[ai];refine ij ?_;refine cY (σ:=List ao×List ao) (λx=>[[vI z],[jv L],[dP x.1],[jv x.2]]) (λx=>x.2.length)
  (λx=>(x.1++x.2.filter λx=>decide (x.kind=z)).Perm (L.filter λx=>decide (x.kind=z))/\x.1.length+x.2.length<=300000000000) ([],L) ⟨S5 _,by grind⟩ rfl ?_
 rintro⟨Q,T⟩ next ⟨hp,hl⟩ hnext
 have hl:Q.length+T.length<=300000000000:=hl;simp only[ai];refine⟨λh0=>?_,λi hi=>?_⟩
 .have:T=[]:=Sq h0;subst this;have hp':Q.Perm (L.filter λx=>decide (x.kind=z)):=by grind
  refine ab (hs Q hp') ?_;simp only[ai]
 .have hi:i<T.length:=hi;rw[dq oh _ hi,IY];have hst:=hp.symm.trans (TY Q (pX (λx=>decide (x.kind=z)) hi));have hlen:(T.eraseIdx i).length=T.length-1:=by grind
  have e0:TG 3 (tE T[i])=(T[i]).enc:=rfl;have e1:cell (T[i]).enc 3=vI (T[i]).kind:=rfl;generalize T[i]=x at hst e0 e1 ⊢;rw[e0,e1];simp only[ai];have hlt:(T.eraseIdx i).length<T.length:=Q0;have hno:¬(decide (x.kind=z))=true->next [[vI z],[jv L],[dP Q],[.sl (T.length-1) 41 ((T.eraseIdx i).flatMap tE)]]:=λhg=>by
   rw[J1 hg,Sv]at hst;have:=hnext (Q,T.eraseIdx i) hlt ⟨hst.symm,by grind⟩
   grind
  have hyes:(decide (x.kind=z))=true->next [[vI z],[jv L],[.sl (Q.length+1) 38 (Q.flatMap ao.enc++(x.enc++[]))],[.sl (T.length-1) 41 ((T.eraseIdx i).flatMap tE)]]:=λhg=>by
   rw[J2 hg]at hst;have:=hnext (Q++[x],T.eraseIdx i) hlt ⟨by simpa using hst.symm,by grind⟩
   grind [p6]
  refine⟨λe=>?_,λe=>hno (by simp[e])⟩;refine ab (FI x) ?_;simp only[ai]
  grind [aL]
theorem MN(x:ao)(d:av):IS s182 [x.enc,d.enc] [[vB (decide (x.uw=d))],d.enc]:=by refine w182.is ?_;unfold g182;have e0:sub x.enc 7 3=x.uw.enc:=rfl;simp only[ai,aF,e0]
theorem P6(x y:ao):IS s106 [x.enc,y.enc] [[vB (decide (x.uw=y.id))],y.enc]:=by refine w106.is ?_;unfold g106;have e0:sub x.enc 7 3=x.uw.enc:=rfl;have e1:sub y.enc 0 3=y.id.enc:=rfl;simp only[ai,aF,e0,e1]
theorem PS(d:av)(z:Int)(L R:List ao)(hL:L.length<=300000000000)(hs:∀Q:List ao,Q.Perm (L.filter λx=>decide (x.kind=z) && decide (x.uw=d))->IS kR [[dP Q]] [[dP R]]):IS Jb [[vI z],[jv L],d.enc] [[dP R],[jv L],d.enc]:=by
 refine w97_2.is ?_;unfold g97_2;simp only[ai];refine ij ?_;refine cY (σ:=List ao×List ao) (λx=>[[vI z],[jv L],d.enc,[dP x.1],[jv x.2]]) (λx=>x.2.length)
  (λx=>(x.1++x.2.filter λx=>decide (x.kind=z) && decide (x.uw=d)).Perm (L.filter λx=>decide (x.kind=z) && decide (x.uw=d))/\x.1.length+x.2.length<=300000000000) ([],L) ⟨S5 _,by grind⟩ rfl ?_
 rintro⟨Q,T⟩ next ⟨hp,hl⟩ hnext
 have hl:Q.length+T.length<=300000000000:=hl;simp only[ai];refine⟨λh0=>?_,λi hi=>?_⟩
 .have:T=[]:=Sq h0;subst this;have hp':Q.Perm (L.filter λx=>decide (x.kind=z) && decide (x.uw=d)):=by grind
  refine ab (hs Q hp') ?_;simp only[ai]
 .have hi:i<T.length:=hi;rw[dq oh _ hi,IY];have hst:=hp.symm.trans (TY Q (pX (λx=>decide (x.kind=z) && decide (x.uw=d)) hi));have hlen:(T.eraseIdx i).length=T.length-1:=by grind
  have e0:TG 3 (tE T[i])=(T[i]).enc:=rfl;have e1:cell (T[i]).enc 3=vI (T[i]).kind:=rfl;generalize T[i]=x at hst e0 e1 ⊢;rw[e0,e1];simp only[ai];have hlt:(T.eraseIdx i).length<T.length:=Q0;have hno:¬(decide (x.kind=z) && decide (x.uw=d))=true->next [[vI z],[jv L],d.enc,[dP Q],[.sl (T.length-1) 41 ((T.eraseIdx i).flatMap tE)]]:=λhg=>by
   rw[J1 hg,Sv]at hst;have:=hnext (Q,T.eraseIdx i) hlt ⟨hst.symm,by grind⟩
   grind
  have hyes:(decide (x.kind=z) && decide (x.uw=d))=true->next [[vI z],[jv L],d.enc,[.sl (Q.length+1) 38 (Q.flatMap ao.enc++(x.enc++[]))],[.sl (T.length-1) 41 ((T.eraseIdx i).flatMap tE)]]:=λhg=>by
   rw[J2 hg]at hst;have:=hnext (Q++[x],T.eraseIdx i) hlt ⟨by simpa using hst.symm,by grind⟩
   grind [p6]
  refine⟨λe=>?_,λe=>hno (by simp[e])⟩;refine ab (MN x d) ?_;simp only[ai];refine⟨λe2=>⟨Qa,hyes (by simp[e,e2])⟩,λe2=>hno (by simp[e2])⟩
theorem PR(y:ao)(z:Int)(L R:List ao)(hL:L.length<=300000000000)(hs:∀Q:List ao,Q.Perm (L.filter λx=>decide (x.kind=z) && decide (x.uw=y.id))->IS kR [[dP Q]] [[dP R]]):IS Ja [[vI z],[jv L],y.enc] [[dP R],[jv L],y.enc]:=by
 refine w97_3.is ?_;unfold g97_3;simp only[ai];refine ij ?_;refine cY (σ:=List ao×List ao) (λx=>[[vI z],[jv L],y.enc,[dP x.1],[jv x.2]]) (λx=>x.2.length)
  (λx=>(x.1++x.2.filter λx=>decide (x.kind=z) && decide (x.uw=y.id)).Perm (L.filter λx=>decide (x.kind=z) && decide (x.uw=y.id))/\x.1.length+x.2.length<=300000000000) ([],L) ⟨S5 _,by grind⟩ rfl ?_
 rintro⟨Q,T⟩ next ⟨hp,hl⟩ hnext
 have hl:Q.length+T.length<=300000000000:=hl;simp only[ai];refine⟨λh0=>?_,λi hi=>?_⟩
 .have:T=[]:=Sq h0;subst this;have hp':Q.Perm (L.filter λx=>decide (x.kind=z) && decide (x.uw=y.id)):=by grind
  refine ab (hs Q hp') ?_;simp only[ai]
 .have hi:i<T.length:=hi;rw[dq oh _ hi,IY];have hst:=hp.symm.trans (TY Q (pX (λx=>decide (x.kind=z) && decide (x.uw=y.id)) hi));have hlen:(T.eraseIdx i).length=T.length-1:=by grind
  have e0:TG 3 (tE T[i])=(T[i]).enc:=rfl;have e1:cell (T[i]).enc 3=vI (T[i]).kind:=rfl;generalize T[i]=x at hst e0 e1 ⊢;rw[e0,e1];simp only[ai];have hlt:(T.eraseIdx i).length<T.length:=Q0;have hno:¬(decide (x.kind=z) && decide (x.uw=y.id))=true->next [[vI z],[jv L],y.enc,[dP Q],[.sl (T.length-1) 41 ((T.eraseIdx i).flatMap tE)]]:=λhg=>by
   rw[J1 hg,Sv]at hst;have:=hnext (Q,T.eraseIdx i) hlt ⟨hst.symm,by grind⟩
   grind
  have hyes:(decide (x.kind=z) && decide (x.uw=y.id))=true->next [[vI z],[jv L],y.enc,[.sl (Q.length+1) 38 (Q.flatMap ao.enc++(x.enc++[]))],[.sl (T.length-1) 41 ((T.eraseIdx i).flatMap tE)]]:=λhg=>by
   rw[J2 hg]at hst;have:=hnext (Q++[x],T.eraseIdx i) hlt ⟨by simpa using hst.symm,by grind⟩
   grind [p6]
  refine⟨λe=>?_,λe=>hno (by simp[e])⟩;refine ab (P6 x y) ?_;simp only[ai];refine⟨λe2=>⟨Qa,hyes (by simp[e,e2])⟩,λe2=>hno (by simp[e2])⟩
theorem MJ(k z:Int):IS s226 [[.sl 1 1 [vI k]],[vI z]] [[vI (if z=k then 0 else -1)]]:=by
 refine w226.is ?_;unfold g226;simp only[ai];refine bc 1 (λi=>[[.sl 1 1 [vI k]],[vI z],[vI (1:Int)],[vI (i:Int)]]) (λi=>i=1->z≠k) Q2 rfl λi next hi hI hn=>?_
 simp only[ai];refine⟨λh=>?_,λh=>?_⟩
 .obtain rfl:i=0:=Q0;have e0:cell (el [vI k] 1 0) 0=vI k:=rfl;simp only[e0,ai]
  grind [aZ]
 all_goals grind
theorem C4(k z:Int):IS s184 [[.sl 1 1 [vI k]],[vI z]] [[vB (decide (z=k))]]:=by refine w184.is ?_;unfold g184;simp only[ai];refine ab (MJ k z) ?_;simp only[ai];by_cases e:z=k <;> simp[e]
def kf(L:List ao)(i:av)(k:Int):Bool:=match L.find? λx=>decide (i=x.id) with
 |some x=>decide (x.kind=k)
 |none=>false
theorem pQ(L:List ao)(i:av)(k:Int):IS Ed [i.enc,[.sl 1 1 [vI k]],[jv L]] [[vB (kf L i k)],[jv L]]:=by
 refine w105.is ?_;unfold g105 kf;simp only[ai,aF,tD];cases L.find? λx=>decide (i=x.id) with
 |none=>simp only[Y2,Yp,ai]
 |some x=>simp only[UT,Option.isSome_some,UJ,ai];have e1:cell x.enc 3=vI x.kind:=rfl;rw[e1];refine ab (C4 k x.kind) ?_;simp only[ai]
theorem xi(i:av)(L R:List ao)(hL:L.length<=300000000000)(hs:∀Q:List ao,Q.Perm (L.filter λx=>decide (x.kind=3) && decide (x.uw=i))->IS kR [[dP Q]] [[dP R]])(n3 n5 n7:Nat)(c4 c6 c8:List D) :
  IS Lz [i.enc,[jv L],[.sl n3 6 c4],[.sl n5 4 c6],[.sl n7 3 c8]] [[dP R],[jv L],[.sl n5 4 c6],[.sl n3 6 c4],[.sl n7 3 c8]]:=by
 refine w102.is ?_;unfold g102;simp only[ai];refine ab (PS i 3 L R hL hs) ?_;simp only[ai]
abbrev ir(S:List av):D:=dM (λ_=>vB true) S
theorem Eo(x:av)(L:List ao)(S l:List av)(hx:x ∉ S)(hl:l.length<=1000000000000)(n3:Nat)(c4:List D) :
  IS N6 [x.enc,[jv L],[.sl n3 6 c4],[ir S],[dI l]] [[jv L],[ir (S++[x])],[.sl n3 6 c4],[dI (l++[x])]]:=by
 refine w179.is ?_;unfold g179;simp only[ai,aF,ri,J1 hx,YP];refine⟨Qa,?_⟩;have e1:dc 4 x.aH x.seq x.index [vB true] S.length (S.flatMap (mE λ_=>vB true))=(S++[x]).flatMap (mE λ_=>vB true):=AQ (λ_=>vB true) x S hx;rw[E0 _ _ _ hx,e1,kh];have:(S++[x]).length=S.length+1:=by grind
 rw[<-this]
theorem Ex.rD:∀l m:List Ex,Ex.fi (l++m)=Ex.fi l+Ex.fi m
 |[],m=>by simp[Ex.fi]
 |e::l,m=>by grind [Ex.fi,Ex.rD]
theorem Ex.wS:∀q:List Ex,Ex.fi (q.flatMap Ex.kids)+q.length<=Ex.fi q
 |[]=>by grind
 |e::q=>by have h1:=Ex.cS e;have h2:=Ex.wS q;rw[RT,Ex.rD,Ex.fi,RU];omega
def Dc:Nat->List Ex->List Ex
 |0,_=>[]
 |_+1,[]=>[]
 |n+1,e::q=>(e::q)++Dc n ((e::q).flatMap Ex.kids)
theorem KE:∀(n:Nat) (q:List Ex),Ex.fi q<=n->Dc n q=q++(Dc n q).flatMap Ex.kids
 |0,[],_=>rfl
 |0,e::q,h=>by grind [Ex.cS,Ex.fi]
 |n+1,[],_=>rfl
 |n+1,e::q,h=>by have hk:=Ex.wS (e::q);rw[RU]at hk;have ih:=KE n ((e::q).flatMap Ex.kids) Q0;rw[Dc,Sd,<-ih]
def lx(q:List Ex):List Ex:=Dc (Ex.fi q) q
theorem Io(q:List Ex):lx q=q++(lx q).flatMap Ex.kids:=KE _ q (Sc _)
theorem Bv:∀(n:Nat) (q:List Ex),Ex.fi q<=n->(Dc n q).Perm (aT q)
 |0,[],_=>by simp[Dc,aT]
 |0,e::q,h=>by grind [Ex.cS,Ex.fi]
 |n+1,[],_=>by simp[Dc,aT]
 |n+1,e::q,h=>by have hk:=Ex.wS (e::q);rw[RU]at hk;have ih:=Bv n ((e::q).flatMap Ex.kids) Q0;rw[Dc];refine(TY (e::q) ih).trans ?_;exact lvl (e::q)
 where
 lvl:∀q:List Ex,(q++aT (q.flatMap Ex.kids)).Perm (aT q)
  |[]=>by simp[aT]
  |e::q=>by have ih:=lvl q;rw[RT,qb,aT,jw,SA];refine Yr ?_ (TY _ ih);rw[R9,List.singleton_append];refine Yr ?_ (List.perm_middle (l₁:=aT e.kids) (a:=e) (l₂:=q++aT (q.flatMap Ex.kids))).symm;refine YH e ?_;rw[<-R9,<-R9];exact List.Perm.append_right _ List.perm_append_comm
theorem pf(q:List Ex):(lx q).Perm (aT q):=Bv _ q (Sc _)
abbrev nodeC(x:eU):List D:=[aj x.kind,aj x.n,aj x.ref.aH,aj x.ref.seq,aj x.ref.index,aj x.type.kind,aj x.type.df.aH,aj x.type.df.seq,aj x.type.df.index]
theorem Nh(C:gL)(x:eU)(h:x.Fit):IS s183 [x.enc] [nodeC x,[Dq x.type],[dI x.kids],[kg x.aJ]]:=by
 refine w183.is ?_;unfold g183;have h1:sub x.enc 5 5=x.type.enc:=by unfold eU.enc sub av.enc;simp[Ty.aP]
 have h2:cell x.enc 10=dI x.kids:=by unfold eU.enc cell av.enc;rw[Ty.aD];rfl
 have h3:cell x.enc 11=kg x.aJ:=by unfold eU.enc cell av.enc;rw[Ty.aD];rfl
 have h4:cell x.enc 0=aj x.kind/\cell x.enc 1=aj x.n/\cell x.enc 2=aj x.ref.aH/\cell x.enc 3=aj x.ref.seq/\cell x.enc 4=aj x.ref.index:=⟨rfl,rfl,rfl,rfl,rfl⟩;simp only[ai,h1,h2,h3];refine ab (C.ids _ h.kids) ?_;simp only[ai];refine ab (C.txt _ h.aJ) ?_;simp only[ai];refine ab (jk C _ _ (Sc _) h.type) ?_;simp only[ai];rfl
end Go.Proofs.YtmbboaapillefaaGreatDoor
namespace Xe
open Go
theorem zW{Ts:Nat->Int}:∀(l:List Ex) (k:Nat),(∀i (h:i<l.length),(l[i].wt:Int)+1+5*Ts (k+i)<=5*Ts (k+i+1))->(Ex.fi l:Int)+l.length+5*Ts k<=5*Ts (k+l.length)
 |[],k,_=>by simp[Ex.fi]
 |e::l,k,h=>by
  have h0:=h 0 Q2;have h1:=zW l (k+1) λi hi=>by have:=h (i+1) (by grind);simpa[S8,Un 1 i]using this
  simp only[W3,S2]at h0
  grind [Ex.fi,RU]
theorem Mk.wt{c:fE}{t:Ty}{env:List cg}{T T':Int}{e:Ex}(h:Mk c t env T e T'):(e.wt:Int)+1+5*T<=5*T':=by
 have row:∀{l:List Ex} {Ts:Nat->Int},(∀i (h:i<l.length),(l[i].wt:Int)+1+5*Ts i<=5*Ts (i+1))->(Ex.fi l:Int)+l.length+5*Ts 0<=5*Ts l.length:=fun{l Ts} h=>by
  have:=zW (Ts:=Ts) l 0 λi hi=>by grind
  simpa using this
 induction h with
 |int _=>rw[Ex.cS];show((1+1+0+0:Nat):Int)+1+_<=_;omega
 |bool _=>rw[Ex.cS];show((1+1+0+0:Nat):Int)+1+_<=_;omega
 |var _=>rw[Ex.cS];show((1+1+0+0:Nat):Int)+1+_<=_;omega
 |@rj env T kids Ts _ h0 _ ih=>rw[Ex.cS];have:=row ih;show((1+1+0+Ex.fi kids:Nat):Int)+1+_<=_;omega
 |@oW env T T1 d k e _ _ _ hm ih=>rw[Ex.cS];show((1+1+0+(e.wt+0):Nat):Int)+1+_<=_;omega
 |@rV env T d kids _ _ Ts _ h0 hm ih=>rw[Ex.cS];have:=row ih;show((1+1+0+Ex.fi kids:Nat):Int)+1+_<=_;omega
 |@len env T T1 a hm ih=>rw[Ex.cS];show((1+1+0+(a.wt+0):Nat):Int)+1+_<=_;omega
 |@not env T T1 a hm ih=>rw[Ex.cS];show((1+1+0+(a.wt+0):Nat):Int)+1+_<=_;omega
 |@tp t u env T T1 T2 n a b _ ha hb ih1 ih2=>rw[Ex.cS];show((1+1+0+(a.wt+(b.wt+0)):Nat):Int)+1+_<=_;omega
 |@Ke t env T T1 T2 T3 a b e ha hb he ih1 ih2 ih3=>rw[Ex.cS];show((1+1+0+(a.wt+(b.wt+(e.wt+0))):Nat):Int)+1+_<=_;omega
 |@sF t u env T T1 T2 a b m ha hb ih1 ih2=>rw[Ex.cS];show((1+1+1+(a.wt+(b.wt+0)):Nat):Int)+1+_<=_;omega
 |@sU t env T T1 T2 T3 a b e m m2 ha hb he ih1 ih2 ih3=>rw[Ex.cS];show((1+1+2+(a.wt+(b.wt+(e.wt+0))):Nat):Int)+1+_<=_;omega
 |@JM t env T T1 d a kids ms _ _ Ts hl hms ha h0 hm ih1 ih=>rw[Ex.cS];have:=row ih;show((1+1+ms.length+(a.wt+Ex.fi kids):Nat):Int)+1+_<=_;omega
 |@field env T T1 d j a _ _ _ hm ih=>rw[Ex.cS];show((1+1+0+(a.wt+0):Nat):Int)+1+_<=_;omega
 |@call env T k kids _ _ _ Ts _ h0 hm ih=>rw[Ex.cS];have:=row ih;show((1+1+0+Ex.fi kids:Nat):Int)+1+_<=_;omega
mutual
theorem Jq(ids:List av):∀e:Ex,(b8 ids e).wt=e.wt
 |.mk i k n r t l s=>by rw[b8,Ex.wt,Ex.wt,Jp ids l]
theorem Jp(ids:List av):∀l:List Ex,Ex.fi (iw ids l)=Ex.fi l
 |[]=>rfl
 |e::es=>by rw[iw,Ex.fi,Ex.fi,Jq ids e,Jp ids es]
end
theorem D6{ds:List an}{i k:Nat}{e:Ex}{d:an}(hi:¬bare (ds.getD i l7))(hk:ds[k]?=some d)(h:bare d):(ds.set i ((ds.getD i l7).bH e))[k]?=some d:=by
 grind
theorem lU(ms:List aO)(l:List Int){k:Nat}{d:an}(h:bare d):∀(m i:Nat) (ds:List an) (s:b6),ds[k]?=some d->(bu ms l m i ds s).1[k]?=some d
 |0,_,_,_,hk=>hk
 |m+1,i,ds,s,hk=>by
  rw[bu];split
  .exact lU ms l h m (i+1) ds s hk
  .rename_i hb;exact lU ms l h m (i+1) _ _ (D6 hb hk h)
theorem rS{k:Nat}{d:an}(h:bare d):∀(m i:Nat) (ds:List an) (ids:List av) (nx:Int),ds[k]?=some d->(dv m i ds ids nx)[k]?=some d
 |0,_,_,_,_,hk=>hk
 |m+1,i,ds,ids,nx,hk=>by
  rw[dv];split
  .exact rS h m (i+1) ds ids nx hk
  .rename_i hb;exact rS h m (i+1) _ _ _ (D6 hb hk h)
theorem qX:∀(ps:List aN) (i nx:Int),∀d∈bx ps i nx,d.body=o7
 |p::ps,i,nx,d,h=>by
  rw[bx]at h;rcases RO.1 h with rfl|h
  .rfl
  .exact qX ps _ _ d h
theorem ky{p:au}{t:Ty}(h:nQ p t):t.size<=2:=by rcases h with rfl|rfl|rfl|⟨d,_,_,rfl⟩ <;> first|decide|exact(show(1:Nat)<=2 by decide)
structure Fair(p:au):Prop where
 d:p.aa.length<=1000
 m:p.aw.length<=1000
 u:∀m∈p.aw,m.cZ.length<=1000/\m.aa.length<=1000
 w:∀d∈p.aa,d.wt<=600000000000
theorem DV{l:List aC}(h:∀s∈l,s.ty.size<=2):kO l<=3*l.length:=by
 induction l with
 |nil=>simp[kO]
 |cons s l ih=>have:=ih λx hx=>h x (RM _ hx);have:=h s (RG ..);rw[kO,RU];omega
theorem LM(l:List Int):Fair (aK l):=by
 obtain⟨N,hN,hlk,hnm⟩:=dy l;have hn:=(kT l).nm;have hlen:=hlk.len;have h8:(aX l).length<=8:=by unfold aX;rw[cG];exact(eK l (ay l)).2
 refine⟨Q0,?_,?_,λd hd=>?_⟩
 .show(bU l).length<=1000
  grind [bU]
 .have h5:∀(m:Int) (ps:List aN) (i:Int),(bN m ps i).length<=ps.length:=by
   intro m ps;induction ps with
   |nil=>intro i;simp[bN]
   |cons p ps ih=>intro i;have:=ih (i+1);rw[bN,RS,RU];split <;> simp <;> omega
  have h6:=(eK l 1).2;have h7:=(eK l 2).2;show ∀m∈bU l,m.cZ.length<=1000/\m.aa.length<=1000;unfold bU
  grind
 .obtain⟨e,he,hsh⟩:=hlk.mem hd;have hsl:d.ah.length<=100:=by have:=few0 l e he;rw[(bX hsh).2.2.2.2.1];omega
  have h1:=DV λs hs=>ky (hn.gs d hd s hs);have h2:=ky (hn.gr d hd);have hb:d.body.wt<=500000000000:=by
   obtain⟨k,hk,rfl⟩:=R8.1 hd;by_cases hb:bare (aK l).aa[k]
   .have hk0:k<(aX l).length:=Q0;have hb0:bare (aX l)[k]:=(Df (bX (hlk.get hk hk0)).2.1).1 hb;have h8:(eQ l).1[k]?=some (aX l)[k]:=lU (bU l) l hb0 (aX l).length 0 (aX l) ⟨24,0,0,0⟩ (R5 hk0);have h9:(aK l).aa[k]?=some (aX l)[k]:=rS hb0 (aX l).length 0 (eQ l).1 (Sj (eQ l).2.bj.toNat kx) (ig l) h8;rw[R5 hk,RE]at h9;rw[h9,qX _ _ _ _ (RQ hk0)];have:o7.wt=2:=rfl;omega
   .obtain⟨e,T,T',ids,nx,⟨c,_,_,_,_,_,h0,hmk⟩,hT,_,_,_,hbd⟩:=hnm k hk hb;rw[hbd,Jq];have:=hmk.wt;omega
  unfold an.wt;omega
theorem idK_lt{a b:Int}(ha:0<=a)(h:a<b):iV (fA a) (fA b)=true:=by
 rw[nD];unfold fA
 grind
def jW(a:Int)(n:Nat):List av:=(W6 n).map fun(j:Nat)=>fA (a+(j:Int))
theorem mK(a:Int)(n m:Nat):jW a n++jW (a+n) m=jW a (n+m):=by
 unfold jW;rw[List.range_add,Si,SP]
 congr 1
 apply TM
 grind
theorem Qf(a:Int):jW a 1=[fA a]:=by simp[jW]
theorem MO(a:Int)(n:Nat):jW a (n+1)=fA a::jW (a+1) n:=by rw[Un,<-mK,Qf];rfl
theorem sN{a:Int}(ha:0<=a)(n:Nat):iY (jW a n):=by
 grind [iY,jW,ZB,idK_lt,Yc]
theorem fY{l:List av}(h:iY l):l.Nodup:=We (λh=>uq h) h
mutual
theorem Gk(ids:List av):∀e:Ex,(bV (b8 ids e)).map Ex.id=e.post.map (iL ids)
 |.mk i k n r t l s=>by rw[b8,bV,Ex.post,Si,Si,BJ ids l];rfl
theorem BJ(ids:List av):∀l:List Ex,(aT (iw ids l)).map Ex.id=(Ex.cV l).map (iL ids)
 |[]=>by rw[iw,aT,Ex.cV];rfl
 |e::l=>by rw[iw,aT,Ex.cV,Si,Si,Gk ids e,BJ ids l]
end
theorem put_ids{ks:List Int}{ids:List av}{nx:Int}(hk:∀k∈ks,0<=k/\k<ids.length)(hn:ks.Nodup):ks.map (iL (bE ids ks nx))=jW nx ks.length:=by
 grind [Vh,jW,Sa,np]
def nB(d:an):List av:=if bare d then[] else(bV d.body).map Ex.id
theorem oz:∀(m i:Nat) (ds:List an) (ids:List av) (nx:Int) (k:Nat),k<i->(dv m i ds ids nx)[k]?=ds[k]?
 |0,i,ds,ids,nx,k,h=>by rw[dv]
 |m+1,i,ds,ids,nx,k,h=>by
  rw[dv];split
  .exact oz m (i+1) ds ids nx k Q0
  .rw[oz m (i+1) _ _ _ k Q0,List.getElem?_set_ne Q0]
theorem xG:∀(m i:Nat) (ds:List an) (ids:List av) (nx:Int),(dv m i ds ids nx).length=ds.length
 |0,i,ds,ids,nx=>by rw[dv]
 |m+1,i,ds,ids,nx=>by
  rw[dv];split
  .exact xG m (i+1) ds ids nx
  .rw[xG m (i+1),TF]
theorem xH{N:Nat}:∀(m i:Nat) (ds:List an) (ids:List av) (nx:Int),i+m=ds.length->ids.length=N ->
  (∀k (hk:k<ds.length),i<=k->¬bare ds[k]->ds[k].body.post.Nodup/\∀x∈ds[k].body.post,0<=x/\x<N) ->
  ∃n,((dv m i ds ids nx).drop i).flatMap nB=jW nx n
 |0,i,ds,ids,nx,h,hN,_=>⟨0,by rw[dv,WZ Q0];rfl⟩
 |m+1,i,ds,ids,nx,h,hN,hp=>by
  have hi:i<ds.length:=Q0;have hl:=xG (m+1) i ds ids nx;have hir:i<(dv (m+1) i ds ids nx).length:=Q0;have hd:=Ui hir;rw[hd,RT];by_cases hbr:bare ds[i]
  .have e:dv (m+1) i ds ids nx=dv m (i+1) ds ids nx:=by grind [dv,eD]
   have e2:(dv (m+1) i ds ids nx)[i]=ds[i]:=by
    have:=oz m (i+1) ds ids nx i Q0
    grind
   obtain⟨n,hn⟩:=xH m (i+1) ds ids nx Q0 hN λk hk hlt=>hp k hk Q0
   grind [nB]
  .have e:dv (m+1) i ds ids nx=dv m (i+1) (ds.set i (ds[i].bH (b8 (bE ids ds[i].body.post nx) ds[i].body))) (bE ids ds[i].body.post nx) (nx+ds[i].body.post.length):=by grind [dv,eD]
   have e2:(dv (m+1) i ds ids nx)[i]=ds[i].bH (b8 (bE ids ds[i].body.post nx) ds[i].body):=by
    have:=oz m (i+1) (ds.set i (ds[i].bH (b8 (bE ids ds[i].body.post nx) ds[i].body))) (bE ids ds[i].body.post nx) (nx+ds[i].body.post.length) i Q0
    grind
   obtain⟨n,hn⟩:=xH (N:=N) m (i+1) (ds.set i (ds[i].bH (b8 (bE ids ds[i].body.post nx) ds[i].body))) (bE ids ds[i].body.post nx) (nx+ds[i].body.post.length) (by grind) (by rw[jf];exact hN) λk hk hlt=>by
    have hk':k<ds.length:=by grind
    grind
   obtain⟨hnd,hrg⟩:=hp i hi (Sc _) hbr;refine⟨ds[i].body.post.length+n,?_⟩;rw[e2,e,hn,<-mK]
   congr 1
   have hb2:¬bare (ds[i].bH (b8 (bE ids ds[i].body.post nx) ds[i].body)):=hbr;unfold nB;rw[J1 hb2];show(bV (b8 _ _)).map Ex.id=_;rw[Gk,put_ids (by grind) hnd]
theorem ub:∀(ps:List aN) (i nx:Int),(bx ps i nx).map an.id=jW i ps.length
 |[],i,nx=>rfl
 |p::ps,i,nx=>by rw[bx,Sb,ub ps,RU,MO];rfl
theorem xV(p:aN)(nx:Int):(cO p nx).map aC.id=jW nx p.types.length:=by unfold cO jW;rw[SP];rfl
theorem va:∀(ps:List aN) (i nx:Int),(bx ps i nx).flatMap (λd=>d.ah.map aC.id)=jW nx (dQ ps)
 |[],i,nx=>rfl
 |p::ps,i,nx=>by rw[bx,RT,va ps,mB,<-mK,<-xV];rfl
theorem E3{a b:List an}(h:cU a b):a.map an.id=b.map an.id:=by
 apply Vh
 .simp[h.len]
 .intro k h1 h2;rw[Sa]at h1 h2;rw[S0,S0];exact(bX (h.get h1 h2)).1
theorem jt{α β γ:Type}{f:α->List γ}{g:β->List γ}:∀{a:List α} {b:List β},a.length=b.length->(∀k (h1:k<a.length) (h2:k<b.length),f a[k]=g b[k])->a.flatMap f=b.flatMap g
 |[],[],_,_=>rfl
 |x::a,y::b,h,hk=>by have h0:f x=g y:=hk 0 Q2 Q2;rw[RT,RT,h0,jt (by grind) λk h1 h2=>hk (k+1) (by grind) (by grind)]
theorem Hz{a b:List an}(h:cU a b):a.flatMap (λd=>d.ah.map aC.id)=b.flatMap (λd=>d.ah.map aC.id) :=
 jt h.len λk h1 h2=>by rw[(bX (h.get h1 h2)).2.2.2.2.1]
theorem tV(l:List Int):(bU l).map aO.id=jW 0 (ay l).toNat:=by unfold bU;rcases dw l with h|h <;> rw[h] <;> rfl
theorem OB(l:List Int):∃n,(aK l).aw.map aO.id++(aK l).aa.map an.id++(aK l).aa.flatMap (λd=>d.ah.map aC.id)++(aK l).aa.flatMap nB=jW 0 n:=by
 obtain⟨N,hN,hlk,hnm⟩:=dy l;have hnM:=dw l;have hb:∃n,(aK l).aa.flatMap nB=jW (ig l) n:=by
  have hb0:=By l;have hn0:=ui l;have hl8:(aX l).length<=8:=by unfold aX;rw[cG];exact(eK l (ay l)).2
  have h9:(9:Int) ^ 9=387420489:=Q1;have hB:=nK (l:=l) hb0 hn0 hl8 (aX l).length 0 (aX l) ⟨24,0,0,0⟩ Q0 ⟨cU.refl _,by grind,λk _ h=>J3 h (S6 _)⟩;obtain⟨hlk,hus,hmk⟩:=hB;have hmm:(0:Int)<=((aX l).length-(aX l).length:Nat)*(2*9 ^ 9):=Int.mul_nonneg Q0 Q0;have hlen:(eQ l).1.length=(aX l).length:=hlk.len;have ht:((eQ l).2.bj.toNat:Int)=(eQ l).2.bj:=by unfold eQ;omega
  exact xH (N:=(eQ l).2.bj.toNat) (aX l).length 0 (eQ l).1 (Sj (eQ l).2.bj.toNat kx) (ig l) Q0 Q2 λk hk _ hnb=>by
   obtain⟨T,T',h1,c,_,_,_,_,_,h0,hm⟩:=hmk k hk Q0 hnb;have hr:=hm.cV;refine⟨hr.1,λx hx=>?_⟩;have:=hr.2 x hx
   grind [eQ]
 obtain⟨n,hn⟩:=hb;refine⟨(ay l).toNat+(cx l).length+dQ (cx l)+n,?_⟩;have e1:(aK l).aw.map aO.id=jW 0 (ay l).toNat:=tV l;have e2:(aK l).aa.map an.id=jW (ay l) (cx l).length:=by rw[E3 hlk];exact ub _ _ _
 have e3:(aK l).aa.flatMap (λd=>d.ah.map aC.id)=jW (ay l+(cx l).length) (dQ (cx l)):=by rw[Hz hlk];exact va _ _ _
 rw[e1,e2,e3,hn];rw[<-mK 0 ((ay l).toNat+(cx l).length+dQ (cx l)) n,<-mK 0 ((ay l).toNat+(cx l).length) (dQ (cx l)),<-mK 0 (ay l).toNat (cx l).length];unfold ig;have h0:((ay l).toNat:Int)=ay l:=Q0
 grind
mutual
def Ex.wH:Ex->Nat
 |.mk _ _ _ _ _ l _=>Ex.iX l+1
def Ex.iX:List Ex->Nat
 |[]=>0
 |e::l=>max e.wH (Ex.iX l)
end
theorem Ex.dep_eq(e:Ex):e.wH=Ex.iX e.kids+1:=by cases e;rw[Ex.wH];rfl
theorem Ex.Kx{n:Nat}:∀{l:List Ex},(∀e∈l,e.wH<=n)->Ex.iX l<=n
 |[],_=>by rw[Ex.iX];exact Sy _
 |e::l,h=>by rw[Ex.iX];exact Nat.max_le.2 ⟨h e (RG ..),Ex.Kx λx hx=>h x (RM _ hx)⟩
def ME(b:ByteArray):Prop:=∃x∈nm1,∃y∈nm2,b=x++y
theorem sC(k:Int):ME (ER k):=by
 have h1:(k.tmod 3).toNat<nm1.length:=by
  show(k.tmod 3).toNat<3
  grind
 have h2:((k.tdiv 3).tmod 8).toNat<nm2.length:=by
  show((k.tdiv 3).tmod 8).toNat<8
  grind
 unfold ER;rw[eD h1,eD h2];exact⟨_,RQ _,_,RQ _,rfl⟩
def nodeSh(x:Ex):Prop:=x.kids.length<=8/\∀m∈x.aJ,ME m
structure Sh(n:Nat)(e:Ex):Prop where
 wH:e.wH<=n
 all:∀x∈bV e,nodeSh x
theorem kq{x:Ex}:∀{l:List Ex},x∈aT l->∃e∈l,x∈bV e
 |[],h=>by simp[aT]at h
 |e::l,h=>by
  rw[aT]at h;rcases RY.1 h with h|h
  .grind
  .obtain⟨y,hy,h⟩:=kq h
   grind
theorem Sh.node{n:Nat}{i r:av}{k z:Int}{t:Ty}{l:List Ex}{s:List ByteArray}(h:∀e∈l,Sh n e)(hl:l.length<=8)(hs:∀m∈s,ME m):Sh (n+1) (.mk i k z r t l s):=by
 refine⟨by rw[Ex.wH];exact Nat.succ_le_succ (Ex.Kx λe he=>(h e he).wH),λx hx=>?_⟩;rw[bV]at hx;rcases RY.1 hx with hx|hx
 .obtain⟨e,he,hx⟩:=kq hx;exact(h e he).all x hx
 .rw[RZ.1 hx];exact⟨hl,hs⟩
def BO(n:Nat)(g:GX):Prop:=∀t env d s,Sh n (g t env d s).1/\(g t env d s).2.left<=s.left
section
variable {c:fE} {n:Nat} {g:GX}
theorem E7(hg:BO n g){t:Ty}{env:List cg}{d:Int}:∀(m:Nat) (s:b6),(∀e∈(du g t env d m s).1,Sh n e)/\(du g t env d m s).1.length<=m/\(du g t env d m s).2.left<=s.left
 |0,s=>⟨λe h=>(by cases h),Sc _,SM _⟩
 |m+1,s=>by
  rw[du];split
  .have h1:=hg t env d s;have h2:=E7 hg (t:=t) (env:=env) (d:=d) m (g t env d s).2
   grind
  all_goals grind
theorem sI(hg:BO n g){env:List cg}{d:Int}:∀(ts:List Ty) (s:b6),(∀e∈(dt g env d ts s).1,Sh n e)/\(dt g env d ts s).1.length=ts.length/\(dt g env d ts s).2.left<=s.left
 |[],s=>⟨λe h=>(by cases h),rfl,SM _⟩
 |t::ts,s=>by
  rw[dt];have h1:=hg t env d s;have h2:=sI hg (env:=env) (d:=d) ts (g t env d s).2
  grind
theorem vw(hg:BO n g){t:Ty}{env:List cg}{d:Int}{id:av}:∀(sl:List aC) (i:Nat) (s:b6),(∀e∈(bt g t env d id sl i s).1.1,Sh n e)/\(∀m∈(bt g t env d id sl i s).1.2,ME m)/\(bt g t env d id sl i s).1.1.length=sl.length/\(bt g t env d id sl i s).2.left<=s.left
 |[],i,s=>⟨λe h=>(by cases h),λe h=>(by cases h),rfl,SM _⟩
 |x::sl,i,s=>by
  rw[bt];have h1:=hg t (env++[⟨id,i,x.ty⟩]) d s;have h2:=vw hg (t:=t) (env:=env) (d:=d) (id:=id) sl (i+1) (aM (g t (env++[⟨id,i,x.ty⟩]) d s).2).2;refine⟨λe he=>?_,λm hm=>?_,by grind,Int.le_trans h2.2.2.2 h1.2⟩
  .grind
  .rcases RO.1 hm with rfl|hm
   .exact sC _
   .exact h2.2.1 m hm
theorem yc:∀m∈([]:List ByteArray),ME m:=λm h=>by cases h
theorem Sh.nd{k z:Int}{l:List Ex}{s:b6}(h:∀e∈l,Sh n e)(hl:l.length<=8):Sh (n+1) (be k z l s).1:=Sh.node h hl yc
theorem Sh.ndR{k z:Int}{l:List Ex}{s:b6}{r:av}(h:∀e∈l,Sh n e)(hl:l.length<=8):Sh (n+1) ((be k z l s).1.dO r):=Sh.node h hl yc
theorem Sh.ndT{k z:Int}{l:List Ex}{s:b6}{t:Ty}(h:∀e∈l,Sh n e)(hl:l.length<=8):Sh (n+1) ((be k z l s).1.I7 t):=Sh.node h hl yc
theorem JV(hg:BO n g)(hs:gk c.p)(t:Ty)(env:List cg)(x d:Int)(s:b6):Sh (n+1) (kZ c g t env x d s).1/\(kZ c g t env x d s).2.left<=s.left:=by
 unfold kZ;split
 .exact⟨Sh.node (λe h=>by cases h) (Sy _) yc,show s.left-1<=s.left by omega⟩
 split
 .exact⟨Sh.node (λe h=>by cases h) (Sy _) yc,show s.left-1<=s.left by omega⟩
 split
 .have hk:=E7 hg (t:=t.kids.headD bQ) (env:=env) (d:=d-1) (if 0<=d then(x.tmod 3).toNat else 0) s;have h3:(if 0<=d then(x.tmod 3).toNat else 0)<=2:=by
   grind
  dsimp only;generalize du g (t.kids.headD bQ) env (d-1) (if 0<=d then(x.tmod 3).toNat else 0) s=r at hk ⊢;exact⟨Sh.ndT hk.1 Q0,show r.2.left-1<=s.left by omega⟩
 split
 .have h1:=hg (((al c.p t.df).ah.map aC.ty).getD (gj (al c.p t.df) x d).toNat bQ) env (d-1) s;exact⟨Sh.ndR (λe h=>by grind) (Tz rfl),show(g _ _ _ _).2.left-1<=s.left by omega⟩
 .have hk:=sI hg (env:=env) (d:=d-1) ((al c.p t.df).ah.map aC.ty) s;have h3:=hs.mY t.df;rw[Sa]at hk;dsimp only;generalize dt g env (d-1) ((al c.p t.df).ah.map aC.ty) s=r at hk ⊢;exact⟨Sh.ndR hk.1 Q0,show r.2.left-1<=s.left by omega⟩
theorem oneG_sh(hg:BO n g)(z:Int)(u:Ty)(env:List cg)(d:Int)(s:b6):Sh (n+1) (Hg g z u env d s).1/\(Hg g z u env d s).2.left<=s.left:=by have h1:=hg u env d s;unfold Hg;exact⟨Sh.nd (λe h=>by grind) Q2,show(g _ _ _ _).2.left-1<=s.left by omega⟩
theorem Rc(hg:BO n g)(z:Int)(u:Ty)(env:List cg)(d:Int)(s:b6):Sh (n+1) (lT g z u env d s).1/\(lT g z u env d s).2.left<=s.left:=by
 have h1:=hg u env d s;have h2:=hg u env d (g u env d s).2;unfold lT;refine⟨Sh.nd (λe h=>?_) Q2,show(g _ _ _ (g _ _ _ _).2).2.left-1<=s.left by omega⟩
 grind
theorem Cj(hg:BO n g)(hs:gk c.p)(t:Ty)(env:List cg)(x d:Int)(s:b6):Sh (n+1) (nO c g t env x d s).1/\(nO c g t env x d s).2.left<=s.left:=by
 unfold nO
 repeat' split
 all_goals first|exact oneG_sh hg ..|exact Rc hg ..|exact JV hg hs ..
theorem Mr(hg:BO n g)(hs:gk c.p)(t:Ty)(env:List cg)(x d:Int)(s:b6):Sh (n+1) (jV c g t env x d s).1/\(jV c g t env x d s).2.left<=s.left:=by
 unfold jV;split
 .exact Cj hg hs ..
 .have hd:(bP c (Nw c 1 x.toNat).toNat).ah.length<=3:=by
   unfold bP;rw[S9];cases h:c.p.aa[(Nw c 1 x.toNat).toNat]? with
   |none=>exact Sy _
   |some y=>exact hs y (UM h)
  generalize bP c (Nw c 1 x.toNat).toNat=dd at hd ⊢;have h1:=hg (mD dd.id) env (d-2) s;dsimp only;generalize g (mD dd.id) env (d-2) s=r at h1 ⊢;have h2:=vw hg (t:=t) (env:=env) (d:=d-1) (id:=(be 10 0 [] r.2).1.id) dd.ah 0 (be 10 0 [] r.2).2;generalize bt g t env (d-1) (be 10 0 [] r.2).1.id dd.ah 0 (be 10 0 [] r.2).2=z at h2 ⊢;have h5:(be 10 0 [] r.2).2.left=r.2.left-1:=rfl;refine⟨Sh.node (λe h=>?_) (by grind) h2.2.1,show z.2.left<=s.left by omega⟩
  grind
theorem MZ(hg:BO n g)(hs:gk c.p)(t:Ty)(env:List cg)(x d:Int)(s:b6):Sh (n+1) (jX c g t env x d s).1/\(jX c g t env x d s).2.left<=s.left:=by
 unfold jX;split
 .rename_i k j _;have h1:=hg (mD (bP c k).id) env (d-1) s;exact⟨Sh.ndR (λe h=>by grind) (Tz rfl),show(g _ _ _ _).2.left-1<=s.left by omega⟩
 .exact Cj hg hs ..
theorem QW(hg:BO n g)(hs:gk c.p)(t:Ty)(env:List cg)(x d:Int)(s:b6):Sh (n+1) (nR c g t env x d s).1/\(nR c g t env x d s).2.left<=s.left:=by
 unfold nR;split
 .rename_i k _;have hd:(bP c k).ah.length<=3:=by
   unfold bP;rw[S9];cases h:c.p.aa[k]? with
   |none=>exact Sy _
   |some y=>exact hs y (UM h)
  have hk:=sI hg (env:=env) (d:=d-1) ((bP c k).ah.map aC.ty) s;rw[Sa]at hk;dsimp only;generalize dt g env (d-1) ((bP c k).ah.map aC.ty) s=r at hk ⊢;exact⟨Sh.ndR hk.1 Q0,show r.2.left-1<=s.left by omega⟩
 .exact Cj hg hs ..
theorem ifG_sh(hg:BO n g)(t:Ty)(env:List cg)(d:Int)(s:b6):Sh (n+1) (ifG g t env d s).1/\(ifG g t env d s).2.left<=s.left:=by
 unfold ifG;dsimp only;have h1:=hg (.mk 1 kx []) env d s;generalize g (.mk 1 kx []) env d s=a at h1 ⊢;have h2:=hg t env d a.2;generalize g t env d a.2=b at h2 ⊢;have h3:=hg t env d b.2;generalize g t env d b.2=e at h3 ⊢;refine⟨Sh.nd (λx h=>?_) Q2,show e.2.left-1<=s.left by omega⟩
 grind
theorem letG_sh(hg:BO n g)(t:Ty)(env:List cg)(x d:Int)(s:b6):Sh (n+1) (My g t env x d s).1/\(My g t env x d s).2.left<=s.left:=by
 unfold My;dsimp only;have h1:=hg (jL env x).ty env d s;generalize g (jL env x).ty env d s=a at h1 ⊢;have h2:=hg t (env++[⟨(be 6 0 [] a.2).1.id,0,(jL env x).ty⟩]) d (aM (be 6 0 [] a.2).2).2;generalize g t (env++[⟨(be 6 0 [] a.2).1.id,0,(jL env x).ty⟩]) d (aM (be 6 0 [] a.2).2).2=b at h2 ⊢;have h5:(aM (be 6 0 [] a.2).2).2.left=a.2.left-1:=rfl;refine⟨Sh.node (λx h=>?_) (Tz rfl) (λm hm=>by rw[RZ.1 hm];exact sC _),show b.2.left<=s.left by omega⟩
 grind
theorem Qt(hg:BO n g)(t:Ty)(env:List cg)(d:Int)(s:b6):Sh (n+1) (A3 g t env d s).1/\(A3 g t env d s).2.left<=s.left:=by
 unfold A3;dsimp only;have h1:=hg (cb bQ) env d s;generalize g (cb bQ) env d s=a at h1 ⊢;have h2:=hg t env d a.2;generalize g t env d a.2=b at h2 ⊢;have h3:=hg t (env++[⟨(be 12 0 [] b.2).1.id,0,bQ⟩]++[⟨(be 12 0 [] b.2).1.id,1,t⟩]) d (aM (aM (be 12 0 [] b.2).2).2).2;generalize g t (env++[⟨(be 12 0 [] b.2).1.id,0,bQ⟩]++[⟨(be 12 0 [] b.2).1.id,1,t⟩]) d (aM (aM (be 12 0 [] b.2).2).2).2=e at h3 ⊢;have h5:(aM (aM (be 12 0 [] b.2).2).2).2.left=b.2.left-1:=rfl;refine⟨Sh.node (λx h=>?_) (Tz rfl) (λm hm=>?_),show e.2.left<=s.left by omega⟩
 .grind
 .simp only[RO,Sx,or_false]at hm;rcases hm with rfl|rfl
  .exact sC _
  .exact sC _
theorem Oj(hg:BO n g)(hs:gk c.p)(t:Ty)(env:List cg)(k x d:Int)(s:b6):Sh (n+1) (ow c g t env k x d s).1/\(ow c g t env k x d s).2.left<=s.left:=by
 unfold ow
 repeat' split
 all_goals first|exact ifG_sh hg ..|exact letG_sh hg ..|exact Mr hg hs ..|exact MZ hg hs ..|exact QW hg hs ..|exact Qt hg ..|exact Cj hg hs ..
theorem FC(hg:BO n g)(hs:gk c.p):BO (n+1) (lq c g):=λt env d s=>by
 unfold lq;dsimp only;generalize(if(fW c 65536 s).2.left<=0 then min d 0 else d)=dd;have e:s.left=(fW c 65536 s).2.left:=rfl;rw[e];split
 .exact⟨Sh.node (λe h=>by cases h) (Sy _) yc,show(fW c 65536 s).2.left-1<=(fW c 65536 s).2.left by omega⟩
 grind [JV,Oj]
theorem sX(hs:gk c.p):∀n:Nat,BO (n+1) (aB c n)
 |0=>λt env d s=>⟨Sh.node (λe h=>by cases h) (Sy _) yc,SM _⟩
 |n+1=>FC (sX hs n) hs
def szB:Nat->Nat
 |0=>0
 |n+1=>1+3*szB n
def GSz(c:fE)(g:GX)(m:Nat):Prop:=∀t env d s,eV c.p m t->d<=0->s.left<=0->(g t env d s).1.size<=szB m
theorem D2{b:Nat}:∀{l:List Ex},(∀e∈l,e.size<=b)->Ex.ba l<=b*l.length
 |[],_=>by simp[Ex.ba]
 |e::l,h=>by have h1:=h e (RG ..);have h2:=D2 (l:=l) λx hx=>h x (RM _ hx);rw[Ex.ba,RU,Nat.mul_add,UG];omega
theorem E6{m:Nat}(hg:GSz c g m)(hsh:BO n g){env:List cg}{d:Int}(hd:d<=0):∀(ts:List Ty) (s:b6),(∀t∈ts,eV c.p m t)->s.left<=0->∀e∈(dt g env d ts s).1,e.size<=szB m
 |[],s,_,_=>λe h=>by cases h
 |t::ts,s,ht,hl=>λe he=>by
  rw[dt]at he;have h1:=(hsh t env d s).2;rcases RO.1 he with rfl|he
  .exact hg t env d s (ht t (RG ..)) hd hl
  .exact E6 hg hsh hd ts _ (λx hx=>ht x (RM _ hx)) Q0 e he
theorem litG_sz{m:Nat}(hg:GSz c g m)(hsh:BO n g)(t:Ty)(env:List cg)(x d:Int)(s:b6)(hw:eV c.p (m+1) t)(hd:d<=0)(hl:s.left<=0):(kZ c g t env x d s).1.size<=szB (m+1):=by
 rw[szB];unfold kZ;split
 .show Ex.size (.mk ..)<=_;rw[Ex.cf];show 1+0<=_;omega
 rename_i h0;split
 .show Ex.size (.mk ..)<=_;rw[Ex.cf];show 1+0<=_;omega
 rename_i h1;split
 .have e:du g (t.kids.headD bQ) env (d-1) (if 0<=d then(x.tmod 3).toNat else 0) s=([],s):=by
   cases(if 0<=d then(x.tmod 3).toNat else 0) with
   |zero=>rfl
   |succ k=>rw[du,J1 Q0]
  dsimp only;rw[e];show Ex.size (.mk ..)<=_;rw[Ex.cf];show 1+0<=_;omega
 rename_i h2;obtain⟨w1,w2,w3⟩:=mW hw h0 h1 h2;split
 .rename_i hk;have hs:=w2 hk;have hcn:(gj (al c.p t.df) x d).toNat<(al c.p t.df).ah.length:=by
   unfold gj;split
   .exact hs
   .have:=Int.tmod_lt_of_pos x (show(0:Int)<(al c.p t.df).ah.length by omega);omega
  have hget:((al c.p t.df).ah.map aC.ty).getD (gj (al c.p t.df) x d).toNat bQ=(al c.p t.df).ah[(gj (al c.p t.df) x d).toNat].ty:=by
   grind
  have:=hg (((al c.p t.df).ah.map aC.ty).getD (gj (al c.p t.df) x d).toNat bQ) env (d-1) s (by grind) Q0 hl;show Ex.size (.mk ..)<=_;rw[Ex.cf];show 1+((g _ _ _ _).1.size+0)<=_;omega
 .have hk:=E6 hg hsh (env:=env) (d:=d-1) Q0 ((al c.p t.df).ah.map aC.ty) s (λu hu=>by
   obtain⟨y,hy,rfl⟩:=R3.1 hu
   exact w3 y hy) hl
  have hlen:=(sI hsh (env:=env) (d:=d-1) ((al c.p t.df).ah.map aC.ty) s).2.1;rw[Sa]at hlen;dsimp only;generalize dt g env (d-1) ((al c.p t.df).ah.map aC.ty) s=r at hk hlen ⊢;have:=D2 hk;have h5:szB m*r.1.length<=szB m*3:=Nat.mul_le_mul_left _ Q0;show Ex.size (.mk ..)<=_;rw[Ex.cf];show 1+Ex.ba r.1<=_;omega
theorem FB{m:Nat}(hg:GSz c g m)(hsh:BO n g):GSz c (lq c g) (m+1):=λt env d s hw hd hl=>by
 unfold lq;dsimp only;have e:(fW c 65536 s).2.left=s.left:=rfl;rw[e,J2 hl];split
 .show Ex.size (.mk ..)<=_;rw[Ex.cf,szB];show 1+0<=_;omega
 split
 .exact litG_sz hg hsh _ _ _ _ _ hw Q0 hl
 .omega
theorem FE(hs:gk c.p):∀n m:Nat,m<=n->GSz c (aB c n) m
 |_,0,_=>λt env d s hw _ _=>hw.elim
 |n+1,m+1,h=>FB (FE hs n m Q0) (sX hs n)
end
theorem body_sh{c:fE}{d:an}{s:b6}(hb:kj c.p 5)(hl:cU (c.with d (aB c 9 d.aq (bR d) 4 s).1).p.aa c.p.aa)(hd:d∈c.p.aa):Sh 10 (fQ c d s).1/\(fQ c d s).1.size<=128:=by
 unfold fQ;split
 .have hb2:kj (c.with d (aB c 9 d.aq (bR d) 4 s).1).p 5:=kj.mG (ms:=c.p.aw) hb hl;generalize c.with d (aB c 9 d.aq (bR d) 4 s).1=c2 at hl hb2 ⊢;refine⟨(sX hb2.gen.fJ 9 _ _ _ _).1,?_⟩;have w:eV c2.p 5 d.aq:=by obtain⟨d2,hd2,hs⟩:=cU.mem (a:=c.p.aa) (b:=c2.p.aa) hl.symm hd;have:=(bX hs).2.2.2.2.2.1;rw[this];exact hb2.resA d2 hd2
  have:=FE hb2.gen.fJ 9 5 Q0 d.aq (bR d) 0 ⟨(aB c 9 d.aq (bR d) 4 s).2.pos,(aB c 9 d.aq (bR d) 4 s).2.bj,0,(aB c 9 d.aq (bR d) 4 s).2.name⟩ w (SM _) (SM _)
  grind [szB]
 .rename_i h;exact⟨(sX hb.gen.fJ 9 _ _ _ _).1,Q0⟩
mutual
theorem En(ids:List av):∀e:Ex,(b8 ids e).wH=e.wH
 |.mk i k n r t l s=>by rw[b8,Ex.wH,Ex.wH,El ids l]
theorem El(ids:List av):∀l:List Ex,Ex.iX (iw ids l)=Ex.iX l
 |[]=>by rw[iw]
 |e::l=>by rw[iw,Ex.iX,Ex.iX,En ids e,El ids l]
end
theorem Ek(ids:List av)(l:List Ex):(iw ids l).length=l.length:=by rw[rT,Sa]
mutual
theorem xI(ids:List av):∀e:Ex,bV (b8 ids e)=(bV e).map (b8 ids)
 |.mk i k n r t l s=>by rw[b8,bV,bV,Em ids l,Si,List.map_singleton,b8]
theorem Em(ids:List av):∀l:List Ex,aT (iw ids l)=(aT l).map (b8 ids)
 |[]=>by rw[iw,aT];rfl
 |e::l=>by rw[iw,aT,aT,xI ids e,Em ids l,Si]
end
theorem Sh.ren{n:Nat}{e:Ex}(h:Sh n e)(ids:List av):Sh n (b8 ids e):=by
 refine⟨by rw[En];exact h.wH,λx hx=>?_⟩;rw[xI]at hx;obtain⟨y,hy,rfl⟩:=R3.1 hx;have:=h.all y hy;cases y with
 |mk i k n r t l s=>rw[b8];exact⟨by show(iw ids l).length<=8;rw[Ek];exact this.1,this.2⟩
theorem tP:∀(m i:Nat) (ds:List an) (ids:List av) (nx:Int) (k:Nat) (d:an),(dv m i ds ids nx)[k]?=some d->∃d0,ds[k]?=some d0/\d.kind=d0.kind/\(d.body=d0.body\/∃ids',d.body=b8 ids' d0.body)
 |0,i,ds,ids,nx,k,d,h=>⟨d,by grind [dv],rfl,.inl rfl⟩
 |m+1,i,ds,ids,nx,k,d,h=>by
  rw[dv]at h;split at h
  .exact tP m (i+1) ds ids nx k d h
  .by_cases e:k=i
   .subst e;rw[oz m (k+1) _ _ _ k Q0]at h;by_cases hk:k<ds.length
    .rw[List.getElem?_set_self hk,eD hk]at h;obtain rfl:=TW h;exact⟨ds[k],R5 hk,rfl,.inr ⟨_,rfl⟩⟩
    all_goals grind
   .obtain⟨d0,h1,h2⟩:=tP m (i+1) _ _ _ k d h
    grind
theorem uK{ms:List aO}{l:List Int}{ds0:List an}(hb:kj ⟨ms,ds0⟩ 5):∀(m i:Nat) (ds:List an) (s:b6),i+m=ds.length->cU ds ds0->(∀k (hk:k<ds.length),k<i->¬bare ds[k]->Sh 10 ds[k].body/\ds[k].body.size<=128) ->
  ∀k (hk:k<(bu ms l m i ds s).1.length),¬bare (bu ms l m i ds s).1[k]->Sh 10 (bu ms l m i ds s).1[k].body/\(bu ms l m i ds s).1[k].body.size<=128
 |0,i,ds,s,h,_,hp=>λk hk hnb=>by
  grind [bu]
 |m+1,i,ds,s,h,hlk,hp=>by
  have hi:i<ds.length:=Q0;by_cases hbr:bare ds[i]
  .have e:bu ms l (m+1) i ds s=bu ms l m (i+1) ds s:=by grind [bu,eD]
   rw[e];refine uK hb m (i+1) ds s Q0 hlk λk hk hlt hnb=>?_
   grind
  .have e:bu ms l (m+1) i ds s=bu ms l m (i+1) (ds.set i (ds[i].bH (fQ ⟨⟨ms,ds⟩,l,i,ds[i].mod⟩ ds[i] ⟨s.pos,s.bj,14,0⟩).1)) (fQ ⟨⟨ms,ds⟩,l,i,ds[i].mod⟩ ds[i] ⟨s.pos,s.bj,14,0⟩).2:=by grind [bu,eD]
   rw[e];have hbd:kj ⟨ms,ds⟩ 5:=hb.mG hlk
   have hS:=body_sh (c:=⟨⟨ms,ds⟩,l,i,ds[i].mod⟩) (d:=ds[i]) (s:=⟨s.pos,s.bj,14,0⟩) hbd (by
    show cU (ds.set (i:Int).toNat (ds[i].bH _)) ds;rw[Int.toNat_natCast]
    exact(cU.refl _).set hi _) (RQ hi)
   generalize fQ ⟨⟨ms,ds⟩,l,i,ds[i].mod⟩ ds[i] ⟨s.pos,s.bj,14,0⟩=r at hS ⊢;refine uK hb m (i+1) _ _ (by grind) (hlk.set hi _) λk hk hlt hnb=>?_;by_cases e:k=i
   .subst e;simp only[List.getElem_set_self];exact hS
   all_goals grind
theorem v8(l:List Int):∀d∈(aK l).aa,¬bare d->Sh 10 d.body/\d.body.size<=128:=λd hd hnb=>by
 obtain⟨k,hk,rfl⟩:=R8.1 hd;obtain⟨d0,h1,h2,h3⟩:=tP _ _ _ _ _ k (aK l).aa[k] (R5 hk);obtain⟨hk0,rfl⟩:=TN.1 h1;have hs:=uK (l:=l) (By l) (aX l).length 0 (aX l) ⟨24,0,0,0⟩ Q0 (cU.refl _) (λk _ h=>J3 h (S6 _)) k hk0 (λh=>hnb ((Df h2).2 h));rcases h3 with h3|⟨ids,h3⟩
 .rw[h3];exact hs
 .rw[h3];exact⟨hs.1.ren ids,by rw[tQ];exact hs.2⟩
theorem tU(l:List Int):∀d∈(aK l).aa,bare d->d.body=o7:=λd hd hb=>by
 obtain⟨N,hN,hlk,hnm⟩:=dy l;obtain⟨k,hk,rfl⟩:=R8.1 hd;have hk0:k<(aX l).length:=by rw[<-hlk.len];exact hk
 have hb0:bare (aX l)[k]:=(Df (bX (hlk.get hk hk0)).2.1).1 hb;have h8:(eQ l).1[k]?=some (aX l)[k]:=lU (bU l) l hb0 (aX l).length 0 (aX l) ⟨24,0,0,0⟩ (R5 hk0);have h9:(aK l).aa[k]?=some (aX l)[k]:=rS hb0 (aX l).length 0 (eQ l).1 (Sj (eQ l).2.bj.toNat kx) (ig l) h8;rw[R5 hk,RE]at h9;rw[h9,qX _ _ _ _ (RQ hk0)]
end Xe
namespace Go.Proofs.YtmbboaapillefaaGreatDoor
open Xe Pm
theorem yX{S:List Ex}(hc:∀e∈S,∀k∈e.kids,k∈S):∀(n:Nat) (e:Ex),e.wt<=n->e∈S->∀x∈bV e,x∈S
 |0,e,h,_=>by have:=Ex.cS e;omega
 |n+1,e,h,he=>λx hx=>by
  have h1:=Ex.cS e;rw[jw]at hx;rcases RY.1 hx with hx|hx
  .obtain⟨y,hy,hx⟩:=kq hx;have:=Ex.wU hy;exact yX hc n y Q0 (hc e he y hy) x hx
  all_goals grind
def met(q:List Ex)(k:Nat):List Ex:=q++((lx q).take k).flatMap Ex.kids
theorem EV(q:List Ex){k:Nat}(hk:k<(lx q).length):met q (k+1)=met q k++(lx q)[k].kids:=by unfold met;rw[RJ hk,Sd,RT,Sw,RW,R9]
theorem wg(q:List Ex)(k:Nat):met q k <+: lx q:=by
 refine⟨((lx q).drop k).flatMap Ex.kids,?_⟩
 grind [met,R9,TS,Io]
theorem JL(q:List Ex):met q (lx q).length=lx q:=by
 grind [met,Sl,Io]
theorem EW{q:List Ex}(hn:((aT q).map Ex.id).Nodup){k:Nat}(hk:k<(lx q).length):k<(met q k).length:=by
 rcases Xc k (met q k).length with h|h
 .exact h
 exfalso;obtain⟨r,hr⟩:=wg q k;have hp:=pf q;have hnd:((lx q).map Ex.id).Nodup:=(hp.map Ex.id).nodup_iff.2 hn;have hsub:∀e∈met q k,e∈(lx q).take k:=λe he=>by
  have e2:(lx q).take (met q k).length=met q k:=by
   grind
  rw[<-e2]at he;exact(List.take_sublist_take_left h).subset he
 have hc:∀e∈(lx q).take k,∀x∈e.kids,x∈(lx q).take k:=λe he x hx=>hsub x (List.mem_append_right _ (TO.2 ⟨e,he,hx⟩));have hall:∀x∈lx q,x∈(lx q).take k:=λx hx=>by obtain⟨e,he,hxe⟩:=kq (hp.mem_iff.1 hx);exact yX hc _ e (Sc _) (hsub e (List.mem_append_left _ he)) x hxe
 have hin:(lx q)[k]∈(lx q).take k:=hall _ (RQ hk);have e3:lx q=(lx q).take k++(lx q)[k]::(lx q).drop (k+1):=by simp_all
 grind
theorem met_at{q:List Ex}{k:Nat}(hk:k<(lx q).length)(hl:k<(met q k).length):(met q k)[k]=(lx q)[k]:=by
 obtain⟨r,hr⟩:=wg q k
 grind
theorem Mq{q:List Ex}(hn:((aT q).map Ex.id).Nodup){k:Nat}(hk:k<(lx q).length){j:Nat}(hj:j<(lx q)[k].kids.length):(lx q)[k].kids[j].id ∉ (met q k++(lx q)[k].kids.take j).map Ex.id:=by
 have hnd:((lx q).map Ex.id).Nodup:=((pf q).map Ex.id).nodup_iff.2 hn;obtain⟨r,hr⟩:=wg q (k+1);rw[EV q hk]at hr;generalize(lx q)[k]=e at hj hr ⊢;have e3:e.kids=e.kids.take j++e.kids[j]::e.kids.drop (j+1):=by simp_all
 rw[<-hr,e3,<-R9,R9 _ (e.kids[j]::_),SA,Si,Sb]at hnd
 grind
def aQ(ds:List an):List Ex:=(ds.filter λd=>dR d.kind).map an.body
theorem u7{ds:List an}{k:Nat}(hk:k<ds.length):aQ (ds.take (k+1))=aQ (ds.take k)++if dR ds[k].kind then[ds[k].body] else[]:=by
 grind [aQ,RJ]
structure wO(L:List ao)(ds:List an):Prop where
 aw:∀d∈ds,kf L d.mod 0=true
 ah:∀d∈ds,∃R:List ao,R.length<=6/\∀Q:List ao,Q.Perm (L.filter λx=>decide (x.kind=3) && decide (x.uw=d.id))->IS kR [[dP Q]] [[dP R]]
 sm:∀e∈aT (aQ ds),L.find? (λx=>decide (e.id=x.id))=some (jF e)/\e.kids.length<=8
 nodup:((aT (aQ ds)).map Ex.id).Nodup
 len:L.length<=300000000000
theorem wO.node{L:List ao}{ds:List an}(h:wO L ds){e:Ex}(he:e∈aT (aQ ds)):kf L e.id 4=true:=by unfold kf;rw[(h.sm e he).1];rfl
theorem cQ(e:Ex):e∈bV e:=by grind [jw,List.mem_append_right,RZ]
theorem iS{l:List Ex}{e x:Ex}(he:e∈l)(hx:x∈bV e):x∈aT l:=by
 induction l with
 |nil=>cases he
 |cons y l ih =>
  rw[aT];rcases RO.1 he with rfl|he
  .exact List.mem_append_left _ hx
  .exact List.mem_append_right _ (ih he)
theorem QP(M L:List ao)(ds:List an)(hM:M.length<=16)(hd:ds.length<=32)(H:wO L ds)(hb:(aT (aQ ds)).length<=1000000000) :
  IS s100 [[dP M],[dP (ds.map cM)],[jv L],[.sl 0 6 []],[.sl 0 4 []],[.sl 0 3 []]] [[jv L],[ir ((lx (aQ ds)).map Ex.id)],[.sl 0 6 []],[dI ((lx (aQ ds)).map Ex.id)]]:=by
 refine w100.is ?_;unfold g100;have hbl:(lx (aQ ds)).length=(aT (aQ ds)).length:=(pf _).length_eq;refine bB [[dP (ds.map cM)],[jv L],[.sl 0 6 []],[.sl 0 4 []],[.sl 0 3 []]] ?_ ?_
 .simp only[ai];refine⟨λh=>by omega,λ_=>?_⟩;rw[Sa];refine⟨λh=>by omega,λ_=>trivial⟩
 .simp only[ai];refine bc ds.length (λk=>[[dP (ds.map cM)],[vI (ds.length:Int)],[vI (k:Int)],[jv L],[.sl 0 6 []],[ir ((aQ (ds.take k)).map Ex.id)],[dI ((aQ (ds.take k)).map Ex.id)]]) (λ_=>True) trivial (by rw[Sa];rfl) λk next hi _ hn=>?_
  simp only[ai];refine⟨λh=>?_,λh=>?_⟩
  .have hk:k<ds.length:=Q0;have hdm:=RQ hk;have h3:=hn hk trivial;have hke:(ds.map cM)[k]'(by grind)=cM ds[k]:=by grind
   rw[iq _ (by grind),hke];have hm:=H.aw _ hdm;obtain⟨R,hR,hRs⟩:=H.ah _ hdm;have hsub:∀x∈aT (aQ ds),x∈aT (aQ ds):=λx h=>h;have hroot:dR (ds[k]).kind=true->(ds[k]).body∈aQ ds:=λhB=>R3.2 ⟨_,Sp.2 ⟨hdm,hB⟩,rfl⟩;have hfr:dR (ds[k]).kind=true->(ds[k]).body.id ∉ (aQ (ds.take k)).map Ex.id:=λhB hin=>by
    have hnd:=H.nodup;have e1:aQ ds=aQ (ds.take k)++(ds[k]).body::aQ (ds.drop (k+1)):=by
     conv=>lhs;rw[<-TS (k+1) ds]
     show((ds.take (k+1)++ds.drop (k+1)).filter _).map _=_
     grind [aQ,u7,R9]
    rw[e1,qb,aT,Si,Si]at hnd;obtain⟨y,hy,he⟩:=R3.1 hin;refine(Td.1 hnd).2.2 y.id (Ss (iS hy (cQ y))) (ds[k]).body.id (List.mem_append_left _ (Ss (cQ _))) he
   have hlen:((aQ (ds.take k)).map Ex.id).length<=ds.length:=by
    grind [Sa,aQ]
   rw[u7 hk]at h3;generalize ds[k]=d at hm hRs hroot hfr h3 ⊢;have p1:sub (cM d).enc 7 3=d.mod.enc/\sub (cM d).enc 0 3=d.id.enc/\cell (cM d).enc 6=aj d.kind:=⟨rfl,rfl,rfl⟩;have p2:sub (cM d).enc 16 3=(if dR d.kind then d.body.id else qg).enc:=by unfold ao.enc sub av.enc;simp[Ty.aD,cM]
   simp only[p1];refine⟨by grind,?_⟩;refine bB [[dP (ds.map cM)],[vI (ds.length:Int)],[vI (k:Int)],(cM d).enc,[jv L],[.sl 0 6 []],[ir ((aQ (ds.take k)).map Ex.id)],[dI ((aQ (ds.take k)).map Ex.id)]] ?_ ?_
   .refine ab (pQ L d.mod 0) ?_;rw[hm];simp only[ai,SJ]
   .simp only[ai,p1];refine bB [[dP (ds.map cM)],[vI (ds.length:Int)],[vI (k:Int)],(cM d).enc,[jv L],[.sl 0 6 []],[ir ((aQ (ds.take k)).map Ex.id)],[dI ((aQ (ds.take k)).map Ex.id)]] ?_ ?_
    .refine ab (xi d.id L R H.len hRs _ _ _ _ _ _) ?_;simp only[ai];exact⟨λh=>by omega,λ_=>trivial⟩
    .simp only[ai,p1,p2];refine ab (Da _) ?_;cases hB:dR d.kind with
     |false=>rw[hB]at h3;simp only[ai,Tq,VO,if_false,RW]at h3 ⊢;exact⟨Q4,h3⟩
     |true=>rw[hB]at h3;simp only[ai,SJ,if_true,Si,Sb,Tr]at h3 ⊢;refine ab (pQ L d.body.id 4) ?_;rw[H.node (iS (hroot hB) (cQ _))];simp only[ai];refine ab (Eo d.body.id L _ _ (hfr hB) Q0 _ _) ?_;simp only[ai];exact⟨Q4,h3⟩
  .obtain rfl:k=ds.length:=Q0;rw[Sl];have hrl:aQ ds=met (aQ ds) 0:=by unfold met;rw[TB,Sw,RW]
   have hlm:∀k,k<=(lx (aQ ds)).length->(met (aQ ds) k).length<=1000000000:=λk hk=>by
    grind [wg,aQ]
   refine bc (lx (aQ ds)).length (λk=>[[vI (k:Int)],[jv L],[.sl 0 6 []],[ir ((met (aQ ds) k).map Ex.id)],[dI ((met (aQ ds) k).map Ex.id)]]) (λ_=>True) trivial (by grind) λk next hk _ hn=>?_
   simp only[ai];have hml:=hlm k hk;refine⟨λh=>?_,λh=>?_⟩
   .rw[Sa]at h;have hk2:k<(lx (aQ ds)).length:=by
     grind [Xc,lx,aQ,JL]
    have hkm:=EW H.nodup hk2;have hke:((met (aQ ds) k).map Ex.id)[k]'(by grind)=((lx (aQ ds))[k]).id:=by rw[S0,met_at hk2 hkm]
    have hn3:=hn hk2 trivial;have hfr:=λj (hj:j<((lx (aQ ds))[k]).kids.length)=>Mq H.nodup hk2 hj;have hin:(lx (aQ ds))[k]∈aT (aQ ds):=(pf _).mem_iff.1 (RQ hk2)
    have hkid:∀x∈((lx (aQ ds))[k]).kids,x∈aT (aQ ds):=λx hx=>(pf _).mem_iff.1 (by
     rw[Io]
     exact List.mem_append_right _ (TO.2 ⟨_,RQ hk2,hx⟩))
    have hml2:=hlm (k+1) hk2;rw[EV _ hk2]at hn3 hml2;rw[fl _ (by grind),hke];generalize(lx (aQ ds))[k]=e at hn3 hfr hin hkid hml2 ⊢;obtain⟨hf,h8⟩:=H.sm e hin;have q1:cell e.id.enc 0=vI e.id.aH/\cell e.id.enc 1=vI e.id.seq/\cell e.id.enc 2=vI e.id.index:=⟨rfl,rfl,rfl⟩;simp only[ai,q1,tD,hf,UT,UJ];have q2:sub (jF e).enc 26 12=(iP e).enc:=by unfold ao.enc sub av.enc;simp[Ty.aD,jF,Su (XI (iP e).aP)]
    have q3:cell (iP e).enc 10=dI (e.kids.map Ex.id):=by unfold eU.enc cell av.enc;rw[Ty.aD];rfl
    simp only[q2,q3];refine⟨by grind,?_⟩;refine bB [[vI (k:Int)],e.id.enc,(iP e).enc,[jv L],[.sl 0 6 []],[ir ((met (aQ ds) k).map Ex.id)],[dI ((met (aQ ds) k).map Ex.id)]] ?_ ?_
    .simp only[ai];rw[Sa];exact⟨λh=>by omega,λ_=>trivial⟩
    .simp only[ai,q3];refine bc e.kids.length (λj=>[[vI (k:Int)],[dI (e.kids.map Ex.id)],[vI (e.kids.length:Int)],[vI (j:Int)],e.id.enc,[jv L],[.sl 0 6 []],[ir ((met (aQ ds) k++e.kids.take j).map Ex.id)],[dI ((met (aQ ds) k++e.kids.take j).map Ex.id)]]) (λ_=>True) trivial (by grind) λj lO hj _ hn2=>?_;simp only[ai];refine⟨λh5=>?_,λh5=>?_⟩
     .have hj2:j<e.kids.length:=Q0;have hn4:=hn2 hj2 trivial;have hjk:=hfr j hj2;have hje:(e.kids.map Ex.id)[j]'(by grind)=(e.kids[j]).id:=by grind
      rw[RJ hj2,<-R9,Si,Sb,Tr]at hn4;rw[fl _ (by grind),hje];refine⟨by grind,ab (pQ L (e.kids[j]).id 4) ?_⟩;rw[H.node (hkid _ (RQ hj2))];simp only[ai];refine ab (Eo (e.kids[j]).id L _ _ hjk (by grind [Sa,RS,Sn]) _ _) ?_;simp only[ai];exact⟨Q4,hn4⟩
     .obtain rfl:j=e.kids.length:=Q0;rw[Sl];exact⟨Q4,hn3⟩
   .rw[Sa]at h;have hk2:k=(lx (aQ ds)).length:=by
     rcases Xc k (lx (aQ ds)).length with h5|h5
     .have:=EW H.nodup h5;omega
     .omega
    rw[hk2,JL]
theorem Ex.Am:∀l m:List Ex,Ex.ba (l++m)=Ex.ba l+Ex.ba m
 |[],m=>by simp[Ex.ba]
 |e::l,m=>by rw[SA,Ex.ba,Ex.ba,Ex.Am l m];omega
theorem Ex.ni{l:List Ex}{k:Nat}(h:k<l.length):Ex.ba (l.take (k+1))=Ex.ba (l.take k)+l[k].size:=by rw[RJ h,Ex.Am];simp[Ex.ba]
theorem Ex.FR:∀l m:List Ex,Ex.iX (l++m)=max (Ex.iX l) (Ex.iX m)
 |[],m=>by simp[Ex.iX]
 |e::l,m=>by rw[SA,Ex.iX,Ex.iX,Ex.FR l m];omega
theorem Ex.M9{l:List Ex}{k:Nat}(h:k<l.length):Ex.iX (l.take (k+1))=max (Ex.iX (l.take k)) l[k].wH:=by rw[RJ h,Ex.FR];simp[Ex.iX]
mutual
theorem Ex.I5:∀e:Ex,e.size<=e.wt
 |.mk i k n r t l s=>by rw[Ex.size,Ex.wt];have:=Ex.tH l;omega
theorem Ex.tH:∀l:List Ex,Ex.ba l<=Ex.fi l
 |[]=>by rw[Ex.ba];omega
 |e::l=>by rw[Ex.ba,Ex.fi];have:=Ex.I5 e;have:=Ex.tH l;omega
end
mutual
theorem Ex.QK:∀e:Ex,e.wH<=e.wt
 |.mk i k n r t l s=>by rw[Ex.wH,Ex.wt];have:=Ex.FQ l;omega
theorem Ex.FQ:∀l:List Ex,Ex.iX l<=Ex.fi l
 |[]=>by rw[Ex.iX];omega
 |e::l=>by rw[Ex.iX,Ex.fi];have:=Ex.QK e;have:=Ex.FQ l;omega
end
abbrev exF(e:Ex):List D:=e.id.enc++exCn e
abbrev exK(e:Ex):D:=.sl e.kids.length 15 (e.kids.flatMap Ex.enc)
theorem Be(C:gL)(L:List ao):∀(n:Nat) (e:Ex),e.wt<=n->e.wt<=1000000000->(∀x∈bV e,L.find? (λy=>decide (x.id=y.id))=some (jF x))->∀(n3 n5 n7:Nat) (c4 c6 c8:List D),
  IS Ly [e.id.enc,[jv L],[.sl n3 6 c4],[.sl n5 4 c6],[.sl n7 3 c8]] [exF e,[vI (e.size:Int)],[vI (e.wH:Int)],[Dq e.ty],[exK e],[kg e.aJ],[jv L],[.sl n5 4 c6],[.sl n3 6 c4],[.sl n7 3 c8]]
 |0,e,h,_,_=>by have:=Ex.cS e;omega
 |n+1,e,h,hb,hf=>λn3 n5 n7 c4 c6 c8=>by
  have h1:=Ex.cS e;have h2:=Ex.mV e.kids;have hfe:=hf e (cQ e);have hfit:(iP e).Fit:=⟨by show e.ty.size<=_;omega,by show(e.kids.map Ex.id).length<=_;rw[Sa];omega,by show e.aJ.length<=_;omega⟩;refine w103.is ?_;unfold g103;have q2:sub (jF e).enc 26 12=(iP e).enc:=by unfold ao.enc sub av.enc;simp[Ty.aD,jF,Su (XI (iP e).aP)]
  simp only[ai,aF,tD,hfe,UT,UJ,q2];refine ab (Nh C _ hfit) ?_;simp only[ai];refine bB [[vI ((1+Ex.ba e.kids:Nat):Int)],[vI (Ex.iX e.kids:Int)],[vI 0,vI 0,vI 0,vI 0,vI 0,vI 0,vI 0,vI 0,vI 0,vI 0,vI 0,vI 0,.sl 0 5 [],.sl 0 15 [],.sl 0 1 []],exF e,[jv L],[.sl n3 6 c4],[.sl n5 4 c6],[.sl n7 3 c8],[Dq e.ty],[exK e],[kg e.aJ]] ?_ ?_
  .refine bc e.kids.length (λk=>[[vI ((1+Ex.ba (e.kids.take k):Nat):Int)],[vI (Ex.iX (e.kids.take k):Int)],[vI ((e.kids.map Ex.id).length:Int)],[vI (k:Int)],[vI 0,vI 0,vI 0,vI 0,vI 0,vI 0,vI 0,vI 0,vI 0,vI 0,vI 0,vI 0,.sl 0 5 [],.sl 0 15 [],.sl 0 1 []],exF e,[dI (e.kids.map Ex.id)],[jv L],[.sl n3 6 c4],[.sl n5 4 c6],[.sl n7 3 c8],[Dq e.ty],[.sl (e.kids.take k).length 15 ((e.kids.take k).flatMap Ex.enc)],[kg e.aJ]]) (λ_=>True) trivial (by
    rw[TB,show Ex.ba []=0 by rw[Ex.ba],show Ex.iX []=0 by rw[Ex.iX]]
    rfl) λk next hi _ hn=>?_
   have hlk:(e.kids.take k).length=k:=by grind
   simp only[ai];refine⟨λh3=>?_,λh3=>?_⟩
   .rw[Sa]at h3;have hk:k<e.kids.length:=Q0;have hm:=RQ hk;have hke:(e.kids.map Ex.id)[k]'(by grind)=(e.kids[k]).id:=by grind
    have hwt:=Ex.wU hm;have hn3:=hn hk trivial;have hst:=Ex.I5 e.kids[k];have hss:=Ex.tH (e.kids.take k);have hst2:=Ex.wQ e.kids (k+1);rw[Ex.wR hk]at hst2;rw[Ex.ni hk,Ex.M9 hk,RJ hk,Sd,RT,Sw,RW,RS]at hn3;rw[fl _ (by grind),hke];refine⟨by grind,ab (Be C L n e.kids[k] Q0 Q0 (λx hx=>hf x (by grind [jw,List.mem_append_left,iS])) _ _ _ _ _ _) ?_⟩;generalize e.kids[k]=x at hn3 hst hst2 ⊢;simp only[ai];refine⟨Qa,Q4,Q4,?_⟩;have e1:((1+(Ex.ba (e.kids.take k)+x.size):Nat):Int)=((1+Ex.ba (e.kids.take k):Nat):Int)+(x.size:Int):=Q0;have e2:((max (Ex.iX (e.kids.take k)) x.wH:Nat):Int)=max (Ex.iX (e.kids.take k):Int) (x.wH:Int):=Q0;rw[e1,e2,Ex.aD x]at hn3;exact hn3
   .rw[Sa]at h3;obtain rfl:k=e.kids.length:=Q0;rw[Sl];rfl
  .simp only[ai];have:=Ex.QK e;have h5:=Ex.dep_eq e;refine⟨Q4,?_⟩;have h6:=Ex.cf e;rw[h5,h6];rfl
structure Dn(l:List ao)(q:au):Prop where
 nodup:(l.map ao.id).Nodup
 aw:∀Q:List ao,Q.Perm (l.filter λx=>decide (x.kind=0))->IS BZ [[dP Q]] [[dP (q.aw.map fe)]]
 aa:∀Q:List ao,Q.Perm (l.filter λx=>decide (x.kind=2))->IS BZ [[dP Q]] [[dP (q.aa.map cM)]]
 ah:∀d∈q.aa,∀Q:List ao,Q.Perm (l.filter λx=>decide (x.kind=3) && decide (x.uw=d.id))->IS kR [[dP Q]] [[dP (cH d)]]
 yl:∀m∈q.aw,∃R:List ao,R.map ao.id=m.aa/\∀Q:List ao,Q.Perm (l.filter λx=>decide (x.kind=2) && decide (x.uw=m.id))->IS kR [[dP Q]] [[dP R]]
 inm:∀d∈q.aa,kf l d.mod 0=true
 cZ:∀m∈q.aw,iY m.cZ/\∀u∈m.cZ,kf l u 0=true
 sm:∀e∈aT (aQ q.aa),l.find? (λx=>decide (e.id=x.id))=some (jF e)
 apart:((aT (aQ q.aa)).map Ex.id).Nodup
 body:∀d∈q.aa,¬dR d.kind=true->d.body=o7
structure LimP(q:au):Prop where
 aw:q.aw.length<=16
 aa:q.aa.length<=32
 ah:∀d∈q.aa,d.ah.length<=6
 yl:∀m∈q.aw,m.aa.length<=1000/\m.cZ.length<=1000
 sm:∀e∈aT (aQ q.aa),e.kids.length<=8
 size:∀d∈q.aa,d.body.size<=128
 wH:∀d∈q.aa,d.body.wH<=24
 wt:∀d∈q.aa,d.body.wt<=1000000000/\d.aq.size<=1000000000/\d.bF.length<=1000000000/\∀s∈d.ah,s.ty.size<=1000000000
 all:(aT (aQ q.aa)).length<=1000000000
theorem DK:∀{l:List av},iY l->j1 l=l:=fun{l} h=>by unfold j1;refine List.mergeSort_of_pairwise ?_;refine We (fun{a b} hab=>?_) h;rw[oR hab];rfl
theorem FM:∀{l:List av},iY l->gU l=l
 |[],_=>rfl
 |[x],_=>rfl
 |x::y::l,h=>by have h2:=List.pairwise_cons.1 h;rw[wF,J1 (uq (h2.1 y (RG ..))),FM h2.2]
abbrev dC(d:an)(b:List D):List D:=d.id.enc++(aj d.kind::(d.mod.enc++(bM d.name::(tyC d.aq++(b++[aj d.bm])))))
theorem JO(C:gL)(hS:∀l:List av,l.length<=1000000000000->IS D7 [[dI l]] [[dI (j1 l)]])(l:List ao)(q:au)(hl:l.length<=300000000000)(H:Dn l q)(hL:LimP q) :
  IS s26 [[dP l]] [[.sl q.aw.length 6 (q.aw.flatMap aO.enc)],[.sl q.aa.length 31 (q.aa.flatMap an.enc)],[.sl 0 6 []]]:=by
 have hck:wO l q.aa:=⟨H.inm,λd hd=>⟨cH d,by unfold cH;rw[Sa];exact hL.ah d hd,H.ah d hd⟩,λe he=>⟨H.sm e he,hL.sm e he⟩,H.apart,hl⟩;refine w26.is ?_;unfold g26;simp only[ai];refine ab (KX l Q0 H.nodup) ?_;simp only[ai];refine ab (list_is 0 l _ hl H.aw) ?_;simp only[ai];refine ab (PT 2 l _ hl H.aa) ?_;simp only[ai];refine ab (QP _ l q.aa (by rw[Sa];exact hL.aw) hL.aa hck hL.all) ?_;simp only[ai];generalize(lx (aQ q.aa)).map Ex.id=S;refine⟨λh=>J3 h Q1,λ_=>?_⟩;refine bB [[dP (q.aw.map fe)],[.sl 0 6 [],.sl 0 31 []],[jv l],[.sl 0 6 []],[ir S],[dI S],[.sl 0 6 []],[.sl q.aa.length 31 (q.aa.flatMap an.enc)]] ?_ ?_
 .refine bc q.aa.length (λk=>[[dP (q.aw.map fe)],[dP (q.aa.map cM)],[vI ((q.aa.map cM).length:Int)],[vI (k:Int)],[.sl 0 6 [],.sl 0 31 []],[jv l],[.sl 0 6 []],[ir S],[dI S],[.sl 0 6 []],[.sl (q.aa.take k).length 31 ((q.aa.take k).flatMap an.enc)]]) (λ_=>True) trivial Q3 λk next hi _ hn=>?_
  have hlk:(q.aa.take k).length=k:=by grind
  have hld:=hL.aa;simp only[ai];refine⟨λh=>?_,λh=>?_⟩
  .rw[Sa]at h;have hk:k<q.aa.length:=Q0;have hdm:=RQ hk;have h3:=hn hk trivial;have hke:(q.aa.map cM)[k]'(by grind)=cM q.aa[k]:=by grind
   rw[iq _ (by grind),hke];have hsl:=H.ah _ hdm;have hb0:=H.body _ hdm;have hls:=hL.ah _ hdm;have hwt:=hL.wt _ hdm;have hsz:=hL.size _ hdm;have hdp:=hL.wH _ hdm;have hex:dR q.aa[k].kind=true->∀x∈bV q.aa[k].body,l.find? (λy=>decide (x.id=y.id))=some (jF x):=λhB x hx =>
    H.sm x (iS (R3.2 ⟨_,Sp.2 ⟨hdm,hB⟩,rfl⟩) hx)
   rw[RJ hk,Sd,RT,Sw,RW,RS]at h3;generalize q.aa[k]=d at h3 hsl hb0 hls hwt hsz hdp hex ⊢;have p0:sub (cM d).enc 11 5=d.aq.enc:=by unfold ao.enc sub av.enc;simp[Ty.aD,cM]
   have p1:cell (cM d).enc 19=kg d.bF:=by unfold ao.enc cell av.enc;simp[Ty.aD,cM]
   have p2:sub (cM d).enc 0 3=d.id.enc/\sub (cM d).enc 7 3=d.mod.enc/\cell (cM d).enc 6=aj d.kind/\cell (cM d).enc 4=bM d.name/\cell (cM d).enc 10=aj d.bm:=⟨rfl,rfl,rfl,rfl,rfl⟩;have p3:sub (cM d).enc 16 3=(if dR d.kind then d.body.id else qg).enc:=by unfold ao.enc sub av.enc;simp[Ty.aD,cM]
   simp only[p0,p1,p2];refine⟨by grind,ab (jk C _ _ (Sc _) Q0) ?_⟩;simp only[ai,aF];refine ab (C.txt _ Q0) ?_;simp only[ai];refine bB [[dP (q.aw.map fe)],[dP (q.aa.map cM)],[vI ((q.aa.map cM).length:Int)],[vI (k:Int)],[.sl 0 6 [],.sl 0 31 []],(cM d).enc,dC d [vI 0,vI 0,vI 0,vI 0,vI 0,vI 0,vI 0,vI 0,vI 0,vI 0,vI 0,vI 0,.sl 0 5 [],.sl 0 15 [],.sl 0 1 []],[jv l],[.sl 0 6 []],[ir S],[dI S],[.sl 0 6 []],[.sl (q.aa.take k).length 31 ((q.aa.take k).flatMap an.enc)],[.sl d.ah.length 11 (d.ah.flatMap aC.enc)],[Dq d.aq],[kg d.bF]] ?_ ?_
   .refine ab (xi d.id l _ hl hsl _ _ _ _ _ _) ?_;simp only[ai];refine bc d.ah.length (λj=>[[dP (q.aw.map fe)],[dP (q.aa.map cM)],[vI ((q.aa.map cM).length:Int)],[vI (k:Int)],[vI ((cH d).length:Int)],[vI (j:Int)],[.sl 0 6 [],.sl 0 31 []],(cM d).enc,dC d [vI 0,vI 0,vI 0,vI 0,vI 0,vI 0,vI 0,vI 0,vI 0,vI 0,vI 0,vI 0,.sl 0 5 [],.sl 0 15 [],.sl 0 1 []],[dP (cH d)],[jv l],[.sl 0 6 []],[ir S],[dI S],[.sl 0 6 []],[.sl (q.aa.take k).length 31 ((q.aa.take k).flatMap an.enc)],[.sl (d.ah.take j).length 11 ((d.ah.take j).flatMap aC.enc)],[Dq d.aq],[kg d.bF]]) (λ_=>True) trivial Q3 λj lO hj _ hn2=>?_;have hlj:(d.ah.take j).length=j:=by grind
    have hsp:(cH d).length=d.ah.length:=by unfold cH;rw[Sa]
    simp only[ai];refine⟨λh5=>?_,λh5=>?_⟩
    .have hj2:j<d.ah.length:=Q0;have hw2:=hwt.2.2.2 _ (RQ hj2);have hn3:=hn2 hj2 trivial;have hje:(cH d)[j]'Q0=mv d.id d.ah[j]:=by unfold cH;rw[S0]
     rw[RJ hj2,Sd,RT,Sw,RW,RS]at hn3;rw[iq _ Q0,hje];generalize d.ah[j]=s at hn3 hw2 ⊢;have s0:sub (mv d.id s).enc 20 5=s.ty.enc:=by unfold ao.enc sub av.enc;simp[Ty.aD,mv]
     have s1:cell (mv d.id s).enc 25=aj s.CC:=by unfold ao.enc cell av.enc;simp[Ty.aD,mv]
     have s2:sub (mv d.id s).enc 0 3=s.id.enc/\cell (mv d.id s).enc 4=bM s.name/\cell (mv d.id s).enc 10=aj s.bm:=⟨rfl,rfl,rfl⟩;simp only[s0,s1,s2];refine⟨Q0,ab (jk C _ _ (Sc _) Q0) ?_⟩;simp only[ai,aF];refine⟨Qa,Q4,?_⟩;have e:s.enc=[aj s.id.aH,aj s.id.seq,aj s.id.index,bM s.name,aj s.ty.kind,aj s.ty.df.aH,aj s.ty.df.seq,aj s.ty.df.index,Dq s.ty,aj s.CC,aj s.bm]:=rfl;rw[e]at hn3;exact hn3
    .obtain rfl:j=d.ah.length:=Q0;rw[Sl];rfl
   .simp only[ai,p2,p3];refine bB [[dP (q.aw.map fe)],[dP (q.aa.map cM)],[vI ((q.aa.map cM).length:Int)],[vI (k:Int)],[.sl 0 6 [],.sl 0 31 []],dC d d.body.enc,[jv l],[.sl 0 6 []],[ir S],[dI S],[.sl 0 6 []],[.sl (q.aa.take k).length 31 ((q.aa.take k).flatMap an.enc)],[.sl d.ah.length 11 (d.ah.flatMap aC.enc)],[Dq d.aq],[kg d.bF]] ?_ ?_
    .refine ab (Da _) ?_;cases hB:dR d.kind with
     |false =>
      simp only[ai];have hbe:d.body=o7:=hb0 (by grind);have e:d.body.enc=[vI 0,vI 0,vI 0,vI 0,vI 0,vI 0,vI 0,vI 0,vI 0,vI 0,vI 0,vI 0,.sl 0 5 [],.sl 0 15 [],.sl 0 1 []]:=by rw[hbe,Ex.aD];rfl
      rw[e];rfl
     |true=>simp only[ai,if_true];refine ab (Be C l _ d.body (Sc _) Q0 (hex hB) _ _ _ _ _ _) ?_;simp only[ai];refine⟨λh=>by omega,λ_=>⟨λh=>by omega,λ_=>?_⟩⟩;rw[Ex.aD d.body];rfl
    .simp only[ai];refine⟨Qa,Q4,?_⟩;have e:d.enc=d.id.enc++(aj d.kind::(d.mod.enc++(bM d.name::.sl d.ah.length 11 (d.ah.flatMap aC.enc)::(tyC d.aq++(Dq d.aq::(d.body.enc++[aj d.bm,kg d.bF])))))):=by rw[Ex.aD];rfl
     rw[e,Ex.aD d.body]at h3;rw[Ex.aD d.body];exact h3
  .rw[Sa]at h;obtain rfl:k=q.aa.length:=Q0;rw[Sl]
 .simp only[ai];refine⟨λh=>J3 h Q1,λ_=>?_⟩;refine bc q.aw.length (λk=>[[dP (q.aw.map fe)],[vI ((q.aw.map fe).length:Int)],[vI (k:Int)],[.sl 0 6 [],.sl 0 31 []],[jv l],[.sl 0 6 []],[ir S],[dI S],[.sl (q.aw.take k).length 6 ((q.aw.take k).flatMap aO.enc)],[.sl q.aa.length 31 (q.aa.flatMap an.enc)]]) (λ_=>True) trivial Q3 λk next hi _ hn=>?_
  have hlk:(q.aw.take k).length=k:=by grind
  have hlm:=hL.aw;simp only[ai];refine⟨λh=>?_,λh=>?_⟩
  .rw[Sa]at h;have hk:k<q.aw.length:=Q0;have hmm:=RQ hk;have h3:=hn hk trivial;have hke:(q.aw.map fe)[k]'(by grind)=fe q.aw[k]:=by grind
   rw[iq _ (by grind),hke];obtain⟨R,hRi,hR⟩:=H.yl _ hmm;obtain⟨hui,huk⟩:=H.cZ _ hmm;have hlms:=hL.yl _ hmm;rw[RJ hk,Sd,RT,Sw,RW,RS]at h3;generalize q.aw[k]=m at h3 hRi hR hui huk hlms ⊢;have p1:cell (fe m).enc 5=dI m.cZ:=rfl;have p2:sub (fe m).enc 0 3=m.id.enc/\cell (fe m).enc 4=bM m.name:=⟨rfl,rfl⟩;simp only[p1,p2];refine⟨by grind,?_⟩;refine bB [[dP (q.aw.map fe)],[vI ((q.aw.map fe).length:Int)],[vI (k:Int)],[.sl 0 6 [],.sl 0 31 []],(fe m).enc,m.id.enc++[bM m.name],[jv l],[.sl 0 6 []],[ir S],[dI S],[.sl (q.aw.take k).length 6 ((q.aw.take k).flatMap aO.enc)],[.sl q.aa.length 31 (q.aa.flatMap an.enc)],[dI m.cZ],[.sl 0 3 []]] ?_ ?_
   .simp only[ai,aF];refine bc m.cZ.length (λj=>[[dP (q.aw.map fe)],[vI ((q.aw.map fe).length:Int)],[vI (k:Int)],[dI m.cZ],[vI (m.cZ.length:Int)],[vI (j:Int)],[.sl 0 6 [],.sl 0 31 []],(fe m).enc,m.id.enc++[bM m.name],[jv l],[.sl 0 6 []],[ir S],[dI S],[.sl (q.aw.take k).length 6 ((q.aw.take k).flatMap aO.enc)],[.sl q.aa.length 31 (q.aa.flatMap an.enc)],[dI (m.cZ.take j)],[.sl 0 3 []]]) (λ_=>True) trivial Q3 λj lO hj _ hn2=>?_;have hlj:(m.cZ.take j).length=j:=by grind
    simp only[ai];refine⟨λh5=>?_,λh5=>?_⟩
    .have hj2:j<m.cZ.length:=Q0;have hn3:=hn2 hj2 trivial;rw[RJ hj2,<-kh]at hn3;rw[fl _ hj2];refine⟨Q0,ab (pQ l _ 0) ?_⟩;rw[huk _ (RQ hj2)];simp only[ai];refine⟨Qa,Q4,?_⟩;exact hn3
    .obtain rfl:j=m.cZ.length:=Q0;rw[Sl];rfl
   .simp only[ai];refine ab (hS _ Q0) ?_;rw[DK hui];simp only[ai];refine ab (ru _ Q0) ?_;rw[FM hui];simp only[ai];refine ab (PR (fe m) 2 l R hl hR) ?_;simp only[ai];have hRl:R.length=m.aa.length:=by grind
    refine bc R.length (λj=>[[dP (q.aw.map fe)],[vI ((q.aw.map fe).length:Int)],[vI (k:Int)],[vI (R.length:Int)],[vI (j:Int)],[.sl 0 6 [],.sl 0 31 []],m.id.enc++[bM m.name],[dP R],[jv l],[.sl 0 6 []],[ir S],[dI S],[.sl (q.aw.take k).length 6 ((q.aw.take k).flatMap aO.enc)],[.sl q.aa.length 31 (q.aa.flatMap an.enc)],[dI m.cZ],[dI ((R.take j).map ao.id)]]) (λ_=>True) trivial Q3 λj lO hj _ hn2=>?_;have hlj:((R.take j).map ao.id).length=j:=by grind
    simp only[ai];refine⟨λh5=>?_,λh5=>?_⟩
    .have hj2:j<R.length:=Q0;have hn3:=hn2 hj2 trivial;rw[RJ hj2,Si,Sb,Tr,<-kh]at hn3;rw[iq _ hj2];have e0:sub (R[j]).enc 0 3=(R[j]).id.enc:=rfl;rw[e0];refine⟨Q0,Qa,Q4,?_⟩;exact hn3
    .obtain rfl:j=R.length:=Q0;rw[Sl]at hlj ⊢;refine⟨Qa,Q4,?_⟩;have e:m.enc=m.id.enc++[bM m.name,dI m.cZ,dI m.aa]:=rfl;rw[e,<-hRi]at h3;exact h3
  .rw[Sa]at h;obtain rfl:k=q.aw.length:=Q0;rw[Sl]
structure LibOk where
 C:gL
 S:Dm
 ids:∀l:List av,l.length<=1000000000000->IS D7 [[dI l]] [[dI (j1 l)]]
theorem MS(B:LibOk)(p:au)(hb:RA p)(H:Dn (B.S.NV (bb p)) p)(hL:LimP p)(hf:∀x∈bb p,x.Fit)(hlen:(bb p).length<=300000000000):IS s44 [p.enc] [[.sl 0 6 []]]:=by have hpl:=(B.S.fD (bb p)).length_eq;refine w44.is ?_;unfold g44;refine ab (xQ B.C B.S p hb) ?_;simp only[ai];refine ab (JO B.C B.ids _ p Q0 H hL) ?_;simp only[ai];refine⟨λh=>J3 h Q1,λ_=>?_⟩;refine ab (xQ B.C B.S p hb) ?_;simp only[ai];refine ab (G8 _ Q0 λx hx=>LR (hf x ((B.S.fD _).mem_iff.1 hx))) ?_;simp only[ai,SJ];have hm:=hL.aw;have hd:=hL.aa;refine ab (Mn p.aw Q0 λx hx=>mod_self (by have:=(hL.yl x hx).1;omega)) ?_;simp only[ai,SJ];refine ab (Nb p.aa Q0 λx hx=>QM (by have:=hL.ah x hx;omega)) ?_;simp only[ai,SJ]
structure dJ where
 code:Int
 on:av
 kind:Int
def dJ.enc(c:dJ):List D:=vI c.code::(c.on.enc++[vI c.kind,.sl 0 3 []])
theorem dJ.aP(c:dJ):c.enc.length=6:=rfl
abbrev gu(l:List dJ):D:=.sl l.length 6 (l.flatMap dJ.enc)
theorem QN(l:List dJ)(c:dJ):D.sl (l.length+1) 6 (l.flatMap dJ.enc++c.enc)=gu (l++[c]):=by grind
theorem pj(code kind:Int)(on:av)(x y:D)(l:List dJ)(hl:l.length<=100000000000):IS zH [[vI code],on.enc,[vI kind],[x,y],[gu l]] [[x,y],[gu (l++[⟨code,on,kind⟩])]]:=by refine w48.is ?_;unfold g48;simp only[ai,aF];refine⟨Qa,?_⟩;rw[<-QN];rfl
theorem df0{i:av}:(i.aH=0/\i.seq=0/\i.index=0)↔i=kx:=by
 constructor
 .intro h;cases i;simp only at h;obtain⟨rfl,rfl,rfl⟩:=h;rfl
 .rintro rfl;exact⟨rfl,rfl,rfl⟩
theorem tq{a b:Bool}(h:a=true↔b=true):a=b:=by grind
section
variable {p:au} {n:Nat} {u:Ty}
theorem vf_one(hk:u.kind=0\/u.kind=1):bW p (n+1) u=(decide ((u.kids.length:Int)=0) && decide (u.df=kx)):=by
 refine tq ?_;rw[jz Q0 Q0,RP,decide_eq_true_eq,decide_eq_true_eq]
 grind
theorem vf_def(hk:u.kind=3):bW p (n+1) u=(decide ((u.kids.length:Int)=0) && decide (iH p u.df)):=by
 refine tq ?_;rw[uS hk,RP,decide_eq_true_eq,decide_eq_true_eq]
 grind
theorem NA(hk:u.kind=2)(h:¬(u.df=kx/\(u.kids.length:Int)=1)):bW p (n+1) u=false:=by
 rw[Y3]
 grind [j5]
theorem vf_no(h0:¬u.kind=0)(h1:¬u.kind=1)(h2:¬u.kind=2)(h3:¬u.kind=3):bW p (n+1) u=false:=by
 rw[Y3]
 grind [jz]
end
theorem tw{p:au}(hp:p.aa.length<=1000000000000)(t:Ty):IS s47 [p.enc,t.enc] [[vB (decide (cd p t))]]:=by
 refine w47.is ?_;unfold g47;simp only[ai];refine cY (σ:=Nat×Ty) (λx=>[[vI (x.1+1:Int)],p.enc,x.2.enc]) (λx=>24-x.1) (λx=>x.1<=24/\decide (cd p t)=bW p (24-x.1) x.2) (0,t) ⟨Sy _,tq (by rw[decide_eq_true_eq];exact Iff.rfl)⟩ rfl ?_;rintro⟨k,u⟩ next ⟨hk,hI⟩ hn
 have hk:k<=24:=hk;simp only at hI;rw[hI,Ty.aD];simp only[ai,aF];refine⟨λh=>?_,λh=>?_⟩
 .have hk2:k<24:=Q0;have e24:24-k=(24-(k+1))+1:=Q0;rw[e24]at hI ⊢;refine ij ?_;simp only[df0];have tdef:u.kind=3->aA (j3 RH) Gt [p.enc,[aj u.df.aH,aj u.df.seq,aj u.df.index]] λr13 =>
        pc (cell (ae r13 1) 0) λb14 =>
         ax b14
          (ar (cell (ae r13 0) 3) λz15 =>
           (z15=0->[[Pm.vB (decide ((u.kids.length:Int)=0))]]=[[Pm.vB (bW p (24-(k+1)+1) u)]]) /\
            (¬z15=0 ->
             ar (cell (ae r13 0) 3) λz18 =>
              (z18=1->[[Pm.vB (decide ((u.kids.length:Int)=0))]]=[[Pm.vB (bW p (24-(k+1)+1) u)]]) /\
               (¬z18=1->[[Pm.vB false]]=[[Pm.vB (bW p (24-(k+1)+1) u)]])))
          ([[Pm.vB false]]=[[Pm.vB (bW p (24-(k+1)+1) u)]]):=λh3=>by
   refine ab (pZ p u.df hp) ?_;have ek:cell (al p u.df).enc 3=aj (al p u.df).kind:=rfl;rw[vf_def h3];by_cases hd:cK p u.df
   .rw[J5 hd];simp only[ai,ek];unfold iH;refine⟨λh=>by simp[h,hd],λh=>⟨λh2=>by grind,λh2=>by simp[h,h2]⟩⟩
   .rw[J6 hd];simp only[ai];unfold iH;simp[hd]
  have tlist:u.kind=2->(u.df=kx->((u.kids.length:Int)=1->(0<=(0:Int)/\0<(u.kids.length:Int))/\(λst5=>ar (cell (ae st5 0) 0) λz52=>aZ (z52+1)/\next [[vI (z52+1)],ae st5 1,ae st5 2]) [[vI (↑k+1)],p.enc,el (List.flatMap Ty.enc u.kids) 5 0]) /\
    (¬(u.kids.length:Int)=1->[[Pm.vB false]]=[[Pm.vB (bW p (24-(k+1)+1) u)]]))/\(¬u.df=kx->[[Pm.vB false]]=[[Pm.vB (bW p (24-(k+1)+1) u)]]):=λh2=>by
   refine⟨λhd=>⟨λhl=>⟨Q0,?_⟩,λhl=>by grind [NA]⟩,λhd=>by grind [NA]⟩;have h0:0<u.kids.length:=Q0;have e5:el (u.kids.flatMap Ty.enc) 5 0=u.kids[0].enc:=dq Ty.aP _ h0;simp only[ai,e5];refine⟨Q4,?_⟩;have h7:=hn (k+1,u.kids[0]) Q0 ⟨Q0,by rw[hI];exact tq (Dx h2 hd Q0)⟩;exact h7
  grind [vf_one,vf_no]
 .obtain rfl:k=24:=Q0;rfl
theorem rf{α:Type}{l:List α}{k:Nat}(hk:k<l.length){x:α}(h1:x ∉ l.take k)(h2:x≠l[k]):x ∉ l.take (k+1):=by
 rw[RJ hk,RY,RZ]
 grind
def Nx(b:ByteArray)(l:List ByteArray):Bool:=l.any λx=>decide (x=b)
theorem inS_iff{b:ByteArray}{l:List ByteArray}:Nx b l=true↔b∈l:=by
 unfold Nx
 grind
theorem MI(l:List ByteArray)(b:ByteArray)(hl:l.length<=1000000000000):∃z:Int,(0<=z↔b∈l)/\IS s197 [[kg l],[bM b]] [[vI z]]:=by
 have key:g197 (j3 RH) [[kg l],[bM b]] (λr=>∃z:Int,(0<=z↔b∈l)/\r=[[vI z]]):=by
  unfold g197;simp only[ai];refine bc l.length (λk=>[[kg l],[bM b],[vI (l.length:Int)],[vI (k:Int)]]) (λk=>b ∉ l.take k) Q2 rfl λk next hi hI hn=>?_
  simp only[ai];refine⟨λh=>?_,λh=>?_⟩
  .have hk:k<l.length:=Q0;have hc:=tk bM l hk;rw[hc];unfold bM;simp only[ai];refine⟨Q0,λe=>⟨_,?_,rfl⟩,λe=>⟨Q4,hn hk (rf hk hI λe2=>e (by rw[e2]))⟩⟩
   grind
  all_goals grind
 obtain⟨r,⟨z,hz,rfl⟩,h⟩:=w197.some key (by rintro r ⟨z,_,rfl⟩;exact trivial);exact⟨z,hz,h⟩
theorem te(l:List ByteArray)(b:ByteArray)(hl:l.length<=1000000000000):IS N8 [[kg l],[bM b]] [[Pm.vB (Nx b l)]]:=by refine w145.is ?_;unfold g145;simp only[ai];obtain⟨z,hz,h⟩:=MI l b hl;refine ab h ?_;simp only[ai];have e:decide (0<=z)=Nx b l:=tq (by rw[decide_eq_true_eq,inS_iff];exact hz);rw[e]
theorem HJ(l:List av)(x:av)(hl:l.length<=1000000000000):∃z:Int,(0<=z↔x∈l)/\IS B0 [[dI l],x.enc] [[vI z]]:=by
 have key:HS (j3 RH) [[dI l],x.enc] (λr=>∃z:Int,(0<=z↔x∈l)/\r=[[vI z]]):=by
  unfold HS;simp only[ai];refine bc l.length (λk=>[[dI l],[vI (l.length:Int)],[vI (k:Int)],x.enc]) (λk=>x ∉ l.take k) Q2 rfl λk next hi hI hn=>?_
  simp only[ai,aF];refine⟨λh=>?_,λh=>?_⟩
  .have hk:k<l.length:=Q0;rw[fl _ hk];simp only[ai,aF]
   grind [aZ,rf]
  all_goals grind
 obtain⟨r,⟨z,hz,rfl⟩,h⟩:=w160_1.some key (by rintro r ⟨z,_,rfl⟩;exact trivial);exact⟨z,hz,h⟩
theorem C3(l:List av)(x:av)(hl:l.length<=1000000000000):IS Je [[dI l],x.enc] [[vB (decide (x∈l))]]:=by
 refine w68_1.is ?_;unfold g68_1;simp only[ai];obtain⟨z,hz,h⟩:=HJ l x hl;refine ab h ?_;simp only[ai]
 grind
abbrev eP:=av×Int
def vG(v:eP):List D:=v.1.enc++[vI v.2]
theorem Dw(v:eP):(vG v).length=4:=rfl
abbrev dV(l:List eP):D:=.sl l.length 4 (l.flatMap vG)
theorem byV(v:eP)(K:List Int->Prop):QY .i64 (vG v) K=K [v.1.aH,v.1.seq,v.1.index,v.2]:=by unfold QY;rfl
theorem MH(l:List eP)(x:eP)(hl:l.length<=1000000000000):∃z:Int,(0<=z↔x∈l)/\IS s198 [[dV l],vG x] [[vI z]]:=by
 have key:g198 (j3 RH) [[dV l],vG x] (λr=>∃z:Int,(0<=z↔x∈l)/\r=[[vI z]]):=by
  unfold g198;simp only[ai];refine bc l.length (λk=>[[dV l],[vI (l.length:Int)],[vI (k:Int)],vG x]) (λk=>x ∉ l.take k) Q2 rfl λk next hi hI hn=>?_
  simp only[ai];refine⟨λh=>?_,λh=>?_⟩
  .have hk:k<l.length:=Q0;rw[dq Dw _ hk];rw[byV,byV];have hv:∀u v:eP,([u.1.aH,u.1.seq,u.1.index,u.2]=[v.1.aH,v.1.seq,v.1.index,v.2])↔u=v:=λu v=>by obtain⟨⟨a,b,c⟩,d⟩:=u;obtain⟨⟨a2,b2,c2⟩,d2⟩:=v;simp[and_assoc]
   grind [aZ,rf]
  all_goals grind
 obtain⟨r,⟨z,hz,rfl⟩,h⟩:=w198.someG key (by rintro r ⟨z,_,rfl⟩;exact trivial);exact⟨z,hz,h⟩
theorem td(l:List eP)(x:eP)(hl:l.length<=1000000000000):IS s150 [[dV l],vG x] [[vB (decide (x∈l))]]:=by
 refine w150.is ?_;unfold g150;simp only[ai];obtain⟨z,hz,h⟩:=MH l x hl;refine ab h ?_;simp only[ai]
 grind
theorem Im(e:Ex)(hk:e.kids.length<=1000000000000):IS s151 [e.enc] [[vI (if e.kind=6 then 1 else if e.kind=12 then 2 else if e.kind=10 then max 0 ((e.kids.length:Int)-1) else 0)]]:=by
 refine w151.is ?_;unfold g151;have e5:cell e.enc 3=aj e.kind:=by rw[Ex.aD];rfl
 have e6:cell e.enc 13=.sl e.kids.length 15 (e.kids.flatMap Ex.enc):=by rw[Ex.aD];rfl
 simp only[ai,e5,e6]
 grind [aZ]
def Ik(e:Ex)(j:Nat):List eP :=
 if e.kind=6/\j=1 then[(e.id,0)] else if e.kind=12/\j=2 then[(e.id,0),(e.id,1)] else if e.kind=10/\0<j then[(e.id,(j:Int)-1)] else[]
theorem Ra(e:Ex)(j:Nat)(hj:j<=1000000000000):IS s155 [e.enc,[vI (j:Int)]] [[dV (Ik e j)]]:=by
 refine w155.is ?_;unfold g155;have e5:cell e.enc 3=aj e.kind:=by rw[Ex.aD];rfl
 have e6:sub e.enc 0 3=e.id.enc:=by rw[Ex.aD];rfl
 simp only[ai,aF,e5,e6];unfold Ik;have c1:((j:Int)=1)↔j=1:=Q0;have c2:((j:Int)=2)↔j=2:=Q0;have c3:((0:Int)<j)↔0<j:=Q0;have hok:aZ ((j:Int)-1):=by unfold aZ;omega
 simp only[c1,c2,c3];by_cases h6:e.kind=6
 .grind [vG,av.enc]
 .by_cases h12:e.kind=12
  .by_cases h1:j=2
   .simp[h12,h1,vG,av.enc]
   .simp[h12,h1]
  all_goals grind [vG,av.enc]
theorem JN{α:Type}(f:α->D)(l:List α)(i n:Nat):sub (l.map f) (i*1) (n*1)=((l.drop i).take n).map f:=by unfold sub;simp_all
def Bz(wd:ByteArray->Bool)(nms:List ByteArray)(i:Nat):Bool:=!wd (nms.getD i tx0) || Nx (nms.getD i tx0) (nms.take i) || Nx (nms.getD i tx0) (nms.drop (i+1))
def eo(wd:ByteArray->Bool)(ids:List av)(nms:List ByteArray)(n:Nat):List dJ:=(W6 n).flatMap λi=>if Bz wd nms i then[⟨16,ids.getD i qg,5⟩] else[]
theorem ve(wd:ByteArray->Bool)(ids:List av)(nms:List ByteArray)(n:Nat):eo wd ids nms (n+1)=eo wd ids nms n++if Bz wd nms n then[⟨16,ids.getD n qg,5⟩] else[]:=by unfold eo;rw[List.range_succ,Sd];simp
theorem ji(wd:ByteArray->Bool)(ids:List av)(nms:List ByteArray):∀n,(eo wd ids nms n).length<=n
 |0=>by simp[eo]
 |n+1=>by
  have:=ji wd ids nms n
  grind [ve,RS]
theorem uh{wd:ByteArray->Bool}{nms:List ByteArray}(W:∀b∈nms,IS qQ [[bM b]] [[vB (wd b)]])(ids:List av)(hi:ids.length=nms.length)(hn:nms.length<=1000000000)(x y:D)(l:List dJ)(hl:l.length<=10000000000) :
  IS s45 [[dI ids],[kg nms],[x,y],[gu l]] [[x,y],[gu (l++eo wd ids nms nms.length)]]:=by
 refine w45.is ?_;unfold g45;simp only[ai];refine bc nms.length (λk=>[[dI ids],[kg nms],[kg nms],[vI (nms.length:Int)],[vI (k:Int)],[x,y],[gu (l++eo wd ids nms k)]]) (λ_=>True) trivial (by simp[eo]) λk next hk' _ hnx=>?_
 have hlk:=ji wd ids nms k;have hll:(l++eo wd ids nms k).length<=100000000000:=by grind
 simp only[ai];refine⟨λh=>?_,λh=>?_⟩
 .have hk:k<nms.length:=Q0;have hki:k<ids.length:=Q0;have hc:=tk bM nms hk;have h3:=hnx hk trivial;rw[ve,<-R9]at h3;have eg:nms.getD k tx0=nms[k]:=by grind
  have eg2:ids.getD k qg=ids[k]:=by grind
  rw[eg2]at h3;unfold Bz at h3;rw[eg]at h3;rw[hc,fl _ hki];have hok:aZ ((k:Int)+1):=by unfold aZ;omega
  have hbad:∀K:bT->Prop,K [[x,y],[gu (l++eo wd ids nms k++[⟨16,ids[k],5⟩])]]->aA (j3 RH) zH [[vI 16],(ids[k]).enc,[vI 5],[x,y],[gu (l++eo wd ids nms k)]] K:=λK hK=>ab (pj 16 5 ids[k] x y _ hll) hK;refine⟨Q0,ab (W _ (RQ hk)) ?_⟩;simp only[ai];cases hw:wd nms[k]with
  |false=>rw[hw]at h3;simp only[ai,Tq,VQ,if_true]at h3 ⊢;refine⟨Q0,hbad _ ?_⟩;simp only[ai];exact⟨hok,h3⟩
  |true =>
   rw[hw]at h3;simp only[ai,SJ,UC]at h3 ⊢;refine⟨Q0,?_⟩;rw[show((0:Int).toNat)=0 from rfl,Nat.sub_zero,JN,Te];have e1:D.sl k 1 ((nms.take k).map bM)=kg (nms.take k):=by grind
   rw[e1];refine ab (te _ _ (by grind)) ?_;cases h4:Nx nms[k] (nms.take k) with
   |true=>rw[h4]at h3;simp only[ai,VQ,if_true]at h3 ⊢;refine⟨Q0,hbad _ ?_⟩;simp only[ai];exact⟨hok,h3⟩
   |false =>
    rw[h4]at h3;simp only[ai,UC]at h3 ⊢;refine⟨hok,Q0,?_⟩;have e0:((k:Int)+1).toNat=k+1:=Q0;rw[e0,JN];have e2:D.sl (nms.length-(k+1)) 1 (((nms.drop (k+1)).take (nms.length-(k+1))).map bM)=kg (nms.drop (k+1)):=by
     grind
    rw[e2];refine ab (te _ _ (by grind)) ?_;cases h5:Nx nms[k] (nms.drop (k+1)) with
    |true=>rw[h5]at h3;simp only[ai,if_true]at h3 ⊢;refine⟨Q0,hbad _ ?_⟩;simp only[ai];exact⟨hok,h3⟩
    |false=>rw[h5]at h3;simp only[ai,VO,if_false,RW]at h3 ⊢;exact⟨hok,h3⟩
 .obtain rfl:k=nms.length:=Q0;rfl
theorem Mj{wd:ByteArray->Bool}(b:ByteArray)(W:IS qQ [[bM b]] [[vB (wd b)]]):IS s153 [[bM b]] [[vB (!wd b)]]:=by refine w153.is ?_;unfold g153;simp only[ai];refine ab W ?_;simp only[ai]
theorem Hm{wd:ByteArray->Bool}{nms:List ByteArray}(W:∀b∈nms,IS qQ [[bM b]] [[vB (wd b)]])(hn:nms.length<=1000000000):IS s152 [[kg nms]] [[vB (nms.any λb=>!wd b)]]:=by
 have key:g199 (j3 RH) [[kg nms]] (λr=>∃z:Int,(0<=z↔(nms.any λb=>!wd b)=true)/\r=[[vI z]]):=by
  unfold g199;simp only[ai];refine bc nms.length (λk=>[[kg nms],[vI (nms.length:Int)],[vI (k:Int)]]) (λk=>((nms.take k).any λb=>!wd b)=false) Q2 rfl λk next hi hI hn=>?_
  simp only[ai];refine⟨λh=>?_,λh=>?_⟩
  .have hk:k<nms.length:=Q0;have hc:=tk bM nms hk;have hm:=RQ hk;rw[hc];refine⟨Q0,ab (Mj _ (W _ hm)) ?_⟩;cases hw:wd nms[k]with
   |false=>simp only[ai,Tq];refine⟨_,?_,rfl⟩;refine⟨λ_=>XO.2 ⟨_,hm,by rw[hw];rfl⟩,λ_=>by omega⟩
   |true=>simp only[ai,SJ];refine⟨Q4,hn hk ?_⟩;rw[RJ hk,List.any_append,hI];simp[hw]
  all_goals grind
 obtain⟨r,⟨z,hz,rfl⟩,h⟩:=w199.some key (by rintro r ⟨z,_,rfl⟩;exact trivial);refine w152.is ?_;unfold g152;simp only[ai];refine ab h ?_;simp only[ai]
 grind
def AS:List Int:=[0,0,0,-1,2,3,2,-1,1,1,-1,-1,3]
theorem kids_at{k:Nat}(hk:k<13):cell (el kidsD 1 k) 0=vI (AS.getD k 0):=by
 match k,hk with
 |0,_=>rfl
 |1,_=>rfl
 |2,_=>rfl
 |3,_=>rfl
 |4,_=>rfl
 |5,_=>rfl
 |6,_=>rfl
 |7,_=>rfl
 |8,_=>rfl
 |9,_=>rfl
 |10,_=>rfl
 |11,_=>rfl
 |12,_=>rfl
def vm(k dk:Int):Bool:=decide ((k=3/\(dk=2\/dk=5))\/((k=7\/k=8)/\dk=0)\/((k=9\/k=10)/\dk=1))
theorem Fo{k dk:Int}(hc:eE k)(h0:0<=dk)(h5:dk<=5):(bits .and .i64 ((yp k iM).getD 0 / 2 ^ min (RF dk) (Uo .i64)) 1=(0:Int))↔vm k dk=false:=by have hd:dk=0\/dk=1\/dk=2\/dk=3\/dk=4\/dk=5:=Q0;unfold eE at hc;rcases hc with rfl|rfl|rfl|rfl|rfl <;> rcases hd with rfl|rfl|rfl|rfl|rfl|rfl <;> decide
def ix(e:Ex):Bool:=if e.kind=4 then decide (e.n<0\/11<e.n) else if e.kind=0 then decide (e.n < -1099511627776\/1099511627776<e.n) else if e.kind=1 then decide (¬e.n=0/\¬e.n=1) else false
def gi(p:au)(e:Ex):Bool:=if e.kind=11 then !decide (cd p e.ty) else false
def ia(e:Ex):Int:=if e.kind=4/\(e.n=9\/e.n=11) then 1 else AS.getD e.kind.toNat 0
def jb(e:Ex):Bool:=ix e || decide (0<=ia e/\¬(e.kids.length:Int)=ia e)
def gn(e:Ex)(n:Nat):Bool:=if e.kind=3\/e.kind=7 then decide (¬(e.kids.length:Int)=n) else if e.kind=10 then decide (¬(e.kids.length:Int)=n+1\/n=0) else decide (e.n<0\/(n:Int)<=e.n)
def gg(p:au)(e:Ex):Bool×Bool :=
 if e.kind<0\/13<=e.kind then(true,false) else if ¬eE e.kind then(jb e,gi p e)
 else if ¬cK p e.ref\/vm e.kind (al p e.ref).kind=false then(jb e,true) else(jb e || gn e (al p e.ref).ah.length,gi p e)
theorem ikI(z:Int)(K:Int->Prop):qv .i64 (vI z) K=K z:=by simp[qv]
theorem Pd{p:au}(hp:p.aa.length<=1000000000000)(e:Ex)(_:e.kids.length<=1000000000000)(hs:(al p e.ref).ah.length<=1000000000000)(l:List dJ) :
  IS s149 [e.enc,p.enc,[gu l]] [[vB (gg p e).1],[vB (gg p e).2],p.enc,[gu l]]:=by
 refine w149.isG ?_;unfold g149;have e3:cell e.enc 3=aj e.kind:=by rw[Ex.aD];rfl
 have e4:cell e.enc 4=aj e.n:=by rw[Ex.aD];rfl
 have e5:cell e.enc 13=.sl e.kids.length 15 (e.kids.flatMap Ex.enc):=by rw[Ex.aD];rfl
 have e6:sub e.enc 8 5=e.ty.enc:=by rw[Ex.aD,Ty.aD];rfl
 have e7:sub e.enc 5 3=e.ref.enc:=by rw[Ex.aD];rfl
 have hpe:[cell p.enc 0,cell p.enc 1]=p.enc:=rfl;simp only[ai,aF,e3,hpe];refine⟨λh=>by grind [gg],λh1=>⟨λh=>by grind [gg],λh2=>⟨⟨Q0,Q0⟩,?_⟩⟩⟩;have hk13:e.kind.toNat<13:=Q0;simp only[kids_at hk13];refine bB [[vB (ix e)],[vB (gi p e)],[vI (ia e)],p.enc,e.enc,[gu l]] ?_ ?_
 .refine⟨λh4=>?_,λh4=>⟨λh0=>?_,λh0=>⟨λhb=>?_,λhb=>⟨λhl=>?_,λhl=>?_⟩⟩⟩⟩
  .have hd:gi p e=false:=by unfold gi;rw[J1 Q0]
   have hw0:ix e=decide (e.n<0\/11<e.n):=by grind [ix]
   refine bB [[vB false],[vI (ia e)],p.enc,e.enc,[gu l]] ?_ ?_
   .unfold ia;refine⟨λh=>by grind,λh=>⟨λh2=>by grind,λh2=>by grind⟩⟩
   .simp only[ai,e4,hpe];rw[hw0,hd];refine⟨λh=>?_,λh=>?_⟩
    .have:decide (e.n<0\/11<e.n)=true:=J5 (.inl h);rw[this]
    .have:decide (e.n<0\/11<e.n)=decide (11<e.n):=by simp[h]
     rw[this]
  .have hw:ia e=AS.getD e.kind.toNat 0:=by unfold ia;rw[J1 (λh=>h4 h.1)]
   have hd:gi p e=false:=by grind [gi]
   have hw0:ix e=decide (e.n < -1099511627776\/1099511627776<e.n):=by grind [ix]
   rw[hw,hd,hw0];refine⟨λh=>?_,λh=>?_⟩
   .have:decide (e.n < -1099511627776\/1099511627776<e.n)=true:=J5 (.inl h);rw[this]
   .have:decide (e.n < -1099511627776\/1099511627776<e.n)=decide (1099511627776<e.n):=by simp[h]
    rw[this]
  .have hw:ia e=AS.getD e.kind.toNat 0:=by unfold ia;rw[J1 (λh=>h4 h.1)]
   have hd:gi p e=false:=by grind [gi]
   have hw0:ix e=decide (¬e.n=0/\¬e.n=1):=by grind [ix]
   rw[hw,hd,hw0];refine⟨λh=>?_,λh=>?_⟩
   .have:decide (¬e.n=0/\¬e.n=1)=false:=J6 λhh=>hh.1 h;rw[this]
   .have:decide (¬e.n=0/\¬e.n=1)=!decide (e.n=1):=by simp[h]
    rw[this]
  .have hw:ia e=AS.getD e.kind.toNat 0:=by unfold ia;rw[J1 (λh=>h4 h.1)]
   have hd:gi p e=!decide (cd p e.ty):=by grind [gi]
   have hw0:ix e=false:=by grind [ix]
   rw[hw,hd,hw0];refine ab (tw hp e.ty) ?_;simp only[ai]
  .have hw:ia e=AS.getD e.kind.toNat 0:=by unfold ia;rw[J1 (λh=>h4 h.1)]
   have hd:gi p e=false:=by grind [gi]
   have hw0:ix e=false:=by grind [ix]
   rw[hw,hd,hw0]
 .simp only[ai,hpe,e5];refine bB [[vB (jb e)],[vB (gi p e)],p.enc,e.enc,[gu l]] ?_ ?_
  .unfold jb;cases h0:ix e with
   |true=>simp only[ai,VQ]
   |false =>
    simp only[ai,UC];refine⟨λh=>?_,λh=>?_⟩
    .have:decide (0<=ia e/\¬(e.kids.length:Int)=ia e)=!decide ((e.kids.length:Int)=ia e):=by simp[h]
     rw[this]
    .have:decide (0<=ia e/\¬(e.kids.length:Int)=ia e)=false:=J6 λhh=>h hh.1;rw[this]
  .simp only[ai,hpe,e3,e4,e5,e7,yG];have hn:gg p e=if ¬eE e.kind then(jb e,gi p e)
 else if ¬cK p e.ref\/vm e.kind (al p e.ref).kind=false then(jb e,true) else(jb e || gn e (al p e.ref).ah.length,gi p e):=by unfold gg;rw[J1 Q0]
   rw[hn];refine⟨λhc=>by grind,λhc=>?_⟩;have hc2:eE e.kind:=Yd.1 hc;rw[J1 hc];refine ab (pZ p e.ref hp) ?_;have k1:cell (al p e.ref).enc 3=aj (al p e.ref).kind:=rfl;have k2:cell (al p e.ref).enc 8=.sl (al p e.ref).ah.length 11 ((al p e.ref).ah.flatMap aC.enc):=rfl;by_cases hdf:cK p e.ref
   .rw[J5 hdf];simp only[ai,k1,k2];generalize al p e.ref=d at hs ⊢;have hno:∀z:Int,(z<0\/5<z)->vm e.kind z=false:=λz hz=>by grind [vm,decide_eq_false_iff_not]
    refine⟨λh=>by grind,λh=>⟨λh5=>by grind,λh5=>?_⟩⟩;rw[ikI];show qv .i64 (vI d.kind) _;rw[ikI];refine⟨Q0,λhbt=>?_,λhbt=>?_⟩
    .rw[J2 (.inr ((Fo hc2 Q0 Q0).1 hbt))]
    .have hfk:¬vm e.kind d.kind=false:=λhh=>hbt ((Fo hc2 Q0 Q0).2 hh);rw[J1 (λhh=>hh.elim (λa=>a hdf) hfk)];refine bB [[vB (jb e || gn e d.ah.length)],[vB (gi p e)],p.enc,[gu l]] ?_ ?_
     .cases h1:jb e with
      |true=>simp only[ai,VQ];exact⟨λh=>⟨λ_=>trivial,λh2=>J3 h h2⟩,λh=>⟨λ_=>trivial,λ_=>⟨λ_=>trivial,λ_=>trivial⟩⟩⟩
      |false =>
       simp only[ai,UC];have r1:(e.kind=3\/e.kind=7)->gn e d.ah.length=!decide ((e.kids.length:Int)=d.ah.length):=λh=>by grind [gn]
       have r2:e.kind=10->gn e d.ah.length=decide (¬(e.kids.length:Int)=d.ah.length+1\/d.ah.length=0):=λh=>by grind [gn]
       have r3:¬e.kind=3->¬e.kind=7->¬e.kind=10->gn e d.ah.length=decide (e.n<0\/(d.ah.length:Int)<=e.n):=λh h7 h10=>by grind [gn]
       have hok:aZ ((d.ah.length:Int)+1):=by unfold aZ;omega
       have b2:e.kind=10->(e.kids.length:Int)=d.ah.length+1->decide ((d.ah.length:Int)=0)=gn e d.ah.length:=λh10 hl=>by
        grind
       have b3:e.kind=10->¬(e.kids.length:Int)=d.ah.length+1->gn e d.ah.length=true:=λh10 hl=>by grind
       have b4:¬e.kind=3->¬e.kind=7->¬e.kind=10->e.n<0->gn e d.ah.length=true:=λh h7 h10 hn=>by grind
       have b5:¬e.kind=3->¬e.kind=7->¬e.kind=10->¬e.n<0->gn e d.ah.length=decide ((d.ah.length:Int)<=e.n):=λh h7 h10 hn=>by grind
       refine⟨λh=>⟨λ_=>by grind,λh2=>J3 h h2⟩,λh=>⟨λh7=>by grind,λh7=>⟨λh10=>⟨hok,λhl=>by grind,λhl=>by grind⟩,λh10=>⟨λhn=>by grind,λhn=>by grind⟩⟩⟩⟩
     .simp only[ai,hpe]
   .rw[J6 hdf,J2 (.inl hdf)];simp only[ai,Tq]
def gW(i:av)(kd:Int)(j:Nat):List eP :=
 if kd=6/\j=1 then[(i,0)] else if kd=12/\j=2 then[(i,0),(i,1)] else if kd=10/\0<j then[(i,(j:Int)-1)] else[]
theorem Nn(e:Ex)(j:Nat):Ik e j=gW e.id e.kind j:=rfl
theorem Ij(i:av)(kd:Int)(j:Nat):(gW i kd j).length<=2:=by
 unfold gW
 grind
def mP(e:Ex):Int:=if e.kind=6 then 1 else if e.kind=12 then 2 else if e.kind=10 then max 0 ((e.kids.length:Int)-1) else 0
def iG(wd:ByteArray->Bool)(e:Ex):Bool:=decide (¬(e.aJ.length:Int)=mP e) || e.aJ.any λb=>!wd b
def qC(e:Ex)(a:List eP):Bool:=decide (e.kind=2/\(e.ref,e.n) ∉ a)
def mF(wd:ByteArray->Bool)(p:au)(e:Ex)(a:List eP):List dJ :=
 (if(gg p e).1 then[⟨17,e.id,12⟩] else[])++(if(gg p e).2 || qC e a then[⟨14,e.id,12⟩] else[])++(if iG wd e then[⟨16,e.id,12⟩] else[])
mutual
def dS(wd:ByteArray->Bool)(p:au):Ex->List eP->List dJ
 |.mk i k n r t l s,a=>mF wd p (.mk i k n r t l s) a++bS wd p i k l 0 a
def bS(wd:ByteArray->Bool)(p:au)(i:av)(k:Int):List Ex->Nat->List eP->List dJ
 |[],_,_=>[]
 |x::l,j,a=>dS wd p x (a++gW i k j)++bS wd p i k l (j+1) a
end
section
variable (wd:ByteArray->Bool) (p:au)
theorem Bw(e:Ex)(a:List eP):dS wd p e a=mF wd p e a++bS wd p e.id e.kind e.kids 0 a:=by cases e;rw[dS];rfl
theorem vD(i:av)(k:Int):∀(l m:List Ex) (j:Nat) (a:List eP),bS wd p i k (l++m) j a=bS wd p i k l j a++bS wd p i k m (j+l.length) a
 |[],m,j,a=>by grind [bS]
 |x::l,m,j,a=>by rw[SA,bS,bS,vD i k l m (j+1) a,R9,RU,show j+1+l.length=j+(l.length+1) by omega]
theorem Dd(i:av)(kd:Int){l:List Ex}{k:Nat}(hk:k<l.length)(a:List eP):bS wd p i kd (l.take (k+1)) 0 a=bS wd p i kd (l.take k) 0 a++dS wd p l[k] (a++gW i kd k):=by rw[RJ hk,vD,Sn,Tf Q0,Sz,bS,bS,RW]
theorem Mi(e:Ex)(a:List eP):(mF wd p e a).length<=3:=by
 unfold mF
 grind
mutual
theorem zg:∀(e:Ex) (a:List eP),(dS wd p e a).length<=3*e.wt
 |.mk i k n r t l s,a=>by rw[dS,RS,Ex.wt];have:=Mi wd p (.mk i k n r t l s) a;have:=pg i k l 0 a;omega
theorem pg(i:av)(k:Int):∀(l:List Ex) (j:Nat) (a:List eP),(bS wd p i k l j a).length<=3*Ex.fi l
 |[],j,a=>by rw[bS];exact Sy _
 |x::l,j,a=>by rw[bS,RS,Ex.fi];have:=zg x (a++gW i k j);have:=pg i k l (j+1) a;omega
end
end
theorem Gb{wd:ByteArray->Bool}{p:au}(hcat:∀a b:List eP,a.length+b.length<=100000000000->IS Lt [[.sl 2 1 [dV a,dV b]]] [[dV (a++b)]])(hp:p.aa.length<=1000000000000)(hs:∀i,(al p i).ah.length<=1000000000000) :
  ∀(n:Nat) (e:Ex),e.wt<=n->e.wt<=1000000000->(∀x∈bV e,∀b∈x.aJ,IS qQ [[bM b]] [[vB (wd b)]])->∀(a:List eP) (l:List dJ),a.length+2*e.wt<=10000000000->l.length+3*e.wt<=10000000000 ->
  IS Lu [e.enc,[dV a],p.enc,[gu l]] [p.enc,[gu (l++dS wd p e a)]]
 |0,e,h,_,_=>by have:=Ex.cS e;omega
 |n+1,e,h,hb,hw=>λa l ha hl=>by
  have h1:=Ex.cS e;have h2:=Ex.mV e.kids;have hpe:[cell p.enc 0,cell p.enc 1]=p.enc:=rfl;have e0:sub e.enc 0 3=e.id.enc:=by rw[Ex.aD];rfl
  have e3:cell e.enc 3=aj e.kind:=by rw[Ex.aD];rfl
  have e4:cell e.enc 4=aj e.n:=by rw[Ex.aD];rfl
  have e5:cell e.enc 13=.sl e.kids.length 15 (e.kids.flatMap Ex.enc):=by rw[Ex.aD];rfl
  have e6:cell e.enc 14=kg e.aJ:=by rw[Ex.aD];rfl
  have e7:sub e.enc 5 3=e.ref.enc:=by rw[Ex.aD];rfl
  refine w148.isG ?_;unfold g148;simp only[ai,aF,hpe];refine ab (Pd hp e Q0 (hs _) l) ?_;simp only[ai,hpe];let l1:=l++(if(gg p e).1 then[⟨17,e.id,12⟩] else[]:List dJ);have hl1:l1.length<=l.length+1:=by
   grind
  let l2:=l1++(if(gg p e).2 || qC e a then[⟨14,e.id,12⟩] else[]:List dJ);have hl2:l2.length<=l1.length+1:=by
   grind
  let l3:=l2++(if iG wd e then[⟨16,e.id,12⟩] else[]:List dJ);have hl3:l3.length<=l2.length+1:=by
   grind
  have e33:l3=l++mF wd p e a:=by
   grind [mF]
  refine bB [[dV a],[vB (gg p e).2],e.enc,p.enc,[gu l1]] ?_ ?_
  .show ax (gg p e).1 _ _;cases hw1:(gg p e).1 with
   |true =>
    simp only[ai];refine ab (pj 17 12 e.id _ _ l Q0) ?_;simp only[ai];have e:l1=l++[⟨17,e.id,12⟩]:=by grind
    rw[e];rfl
   |false =>
    simp only[ai];have e:l1=l:=by grind
    rw[e]
  .clear_value l1
   simp only[ai,aF,hpe,e0,e3,e4,e7];refine bB [[dV a],e.enc,p.enc,[gu l2]] ?_ ?_
   .cases hd:(gg p e).2 || qC e a with
    |true =>
     have e2:l2=l1++[⟨14,e.id,12⟩]:=by grind
     have add:∀K:bT->Prop,K [p.enc,[gu l2]]->aA (j3 RH) zH [[vI 14],e.id.enc,[vI 12],p.enc,[gu l1]] K:=λK hK=>ab (pj 14 12 e.id _ _ l1 Q0) (by rw[e2]at hK;exact hK);cases hd2:(gg p e).2 with
     |true=>simp only[ai];refine add _ ?_;simp only[ai,hpe]
     |false=>rw[hd2,UC]at hd;obtain⟨hk2,hin⟩:=J7 hd;simp only[ai];refine⟨λ_=>?_,λhh=>J3 hk2 hh⟩;refine ab (td a (e.ref,e.n) Q0) ?_;rw[J6 hin];simp only[ai,Tq];refine add _ ?_;simp only[ai,hpe]
    |false =>
     have e2:l2=l1:=by grind
     rw[e2];rw[Bool.or_eq_false_iff]at hd;rw[hd.1];simp only[ai];refine⟨λhk2=>?_,λ_=>trivial⟩;have hin:(e.ref,e.n)∈a:=Yd.1 λhh=>of_decide_eq_false hd.2 ⟨hk2,hh⟩;refine ab (td a (e.ref,e.n) Q0) ?_;rw[J5 hin];simp only[ai,SJ]
   .clear_value l2
    simp only[ai,hpe,e0,e6];refine bB [[dV a],e.enc,p.enc,[gu l3]] ?_ ?_
    .refine ab (Im e Q0) ?_;simp only[ai];have add:iG wd e=true->∀K:bT->Prop,K [p.enc,[gu l3]]->aA (j3 RH) zH [[vI 16],e.id.enc,[vI 12],p.enc,[gu l2]] K:=λhbd K hK=>by
      have e2:l3=l2++[⟨16,e.id,12⟩]:=by grind
      exact ab (pj 16 12 e.id _ _ l2 Q0) (by rw[e2]at hK;exact hK)
     have hni:=Hm (λb hb=>hw e (cQ e) b hb) (by omega:e.aJ.length<=1000000000);refine⟨λhl5=>?_,λhl5=>?_⟩
     .have hbe:iG wd e=e.aJ.any λb=>!wd b:=by unfold iG;rw[J6 (λhh=>hh hl5),UC]
      refine ab hni ?_;cases hbn:e.aJ.any λb=>!wd b with
      |true=>simp only[ai];refine add (by grind) _ ?_;simp only[ai,hpe]
      |false =>
       have e2:l3=l2:=by grind
       rw[e2];simp only[ai]
     .have hbe:iG wd e=true:=by
       grind [iG,mP]
      refine add hbe _ ?_;simp only[ai,hpe]
    .clear_value l3
     simp only[ai,hpe,e5];refine bc e.kids.length (λk=>[[dV a],[exK e],[vI (e.kids.length:Int)],[vI (k:Int)],e.enc,p.enc,[gu (l3++bS wd p e.id e.kind (e.kids.take k) 0 a)]]) (λ_=>True) trivial (by rw[TB,bS,RW];rfl) λk next hi _ hn=>?_
     have hlen:=pg wd p e.id e.kind (e.kids.take k) 0 a;have hst2:=Ex.wQ e.kids (k+1);simp only[ai,hpe];refine⟨λh5=>?_,λh5=>?_⟩
     .have hk:k<e.kids.length:=Q0;have hm:=RQ hk;have hn3:=hn hk trivial;rw[Dd wd p _ _ hk,<-R9]at hn3;rw[Ex.wR hk]at hst2;have hwk:∀x∈bV e.kids[k],∀b∈x.aJ,IS qQ [[bM b]] [[vB (wd b)]]:=λx hx=>hw x (by grind [jw,List.mem_append_left,iS]);rw[vq _ hk];generalize e.kids[k]=x at hn3 hst2 hwk ⊢;refine⟨Q0,ab (Ra e k Q0) ?_⟩;simp only[ai];have hbl:=Ij e.id e.kind k;rw[Nn];refine ab (hcat a (gW e.id e.kind k) Q0) ?_;simp only[ai];refine ab (Gb hcat hp hs n x Q0 Q0 hwk (a++gW e.id e.kind k) _ (by grind) (by grind)) ?_;simp only[ai,hpe]
      grind [aZ]
     all_goals grind [Sl,Bw,R9]
def gz(d:an):List eP:=d.ah.map λs=>(s.id,0)
theorem body_is{wd:ByteArray->Bool}{p:au}(hcat:∀a b:List eP,a.length+b.length<=100000000000->IS Lt [[.sl 2 1 [dV a,dV b]]] [[dV (a++b)]])(hp:p.aa.length<=1000000000000)(hs:∀i,(al p i).ah.length<=1000000000000)
  (d:an) (hd:d.ah.length<=1000000000) (hb:d.body.wt<=1000000000) (hw:∀x∈bV d.body,∀b∈x.aJ,IS qQ [[bM b]] [[vB (wd b)]]) (l:List dJ) (hl:l.length+3*d.body.wt<=10000000000) :
  IS s50 [d.enc,p.enc,[gu l]] [p.enc,[gu (l++dS wd p d.body (gz d))]]:=by
 have hpe:[cell p.enc 0,cell p.enc 1]=p.enc:=rfl;have d3:cell d.enc 8=.sl d.ah.length 11 (d.ah.flatMap aC.enc):=rfl;have d4:sub d.enc 14 15=d.body.enc:=by rw[Ex.aD];rfl
 refine w50.isG ?_;unfold g50;simp only[ai,hpe,d3];refine bB [p.enc,d.enc,[dV (gz d)],[gu l]] ?_ ?_
 .refine bc d.ah.length (λk=>[[.sl d.ah.length 11 (d.ah.flatMap aC.enc)],[vI (d.ah.length:Int)],[vI (k:Int)],p.enc,d.enc,[dV ((gz d).take k)],[gu l]]) (λ_=>True) trivial Q3 λk next hi _ hn=>?_
  have hlk:((gz d).take k).length=k:=by grind [gz,Sn,Sa]
  have hsl:(gz d).length=d.ah.length:=by unfold gz;rw[Sa]
  simp only[ai,hpe];refine⟨λh=>?_,λh=>?_⟩
  .have hk:k<d.ah.length:=Q0;have h3:=hn hk trivial;rw[RJ Q0]at h3;have hke:(gz d)[k]'Q0=(d.ah[k].id,0):=by unfold gz;rw[S0]
   rw[hke]at h3;rw[mN _ hk];have s1:sub (d.ah[k]).enc 0 3=(d.ah[k]).id.enc:=rfl;rw[s1];refine⟨Q0,Qa,Q4,?_⟩;rw[show dV ((gz d).take k++[((d.ah[k]).id,0)])=D.sl (((gz d).take k).length+1) 4 (((gz d).take k).flatMap vG++[aj (d.ah[k]).id.aH,aj (d.ah[k]).id.seq,aj (d.ah[k]).id.index,vI 0]) by unfold dV;rw[RS,Sd];rfl]at h3;exact h3
  .obtain rfl:k=d.ah.length:=Q0;rw[<-hsl,Sl]
 .simp only[ai,hpe,d4];refine ab (Gb hcat hp hs _ d.body (Sc _) hb hw (gz d) l (by grind [gz,Sa]) hl) ?_;simp only[ai,hpe]
def iE(p:au):Nat->List av->List av->List av
 |0,S,_=>S
 |_+1,S,[]=>S
 |n+1,S,x::T=>if x∈S then iE p n S T else iE p n (S++[x]) (T++aR p x)
def rR(p:au)(S:List av)(D:List av):Nat:=((D.filter λi=>decide (i ∉ S)).map λi=>(aR p i).length).sum
theorem tO(p:au)(S:List av)(x:av):∀{D:List av},x ∉ D->rR p (S++[x]) D=rR p S D
 |[],_=>rfl
 |i::D,h=>by
  have hne:i≠x:=λe=>h (by grind);have ih:=tO p S x (D:=D) λhh=>h (RM _ hh)
  grind [rR]
theorem Ej(p:au)(S:List av)(x:av)(hS:x ∉ S):∀{D:List av},D.Nodup->x∈D->rR p (S++[x]) D+(aR p x).length=rR p S D
 |i::D,hn,h=>by
  have hn2:=SG.1 hn;by_cases e:i=x
  .subst e;have h1:=tO p S i hn2.1
   grind [rR]
  .have hx:x∈D:=(RO.1 h).resolve_left λh2=>e h2.symm;have ih:=Ej p S x hS hn2.2 hx
   grind [rR]
theorem Aa{p:au}{x:av}(h:x ∉ p.aa.map an.id):aR p x=[]:=by
 unfold aR;rw[J1];rintro⟨d,hd,rfl⟩
 grind
abbrev gS(p:au):List av:=p.aa.map an.id
def mu(p:au)(S T:List av):Nat:=T.length+rR p S (gS p)
theorem Ho(p:au)(S T:List av)(x:av):mu p S (x::T)=mu p S T+1:=by unfold mu;rw[RU];omega
theorem mu_new{p:au}(hn:(gS p).Nodup){S:List av}(T:List av){x:av}(hx:x ∉ S):mu p S (x::T)=mu p (S++[x]) (T++aR p x)+1:=by
 unfold mu;rw[RU,RS];by_cases h:x∈gS p
 all_goals grind [Ej,S,tO,Aa,List.length_nil]
def zO(p:au)(i:av):List av:=iE p (mu p [] (aR p i)) [] (aR p i)
def bG(p:au)(i:av):List av:=match p.aw.find? λm=>decide (m.id=i) with
 |some m=>m.cZ++[m.id]
 |none=>[]
def oJ(p:au)(d:an):List dJ:=(aR p d.id).flatMap λx=>if(al p x).mod∈bG p d.mod then[] else[⟨11,d.id,1⟩]
def kK(p:au)(d:an):List dJ:=oJ p d++if d.id∈zO p d.id then[⟨13,d.id,14⟩] else[]
def wW(p:au):List dJ:=p.aa.flatMap (kK p)
theorem AI(p:au)(d:an):(oJ p d).length<=(aR p d.id).length:=by
 unfold oJ;induction aR p d.id with
 |nil=>simp
 |cons x l ih =>
  rw[RT,RS,RU];have h1:(if(al p x).mod∈bG p d.mod then[] else[⟨11,d.id,1⟩]:List dJ).length<=1:=by grind
  omega
theorem yk{p:au}(hn:(p.aw.map aO.id).Nodup){k:Nat}(hk:k<p.aw.length):bG p p.aw[k].id=p.aw[k].cZ++[p.aw[k].id]:=by
 have:(p.aw.find? λm=>decide (m.id=p.aw[k].id))=some p.aw[k]:=by
  have key:∀(l:List aO) (hn:(l.map aO.id).Nodup) (x:aO),x∈l->(l.find? λm=>decide (m.id=x.id))=some x:=by
   intro l;induction l with
   |nil=>intro _ x hx;cases hx
   |cons m l ih =>
    intro hn x hx;rw[Sb]at hn;have hn2:=SG.1 hn;rw[VI];rcases RO.1 hx with rfl|hx
    .rw[J5 rfl]
    .rw[J6 λe=>hn2.1 (by grind)];exact ih hn2.2 x hx
  grind
 unfold bG;rw[this]
theorem CD{p:au}{i:av}(h:i ∉ p.aw.map aO.id):bG p i=[]:=by
 unfold bG
 grind
theorem Kr(f:av->List av)(i:av)(L:List av)(h:i ∉ L->f i=[]):(bA 4 i.aH i.seq i.index L.length (L.flatMap (mE λx=>dI (f x)))).getD [.sl 0 3 []]=[dI (f i)]:=by
 rw[ri]
 grind
theorem GW(p:au)(n:Nat)(S:List av):iE p n S []=S:=by cases n <;> rw[iE]
theorem DC(x:av)(T:List av):sub ((x::T).flatMap av.enc) (1*3) (((x::T).length-1)*3)=T.flatMap av.enc:=by
 unfold sub;rw[RT];show(TG 3 (x.enc++T.flatMap av.enc)).take _=_;have e:x.enc.length=3:=rfl;rw[<-e,List.drop_left];refine Su ?_;have:(T.flatMap av.enc).length=T.length*3:=by
  induction T with
  |nil=>rfl
  |cons y T ih=>rw[RT,RS,ih,RU];show 3+T.length*3=_;omega
 grind
theorem ND(C:gL)(hS:uN){p:au}(hp:BM p)(hnd:(gS p).Nodup)(hnm:(p.aw.map aO.id).Nodup)(hm:p.aw.length<=1000)(hmu:∀m∈p.aw,m.cZ.length<=1000)(hU:∀i,mu p [] (aR p i)<=1000000000)(yB:∀i,(aR p i).length<=100000)(l:List dJ)(hl:l.length<=1000000000) :
  IS s51 [p.enc,[gu l]] [p.enc,[gu (l++wW p)]]:=by
 have hpe:[cell p.enc 0,cell p.enc 1]=p.enc:=rfl;have p0:cell p.enc 0=.sl p.aw.length 6 (p.aw.flatMap aO.enc):=rfl;have p1:cell p.enc 1=.sl p.aa.length 31 (p.aa.flatMap an.enc):=rfl;have hd:=hp.d;refine w51.isG ?_;unfold g51;simp only[ai,p1];refine bc p.aa.length (λk=>[[.sl p.aa.length 31 (p.aa.flatMap an.enc)],[vI (p.aa.length:Int)],[vI (k:Int)],p.enc,[dM (λx=>dI (aR p x)) ((gS p).take k)],[gu l]]) (λ_=>True) trivial Q3 λk next hi _ hn=>?_
 have hlk:((gS p).take k).length=k:=by grind
 simp only[ai,hpe];refine⟨λh=>?_,λh=>?_⟩
 .have hk:k<p.aa.length:=Q0;have h3:=hn hk trivial;have hki:k<(gS p).length:=by grind
  have hke:(gS p)[k]=p.aa[k].id:=by grind
  have hfr:(gS p)[k] ∉ (gS p).take k:=λhin=>by
   have e2:gS p=(gS p).take k++(gS p)[k]::(gS p).drop (k+1):=by rw[<-Ui hki,TS]
   grind
  rw[RJ hki]at h3;rw[gE _ hk];rw[hke]at h3 hfr;have s0:sub (p.aa[k]).enc 0 3=(p.aa[k]).id.enc:=rfl;rw[s0];generalize(p.aa[k]).id=i at h3 hfr ⊢;refine⟨Q0,ab (vU hS hp i) ?_⟩;simp only[ai,aF];refine⟨Q4,?_⟩;have e1:dc 4 i.aH i.seq i.index [dI (aR p i)] ((gS p).take k).length (((gS p).take k).flatMap (mE λx=>dI (aR p x)))=((gS p).take k++[i]).flatMap (mE λx=>dI (aR p x)):=AQ (λx=>dI (aR p x)) i _ hfr;have e4:((gS p).take k).length+1=((gS p).take k++[i]).length:=by grind
  rw[E0 _ _ _ hfr,e1,e4];exact h3
 .obtain rfl:k=p.aa.length:=Q0;have e:(gS p).take p.aa.length=gS p:=Su (by grind);rw[e,p0];simp only[ai];refine bc p.aw.length (λk=>[[.sl p.aw.length 6 (p.aw.flatMap aO.enc)],[vI (p.aw.length:Int)],[vI (k:Int)],p.enc,[dM (λx=>dI (aR p x)) (gS p)],[dM (λx=>dI (bG p x)) ((p.aw.map aO.id).take k)],[gu l]]) (λ_=>True) trivial Q3 λk lO hi2 _ hn2=>?_;have hlk2:((p.aw.map aO.id).take k).length=k:=by grind
  simp only[ai,p1];refine⟨λh2=>?_,λh2=>?_⟩
  .have hk:k<p.aw.length:=Q0;have h3:=hn2 hk trivial;have hki:k<(p.aw.map aO.id).length:=by grind
   have hke:(p.aw.map aO.id)[k]=p.aw[k].id:=by grind
   have hfr:(p.aw.map aO.id)[k] ∉ (p.aw.map aO.id).take k:=λhin=>by
    have e2:p.aw.map aO.id=(p.aw.map aO.id).take k++(p.aw.map aO.id)[k]::(p.aw.map aO.id).drop (k+1):=by rw[<-Ui hki,TS]
    grind
   rw[RJ hki]at h3;rw[Bg _ hk];rw[hke]at h3 hfr;have hmk:=yk hnm hk;have hlu:=hmu _ (RQ hk);have s0:sub (p.aw[k]).enc 0 3=(p.aw[k]).id.enc:=rfl;have s4:cell (p.aw[k]).enc 4=dI (p.aw[k]).cZ:=rfl;rw[s0,s4];generalize p.aw[k]=m at h3 hfr hmk hlu ⊢;refine⟨Q0,ab (C.ids _ Q0) ?_⟩;simp only[ai,aF];refine⟨Qa,Q4,?_⟩;have e1:dc 4 m.id.aH m.id.seq m.id.index [dI (bG p m.id)] ((p.aw.map aO.id).take k).length (((p.aw.map aO.id).take k).flatMap (mE λx=>dI (bG p x)))=((p.aw.map aO.id).take k++[m.id]).flatMap (mE λx=>dI (bG p x)):=AQ (λx=>dI (bG p x)) m.id _ hfr;have e4:((p.aw.map aO.id).take k).length+1=((p.aw.map aO.id).take k++[m.id]).length:=by grind
   have e5:D.sl (m.cZ.length+1) 3 (m.cZ.flatMap av.enc++(m.id.enc++[]))=dI (bG p m.id):=by grind
   rw[E0 _ _ _ hfr,e5,e1,e4];exact h3
  .obtain rfl:k=p.aw.length:=Q0;have e:(p.aw.map aO.id).take p.aw.length=p.aw.map aO.id:=Su (by grind);rw[e];refine bc p.aa.length (λk=>[[.sl p.aa.length 31 (p.aa.flatMap an.enc)],[vI (p.aa.length:Int)],[vI (k:Int)],p.enc,[dM (λx=>dI (aR p x)) (gS p)],[dM (λx=>dI (bG p x)) (p.aw.map aO.id)],[gu (l++(p.aa.take k).flatMap (kK p))]]) (λ_=>True) trivial (by grind) λk JJ hi3 _ hn3=>?_;have hlen:((p.aa.take k).flatMap (kK p)).length<=k*200000:=by
    have key:∀q:List an,(q.flatMap (kK p)).length<=q.length*200000:=λq=>by
     induction q with
     |nil=>simp
     |cons d q ih =>
      have h5:(kK p d).length<=200000:=by
       grind [AI,kK]
      rw[RT,RS,RU,SK];omega
    grind
   have hll:(l++(p.aa.take k).flatMap (kK p)).length<=2000000000:=by
    grind
   simp only[ai,p1];refine⟨λh=>?_,λh=>?_⟩
   .have hk:k<p.aa.length:=Q0;have h3:=hn3 hk trivial;rw[RJ hk,Sd,RT,Sw,RW,<-R9]at h3;rw[gE _ hk];generalize l++(p.aa.take k).flatMap (kK p)=l2 at hll h3 ⊢;generalize p.aa[k]=d at h3 ⊢;have s0:sub d.enc 0 3=d.id.enc/\sub d.enc 4 3=d.mod.enc:=⟨rfl,rfl⟩;have q1:∀i:av,cell i.enc 0=vI i.aH/\cell i.enc 1=vI i.seq/\cell i.enc 2=vI i.index:=λi=>⟨rfl,rfl,rfl⟩;have fu:∀i:av,(bA 4 i.aH i.seq i.index (gS p).length ((gS p).flatMap (mE λx=>dI (aR p x)))).getD [.sl 0 3 []]=[dI (aR p i)]:=λi=>Kr (aR p) i _ Aa;have fm:∀i:av,(bA 4 i.aH i.seq i.index (p.aw.map aO.id).length ((p.aw.map aO.id).flatMap (mE λx=>dI (bG p x)))).getD [.sl 0 3 []]=[dI (bG p i)]:=λi=>Kr (bG p) i _ CD;simp only[ai,s0,q1,fu];refine⟨Q0,?_⟩;have hu:=yB d.id;refine bc (aR p d.id).length (λj=>[[.sl p.aa.length 31 (p.aa.flatMap an.enc)],[vI (p.aa.length:Int)],[vI (k:Int)],[dI (aR p d.id)],[vI ((aR p d.id).length:Int)],[vI (j:Int)],p.enc,[dM (λx=>dI (aR p x)) (gS p)],[dM (λx=>dI (bG p x)) (p.aw.map aO.id)],d.enc,[gu (l2++((aR p d.id).take j).flatMap λx=>if(al p x).mod∈bG p d.mod then[] else[⟨11,d.id,1⟩])]]) (λ_=>True) trivial (by grind) λj next4 hi4 _ hn4=>?_;have hlj:(((aR p d.id).take j).flatMap λx=>if(al p x).mod∈bG p d.mod then[] else[(⟨11,d.id,1⟩:dJ)]).length<=j:=by
     have key:∀q:List av,(q.flatMap λx=>if(al p x).mod∈bG p d.mod then[] else[(⟨11,d.id,1⟩:dJ)]).length<=q.length:=λq=>by
      induction q with
      |nil=>simp
      |cons x q ih =>
       have h1:(if(al p x).mod∈bG p d.mod then[] else[⟨11,d.id,1⟩]:List dJ).length<=1:=by split <;> simp
       rw[RT,RS,RU];omega
     grind
    have hml:(bG p d.mod).length<=2000:=by
     unfold bG;split
     .grind
     .simp
    simp only[ai,hpe,s0,q1,fu,fm];refine⟨λh5=>?_,λh5=>?_⟩
    .have hj:j<(aR p d.id).length:=Q0;have h6:=hn4 hj trivial;rw[RJ hj,Sd,RT,Sw,RW,<-R9]at h6;rw[fl _ hj];refine⟨Q0,ab (pZ p _ Q0) ?_⟩;have k4:∀y:an,sub y.enc 4 3=y.mod.enc:=λy=>rfl;simp only[ai,k4];refine ab (C3 _ _ Q0) ?_;by_cases hc:(al p (aR p d.id)[j]).mod∈bG p d.mod
     .rw[J2 hc,RW]at h6;rw[J5 hc];simp only[ai,SJ];exact⟨Q4,h6⟩
     .rw[J1 hc]at h6;rw[J6 hc];simp only[ai,Tq];refine ab (pj 11 1 d.id _ _ _ (by grind)) ?_;simp only[ai];exact⟨Q4,h6⟩
    .obtain rfl:j=(aR p d.id).length:=Q0;rw[Sl]at hlj ⊢;have en:(aR p d.id).flatMap (λx=>if(al p x).mod∈bG p d.mod then[] else[(⟨11,d.id,1⟩:dJ)])=oJ p d:=rfl;rw[en]at hlj ⊢;refine ab (C.ids _ Q0) ?_;simp only[ai];have hnl:(l2++oJ p d).length<=3000000000:=by grind
     have hm0:=hU d.id;have h3':JJ [[.sl p.aa.length 31 (p.aa.flatMap an.enc)],[vI (p.aa.length:Int)],[vI ((k+1:Nat):Int)],p.enc,[dM (λx=>dI (aR p x)) (gS p)],[dM (λx=>dI (bG p x)) (p.aw.map aO.id)],[gu ((l2++oJ p d)++if d.id∈zO p d.id then[⟨13,d.id,14⟩] else[])]]:=by rw[R9];exact h3
     clear h3 hn4 hn2 hn hlj hn3;generalize l2++oJ p d=l4 at hnl h3' ⊢;refine bB [[.sl p.aa.length 31 (p.aa.flatMap an.enc)],[vI (p.aa.length:Int)],[vI (k:Int)],p.enc,[dM (λx=>dI (aR p x)) (gS p)],[dM (λx=>dI (bG p x)) (p.aw.map aO.id)],d.enc,[ir (zO p d.id)],[gu l4]] ?_ ?_
     .refine cY (σ:=List av×List av) (λx=>[[.sl p.aa.length 31 (p.aa.flatMap an.enc)],[vI (p.aa.length:Int)],[vI (k:Int)],p.enc,[dM (λx=>dI (aR p x)) (gS p)],[dM (λx=>dI (bG p x)) (p.aw.map aO.id)],d.enc,[ir x.1],[dI x.2],[gu l4]]) (λx=>mu p x.1 x.2)
       (λx=>iE p (mu p x.1 x.2) x.1 x.2=zO p d.id/\mu p x.1 x.2<=1000000000) ([],aR p d.id) ⟨rfl,hm0⟩ rfl ?_
      rintro⟨S,T⟩ next5 ⟨hI,hmS⟩ hn5;simp only at hI hmS;cases T with
      |nil=>rw[GW]at hI;simp only[ai,hpe];refine⟨λh=>J3 h Q1,λ_=>?_⟩;rw[hI]
      |cons x T =>
       have he:el ((x::T).flatMap av.enc) 3 0=x.enc:=fl (x::T) (Zk _);have fs:=ri (λ_=>vB true) x S;simp only[ai,hpe,he,q1,fu,fs];refine⟨λ_=>?_,λh=>J3 (show(0:Int)<((x::T).length:Int) by grind) h⟩;have hlt:0<(x::T).length:=Zk _;refine⟨⟨Q0,Q0⟩,⟨Q0,Q0,Q0,Q0⟩,?_⟩;by_cases hx:x∈S
       .rw[J2 hx];simp only[ai,UJ,SJ]
        have h7:=hn5 (S,T) (by show mu p S T<mu p S (x::T);rw[Ho];omega) ⟨by
         show iE p (mu p S T) S T=_;rw[Ho,iE,J2 hx]at hI
         exact hI,by show mu p S T<=_;rw[Ho]at hmS;omega⟩
        rw[DC];exact h7
       .rw[J1 hx];have emu:=mu_new hnd T hx;simp only[ai,YP,Tq];rw[DC];have hbd:(T++aR p x).length<=mu p (S++[x]) (T++aR p x):=by unfold mu;omega
        have h7:=hn5 (S++[x],T++aR p x) (by grind) ⟨by
         show iE p (mu p (S++[x]) (T++aR p x)) (S++[x]) (T++aR p x)=_;rw[emu,iE,J1 hx]at hI
         exact hI,by grind⟩
        have e1:dc 4 x.aH x.seq x.index [vB true] S.length (S.flatMap (mE λ_=>vB true))=(S++[x]).flatMap (mE λ_=>vB true):=AQ (λ_=>vB true) x S hx;have e4:S.length+1=(S++[x]).length:=by simp_all
        rw[E0 _ _ _ hx,e1,e4];refine⟨λh0=>?_,λh0=>⟨by grind [aL,RS,RU],?_⟩⟩
        .have hz:aR p x=[]:=Sq h0;rw[hz,RW]at h7;exact h7
        .have e6:dI (T++aR p x)=D.sl ((x::T).length-1+(aR p x).length) 3 (T.flatMap av.enc++(aR p x).flatMap av.enc):=by rw[<-dI_app];rfl
         simp only[e6]at h7;exact h7
     .have hfd:((bA 4 d.id.aH d.id.seq d.id.index (zO p d.id).length ((zO p d.id).flatMap (mE λ_=>vB true))).getD [vB false])=[vB (decide (d.id∈zO p d.id))]:=by
       rw[ri];by_cases hi:d.id∈zO p d.id
       .rw[J2 hi,J5 hi];rfl
       .rw[J1 hi,J6 hi];rfl
      simp only[ai,hpe,s0,q1,hfd];refine⟨λhi=>?_,λhi=>?_⟩
      .rw[J2 hi]at h3';refine ab (pj 13 14 d.id _ _ l4 Q0) ?_;simp only[ai];exact⟨Q4,h3'⟩
      .rw[J1 hi,RW]at h3';exact⟨Q4,h3'⟩
   .obtain rfl:k=p.aa.length:=Q0;rw[Sl];rfl
 deriving instance DecidableEq for dJ
theorem FL(xs:List dJ){k:Nat}(hk:k<xs.length):el (xs.flatMap dJ.enc) 6 k=xs[k].enc:=dq dJ.aP xs hk
theorem cfs_set(R:List dJ){i:Nat}(hi:i<R.length)(x:dJ):cB (R.flatMap dJ.enc) (i*6+0) x.enc=(R.set i x).flatMap dJ.enc:=by rw[S2,od dJ.aP R hi]
theorem dCf_cut{R:List dJ}{i:Nat}(hi:i<=R.length)(z:List D):D.sl i 6 (sub (cB (R.flatMap dJ.enc) ((0+i)*6) z) (0*6) (i*6))=gu (R.take i):=by
 unfold gu;rw[Sn,Tf hi]
 congr 1
 unfold sub cB;rw[Sz,Nat.zero_mul,Te,lh dJ.aP];have hl:((R.take i).flatMap dJ.enc).length=i*6:=by
  have key:∀T:List dJ,(T.flatMap dJ.enc).length=T.length*6:=λT=>by
   induction T with
   |nil=>rfl
   |cons y T ih=>rw[RT,RS,ih,dJ.aP,RU];omega
  grind
 grind
theorem QF(a b:dJ):IS s59 [a.enc,b.enc] [[vB (decide (a=b))]]:=by refine w59.is ?_;unfold g59;have e1:∀c:dJ,sub c.enc 1 3=c.on.enc/\cell c.enc 4=vI c.kind/\cell c.enc 0=vI c.code:=λc=>⟨rfl,rfl,rfl⟩;simp only[ai,aF,e1];obtain⟨c1,i1,k1⟩:=a;obtain⟨c2,i2,k2⟩:=b;simp_all
def fZ:List dJ->List dJ
 |[]=>[]
 |[x]=>[x]
 |x::y::l=>if x=y then fZ (y::l) else x::fZ (y::l)
theorem wG(x y:dJ)(l:List dJ):fZ (x::y::l)=if x=y then fZ (y::l) else x::fZ (y::l):=by rw[fZ]
theorem FO(x:dJ):fZ [x]=[x]:=rfl
theorem Bl(y:dJ):∀{l:List dJ} (x:dJ),fZ (l++[x]++[y])=if x=y then fZ (l++[x]) else fZ (l++[x])++[y]
 |[],x=>by
  simp only[Sv,SA,wG,FO]
  grind
 |[a],x=>by
  simp only[Sv,SA,wG,FO]
  grind
 |a::b::l,x=>by
  have h:=Bl y (l:=b::l) x
  grind [wG]
theorem Bk{l:List dJ}{k:Nat}(h1:1<=k)(hk:k<l.length):fZ (l.take (k+1))=if l[k-1]'Q0=l[k]then fZ (l.take k) else fZ (l.take k)++[l[k]]:=by
 have e:l.take k=l.take (k-1)++[l[k-1]'Q0]:=by simp_all
 grind [RJ,Bl]
theorem FX(l:List dJ)(hl:l.length<=1000000000000):IS Jh [[gu l]] [[gu (fZ l)]]:=by
 refine w58_1.isG ?_;unfold g58_1;simp only[ai];refine⟨λh=>?_,λh=>?_⟩
 .match l,h with
  |[],_=>rfl
  |[x],_=>rfl
  |_::_::l,h=>simp at h;omega
 .refine cY (σ:=Nat) (λk=>[[vI (k:Int)],[gu l]]) (λk=>l.length-k) (λk=>1<=k/\k<=l.length/\fZ (l.take k)=l.take k) 1 ⟨Sc _,Q0,by
   match l,h with
   |[],_=>rfl
   |[x],_=>rfl
   |x::_::l,_=>rfl⟩ rfl ?_
  rintro k next ⟨h1,h2,h3⟩ hn
  simp only[ai];refine⟨λh=>?_,λh=>?_⟩
  .have hk:k<l.length:=Q0;have ek:((k:Int)-1).toNat=k-1:=Q0;have hst:=Bk h1 hk;rw[ek,FL _ hk,FL _ (show k-1<l.length by omega)];refine⟨Q0,Q4,Q0,ab (QF _ _) ?_⟩;simp only[ai];refine⟨λe=>⟨Q0,?_⟩,λe=>⟨Q4,?_⟩⟩
   .rw[J2 e.symm]at hst;refine cY (σ:=Nat×List dJ) (λs=>[[vI ((fZ (l.take (k+s.1))).length:Int)],[vI (k:Int),vI ((l.length-k:Nat):Int)],[vI (s.1:Int)],[gu s.2]]) (λs=>l.length-s.1)
     (λs=>1<=s.1/\k+s.1<=l.length/\s.2.length=l.length/\s.2.take (fZ (l.take (k+s.1))).length=fZ (l.take (k+s.1))/\s.2.drop (k+s.1-1)=l.drop (k+s.1-1)/\(fZ (l.take (k+s.1))).length<=k+s.1-1) (1,l) ⟨Sc _,hk,rfl,by grind,rfl,by grind⟩ (by
      show _=[[vI ((fZ (l.take (k+1))).length:Int)],[vI (k:Int),vI ((l.length-k:Nat):Int)],[vI ((1:Nat):Int)],[gu l]]
      rw[hst,h3,Sn,Tf Q0,Sz];rfl) ?_
    rintro⟨j,R⟩ next ⟨q1,q2,q3,q4,q5,q6⟩ hn
    dsimp only at q1 q2 q3 q4 q5 q6 hn ⊢;simp only[ai];refine⟨λh=>?_,λh=>?_⟩
    .have hj:k+j<l.length:=Q0;have ej:((j:Int)-1).toNat=j-1:=Q0;have hR1:R[k+j]'Q0=l[k+j]:=by
      have h6:(R.drop (k+j-1))[1]'Qc=(l.drop (k+j-1))[1]'Qc:=by grind
      simpa[show k+j-1+1=k+j by omega]using h6
     have hR2:R[k+j-1]'Q0=l[k+j-1]:=by
      have h6:(R.drop (k+j-1))[0]'Qc=(l.drop (k+j-1))[0]'Qc:=by grind
      simpa using h6
     have hst:=Bk (l:=l) (k:=k+j) Q0 hj;refine ij ?_;rw[ej,FL _ (show k+j<R.length by omega),show k+(j-1)=k+j-1 by omega,FL _ (show k+j-1<R.length by omega),hR1,hR2];have hd:R.drop (k+(j+1)-1)=l.drop (k+(j+1)-1):=by have:=J4 (TG 1) q5;rwa [TR,TR,show k+j-1+1=k+(j+1)-1 by omega]at this
     refine⟨Q0,Q4,Q0,ab (QF _ _) ?_⟩;simp only[ai,aF];refine⟨λe2=>?_,λe2=>?_⟩
     .rw[J2 e2.symm]at hst;have:=hn (j+1,R) Q0 ⟨Q0,Q0,q3,by grind,hd,by dsimp only;rw[<-S8,hst];omega⟩
      grind [S8,aZ]
     .rw[J1 (λe3=>e2 e3.symm)]at hst;rw[cfs_set R Q0]
      have:=hn (j+1,R.set (fZ (l.take (k+j))).length l[k+j]) Q0 ⟨Q0,Q0,by grind,by
       dsimp only;rw[<-S8,hst,RS,UE];rw[RJ (by grind),List.take_set_of_le (Sc _),q4]
       simp,by dsimp only;rw[List.drop_set_of_lt Q0];exact hd,by dsimp only;rw[<-S8,hst];simp;omega⟩
      dsimp only at this;rw[<-S8,hst,RS,UE]at this;simp only[gu,TF]at this ⊢;exact⟨Q0,Q0,Q4,Q4,this⟩
    .have ej:k+j=l.length:=Q0;rw[ej,Sl]at q4 q6 ⊢;have hc:=dCf_cut (R:=R) (i:=(fZ l).length) Q0 ((Sj (R.length-(fZ l).length) [vI 0,vI 0,vI 0,vI 0,vI 0,.sl 0 3 []]).flatten);rw[q4]at hc;refine⟨Q0,⟨trivial,Q0,Q0⟩,Q0,?_⟩;rw[<-hc]
   .rw[J1 (λe2=>e e2.symm)]at hst;exact hn (k+1) Q0 ⟨Q0,hk,by simp_all⟩
  all_goals grind
def Hv(a b:dJ):Bool:=iV a.on b.on || decide (a.on=b.on) && (decide (a.kind<b.kind) || decide (a.kind=b.kind) && decide (a.code<b.code))
def gf(l:List dJ):List dJ:=l.mergeSort λx y=>!Hv y x
def cv(p:au)(ss:List aC):List dJ:=ss.flatMap λs=>if cd p s.ty then[] else[⟨14,s.id,9⟩]
def tc(wd:ByteArray->Bool)(p:au)(d:an):List dJ :=
 cv p d.ah++eo wd (d.ah.map aC.id) (d.ah.map aC.name) (d.ah.map aC.name).length++if dR d.kind then(if cd p d.aq then[] else[⟨14,d.id,10⟩])++dS wd p d.body (gz d) else[]
def vM(wd:ByteArray->Bool)(p:au)(m:aO):List dJ:=eo wd m.aa (m.aa.map λi=>(al p i).name) (m.aa.map λi=>(al p i).name).length
def EU(wd:ByteArray->Bool)(p:au):List dJ:=eo wd (p.aw.map aO.id) (p.aw.map aO.name) (p.aw.map aO.name).length
def dY(wd:ByteArray->Bool)(p:au):List dJ:=EU wd p++p.aw.flatMap (vM wd p)++p.aa.flatMap (tc wd p)++wW p
structure Iv(wd:ByteArray->Bool)(p:au):Prop where
 I2:BM p
 nd:(gS p).Nodup
 nm:(p.aw.map aO.id).Nodup
 ml:p.aw.length<=1000
 mlen:∀m∈p.aw,m.cZ.length<=1000/\m.aa.length<=1000
 sl:∀d∈p.aa,d.ah.length<=1000/\d.body.wt<=100000
 hU:∀i,mu p [] (aR p i)<=1000000000
 yB:∀i,(aR p i).length<=100000
 wm:∀m∈p.aw,IS qQ [[bM m.name]] [[vB (wd m.name)]]
 wdef:∀m∈p.aw,∀i∈m.aa,IS qQ [[bM (al p i).name]] [[vB (wd (al p i).name)]]
 ws:∀d∈p.aa,∀s∈d.ah,IS qQ [[bM s.name]] [[vB (wd s.name)]]
 wn:∀d∈p.aa,dR d.kind=true->∀x∈bV d.body,∀b∈x.aJ,IS qQ [[bM b]] [[vB (wd b)]]
theorem o4{α:Type}(f:α->List dJ)(n:Nat):∀l:List α,(∀x∈l,(f x).length<=n)->(l.flatMap f).length<=l.length*n
 |[],_=>by simp
 |x::l,h=>by have h1:=h x (RG ..);have h2:=o4 f n l λy hy=>h y (RM _ hy);rw[RT,RS,RU,SK];omega
theorem xj(p:au)(ss:List aC):(cv p ss).length<=ss.length:=by
 have:=o4 (λs:aC=>if cd p s.ty then[] else[⟨14,s.id,9⟩]) 1 ss λs _=>by grind
 rw[UG]at this;exact this
theorem Er{wd:ByteArray->Bool}(C:gL)(hS:uN)(hcat:∀a b:List eP,a.length+b.length<=100000000000->IS Lt [[.sl 2 1 [dV a,dV b]]] [[dV (a++b)]])
  (hsort:∀l:List dJ,l.length<=10000000000->IS Ji [[gu l]] [[gu (gf l)]]) {p:au} (hf:IS s44 [p.enc] [[.sl 0 6 []]]) (H:Iv wd p):IS s12 [p.enc] [[gu (fZ (gf (dY wd p)))]]:=by
 have hpe:[cell p.enc 0,cell p.enc 1]=p.enc:=rfl;have p0:cell p.enc 0=.sl p.aw.length 6 (p.aw.flatMap aO.enc):=rfl;have p1:cell p.enc 1=.sl p.aa.length 31 (p.aa.flatMap an.enc):=rfl;have hdl:=H.I2.d;have hml:=H.ml;refine w12.is ?_;unfold g12;refine ab hf ?_;simp only[ai];refine⟨λh=>J3 h Q1,λ_=>?_⟩;rw[p0];refine bB [p.enc,p.enc,[dI (p.aw.map aO.id)],[kg (p.aw.map aO.name)],[gu []]] ?_ ?_
 .simp only[ai];refine bc p.aw.length (λk=>[[.sl p.aw.length 6 (p.aw.flatMap aO.enc)],[vI (p.aw.length:Int)],[vI (k:Int)],p.enc,p.enc,[dI ((p.aw.take k).map aO.id)],[kg ((p.aw.take k).map aO.name)],[gu []]]) (λ_=>True) trivial Q3 λk next hi _ hn=>?_
  have l1:((p.aw.take k).map aO.id).length=k:=by grind
  have l2:((p.aw.take k).map aO.name).length=k:=by grind
  simp only[ai];refine⟨λh=>?_,λh=>?_⟩
  .have hk:k<p.aw.length:=Q0;have h3:=hn hk trivial;rw[RJ hk,Si,Si,Sb,Sb,Tr,Tr,<-kh]at h3;rw[Bg _ hk];have s0:sub (p.aw[k]).enc 0 3=(p.aw[k]).id.enc:=rfl;have s1:cell (p.aw[k]).enc 3=bM (p.aw[k]).name:=rfl;rw[s0,s1];refine⟨Q0,Qa,Qa,Q4,?_⟩;have e:kg ((p.aw.take k).map aO.name++[(p.aw[k]).name])=D.sl (((p.aw.take k).map aO.name).length+1) 1 (((p.aw.take k).map aO.name).map bM++[bM (p.aw[k]).name]):=by simp_all
   rw[e]at h3;exact h3
  .obtain rfl:k=p.aw.length:=Q0;rw[Sl];rfl
 .simp only[ai];have lm1:(p.aw.map aO.name).length=p.aw.length:=Sa ..;have nl:=ji wd (p.aw.map aO.id) (p.aw.map aO.name) (p.aw.map aO.name).length;refine ab (uh (λb hb=>by obtain⟨m,hm,rfl⟩:=R3.1 hb;exact H.wm m hm) (p.aw.map aO.id) (by grind) Q0 _ _ [] Q2) ?_;rw[Sv];have e1:eo wd (p.aw.map aO.id) (p.aw.map aO.name) (p.aw.map aO.name).length=EU wd p:=rfl;rw[e1]at nl ⊢;simp only[ai,p0];have hl0:(EU wd p).length<=1000:=Q0;generalize hc0:EU wd p=c0 at hl0 ⊢;refine bc p.aw.length (λk=>[[.sl p.aw.length 6 (p.aw.flatMap aO.enc)],[vI (p.aw.length:Int)],[vI (k:Int)],p.enc,p.enc,[gu (c0++(p.aw.take k).flatMap (vM wd p))]]) (λ_=>True) trivial (by grind) λk next hi _ hn=>?_
  have hmf:∀m∈p.aw,(vM wd p m).length<=1000:=λm hm=>by
   have:=ji wd m.aa (m.aa.map λi=>(al p i).name) (m.aa.map λi=>(al p i).name).length;have h2:=(H.mlen m hm).2
   grind [al,Sa,vM]
  have hl1:=o4 (vM wd p) 1000 (p.aw.take k) λm hm=>hmf m ((Zb _ _) hm);have hkl:(p.aw.take k).length<=1000:=by grind
  have hl2:(c0++(p.aw.take k).flatMap (vM wd p)).length<=1001000:=by
   grind
  simp only[ai,hpe];refine⟨λh=>?_,λh=>?_⟩
  .have hk:k<p.aw.length:=Q0;have hmm:=RQ hk;have h3:=hn hk trivial;have hw:=H.wdef _ hmm;have hlm:=(H.mlen _ hmm).2;rw[RJ hk,Sd,RT,Sw,RW,<-R9]at h3;rw[Bg _ hk];generalize p.aw[k]=m at h3 hw hlm ⊢;have s5:cell m.enc 5=dI m.aa:=rfl;rw[s5];refine⟨Q0,?_⟩;generalize c0++(p.aw.take k).flatMap (vM wd p)=c1 at hl2 h3 ⊢;refine bB [[.sl p.aw.length 6 (p.aw.flatMap aO.enc)],[vI (p.aw.length:Int)],[vI (k:Int)],p.enc,p.enc,m.enc,[kg (m.aa.map λi=>(al p i).name)],[gu c1]] ?_ ?_
   .simp only[ai];refine bc m.aa.length (λj=>[[.sl p.aw.length 6 (p.aw.flatMap aO.enc)],[vI (p.aw.length:Int)],[vI (k:Int)],[dI m.aa],[vI (m.aa.length:Int)],[vI (j:Int)],p.enc,p.enc,m.enc,[kg ((m.aa.take j).map λi=>(al p i).name)],[gu c1]]) (λ_=>True) trivial Q3 λj lO hj _ hn2=>?_;have hlj:((m.aa.take j).map λi=>(al p i).name).length=j:=by grind
    simp only[ai,hpe];refine⟨λh5=>?_,λh5=>?_⟩
    .have hj2:j<m.aa.length:=Q0;have h6:=hn2 hj2 trivial;rw[RJ hj2,Si,Sb,Tr]at h6;rw[fl _ hj2];refine⟨Q0,ab (pZ p _ Q0) ?_⟩;have s7:∀d:an,cell d.enc 7=bM d.name:=λd=>rfl;simp only[ai,s7];refine⟨Qa,Q4,?_⟩;have e:kg ((m.aa.take j).map (λi=>(al p i).name)++[(al p m.aa[j]).name])=D.sl (((m.aa.take j).map λi=>(al p i).name).length+1) 1 (((m.aa.take j).map λi=>(al p i).name).map bM++[bM (al p m.aa[j]).name]):=by simp_all
     rw[e]at h6;exact h6
    .obtain rfl:j=m.aa.length:=Q0;rw[Sl]
   .simp only[ai,hpe,s5];refine ab (uh (λb hb=>by obtain⟨i,hi,rfl⟩:=R3.1 hb;exact hw i hi) m.aa (by grind) (by grind) _ _ c1 Q0) ?_;simp only[ai];exact⟨Q4,h3⟩
  .obtain rfl:k=p.aw.length:=Q0;rw[Sl]at hl2 ⊢;simp only[ai,p1];generalize hc2:c0++p.aw.flatMap (vM wd p)=c2 at hl2 ⊢;clear hn hl1 hkl;refine bc p.aa.length (λk=>[[.sl p.aa.length 31 (p.aa.flatMap an.enc)],[vI (p.aa.length:Int)],[vI (k:Int)],p.enc,p.enc,[gu (c2++(p.aa.take k).flatMap (tc wd p))]]) (λ_=>True) trivial (by grind) λk JJ hi3 _ hn3=>?_;have hdf:∀d∈p.aa,(tc wd p d).length<=400000:=λd hd=>by
    have h1:=H.sl d hd;have h2:=xj p d.ah;have h3:=ji wd (d.ah.map aC.id) (d.ah.map aC.name) (d.ah.map aC.name).length;have h4:(d.ah.map aC.name).length=d.ah.length:=Sa ..;have h5:=zg wd p d.body (gz d);unfold tc;rw[RS,RS];split
    .rw[RS];have h6:(if cd p d.aq then[] else[⟨14,d.id,10⟩]:List dJ).length<=1:=by split <;> simp
     omega
    all_goals grind
   have hl1:=o4 (tc wd p) 400000 (p.aa.take k) λd hd=>hdf d ((Zb _ _) hd);have hkl:(p.aa.take k).length<=1000:=by grind
   have hl3:(c2++(p.aa.take k).flatMap (tc wd p)).length<=500000000:=by
    grind
   simp only[ai,hpe];refine⟨λh=>?_,λh=>?_⟩
   .have hk:k<p.aa.length:=Q0;have hdm:=RQ hk;have h3:=hn3 hk trivial;have hsl:=H.sl _ hdm;have hws:=H.ws _ hdm;have hwn:=H.wn _ hdm;rw[RJ hk,Sd,RT,Sw,RW,<-R9]at h3;rw[gE _ hk];generalize p.aa[k]=d at h3 hsl hws hwn ⊢;generalize c2++(p.aa.take k).flatMap (tc wd p)=c3 at hl3 h3 ⊢;have d8:cell d.enc 8=.sl d.ah.length 11 (d.ah.flatMap aC.enc):=rfl;have d9:sub d.enc 9 5=d.aq.enc:=by rw[Ty.aD];rfl
    have d0:sub d.enc 0 3=d.id.enc:=rfl;have hst:∀j,(c3++cv p (d.ah.take j)).length<=500001000:=λj=>by have h1:=xj p (d.ah.take j);rw[RS];rw[Sn]at h1;omega
    simp only[d8];refine⟨Q0,?_⟩;refine bB [[.sl p.aa.length 31 (p.aa.flatMap an.enc)],[vI (p.aa.length:Int)],[vI (k:Int)],p.enc,p.enc,d.enc,[dI (d.ah.map aC.id)],[kg (d.ah.map aC.name)],[gu (c3++cv p d.ah)]] ?_ ?_
    .simp only[ai];refine bc d.ah.length (λj=>[[.sl p.aa.length 31 (p.aa.flatMap an.enc)],[vI (p.aa.length:Int)],[vI (k:Int)],[.sl d.ah.length 11 (d.ah.flatMap aC.enc)],[vI (d.ah.length:Int)],[vI (j:Int)],p.enc,p.enc,d.enc,[dI ((d.ah.take j).map aC.id)],[kg ((d.ah.take j).map aC.name)],[gu (c3++cv p (d.ah.take j))]]) (λ_=>True) trivial (by rw[TB];unfold cv;rw[Sw,RW];rfl) λj next4 hj _ hn4=>?_;have l1:((d.ah.take j).map aC.id).length=j:=by simp_all
     have l2:((d.ah.take j).map aC.name).length=j:=by grind
     have hst2:=hst j;simp only[ai,hpe];refine⟨λh5=>?_,λh5=>?_⟩
     .have hj2:j<d.ah.length:=Q0;have h6:=hn4 hj2 trivial;have esl:cv p (d.ah.take (j+1))=cv p (d.ah.take j)++if cd p d.ah[j].ty then[] else[⟨14,d.ah[j].id,9⟩]:=by unfold cv;rw[RJ hj2,Sd,RT,Sw,RW]
      rw[esl,<-R9,RJ hj2,Si,Si,Sb,Sb,Tr,Tr,<-kh]at h6;have e:kg ((d.ah.take j).map aC.name++[(d.ah[j]).name])=D.sl (((d.ah.take j).map aC.name).length+1) 1 (((d.ah.take j).map aC.name).map bM++[bM (d.ah[j]).name]):=by simp_all
      rw[e]at h6;rw[mN _ hj2];generalize d.ah[j]=x at h6 ⊢;have x0:sub x.enc 0 3=x.id.enc:=rfl;have x3:cell x.enc 3=bM x.name:=rfl;have x4:sub x.enc 4 5=x.ty.enc:=by rw[Ty.aD];rfl
      simp only[x0,x3,x4];refine⟨Q0,Qa,Qa,ab (tw Q0 x.ty) ?_⟩;by_cases hv:cd p x.ty
      .rw[J2 hv,RW (c3++cv p (d.ah.take j))]at h6;rw[J5 hv];simp only[ai,SJ];exact⟨Q4,h6⟩
      .rw[J1 hv]at h6;rw[J6 hv];simp only[ai,Tq];refine ab (pj 14 9 x.id _ _ _ Q0) ?_;simp only[ai];exact⟨Q4,h6⟩
     .obtain rfl:j=d.ah.length:=Q0;rw[Sl]
    .have hst3:=hst d.ah.length;rw[Sl]at hst3;simp only[ai,hpe,d0,d9];have ll:(d.ah.map aC.name).length=d.ah.length:=Sa ..;have nl:=ji wd (d.ah.map aC.id) (d.ah.map aC.name) (d.ah.map aC.name).length;refine ab (uh (λb hb=>by obtain⟨x,hx,rfl⟩:=R3.1 hb;exact hws x hx) (d.ah.map aC.id) (by grind) Q0 _ _ _ Q0) ?_;simp only[ai];refine ab (ze d) ?_;have eb:decide (iR d.kind)=dR d.kind:=rfl;rw[eb];unfold tc at h3;rw[<-R9,<-R9]at h3;have hl5:(c3++cv p d.ah++eo wd (d.ah.map aC.id) (d.ah.map aC.name) (d.ah.map aC.name).length).length<=500003000:=by grind
     generalize c3++cv p d.ah++eo wd (d.ah.map aC.id) (d.ah.map aC.name) (d.ah.map aC.name).length=c4 at hl5 h3 ⊢;cases hB:dR d.kind with
     |false=>rw[hB]at h3;simp only[VO,if_false,RW]at h3;simp only[ai];exact⟨Q4,h3⟩
     |true =>
      rw[hB]at h3;simp only[if_true,<-R9]at h3;simp only[ai];have hl6:(c4++if cd p d.aq then[] else[⟨14,d.id,10⟩]:List dJ).length<=500004000:=by
       rw[RS];have h6:(if cd p d.aq then[] else[⟨14,d.id,10⟩]:List dJ).length<=1:=by split <;> simp
       omega
      refine bB [[.sl p.aa.length 31 (p.aa.flatMap an.enc)],[vI (p.aa.length:Int)],[vI (k:Int)],p.enc,p.enc,d.enc,[gu (c4++if cd p d.aq then[] else[⟨14,d.id,10⟩])]] ?_ ?_
      .refine ab (tw Q0 d.aq) ?_;by_cases hv:cd p d.aq
       .rw[J2 hv,RW,J5 hv];simp only[ai,SJ];rfl
       .rw[J1 hv,J6 hv];simp only[ai,Tq];refine ab (pj 14 10 d.id _ _ _ Q0) ?_;simp only[ai];rfl
      .simp only[ai,hpe];generalize(c4++if cd p d.aq then[] else[⟨14,d.id,10⟩]:List dJ)=c5 at hl6 h3 ⊢;refine ab (body_is hcat Q0 (λi=>?_) d Q0 Q0 (hwn hB) c5 Q0) ?_
       .rcases mX p i with e|e
        .rw[e];exact Sy _
        .have:=(H.sl _ e).1;omega
       .simp only[ai,hpe];exact⟨Q4,h3⟩
   .obtain rfl:k=p.aa.length:=Q0;rw[Sl]at hl3 ⊢;refine ab (ND C hS H.I2 H.nd H.nm H.ml (λm hm=>(H.mlen m hm).1) H.hU H.yB _ Q0) ?_;have epr:c2++p.aa.flatMap (tc wd p)++wW p=dY wd p:=by rw[<-hc2,<-hc0];rfl
    rw[epr];simp only[ai];have hul2:(wW p).length<=200000000:=by
     have h5:=o4 (kK p) 200000 p.aa λd hd=>by
      have:=AI p d;have:=H.yB d.id;unfold kK;rw[RS];have h1:(if d.id∈zO p d.id then[⟨13,d.id,14⟩] else[]:List dJ).length<=1:=by split <;> simp
      omega
     grind [SI,wW]
    have hpl:(dY wd p).length<=10000000000:=by grind
    refine ab (hsort _ hpl) ?_;simp only[ai];have hsl:(gf (dY wd p)).length=(dY wd p).length:=by unfold gf;exact Ym ..
    refine ab (FX _ Q0) ?_;simp only[ai]
open Go.Shelf Go.RowKit Go.Lib Go.Sort
def DM:UN:=⟨fun|6=>178|15=>157|14=>225|28=>209|29=>210|20=>223|21=>250|22=>251|23=>252|24=>253|25=>254|26=>255|27=>256|46=>264|47=>239|48=>240|49=>265|50=>266|57=>268|n=>n,fun|22=>65|24=>70|25=>145|3=>3|39=>207|0=>0|53=>256|55=>258|4=>4|46=>249|45=>248|50=>253|5=>5|9=>9|66=>279|70=>283|76=>293|77=>183|n=>n,fun|n=>n⟩
theorem I0:UQ RH DM:={
 mixed:=by kernel_rfl
 f6:=⟨Tryz.f178.name,Q1,Tryz.func178.trans (J4 some (by kernel_rfl))⟩
 f14:=⟨Tryz.f225.name,Q1,Tryz.func225.trans (J4 some (by kernel_rfl))⟩
 f15:=WJ.trans (J4 some (by kernel_rfl))
 f20:=⟨Tryz.f223.name,Q1,Tryz.func223.trans (J4 some (by kernel_rfl))⟩
 f21:=⟨Tryz.f250.name,Q1,Tryz.func250.trans (J4 some (by kernel_rfl))⟩
 f22:=⟨Tryz.f251.name,Q1,Tryz.func251.trans (J4 some (by kernel_rfl))⟩
 f23:=⟨Tryz.f252.name,Q1,Tryz.func252.trans (J4 some (by kernel_rfl))⟩
 f24:=⟨Tryz.f253.name,Q1,Tryz.func253.trans (J4 some (by kernel_rfl))⟩
 f25:=⟨Tryz.f254.name,Q1,Tryz.func254.trans (J4 some (by kernel_rfl))⟩
 f26:=⟨Tryz.f255.name,Q1,Tryz.func255.trans (J4 some (by kernel_rfl))⟩
 f27:=⟨Tryz.f256.name,Q1,Tryz.func256.trans (J4 some (by kernel_rfl))⟩
 f28:=WK.trans (J4 some (by kernel_rfl))
 f29:=WL.trans (J4 some (by kernel_rfl))
 f46:=⟨Tryz.f264.name,Q1,Tryz.func264.trans (J4 some (by kernel_rfl))⟩
 f47:=WM.trans (J4 some (by kernel_rfl))
 f48:=WN.trans (J4 some (by kernel_rfl))
 f49:=⟨Tryz.f265.name,Q1,Tryz.func265.trans (J4 some (by kernel_rfl))⟩
 f50:=⟨Tryz.f266.name,Q1,Tryz.func266.trans (J4 some (by kernel_rfl))⟩
 f57:=⟨Tryz.f268.name,Q1,Tryz.func268.trans (J4 some (by kernel_rfl))⟩
 t0:=VJ
 a0:=WU
 z0:=WO
 v0:=VS
 t3:=Ta
 a3:=Uf
 z3:=T0
 v3:=TT
 t4:=Tc
 a4:=TH
 z4:=Tv
 v4:=Tj
 t5:=VK
 a5:=WV
 z5:=WQ
 v5:=VT
 t9:=VL
 a9:=WW
 z9:=U5
 v9:=VU
 t22:=Tp
 a22:=Tryz.isAgg65
 z22:=Tryz.sizeOf65
 v22:=Tryz.zeroValue65
 t25:=Tryz.underlying145
 a25:=Tryz.isAgg145
 z25:=Tryz.sizeOf145
 v25:=Tryz.zeroValue145
 t39:=Vi
 a39:=Wt
 z39:=Wf
 v39:=Vv
 t45:=Vj
 a45:=Wu
 z45:=Wg
 v45:=Vw
 t46:=Vk
 a46:=Wv
 z46:=Wh
 v46:=Vx
 t50:=Vl
 a50:=Ww
 z50:=Wi
 v50:=Vy
 t53:=Vm
 a53:=Wx
 z53:=Wj
 v53:=Vz
 t55:=Vn
 a55:=Wy
 z55:=Wl
 v55:=VA
 t66:=Vo
 a66:=Wz
 z66:=Wm
 v66:=VB
 t70:=Vp
 a70:=WA
 z70:=Wn
 v70:=VC
 t76:=Vq
 a76:=WB
 z76:=Wo
 v76:=VD
 t77:=Vr
 a77:=WC
 z77:=Wp
 v77:=VE}
def DO:UN:=⟨fun|6=>52|15=>157|14=>156|28=>209|29=>210|20=>201|21=>202|22=>203|23=>204|24=>205|25=>206|26=>207|27=>208|46=>238|47=>239|48=>240|49=>241|50=>242|57=>261|n=>n,fun|22=>30|24=>57|25=>116|3=>3|39=>207|0=>0|53=>256|55=>258|4=>4|46=>249|45=>248|50=>253|5=>5|9=>9|66=>279|70=>283|76=>293|77=>183|n=>n,fun|n=>n⟩
theorem sortCfL:UQ RH DO:={
 mixed:=by kernel_rfl
 f6:=⟨Tryz.f52.name,Q1,Tryz.func52.trans (J4 some (by kernel_rfl))⟩
 f14:=⟨Tryz.f156.name,Q1,Tryz.func156.trans (J4 some (by kernel_rfl))⟩
 f15:=WJ.trans (J4 some (by kernel_rfl))
 f20:=⟨Tryz.f201.name,Q1,Tryz.func201.trans (J4 some (by kernel_rfl))⟩
 f21:=⟨Tryz.f202.name,Q1,Tryz.func202.trans (J4 some (by kernel_rfl))⟩
 f22:=⟨Tryz.f203.name,Q1,Tryz.func203.trans (J4 some (by kernel_rfl))⟩
 f23:=⟨Tryz.f204.name,Q1,Tryz.func204.trans (J4 some (by kernel_rfl))⟩
 f24:=⟨Tryz.f205.name,Q1,Tryz.func205.trans (J4 some (by kernel_rfl))⟩
 f25:=⟨Tryz.f206.name,Q1,Tryz.func206.trans (J4 some (by kernel_rfl))⟩
 f26:=⟨Tryz.f207.name,Q1,Tryz.func207.trans (J4 some (by kernel_rfl))⟩
 f27:=⟨Tryz.f208.name,Q1,Tryz.func208.trans (J4 some (by kernel_rfl))⟩
 f28:=WK.trans (J4 some (by kernel_rfl))
 f29:=WL.trans (J4 some (by kernel_rfl))
 f46:=⟨Tryz.f238.name,Q1,Tryz.func238.trans (J4 some (by kernel_rfl))⟩
 f47:=WM.trans (J4 some (by kernel_rfl))
 f48:=WN.trans (J4 some (by kernel_rfl))
 f49:=⟨Tryz.f241.name,Q1,Tryz.func241.trans (J4 some (by kernel_rfl))⟩
 f50:=⟨Tryz.f242.name,Q1,Tryz.func242.trans (J4 some (by kernel_rfl))⟩
 f57:=⟨Tryz.f261.name,Q1,Tryz.func261.trans (J4 some (by kernel_rfl))⟩
 t0:=VJ
 a0:=WU
 z0:=WO
 v0:=VS
 t3:=Ta
 a3:=Uf
 z3:=T0
 v3:=TT
 t4:=Tc
 a4:=TH
 z4:=Tv
 v4:=Tj
 t5:=VK
 a5:=WV
 z5:=WQ
 v5:=VT
 t9:=VL
 a9:=WW
 z9:=U5
 v9:=VU
 t22:=Tryz.underlying30
 a22:=Tryz.isAgg30
 z22:=Tryz.sizeOf30
 v22:=Tryz.zeroValue30
 t25:=Tryz.underlying116
 a25:=Tryz.isAgg116
 z25:=Tryz.sizeOf116
 v25:=Tryz.zeroValue116
 t39:=Vi
 a39:=Wt
 z39:=Wf
 v39:=Vv
 t45:=Vj
 a45:=Wu
 z45:=Wg
 v45:=Vw
 t46:=Vk
 a46:=Wv
 z46:=Wh
 v46:=Vx
 t50:=Vl
 a50:=Ww
 z50:=Wi
 v50:=Vy
 t53:=Vm
 a53:=Wx
 z53:=Wj
 v53:=Vz
 t55:=Vn
 a55:=Wy
 z55:=Wl
 v55:=VA
 t66:=Vo
 a66:=Wz
 z66:=Wm
 v66:=VB
 t70:=Vp
 a70:=WA
 z70:=Wn
 v70:=VC
 t76:=Vq
 a76:=WB
 z76:=Wo
 v76:=VD
 t77:=Vr
 a77:=WC
 z77:=Wp
 v77:=VE}
def Nf:UN:=⟨fun|5=>57|7=>159|n=>n,fun|22=>55|3=>3|4=>4|n=>n,fun|n=>n⟩
theorem cmpEL:Yk RH Nf:={
 mixed:=by kernel_rfl
 f5:=⟨Tryz.f57.name,Q1,Tryz.func57.trans (J4 some (by kernel_rfl))⟩
 f7:=⟨Tryz.f159.name,Q1,Tryz.func159.trans (J4 some (by kernel_rfl))⟩
 t3:=Ta
 a3:=Uf
 z3:=T0
 v3:=TT
 t4:=Tc
 a4:=TH
 z4:=Tv
 v4:=Tj
 t22:=Tryz.underlying55
 a22:=Tryz.isAgg55
 z22:=Tryz.sizeOf55
 v22:=Tryz.zeroValue55}
theorem cmpE57(a b:Int)(W':R0):UU RH 57 #[.int .i64 a,.int .i64 b] W' λe w'=>e=.returned (.int .i64 (RR a b))/\w'=W':=TU cmpEL a b W'
open Xe Pm
def KW(x:av):Int×Int×Int:=(x.aH,x.seq,x.index)
def F3(x y:av):Int:=Ni (KW x) (KW y)
theorem wJ(a b:Int):RR a b<0↔a<b:=by unfold RR;omega
theorem tf(a b:Int):RR a b=0↔a=b:=by unfold RR;omega
theorem cfJ_lt(x y:av):F3 x y<0↔iV x y=true:=by
 unfold F3 Ni KW
 grind [nD,tf,wJ]
theorem C6(x y:av):F3 x y=0↔x=y:=by
 unfold F3 Ni KW
 grind [tf,av.ext']
theorem oQ(x y:av):ltOf F3 x y=iV x y:=by
 grind [ltOf,iV,J5,cfJ_lt,J6]
theorem NR:SWO (ltOf F3) where
 irrefl x:=by rw[oQ];exact j8 x
 trans x y z h1 h2:=by grind [oQ,ku]
 ntrans x y z h1 h2:=by grind [oQ,pP]
theorem eC{M:Mem}{ds:List D}{us:List RK}{k:Nat}{z:Int}(h:bz M ds us)(hd:ds[k]?=some (aj z)):us.toArray[k]?=some (.int .i64 z):=by
 have hk:k<ds.length:=(TN.1 hd).1;have hk2:k<us.length:=by rw[h.1];exact hk
 have h2:=h.2 k _ _ hd (R5 hk2);have h3:us[k]=.int .i64 z:=by
  have h4:Xe.Rd M (.v (.int .i64 z)) us[k]:=h2
  grind [Xe.Rd]
 grind
theorem pS{M:Mem}{x:av}{v:List RK}(h:bz M x.enc v):v=[.int .i64 x.aH,.int .i64 x.seq,.int .i64 x.index]:=by
 have hl:v.length=3:=h.1
 match v,hl with
 |[a,b,c],_=>have e0:=eC h (k:=0) (z:=x.aH) rfl;have e1:=eC h (k:=1) (z:=x.seq) rfl;have e2:=eC h (k:=2) (z:=x.index) rfl;simp at e0 e1 e2;rw[e0,e1,e2]
theorem xg{l S:List av}(h1:S.Perm l)(h2:S.Pairwise λa b=>ltOf F3 b a=false):S=j1 l:=by
 grind [rN,T8,iV,nE,oQ]
theorem mr:uN:=λl hl=>by
 have:=mq av.enc (k:=3) Q1 (λ_=>rfl) F3 NR (g:=55) I1 rfl rfl XT WD (enters_of Tryz.func55 (by kernel_rfl) rfl) (λM x y vx vy hx hy W=>by
  rw[pS hx,pS hy]
  exact JA (KW x) (KW y) W) l (j1 l) (by unfold lim;omega) λS=>xg
 exact this
theorem Le(l:List av)(hl:l.length<=1000000000000):IS D7 [[dI l]] [[dI (j1 l)]]:=by
 have:=mq av.enc (k:=3) Q1 (λ_=>rfl) F3 NR (g:=95) I1 rfl rfl XT WD (enters_of Tryz.func95 (by kernel_rfl) rfl) (λM x y vx vy hx hy W=>by
  rw[pS hx,pS hy]
  exact Ci (KW x) (KW y) W) l (j1 l) (by unfold lim;omega) λS=>xg
 exact this
theorem nr{M:Mem}{x:ao}{v:List RK}(h:bz M x.enc v):zr v.toArray (KW x.id) x.bm :=
 ⟨by rw[UZ,h.1,ao.aP],eC h rfl,eC h rfl,eC h rfl,eC h rfl,λu hu=>B6 h u (by grind)⟩
def Ht(a b:ao):Bool:=decide (a.bm<b.bm) || decide (a.bm=b.bm) && iV a.id b.id
def cfP(x y:ao):Int:=F3 x.id y.id
def cfQ(x y:ao):Int:=if RR x.bm y.bm=0 then F3 x.id y.id else RR x.bm y.bm
theorem CF(x y:ao):ltOf cfQ x y=Ht x y:=by
 unfold ltOf cfQ Ht;by_cases h:x.bm=y.bm
 .rw[J2 ((tf _ _).2 h),J5 h,J6 (show ¬x.bm<y.bm by omega),Bool.true_and,UC];exact oQ x.id y.id
 .rw[J1 (λh2=>h ((tf _ _).1 h2)),J6 h,Bool.false_and,Bool.or_false];exact decide_eq_decide.2 (wJ _ _)
theorem swoP:SWO (ltOf cfP):=⟨λx=>NR.irrefl x.id,λx y z=>NR.trans x.id y.id z.id,λx y z=>NR.ntrans x.id y.id z.id⟩
theorem oP{a b:ao}:Ht a b=true↔(a.bm<b.bm\/a.bm=b.bm/\iV a.id b.id=true):=by unfold Ht;simp
theorem wi{a b:ao}:Ht a b=false↔¬(a.bm<b.bm\/a.bm=b.bm/\iV a.id b.id=true):=by rw[<-oP];simp
theorem swoQ:SWO (ltOf cfQ) where
 irrefl x:=by rw[CF,wi,j8];simp
 trans x y z h1 h2:=by
  grind [CF,oP,ku]
 ntrans x y z h1 h2:=by
  grind [CF,wi,iV,pP]
theorem AU{R:List ao}(h:(R.map ao.id).Nodup){a b:ao}(ha:a∈R)(hb:b∈R)(e:a.id=b.id):a=b:=by
 induction R with
 |nil=>cases ha
 |cons x R ih =>
  rw[Sb]at h;have h2:=SG.1 h;rcases RO.1 ha with ha'|ha' <;> rcases RO.1 hb with hb'|hb'
  .rw[ha',hb']
  .exact J3 (by grind) h2.1
  .exact J3 (by grind) h2.1
  .exact ih h2.2 ha' hb'
theorem Ai(Q R:List ao)(hn:Q.length<=1000000000000)(hp:R.Perm Q)(hs:R.Pairwise λa b=>iV a.id b.id=true):IS BZ [[dP Q]] [[dP R]]:=by
 have:=mq ao.enc (k:=38) Q1 ao.aP cfP swoP (g:=99) I0 rfl rfl XU XP (enters_of Tryz.func99 (by kernel_rfl) rfl) (λM x y vx vy hx hy W=>byID99 (nr hx) (nr hy) W) Q R (by unfold lim;omega) (λS h1 h2=>by
   refine T8 (le:=λa b:ao=>iV b.id a.id=false) (λa b ha hb h5 h6=>?_) (h2.imp λh=>by rwa [show ltOf cfP _ _=ltOf F3 _ _ from rfl,oQ]at h) (hs.imp λh=>oR h) (h1.trans hp.symm);have hid:a.id=b.id:=nE h6 h5;have hn2:(R.map ao.id).Nodup:=S4.2 (hs.imp λh=>uq h)
   exact AU hn2 ((h1.trans hp.symm).mem_iff.1 ha) hb hid)
 exact this
theorem xh(Q R:List ao)(hn:Q.length<=1000000000000)(hp:R.Perm Q)(hs:R.Pairwise λa b=>Ht a b=true)(hnd:(R.map ao.id).Nodup):IS kR [[dP Q]] [[dP R]]:=by
 have:=mq ao.enc (k:=38) Q1 ao.aP cfQ swoQ (g:=107) I0 rfl rfl XU XP (enters_of Tryz.func107 (by kernel_rfl) rfl) (λM x y vx vy hx hy W=>Ie (nr hx) (nr hy) W) Q R (by unfold lim;omega) (λS h1 h2=>by
   refine T8 (le:=λa b:ao=>Ht b a=false) (λa b ha hb h5 h6=>?_) (h2.imp λh=>by rwa [CF]at h) (hs.imp fun{a b} h=>?_) (h1.trans hp.symm)
   .rw[wi]at h5 h6;have e1:a.bm=b.bm:=by omega
    have hid:a.id=b.id:=nE (by
     cases h9:iV a.id b.id with
     |false=>rfl
     |true=>exact J3 (.inr ⟨e1,h9⟩) h6) (by
     cases h9:iV b.id a.id with
     |false=>rfl
     |true=>exact J3 (.inr ⟨e1.symm,h9⟩) h5)
    exact AU hnd ((h1.trans hp.symm).mem_iff.1 ha) hb hid
   .rw[wi];rw[oP]at h;rintro(h2|⟨h2,h3⟩)
    .rcases h with h|⟨h,_⟩ <;> omega
    .rcases h with h|⟨h,h4⟩
     .omega
     .rw[oR h4]at h3;cases h3)
 exact this
theorem yV{M:Mem}{x:dJ}{v:List RK}(h:bz M x.enc v):IB v.toArray x.code (KW x.on) x.kind :=
 ⟨by rw[UZ,h.1,dJ.aP],eC h rfl,eC h rfl,eC h rfl,eC h rfl,eC h rfl⟩
def cfC(x y:dJ):Int:=if F3 x.on y.on=0 then(if RR x.kind y.kind=0 then RR x.code y.code else RR x.kind y.kind) else F3 x.on y.on
theorem JP{a b:dJ}:Hv a b=true↔(iV a.on b.on=true\/a.on=b.on/\(a.kind<b.kind\/a.kind=b.kind/\a.code<b.code)):=by unfold Hv;simp
theorem Hu{a b:dJ}:Hv a b=false↔¬(iV a.on b.on=true\/a.on=b.on/\(a.kind<b.kind\/a.kind=b.kind/\a.code<b.code)):=by rw[<-JP];simp
theorem kX(x y:dJ):ltOf cfC x y=Hv x y:=by
 unfold ltOf cfC;by_cases h:x.on=y.on
 .grind [C6,tf,Hv,j8,wJ]
 .rw[J1 (λh3=>h ((C6 _ _).1 h3))];have:=oQ x.on y.on
  grind [ltOf,Hv]
theorem swoC:SWO (ltOf cfC) where
 irrefl x:=by rw[kX,Hu,j8];simp
 trans x y z h1 h2:=by
  grind [kX,JP,ku]
 ntrans x y z h1 h2:=by
  grind [kX,Hu,iV,pP,nE]
theorem Mu{a b:dJ}(h1:Hv a b=false)(h2:Hv b a=false):a=b:=by
 rw[Hu]at h1 h2;have n1:iV a.on b.on=false:=by
  grind
 have n2:iV b.on a.on=false:=by
  grind
 have e:=nE n1 n2;have k1:¬(a.kind<b.kind\/a.kind=b.kind/\a.code<b.code):=λh=>h1 (.inr ⟨e,h⟩);have k2:¬(b.kind<a.kind\/b.kind=a.kind/\b.code<a.code):=λh=>h2 (.inr ⟨e.symm,h⟩);obtain⟨c1,i1,d1⟩:=a;obtain⟨c2,i2,d2⟩:=b
 grind
theorem DP(l:List dJ):(gf l).Pairwise (λa b=>Hv b a=false)/\(gf l).Perm l:=by
 refine⟨?_,W8 l _⟩
 have:=WI (le:=λx y=>!Hv y x) (λa b c h k=>by
  simp only[UH]at *;have:=swoC.ntrans c b a;rw[kX,kX,kX]at this;exact this k h) (λa b=>by
  cases h:Hv b a with
  |false=>simp
  |true =>
   have:=swoC.trans b a b;rw[kX,kX,kX]at this;cases h2:Hv a b with
   |false=>simp
   |true =>
    have h3:=this h h2;have h4:=swoC.irrefl b;rw[kX,h3]at h4
    cases h4) l
 exact this.imp λh=>by grind
theorem Lg(l:List dJ)(hl:l.length<=10000000000):IS Ji [[gu l]] [[gu (gf l)]]:=by
 have:=mq dJ.enc (k:=6) Q1 dJ.aP cfC swoC (g:=53) sortCfL rfl rfl Tryz.isAgg57 Tryz.sizeOf57 (enters_of Tryz.func53 (by kernel_rfl) rfl) (λM x y vx vy hx hy W=>conf53 (yV hx) (yV hy) cmpE57 W) l (gf l) (by unfold lim;omega) λS h1 h2=>by
   grind [DP,T8,Hv,Mu,kX]
 exact this
structure ki where
 id:av
 n:Int
def ki.enc(b:ki):List D:=b.id.enc++[vI b.n,vI 0,vI 0,vI 0,vI 0,.sl 0 5 []]
theorem ki.aP(b:ki):b.enc.length=9:=rfl
abbrev wI(l:List ki):D:=.sl l.length 9 (l.flatMap ki.enc)
theorem Bh(xs:List ki){k:Nat}(hk:k<xs.length):el (xs.flatMap ki.enc) 9 k=xs[k].enc:=dq ki.aP xs hk
def DQ:UN:=⟨fun|6=>108|15=>157|14=>185|28=>209|29=>210|20=>227|21=>228|22=>229|23=>230|24=>231|25=>232|26=>233|27=>234|46=>257|47=>239|48=>240|49=>258|50=>259|57=>267|n=>n,fun|22=>76|24=>79|25=>162|3=>3|39=>207|0=>0|53=>256|55=>258|4=>4|46=>249|45=>248|50=>253|5=>5|9=>9|66=>279|70=>283|76=>293|77=>183|n=>n,fun|n=>n⟩
theorem sortBdL:UQ RH DQ:={
 mixed:=by kernel_rfl
 f6:=⟨Tryz.f108.name,Q1,Tryz.func108.trans (J4 some (by kernel_rfl))⟩
 f14:=⟨Tryz.f185.name,Q1,Tryz.func185.trans (J4 some (by kernel_rfl))⟩
 f15:=WJ.trans (J4 some (by kernel_rfl))
 f20:=⟨Tryz.f227.name,Q1,Tryz.func227.trans (J4 some (by kernel_rfl))⟩
 f21:=⟨Tryz.f228.name,Q1,Tryz.func228.trans (J4 some (by kernel_rfl))⟩
 f22:=⟨Tryz.f229.name,Q1,Tryz.func229.trans (J4 some (by kernel_rfl))⟩
 f23:=⟨Tryz.f230.name,Q1,Tryz.func230.trans (J4 some (by kernel_rfl))⟩
 f24:=⟨Tryz.f231.name,Q1,Tryz.func231.trans (J4 some (by kernel_rfl))⟩
 f25:=⟨Tryz.f232.name,Q1,Tryz.func232.trans (J4 some (by kernel_rfl))⟩
 f26:=⟨Tryz.f233.name,Q1,Tryz.func233.trans (J4 some (by kernel_rfl))⟩
 f27:=⟨Tryz.f234.name,Q1,Tryz.func234.trans (J4 some (by kernel_rfl))⟩
 f28:=WK.trans (J4 some (by kernel_rfl))
 f29:=WL.trans (J4 some (by kernel_rfl))
 f46:=⟨Tryz.f257.name,Q1,Tryz.func257.trans (J4 some (by kernel_rfl))⟩
 f47:=WM.trans (J4 some (by kernel_rfl))
 f48:=WN.trans (J4 some (by kernel_rfl))
 f49:=⟨Tryz.f258.name,Q1,Tryz.func258.trans (J4 some (by kernel_rfl))⟩
 f50:=⟨Tryz.f259.name,Q1,Tryz.func259.trans (J4 some (by kernel_rfl))⟩
 f57:=⟨Tryz.f267.name,Q1,Tryz.func267.trans (J4 some (by kernel_rfl))⟩
 t0:=VJ
 a0:=WU
 z0:=WO
 v0:=VS
 t3:=Ta
 a3:=Uf
 z3:=T0
 v3:=TT
 t4:=Tc
 a4:=TH
 z4:=Tv
 v4:=Tj
 t5:=VK
 a5:=WV
 z5:=WQ
 v5:=VT
 t9:=VL
 a9:=WW
 z9:=U5
 v9:=VU
 t22:=Tryz.underlying76
 a22:=Tryz.isAgg76
 z22:=Tryz.sizeOf76
 v22:=Tryz.zeroValue76
 t25:=Tryz.underlying162
 a25:=Tryz.isAgg162
 z25:=Tryz.sizeOf162
 v25:=Tryz.zeroValue162
 t39:=Vi
 a39:=Wt
 z39:=Wf
 v39:=Vv
 t45:=Vj
 a45:=Wu
 z45:=Wg
 v45:=Vw
 t46:=Vk
 a46:=Wv
 z46:=Wh
 v46:=Vx
 t50:=Vl
 a50:=Ww
 z50:=Wi
 v50:=Vy
 t53:=Vm
 a53:=Wx
 z53:=Wj
 v53:=Vz
 t55:=Vn
 a55:=Wy
 z55:=Wl
 v55:=VA
 t66:=Vo
 a66:=Wz
 z66:=Wm
 v66:=VB
 t70:=Vp
 a70:=WA
 z70:=Wn
 v70:=VC
 t76:=Vq
 a76:=WB
 z76:=Wo
 v76:=VD
 t77:=Vr
 a77:=WC
 z77:=Wp
 v77:=VE}
structure ID(a:Array RK)(i:Int×Int×Int)(n:Int):Prop where
 size:a.size=9
 c0:a[0]?=some (.int .i64 i.1)
 c1:a[1]?=some (.int .i64 i.2.1)
 c2:a[2]?=some (.int .i64 i.2.2)
 c3:a[3]?=some (.int .i64 n)
theorem Gc{M:Mem}{x:ki}{v:List RK}(h:bz M x.enc v):ID v.toArray (KW x.id) x.n :=
 ⟨by rw[UZ,h.1];rfl,eC h rfl,eC h rfl,eC h rfl,eC h rfl⟩
set_option maxHeartbeats 1000000 in
theorem or54_4(x y z u:Int)(b:Nat)(W:R0)(h0:W.cell? ⟨b,0,none⟩=some (.int .i64 x))(h1:W.cell? ⟨b,1,none⟩=some (.int .i64 y))(h2:W.cell? ⟨b,2,none⟩=some (.int .i64 z))(h3:W.cell? ⟨b,3,none⟩=some (.int .i64 u)) :
  UU RH 54 #[.slice (some ⟨b,0,none⟩) 4 4] W λe w'=>e=.returned (.int .i64 (if x=0 then(if y=0 then(if z=0 then u else z) else y) else x))/\w'=W:=by
 generalize hr:(if x=0 then(if y=0 then(if z=0 then u else z) else y) else x)=r;go_enter X0,XS;go_wp2;refine wp_loop_rounds 5 ?_;rw[Ux];go_wp2
 .go_ret;refine⟨?_,rfl⟩;simp_all
 rw[Ux];go_wp2
 .go_ret;refine⟨?_,rfl⟩;simp_all
 rw[Ux];go_wp2
 .go_ret;refine⟨?_,rfl⟩;simp_all
 rw[Ux];go_wp2
 .go_ret;refine⟨?_,rfl⟩;simp_all
 rw[Ux];go_wp2;go_ret;refine⟨?_,rfl⟩;simp_all
theorem al4(W:R0)(a b c d:RK)(k:Nat)(v:RK)(hk:#[a,b,c,d][k]?=some v):(W.alloc (.cells #[a,b,c,d] 3)).cell? ⟨W.heap.size,k,none⟩=some v:=by simp_all
def cf4(x y:Int×Int×Int)(p q:Int):Int:=if RR x.1 y.1=0 then(if RR x.2.1 y.2.1=0 then(if RR x.2.2 y.2.2=0 then RR p q else RR x.2.2 y.2.2) else RR x.2.1 y.2.1) else RR x.1 y.1
set_option maxRecDepth 20000 in
set_option maxHeartbeats 4000000 in
theorem OQ{a b:Array RK}{x y:Int×Int×Int}{p q:Int}(ha:ID a x p)(hb:ID b y q)(W:R0):UU RH 109 #[.agg a,.agg b] W λe w' =>
  e=.returned (.int .i64 (cf4 x y p q))/\∃q os',w'=grow (W.drewN q) os':=by
 unfold cf4;obtain⟨_,a0,a1,a2,a3⟩:=ha;obtain⟨_,b0,b1,b2,b3⟩:=hb;obtain⟨x1,x2,x3⟩:=x;obtain⟨y1,y2,y3⟩:=y;simp only at a0 a1 a2 b0 b1 b2;dsimp only;have hcmp:∀(a b:Int) (W':R0),UU RH 56 #[.int .i64 a,.int .i64 b] W' λe w'=>e=.returned (.int .i64 (RR a b))/\w'=W':=λa b W'=>TU FZ a b W';generalize hr:(if RR x1 y1=0 then(if RR x2 y2=0 then(if RR x3 y3=0 then RR p q else RR x3 y3) else RR x2 y2) else RR x1 y1)=r;go_enter XV,Tryz.ntmps109;go_wp2;have hg:(W.alloc (.cells a 79)).alloc (.cells b 79)=grow W #[.cells a 79,.cells b 79]:=by
  grind [alloc_eq_grow,grow_grow]
 rw[hg];have c1:∀(k:Nat) (v:RK),a[k]?=some v->(grow W #[.cells a 79,.cells b 79]).cell? ⟨W.heap.size,k,none⟩=some v:=λk v h=>by
  have:(grow W #[.cells a 79,.cells b 79]).heap[W.heap.size]?=some (.cells a 79):=by simp[grow]
  grind [SU]
 have c2:∀(k:Nat) (v:RK),b[k]?=some v->(grow W #[.cells a 79,.cells b 79]).cell? ⟨W.heap.size+1,k,none⟩=some v:=λk v h=>by
  have:(grow W #[.cells a 79,.cells b 79]).heap[W.heap.size+1]?=some (.cells b 79):=by simp[grow]
  grind [SU]
 generalize hW1:grow W #[.cells a 79,.cells b 79]=W1 at c1 c2 ⊢;refine wp_region_still_tail 26 (by kernel_rfl) (by kernel_rfl) ?_;simp only[SO,TB,List.drop_succ_cons,Te];generalize hW2:({heap:=W1.heap,tape:=W1.tape,drawn:=W1.drawn+1,os:=W1.os,output:=W1.output}:R0)=W2;have d1:∀(k:Nat) (v:RK),a[k]?=some v->W2.cell? ⟨W.heap.size,k,none⟩=some v:=λk v h=>by rw[<-hW2];exact c1 k v h
 have d2:∀(k:Nat) (v:RK),b[k]?=some v->W2.cell? ⟨W.heap.size+1,k,none⟩=some v:=λk v h=>by rw[<-hW2];exact c2 k v h
 have p0:=d1 0 _ a0;have p1:=d1 1 _ a1;have p2:=d1 2 _ a2;have p3:=d1 3 _ a3;have q0:=d2 0 _ b0;have q1:=d2 1 _ b1;have q2:=d2 2 _ b2;have q3:=d2 3 _ b3;clear d1 d2 c1 c2
 repeat still_step
 still_call (hcmp _ _ _)
 repeat still_step
 still_call (hcmp _ _ _)
 repeat still_step
 still_call (hcmp _ _ _)
 repeat still_step
 still_call (hcmp _ _ _)
 refine wpStill_nil ?_;have hor:UU RH 54 #[.slice (some ⟨W2.heap.size,0,none⟩) 4 4] (W2.alloc (.cells #[.int .i64 (RR x1 y1),.int .i64 (RR x2 y2),.int .i64 (RR x3 y3),.int .i64 (RR p q)] 3)) _ :=
  or54_4 (RR x1 y1) (RR x2 y2) (RR x3 y3) (RR p q) W2.heap.size _ (al4 _ _ _ _ _ _ _ rfl) (al4 _ _ _ _ _ _ _ rfl) (al4 _ _ _ _ _ _ _ rfl) (al4 _ _ _ _ _ _ _ rfl)
 rw[hr]at hor
 go_wp2_with (go_at_call 54;refine hor.mono ?_;rintro e w' ⟨rfl,rfl⟩)
 go_ret;refine⟨rfl,1,#[.cells a 79,.cells b 79,.cells #[.int .i64 (RR x1 y1),.int .i64 (RR x2 y2),.int .i64 (RR x3 y3),.int .i64 (RR p q)] 3],?_⟩;rw[<-hW2,<-hW1,alloc_eq_grow];rfl
def cfB(x y:ki):Int:=cf4 (KW x.id) (KW y.id) x.n y.n
theorem cfB_eq(x y:ki):cfB x y=if F3 x.id y.id=0 then RR x.n y.n else F3 x.id y.id:=by
 unfold cfB F3 Ni cf4
 grind
def JR(x y:ki):Bool:=iV x.id y.id || (decide (x.id=y.id) && decide (x.n<y.n))
theorem kY(x y:ki):ltOf cfB x y=JR x y:=by
 unfold ltOf;rw[cfB_eq];by_cases h:x.id=y.id
 .grind [C6,JR,j8,wJ]
 .rw[J1 (λh3=>h ((C6 _ _).1 h3))];have:=oQ x.id y.id
  grind [ltOf,JR]
theorem JQ{a b:ki}:JR a b=true↔(iV a.id b.id=true\/a.id=b.id/\a.n<b.n):=by unfold JR;simp
theorem Hw{a b:ki}:JR a b=false↔¬(iV a.id b.id=true\/a.id=b.id/\a.n<b.n):=by rw[<-JQ];simp
theorem swoB:SWO (ltOf cfB) where
 irrefl x:=by rw[kY,Hw,j8];simp
 trans x y z h1 h2:=by
  grind [kY,JQ,ku]
 ntrans x y z h1 h2:=by
  grind [kY,Hw,iV,pP,nE]
theorem Mv{a b:ki}(h1:JR a b=false)(h2:JR b a=false):a=b:=by
 rw[Hw]at h1 h2;have n1:iV a.id b.id=false:=by grind
 have n2:iV b.id a.id=false:=by grind
 have e:=nE n1 n2;obtain⟨i1,c1⟩:=a;obtain⟨i2,c2⟩:=b
 grind
def DS(l:List ki):List ki:=l.mergeSort λx y=>!JR y x
theorem DR(l:List ki):(DS l).Pairwise (λa b=>JR b a=false)/\(DS l).Perm l:=by
 refine⟨?_,W8 l _⟩
 have:=WI (le:=λx y=>!JR y x) (λa b c h k=>by
  simp only[UH]at *;have:=swoB.ntrans c b a;rw[kY,kY,kY]at this;exact this k h) (λa b=>by
  cases h:JR b a with
  |false=>simp
  |true =>
   have:=swoB.trans b a b;rw[kY,kY,kY]at this;cases h2:JR a b with
   |false=>simp
   |true =>
    have h3:=this h h2;have h4:=swoB.irrefl b;rw[kY,h3]at h4
    cases h4) l
 exact this.imp λh=>by grind
theorem GG(l:List ki)(hl:l.length<=10000000000):IS s108 [[wI l]] [[wI (DS l)]]:=by
 have:=mq ki.enc (k:=9) Q1 ki.aP cfB swoB (g:=109) sortBdL rfl rfl Tryz.isAgg79 Tryz.sizeOf79 (enters_of XV (by kernel_rfl) rfl) (λM x y vx vy hx hy W=>OQ (Gc hx) (Gc hy) W) l (DS l) (by unfold lim;omega) λS h1 h2=>by obtain⟨h3,h4⟩:=DR l;exact T8 (le:=λa b=>JR b a=false) (λa b _ _ h5 h6=>Mv h6 h5) (h2.imp λh=>by rwa [kY]at h) h3 (h1.trans h4.symm)
 exact this
end Go.Proofs.YtmbboaapillefaaGreatDoor
namespace Go.Proofs.YtmbboaapillefaaGreatDoor
open Xe Pm
theorem LA(a m b:Int)(l:List ao)(h0:0<=a)(h1:a<m)(h2:m<b)(hb:b<=l.length)(hl:l.length<=300000000000):∃R:List ao,R.Perm l/\IS s249 [[vI a],[vI m],[vI b],[dP l]] [[dP R]]:=by
 have key:g249 (j3 RH) [[vI a],[vI m],[vI b],[dP l]] (Rt l):=by
  unfold g249;simp only[ai];refine⟨Q4,Q4,?_⟩;refine cY (σ:=Int×Int×List ao) (λx=>[[vI m],[vI x.1],[vI x.2.1],[dP x.2.2]]) (λx=>(x.1+x.2.1).toNat) (λx=>0<x.1/\0<x.2.1/\a<=m-x.1/\m+x.2.1<=b/\x.2.2.Perm l) (m-a,b-m,l) ⟨Q0,by grind,Q0,by grind,S5 _⟩ rfl ?_;rintro⟨i,j,R⟩ next ⟨hi,hj,hai,hjb,hp⟩ hnx
  simp only at hi hj hai hjb hp;have hlen:=hp.length_eq;simp only[ai,aF];refine⟨λh=>?_,λh=>⟨λh3=>?_,λh3=>?_⟩⟩
  .obtain⟨S,hS,hs⟩:=mZ (m-i) m i R Q0 Q0 Q0 Q0 Q0 Q0;refine⟨Q4,ab hs ?_⟩;simp only[ai];exact⟨S,hS.trans hp,rfl⟩
  .obtain⟨S,hS,hs⟩:=mZ (m-i) m j R Q0 Q0 Q0 Q0 Q0 Q0;refine⟨Q4,ab hs ?_⟩;simp only[ai];exact⟨Q4,hnx (i-j,j,S) (by grind) ⟨Q0,hj,Q0,hjb,hS.trans hp⟩⟩
  .obtain⟨S,hS,hs⟩:=mZ (m-i) (m+j-i) i R Q0 Q0 Q0 Q0 Q0 Q0;refine⟨Q4,Q4,Q4,ab hs ?_⟩;simp only[ai];exact⟨Q4,hnx (i,j-i,S) (by grind) ⟨hi,by grind,hai,by grind,hS.trans hp⟩⟩
 obtain⟨r,⟨R,hp,rfl⟩,h⟩:=w249.some key (by rintro r ⟨b,_,rfl⟩;exact trivial);exact⟨R,hp,h⟩
theorem wrapU{u:Int}(h0:0<=u)(h1:u<=1000000000000000):SD .u64 u=u:=by
 grind [SD,Uo,Y4]
theorem IE{u:Int}(h0:0<=u)(h1:u<=1000000000000000):SD .i64 u=u:=by
 grind [SD,Uo,Y4]
theorem ikJ(k:IntKind)(z:Int)(K:Int->Prop):qv k (vK k z) K=K z:=by simp[qv]
theorem wz{u:Int}(h0:0<=u)(h1:u<=1000000000000)(K:Int->Prop):(qv .i64 (vI u) λu13=>qv .u64 (vK .u64 (SD .u64 u13)) λu14=>qv .u64 (vK .u64 1) λu15=>0<=u15/\qv .u64 (vK .u64 (u14 / 2 ^ min (RF u15) (Uo .u64))) K)=K (u / 2):=by
 rw[show(vI u)=vK .i64 u from rfl,ikJ,ikJ,ikJ,wrapU h0 Q0]
 grind [min,RF,Uo,ikJ]
theorem lJ:∀(n:Nat) (a m b:Int) (l:List ao),(b-a).toNat<=n->0<=a->a<m->m<b->b<=l.length->l.length<=300000000000->∃R:List ao,R.Perm l/\IS D8 [[vI a],[vI m],[vI b],[dP l]] [[dP R]]
 |0,a,m,b,l,h,h0,h1,h2,_,_=>by omega
 |n+1,a,m,b,l,h,h0,h1,h2,hb,hl=>by
  have key:g224 (j3 RH) [[vI a],[vI m],[vI b],[dP l]] (Rt l):=by
   unfold g224;simp only[ai];refine⟨Q4,λhma=>?_,λhma=>⟨Q4,λhbm=>?_,λhbm=>?_⟩⟩
   .refine cY (σ:=Int×Int) (λx=>[[vI a],[vI x.1],[vI x.2],[dP l]]) (λx=>(x.2-x.1).toNat) (λx=>m<=x.1/\x.1<=x.2/\x.2<=b) (m,b) ⟨SM _,Q0,SM _⟩ rfl ?_;rintro⟨i,j⟩ next ⟨hi,hij,hjb⟩ hnx
    simp only at hi hij hjb;simp only[ai];refine⟨λhlt=>⟨Q4,?_⟩,λhlt=>?_⟩
    .rw[wz Q0 Q0];have hw:=IE (u:=(i+j) / 2) Q0 Q0;simp only[hw];have e1:((i+j) / 2).toNat<l.length:=Q0;have e2:a.toNat<l.length:=Q0;rw[iq _ e1,iq _ e2];obtain⟨z,hz⟩:=Kz l[((i+j) / 2).toNat] l[a.toNat];refine⟨⟨Q0,Q0⟩,⟨Q0,Q0⟩,ab hz ?_⟩;simp only[ai]
     exact⟨λ_=>⟨Q4,hnx ((i+j) / 2+1,j) Q0 ⟨Q0,Q0,hjb⟩⟩,
      λ_=>hnx (i,(i+j) / 2) Q0 ⟨hi,Q0,Q0⟩⟩
    .refine cY (σ:=Int×List ao) (λx=>[[vI i],[vI x.1],[dP x.2]]) (λx=>(i-x.1).toNat) (λx=>a<=x.1/\x.2.Perm l) (a,l) ⟨SM _,S5 _⟩ rfl ?_;rintro⟨k,R⟩ lO ⟨hk,hp⟩ hnx2;simp only at hk hp;have hlen:=hp.length_eq;simp only[ai];refine⟨Q4,λh5=>?_,λ_=>⟨R,hp,rfl⟩⟩;have e1:k.toNat<R.length:=Q0;have e2:(k+1).toNat<R.length:=Q0;rw[rJ R e1 e2];refine⟨Q4,Q4,⟨Q0,Q0⟩,⟨Q0,Q0⟩,⟨Q0,Q0⟩,⟨Q0,Q0⟩,Q4,?_⟩;exact hnx2 (k+1,uV R k.toNat (k+1).toNat e1 e2) Q0 ⟨Q0,(nb R e1 e2).trans hp⟩
   .refine cY (σ:=Int×Int) (λx=>[[vI m],[vI x.1],[vI x.2],[dP l]]) (λx=>(x.2-x.1).toNat) (λx=>a<=x.1/\x.1<=x.2/\x.2<=m) (a,m) ⟨SM _,Q0,SM _⟩ rfl ?_;rintro⟨i,j⟩ next ⟨hi,hij,hjb⟩ hnx
    simp only at hi hij hjb;simp only[ai,aF];refine⟨λhlt=>⟨Q4,?_⟩,λhlt=>?_⟩
    .rw[wz Q0 Q0];have hw:=IE (u:=(i+j) / 2) Q0 Q0;simp only[hw];have e1:((i+j) / 2).toNat<l.length:=Q0;have e2:m.toNat<l.length:=Q0;rw[iq _ e1,iq _ e2];obtain⟨z,hz⟩:=Kz l[m.toNat] l[((i+j) / 2).toNat];refine⟨⟨Q0,Q0⟩,⟨Q0,Q0⟩,ab hz ?_⟩;simp only[ai]
     exact⟨λ_=>hnx (i,(i+j) / 2) Q0 ⟨hi,Q0,Q0⟩,
      λ_=>⟨Q4,hnx ((i+j) / 2+1,j) Q0 ⟨Q0,Q0,hjb⟩⟩⟩
    .refine cY (σ:=Int×List ao) (λx=>[[vI i],[vI x.1],[dP x.2]]) (λx=>(x.1-i).toNat) (λx=>i<=x.1/\x.1<=m/\x.2.Perm l) (m,l) ⟨Q0,SM _,S5 _⟩ rfl ?_;rintro⟨k,R⟩ lO ⟨hk,hkm,hp⟩ hnx2;simp only at hk hkm hp;have hlen:=hp.length_eq;simp only[ai];refine⟨λh5=>?_,λ_=>⟨R,hp,rfl⟩⟩;have e1:k.toNat<R.length:=Q0;have e2:(k-1).toNat<R.length:=Q0;rw[rJ R e1 e2];refine⟨Q4,Q4,⟨Q0,Q0⟩,⟨Q0,Q0⟩,⟨Q0,Q0⟩,⟨Q0,Q0⟩,Q4,?_⟩;exact hnx2 (k-1,uV R k.toNat (k-1).toNat e1 e2) Q0 ⟨Q0,Q0,(nb R e1 e2).trans hp⟩
   .refine⟨Q4,?_⟩;rw[wz Q0 Q0];have hw:=IE (u:=(a+b) / 2) Q0 Q0;simp only[hw];have hmid1:a<(a+b) / 2:=Q0;have hmid2:(a+b) / 2<b:=Q0;have hmid3:2*((a+b) / 2)<=a+b/\a+b<=2*((a+b) / 2)+1:=Q0;generalize(a+b) / 2=mid at hmid1 hmid2 hmid3 ⊢;refine⟨Q4,?_⟩;refine⟨λst=>∃s r:Int,((mid<m/\s=mid+m-b/\r=mid)\/(¬mid<m/\s=a/\r=m))/\st=[[vI a],[vI m],[vI b],[vI mid],[vI (mid+m)],[vI s],[vI r],[dP l]],?_,?_⟩
    .grind [aZ]
    rintro _ ⟨s0,r0,hsr,rfl⟩;have hs0:a<=s0/\s0<=r0:=Q0;have hc:∀c,s0<=c->c<r0->(0<=mid+m-1-c/\mid+m-1-c<l.length)/\c<l.length:=λc h1 h2=>by omega
    have hend:∀c,s0<=c->mid+m-c<=b:=λc h1=>by omega
    have hr0:r0<=b:=Q0;clear hsr;simp only[ai,aF];refine⟨Q4,?_⟩;refine cY (σ:=Int×Int) (λx=>[[vI a],[vI m],[vI b],[vI mid],[vI (mid+m)],[vI x.1],[vI x.2],[vI (mid+m-1)],[dP l]]) (λx=>(x.2-x.1).toNat) (λx=>s0<=x.1/\x.1<=x.2/\x.2<=r0) (s0,r0) ⟨SM _,hs0.2,SM _⟩ rfl ?_;rintro⟨s,r⟩ next ⟨hs,hsr,hr⟩ hnx
    simp only at hs hsr hr;simp only[ai];refine⟨λhlt=>⟨Q4,?_⟩,λhlt=>⟨Q4,?_⟩⟩
    .rw[wz Q0 Q0];have hw:=IE (u:=(s+r) / 2) Q0 Q0;simp only[hw];have hcc:=hc ((s+r) / 2) Q0 Q0;have e1:(mid+m-1-(s+r) / 2).toNat<l.length:=Q0;have e2:((s+r) / 2).toNat<l.length:=Q0;rw[iq _ e1,iq _ e2];obtain⟨z,hz⟩:=Kz l[(mid+m-1-(s+r) / 2).toNat] l[((s+r) / 2).toNat];refine⟨Q4,⟨Q0,Q0⟩,⟨Q0,Q0⟩,ab hz ?_⟩;simp only[ai]
     exact⟨λ_=>hnx (s,(s+r) / 2) Q0 ⟨hs,Q0,Q0⟩,
      λ_=>⟨Q4,hnx ((s+r) / 2+1,r) Q0 ⟨Q0,Q0,hr⟩⟩⟩
    .have he:=hend s hs;refine⟨λst=>∃R:List ao,R.Perm l/\st=[[vI a],[vI b],[vI mid],[vI s],[vI (mid+m-s)],[dP R]],?_,?_⟩
     .refine⟨λh5=>⟨λh6=>?_,λ_=>⟨l,S5 _,rfl⟩⟩,λ_=>⟨l,S5 _,rfl⟩⟩;obtain⟨R,hR,hrr⟩:=LA s m (mid+m-s) l Q0 h5 h6 Q0 hl;refine ab hrr ?_;simp only[ai];exact⟨R,hR,rfl⟩
     rintro _ ⟨R,hR,rfl⟩;have hRl:=hR.length_eq;simp only[ai];refine⟨λst=>∃S:List ao,S.Perm l/\st=[[vI b],[vI mid],[vI (mid+m-s)],[dP S]],?_,?_⟩
     .refine⟨λh5=>⟨λh6=>?_,λ_=>⟨R,hR,rfl⟩⟩,λ_=>⟨R,hR,rfl⟩⟩;obtain⟨S,hS,hss⟩:=lJ n a s mid R Q0 h0 h5 h6 Q0 Q0;refine ab hss ?_;simp only[ai];exact⟨S,hS.trans hR,rfl⟩
     rintro _ ⟨S,hS,rfl⟩;have hSl:=hS.length_eq;simp only[ai];refine⟨λh5=>⟨λh6=>?_,λ_=>⟨S,hS,rfl⟩⟩,λ_=>⟨S,hS,rfl⟩⟩;obtain⟨U,hU,huu⟩:=lJ n mid (mid+m-s) b S Q0 Q0 h5 h6 Q0 Q0;refine ab huu ?_;simp only[ai];exact⟨U,hU.trans hS,rfl⟩
  obtain⟨r,⟨R,hp,rfl⟩,h⟩:=w224.some key (by rintro r ⟨b,_,rfl⟩;exact trivial);exact⟨R,hp,h⟩
theorem Lb(l:List ao)(hl:l.length<=300000000000):∃R:List ao,R.Perm l/\IS s177 [[vI (l.length:Int)],[dP l]] [[dP R]]:=by
 have key:g177 (j3 RH) [[vI (l.length:Int)],[dP l]] (Rt l):=by
  unfold g177;simp only[ai];refine cY (σ:=Int×List ao) (λx=>[[vI (l.length:Int)],[vI 20],[vI x.1],[vI (x.1+20)],[dP x.2]]) (λx=>((l.length:Int)-x.1).toNat) (λx=>0<=x.1/\x.1<=l.length/\x.2.Perm l) (0,l) ⟨SM _,Q0,S5 _⟩ rfl ?_;rintro⟨a,R⟩ next ⟨ha,hal,hp⟩ hnx
  simp only at ha hal hp;have hlen:=hp.length_eq;simp only[ai];refine⟨λh=>?_,λh=>?_⟩
  .obtain⟨S,hS,hs⟩:=yy a (a+20) R ha Q0 Q0 Q0;refine ab hs ?_;simp only[ai];exact⟨Q4,hnx (a+20,S) Q0 ⟨Q0,Q0,hS.trans hp⟩⟩
  .obtain⟨S,hS,hs⟩:=yy a l.length R ha Q0 Q0 Q0;refine ab hs ?_;simp only[ai];refine cY (σ:=Int×List ao) (λx=>[[vI (l.length:Int)],[vI x.1],[dP x.2]]) (λx=>((l.length:Int)-x.1).toNat) (λx=>20<=x.1/\x.1<=1000000000000/\x.2.Perm l) (20,S) ⟨SM _,Q0,hS.trans hp⟩ rfl ?_;rintro⟨bs,U⟩ lO ⟨hbs,hbs2,hU⟩ hnx2;simp only at hbs hbs2 hU;simp only[ai];refine⟨λh5=>⟨Q4,?_⟩,λh5=>⟨U,hU,rfl⟩⟩;refine cY (σ:=Int×List ao) (λx=>[[vI (l.length:Int)],[vI bs],[vI x.1],[vI (x.1+2*bs)],[dP x.2]]) (λx=>((l.length:Int)-x.1).toNat) (λx=>0<=x.1/\x.1<=l.length/\x.2.Perm l) (0,U) ⟨SM _,Q0,hU⟩ (by grind) ?_;rintro⟨c,V⟩ JJ ⟨hc,hcl,hV⟩ hnx3;simp only at hc hcl hV;have hVl:=hV.length_eq;simp only[ai];refine⟨λh6=>⟨Q4,?_⟩,λh6=>?_⟩
   .obtain⟨X,hX,hx⟩:=lJ _ c (c+bs) (c+2*bs) V (Sc _) hc Q0 Q0 Q0 Q0;refine ab hx ?_;simp only[ai];exact⟨Q4,Q4,hnx3 (c+2*bs,X) Q0 ⟨Q0,Q0,hX.trans hV⟩⟩
   .refine⟨λst=>∃X:List ao,X.Perm l/\st=[[vI (l.length:Int)],[vI bs],[dP X]],?_,?_⟩
    .refine⟨Q4,λh7=>?_,λ_=>⟨V,hV,rfl⟩⟩;obtain⟨X,hX,hx⟩:=lJ _ c (c+bs) l.length V (Sc _) hc Q0 h7 Q0 Q0;refine ab hx ?_;simp only[ai];exact⟨X,hX.trans hV,rfl⟩
    rintro _ ⟨X,hX,rfl⟩;simp only[ai];exact⟨Q4,hnx2 (bs*2,X) Q0 ⟨Q0,Q0,hX⟩⟩
 obtain⟨r,⟨R,hp,rfl⟩,h⟩:=w177.some key (by rintro r ⟨b,_,rfl⟩;exact trivial);exact⟨R,hp,h⟩
theorem zG(l:List ao)(hl:l.length<=300000000000):∃R:List ao,R.Perm l/\IS s93 [[dP l]] [[dP R]]:=by obtain⟨R,hR,h⟩:=Lb l hl;refine⟨R,hR,w93.is ?_⟩;unfold g93;simp only[ai];refine ab h ?_;simp only[ai]
noncomputable def DG(l:List ao):List ao:=if h:l.length<=300000000000 then(zG l h).choose else l
theorem xc(l:List ao):(DG l).Perm l:=by
 grind [DG,S5]
theorem NU(l:List ao)(hl:l.length<=300000000000):IS s93 [[dP l]] [[dP (DG l)]]:=by
 unfold DG
 grind
open Go Go.Shelf Go.RowKit Go.Lib Xe Pm
def H9:UN:=⟨fun|41=>85|n=>n,fun|22=>36|23=>42|4=>4|n=>n,fun|n=>n⟩
theorem cloneI:UL RH H9:={
 mixed:=by kernel_rfl
 f41:=⟨Tryz.f85.name,Q1,Tryz.func85.trans (J4 some (by kernel_rfl))⟩
 t4:=Tc
 a4:=TH
 z4:=Tv
 v4:=Tj
 t22:=Tryz.underlying36
 a22:=Tryz.isAgg36
 z22:=Tryz.sizeOf36
 v22:=Tryz.zeroValue36}
def H8:UN:=⟨fun|41=>87|n=>n,fun|22=>48|23=>9|4=>4|n=>n,fun|n=>n⟩
theorem cloneS:UL RH H8:={
 mixed:=by kernel_rfl
 f41:=⟨Tryz.f87.name,Q1,Tryz.func87.trans (J4 some (by kernel_rfl))⟩
 t4:=Tc
 a4:=TH
 z4:=Tv
 v4:=Tj
 t22:=Tryz.underlying48
 a22:=Tryz.isAgg48
 z22:=Tryz.sizeOf48
 v22:=Tryz.zeroValue48}
def H7:UN:=⟨fun|41=>175|n=>n,fun|22=>44|23=>46|4=>4|n=>n,fun|n=>n⟩
theorem cloneT:UL RH H7:={
 mixed:=by kernel_rfl
 f41:=⟨Tryz.f175.name,Q1,Tryz.func175.trans (J4 some (by kernel_rfl))⟩
 t4:=Tc
 a4:=TH
 z4:=Tv
 v4:=Tj
 t22:=Tryz.underlying44
 a22:=Tryz.isAgg44
 z22:=Tryz.sizeOf44
 v22:=Tryz.zeroValue44}
theorem CV{E sz bytes:Nat}{z:RK}(h:(RH.info? E).map (λi=>(i.zero,i.size,i.bytes))=some (some z,sz,bytes)):∃i,RH.info? E=some i/\i.zero=some z/\i.size=sz/\i.bytes=bytes:=by simp_all
theorem F0:gL where
 ids l hl:=by obtain⟨i,h1,h2,h3,h4⟩:=CV (E:=42) (sz:=3) (bytes:=24) (z:=.agg #[.int .i64 0,.int .i64 0,.int .i64 0]) (by kernel_rfl);exact uH cloneI rfl rfl i _ h1 h2 h3 h4 Q1 Q1 WD (by unfold lim;omega) Q0
 txt l hl:=by obtain⟨i,h1,h2,h3,h4⟩:=CV (E:=9) (sz:=1) (bytes:=16) (z:=.string (Se #[])) (by kernel_rfl);exact uH cloneS rfl rfl i _ h1 h2 h3 h4 Q1 Q1 U5 (by unfold lim;omega) Q0
 typ l hl:=by obtain⟨i,h1,h2,h3,h4⟩:=CV (E:=46) (sz:=5) (bytes:=56) (z:=.agg #[.int .i64 0,.int .i64 0,.int .i64 0,.int .i64 0,.slice none 0 0]) (by kernel_rfl);exact uH cloneT rfl rfl i _ h1 h2 h3 h4 Q1 Q1 Tryz.sizeOf46 (by unfold lim;omega) Q0
open Xe
theorem Qx:jJ RH 65=true:=by kernel_rfl
theorem Ko:jJ RH 195=true:=by kernel_rfl
theorem I4:sliceB RH 65 70 38=true:=by kernel_rfl
theorem D1:sliceB RH 195 197 4=true:=by kernel_rfl
theorem D0:sliceB RH 224 65 1=true:=by kernel_rfl
theorem DZ:sliceB RH 245 195 1=true:=by kernel_rfl
theorem func176:o3 RH 176=true:=by kernel_rfl
theorem func200:o3 RH 200=true:=by kernel_rfl
theorem QG:gy RH 65 70 38 424:=gy.mk' (z:=.agg [.int .i64 0,.int .i64 0,.int .i64 0,.int .i64 0,.string Ys,.slice none 0 0,.int .i64 0,.int .i64 0,.int .i64 0,.int .i64 0,.int .i64 0,.int .i64 0,.int .i64 0,.int .i64 0,.int .i64 0,.slice none 0 0,.int .i64 0,.int .i64 0,.int .i64 0,.slice none 0 0,.int .i64 0,.int .i64 0,.int .i64 0,.int .i64 0,.slice none 0 0,.int .i64 0,.int .i64 0,.int .i64 0,.int .i64 0,.int .i64 0,.int .i64 0,.int .i64 0,.int .i64 0,.int .i64 0,.int .i64 0,.slice none 0 0,.slice none 0 0,.slice none 0 0].toArray) Tp (by kernel_rfl) rfl rfl
theorem Ku:gy RH 195 197 4 32:=gy.mk' (z:=.agg [.int .i64 0,.int .i64 0,.int .i64 0,.int .i64 0].toArray) TI (by kernel_rfl) rfl rfl
variable {α:Type} (enc:α->List D)
theorem jd(ls:List (List α))(k:Nat)(h:k<ls.length):(ls.take (k+1)).flatten=(ls.take k).flatten++ls[k]:=by rw[RJ h,UP,Ut]
theorem Qm(w0:R0)(M:Mem)(Γ:List As)(n:Nat)(hn:n<=300000000000) :
   jr RH w0 M Γ 176 #[.slice none 0 0,mj n] (λu M' Γ'=>∃a c,u=.slice a 0 c/\n<=c/\M'=M/\Γ'=.acc (.slice a 0 c) 70 38 0 []::Γ):=by
 refine enter (f:=176) Tryz.func176 rfl Tryz.ntmps176 rfl rfl λw1 hw1=>?_;refine CW.seq λK1 hK1=>?_;refine CW.region ?_;refine RL.q (Y.assign rfl) rfl ?_;refine RL.nil ?_;refine hK1 _ _ _ ?_;refine CW.kp [0,1] rfl ?_;refine CW.seq λK2 hK2=>?_;refine CW.seq λK3 hK3=>?_;refine CW.region ?_;refine RL.q (Y.move rfl) rfl ?_;refine RL.q (Y.lss rfl rfl) rfl ?_;refine RL.nil ?_;refine hK3 _ _ _ ?_;refine CW.kp [0,1,6] rfl ?_;refine CW.ite rfl (λh1=>J3 h1 OM) (λh1=>?_);refine CW.skip ?_;refine hK2 _ _ _ ?_;refine CW.seq λK4 hK4=>?_;refine CW.seq λK5 hK5=>?_;refine CW.region ?_;refine RL.q (Y.move rfl) rfl ?_;refine RL.q (Y.move rfl) rfl ?_;refine RL.q (Y.cap rfl Tp) rfl ?_;refine RL.q (Y.move rfl) rfl ?_;refine RL.q (Y.len rfl Tp) rfl ?_;refine RL.q (Y.sub rfl rfl OM) rfl ?_;refine RL.q (Y.sub rfl rfl OM) rfl ?_;refine RL.q (Y.assign rfl) rfl ?_;refine RL.nil ?_;refine hK5 _ _ _ ?_;refine CW.kp [0,1] rfl ?_;refine CW.seq λK6 hK6=>?_;refine CW.region ?_;refine RL.q (Y.move rfl) rfl ?_;refine RL.q (Y.gtr rfl rfl) rfl ?_;refine RL.nil ?_;refine hK6 _ _ _ ?_;refine CW.kp [0,1,16] rfl ?_;refine CW.ite rfl (λh2=>?_) (λh2=>?_)
 .refine CW.region ?_;refine RL.q (Y.move rfl) rfl ?_;refine RL.q (Y.move rfl) rfl ?_;refine RL.q (Y.cap rfl Tp) rfl ?_;refine RL.q (Y.BX 0 0 rfl ⟨_,rfl,rfl⟩ rfl Q2 (Sc _) (Sc _) I4) rfl ?_;refine RL.q (Y.move rfl) rfl ?_;refine RL.vE n QG Ta rfl rfl OM OM OM (by unfold lim;omega) rfl λb22 c22 us22 hus22 hc22=>?_;refine RL.q (Y.move rfl) rfl ?_;refine RL.q (Y.len rfl Tp) rfl ?_;refine RL.wL (k:=0) (Sy _) ?_;refine RL.q (Y.BX 0 c22 rfl ⟨_,rfl,rfl⟩ rfl Q2 (Sy _) (Sc _) I4) rfl ?_;refine RL.q (Y.assign rfl) rfl ?_;refine RL.nil ?_;refine hK4 _ _ _ ?_;refine CW.kp [0] rfl ?_;refine CW.seq λK7 hK7=>?_;refine CW.region ?_;refine RL.q (Y.move rfl) rfl ?_;refine RL.q (Y.assign rfl) rfl ?_;refine RL.nil ?_;refine hK7 _ _ _ ?_;refine CW.kp [4] rfl ?_;refine CW.ret ?_;exact⟨_,rfl,pk.drop ⟨_,_,rfl,Q0,rfl,rfl⟩ SB⟩
 refine CW.Rp 70 38 ?_;refine CW.skip ?_;refine hK4 _ _ _ ?_;refine CW.seq λK8 hK8=>?_;refine CW.region ?_;refine RL.q (Y.move rfl) rfl ?_;refine RL.q (Y.assign rfl) rfl ?_;refine RL.nil ?_;refine hK8 _ _ _ ?_;refine CW.kp [4] rfl ?_;refine CW.ret ?_;exact⟨_,rfl,pk.drop ⟨_,_,rfl,Q0,rfl,rfl⟩ SB⟩
set_option maxHeartbeats 1000000 in
theorem H6(w0:R0)(M:Mem)(Γ:List As)(p:Addr)(us:List RK)(ls:List (List α))(hc:zy w0 M Γ p us)(hr:bz M (ls.map λl=>D.sl l.length 38 (l.flatMap enc)) us)(hl:ls.length<=1000)(hls:ls.flatten.length<=300000000000)(c0:Nat) :
   jr RH w0 M Γ 92 #[.slice (some p) us.length c0] (λu M' Γ'=>∃a c vs,u=.slice a ls.flatten.length c/\ls.flatten.length<=c/\M'=M/\bz M (ls.flatten.flatMap enc) vs/\Γ'=.acc (.slice a ls.flatten.length c) 70 38 ls.flatten.length vs::Γ):=by
 have yB:us.length=ls.length:=by rw[hr.1];simp
 have htk:∀k,(ls.take k).flatten.length<=300000000000:=λk=>by
   have h:=J4 (λx=>(T6 x).length) (TS k ls)
   grind
 refine enter (f:=92) Tryz.func92 rfl Tryz.ntmps92 rfl rfl λw1 hw1=>?_;refine CW.seq λK1 hK1=>?_;refine CW.region ?_;refine RL.q (Y.assign rfl) rfl ?_;refine RL.nil ?_;refine hK1 _ _ _ ?_;refine CW.kp [0] rfl ?_;refine CW.seq λK2 hK2=>?_;refine CW.region ?_;refine RL.q (Y.assign rfl) rfl ?_;refine RL.nil ?_;refine hK2 _ _ _ ?_;refine CW.kp [0,3] rfl ?_;refine CW.seq λK3 hK3=>?_;refine CW.seq λK4 hK4=>?_;refine CW.region ?_;refine RL.q (Y.move rfl) rfl ?_;refine RL.q (Y.len rfl Xn) rfl ?_;refine RL.q (Y.move rfl) rfl ?_;refine RL.nil ?_;refine hK4 _ _ _ ?_;refine CW.kp [0,3,9,10,11] rfl ?_;refine CW.block ?_
 -- LOOP 1: live [0,3,9,10,11] changed [3,11]
 refine CW.kp [3,11,0,9,10] rfl ?_;refine CW.JS (λm Lc M1 Γc=>∃k:Nat,m=us.length-k/\k<=us.length/\Lc=[(3,mj ((ls.take k).flatten.length:Nat)),(11,mj k)]/\Γc=[]/\M1=M) (us.length) [(3,_),(11,_)] _ rfl rfl ⟨0,rfl,Sy _,rfl,rfl,rfl⟩ ?_;rintro m Lc M Γc hs ⟨k,rfl,hk,rfl,rfl,rfl⟩;refine CW.seq λK5 hK5=>?_;refine CW.region ?_;refine RL.q (Y.lss rfl rfl) rfl ?_;refine RL.nil ?_;refine hK5 _ _ _ ?_;refine CW.kp [0,3,9,10,11,12] rfl ?_;refine CW.seq λK6 hK6=>?_;refine CW.ite rfl (λh1=>?_) (λh1=>?_)
 .have hka:k<us.length:=Q0;have hkl:k<ls.length:=Q0;have hrk:Rd M (.sl ls[k].length 38 (ls[k].flatMap enc)) us[k]:=hr.2 k _ _ (by simp[hkl]) (R5 hka);obtain⟨ak,ck,huk,hck,hlk,_⟩:=hrk.slice;have hgk:us[k]?=some (.slice ak ls[k].length ck):=by rw[R5 hka,huk]
  have htk1:=htk k;have htk2:=htk (k+1);rw[RJ hkl,UP,RS,Ut]at htk2;refine CW.skip ?_;refine hK6 _ _ _ ?_;refine CW.seq λK7 hK7=>?_;refine CW.block ?_;refine CW.seq λK8 hK8=>?_;refine CW.region ?_;refine RL.q (Y.index k rfl rfl rfl hka D0 (λ_ _=>rfl)) rfl ?_;refine RL.q (Y.load (v:=.slice ak ls[k].length ck) rfl Qx (λw hw=>by rw[UG];exact(hc.mono (λ_ h=>h.sub SB)) w hw k _ hgk)) rfl ?_;refine RL.q (Y.assign rfl) rfl ?_;refine RL.nil ?_;refine hK8 _ _ _ ?_;refine CW.kp [0,3,5,9,10,11] rfl ?_;refine CW.seq λK9 hK9=>?_;refine CW.region ?_;refine RL.q (Y.move rfl) rfl ?_;refine RL.q (Y.move rfl) rfl ?_;refine RL.q (Y.len rfl Tp) rfl ?_;refine RL.q (Y.add rfl rfl OM) rfl ?_;refine RL.q (Y.assign rfl) rfl ?_;refine RL.nil ?_;refine hK9 _ _ _ ?_;refine CW.kp [0,3,9,10,11] rfl ?_;refine CW.seq λK10 hK10=>?_;refine CW.region ?_;refine RL.q (Y.move rfl) rfl ?_;refine RL.q (Y.lss rfl rfl) rfl ?_;refine RL.nil ?_;refine hK10 _ _ _ ?_;refine CW.kp [0,3,9,10,11,20] rfl ?_;refine CW.ite rfl (λh2=>J3 h2 OM) (λh2=>?_);refine CW.skip ?_;refine hK7 _ _ _ ?_;refine CW.region ?_;refine RL.q (Y.add rfl rfl OM) rfl ?_;refine RL.q (Y.move rfl) rfl ?_;refine RL.nil ?_;refine⟨us.length-(k+1),[(3,_),(11,_)],?_,(KP [3,11,0,9,10]),?_⟩
  . omega
  . exact pk.drop ⟨[],rfl,hs,k+1,rfl,Q0,by rw[jd ls k hkl,RS] <;> rfl,rfl,rfl⟩ SB
 refine CW.exit ?_;refine hK3 _ _ _ ?_;refine CW.seq λK11 hK11=>?_;obtain rfl:k=us.length:=Q0;rw[show ls.take us.length=ls from by rw[yB,Sl]];refine CW.region ?_;refine RL.q (Y.move rfl) rfl ?_;refine RL.call rfl func176 rfl rfl (by exact Qm _ _ _ ls.flatten.length hls) ?_;rintro v24 M _ ⟨a24,c24,rfl,hc24,rfl,rfl⟩;refine RL.q (Y.assign rfl) rfl ?_;refine RL.nil ?_;refine hK11 _ _ _ ?_;refine CW.kp [0,6] rfl ?_;refine CW.seq λK12 hK12=>?_;refine CW.seq λK13 hK13=>?_;refine CW.region ?_;refine RL.q (Y.move rfl) rfl ?_;refine RL.q (Y.len rfl Xn) rfl ?_;refine RL.q (Y.move rfl) rfl ?_;refine RL.nil ?_;refine hK13 _ _ _ ?_;refine CW.kp [6,25,26,27] rfl ?_;refine CW.block ?_
 -- LOOP 2: live [6,25,26,27] changed [6,27]
 refine CW.kp [6,27,25,26] rfl ?_;refine CW.front (x:=.acc (.slice a24 0 c24) 70 38 0 []) PK ?_;refine CW.JS (λm Lc M1 Γc=>∃(k:Nat) (ua:Option Addr) (ca:Nat) (vs:List RK),m=us.length-k/\k<=us.length/\Lc=[(6,.slice ua (ls.take k).flatten.length ca),(27,mj k)]/\Γc=[.acc (.slice ua (ls.take k).flatten.length ca) 70 38 (ls.take k).flatten.length vs]/\M1=M/\(ls.take k).flatten.length<=ca/\bz M ((ls.take k).flatten.flatMap enc) vs) us.length [(6,_),(27,_)] [_] rfl rfl ⟨0,a24,c24,[],rfl,Sy _,rfl,rfl,rfl,Sy _,bz.nil _⟩ ?_;rintro m Lc M Γc hs2 ⟨k,ua,ca,vs,rfl,hk,rfl,rfl,rfl,hca,hvr⟩;refine CW.seq λK14 hK14=>?_;refine CW.region ?_;refine RL.q (Y.lss rfl rfl) rfl ?_;refine RL.nil ?_;refine hK14 _ _ _ ?_;refine CW.kp [6,25,26,27,28] rfl ?_;refine CW.seq λK15 hK15=>?_;refine CW.ite rfl (λh3=>?_) (λh3=>?_)
 .have hka:k<us.length:=Q0;have hkl:k<ls.length:=Q0;have hrk:Rd M (.sl ls[k].length 38 (ls[k].flatMap enc)) us[k]:=hr.2 k _ _ (by simp[hkl]) (R5 hka);obtain⟨ak,ck,huk,hck,hlk,_⟩:=hrk.slice;have hgk:us[k]?=some (.slice ak ls[k].length ck):=by rw[R5 hka,huk]
  have htk1:=htk k;have htk2:=htk (k+1);rw[RJ hkl,UP,RS,Ut]at htk2;rw[huk]at hrk;refine CW.addRd hrk ?_;refine CW.skip ?_;refine hK15 _ _ _ ?_;refine CW.seq λK16 hK16=>?_;refine CW.block ?_;refine CW.seq λK17 hK17=>?_;refine CW.region ?_;refine RL.q (Y.index k rfl rfl rfl hka D0 (λ_ _=>rfl)) rfl ?_;refine RL.q (Y.load (v:=.slice ak ls[k].length ck) rfl Qx (λw hw=>by rw[UG];exact(hc.mono (λ_ h=>h.sub SB)) w hw k _ hgk)) rfl ?_;refine RL.q (Y.assign rfl) rfl ?_;refine RL.nil ?_;refine hK17 _ _ _ ?_;refine CW.kp [6,8,25,26,27] rfl ?_;refine CW.region ?_;refine RL.q (Y.move rfl) rfl ?_;refine RL.q (Y.move rfl) rfl ?_;refine RL.Gg QG rfl rfl PK MM OM (by unfold lim;omega) rfl λa33 c33 n33 hc33 hn33=>?_;refine RL.q (Y.assign rfl) rfl ?_;refine RL.nil ?_;refine hK16 _ _ _ ?_;refine CW.kp [6,25,26,27] rfl ?_;refine CW.region ?_;refine RL.q (Y.add rfl rfl OM) rfl ?_;refine RL.q (Y.move rfl) rfl ?_;refine RL.nil ?_;have e33:(ls.take (k+1)).flatten.length=(ls.take k).flatten.length+ls[k].length:=by rw[jd ls k hkl,RS]
  refine⟨us.length-(k+1),[(6,_),(27,_)],?_,(KP [6,27,25,26]),?_⟩
  . omega
  . refine pk.drop (Γ':=[.acc (.slice a33 ((ls.take k).flatten.length+ls[k].length) c33) 70 38 ((ls.take k).flatten.length+ls[k].length) (vs++n33)]++_) ⟨_,rfl,hs2,k+1,a33,c33,vs++n33,rfl,Q0,by rw[e33] <;> rfl,by rw[e33],rfl,Q0,?_⟩ SB
    rw[jd ls k hkl,Sd];exact hvr.append hn33
 refine CW.exit ?_;refine hK12 _ _ _ ?_;refine CW.seq λK18 hK18=>?_;refine CW.region ?_;refine RL.q (Y.move rfl) rfl ?_;refine RL.q (Y.assign rfl) rfl ?_;refine RL.nil ?_;refine hK18 _ _ _ ?_;refine CW.kp [2] rfl ?_;refine CW.ret ?_;obtain rfl:k=us.length:=Q0;rw[show ls.take us.length=ls from by rw[yB,Sl]]at hca hvr ⊢;exact⟨_,rfl,pk.drop ⟨_,_,vs,rfl,hca,rfl,hvr,rfl⟩ SB⟩
theorem Ql(w0:R0)(M:Mem)(Γ:List As)(n:Nat)(hn:n<=100000000000) :
   jr RH w0 M Γ 200 #[.slice none 0 0,mj n] (λu M' Γ'=>∃a c,u=.slice a 0 c/\n<=c/\M'=M/\Γ'=.acc (.slice a 0 c) 197 4 0 []::Γ):=by
 refine enter (f:=200) Tryz.func200 rfl Tryz.ntmps200 rfl rfl λw1 hw1=>?_;refine CW.seq λK1 hK1=>?_;refine CW.region ?_;refine RL.q (Y.assign rfl) rfl ?_;refine RL.nil ?_;refine hK1 _ _ _ ?_;refine CW.kp [0,1] rfl ?_;refine CW.seq λK2 hK2=>?_;refine CW.seq λK3 hK3=>?_;refine CW.region ?_;refine RL.q (Y.move rfl) rfl ?_;refine RL.q (Y.lss rfl rfl) rfl ?_;refine RL.nil ?_;refine hK3 _ _ _ ?_;refine CW.kp [0,1,6] rfl ?_;refine CW.ite rfl (λh1=>J3 h1 OM) (λh1=>?_);refine CW.skip ?_;refine hK2 _ _ _ ?_;refine CW.seq λK4 hK4=>?_;refine CW.seq λK5 hK5=>?_;refine CW.region ?_;refine RL.q (Y.move rfl) rfl ?_;refine RL.q (Y.move rfl) rfl ?_;refine RL.q (Y.cap rfl TI) rfl ?_;refine RL.q (Y.move rfl) rfl ?_;refine RL.q (Y.len rfl TI) rfl ?_;refine RL.q (Y.sub rfl rfl OM) rfl ?_;refine RL.q (Y.sub rfl rfl OM) rfl ?_;refine RL.q (Y.assign rfl) rfl ?_;refine RL.nil ?_;refine hK5 _ _ _ ?_;refine CW.kp [0,1] rfl ?_;refine CW.seq λK6 hK6=>?_;refine CW.region ?_;refine RL.q (Y.move rfl) rfl ?_;refine RL.q (Y.gtr rfl rfl) rfl ?_;refine RL.nil ?_;refine hK6 _ _ _ ?_;refine CW.kp [0,1,16] rfl ?_;refine CW.ite rfl (λh2=>?_) (λh2=>?_)
 .refine CW.region ?_;refine RL.q (Y.move rfl) rfl ?_;refine RL.q (Y.move rfl) rfl ?_;refine RL.q (Y.cap rfl TI) rfl ?_;refine RL.q (Y.BX 0 0 rfl ⟨_,rfl,rfl⟩ rfl Q2 (Sc _) (Sc _) D1) rfl ?_;refine RL.q (Y.move rfl) rfl ?_;refine RL.vE n Ku Ta rfl rfl OM OM OM (by unfold lim;omega) rfl λb22 c22 us22 hus22 hc22=>?_;refine RL.q (Y.move rfl) rfl ?_;refine RL.q (Y.len rfl TI) rfl ?_;refine RL.wL (k:=0) (Sy _) ?_;refine RL.q (Y.BX 0 c22 rfl ⟨_,rfl,rfl⟩ rfl Q2 (Sy _) (Sc _) D1) rfl ?_;refine RL.q (Y.assign rfl) rfl ?_;refine RL.nil ?_;refine hK4 _ _ _ ?_;refine CW.kp [0] rfl ?_;refine CW.seq λK7 hK7=>?_;refine CW.region ?_;refine RL.q (Y.move rfl) rfl ?_;refine RL.q (Y.assign rfl) rfl ?_;refine RL.nil ?_;refine hK7 _ _ _ ?_;refine CW.kp [4] rfl ?_;refine CW.ret ?_;exact⟨_,rfl,pk.drop ⟨_,_,rfl,Q0,rfl,rfl⟩ SB⟩
 refine CW.Rp 197 4 ?_;refine CW.skip ?_;refine hK4 _ _ _ ?_;refine CW.seq λK8 hK8=>?_;refine CW.region ?_;refine RL.q (Y.move rfl) rfl ?_;refine RL.q (Y.assign rfl) rfl ?_;refine RL.nil ?_;refine hK8 _ _ _ ?_;refine CW.kp [4] rfl ?_;refine CW.ret ?_;exact⟨_,rfl,pk.drop ⟨_,_,rfl,Q0,rfl,rfl⟩ SB⟩
set_option maxHeartbeats 1000000 in
theorem H5(w0:R0)(M:Mem)(Γ:List As)(p:Addr)(us:List RK)(ls:List (List α))(hc:zy w0 M Γ p us)(hr:bz M (ls.map λl=>D.sl l.length 4 (l.flatMap enc)) us)(hl:ls.length<=1000)(hls:ls.flatten.length<=100000000000)(c0:Nat) :
   jr RH w0 M Γ 154 #[.slice (some p) us.length c0] (λu M' Γ'=>∃a c vs,u=.slice a ls.flatten.length c/\ls.flatten.length<=c/\M'=M/\bz M (ls.flatten.flatMap enc) vs/\Γ'=.acc (.slice a ls.flatten.length c) 197 4 ls.flatten.length vs::Γ):=by
 have yB:us.length=ls.length:=by rw[hr.1];simp
 have htk:∀k,(ls.take k).flatten.length<=100000000000:=λk=>by
   have h:=J4 (λx=>(T6 x).length) (TS k ls)
   grind
 refine enter (f:=154) Tryz.func154 rfl Tryz.ntmps154 rfl rfl λw1 hw1=>?_;refine CW.seq λK1 hK1=>?_;refine CW.region ?_;refine RL.q (Y.assign rfl) rfl ?_;refine RL.nil ?_;refine hK1 _ _ _ ?_;refine CW.kp [0] rfl ?_;refine CW.seq λK2 hK2=>?_;refine CW.region ?_;refine RL.q (Y.assign rfl) rfl ?_;refine RL.nil ?_;refine hK2 _ _ _ ?_;refine CW.kp [0,3] rfl ?_;refine CW.seq λK3 hK3=>?_;refine CW.seq λK4 hK4=>?_;refine CW.region ?_;refine RL.q (Y.move rfl) rfl ?_;refine RL.q (Y.len rfl Xo) rfl ?_;refine RL.q (Y.move rfl) rfl ?_;refine RL.nil ?_;refine hK4 _ _ _ ?_;refine CW.kp [0,3,9,10,11] rfl ?_;refine CW.block ?_
 -- LOOP 1: live [0,3,9,10,11] changed [3,11]
 refine CW.kp [3,11,0,9,10] rfl ?_;refine CW.JS (λm Lc M1 Γc=>∃k:Nat,m=us.length-k/\k<=us.length/\Lc=[(3,mj ((ls.take k).flatten.length:Nat)),(11,mj k)]/\Γc=[]/\M1=M) (us.length) [(3,_),(11,_)] _ rfl rfl ⟨0,rfl,Sy _,rfl,rfl,rfl⟩ ?_;rintro m Lc M Γc hs ⟨k,rfl,hk,rfl,rfl,rfl⟩;refine CW.seq λK5 hK5=>?_;refine CW.region ?_;refine RL.q (Y.lss rfl rfl) rfl ?_;refine RL.nil ?_;refine hK5 _ _ _ ?_;refine CW.kp [0,3,9,10,11,12] rfl ?_;refine CW.seq λK6 hK6=>?_;refine CW.ite rfl (λh1=>?_) (λh1=>?_)
 .have hka:k<us.length:=Q0;have hkl:k<ls.length:=Q0;have hrk:Rd M (.sl ls[k].length 4 (ls[k].flatMap enc)) us[k]:=hr.2 k _ _ (by simp[hkl]) (R5 hka);obtain⟨ak,ck,huk,hck,hlk,_⟩:=hrk.slice;have hgk:us[k]?=some (.slice ak ls[k].length ck):=by rw[R5 hka,huk]
  have htk1:=htk k;have htk2:=htk (k+1);rw[RJ hkl,UP,RS,Ut]at htk2;refine CW.skip ?_;refine hK6 _ _ _ ?_;refine CW.seq λK7 hK7=>?_;refine CW.block ?_;refine CW.seq λK8 hK8=>?_;refine CW.region ?_;refine RL.q (Y.index k rfl rfl rfl hka DZ (λ_ _=>rfl)) rfl ?_;refine RL.q (Y.load (v:=.slice ak ls[k].length ck) rfl Ko (λw hw=>by rw[UG];exact(hc.mono (λ_ h=>h.sub SB)) w hw k _ hgk)) rfl ?_;refine RL.q (Y.assign rfl) rfl ?_;refine RL.nil ?_;refine hK8 _ _ _ ?_;refine CW.kp [0,3,5,9,10,11] rfl ?_;refine CW.seq λK9 hK9=>?_;refine CW.region ?_;refine RL.q (Y.move rfl) rfl ?_;refine RL.q (Y.move rfl) rfl ?_;refine RL.q (Y.len rfl TI) rfl ?_;refine RL.q (Y.add rfl rfl OM) rfl ?_;refine RL.q (Y.assign rfl) rfl ?_;refine RL.nil ?_;refine hK9 _ _ _ ?_;refine CW.kp [0,3,9,10,11] rfl ?_;refine CW.seq λK10 hK10=>?_;refine CW.region ?_;refine RL.q (Y.move rfl) rfl ?_;refine RL.q (Y.lss rfl rfl) rfl ?_;refine RL.nil ?_;refine hK10 _ _ _ ?_;refine CW.kp [0,3,9,10,11,20] rfl ?_;refine CW.ite rfl (λh2=>J3 h2 OM) (λh2=>?_);refine CW.skip ?_;refine hK7 _ _ _ ?_;refine CW.region ?_;refine RL.q (Y.add rfl rfl OM) rfl ?_;refine RL.q (Y.move rfl) rfl ?_;refine RL.nil ?_;refine⟨us.length-(k+1),[(3,_),(11,_)],?_,(KP [3,11,0,9,10]),?_⟩
  . omega
  . exact pk.drop ⟨[],rfl,hs,k+1,rfl,Q0,by rw[jd ls k hkl,RS] <;> rfl,rfl,rfl⟩ SB
 refine CW.exit ?_;refine hK3 _ _ _ ?_;refine CW.seq λK11 hK11=>?_;obtain rfl:k=us.length:=Q0;rw[show ls.take us.length=ls from by rw[yB,Sl]];refine CW.region ?_;refine RL.q (Y.move rfl) rfl ?_;refine RL.call rfl func200 rfl rfl (by exact Ql _ _ _ ls.flatten.length hls) ?_;rintro v24 M _ ⟨a24,c24,rfl,hc24,rfl,rfl⟩;refine RL.q (Y.assign rfl) rfl ?_;refine RL.nil ?_;refine hK11 _ _ _ ?_;refine CW.kp [0,6] rfl ?_;refine CW.seq λK12 hK12=>?_;refine CW.seq λK13 hK13=>?_;refine CW.region ?_;refine RL.q (Y.move rfl) rfl ?_;refine RL.q (Y.len rfl Xo) rfl ?_;refine RL.q (Y.move rfl) rfl ?_;refine RL.nil ?_;refine hK13 _ _ _ ?_;refine CW.kp [6,25,26,27] rfl ?_;refine CW.block ?_
 -- LOOP 2: live [6,25,26,27] changed [6,27]
 refine CW.kp [6,27,25,26] rfl ?_;refine CW.front (x:=.acc (.slice a24 0 c24) 197 4 0 []) PK ?_;refine CW.JS (λm Lc M1 Γc=>∃(k:Nat) (ua:Option Addr) (ca:Nat) (vs:List RK),m=us.length-k/\k<=us.length/\Lc=[(6,.slice ua (ls.take k).flatten.length ca),(27,mj k)]/\Γc=[.acc (.slice ua (ls.take k).flatten.length ca) 197 4 (ls.take k).flatten.length vs]/\M1=M/\(ls.take k).flatten.length<=ca/\bz M ((ls.take k).flatten.flatMap enc) vs) us.length [(6,_),(27,_)] [_] rfl rfl ⟨0,a24,c24,[],rfl,Sy _,rfl,rfl,rfl,Sy _,bz.nil _⟩ ?_;rintro m Lc M Γc hs2 ⟨k,ua,ca,vs,rfl,hk,rfl,rfl,rfl,hca,hvr⟩;refine CW.seq λK14 hK14=>?_;refine CW.region ?_;refine RL.q (Y.lss rfl rfl) rfl ?_;refine RL.nil ?_;refine hK14 _ _ _ ?_;refine CW.kp [6,25,26,27,28] rfl ?_;refine CW.seq λK15 hK15=>?_;refine CW.ite rfl (λh3=>?_) (λh3=>?_)
 .have hka:k<us.length:=Q0;have hkl:k<ls.length:=Q0;have hrk:Rd M (.sl ls[k].length 4 (ls[k].flatMap enc)) us[k]:=hr.2 k _ _ (by simp[hkl]) (R5 hka);obtain⟨ak,ck,huk,hck,hlk,_⟩:=hrk.slice;have hgk:us[k]?=some (.slice ak ls[k].length ck):=by rw[R5 hka,huk]
  have htk1:=htk k;have htk2:=htk (k+1);rw[RJ hkl,UP,RS,Ut]at htk2;rw[huk]at hrk;refine CW.addRd hrk ?_;refine CW.skip ?_;refine hK15 _ _ _ ?_;refine CW.seq λK16 hK16=>?_;refine CW.block ?_;refine CW.seq λK17 hK17=>?_;refine CW.region ?_;refine RL.q (Y.index k rfl rfl rfl hka DZ (λ_ _=>rfl)) rfl ?_;refine RL.q (Y.load (v:=.slice ak ls[k].length ck) rfl Ko (λw hw=>by rw[UG];exact(hc.mono (λ_ h=>h.sub SB)) w hw k _ hgk)) rfl ?_;refine RL.q (Y.assign rfl) rfl ?_;refine RL.nil ?_;refine hK17 _ _ _ ?_;refine CW.kp [6,8,25,26,27] rfl ?_;refine CW.region ?_;refine RL.q (Y.move rfl) rfl ?_;refine RL.q (Y.move rfl) rfl ?_;refine RL.Gg Ku rfl rfl PK MM OM (by unfold lim;omega) rfl λa33 c33 n33 hc33 hn33=>?_;refine RL.q (Y.assign rfl) rfl ?_;refine RL.nil ?_;refine hK16 _ _ _ ?_;refine CW.kp [6,25,26,27] rfl ?_;refine CW.region ?_;refine RL.q (Y.add rfl rfl OM) rfl ?_;refine RL.q (Y.move rfl) rfl ?_;refine RL.nil ?_;have e33:(ls.take (k+1)).flatten.length=(ls.take k).flatten.length+ls[k].length:=by rw[jd ls k hkl,RS]
  refine⟨us.length-(k+1),[(6,_),(27,_)],?_,(KP [6,27,25,26]),?_⟩
  . omega
  . refine pk.drop (Γ':=[.acc (.slice a33 ((ls.take k).flatten.length+ls[k].length) c33) 197 4 ((ls.take k).flatten.length+ls[k].length) (vs++n33)]++_) ⟨_,rfl,hs2,k+1,a33,c33,vs++n33,rfl,Q0,by rw[e33] <;> rfl,by rw[e33],rfl,Q0,?_⟩ SB
    rw[jd ls k hkl,Sd];exact hvr.append hn33
 refine CW.exit ?_;refine hK12 _ _ _ ?_;refine CW.seq λK18 hK18=>?_;refine CW.region ?_;refine RL.q (Y.move rfl) rfl ?_;refine RL.q (Y.assign rfl) rfl ?_;refine RL.nil ?_;refine hK18 _ _ _ ?_;refine CW.kp [2] rfl ?_;refine CW.ret ?_;obtain rfl:k=us.length:=Q0;rw[show ls.take us.length=ls from by rw[yB,Sl]]at hca hvr ⊢;exact⟨_,rfl,pk.drop ⟨_,_,vs,rfl,hca,rfl,hvr,rfl⟩ SB⟩
end Go.Proofs.YtmbboaapillefaaGreatDoor
namespace Go.Proofs.YtmbboaapillefaaGreatDoor
open Go Xe Pm
theorem catP_is(a b c d:List ao)(h:a.length+b.length+c.length+d.length<=300000000000):IS s92 [[.sl 4 1 [dP a,dP b,dP c,dP d]]] [[dP (a++b++c++d)]]:=by
 refine uv (e:=70) (sz:=38) rfl rfl rfl (by grind [lim,RS]) ?_;intro w0 M Γ vs hlen hpl hN;obtain⟨v,rfl⟩:∃v,vs=[v]:=by
  match vs,hlen with
  |[v],_=>exact⟨v,rfl⟩
 obtain h0|⟨_,h0,h1⟩:=hpl 0
 .cases h0
 cases h0;have hr:Rd M (.sl 4 1 [dP a,dP b,dP c,dP d]) v:=h1;unfold Rd at hr;obtain⟨ad,cap,rfl,hnc,hcm,hnl,hdl,hsm,hrc⟩:=hr;cases ad with
 |none=>exact J3 (hsm Q1) Q2
 |some p =>
  obtain⟨us,hus,hcl⟩:=xO hrc;have yB:us.length=4:=hus.1;have hfl:[a,b,c,d].flatten=a++b++c++d:=Q2
  have hcon:=H6 ao.enc w0 M Γ p us [a,b,c,d] (λw hw j u hj=>by
   have h5:=hcl j u hj;rw[Sz]at h5
   exact hw.cell h5) hus Q2 (by grind) cap
  rw[yB,hfl]at hcon;intro w hw;refine(hcon w hw).mono ?_;rintro e w' ⟨u,M',Γ',rfl,⟨a1,c1,vs1,rfl,_,rfl,hrd,rfl⟩,hst⟩;exact⟨_,_,_,rfl,⟨a1,c1,vs1,rfl,Sub.refl _,rfl,hrd,by rw[hrd.1];exact eS (sz:=38) ao.aP _⟩,hst⟩
theorem catV_is(a b:List eP)(h:a.length+b.length<=100000000000):IS Lt [[.sl 2 1 [dV a,dV b]]] [[dV (a++b)]]:=by
 refine uv (e:=197) (sz:=4) rfl rfl rfl (by grind [lim,RS]) ?_;intro w0 M Γ vs hlen hpl hN;obtain⟨v,rfl⟩:∃v,vs=[v]:=by
  match vs,hlen with
  |[v],_=>exact⟨v,rfl⟩
 obtain h0|⟨_,h0,h1⟩:=hpl 0
 .cases h0
 cases h0;have hr:Rd M (.sl 2 1 [dV a,dV b]) v:=h1;unfold Rd at hr;obtain⟨ad,cap,rfl,hnc,hcm,hnl,hdl,hsm,hrc⟩:=hr;cases ad with
 |none=>exact J3 (hsm Q1) Q2
 |some p =>
  obtain⟨us,hus,hcl⟩:=xO hrc;have yB:us.length=2:=hus.1;have hfl:[a,b].flatten=a++b:=Q2
  have hcon:=H5 vG w0 M Γ p us [a,b] (λw hw j u hj=>by
   have h5:=hcl j u hj;rw[Sz]at h5
   exact hw.cell h5) hus Q2 (by grind) cap
  rw[yB,hfl]at hcon;intro w hw;refine(hcon w hw).mono ?_;rintro e w' ⟨u,M',Γ',rfl,⟨a1,c1,vs1,rfl,_,rfl,hrd,rfl⟩,hst⟩;exact⟨_,_,_,rfl,⟨a1,c1,vs1,rfl,Sub.refl _,rfl,hrd,by rw[hrd.1];exact eS (sz:=4) Dw _⟩,hst⟩
noncomputable def partsOk:Dm:=⟨DG,xc,catP_is,NU⟩
noncomputable def yq:LibOk:=⟨F0,partsOk,Le⟩
theorem G4{wd:ByteArray->Bool}{p:au}(hf:IS s44 [p.enc] [[.sl 0 6 []]])(H:Iv wd p):IS s12 [p.enc] [[gu (fZ (gf (dY wd p)))]]:=Er F0 mr catV_is Lg hf H
end Go.Proofs.YtmbboaapillefaaGreatDoor
namespace Pm
open Go Xe
theorem HF{P:Program}{f:Nat}{b:Bool}{x:RK}(h:Gn P f [.c (.d (.v x))] [] (.c (.d (.v (.bool b)))) []):Is P ⟨f,⟨[(0,.c .d)],[]⟩,.c .bo,[],false⟩ [[.v x]] [[.v (.bool b)]]:=by
 show IA P ⟨f,⟨[(0,.c .d)],[]⟩,.c .bo,[],false⟩ ⟨λi=>match RN i 0 with
  |true=>.c (.d (.v x))
  |false=>su,λ_=>none,0⟩ [[.v (.bool b)]]
 intro w0 Γ0 ρ M lst vs w hl hρ hR;obtain⟨v,rfl⟩:∃v,vs=[v]:=by
  match vs,hl with
  |[v],_=>exact⟨v,rfl⟩
 have h0:SR M ρ (.c (.d (.v x))) v:=by
  rcases hR.sl 0 with h1|⟨u,h1,h2⟩
  .cases h1
  .have h1:some v=some u:=h1
   grind
 refine(h w0 Γ0 ρ M lst [v] w ⟨h0,trivial⟩ ⟨λt=>.inl rfl,λb o h=>(by cases h),λb v hb=>hR.vZ b v hb,hR.gq,hR.nd,hR.st,hR.gr⟩).mono ?_;rintro e w' ⟨u,ρ',M',lst',rfl,hM,_,hs,hR2⟩;have hnone:∀i v,ρ' i≠some v:=λi v hi=>by
  rcases hR2.vZ i v hi with h1|h1
  .grind
  .cases h1
 have hlst:lst'=[]:=by
  cases lst' with
  |nil=>rfl
  |cons p l=>obtain⟨v,hv⟩:=Option.isSome_iff_exists.1 (hR2.gq p (RG ..));exact J3 hv (hnone _ _)
 subst hlst
 refine⟨u,[u],λ_=>none,M',[],⟨λk=>match RN k 0 with
  |true=>.c (.d (.v (.bool b)))
  |false=>su,λ_=>none,0⟩,rfl,rfl,hM,λi v hi hm=>(by cases hm),λi hi=>(by cases hi),λp hp=>(by cases hp),rfl,⟨λt=>?_,λb o h=>(by cases h),λb v hb=>(by cases hb),λp hp=>(by cases hp),List.nodup_nil,hR2.st,hR2.gr⟩⟩
 dsimp only;split
 .rename_i ht;obtain rfl:=Nat.eq_of_beq_eq_true ht;exact .inr ⟨u,rfl,hs⟩
 .exact .inl rfl
end Pm
namespace Go.Proofs.YtmbboaapillefaaGreatDoor
open Go Xe Pm
set_option maxRecDepth 100000
def tbW:Tb:=⟨[],[42],[],[],lF,lE,true,gh,false,true,[]⟩
noncomputable def runW(s:List UInt8):Option (S×List (Nat×O)):=evH 40 RH tbW (λ_ _ _ _=>none) 40 1 144 [.c (.d (.v (bs s)))] []
def isT:Option (S×List (Nat×O))->Bool
 |some (.c (.d (.v (.bool true))),[])=>true
 |_=>false
theorem isT_ok{x:Option (S×List (Nat×O))}(h:isT x=true):x=some (.c (.d (.v (.bool true))),[]):=by
 unfold isT at h
 grind
def jc:List (List UInt8):=[[117],[117,49],[117,50],[117,51],[117,52],[117,53],[117,54],[117,55],[118],[118,49],[118,50],[118,51],[118,52],[118,53],[118,54],[118,55],[119],[119,49],[119,50],[119,51],[119,52],[119,53],[119,54],[119,55],[80,111,105,110,116],[69,118,101,110,116],[83,116,97,116,101],[79,117,116],[102],[103],[115,116,101,112],[116],[99],[120],[121],[122],[84,105,99,107],[80,117,115,104],[83,101,116],[99,111,117,110,116],[108,111,103],[109,111,114,101],[97],[98],[115],[101],[111,108,100],[115,116,97,116,101],[115,105,103,110,97,108,115],[110,101,120,116],[99,111,114,101],[109,105,108,108],[109]]
noncomputable def okW(s:List UInt8):Bool:=isT (runW s)
theorem wr0:((jc.take 13).all okW)=true:=by kernel_rfl
theorem wr1:(((jc.drop 13).take 13).all okW)=true:=by kernel_rfl
theorem wr2:(((jc.drop 26).take 13).all okW)=true:=by kernel_rfl
theorem wr3:((jc.drop 39).all okW)=true:=by kernel_rfl
theorem KS:(jc.all okW)=true:=by have e:jc=jc.take 13++((jc.drop 13).take 13++((jc.drop 26).take 13++jc.drop 39)):=rfl;rw[e,XH,XH,XH,wr0,wr1,wr2,wr3];rfl
def fF:List ByteArray:=jc.map λs=>⟨s.toArray⟩
theorem vR{b:ByteArray}(h:b∈fF):IS qQ [[bM b]] [[vB true]]:=by obtain⟨s,hs,rfl⟩:=R3.1 h;exact HF (QE (NN ..) (λ_ _ _ _ _ _ h=>by cases h) Px 40 _ _ _ _ _ _ (isT_ok (List.all_eq_true.1 KS s hs)))
theorem app_ba(s t:List UInt8):(⟨s.toArray⟩:ByteArray)++⟨t.toArray⟩=⟨(s++t).toArray⟩:=by apply ByteArray.ext;simp
def nmA:List (List UInt8):=[[117],[118],[119]]
def nmB:List (List UInt8):=[[],[49],[50],[51],[52],[53],[54],[55]]
theorem nm_word:∀x∈nmA,∀y∈nmB,x++y∈jc:=Q1
theorem word_nm{b:ByteArray}(h:ME b):b∈fF:=by obtain⟨x,hx,y,hy,rfl⟩:=h;have e1:nm1=nmA.map λs=>⟨s.toArray⟩:=rfl;have e2:nm2=nmB.map λs=>⟨s.toArray⟩:=rfl;rw[e1]at hx;rw[e2]at hy;obtain⟨s,hs,rfl⟩:=R3.1 hx;obtain⟨t,ht,rfl⟩:=R3.1 hy;rw[app_ba];exact R3.2 ⟨_,nm_word s hs t ht,rfl⟩
theorem wC{L:List ao}(hn:(L.map ao.id).Nodup){x:ao}(hx:x∈L):L.find? (λy=>decide (x.id=y.id))=some x:=by
 induction L with
 |nil=>cases hx
 |cons y L ih =>
  rw[Sb,SG]at hn;rw[VI];rcases RO.1 hx with rfl|hx
  .simp
  .have:¬x.id=y.id:=λe=>hn.1 (by grind);rw[J6 this];exact ih hn.2 hx
structure CanL(A:List ao)(q:au):Prop where
 nodup:(A.map ao.id).Nodup
 pm:(A.filter λx=>decide (x.kind=0)).Perm (q.aw.map fe)
 pd:(A.filter λx=>decide (x.kind=2)).Perm (q.aa.map cM)
 ps:∀d∈q.aa,(A.filter λx=>decide (x.kind=3) && decide (x.uw=d.id)).Perm (cH d)
 pn:∀e∈aT (aQ q.aa),jF e∈A
structure Can(q:au):Prop where
 mi:iY (q.aw.map aO.id)
 di:iY (q.aa.map an.id)
 pl:∀d∈q.aa,d.bm=0
 sl:∀d∈q.aa,d.ah.Pairwise λa b=>a.bm<b.bm
 sn:∀d∈q.aa,(d.ah.map aC.id).Nodup
 md:∀m∈q.aw,m.aa=(q.aa.filter λd=>decide (d.mod=m.id)).map an.id
 im:∀d∈q.aa,∃m∈q.aw,m.id=d.mod
 us:∀m∈q.aw,iY m.cZ/\∀u∈m.cZ,∃m'∈q.aw,m'.id=u
 bare:∀d∈q.aa,¬dR d.kind=true->d.body=o7
 nn:((aT (aQ q.aa)).map Ex.id).Nodup
 lim:LimP q
theorem wv{α:Type}{f:α->av}{l:List α}(h:iY (l.map f)):l.Pairwise λa b=>iV (f a) (f b)=true:=S4.1 h
theorem PE{A l:List ao}{q:au}(hc:Can q)(hA:CanL A q)(hl:l.Perm A)(hlen:A.length<=1000000000000):Dn l q:=by
 have hlf:∀(f:ao->Bool) (R Q:List ao),(A.filter f).Perm R->Q.Perm (l.filter f)->R.Perm Q/\Q.length<=1000000000000:=λf R Q hR hQ=>by
  have h1:Q.Perm R:=(hQ.trans (hl.filter f)).trans hR;refine⟨h1.symm,?_⟩;have:=hQ.length_eq;have:=(hl.filter f).length_eq
  grind
 have hnd:(l.map ao.id).Nodup:=(hl.map ao.id).nodup_iff.2 hA.nodup;have hmod:∀i,(∃m∈q.aw,m.id=i)->kf l i 0=true:=by
  rintro i ⟨m,hm,rfl⟩;have h1:fe m∈l:=by
   have:=hA.pm.mem_iff.2 (R3.2 ⟨m,hm,rfl⟩)
   grind
  have h2:l.find? (λy=>decide (m.id=y.id))=some (fe m):=wC hnd h1;unfold kf;rw[h2];rfl
 refine⟨hnd,λQ hQ=>?_,λQ hQ=>?_,λd hd Q hQ=>?_,λm hm=>?_,λd hd=>hmod _ (hc.im d hd),λm hm=>⟨(hc.us m hm).1,λu hu=>hmod _ ((hc.us m hm).2 u hu)⟩,λe he=>?_,hc.nn,hc.bare⟩
 .obtain⟨h1,h2⟩:=hlf _ _ Q hA.pm hQ;exact Ai Q _ h2 h1 (S4.2 (wv hc.mi))
 .obtain⟨h1,h2⟩:=hlf _ _ Q hA.pd hQ;exact Ai Q _ h2 h1 (S4.2 (wv hc.di))
 .obtain⟨h1,h2⟩:=hlf _ _ Q (hA.ps d hd) hQ;refine xh Q _ h2 h1 (S4.2 (We (fun{a b} h=>oP.2 (.inl h)) (hc.sl d hd))) ?_;unfold cH;rw[SP];exact hc.sn d hd
 .have hR:(A.filter λx=>decide (x.kind=2) && decide (x.uw=m.id)).Perm ((q.aa.filter λd=>decide (d.mod=m.id)).map cM):=by have h1:=hA.pd.filter λx=>decide (x.uw=m.id);rw[YQ,WX]at h1;refine(List.Perm.of_eq ?_).trans h1;exact List.filter_congr λx _=>Bool.and_comm _ _
  refine⟨(q.aa.filter λd=>decide (d.mod=m.id)).map cM,by rw[hc.md m hm,SP];rfl,λQ hQ=>?_⟩;obtain⟨h1,h2⟩:=hlf _ _ Q hR hQ;have h3:(q.aa.filter λd=>decide (d.mod=m.id)).Pairwise λa b=>iV a.id b.id=true:=(wv hc.di).filter _;refine xh Q _ h2 h1 (S4.2 (Xh (fun{a b} ha hb h=>oP.2 (.inr ⟨?_,h⟩)) h3)) ?_
  .show a.bm=b.bm;rw[hc.pl a (Sp.1 ha).1,hc.pl b (Sp.1 hb).1]
  .rw[SP];exact fY (S4.2 h3)
 .exact wC hnd (hl.mem_iff.2 (hA.pn e he))
theorem jj{α:Type}{f:α->Bool}{l:List α}(h:∀x∈l,f x=true):l.filter f=l:=List.filter_eq_self.2 h
theorem eN{α:Type}{f:α->Bool}{l:List α}(h:∀x∈l,f x=false):l.filter f=[]:=List.filter_eq_nil_iff.2 λx hx=>by grind
theorem Fm{β:Type}{f:an->List β}{g:β->Bool}{d:an}(hg:∀x∈f d,g x=true):∀{ds:List an},(ds.map an.id).Nodup->(∀e∈ds,e.id≠d.id->∀x∈f e,g x=false)->d∈ds->(ds.flatMap f).filter g=f d
 |[],_,_,hd=>by cases hd
 |e::ds,hn,hno,hd=>by
  rw[Sb,SG]at hn;rw[RT,SS];rcases RO.1 hd with rfl|hd
  .rw[jj hg,eN,RW]
   grind
  .rw[eN (hno e (RG ..) λh=>hn.1 (by grind)),Sv];exact Fm hg hn.2 (λy hy=>hno y (RM _ hy)) hd
theorem gY:∀l:List Ex,aT l=l.flatMap bV
 |[]=>rfl
 |e::l=>by rw[aT,RT,gY l]
theorem xD(ds:List an):(aT (aQ ds)).map jF=ds.flatMap fb:=by
 rw[gY];unfold aQ;induction ds with
 |nil=>rfl
 |cons d ds ih =>
  rw[RT,<-ih,Va];unfold fb;split
  .rw[Sb,RT,Si]
  .rw[Sv]
theorem AM{ds:List an}{x:ao}(h:x∈ds.flatMap cH):x.kind=3:=by obtain⟨d,_,h⟩:=TO.1 h;obtain⟨s,_,rfl⟩:=R3.1 h;rfl
theorem um{ds:List an}{x:ao}(h:x∈ds.flatMap fb):x.kind=4:=by rw[<-xD]at h;obtain⟨e,_,rfl⟩:=R3.1 h;rfl
theorem kinds0(q:au)(f:ao->Bool)(h:∀x,x.kind≠0->f x=false):(bb q).filter f=(q.aw.map fe).filter f:=by
 unfold bb;rw[SS,SS,SS,eN (l:=q.aa.map cM),eN (l:=q.aa.flatMap cH),eN (l:=q.aa.flatMap fb),RW,RW,RW]
 .grind [um]
 .grind [AM]
 .intro x hx;obtain⟨d,_,rfl⟩:=R3.1 hx;exact h _ (show ¬(2:Int)=0 by decide)
theorem kinds2(q:au)(f:ao->Bool)(h:∀x,x.kind≠2->f x=false):(bb q).filter f=(q.aa.map cM).filter f:=by
 unfold bb;rw[SS,SS,SS,eN (l:=q.aw.map fe),eN (l:=q.aa.flatMap cH),eN (l:=q.aa.flatMap fb),RW,RW,Sv]
 .grind [um]
 .grind [AM]
 .intro x hx;obtain⟨d,_,rfl⟩:=R3.1 hx;exact h _ (show ¬(0:Int)=2 by decide)
theorem kinds3(q:au)(f:ao->Bool)(h:∀x,x.kind≠3->f x=false):(bb q).filter f=(q.aa.flatMap cH).filter f:=by
 unfold bb;rw[SS,SS,SS,eN (l:=q.aw.map fe),eN (l:=q.aa.map cM),eN (l:=q.aa.flatMap fb),RW,Sv,Sv]
 .grind [um]
 .intro x hx;obtain⟨d,_,rfl⟩:=R3.1 hx;exact h _ (show ¬(2:Int)=3 by decide)
 .intro x hx;obtain⟨d,_,rfl⟩:=R3.1 hx;exact h _ (show ¬(0:Int)=3 by decide)
theorem Bs{q:au}(hc:Can q)(hn:((bb q).map ao.id).Nodup):CanL (bb q) q:=by
 refine⟨hn,.of_eq ?_,.of_eq ?_,λd hd=>.of_eq ?_,λe he=>?_⟩
 .rw[kinds0 q _ λx h=>J6 h,jj];intro x hx;obtain⟨d,_,rfl⟩:=R3.1 hx;rfl
 .rw[kinds2 q _ λx h=>J6 h,jj];intro x hx;obtain⟨d,_,rfl⟩:=R3.1 hx;rfl
 .rw[kinds3 q _ λx h=>by grind];refine Fm (λx hx=>?_) (fY hc.di) (λe he hne x hx=>?_) hd
  .obtain⟨s,_,rfl⟩:=R3.1 hx;show(decide ((3:Int)=3) && decide (d.id=d.id))=true;simp
  .obtain⟨s,_,rfl⟩:=R3.1 hx;show(decide ((3:Int)=3) && decide (e.id=d.id))=false
   grind
 all_goals grind [bb,List.mem_append_right,xD]
structure gZ(ds:List an)(V:av->Prop)(x:Ex):Prop where
 kd:0<=x.kind/\x.kind<13
 ty:x.ty.size<=2/\(x.kind=11->x.ty=bQ)
 nm:(x.aJ.length:Int)=mP x
 w1:jb x=false
 cl:eE x.kind->∃d∈ds,d.id=x.ref/\vm x.kind d.kind=true/\gn x d.ah.length=false
 vs:x.kind=3->V x.ref
theorem gZ.ren{ds:List an}{V:av->Prop}{x:Ex}(h:gZ ds V x)(ids:List av):gZ ds V (b8 ids x):=by
 obtain⟨i,k,n,r,t,l,s⟩:=x;have hl:(iw ids l).length=l.length:=Ek ids l;have hr:k≠2->j2 ids k r=r:=rU;obtain⟨h1,h2,h3,h4,h5,h6⟩:=h;have e1:mP (b8 ids (.mk i k n r t l s))=mP (.mk i k n r t l s):=by rw[b8];show(if k=6 then(1:Int) else if k=12 then 2 else if k=10 then max 0 (((iw ids l).length:Int)-1) else 0)=_;rw[hl];rfl
 have e2:jb (b8 ids (.mk i k n r t l s))=jb (.mk i k n r t l s):=by rw[b8];show(ix (.mk i k n r t l s) || decide (0<=ia (.mk i k n r t l s)/\¬((iw ids l).length:Int)=ia (.mk i k n r t l s)))=_;rw[hl];rfl
 have e3:∀m,gn (b8 ids (.mk i k n r t l s)) m=gn (.mk i k n r t l s) m:=λm=>by rw[b8];show(if k=3\/k=7 then decide (¬((iw ids l).length:Int)=m) else if k=10 then decide (¬((iw ids l).length:Int)=m+1\/m=0) else decide (n<0\/(m:Int)<=n))=_;rw[hl];rfl
 have ec:(b8 ids (.mk i k n r t l s)).ref=j2 ids k r:=by rw[b8];rfl
 have ek:(b8 ids (.mk i k n r t l s)).kind=k:=by rw[b8];rfl
 refine⟨by rw[ek];exact h1,by rw[ek,show(b8 ids (.mk i k n r t l s)).ty=t by rw[b8];rfl];exact h2,by rw[e1,show(b8 ids (.mk i k n r t l s)).aJ=s by rw[b8];rfl];exact h3,e2.trans h4,λhc=>?_,λhc=>?_⟩
 .rw[ek]at hc;have hk:k≠2:=by grind [eE]
  obtain⟨d,hd,h7,h8,h9⟩:=h5 hc;exact⟨d,hd,by rw[ec,hr hk];exact h7,by rw[ek];exact h8,by grind⟩
 .rw[ek]at hc;rw[ec,hr Q0];exact h6 hc
theorem gZ.mG{ds es:List an}{V W:av->Prop}{x:Ex}(h:gZ ds V x)(hl:cU ds es)(hV:∀r,V r->W r):gZ es W x :=
 ⟨h.kd,h.ty,h.nm,h.w1,λhc=>by
  obtain⟨d,hd,h1,h2,h3⟩:=h.cl hc;obtain⟨e,he,hs⟩:=hl.mem hd;have:=bX hs
  exact⟨e,he,by grind,by grind,by grind⟩,λhk=>hV _ (h.vs hk)⟩
theorem dG{Q:Ex->Prop}{i r:av}{k n:Int}{t:Ty}{l:List Ex}{s:List ByteArray}(hl:∀e∈l,∀x∈bV e,Q x)(h:Q (.mk i k n r t l s)):∀x∈bV (.mk i k n r t l s),Q x:=λx hx=>by
 rw[jw]at hx;rcases RY.1 hx with hx|hx
 .obtain⟨e,he,hx⟩:=kq hx;exact hl e he x hx
 all_goals grind
theorem GR(k:Int)(h:0<=k/\k<13):0<=k/\k<13:=h
theorem dr{k:Int}{A:Prop}(h:¬(k=3\/k=7\/k=8\/k=9\/k=10)):eE k->A:=λc=>J3 c h
theorem Mk.sm{c:fE}(h0:∀d∈c.p.aa,0<d.ah.length){V:av->Prop}(hV:∀k,∀h:k<c.p.aa.length,kH c k->V c.p.aa[k].id){t:Ty}{env:List cg}{T T':Int}{e:Ex}(h:Mk c t env T e T'):∀x∈bV e,gZ c.p.aa V x:=by
 have s0:bQ.size<=2:=Q1;induction h with
 |@int env T n hi=>refine dG (λe he=>by cases he) ⟨GR 0 Q1,⟨s0,λh=>by cases h⟩,rfl,?_,dr (k:=0) Q1,λh=>by cases h⟩;show(decide (n < -1099511627776\/1099511627776<n) || false)=false;rw[J6 Q0];rfl
 |@bool env T n hi=>refine dG (λe he=>by cases he) ⟨GR 1 Q1,⟨s0,λh=>by cases h⟩,rfl,?_,dr (k:=1) Q1,λh=>by cases h⟩;show(decide (¬n=0/\¬n=1) || false)=false;rw[J6 Q0];rfl
 |@var env T b hb=>exact dG (λe he=>by cases he) ⟨GR 2 Q1,⟨s0,λh=>by cases h⟩,rfl,rfl,dr (k:=2) Q1,λh=>by cases h⟩
 |@rj env T kids Ts hl _ _ ih=>refine dG (λe he=>?_) ⟨GR 11 Q1,⟨s0,λ_=>rfl⟩,rfl,rfl,dr (k:=11) Q1,λh=>by cases h⟩;obtain⟨i,hi,rfl⟩:=R8.1 he;exact ih i hi
 |@oW env T T1 d k e hd hk h _ ih =>
  refine dG (λe he=>by rw[RZ.1 he];exact ih) ⟨GR 9 Q1,⟨s0,λh=>by cases h⟩,rfl,rfl,λ_=>⟨d,hd,rfl,?_,?_⟩,λh=>by cases h⟩
  .rw[hk];rfl
  .show decide ((k:Int)<0\/(d.ah.length:Int)<=k)=false;exact J6 Q0
 |@rV env T d kids hd hk Ts hl _ _ ih =>
  refine dG (λe he=>?_) ⟨GR 7 Q1,⟨s0,λh=>by cases h⟩,rfl,rfl,λ_=>⟨d,hd,rfl,?_,?_⟩,λh=>by cases h⟩
  .obtain⟨i,hi,rfl⟩:=R8.1 he;exact ih i hi
  .rw[hk];rfl
  .show decide (¬(kids.length:Int)=d.ah.length)=false;exact J6 Q0
 |len _ ih=>exact dG (λe he=>by grind) ⟨GR 4 Q1,⟨s0,λh=>by cases h⟩,rfl,rfl,dr (k:=4) Q1,λh=>by cases h⟩
 |not _ ih=>exact dG (λe he=>by grind) ⟨GR 4 Q1,⟨s0,λh=>by cases h⟩,rfl,rfl,dr (k:=4) Q1,λh=>by cases h⟩
 |@tp t u env T T1 T2 n a b ho _ _ ih1 ih2 =>
  refine dG (λe he=>?_) ⟨GR 4 Q1,⟨s0,λh=>by cases h⟩,rfl,?_,dr (k:=4) Q1,λh=>by cases h⟩
  .rcases RO.1 he with rfl|he
   .exact ih1
   .rw[RZ.1 he];exact ih2
  .have hn:n=0\/n=1\/n=2\/n=3\/n=4\/n=5\/n=6\/n=7\/n=8\/n=10:=by unfold opTy at ho;omega
   rcases hn with rfl|rfl|rfl|rfl|rfl|rfl|rfl|rfl|rfl|rfl <;> rfl
 |Ke _ _ _ ih1 ih2 ih3 =>
  refine dG (λe he=>?_) ⟨GR 5 Q1,⟨s0,λh=>by cases h⟩,rfl,rfl,dr (k:=5) Q1,λh=>by cases h⟩;rcases RO.1 he with rfl|he
  .exact ih1
  .rcases RO.1 he with rfl|he
   .exact ih2
   .rw[RZ.1 he];exact ih3
 |sF _ _ ih1 ih2 =>
  refine dG (λe he=>?_) ⟨GR 6 Q1,⟨s0,λh=>by cases h⟩,rfl,rfl,dr (k:=6) Q1,λh=>by cases h⟩;rcases RO.1 he with rfl|he
  .exact ih1
  .rw[RZ.1 he];exact ih2
 |sU _ _ _ ih1 ih2 ih3 =>
  refine dG (λe he=>?_) ⟨GR 12 Q1,⟨s0,λh=>by cases h⟩,rfl,rfl,dr (k:=12) Q1,λh=>by cases h⟩;rcases RO.1 he with rfl|he
  .exact ih1
  .rcases RO.1 he with rfl|he
   .exact ih2
   .rw[RZ.1 he];exact ih3
 |@JM t env T T1 d a kids ms hd hk Ts hl hm _ _ _ ih1 ih2 =>
  refine dG (λe he=>?_) ⟨GR 10 Q1,⟨s0,λh=>by cases h⟩,?_,rfl,λ_=>⟨d,hd,rfl,?_,?_⟩,λh=>by cases h⟩
  .rcases RO.1 he with rfl|he
   .exact ih1
   .obtain⟨i,hi,rfl⟩:=R8.1 he;exact ih2 i hi
  .show(ms.length:Int)=max 0 (((a::kids).length:Int)-1);rw[RU];omega
  .rw[hk];rfl
  .show decide (¬((a::kids).length:Int)=d.ah.length+1\/d.ah.length=0)=false;have:=h0 d hd;rw[RU];exact J6 Q0
 |@field env T T1 d j a hd hk h _ ih =>
  refine dG (λe he=>by rw[RZ.1 he];exact ih) ⟨GR 8 Q1,⟨s0,λh=>by cases h⟩,rfl,rfl,λ_=>⟨d,hd,rfl,?_,?_⟩,λh=>by cases h⟩
  .rw[hk];rfl
  .show decide ((j:Int)<0\/(d.ah.length:Int)<=j)=false;exact J6 Q0
 |@call env T k kids hd hk hv Ts hl _ _ ih =>
  refine dG (λe he=>?_) ⟨GR 3 Q1,⟨s0,λh=>by cases h⟩,rfl,rfl,λ_=>⟨_,RQ hd,rfl,?_,?_⟩,λ_=>hV k hd hv⟩
  .obtain⟨i,hi,rfl⟩:=R8.1 he;exact ih i hi
  .rw[hk];rfl
  .show decide (¬(kids.length:Int)=c.p.aa[k].ah.length)=false;exact J6 Q0
def TyR(l:List Int)(n:Int)(k:Nat)(t:Ty):Prop:=t=bQ\/t=qE\/t=cb bQ\/∃i:Nat,i<k/\(i<2\/cn l=true/\i<4)/\t=cq (n+(i:Int))
theorem mT.rank{l:List Int}{n:Int}{k:Nat}{t:Ty}(h:mT l n t)(h2:2<=k)(h4:cn l=true->4<=k):TyR l n k t:=by
 rcases h with h|h|h|h|h|⟨h,h5|h5⟩
 .exact .inl h
 .exact .inr (.inl h)
 .exact .inr (.inr (.inl h))
 .exact .inr (.inr (.inr ⟨0,Q0,.inl Q0,by rw[h];simp⟩))
 .exact .inr (.inr (.inr ⟨1,Q0,.inl Q0,h⟩))
 .exact .inr (.inr (.inr ⟨2,by grind,.inr ⟨h,Q0⟩,h5⟩))
 .exact .inr (.inr (.inr ⟨3,by grind,.inr ⟨h,Q0⟩,h5⟩))
theorem PG{l:List Int}{n:Int}{k:Nat}{t:Ty}(h:t=bQ\/t=qE\/t=cb bQ):TyR l n k t:=by
 rcases h with h|h|h
 .exact .inl h
 .exact .inr (.inl h)
 .exact .inr (.inr (.inl h))
theorem D3{l:List Int}{n q m:Int}{j k:Nat}(hk:0<k):∀t∈iB l q m (cq n) j,TyR l n k t:=λt ht=>by
 obtain⟨i,_,rfl⟩:=R3.1 ht;rcases tI (eH l (q+(i:Int)) m) (cq n) (cq n) with e|e|e|e|e <;> rw[e]
 .exact .inl rfl
 .exact .inr (.inl rfl)
 .exact .inr (.inr (.inl rfl))
 .exact .inr (.inr (.inr ⟨0,hk,.inl Q0,Q2⟩))
 .exact .inr (.inr (.inr ⟨0,hk,.inl Q0,Q2⟩))
theorem oB(l:List Int)(n:Int):bw l n=[gQ l n,iF l n]++(if cn l=true then[fK l n,lD n] else[])++([pF l n,if cn l=true then lN n else pG l n,pT l n]++if 0<eH l 22 4 then[pC l n] else[]):=by unfold bw fw eZ kV;simp
theorem B7{l:List Int}{n:Int}(hn:1<=n){k:Nat}{p:aN}(hp:p∈bw l n)(h2:2<=k)(h4:cn l=true->4<=k):(∀t∈p.types,TyR l n k t)/\TyR l n k p.aq:=by have h:=jD hn p hp;exact⟨λt ht=>mT.rank (mg.up (h.tys t ht)) h2 h4,mT.rank h.res h2 h4⟩
theorem LO{l:List Int}{n:Int}(hn:1<=n){k:Nat}{p:aN}(h:(bw l n)[k]?=some p):(∀t∈p.types,TyR l n k t)/\TyR l n k p.aq:=by
 have hm:p∈bw l n:=UM h;rw[oB]at h
 match k with
 |0 =>
  obtain rfl:gQ l n=p:=by grind
  refine⟨λt ht=>?_,.inl rfl⟩;obtain⟨i,_,rfl⟩:=R3.1 ht;have:=eO l (3+(i:Int)) 3 Q0;exact PG (An Q0 _ _)
 |1 =>
  obtain rfl:iF l n=p:=by simpa using h
  refine⟨λt ht=>?_,.inl rfl⟩;rcases RO.1 ht with rfl|ht
  .exact .inl rfl
  .exact D3 Q0 t ht
 |2 =>
  by_cases hf:cn l=true
  .rw[J2 hf]at h;obtain rfl:fK l n=p:=by simpa using h
   refine⟨λt ht=>?_,.inl rfl⟩;rcases RO.1 ht with rfl|ht
   .exact .inl rfl
   .exact D3 Q0 t ht
  .exact B7 hn hm Q0 λc=>J3 c hf
 |3 =>
  by_cases hf:cn l=true
  .rw[J2 hf]at h;obtain rfl:lD n=p:=by simpa using h
   refine⟨λt ht=>?_,.inl rfl⟩;simp only[lD,RO,Sx,or_false]at ht;rcases ht with rfl|rfl|rfl
   .exact .inr (.inr (.inr ⟨2,Q0,.inr ⟨hf,Q0⟩,rfl⟩))
   .exact .inr (.inr (.inl rfl))
   .exact .inl rfl
  .exact B7 hn hm Q0 λc=>J3 c hf
 |k+4=>exact B7 hn hm Q0 λ_=>by omega
structure mf(p:aN):Prop where
 name:p.name∈fF
 aJ:∀b∈p.aJ,b∈fF
 nodup:p.aJ.Nodup
 mod:p.kind=0\/p.kind=1->p.mod=0/\p.aq=bQ
theorem aW{b:ByteArray}(s:List UInt8)(h:s∈jc)(e:b=⟨s.toArray⟩):b∈fF:=by rw[e];exact R3.2 ⟨s,h,rfl⟩
theorem LZ(l:List Int)(n:Int):mf (gQ l n):=by
 refine⟨aW [80,111,105,110,116] Q1 rfl,λb hb=>?_,?_,λh=>⟨rfl,rfl⟩⟩
 .simp only[gQ,RO,Sx,or_false]at hb;rcases hb with rfl|rfl|rfl
  .exact aW [120] Q1 rfl
  .exact aW [121] Q1 rfl
  .exact aW [122] Q1 rfl
 .show([⟨#[120]⟩,⟨#[121]⟩,⟨#[122]⟩]:List ByteArray).Nodup;decide
theorem L3(l:List Int)(n:Int):mf (iF l n):=by
 refine⟨aW [69,118,101,110,116] Q1 rfl,λb hb=>?_,?_,λh=>⟨rfl,rfl⟩⟩
 .simp only[iF,RO,Sx,or_false]at hb;rcases hb with rfl|rfl|rfl
  .exact aW [84,105,99,107] Q1 rfl
  .exact aW [80,117,115,104] Q1 rfl
  .exact aW [83,101,116] Q1 rfl
 .show([⟨#[84,105,99,107]⟩,⟨#[80,117,115,104]⟩,⟨#[83,101,116]⟩]:List ByteArray).Nodup;decide
theorem LW(l:List Int)(n:Int):mf (fK l n):=by
 refine⟨aW [83,116,97,116,101] Q1 rfl,λb hb=>?_,?_,λh=>⟨rfl,rfl⟩⟩
 .simp only[fK,RO,Sx,or_false]at hb;rcases hb with rfl|rfl|rfl
  .exact aW [99,111,117,110,116] Q1 rfl
  .exact aW [108,111,103] Q1 rfl
  .exact aW [109,111,114,101] Q1 rfl
 .show([⟨#[99,111,117,110,116]⟩,⟨#[108,111,103]⟩,⟨#[109,111,114,101]⟩]:List ByteArray).Nodup;decide
theorem pOut_nm(n:Int):mf (lD n):=by
 refine⟨aW [79,117,116] Q1 rfl,λb hb=>?_,?_,λh=>⟨rfl,rfl⟩⟩
 .simp only[lD,RO,Sx,or_false]at hb;rcases hb with rfl|rfl|rfl
  .exact aW [115,116,97,116,101] Q1 rfl
  .exact aW [115,105,103,110,97,108,115] Q1 rfl
  .exact aW [110,101,120,116] Q1 rfl
 .show([⟨#[115,116,97,116,101]⟩,⟨#[115,105,103,110,97,108,115]⟩,⟨#[110,101,120,116]⟩]:List ByteArray).Nodup;decide
theorem pF_nm(l:List Int)(n:Int):mf (pF l n):=by
 refine⟨aW [102] Q1 rfl,λb hb=>?_,?_,λh=>J3 h (show ¬((2:Int)=0\/(2:Int)=1) by decide)⟩
 .simp only[pF,RO,Sx,or_false]at hb;rcases hb with rfl|rfl
  .exact aW [97] Q1 rfl
  .exact aW [98] Q1 rfl
 .show([⟨#[97]⟩,⟨#[98]⟩]:List ByteArray).Nodup;decide
theorem OJ(n:Int):mf (lN n):=by
 refine⟨aW [115,116,101,112] Q1 rfl,λb hb=>?_,?_,λh=>J3 h (show ¬((3:Int)=0\/(3:Int)=1) by decide)⟩
 .simp only[lN,RO,Sx,or_false]at hb;rcases hb with rfl|rfl
  .exact aW [115] Q1 rfl
  .exact aW [101] Q1 rfl
 .show([⟨#[115]⟩,⟨#[101]⟩]:List ByteArray).Nodup;decide
theorem pG_nm(l:List Int)(n:Int):mf (pG l n):=by
 refine⟨aW [103] Q1 rfl,λb hb=>?_,?_,λh=>J3 h (show ¬((2:Int)=0\/(2:Int)=1) by decide)⟩
 .simp only[pG,RO,Sx,or_false]at hb;rw[hb];exact aW [101] Q1 rfl
 .show([⟨#[101]⟩]:List ByteArray).Nodup;decide
theorem pT_nm(l:List Int)(n:Int):mf (pT l n):=by
 refine⟨aW [116] Q1 rfl,λb hb=>?_,?_,λh=>J3 h (show ¬((4:Int)=0\/(4:Int)=1) by decide)⟩
 .simp only[pT,RO,Sx,or_false]at hb;rcases hb with rfl|rfl
  .exact aW [97] Q1 rfl
  .exact aW [98] Q1 rfl
 .show([⟨#[97]⟩,⟨#[98]⟩]:List ByteArray).Nodup;decide
theorem pC_nm(l:List Int)(n:Int):mf (pC l n):=by
 refine⟨aW [99] Q1 rfl,λb hb=>?_,?_,λh=>J3 h (show ¬((5:Int)=0\/(5:Int)=1) by decide)⟩
 .simp only[pC,RO,Sx,or_false]at hb;rw[hb];exact aW [111,108,100] Q1 rfl
 .show([⟨#[111,108,100]⟩]:List ByteArray).Nodup;decide
theorem oA{l:List Int}{n:Int}:∀p∈bw l n,mf p:=by
 intro p hp;simp only[bw,fw,eZ,kV,RY,RO,Sx,or_false]at hp;rcases hp with((((hp|hp)|hp)|hp)|hp)|hp
 .grind [LZ,L3]
 .split at hp
  .simp only[RO,Sx,or_false]at hp
   grind [LW,pOut_nm]
  .cases hp
 all_goals grind [pF_nm,OJ,pG_nm,pT_nm,RZ,pC_nm]
theorem Et(l:List Int)(n:Int):((bw l n).map aN.name).Nodup:=by
 rw[oB];by_cases h1:cn l=true
 .rw[J2 h1,J2 h1];by_cases h2:0<eH l 22 4
  .rw[J2 h2];show([yi,rb,CA,nOut,n_f,JK,n_t,n_c]:List ByteArray).Nodup;decide
  .rw[J1 h2];show([yi,rb,CA,nOut,n_f,JK,n_t]:List ByteArray).Nodup;decide
 .rw[J1 h1,J1 h1];by_cases h2:0<eH l 22 4
  .rw[J2 h2];show([yi,rb,n_f,n_g,n_t,n_c]:List ByteArray).Nodup;decide
  .rw[J1 h2];show([yi,rb,n_f,n_g,n_t]:List ByteArray).Nodup;decide
theorem OD{l:List Int}{n:Int}{k:Nat}{p:aN}(h:(bw l n)[k]?=some p)(hb:¬(p.kind=0\/p.kind=1)):2<=k/\(cn l=true->4<=k):=by
 rw[oB]at h
 match k with
 |0 =>
  obtain rfl:gQ l n=p:=by grind
  exact J3 (.inl rfl) hb
 |1 =>
  obtain rfl:iF l n=p:=by simpa using h
  exact J3 (.inr rfl) hb
 |2 =>
  refine⟨Sc _,λhf=>?_⟩;rw[J2 hf]at h;obtain rfl:fK l n=p:=by simpa using h
  exact J3 (.inl rfl) hb
 |3 =>
  refine⟨Q0,λhf=>?_⟩;rw[J2 hf]at h;obtain rfl:lD n=p:=by simpa using h
  exact J3 (.inl rfl) hb
 |k+4=>exact⟨Q0,λ_=>by omega⟩
structure AtP(l:List Int)(k:Nat)(d:an)(pl:aN)(nx:Int):Prop where
 ith:(cx l)[k]?=some pl
 pos:0<=nx
 id:d.id=fA (ay l+(k:Int))
 kind:d.kind=pl.kind
 mod:d.mod=fA pl.mod
 name:d.name=pl.name
 ah:d.ah=cO pl nx
 aq:d.aq=pl.aq
 bm:d.bm=0
 bF:d.bF=[]
theorem rZ(l:List Int):(aK l).aa.length=(cx l).length:=by obtain⟨N,hN,hlk,hnm⟩:=dy l;rw[hlk.len];unfold aX;rw[cG]
theorem pL(l:List Int)(k:Nat)(hk:k<(aK l).aa.length):∃pl nx,AtP l k (aK l).aa[k] pl nx:=by
 obtain⟨N,hN,hlk,hnm⟩:=dy l;have hM:=dw l;have h1:k<(aX l).length:=by rw[<-hlk.len];exact hk
 have h2:k<(cx l).length:=by rw[<-rZ];exact hk
 have hs:=hlk.get hk h1;have e:(aX l)[k]=jR (cx l)[k] (ay l+k) (ay l+(cx l).length+dQ ((cx l).take k)):=dT _ _ _ h2 _;rw[e]at hs;have:=bX hs;exact⟨(cx l)[k],ay l+(cx l).length+dQ ((cx l).take k),R5 h2,Q0,this.1,this.2.1,this.2.2.1,this.2.2.2.1,this.2.2.2.2.1,this.2.2.2.2.2.1,this.2.2.2.2.2.2.1,this.2.2.2.2.2.2.2⟩
theorem cL(l:List Int){d:an}(hd:d∈(aK l).aa):∃k,∃hk:k<(aK l).aa.length,∃pl nx,d=(aK l).aa[k]/\AtP l k d pl nx:=by
 grind [R8,pL]
theorem AtP.mem{l:List Int}{k:Nat}{d:an}{pl:aN}{nx:Int}(h:AtP l k d pl nx):pl∈cx l:=UM h.ith
theorem AtP.ok{l:List Int}{k:Nat}{d:an}{pl:aN}{nx:Int}(h:AtP l k d pl nx):jq l (ay l) pl:=jD (by have:=dw l;omega) _ h.mem
theorem Rj{d:an}(h:0<=d.kind/\d.kind<=5):bare d↔¬dR d.kind=true:=by
 unfold bare dR
 grind
theorem AtP.bare{l:List Int}{k:Nat}{d:an}{pl:aN}{nx:Int}(h:AtP l k d pl nx):bare d↔¬dR d.kind=true:=Rj (by rw[h.kind];exact h.ok.kind)
def VisP(l:List Int)(k:Nat)(ka:av)(r:av):Prop:=∃j,∃h:j<(aK l).aa.length,j<k/\(aK l).aa[j].id=r/\((aK l).aa[j].mod=ka\/(aK l).aa[j].mod=fA 0)
theorem nq(l:List Int)(k:Nat)(hk:k<(aK l).aa.length)(hnb:¬bare (aK l).aa[k]):∀x∈bV (aK l).aa[k].body,gZ (aK l).aa (VisP l k (aK l).aa[k].mod) x:=by
 obtain⟨N,hN,hlk,hnm⟩:=dy l;obtain⟨e,T,T',ids,nx,⟨c,hc1,hc2,hc3,hc4,hc5,hT,hmk⟩,hTN,hlen,hnx,hnx2,hbody⟩:=hnm k hk hnb;have hb:kj c.p 5:=by have h0:=kj.mG (By l) hc2;rw[<-hc1]at h0;exact h0
 have h1:=Mk.sm (V:=VisP l k (aK l).aa[k].mod) hb.e0 (λj hj hv=>?_) hmk
 .intro x hx;rw[hbody,xI]at hx;obtain⟨y,hy,rfl⟩:=R3.1 hx;exact((h1 y hy).ren _).mG (hc2.trans hlk.symm) λr hr=>hr
 .have hL:cU c.p.aa (aK l).aa:=hc2.trans hlk.symm;have hj':j<(aK l).aa.length:=by rw[hL.len]at hj;exact hj
  have hs:=bX (hL.get hj hj');obtain⟨h2,h3⟩:=hv;rw[hc4]at h2;have h4:bP c j=c.p.aa[j]:=by unfold bP;rw[eD hj]
  have h5:(Mo c).id=fA 0:=by
   grind [Mo,bU]
  rw[h4,hc5,h5,hs.2.2.1]at h3;exact⟨j,hj',Q0,hs.1.symm,h3⟩
mutual
theorem Dt:∀e:Ex,(∀x∈bV e,x.ty.size<=2/\x.aJ.length<=7)->e.wt<=10*e.size
 |.mk i k n r t l s,h=>by have h1:=h (.mk i k n r t l s) (cQ _);have h2:=zY l λx hx=>h x (by rw[bV];exact List.mem_append_left _ hx);have h3:t.size<=2:=h1.1;have h4:s.length<=7:=h1.2;rw[Ex.wt,Ex.size];omega
theorem zY:∀l:List Ex,(∀x∈aT l,x.ty.size<=2/\x.aJ.length<=7)->Ex.fi l<=10*Ex.ba l
 |[],_=>by rw[Ex.fi];omega
 |e::l,h=>by have h1:=Dt e λx hx=>h x (by rw[aT];exact List.mem_append_left _ hx);have h2:=zY l λx hx=>h x (by rw[aT];exact List.mem_append_right _ hx);rw[Ex.fi,Ex.ba];omega
end
theorem B9(l:List Int):∀d∈(aK l).aa,d.body.wt<=1280:=λd hd=>by
 obtain⟨k,hk,pl,nx,rfl,hA⟩:=cL l hd;by_cases hb:bare (aK l).aa[k]
 .rw[tU l _ hd hb];decide
 .obtain⟨h1,h2⟩:=v8 l _ hd hb;have h3:=Dt (aK l).aa[k].body λx hx=>by
   have h4:=nq l k hk hb x hx;have h5:=(h1.all x hx).1;have h6:=h4.nm;refine⟨h4.ty.1,?_⟩
   grind [mP]
  omega
theorem oD(q:au):(bb q).map ao.id=q.aw.map aO.id++q.aa.map an.id++q.aa.flatMap (λd=>d.ah.map aC.id)++q.aa.flatMap λd=>if dR d.kind then(bV d.body).map Ex.id else[]:=by
 unfold bb;rw[Si,Si,Si,SP,SP,Zc,Zc];refine congr (J4 _ (congr (J4 _ rfl) ?_)) ?_
 .refine J4 (λf=>q.aa.flatMap f) (funext λd=>?_);unfold cH;rw[SP];rfl
 .refine J4 (λf=>q.aa.flatMap f) (funext λd=>?_);unfold fb;split
  .rw[SP];rfl
  .rfl
theorem Ei(ds:List an):(aT (aQ ds)).map Ex.id=ds.flatMap λd=>if dR d.kind then(bV d.body).map Ex.id else[]:=by
 rw[gY];unfold aQ;induction ds with
 |nil=>rfl
 |cons d ds ih =>
  rw[RT,<-ih,Va];split
  .rw[Sb,RT,Si]
  .rw[Sv]
theorem qo(l:List Int):((bb (aK l)).map ao.id).Nodup:=by
 obtain⟨n,hn⟩:=OB l;rw[oD];have e:((aK l).aa.flatMap λd=>if dR d.kind then(bV d.body).map Ex.id else[])=(aK l).aa.flatMap nB:=by
  refine jt rfl λk h1 _=>?_;obtain⟨pl,nx,hA⟩:=pL l k h1;unfold nB;by_cases hb:bare (aK l).aa[k]
  .rw[J2 hb,J1 (hA.bare.1 hb)]
  .rw[J1 hb,J2 (by by_cases h:dR (aK l).aa[k].kind=true;exact h;exact J3 (hA.bare.2 h) hb)]
 rw[e,hn];exact fY (sN Q0 n)
theorem EJ{α:Type}{a b:List α}(h:(a++b).Nodup):b.Nodup:=(Td.1 h).2.1
theorem ya{q:au}(h:((bb q).map ao.id).Nodup):((aT (aQ q.aa)).map Ex.id).Nodup:=by
 grind [oD,Ei,EJ]
theorem uk{ds:List an}{x:Ex}(h:x∈aT (aQ ds)):∃d∈ds,dR d.kind=true/\x∈bV d.body:=by
 obtain⟨e,he,hx⟩:=kq h;obtain⟨d,hd,rfl⟩:=R3.1 he
 grind
theorem AR{x:av}:∀{a b:List an},cU a b->(a.filter λd=>decide (d.mod=x)).map an.id=(b.filter λd=>decide (d.mod=x)).map an.id
 |[],[],_=>rfl
 |[],_::_,h=>by cases h
 |_::_,[],h=>by cases h
 |c::a,d::b,h=>by
  unfold cU at h;rw[Sb,Sb,Tn]at h;have h1:=bX h.1;have ih:=AR (x:=x) (a:=a) (b:=b) h.2
  grind
theorem idK_eq{a b:Int}(ha:0<=a)(hb:0<=b):fA a=fA b↔a=b:=⟨λh=>by
 by_cases e:a=b
 .exact e
 .exact J3 h (uy ha hb e),λh=>by rw[h]⟩
theorem Ay{m:Int}(hm:0<=m):∀(ps:List aN) (i nx:Int),(∀p∈ps,0<=p.mod)->((bx ps i nx).filter λd=>decide (d.mod=fA m)).map an.id=bN m ps i
 |[],_,_,_=>rfl
 |p::ps,i,nx,h=>by
  have ih:=Ay hm ps (i+1) (nx+p.types.length) λq hq=>h q (RM _ hq);have e:(jR p i nx).mod=fA p.mod:=rfl;rw[bx,Va,e,bN];by_cases hp:p.mod=m
  .rw[J2 hp,J2 (J5 (by rw[hp])),Sb,ih];rfl
  .rw[J1 hp,J1 (by rw[decide_eq_true_eq,idK_eq (h p (RG ..)) hm];exact hp),ih];rfl
theorem prog_md(l:List Int):∀m∈(aK l).aw,m.aa=((aK l).aa.filter λd=>decide (d.mod=m.id)).map an.id:=by
 obtain⟨N,hN,hlk,hnm⟩:=dy l;have hp:∀p∈cx l,0<=p.mod:=λp hp=>(jD (by have:=dw l;omega) p hp).mod.1;have hmd:∀m:Int,0<=m->((aK l).aa.filter λd=>decide (d.mod=fA m)).map an.id=bN m (cx l) (ay l):=λm hm=>by rw[AR hlk];exact Ay hm (cx l) _ _ hp
 show ∀m∈bU l,_
 grind [cx,bU,ay,dw]
theorem DT(p:aN)(nx:Int):(cO p nx).Pairwise λa b=>a.bm<b.bm:=by
 grind [cO,ZB,Yc]
theorem ET(l:List Int){m:Int}(h0:0<=m)(h1:m<ay l):∃x∈(aK l).aw,x.id=fA m:=by
 have h2:fA m∈(aK l).aw.map aO.id:=by
  show fA m∈(bU l).map aO.id;rw[tV];unfold jW;refine R3.2 ⟨m.toNat,U9.2 Q0,?_⟩
  grind
 grind
theorem LK(l:List Int):∀m∈(aK l).aw,m.cZ=[]\/(m.cZ=[fA 0]/\m.id=fA 1):=by
 show ∀m∈bU l,_;unfold bU
 grind
theorem Ep(l:List Int):∀d∈(aK l).aa,d.ah.length<=3:=λd hd=>by obtain⟨k,hk,pl,nx,_,hA⟩:=cL l hd;rw[hA.ah,cw];exact hA.ok.t3
theorem OC(l:List Int):Can (aK l):=by
 obtain⟨N,hN,hlk,hnm⟩:=dy l;have hM:=dw l;have hF:=LM l;have h8:(aK l).aa.length<=8:=(kT l).len;have hml:(aK l).aw.length<=2:=by
  show(bU l).length<=2
  grind [bU]
 have hnd:=qo l;have hg:=(kT l).nm;have hsz:∀d∈(aK l).aa,d.body.size<=128/\d.body.wH<=24:=λd hd=>by
  obtain⟨k,hk,pl,nx,e,hA⟩:=cL l hd;by_cases hb:bare d
  .rw[tU l d hd hb];decide
  .obtain⟨h1,h2⟩:=v8 l d hd hb;exact⟨h2,by have:=h1.wH;omega⟩
 have hall:(aT (aQ (aK l).aa)).length<=1000000000:=by
  have h1:∀ds:List an,(∀d∈ds,d.body.wt<=1280)->(aT (aQ ds)).length<=1280*ds.length:=λds=>by
   rw[gY];unfold aQ;induction ds with
   |nil=>intro _;simp
   |cons d ds ih =>
    intro h;have h2:=ih λe he=>h e (RM _ he);have h3:=h d (RG ..);have h4:=ph d.body;rw[Va,RU];split
    .rw[Sb,RT,RS];omega
    .omega
  grind [B9]
 refine⟨?_,?_,λd hd=>?_,λd hd=>?_,λd hd=>?_,prog_md l,λd hd=>?_,λm hm=>?_,λd hd hb=>?_,ya hnd,?_⟩
 .show iY ((bU l).map aO.id)
  grind [tV,sN]
 .have e2:(aK l).aa.map an.id=jW (ay l) (cx l).length:=by rw[E3 hlk];exact ub _ _ _
  grind [sN]
 .obtain⟨k,hk,pl,nx,_,hA⟩:=cL l hd;exact hA.bm
 .obtain⟨k,hk,pl,nx,_,hA⟩:=cL l hd;rw[hA.ah];exact DT pl nx
 .obtain⟨k,hk,pl,nx,_,hA⟩:=cL l hd;rw[hA.ah,xV];exact fY (sN hA.pos _)
 .obtain⟨k,hk,pl,nx,_,hA⟩:=cL l hd;rw[hA.mod];have:=hA.ok.mod
  grind [ET]
 .rcases LK l m hm with e|⟨e,_⟩
  .rw[e];exact⟨TZ,λu hu=>by cases hu⟩
  .rw[e];refine⟨List.pairwise_singleton ..,λu hu=>?_⟩;rw[RZ.1 hu];exact ET l Q0 Q0
 .obtain⟨k,hk,pl,nx,_,hA⟩:=cL l hd;exact tU l d hd (hA.bare.2 hb)
 .refine⟨Q0,Q0,λd hd=>by grind [Ep],λm hm=>⟨(hF.u m hm).2,(hF.u m hm).1⟩,λe he=>?_,λd hd=>(hsz d hd).1,λd hd=>(hsz d hd).2,λd hd=>?_,hall⟩
  .obtain⟨d,hd,hb,hx⟩:=uk he;obtain⟨k,hk,pl,nx,_,hA⟩:=cL l hd;exact((v8 l d hd λh=>hA.bare.1 h hb).1.all e hx).1
  .obtain⟨k,hk,pl,nx,_,hA⟩:=cL l hd;have h1:=B9 l d hd;have h2:=ky (hg.gr d hd);refine⟨Q0,Q0,by rw[hA.bF];decide,λs hs=>by have:=ky (hg.gs d hd s hs);omega⟩
structure jZ(p:au):Prop where
 can:Can p
 nd:((bb p).map ao.id).Nodup
 siz:∀d∈p.aa,d.body.wt<=1280/\d.ah.length<=3/\d.aq.size<=2/\d.bF=[]/\∀s∈d.ah,s.ty.size<=2
 wm:∀m∈p.aw,m.name∈fF
 wd:∀d∈p.aa,d.name∈fF
 ws:∀d∈p.aa,∀s∈d.ah,s.name∈fF
 wn:∀d∈p.aa,dR d.kind=true->∀x∈bV d.body,∀b∈x.aJ,b∈fF
theorem w6{α:Type}(f:α->Nat)(n:Nat):∀l:List α,(∀x∈l,f x<=n)->(l.map f).sum<=l.length*n
 |[],_=>by simp
 |x::l,h=>by have h1:=h x (RG ..);have h2:=w6 f n l λy hy=>h y (RM _ hy);rw[Sb,T7,RU,SK];omega
section
variable {p:au} (H:jZ p)
include H
theorem jZ.gx{d:an}(hd:d∈p.aa):fP d<=2000:=by
 obtain⟨h1,h2,h3,h4,h5⟩:=H.siz d hd;have h6:=w6 (λs:aC=>s.ty.size) 2 d.ah h5;unfold fP
 grind
theorem jZ.jm:RA p:=by have h1:=w6 fP 2000 p.aa λd hd=>H.gx hd;have h2:=H.can.lim.aw;have h3:=H.can.lim.aa;have:p.aa.length*2000<=32*2000:=SI _ h3;exact⟨Q0,Q0,λm hm=>by have:=(H.can.lim.yl m hm).2;omega⟩
theorem jZ.Di:(bb p).length<=200000:=by
 have h1:=w6 fP 2000 p.aa λd hd=>H.gx hd;have h2:=H.can.lim.aw;have h3:=H.can.lim.aa
 grind [qI,qZ,SI,bb]
theorem jZ.fit:∀x∈bb p,x.Fit:=λx hx=>by
 have z0:([]:List av).length<=1000000000000:=Q1;have z1:([]:List ByteArray).length<=1000000000000:=Q1;have z2:DA.size<=1000000000000:=Q1;have f0:Cp.Fit:=⟨Q1,Q1,Q1⟩;unfold bb at hx;rcases RY.1 hx with hx|hx
 .rcases RY.1 hx with hx|hx
  .rcases RY.1 hx with hx|hx
   .obtain⟨m,hm,rfl⟩:=R3.1 hx;have:=(H.can.lim.yl m hm).2;exact⟨by show m.cZ.length<=_;omega,z2,z1,z2,f0⟩
   .obtain⟨d,hd,rfl⟩:=R3.1 hx;obtain⟨h1,h2,h3,h4,h5⟩:=H.siz d hd;exact⟨z0,by show d.aq.size<=_;omega,by show d.bF.length<=_;rw[h4];decide,z2,f0⟩
  .obtain⟨d,hd,hx⟩:=TO.1 hx;obtain⟨s,hs,rfl⟩:=R3.1 hx;obtain⟨h1,h2,h3,h4,h5⟩:=H.siz d hd;have:=h5 s hs;exact⟨z0,z2,z1,by show s.ty.size<=_;omega,f0⟩
 .obtain⟨d,hd,hx⟩:=TO.1 hx;unfold fb at hx;split at hx
  .obtain⟨e,he,rfl⟩:=R3.1 hx;obtain⟨h1,h2,h3,h4,h5⟩:=H.siz d hd;have h6:=KM d.body e he;have h7:=Ex.cS e;have h8:=Ex.mV e.kids;exact⟨z0,z2,z1,z2,⟨by show e.ty.size<=_;omega,by show(e.kids.map Ex.id).length<=_;rw[Sa];omega,by show e.aJ.length<=_;omega⟩⟩
  .cases hx
theorem jZ.formed:IS s44 [p.enc] [[.sl 0 6 []]]:=by have h1:=H.Di;exact MS yq p H.jm (PE H.can (Bs H.can H.nd) (xc _) Q0) H.can.lim H.fit Q0
theorem jZ.wt(i:av):(al p i).wt<=2000:=by
 rcases mX p i with h|h
 .rw[h];decide
 .obtain⟨h1,h2,h3,h4,h5⟩:=H.siz _ h
  grind [DV,an.wt]
theorem jZ.mY{d:an}(hd:d∈p.aa):al p d.id=d:=by
 obtain⟨k,hk,rfl⟩:=R8.1 hd;refine(kN hk (λj hj hlt e=>?_) rfl).2;have h:=Ua.1 (fY H.can.di) j k (by grind) (by grind) hlt
 grind
theorem jZ.LN:Iv (λ_=>true) p:=by
 have h3:=H.can.lim.aa;have hu:∀i,(aR p i).length<=2000:=λi=>TQ (tx p i) (H.wt i);refine⟨⟨Q0,λj=>by have:=H.wt j;omega⟩,fY H.can.di,fY H.can.mi,by have:=H.can.lim.aw;omega,λm hm=>by have:=H.can.lim.yl m hm;omega,λd hd=>?_,λi=>?_,λi=>by grind,λm hm=>vR (H.wm m hm),λm hm i hi=>?_,λd hd s hs=>vR (H.ws d hd s hs),λd hd hb x hx b hbn=>vR (H.wn d hd hb x hx b hbn)⟩
 .obtain⟨h1,h2,h3,h4,h5⟩:=H.siz d hd;omega
 .unfold mu rR;have h1:=w6 (λi=>(aR p i).length) 2000 ((gS p).filter λi=>decide (i ∉ ([]:List av))) λi _=>hu i
  grind
 .rw[H.can.md m hm]at hi;obtain⟨d,hd,rfl⟩:=R3.1 hi;have hd:=(Sp.1 hd).1;rw[H.mY hd];exact vR (H.wd d hd)
theorem jZ.sa:IS s12 [p.enc] [[gu (fZ (gf (dY (λ_=>true) p)))]]:=G4 H.formed H.LN
end
theorem tS(l:List Int):jZ (aK l):=by
 have hg:=(kT l).nm;refine⟨OC l,qo l,λd hd=>?_,?_,λd hd=>?_,λd hd s hs=>?_,λd hd hb x hx b hbn=>?_⟩
 .obtain⟨k,hk,pl,nx,_,hA⟩:=cL l hd;exact⟨B9 l d hd,Ep l d hd,ky (hg.gr d hd),hA.bF,λs hs=>ky (hg.gs d hd s hs)⟩
 .show ∀m∈bU l,_;have h0:qp∈fF:=aW [99,111,114,101] Q1 rfl;have h1:AL∈fF:=aW [109,105,108,108] Q1 rfl;unfold bU
  grind
 .obtain⟨k,hk,pl,nx,_,hA⟩:=cL l hd;rw[hA.name];exact(oA _ hA.mem).name
 .obtain⟨k,hk,pl,nx,_,hA⟩:=cL l hd;rw[hA.ah]at hs;unfold cO at hs;obtain⟨j,hj,rfl⟩:=R3.1 hs;have h1:=U9.1 hj;have h2:=hA.ok.aJ;show pl.aJ.getD j Ys∈fF;rw[eD Q0];exact(oA _ hA.mem).aJ _ (RQ _)
 .obtain⟨k,hk,pl,nx,_,hA⟩:=cL l hd;exact word_nm (((v8 l d hd λh=>hA.bare.1 h hb).1.all x hx).2 b hbn)
abbrev wT:ByteArray->Bool:=λ_=>true
theorem P5{b:ByteArray}{l:List ByteArray}(h:b ∉ l):Nx b l=false:=by
 unfold Nx
 grind
theorem ug{ids:List av}{nms:List ByteArray}(h:nms.Nodup):eo wT ids nms nms.length=[]:=by
 unfold eo;rw[TC];intro i hi;have hi:=U9.1 hi;have e:nms=nms.take i++nms[i]::nms.drop (i+1):=by simp_all
 have h2:(nms.take i++nms[i]::nms.drop (i+1)).Nodup:=by grind
 rw[Td,SG]at h2;have e1:Bz wT nms i=false:=by unfold Bz;rw[eD hi,P5 λhm=>h2.2.2 _ hm _ (RG ..) rfl,P5 h2.2.1.1];rfl
 rw[e1];rfl
theorem node_w{p:au}{V:av->Prop}(mY:∀d∈p.aa,al p d.id=d){x:Ex}(h:gZ p.aa V x):gg p x=(false,false):=by
 have hd:gi p x=false:=by
  unfold gi;split
  .rename_i hk;rw[h.ty.2 hk,J5 (ok0 p)];rfl
  .rfl
 unfold gg;rw[J1 (by have:=h.kd;omega)];by_cases hc:eE x.kind
 .obtain⟨d,hdm,hid,hf,hw⟩:=h.cl hc;have e:al p x.ref=d:=by grind
  rw[J1 (by grind),e,J1 (by rintro(h1|h1);exact h1 ⟨d,hdm,hid⟩;rw[hf]at h1;cases h1),h.w1,hw,hd];rfl
 .rw[J2 hc,h.w1,hd]
theorem Pn{V:av->Prop}{ds:List an}{x:Ex}(h:gZ ds V x):iG wT x=false:=by unfold iG;rw[J6 (by rw[h.nm];simp)];simp
theorem Mh{p:au}{V:av->Prop}(mY:∀d∈p.aa,al p d.id=d){x:Ex}(h:gZ p.aa V x){a:List eP}(hv:qC x a=false):mF wT p x a=[]:=by unfold mF;rw[node_w mY h,Pn h,hv];rfl
theorem KV{x:Ex}{a:List eP}(h:x.kind=2->(x.ref,x.n)∈a):qC x a=false:=by
 unfold qC
 grind
theorem vC(p:au)(i:av)(k:Int):∀(l:List Ex) (j:Nat) (a:List eP),(∀m (h:m<l.length),dS wT p l[m] (a++gW i k (j+m))=[])->bS wT p i k l j a=[]
 |[],_,_,_=>by rw[bS]
 |x::l,j,a,h=>by
  have h0:dS wT p x (a++gW i k j)=[]:=h 0 Q2;rw[bS,h0,Sv];exact vC p i k l (j+1) a λm hm=>by
   have:=h (m+1) (by grind)
   grind
def IC(G:lA)(a:List eP):Prop:=∀r n u,qt G r n=some u->(r,n)∈a
theorem IC.app{G:lA}{a:List eP}(h:IC G a)(b:List eP):IC G (a++b):=λr n u hu=>List.mem_append_left _ (h r n u hu)
theorem IC.cons{G:lA}{a:List eP}{i:av}{n:Int}{u:Ty}(h:IC G a)(hm:(i,n)∈a):IC ((i,n,u)::G) a:=λr m v hv=>by
 unfold qt at hv;rw[VI]at hv;by_cases hc:i=r/\n=m
 .grind
 .rw[J6 (show ¬((i,n,u).1=r/\(i,n,u).2.1=m) from hc)]at hv;exact h r m v hv
theorem Nr{p:au}{V:av->Prop}(mY:∀d∈p.aa,al p d.id=d){G:lA}{e:Ex}{t:Ty}(hw:gG p G e t):(∀x∈bV e,gZ p.aa V x)->∀a:List eP,IC G a->dS wT p e a=[]:=by
 have yv:∀{x:Ex},(∀y∈bV x,gZ p.aa V y)->∀k∈x.kids,∀y∈bV k,gZ p.aa V y:=fun{x} h k hk y hy=>h y (by
  rw[jw]
  exact List.mem_append_left _ (iS hk hy))
 have hd:∀{x:Ex} {a:List eP},(∀y∈bV x,gZ p.aa V y)->(x.kind=2->(x.ref,x.n)∈a)->(∀m (h:m<x.kids.length),dS wT p x.kids[m] (a++gW x.id x.kind m)=[])->dS wT p x a=[]:=fun{x a} h hv hk=>by
  rw[Bw,Mh mY (h x (cQ x)) (KV hv),Sv]
  grind [vC]
 induction hw with
 |int _=>exact λh a _=>hd h (λc=>by cases c) λm hm=>J3 hm (S6 _)
 |bool _=>exact λh a _=>hd h (λc=>by cases c) λm hm=>J3 hm (S6 _)
 |var hl=>exact λh a ha=>hd h (λ_=>ha _ _ _ hl) λm hm=>J3 hm (S6 _)
 |rj _ _ ih=>exact λh a ha=>hd h (λc=>by cases c) λm hm=>ih m hm (yv h _ (RQ hm)) _ (ha.app _)
 |@oW G i t s d k e _ _ _ _ ih =>
  exact λh a ha=>hd h (λc=>by cases c) λm hm=>by
   obtain rfl:m=0:=by have hm:m<[e].length:=hm;simp at hm;exact hm
   exact ih (yv h _ (RG ..)) _ (ha.app _)
 |rV _ _ _ _ ih=>exact λh a ha=>hd h (λc=>by cases c) λm hm=>ih m hm (yv h _ (RQ hm)) _ (ha.app _)
 |@len G i r t s e _ ih =>
  exact λh a ha=>hd h (λc=>by cases c) λm hm=>by
   obtain rfl:m=0:=by have hm:m<[e].length:=hm;simp at hm;exact hm
   exact ih (yv h _ (RG ..)) _ (ha.app _)
 |@not G i r t s e _ ih =>
  exact λh a ha=>hd h (λc=>by cases c) λm hm=>by
   obtain rfl:m=0:=by have hm:m<[e].length:=hm;simp at hm;exact hm
   exact ih (yv h _ (RG ..)) _ (ha.app _)
 |@tp G i r n t u v s x y _ _ _ ih1 ih2 =>
  exact λh a ha=>hd h (λc=>by cases c) λm hm=>by
   match m,hm with
   |0,_=>exact ih1 (yv h _ (RG ..)) _ (ha.app _)
   |1,_=>exact ih2 (yv h _ (RM _ (RG ..))) _ (ha.app _)
   |m+2,hm=>exact J3 (show m+2<2 from hm) Q0
 |Ke _ _ _ ih1 ih2 ih3 =>
  exact λh a ha=>hd h (λc=>by cases c) λm hm=>by
   match m,hm with
   |0,_=>exact ih1 (yv h _ (RG ..)) _ (ha.app _)
   |1,_=>exact ih2 (yv h _ (RM _ (RG ..))) _ (ha.app _)
   |2,_=>exact ih3 (yv h _ (RM _ (RM _ (RG ..)))) _ (ha.app _)
   |m+3,hm=>exact J3 (show m+3<3 from hm) Q0
 |sF _ _ ih1 ih2 =>
  exact λh a ha=>hd h (λc=>by cases c) λm hm=>by
   match m,hm with
   |0,_=>exact ih1 (yv h _ (RG ..)) _ (ha.app _)
   |1,_=>exact ih2 (yv h _ (RM _ (RG ..))) _ ((ha.app _).cons (List.mem_append_right _ (RZ.2 rfl)))
   |m+2,hm=>exact J3 (show m+2<2 from hm) Q0
 |sU _ _ _ ih1 ih2 ih3 =>
  exact λh a ha=>hd h (λc=>by cases c) λm hm=>by
   match m,hm with
   |0,_=>exact ih1 (yv h _ (RG ..)) _ (ha.app _)
   |1,_=>exact ih2 (yv h _ (RM _ (RG ..))) _ (ha.app _)
   |2,_=>exact ih3 (yv h _ (RM _ (RM _ (RG ..)))) _ (((ha.app _).cons (List.mem_append_right _ (RG ..))).cons (List.mem_append_right _ (RM _ (RG ..))))
   |m+3,hm=>exact J3 (show m+3<3 from hm) Q0
 |@JM G i r n t v s d x kids _ _ _ _ _ ih1 ih2 =>
  exact λh a ha=>hd h (λc=>by cases c) λm hm=>by
   match m,hm with
   |0,_=>exact ih1 (yv h _ (RG ..)) _ (ha.app _)
   |m+1,hm =>
    have hm':m<kids.length:=by have:m+1<(x::kids).length:=hm;rw[RU]at this;omega
    refine ih2 m hm' (yv h _ (RM _ (RQ hm'))) _ ((ha.app _).cons (List.mem_append_right _ ?_));show(i,(m:Int))∈gW i 10 (m+1);unfold gW;rw[J1 (λc=>J3 c.1 Q1),J1 (λc=>J3 c.1 Q1),J2 ⟨rfl,Q0⟩,show((m+1:Nat):Int)-1=m by omega];exact RZ.2 rfl
 |@field G i r t s d j e _ _ _ _ ih =>
  exact λh a ha=>hd h (λc=>by cases c) λm hm=>by
   obtain rfl:m=0:=by have hm:m<[e].length:=hm;simp at hm;exact hm
   exact ih (yv h _ (RG ..)) _ (ha.app _)
 |call _ _ _ _ ih=>exact λh a ha=>hd h (λc=>by cases c) λm hm=>ih m hm (yv h _ (RQ hm)) _ (ha.app _)
structure zt(p:au):Prop where
 fv:jZ p
 nmM:(p.aw.map aO.name).Nodup
 nmD:∀m∈p.aw,((p.aa.filter λd=>decide (d.mod=m.id)).map an.name).Nodup
 nmS:∀d∈p.aa,(d.ah.map aC.name).Nodup
 vs:∀d∈p.aa,(∀s∈d.ah,cd p s.ty)/\cd p d.aq
 bd:∀d∈p.aa,dR d.kind=true->dS wT p d.body (gz d)=[]
 us:∀k (hk:k<p.aa.length),∀x∈aR p p.aa[k].id,∃j,∃hj:j<p.aa.length,j<k/\p.aa[j].id=x
theorem xK{p:au}{Q:av->Prop}(hQ:∀x,Q x->∀y∈aR p x,Q y):∀(n:Nat) (S T:List av),(∀x∈S,Q x)->(∀x∈T,Q x)->∀x∈iE p n S T,Q x
 |0,S,T,hS,_=>by rw[iE];exact hS
 |n+1,S,[],hS,_=>by rw[iE];exact hS
 |n+1,S,y::T,hS,hT=>by
  rw[iE];have hy:=hT y (RG ..);have hT':∀x∈T,Q x:=λx hx=>hT x (RM _ hx);split
  .exact xK hQ n S T hS hT'
  .refine xK hQ n _ _ (λx hx=>?_) (λx hx=>?_)
   all_goals grind
theorem Can.inj{p:au}(h:Can p){i j:Nat}(hi:i<p.aa.length)(hj:j<p.aa.length)(e:p.aa[i].id=p.aa[j].id):i=j:=by
 have hn:(p.aa.map an.id).Nodup:=fY h.di
 grind [Ua]
section
variable {p:au} (H:zt p)
include H
theorem zt.Pe:∀d∈p.aa,d.id ∉ zO p d.id:=λd hd h=>by
 obtain⟨k,hk,rfl⟩:=R8.1 hd;have hQ:∀x,(∃j,∃hj:j<p.aa.length,j<k/\p.aa[j].id=x)->∀y∈aR p x,∃j,∃hj:j<p.aa.length,j<k/\p.aa[j].id=y:=by
  rintro x ⟨j,hj,hjk,rfl⟩ y hy;obtain⟨i,hi,hij,e⟩:=H.us j hj y hy
  grind
 obtain⟨j,hj,hjk,e⟩:=xK hQ _ _ _ (λx hx=>by cases hx) (H.us k hk) _ h;have:=H.fv.can.inj hj hk e;omega
theorem zt.cZ:wW p=p.aa.flatMap (oJ p):=by unfold wW;refine jt rfl λk h1 _=>?_;unfold kK;rw[J1 (H.Pe _ (RQ h1)),RW]
theorem zt.QL:∀d∈p.aa,tc wT p d=[]:=λd hd=>by
 have h1:cv p d.ah=[]:=by unfold cv;rw[TC];intro s hs;rw[J2 ((H.vs d hd).1 s hs)]
 unfold tc;rw[h1,ug (H.nmS d hd)];split
 .rename_i hb;rw[J2 (H.vs d hd).2,H.bd d hd hb];rfl
 .rfl
theorem zt.Pw:p.aw.flatMap (vM wT p)=[]:=by
 rw[TC];intro m hm;unfold vM;refine ug ?_;rw[H.fv.can.md m hm,SP];have e:((p.aa.filter λd=>decide (d.mod=m.id)).map ((λi=>(al p i).name) ∘ an.id))=(p.aa.filter λd=>decide (d.mod=m.id)).map an.name:=by refine TM λd hd=>?_;show(al p d.id).name=d.name;rw[H.fv.mY (Sp.1 hd).1]
 rw[e];exact H.nmD m hm
theorem zt.LN:dY wT p=p.aa.flatMap (oJ p):=by unfold dY EU;rw[ug H.nmM,H.Pw,H.cZ,TC.2 H.QL];rfl
end
theorem Kk{p:au}(mY:∀d∈p.aa,al p d.id=d){t:Ty}(h:nQ p t):cd p t:=by
 rcases h with rfl|rfl|rfl|⟨d,hd,hk,rfl⟩
 .exact ok0 p
 .exact okL p
 .exact okList p
 .exact okOf ⟨⟨d,hd,rfl⟩,by grind⟩
theorem Hn{l:List Int}{n:Int}{k:Nat}{t:Ty}(h:TyR l n k t){z:av}(hz:z∈cJ t):∃i:Nat,i<k/\(i<2\/cn l=true/\i<4)/\z=fA (n+(i:Int)):=by
 rcases h with rfl|rfl|rfl|⟨i,hi,h2,rfl⟩
 .have e:cJ bQ=[]:=rfl;rw[e]at hz;cases hz
 .have e:cJ qE=[]:=rfl;rw[e]at hz;cases hz
 .have e:cJ (cb bQ)=[]:=rfl;rw[e]at hz;cases hz
 .have e:cJ (cq (n+(i:Int)))=[fA (n+(i:Int))]:=rfl
  grind
theorem LP{l:List Int}{n:Int}{i:Nat}{p:aN}(h:(bw l n)[i]?=some p)(hi:i<2\/cn l=true/\i<4):p.mod=0:=by
 rw[oB]at h
 match i with
 |0 =>
  obtain rfl:gQ l n=p:=by grind
  rfl
 |1 =>
  obtain rfl:iF l n=p:=by simpa using h
  rfl
 |2 =>
  have hf:cn l=true:=by grind
  rw[J2 hf]at h;obtain rfl:fK l n=p:=by simpa using h
  rfl
 |3 =>
  have hf:cn l=true:=by grind
  rw[J2 hf]at h;obtain rfl:lD n=p:=by simpa using h
  rfl
 |i+4=>omega
theorem AN{ss:List aC}{z:av}(h:z∈lL ss):∃s∈ss,z∈cJ s.ty:=by
 unfold lL at h
 grind
theorem EX{p:au}{i x:av}(h:x∈aR p i):cK p i/\x∈vJ (al p i)/\cK p x:=by
 unfold aR at h;split at h
 .rename_i hd;obtain⟨h1,h2⟩:=Sp.1 h;refine⟨hd,?_,by unfold dA at h2;exact J7 h2⟩;rcases((la TZ).2 x).1 h1 with h3|h3
  .exact h3
  .cases h3
 .cases h
theorem Js(l:List Int)(k:Nat)(hk:k<(aK l).aa.length):∀x∈aR (aK l) (aK l).aa[k].id,∃j,∃hj:j<(aK l).aa.length,j<k/\(aK l).aa[j].id=x/\((aK l).aa[j].mod=(aK l).aa[k].mod\/(aK l).aa[j].mod=fA 0):=by
 have hW:=tS l;have hn:1<=ay l:=by have:=dw l;omega
 obtain⟨pl,nx,hA⟩:=pL l k hk;have hr:=LO hn hA.ith;have hlen:=rZ l;have hty:∀(t:Ty) (z:av),TyR l (ay l) k t->z∈cJ t->∃j,∃hj:j<(aK l).aa.length,j<k/\(aK l).aa[j].id=z/\((aK l).aa[j].mod=(aK l).aa[k].mod\/(aK l).aa[j].mod=fA 0):=λt z ht hz=>by obtain⟨i,hi,h2,rfl⟩:=Hn ht hz;obtain⟨pl',nx',hA'⟩:=pL l i Q0;refine⟨i,Q0,hi,hA'.id,.inr ?_⟩;rw[hA'.mod,LP hA'.ith h2]
 intro x hx;obtain⟨_,hx,_⟩:=EX hx;rw[hW.mY (RQ hk)]at hx;unfold vJ at hx;rcases RY.1 hx with hx|hx
 .rcases RY.1 hx with hx|hx
  .rw[hA.aq]at hx;exact hty _ _ hr.2 hx
  .obtain⟨s,hs,hx⟩:=AN hx;rw[hA.ah]at hs;exact hty _ _ (hr.1 _ (fa hs)) hx
 .split at hx
  .rename_i hb;have hnb:¬bare (aK l).aa[k]:=by unfold iR at hb;unfold bare;omega
   obtain⟨y,hy,hx⟩:=TO.1 hx;have hN:=nq l k hk hnb y hy;unfold oH at hx;rcases RY.1 hx with hx|hx
   .unfold Ch at hx;split at hx
    .rename_i hc;rw[RZ.1 hx];by_cases h3:y.kind=3
     .obtain⟨j,hj,hjk,e,hm⟩:=hN.vs h3;exact⟨j,hj,hjk,e,hm⟩
     .obtain⟨d,hd,hid,hf,_⟩:=hN.cl hc;obtain⟨j,hj,rfl⟩:=R8.1 hd;obtain⟨pl',nx',hA'⟩:=pL l j hj;have hk01:pl'.kind=0\/pl'.kind=1:=by
       rw[<-hA'.kind];unfold vm at hf
       grind
      obtain⟨hjl,e⟩:=TN.1 hA'.ith;have hm0:=((oA _ hA'.mem).mod hk01).1;have h5:j<2\/(cn l=true/\j<4):=by rw[<-e]at hk01;exact Az (l:=l) (n:=ay l) (j:=j) hjl hk01
      have h6:=OD hA.ith (by rw[<-hA.kind];exact hnb);refine⟨j,hj,?_,hid,.inr (by rw[hA'.mod,hm0])⟩
      grind
    .cases hx
   .unfold ON at hx;split at hx
    .rename_i h11;rw[hN.ty.2 h11]at hx;exact J3 hx (show x ∉ cJ bQ by rw[show cJ bQ=[] from rfl];simp)
    .cases hx
  .cases hx
theorem xP(l:List Int):((aK l).aa.map an.name).Nodup:=by
 have e:(aK l).aa.map an.name=(cx l).map aN.name:=by
  apply Vh
  .grind [Sa,rZ]
  .intro k h1 h2;rw[Sa]at h1 h2;rw[S0,S0];obtain⟨pl,nx,hA⟩:=pL l k h1;obtain⟨_,e⟩:=TN.1 hA.ith;rw[e];exact hA.name
 rw[e];exact Et l (ay l)
theorem tT(l:List Int):zt (aK l):=by
 have hW:=tS l;have hT:=G3 l;have hg:=(kT l).nm;obtain⟨N,hN,hlk,hnm⟩:=dy l;refine⟨hW,?_,?_,λd hd=>?_,λd hd=>⟨λs hs=>Kk hT.mY (hg.gs d hd s hs),Kk hT.mY (hg.gr d hd)⟩,λd hd hb=>?_,λk hk x hx=>?_⟩
 .show((bU l).map aO.name).Nodup
  grind [bU,qp,AL,ByteArray]
 .exact λm _=>List.Nodup.sublist (Z5 _ TK) (xP l)
 .obtain⟨k,hk,pl,nx,_,hA⟩:=cL l hd;have h2:=hA.ok.aJ;have e:d.ah.map aC.name=pl.aJ.take pl.types.length:=by
   rw[hA.ah];unfold cO;rw[SP];apply Vh
   all_goals grind
  rw[e];exact(oA _ hA.mem).nodup.sublist (List.take_sublist _ _)
 .obtain⟨k,hk,pl,nx,rfl,hA⟩:=cL l hd;have hnb:¬bare (aK l).aa[k]:=λh=>hA.bare.1 h hb;refine Nr hT.mY (hT.body _ hd hnb) (nq l k hk hnb) _ λr n u hu=>?_;unfold qt at hu;rw[Option.map_eq_some_iff]at hu;obtain⟨y,hy,_⟩:=hu;have h1:=List.mem_of_find?_eq_some hy;have h2:=List.find?_some hy;have h2:y.1=r/\y.2.1=n:=J7 h2
  grind [I3,gz]
 all_goals grind [Js]
theorem eS{α:Type}{enc:α->List D}{m:Nat}(he:∀x,(enc x).length=m):∀l:List α,(l.flatMap enc).length=l.length*m
 |[]=>by simp
 |x::l=>by rw[RT,RS,he,eS he l,RU,SK,U4,Un]
theorem qO(l:List dJ)(hl:l.length<=10000000000):IS s11 [[gu l],[gu l]] [[vB true]]:=by
 refine w11.is ?_;unfold g11;have Lv:∀c:dJ,sub c.enc 1 3=c.on.enc:=λ_=>rfl;have c0:∀c:dJ,cell c.enc 0=vI c.code:=λ_=>rfl;have c4:∀c:dJ,cell c.enc 4=vI c.kind:=λ_=>rfl;have c5:∀c:dJ,cell c.enc 5=.sl 0 3 []:=λ_=>rfl;simp only[ai,aF];refine⟨λ_=>?_,λh=>J3 trivial h⟩;refine bc l.length (λk=>[[gu l],[gu l],[vI (k:Int)]]) (λ_=>True) trivial rfl λk next hi _ hn=>?_
 simp only[ai];refine⟨λhk=>?_,λhk=>?_⟩
 .have hk:k<l.length:=Q0;rw[FL _ hk];simp only[ai,aF,Lv,c0,c4,c5];have h2:=vY ([]:List av) [] Q1 Q1;rw[J5 rfl]at h2;have hb:(0:Int)<=k/\(k:Int)<l.length:=Q0;refine⟨hb,hb,λ_=>⟨hb,hb,λ_=>⟨hb,hb,λ_=>⟨hb,hb,?_⟩,λh=>J3 trivial h⟩,λh=>J3 ⟨trivial,trivial,trivial⟩ h⟩,λh=>J3 trivial h⟩;refine ab h2 ?_;simp only[ai];exact⟨Q4,hn hk trivial⟩
 .trivial
theorem jZ.uT{p:au}(H:jZ p):IS Lv [p.enc] [[vB (decide (fZ (gf (dY wT p))=[]))]]:=by refine w13.is ?_;unfold g13;refine ab H.sa ?_;simp only[ai];simp_all
theorem yf{q:au}{d:an}:(oJ q d).isEmpty=true↔∀x∈aR q d.id,(al q x).mod∈bG q d.mod:=by rw[Vf];unfold oJ;simp_all
theorem Av(l:List Int):∀d∈(aK l).aa,∀x∈aR (aK l) d.id,(al (aK l) x).mod∈bG (aK l) d.mod:=λd hd x hx=>by
 have H:=tT l;obtain⟨k,hk,rfl⟩:=R8.1 hd;obtain⟨j,hj,_,rfl,h⟩:=Js l k hk x hx;rw[H.fv.mY (RQ hj)];obtain⟨m,hm,hmd⟩:=H.fv.can.im _ hd;obtain⟨t,ht,rfl⟩:=R8.1 hm;rw[<-hmd,yk (fY H.fv.can.mi) ht]
 grind [aK,fA,bU]
theorem LL(l:List Int):dY wT (aK l)=[]:=by
 rw[(tT l).LN,TC]
 grind [Vf,yf,Av]
theorem G2(l:List Int):IS Lv [(aK l).enc] [[vB true]]:=by
 have h:=(tS l).uT
 grind [LL,fZ,gf,YR,J5]
structure Gm(g:an->an):Prop where
 id:∀d,(g d).id=d.id
 kind:∀d,(g d).kind=d.kind
 mod:∀d,(g d).mod=d.mod
 aq:∀d,(g d).aq=d.aq
 body:∀d,(g d).body=d.body
 bm:∀d,(g d).bm=d.bm
 bF:∀d,(g d).bF=d.bF
 ah:∀d,(g d).ah.Sublist d.ah
def kB(p:au)(f:an->Bool)(g:an->an):au:=⟨p.aw.map λm=>⟨m.id,m.name,m.cZ,((p.aa.filter f).filter λd=>decide (d.mod=m.id)).map an.id⟩,(p.aa.filter f).map g⟩
theorem yF{α β:Type}{f:α->Bool}{h k:α->List β}(hh:∀a,(h a).Sublist (k a)):∀l:List α,((l.filter f).flatMap h).Sublist (l.flatMap k)
 |[]=>List.Sublist.refl _
 |a::l=>by
  have ih:=yF (f:=f) hh l
  grind
section
variable {p:au} {f:an->Bool} {g:an->an}
theorem cR{d:an}(h:d∈(kB p f g).aa):∃e∈p.aa,f e=true/\d=g e:=by
 obtain⟨e,he,rfl⟩:=R3.1 h
 grind
theorem CE{e:an}(he:e∈p.aa)(hf:f e=true):g e∈(kB p f g).aa:=R3.2 ⟨e,Sp.2 ⟨he,hf⟩,rfl⟩
theorem yZ:(kB p f g).aw.map aO.id=p.aw.map aO.id:=by show(p.aw.map _).map aO.id=_;rw[SP];rfl
variable (hg:Gm g)
include hg
theorem F2:(kB p f g).aa.map an.id=(p.aa.filter f).map an.id:=by show((p.aa.filter f).map g).map an.id=_;rw[SP];exact TM λd _=>hg.id d
theorem Bp:((kB p f g).aa.flatMap λd=>if dR d.kind then(bV d.body).map Ex.id else[]).Sublist (p.aa.flatMap λd=>if dR d.kind then(bV d.body).map Ex.id else[]):=by show(((p.aa.filter f).map g).flatMap _).Sublist _;rw[Zd];exact yF (λd=>by rw[hg.kind,hg.body];exact List.Sublist.refl _) _
theorem chg_ids:((bb (kB p f g)).map ao.id).Sublist ((bb p).map ao.id):=by rw[oD,oD,yZ,F2 hg];refine(((List.Sublist.refl _).append (TK.map _)).append ?_).append (Bp hg);show(((p.aa.filter f).map g).flatMap _).Sublist _;rw[Zd];exact yF (λd=>(hg.ah d).map _) _
theorem yY(H:jZ p)(hn:∀d∈p.aa,(g d).name∈fF):jZ (kB p f g):=by
 have hnd:=H.nd.sublist (chg_ids (f:=f) hg);have hfl:(p.aa.filter f).length<=32:=TQ (UK ..) H.can.lim.aa;have hmm:∀m∈(kB p f g).aw,∃m0∈p.aw,m.id=m0.id/\m.name=m0.name/\m.cZ=m0.cZ/\m.aa=((p.aa.filter f).filter λd=>decide (d.mod=m0.id)).map an.id:=λm hm=>by
  obtain⟨m0,h0,rfl⟩:=R3.1 hm
  grind
 have hex:∀i,(∃m∈p.aw,m.id=i)->∃m∈(kB p f g).aw,m.id=i:=λi ⟨m,hm,e⟩=>by
  have:i∈(kB p f g).aw.map aO.id:=by grind [yZ]
  exact R3.1 this
 refine⟨⟨by rw[yZ];exact H.can.mi,?_,λd hd=>?_,λd hd=>?_,λd hd=>?_,λm hm=>?_,λd hd=>?_,λm hm=>?_,λd hd hb=>?_,ya hnd,?_⟩,hnd,λd hd=>?_,λm hm=>?_,λd hd=>?_,λd hd s hs=>?_,λd hd hb x hx b hbn=>?_⟩
 .rw[F2 hg];exact Z1 (TK.map _) H.can.di
 .obtain⟨e,he,_,rfl⟩:=cR hd;rw[hg.bm];exact H.can.pl e he
 .obtain⟨e,he,_,rfl⟩:=cR hd;exact(H.can.sl e he).sublist (hg.ah e)
 .obtain⟨e,he,_,rfl⟩:=cR hd;exact(H.can.sn e he).sublist ((hg.ah e).map _)
 .obtain⟨m0,h0,h1,_,_,h4⟩:=hmm m hm;rw[h4,h1];show _=(((p.aa.filter f).map g).filter _).map an.id;rw[WX,SP];have e1:(λd:an=>decide (d.mod=m0.id)) ∘ g=λd=>decide (d.mod=m0.id):=funext λd=>by show decide ((g d).mod=_)=_;rw[hg.mod]
  rw[e1];exact TM λd _=>(hg.id d).symm
 .obtain⟨e,he,_,rfl⟩:=cR hd;rw[hg.mod];exact hex _ (H.can.im e he)
 .obtain⟨m0,h0,h1,h2,h3,h4⟩:=hmm m hm;rw[h3];exact⟨(H.can.us m0 h0).1,λu hu=>hex _ ((H.can.us m0 h0).2 u hu)⟩
 .obtain⟨e,he,_,rfl⟩:=cR hd;rw[hg.body];rw[hg.kind]at hb;exact H.can.bare e he hb
 .obtain⟨a1,a2,a3,a4,a5,a6,a7,a8,a9⟩:=H.can.lim;refine⟨by show(p.aw.map _).length<=_;rw[Sa];exact a1,by show((p.aa.filter f).map g).length<=_;rw[Sa];exact hfl,λd hd=>?_,λm hm=>?_,λx hx=>?_,λd hd=>?_,λd hd=>?_,λd hd=>?_,?_⟩
  .obtain⟨e,he,_,rfl⟩:=cR hd;exact TQ (hg.ah e).length_le (a3 e he)
  .grind
  .obtain⟨d,hd,hb,hx⟩:=uk hx;obtain⟨e,he,_,rfl⟩:=cR hd;rw[hg.body]at hx;rw[hg.kind]at hb;exact a5 x (iS (R3.2 ⟨e,Sp.2 ⟨he,hb⟩,rfl⟩) hx)
  .obtain⟨e,he,_,rfl⟩:=cR hd;rw[hg.body];exact a6 e he
  .obtain⟨e,he,_,rfl⟩:=cR hd;rw[hg.body];exact a7 e he
  .obtain⟨e,he,_,rfl⟩:=cR hd;obtain⟨b1,b2,b3,b4⟩:=a8 e he;rw[hg.body,hg.aq,hg.bF];exact⟨b1,b2,b3,λs hs=>b4 s ((hg.ah e).subset hs)⟩
  all_goals grind [Bp,Ei,Sa]
 .obtain⟨e,he,_,rfl⟩:=cR hd;obtain⟨b1,b2,b3,b4,b5⟩:=H.siz e he;rw[hg.body,hg.aq,hg.bF];exact⟨b1,TQ (hg.ah e).length_le b2,b3,b4,λs hs=>b5 s ((hg.ah e).subset hs)⟩
 .obtain⟨m0,h0,h1,h2,h3,h4⟩:=hmm m hm;rw[h2];exact H.wm m0 h0
 .grind [cR]
 .obtain⟨e,he,_,rfl⟩:=cR hd;exact H.ws e he s ((hg.ah e).subset hs)
 .obtain⟨e,he,_,rfl⟩:=cR hd;rw[hg.body]at hx;rw[hg.kind]at hb;exact H.wn e he hb x hx b hbn
end
theorem gm_id:Gm id:=⟨λ_=>rfl,λ_=>rfl,λ_=>rfl,λ_=>rfl,λ_=>rfl,λ_=>rfl,λ_=>rfl,λ_=>List.Sublist.refl _⟩
abbrev Hc(d:an)(x:an):Bool:=decide (x.id≠d.id)
abbrev OP(p:au)(d:an):List ao:=(bb p).filter λx=>decide (x.id≠d.id)
theorem OO{p:au}(H:jZ p){d:an}(hd:d∈p.aa):CanL (OP p d) (kB p (Hc d) id):=by
 have hS:=Bs H.can H.nd;have hdp:cM d∈bb p:=by
  unfold bb
  grind
 have huni:∀x∈bb p,x.id=d.id->x=cM d:=λx hx e=>by
  have h1:=wC H.nd hx;have h2:=wC H.nd hdp
  grind [cM,TW]
 have hfl:∀(f:ao->Bool) (L:List ao),((bb p).filter f).Perm L->((OP p d).filter f).Perm (L.filter λx=>decide (x.id≠d.id)):=λf L h=>by
  have:=h.filter λx=>decide (x.id≠d.id)
  grind [YQ]
 have hmem:∀x∈bb p,x.kind≠2->decide (x.id≠d.id)=true:=λx hx hk=>J5 λe=>hk (by rw[huni x hx e];rfl);have hin:∀{f:ao->Bool} {L:List ao},((bb p).filter f).Perm L->(∀x∈L,x.kind≠2)->L.filter (λx=>decide (x.id≠d.id))=L:=fun{f L} h hk=>jj λx hx=>hmem x (Sp.1 (h.mem_iff.2 hx)).1 (hk x hx);refine⟨H.nd.sublist (TK.map _),?_,?_,λe he=>?_,λe he=>?_⟩
 .refine(hfl _ _ hS.pm).trans (.of_eq ?_);rw[hin hS.pm λx hx=>by obtain⟨m,_,rfl⟩:=R3.1 hx;exact(by decide:¬(0:Int)=2)];show _=(p.aw.map _).map fe;rw[SP];rfl
 .refine(hfl _ _ hS.pd).trans (.of_eq ?_);rw[WX];show _=((p.aa.filter (Hc d)).map id).map cM;rw[Z2];rfl
 .obtain⟨e0,he0,_,rfl⟩:=cR he;refine(hfl _ _ (hS.ps e he0)).trans (.of_eq ?_);exact hin (hS.ps e he0) λx hx=>by obtain⟨s,_,rfl⟩:=R3.1 hx;exact(by decide:¬(3:Int)=2)
 .obtain⟨e0,he0,hb,hx⟩:=uk he;obtain⟨e1,he1,_,rfl⟩:=cR he0;have h1:=hS.pn e (iS (R3.2 ⟨e0,Sp.2 ⟨he1,hb⟩,rfl⟩) hx);exact Sp.2 ⟨h1,hmem _ h1 (by exact(by decide:¬(4:Int)=2))⟩
theorem Ez{p:au}(H:jZ p){d:an}:jZ (kB p (Hc d) id):=yY gm_id H H.wd
theorem Hb{p:au}(H:jZ p){d:an}(hd:d∈p.aa){l:List ao}(hl:l.Perm (OP p d)):Dn l (kB p (Hc d) id):=by refine PE (Ez H).can (OO H hd) hl ?_;have h1:(OP p d).length<=(bb p).length:=UK ..;have:=H.Di;omega
theorem FP:∀{l:List dJ},fZ l=[]->l=[]
 |[],_=>rfl
 |[x],h=>by cases h
 |x::y::l,h=>by
  rw[wG]at h;split at h
  .have:=FP h;cases this
  .cases h
theorem Es{l:List dJ}:fZ (gf l)=[]↔l=[]:=by
 constructor
 .intro h;have h1:=FP h;have h2:=(DP l).2;simp_all
 .rintro rfl;unfold gf;rw[YR];rfl
theorem qT{p:au}(h:dY wT p=[]):(∀d∈p.aa,tc wT p d=[])/\∀m∈p.aw,vM wT p m=[]:=by unfold dY at h;simp_all
theorem if_nil{α:Type}{c:Prop}[Decidable c]{x:α}(h:(if c then[] else[x])=[]):c:=by
 grind
theorem oc{p:au}:∀(n:Nat) (t:Ty),bW p n t=true->∀z∈cJ t,cK p z
 |0,_,h=>by cases h
 |n+1,t,h=>λz hz=>by
  rw[AK]at hz;by_cases hk:t.kind=2
  .obtain⟨_,y,hy,h2⟩:=(j5 hk).1 h;rw[J1 Q0,hy,Sv,cW,cW,RW]at hz;exact oc n y h2 z hz
  .rw[bW,J1 hk,RP,Vf]at h;rw[h.1,cW,RW]at hz;split at hz
   .rename_i h3;rw[J2 h3,decide_eq_true_eq]at h;rw[RZ.1 hz];exact h.2.1
   .cases hz
theorem Nl{i:av}{k:Int}{j:Nat}{v:eP}(h:v∈gW i k j):v.1=i:=by
 unfold gW at h
 grind
mutual
theorem uL{p:au}:∀(e:Ex) (a:List eP),dS wT p e a=[]->∀x∈bV e,∃b,mF wT p x b=[]/\∀v∈b,v∈a\/v.1∈(bV e).map Ex.id
 |.mk i k n r t l s,a,h,x,hx=>by
  rw[dS,U0]at h;rw[bV]at hx;rcases RY.1 hx with hx|hx
  .obtain⟨b,h1,h2⟩:=zf i k l 0 a h.2 x hx;refine⟨b,h1,λv hv=>?_⟩;rw[bV,Si];rcases h2 v hv with h3|h3|h3
   .exact .inl h3
   .exact .inr (List.mem_append_right _ (by rw[h3];exact RZ.2 rfl))
   all_goals grind
  all_goals grind
theorem zf{p:au}(i:av)(k:Int):∀(l:List Ex) (j:Nat) (a:List eP),bS wT p i k l j a=[]->∀x∈aT l,∃b,mF wT p x b=[]/\∀v∈b,v∈a\/v.1=i\/v.1∈(aT l).map Ex.id
 |[],_,_,_,x,hx=>by rw[aT]at hx;cases hx
 |e::l,j,a,h,x,hx=>by
  rw[bS,U0]at h;rw[aT]at hx;rw[aT,Si];rcases RY.1 hx with hx|hx
  .obtain⟨b,h1,h2⟩:=uL e _ h.1 x hx;refine⟨b,h1,λv hv=>?_⟩;rcases h2 v hv with h3|h3
   .rcases RY.1 h3 with h3|h3
    .exact .inl h3
    .exact .inr (.inl (Nl h3))
   .exact .inr (.inr (List.mem_append_left _ h3))
  .obtain⟨b,h1,h2⟩:=zf i k l _ a h.2 x hx;refine⟨b,h1,λv hv=>?_⟩;rcases h2 v hv with h3|h3|h3
   .exact .inl h3
   .exact .inr (.inl h3)
   .exact .inr (.inr (List.mem_append_right _ h3))
end
theorem Bm{p:au}{d:an}(h:tc wT p d=[]):(∀s∈d.ah,cd p s.ty)/\(dR d.kind=true->cd p d.aq/\dS wT p d.body (gz d)=[]):=by
 unfold tc at h;rw[U0,U0]at h;refine⟨λs hs=>?_,λhb=>?_⟩
 .have h1:=h.1.1;unfold cv at h1;simp_all
 all_goals grind
theorem Hl{p:au}{x:Ex}(hc:eE x.kind)(hn:¬cK p x.ref):(gg p x).2=true:=by
 grind [gg,eE]
theorem Ig{p:au}(H:zt p)(hr:∀e∈p.aa,¬dR e.kind=true->e.aq=bQ)(ht:∀e∈p.aa,dR e.kind=true->∀x∈bV e.body,x.kind=11->x.ty=bQ)
  {d e:an} (_:d∈p.aa) (he:e∈p.aa) (hu:d.id∈aR p e.id):dY wT (kB p (Hc d) id)≠[]:=λhp=>by
 have hne:e.id≠d.id:=λc=>by obtain⟨k,hk,rfl⟩:=R8.1 he;obtain⟨j,hj,hjk,e1⟩:=H.us k hk _ hu;have:=H.fv.can.inj hj hk (e1.trans c.symm);omega
 obtain⟨h1,h2⟩:=Bm ((qT hp).1 e (CE (g:=id) he (J5 hne)));have hno:¬cK (kB p (Hc d) id) d.id:=by
  rintro⟨x,hx,c⟩
  grind [cR]
 obtain⟨_,hx,_⟩:=EX hu;rw[H.fv.mY he]at hx;unfold vJ at hx;have z0:d.id ∉ cJ bQ:=by rw[show cJ bQ=[] from rfl];simp
 rcases RY.1 hx with hx|hx
 .rcases RY.1 hx with hx|hx
  .by_cases hb:dR e.kind=true
   .exact hno (oc _ _ (h2 hb).1 _ hx)
   .rw[hr e he hb]at hx;exact z0 hx
  .obtain⟨s,hs,hx⟩:=AN hx;exact hno (oc _ _ (h1 s hs) _ hx)
 .split at hx
  .rename_i hb;have hb:dR e.kind=true:=J5 hb;obtain⟨x,hxe,hx⟩:=TO.1 hx;obtain⟨b,h3,_⟩:=uL _ _ (h2 hb).2 x hxe;unfold oH at hx;rcases RY.1 hx with hx|hx
   .unfold Ch at hx;split at hx
    .rename_i hc;have hx:=RZ.1 hx;unfold mF at h3;rw[Hl hc (by grind),VQ,J2 rfl]at h3;simp at h3
    .cases hx
   .unfold ON at hx;split at hx
    .rename_i hc;rw[ht e he hb x hxe hc]at hx;exact z0 hx
    .cases hx
  .cases hx
def l8(d:an)(s:av)(y:an):an:=if y.id=d.id then⟨y.id,y.kind,y.mod,y.name,y.ah.filter λx=>decide (x.id≠s),y.aq,y.body,y.bm,y.bF⟩ else y
theorem gm_cut(d:an)(s:av):Gm (l8 d s):=by refine⟨λy=>?_,λy=>?_,λy=>?_,λy=>?_,λy=>?_,λy=>?_,λy=>?_,λy=>?_⟩ <;> unfold l8 <;> split <;> first|rfl|exact TK|exact List.Sublist.refl _
theorem F7{p:au}(H:zt p){d:an}(hd:d∈p.aa)(hb:dR d.kind=true){s:aC}(hs:s∈d.ah){x:Ex}(hx:x∈bV d.body)(hk:x.kind=2)(hr:x.ref=s.id):dY wT (kB p (λ_=>true) (l8 d s.id))≠[]:=λhp=>by
 obtain⟨_,h2⟩:=Bm ((qT hp).1 _ (CE (g:=l8 d s.id) hd rfl));have e1:l8 d s.id d=⟨d.id,d.kind,d.mod,d.name,d.ah.filter λx=>decide (x.id≠s.id),d.aq,d.body,d.bm,d.bF⟩:=by grind [l8]
 rw[e1]at h2;obtain⟨b,h3,h4⟩:=uL _ _ (h2 hb).2 x hx;have h5:(x.ref,x.n)∈b:=by
  by_cases c:(x.ref,x.n)∈b
  .exact c
  .unfold mF qC at h3;simp_all
 rcases h4 _ h5 with h6|h6
 .grind [gz]
 .have hn:=H.fv.nd;rw[oD,Td]at hn;refine hn.2.2 s.id (List.mem_append_right _ (TO.2 ⟨d,hd,R3.2 ⟨s,hs,rfl⟩⟩)) s.id (TO.2 ⟨d,hd,?_⟩) rfl
  grind
structure Ny(p q:au):Prop where
 has:∀i,cK p i↔cK q i
 kind:∀i,(al p i).kind=(al q i).kind
 ah:∀i,(al p i).ah=(al q i).ah
 mod:∀i,(al p i).mod=(al q i).mod
 aq:∀i,(al p i).aq=(al q i).aq
 body:∀i,(al p i).body=(al q i).body
section
variable {p q:au} (h:Ny p q)
include h
theorem Ny.ty:∀(n:Nat) (t:Ty),bW p n t=bW q n t
 |0,_=>rfl
 |n+1,t=>by
  have e:iH p t.df↔iH q t.df:=by unfold iH;rw[h.has,h.kind]
  rw[bW,bW];simp only[Ny.ty n,e]
theorem Ny.uT(t:Ty):cd p t↔cd q t:=by unfold cd;rw[h.ty]
theorem Ny.node(e:Ex):gg p e=gg q e:=by
 have h1:gi p e=gi q e:=by unfold gi;rw[decide_eq_decide.2 (h.uT e.ty)]
 unfold gg;rw[h1,h.kind,h.ah];simp only[h.has]
mutual
theorem Ny.below:∀(e:Ex) (a:List eP),dS wT p e a=dS wT q e a
 |.mk i k n r t l s,a=>by rw[dS,dS,Ny.Rh i k l 0 a];unfold mF;rw[h.node]
theorem Ny.Rh(i:av)(k:Int):∀(l:List Ex) (j:Nat) (a:List eP),bS wT p i k l j a=bS wT q i k l j a
 |[],_,_=>by have _:=h;rw[bS,bS]
 |x::l,j,a=>by rw[bS,bS,Ny.below x,Ny.Rh i k l]
end
theorem Ny.cZ(i:av):aR p i=aR q i:=by
 have e1:dA p=dA q:=funext λx=>decide_eq_decide.2 (h.has x);have e2:vJ (al p i)=vJ (al q i):=by unfold vJ;rw[h.kind,h.ah,h.aq,h.body]
 unfold aR;rw[e1,e2];simp only[h.has]
end
theorem Po{ids:List av}{nms:List ByteArray}(h:eo wT ids nms nms.length=[]):nms.Nodup:=by
 unfold eo at h;rw[TC]at h;refine Ua.2 λi j hi hj hij e=>?_;have h1:=h i (U9.2 hi);split at h1
 .cases h1
 .rename_i h2;refine h2 ?_;unfold Bz;have h3:Nx (nms.getD i tx0) (nms.drop (i+1))=true:=by
   rw[eD hi];unfold Nx;refine XO.2 ⟨nms[j],?_,by simp[e]⟩;refine R8.2 ⟨j-(i+1),by grind,?_⟩
   grind
  rw[h3,Bool.or_true]
theorem nd_ne{α β:Type}{f:α->β}{l:List α}(h:(l.map f).Nodup){a b:α}(ha:a∈l)(hb:b∈l)(hne:a≠b):f a≠f b:=λe=>by
 grind [R8,Ua]
def aM(d:an)(nm:ByteArray)(y:an):an:=if y.id=d.id then⟨y.id,y.kind,y.mod,nm,y.ah,y.aq,y.body,y.bm,y.bF⟩ else y
theorem dZ(d:an)(nm:ByteArray)(y:an):(aM d nm y).id=y.id/\(aM d nm y).kind=y.kind/\(aM d nm y).mod=y.mod/\(aM d nm y).aq=y.aq/\(aM d nm y).body=y.body/\(aM d nm y).bm=y.bm/\(aM d nm y).bF=y.bF/\(aM d nm y).ah=y.ah:=by
 unfold aM
 grind
theorem gm_name(d:an)(nm:ByteArray):Gm (aM d nm) :=
 ⟨λy=>(dZ d nm y).1,λy=>(dZ d nm y).2.1,λy=>(dZ d nm y).2.2.1,λy=>(dZ d nm y).2.2.2.1,λy=>(dZ d nm y).2.2.2.2.1,λy=>(dZ d nm y).2.2.2.2.2.1,λy=>(dZ d nm y).2.2.2.2.2.2.1,λy=>by grind [dZ]⟩
abbrev fT(_:an):Bool:=true
theorem jM(p:au)(g:an->an):(kB p fT g).aa=p.aa.map g:=by show(p.aa.filter fT).map g=_;rw[jj λ_ _=>rfl]
theorem tg{p:au}(H:Can p)(g:an->an):(kB p fT g).aw=p.aw:=by
 show p.aw.map _=_
 conv=>rhs;rw[<-Z2 p.aw]
 refine TM λm hm=>?_;rw[jj (f:=fT) λ_ _=>rfl,<-H.md m hm];rfl
theorem Pr(p:au)(d:an)(nm:ByteArray):Ny (kB p fT (aM d nm)) p:=by
 have h:∀i,al (kB p fT (aM d nm)) i=al p i\/al (kB p fT (aM d nm)) i=aM d nm (al p i):=λi=>by
  unfold al;rw[jM,List.find?_map,show(λy:an=>decide (y.id=i)) ∘ aM d nm=λy=>decide (y.id=i) from funext λy=>by grind [aM,dZ]];cases p.aa.find? λy=>decide (y.id=i) with
  |none=>exact .inl rfl
  |some y=>exact .inr rfl
 refine⟨λi=>?_,λi=>?_,λi=>?_,λi=>?_,λi=>?_,λi=>?_⟩
 .unfold cK;rw[jM];constructor
  .grind [dZ]
  .rintro⟨y,hy,e⟩;exact⟨_,R3.2 ⟨y,hy,rfl⟩,by grind [dZ]⟩
 all_goals grind [dZ,al]
section
variable {p:au} (H:zt p) {d e:an} (hd:d∈p.aa) (he:e∈p.aa) (hne:d.id≠e.id)
include H hd he hne
theorem uj:jZ (kB p fT (aM d e.name)):=have _:=hd;have _:=hne;yY (gm_name d e.name) H.fv λy hy=>by
 unfold aM;split
 .exact H.fv.wd e he
 .exact H.fv.wd y hy
theorem name_at:aM d e.name e=e:=by have _:=H;have _:=hd;have _:=he;unfold aM;rw[J1 (Ne.symm hne)]
theorem F8(hm:e.mod=d.mod):dY wT (kB p fT (aM d e.name))≠[]:=λhp=>by
 obtain⟨m,hmm,hmd⟩:=H.fv.can.im d hd;have hW:=uj H hd he hne;have h1:=(qT hp).2 _ (R3.2 ⟨m,hmm,rfl⟩);unfold vM at h1;have h2:=Po h1;rw[SP]at h2;have hin:∀y∈p.aa,y.mod=d.mod->y∈(p.aa.filter fT).filter λy=>decide (y.mod=m.id):=λy hy e=>Sp.2 ⟨Sp.2 ⟨hy,rfl⟩,J5 (e.trans hmd.symm)⟩;refine nd_ne h2 (hin d hd rfl) (hin e he hm) (λc=>hne (by rw[c])) ?_;have hth:∀y∈p.aa,al (kB p fT (aM d e.name)) y.id=aM d e.name y:=λy hy=>by
  have:=hW.mY (CE (f:=fT) (g:=aM d e.name) hy rfl)
  grind [dZ]
 show(al _ d.id).name=(al _ e.id).name;rw[hth d hd,hth e he,name_at H hd he hne]
 grind [aM]
theorem Hd(hgl:(p.aa.map an.name).Nodup)(hneed:∀d∈p.aa,∀x∈aR p d.id,(al p x).mod∈bG p d.mod)(hm:e.mod≠d.mod):dY wT (kB p fT (aM d e.name))=[]:=by
 have hA:=Pr p d e.name;have hW:=uj H hd he hne;have hE:=dZ d e.name;have hms:=tg H.fv.can (aM d e.name);have hmu:∀i,bG (kB p fT (aM d e.name)) i=bG p i:=λi=>by unfold bG;rw[hms]
 have hapart:∀a∈p.aa,∀b∈p.aa,a.id≠b.id->a.mod=b.mod->(aM d e.name a).name≠(aM d e.name b).name:=λa ha b hb hab hmo=>by
  have hn:∀x∈p.aa,∀y∈p.aa,x.id≠y.id->x.name≠y.name:=λx hx y hy hxy=>nd_ne hgl hx hy λc=>hxy (by rw[c]);have hdm:∀x∈p.aa,x.id=d.id->x=d:=λx hx c=>by rw[<-H.fv.mY hx,c,H.fv.mY hd]
  unfold aM;by_cases h1:a.id=d.id
  .rw[J2 h1,J1 (λc=>hab (h1.trans c.symm))];refine hn e he b hb λc=>hm ?_;have h2:e=b:=by rw[<-H.fv.mY he,c,H.fv.mY hb]
   grind
  .rw[J1 h1];by_cases h2:b.id=d.id
   .rw[J2 h2];refine hn a ha e he λc=>hm ?_;have h3:e=a:=by rw[<-H.fv.mY he,<-c,H.fv.mY ha]
    rw[h3,hmo,hdm b hb h2]
   all_goals grind
 have hN:zt (kB p fT (aM d e.name)):=by
  refine⟨hW,by rw[hms];exact H.nmM,λm hm=>?_,λy hy=>?_,λy hy=>?_,λy hy hb=>?_,λk hk x hx=>?_⟩
  .rw[jM,WX,SP];refine S4.2 (Xh (fun{a b} ha hb hab=>?_) (Y1 _ (wv H.fv.can.di)));obtain⟨a1,a2⟩:=Sp.1 ha;obtain⟨b1,b2⟩:=Sp.1 hb;have a2:(aM d e.name a).mod=m.id:=J7 a2;have b2:(aM d e.name b).mod=m.id:=J7 b2
   grind [uq]
  .obtain⟨z,hz,_,rfl⟩:=cR hy;rw[(hE z).2.2.2.2.2.2.2];exact H.nmS z hz
  .obtain⟨z,hz,_,rfl⟩:=cR hy;rw[(hE z).2.2.2.2.2.2.2,(hE z).2.2.2.1];exact⟨λs hs=>(hA.uT s.ty).2 ((H.vs z hz).1 s hs),(hA.uT _).2 (H.vs z hz).2⟩
  .obtain⟨z,hz,_,rfl⟩:=cR hy;rw[(hE z).2.1]at hb;unfold gz;rw[(hE z).2.2.2.2.1,(hE z).2.2.2.2.2.2.2,hA.below];exact H.bd z hz hb
  .have hk':k<p.aa.length:=by grind [jM,Sa]
   have hid:∀j (hj:j<(kB p fT (aM d e.name)).aa.length) (hj':j<p.aa.length),(kB p fT (aM d e.name)).aa[j].id=p.aa[j].id:=λj hj hj'=>by
    have:(kB p fT (aM d e.name)).aa[j]=aM d e.name p.aa[j]:=by simp only[jM,S0]
    rw[this,(hE _).1]
   rw[hid k hk hk',hA.cZ]at hx;obtain⟨j,hj,hjk,e1⟩:=H.us k hk' x hx
   grind
 rw[hN.LN,TC];intro y hy;obtain⟨z,hz,_,rfl⟩:=cR hy;refine Vf.1 (yf.2 λx hx=>?_);rw[(hE z).1,hA.cZ]at hx;rw[hA.mod,hmu,(hE z).2.2.1];exact hneed z hz x hx
end
end Go.Proofs.YtmbboaapillefaaGreatDoor
