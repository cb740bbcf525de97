/- Xe1, Xe2, Api, Pure, Xe3, Xe4, XeLd, PureA, PureB, Ev0, Gr, Arg, Laid, PmA, PmB, PmC, PmD, PmE, PmF, PmG, XeZ, Ev9, Ev10, PmH, PmI, put together. -/
import Derived.WalkKit
import Derived.Deep.Quiet
import Derived.OrdersHeld
import Derived.ProofKit
import Derived.SizedLaws
import Derived.Below
import Derived.Recover
import Derived.Carry
import Derived.OpenShut
import Derived.Deep.CondSized
import Derived.Scope
import Derived.Lib.AppendZeros
import Derived.Laws.Bits64b
import Derived.Deep.DeepHandedRow
import Derived.LaidMore
import Derived.KernelRfl
import Derived.Test.YtmbboaapillefaaGreatDoorProg
import Derived.Test.YtmbboaapillefaaGreatDoorCards
import Derived.Test.YtmbboaapillefaaGreatDoorTie
import Derived.LaidHandle
import Derived.WideKeyMaps
import Derived.Lib.LaidU8
import Derived.Stop.Joined
open Array renaming toList_push->XI,getElem?_eq_some_iff->RH,getElem?_setIfInBounds_ne->U7,getElem_modify->Xd,range->YD,getElem?_eq_getElem->Um,length_toList->S3,toList_append->UU
open Bool renaming and_eq_true->QA,and->UB
open ByteArray renaming empty->Xr
open Go renaming Value->Qw,Operand->QM,maxLen->Ti,TypeId->QH,MapEntry->Su,World->QL,Program->QE,wp_mono->YC,FuncId->UY,execOp->Rc,run_underlying->QN,sizeOf->TS,typeInfo->TJ,binOp->SQ,eqGuard->RZ,builtin->Tm,IntKind->R6,asIntOf->YI,loadCellsFrom->Xs,zeroValue->YS,storeCells->VJ,Field->Xf,run_equalIn_bool->YU,ChangeSpec->Yu,DataW->Tt,MemPlace->Wg,reachBytes->Yw,grownCap->To,size_zeroCells->TY,laidMetH->UJ,func_of_trod->Wi,BinOp->WY
open Go.Act renaming eval->Vm,put->Vn
open Go.Addr renaming add->Uz
open Go.Builtin renaming append_->RV,lenOf->SU,firstCells->Sx,zeroCells->RD
open Go.ByteArray renaming toList_eq->WX
open Go.DataW renaming Whole->YF,TrodAll->Un,weightsAll->XT,trod->TX,trod_int->Ye,trod_string->XJ,weights->Uo,weightsEach->TQ,trod_array->XU,insert->W0
open Go.DataW.lit renaming injEq->Xo
open Go.Instr renaming fieldAt->Yl,sureAddr->Sv,indexAt->Yn,loadAt->Ys,fill->Xt,buildSlice->Vo,sliceBound->XS,slice->S0,sliceBounds->RM,findAsking->Sn,findKey->S2,findNow->Uw
open Go.IntKind renaming i64->Ym
open Go.Lit renaming int->YV
open Go.Op renaming intArith->T6,intDiv->Xc,intCmp->Tu,equal->YE,stringOp->XL
open Go.OpenSpec renaming ofChange->Uf
open Go.Oper renaming wp->UH
open Go.Proofs.Tryz renaming prog->Qu,underlying3->Sc
open Go.Region renaming wanted->Sg
open Go.Result renaming andThen_ok->Tr
open Go.Sem renaming run_bind->SD,run_pure->YT
open Go.Value renaming oneCell'->Tz,ownBlock->RN,cells->VB,okWide->UZ,slice->YG,int->Sa
open Go.Value.slice renaming injEq->Ri
open Go.WideMaps renaming rd_key->Xu,rd_val->Xv
open Go.World renaming cell?->RQ,cells?_some->XK
open Int renaming tmod_eq_emod_of_nonneg->RB,eq_ofNat_of_zero_le->UK
open List renaming getElem?_cons_zero->Ru,getElem?_append_left->WL,getElem?_append_right->Wy,map_append->Rb,nodup_append->R7,mem_map->QP,map_cons->QT,map_nil->R5,mem_singleton->QI,mem_append->QK,ext_getElem?->U5,mem_filterMap->Tf,Sublist->U6,Perm->X5,mem_cons->Qz,filterMap_cons->Rh,nodup_cons->Rw,mem_cons_self->Qt,mem_cons_of_mem->Qx,length_cons->QG,mem_iff_getElem->QO,map_toArray->UA,eq_nil_of_length_eq_zero->Rg,sublist_cons_self->Tn,take_of_length_le->Rj,take_succ_eq_append_getElem->Qv,getElem_set_self->SP,cons_append->Rm,nil_append->Rk,drop_set->Yt,length_take->Rf,length_drop->RO,getElem?_take_of_lt->TI,flatMap_cons->QD,length_append->QC,drop_drop->SE,drop_of_length_le->UI,take_set->Yv,getElem?_drop->Sp,drop_zero->RR,mem_of_getElem?->TF,sum_cons->SN,take_append_drop->SF,take_left->UT,flatten_cons->TW,all_eq_true->T0,contains_iff_mem->Xg,getElem?_eq_getElem->QQ,getElem_mem->QB,range->UQ,getElem?_eq_some_iff->Se,length_map->QS,append_nil->QF,isEmpty_iff->Wh,length_eq_zero_iff->WZ,getElem?_take->R8,getElem?_map->Tv,mem_filter->Rq,map_map->R3,map_congr_left->TM,replicate->QY,mem_map_of_mem->Rl,filter_eq_self->Tj,filter_append->RF
open List.Perm renaming trans->Xq
open List.cons renaming injEq->SA
open Nat renaming beq->Qy,blt->Sq,beq_refl->Ud,eq_of_beq_eq_true->Qp,ble->SI,zero_add->Rn,le_refl->QW,zero_le->Rr,le_trans->SS,add_mul->RA,mul_le_mul_right->Rz,add_assoc->RW,add_zero->RY,succ_mul->Ue,add_comm->S9,le_of_eq->UN,zero_mul->TP,sub_zero->T9,sub_self->UO,mul_one->Td
open Option renaming bind_some->TV,isSome_iff_exists->R0,map_some->TK,map_eq_some_iff->R9
open Option.some renaming injEq->Qq,inj->Sw
open Prod renaming fst->QZ,snd->Ra
open Prod.mk renaming injEq->QR
open SizeOf renaming sizeOf->Ul
namespace Xe
theorem J1.{u}{c:Prop}{h:Decidable c}(n:¬c){α:Sort u}{t e:α}:ite c t e=e:=if_neg n
theorem J2.{u}{c:Prop}{h:Decidable c}(n:c){α:Sort u}{t e:α}:ite c t e=t:=if_pos n
theorem J3{a b:Prop}(h:a)(k:¬a):b:=absurd h k
theorem J4.{u,v}{α:Sort u}{β:Sort v}{a b:α}(f:α -> β)(h:a=b):f a=f b:=congrArg f h
theorem J5{p:Prop}[Decidable p]:p -> decide p=true:=decide_eq_true
theorem J6{p:Prop}[Decidable p]:¬p -> decide p=false:=decide_eq_false
theorem J7{p:Prop}[Decidable p]:decide p=true -> p:=of_decide_eq_true
theorem Q0{p:Prop}(h:p:=by omega):p:=h
theorem Q1{p:Prop}(h:p:=by decide):p:=h
theorem Q2{p:Prop}(h:p:=by simp):p:=h
theorem Q3{p:Prop}(h:p:=by rfl):p:=h
theorem Q4{p:Prop}(h:p:=by unfold bt;omega):p:=h
theorem Q5{p:Prop}(h:p:=by first|(simp;done)|simp[ar.gF]):p:=h
theorem Q6{p:Prop}(h:p:=by first|(simp[Tz];done)|simp[Tz,ar.gF]):p:=h
theorem Q7{p:Prop}(h:p:=by first|exact Kn.lenRds MM EL|exact Kn.lenLit rfl):p:=h
theorem Q8{p:Prop}(h:p:=by first|exact decide_eq_true_iff|(simp only[decide_eq_true_eq];omega)|(simp only[true_iff];omega)|(simp only[Bool.false_eq_true,false_iff];omega)):p:=h
theorem Q9{p:Prop}(h:p:=by first|omega|(simp;done)|(simp;omega)):p:=h
theorem Qa{p:Prop}(h:p:=by unfold aO;omega):p:=h
theorem Qb{p:Prop}(h:p:=by simp <;> omega):p:=h
theorem Qc{p:Prop}(h:p:=by simp;omega):p:=h
end Xe
namespace Xe
open Go
abbrev Lm:=List (Nat×Qw)
def kQ:Lm->Nat->Option Qw
 |[],_=>none
 |(t,v)::r,s=>match Qy s t with
  |true=>some v
  |false=>kQ r s
def bm(L:Lm):QM->Option Qw
 |.tmp t=>kQ L t
 |.const v=>some v
 |.global g=>some (.pointer (some ⟨g,0,none⟩))
 |.func f=>some (.func (.func f) #[] #[])
structure Sat(n:Nat)(L:Lm)(a:Act):Prop where
 size:a.tmps.size=n
 defers:a.defers=[]
 get:∀t v,kQ L t=some v->a.tmps[t]?=some v
theorem Sat.ev{n:Nat}{L:Lm}{a:Act}(h:Sat n L a){x:QM}{v:Qw}(hx:bm L x=some v):a.eval x=v:=by
 cases x with
 |tmp t=>have:=h.get t v hx;simp only[Vm,Array.getD_eq_getD_getElem?,this,Option.getD_some]
 |const c=>simpa[bm,Vm]using hx
 |global g=>simpa[bm,Vm]using hx
 |func f=>simpa[bm,Vm]using hx
theorem Sat.put{n d:Nat}{L:Lm}{a:Act}{v:Qw}(h:Sat n L a)(hd:Sq d n=true):Sat n ((d,v)::L) (a.put (some d) v):=by
 have hd':d<n:=by simp_all
 refine⟨by simp[Vn,h.size],by simp[Vn,h.defers],λt u ht=>?_⟩;simp only[kQ]at ht;by_cases e:t=d
 .subst e;have hb:Qy t t=true:=Ud t;rw[hb]at ht;simp only[Qq]at ht;subst ht;have:t<a.tmps.size:=by rw[h.size];exact hd'
  simp[Vn,this]
 .have hb:Qy t d=false:=by
   cases hb:Qy t d with
   |false=>rfl
   |true=>exact J3 (Qp hb) e
  rw[hb]at ht;have:=h.get t u ht;simp only[Vn]
  grind
theorem Sat.ON{n:Nat}{L L':Lm}{a:Act}(h:Sat n L a)(hk:∀t v,kQ L' t=some v->kQ L t=some v):Sat n L' a :=
 ⟨h.size,h.defers,λt v ht=>h.get t v (hk t v ht)⟩
def lr(L L':Lm):Prop:=∀t v,kQ L' t=some v->kQ L t=some v
theorem lr.nil(L:Lm):lr L []:=λ_ _ h=>by simp[kQ]at h
theorem lr.cons{L L':Lm}(t:Nat){v:Qw}(h:kQ L t=some v)(k:lr L L'):lr L ((t,v)::L'):=λs u hs=>by
 simp only[kQ]at hs;cases hb:Qy s t with
 |true=>rw[hb]at hs;simp only[Qq]at hs;subst hs;rw[Qp hb];exact h
 |false=>rw[hb]at hs;exact k s u hs
theorem lr.refl(L:Lm):lr L L:=λ_ _ h=>h
abbrev Mem:=Nat->Option Obj
def Sub(M M':Mem):Prop:=∀b o,M b=some o->M' b=some o
theorem Sub.refl(M:Mem):Sub M M:=λ_ _ h=>h
theorem Sub.trans{M M' M'':Mem}(h:Sub M M')(k:Sub M' M''):Sub M M'':=λb o hb=>k b o (h b o hb)
def fT(a:Option Addr)(i:Nat):Addr:=(a.getD default).add i
theorem eu(a:Option Addr)(i j:Nat):(fT a i).add j=fT a (i+j):=by
 unfold fT Uz
 grind
theorem cx(b o i:Nat):fT (some ⟨b,o,none⟩) i=⟨b,o+i,none⟩:=by
 unfold fT Uz
 grind
def dW(M:Mem)(p:Addr):Option Qw :=
 match M p.block with
 |some (.cells c _ _)=>if p.spot.isSome then none else c[p.off]?
 |_=>none
theorem kV{M M':Mem}(h:Sub M M'){p:Addr}{v:Qw}(hv:dW M p=some v):dW M' p=some v:=by
 unfold dW at *;cases hM:M p.block with
 |none=>simp[hM]at hv
 |some o=>rw[h _ _ hM];rw[hM]at hv;exact hv
inductive D where
 |v (x:Qw)
 |sl (n sz:Nat) (cs:List D)
def lim:Nat:=140737488355328
mutual
def Rd(M:Mem):D->Qw->Prop
 |.v x,u=>u=x/\x.oneCell'=true
 |.sl n sz cs,u=>∃a cap,u=.slice a n cap/\n<=cap/\cap<=Ti/\n<=lim/\cs.length=n*sz/\(0<n->a.isSome=true)/\o5 M a 0 cs
def o5(M:Mem)(a:Option Addr):Nat->List D->Prop
 |_,[]=>True
 |i,d::ds=>(∃u,dW M (fT a i)=some u/\Rd M d u)/\o5 M a (i+1) ds
end
mutual
theorem Rd.mono{M M':Mem}(h:Sub M M'):∀(d:D) (u:Qw),Rd M d u->Rd M' d u
 |.v x,u,hr=>by simpa[Rd]using hr
 |.sl n sz cs,u,hr=>by simp only[Rd]at hr ⊢;obtain⟨a,cap,h1,h2,h3,h4,h5,h6,h7⟩:=hr;exact⟨a,cap,h1,h2,h3,h4,h5,h6,o5.mono h a cs 0 h7⟩
theorem o5.mono{M M':Mem}(h:Sub M M')(a:Option Addr):∀(cs:List D) (i:Nat),o5 M a i cs->o5 M' a i cs
 |[],i,_=>by simp[o5]
 |d::ds,i,hr=>by simp only[o5]at hr ⊢;obtain⟨⟨u,h1,h2⟩,h3⟩:=hr;exact⟨⟨u,kV h h1,Rd.mono h d u h2⟩,o5.mono h a ds (i+1) h3⟩
end
theorem o5.get{M:Mem}{a:Option Addr}:∀(cs:List D) (i:Nat),o5 M a i cs->∀(k:Nat) (d:D),cs[k]?=some d->∃u,dW M (fT a (i+k))=some u/\Rd M d u
 |[],_,_,k,d,hk=>by simp at hk
 |e::es,i,h,k,d,hk=>by
  simp only[o5]at h;cases k with
  |zero=>simp only[Ru,Qq]at hk;subst hk;exact h.1
  |succ k=>obtain⟨u,h1,h2⟩:=o5.get es (i+1) h.2 k d (by grind);exact⟨u,by grind,h2⟩
theorem o5.mk{M:Mem}{a:Option Addr}:∀(cs:List D) (i:Nat),(∀(k:Nat) (d:D),cs[k]?=some d->∃u,dW M (fT a (i+k))=some u/\Rd M d u)->o5 M a i cs
 |[],_,_=>by simp[o5]
 |e::es,i,h=>by
  simp only[o5];refine⟨?_,o5.mk es (i+1) λk d hk=>?_⟩
  .have:=h 0 e rfl;simpa using this
  .have:=h (k+1) d (by grind)
   grind
def bz(M:Mem)(ds:List D)(us:List Qw):Prop:=us.length=ds.length/\∀(k:Nat) (d:D) (u:Qw),ds[k]?=some d->us[k]?=some u->Rd M d u
theorem bz.mono{M M':Mem}(h:Sub M M'){ds:List D}{us:List Qw}(hr:bz M ds us):bz M' ds us :=
 ⟨hr.1,λk d u h1 h2=>Rd.mono h d u (hr.2 k d u h1 h2)⟩
theorem bz.nil(M:Mem):bz M [] []:=⟨rfl,λk d u h _=>by simp at h⟩
theorem bz.cons{M:Mem}{d:D}{u:Qw}{ds:List D}{us:List Qw}(h:Rd M d u)(k:bz M ds us):bz M (d::ds) (u::us) :=
 ⟨by simp[k.1],λi e x h1 h2=>by
  cases i with
  |zero=>simp only[Ru,Qq]at h1 h2;subst h1 h2;exact h
  |succ i=>exact k.2 i e x (by grind) (by grind)⟩
theorem bz.append{M:Mem}{ds es:List D}{us xs:List Qw}(h:bz M ds us)(k:bz M es xs):bz M (ds++es) (us++xs):=by
 refine⟨by simp[h.1,k.1],λi d u h1 h2=>?_⟩;by_cases hi:i<ds.length
 .rw[WL hi]at h1;rw[WL (by rw[h.1];exact hi)]at h2;exact h.2 i d u h1 h2
 .rw[Wy Q0]at h1;rw[Wy (by rw[h.1];omega)]at h2;rw[h.1]at h2;exact k.2 _ d u h1 h2
inductive As where
 |rd (d:D) (u:Qw)
 |rds (ds:List D) (us:List Qw)
 |own (b:Nat) (e:QH) (cs:List Qw)
 |acc (u:Qw) (e:QH) (sz n:Nat) (us:List Qw)
 |mp (b:Nat) (l:List (Qw×Qw))
 |raw (b:Nat) (o:Obj)
def nN(es:Array Su)(clock:Nat):Prop:=(es.toList.map (·.born)).Nodup/\∀x∈es.toList,x.born<clock
theorem nN.push{es:Array Su}{clock:Nat}(h:nN es clock)(e:Su)(he:e.born=clock:=by rfl):nN (es.push e) (clock+1):=by
 refine⟨?_,λx hx=>?_⟩
 .rw[XI,Rb,R7];refine⟨h.1,Q2,λa ha b hb=>?_⟩;obtain⟨x,hx,rfl⟩:=QP.1 ha;simp only[QT,R5,QI]at hb;have:=h.2 x hx;omega
 .rw[XI]at hx;rcases QK.1 hx with hx|hx
  .have:=h.2 x hx;omega
  all_goals grind
theorem nN.modify{es:Array Su}{clock:Nat}(h:nN es clock){f:Su->Su}(hf:∀e,(f e).born=e.born)(i:Nat):nN (es.modify i f) clock:=by
 have e:(es.modify i f).toList.map (·.born)=es.toList.map (·.born):=by
  rw[Array.toList_modify];apply U5
  grind
 refine⟨by rw[e];exact h.1,λx hx=>?_⟩;have:x.born∈es.toList.map (·.born):=by grind
 obtain⟨y,hy,e2⟩:=QP.1 this;rw[<-e2];exact h.2 y hy
def As.gh:As->Option Nat
 |.own b _ _=>some b
 |.acc u _ _ _ _=>u.ownBlock
 |.mp b _=>some b
 |.raw b _=>some b
 |_=>none
def As.ok(M:Mem)(w:QL):As->Prop
 |.rd d u=>Rd M d u
 |.rds ds us=>bz M ds us
 |.own b e cs=>M b=none/\w.heap[b]?=some (.cells cs.toArray e (0,0))
 |.acc u e sz n us=>w.ownsRow 0 e sz u n us/\∀b,u.ownBlock=some b->M b=none
 |.mp b l=>M b=none/\∃es clock,w.heap[b]?=some (.map es clock)/\es.toList.map (λe=>(e.key,e.val))=l/\nN es clock
 |.raw b o=>M b=none/\w.heap[b]?=some o
structure St(w0:QL)(M:Mem)(Γ:List As)(w:QL):Prop where
 os:w.os=w0.os
 tape:w.tape=w0.tape
 output:w.output=w0.output
 size:w0.heap.size<=w.heap.size
 mem:∀b o,M b=some o->w.heap[b]?=some o
 all:∀x,x∈Γ->x.ok M w
 nodup:(Γ.filterMap As.gh).Nodup
theorem St.lt{w0 w:QL}{M:Mem}{Γ:List As}(h:St w0 M Γ w){b:Nat}{o:Obj}(hb:M b=some o):b<w.heap.size:=by
 have:=h.mem b o hb
 grind
theorem St.fresh{w0 w:QL}{M:Mem}{Γ:List As}(h:St w0 M Γ w):M w.heap.size=none:=by
 cases hM:M w.heap.size with
 |none=>rfl
 |some o=>have:=h.lt hM;omega
theorem St.cell{w0 w:QL}{M:Mem}{Γ:List As}(h:St w0 M Γ w){p:Addr}{v:Qw}(hv:dW M p=some v):w.cell? p=some v:=by
 unfold dW at hv;unfold RQ;cases hM:M p.block with
 |none=>simp[hM]at hv
 |some o=>rw[h.mem _ _ hM];rw[hM]at hv;cases o <;> first|exact hv|simp at hv
theorem As.bg{M:Mem}{w:QL}{x:As}(h:x.ok M w){b:Nat}(hb:x.gh=some b):b<w.heap.size/\M b=none:=by
 cases x with
 |rd d u=>simp[As.gh]at hb
 |rds d u=>simp[As.gh]at hb
 |own b' e cs=>simp only[As.gh,Qq]at hb;subst hb;exact⟨(RH.1 h.2).1,h.1⟩
 |acc u e sz n us=>simp only[As.gh]at hb;exact⟨(h.1.lt b hb).2,h.2 b hb⟩
 |mp b' l=>simp only[As.gh,Qq]at hb;subst hb;obtain⟨h1,es,clock,h2,_⟩:=h;exact⟨(RH.1 h2).1,h1⟩
 |raw b' o=>simp only[As.gh,Qq]at hb;subst hb;exact⟨(RH.1 h.2).1,h.1⟩
theorem As.fy{M M':Mem}{w w':QL}{x:As}(h:x.ok M w)(hs:Sub M M')(hb:∀b,x.gh=some b->w'.heap[b]?=w.heap[b]?/\M' b=none):x.ok M' w':=by
 cases x with
 |rd d u=>exact Rd.mono hs d u h
 |rds ds us=>exact bz.mono hs h
 |own b e cs=>exact⟨(hb b rfl).2,by rw[(hb b rfl).1];exact h.2⟩
 |acc u e sz n us =>
  refine⟨?_,λb hbb=>(hb b hbb).2⟩;obtain⟨h1,h2⟩:=h.1;refine⟨h1,?_⟩;rcases h2 with h2|⟨g,cap,cur,hv,hg,hh,r⟩
  .exact .inl h2
  .exact .inr ⟨g,cap,cur,hv,hg,by rw[(hb g (by subst hv;rfl)).1];exact hh,r⟩
 |mp b l=>obtain⟨_,es,clock,h2,h3⟩:=h;exact⟨(hb b rfl).2,es,clock,by rw[(hb b rfl).1];exact h2,h3⟩
 |raw b o=>exact⟨(hb b rfl).2,by rw[(hb b rfl).1];exact h.2⟩
theorem vX{Γ:List As}{x:As}{b:Nat}(hx:x∈Γ)(hb:x.gh=some b):b∈Γ.filterMap As.gh:=Tf.2 ⟨x,hx,hb⟩
theorem St.iM{w0 w:QL}{M:Mem}{Γ:List As}(h:St w0 M Γ w)(k:Nat):St w0 M Γ {w with drawn:=k} :=
 ⟨h.os,h.tape,h.output,h.size,h.mem,λx hx=>As.fy (w':={w with drawn:=k}) (h.all x hx) (Sub.refl M) λ_ hb=>⟨rfl,(As.bg (h.all x hx) hb).2⟩,h.nodup⟩
theorem St.sub{w0 w:QL}{M:Mem}{Γ Γ':List As}(h:St w0 M Γ w)(hs:U6 Γ' Γ):St w0 M Γ' w :=
 ⟨h.os,h.tape,h.output,h.size,h.mem,λx hx=>h.all x (hs.subset hx),(hs.filterMap As.gh).nodup h.nodup⟩
theorem St.fP{w0 w:QL}{M:Mem}{Γ Γ':List As}(h:St w0 M Γ w)(hp:X5 Γ Γ'):St w0 M Γ' w :=
 ⟨h.os,h.tape,h.output,h.size,h.mem,λx hx=>h.all x (hp.symm.subset hx),(hp.filterMap As.gh).nodup_iff.1 h.nodup⟩
theorem St.add{w0 w:QL}{M:Mem}{Γ:List As}(h:St w0 M Γ w){x:As}(hx:x.ok M w)(hb:x.gh=none):St w0 M (x::Γ) w :=
 ⟨h.os,h.tape,h.output,h.size,h.mem,λy hy=>by
  rcases Qz.1 hy with rfl|hy
  .exact hx
  .exact h.all y hy,by simpa[Rh,hb]using h.nodup⟩
theorem St.rd{w0 w:QL}{M:Mem}{Γ:List As}(h:St w0 M Γ w){d:D}{u:Qw}(hm:As.rd d u∈Γ):Rd M d u:=h.all _ hm
def o4(w0:QL)(M:Mem)(Γ:List As)(F:Mem->List As->Prop):Prop:=∀w,St w0 M Γ w->∃M' Γ',F M' Γ'/\St w0 M' Γ' w
theorem o4.of{w0:QL}{M M':Mem}{Γ Γ':List As}{F:Mem->List As->Prop}(h:F M' Γ')(k:∀w,St w0 M Γ w->St w0 M' Γ' w):o4 w0 M Γ F:=λw hw=>⟨M',Γ',h,k w hw⟩
theorem St.alloc{w0 w:QL}{M:Mem}{Γ:List As}(h:St w0 M Γ w)(e:QH)(cs:List Qw) :
  St w0 M (.own w.heap.size e cs::Γ) {w with heap:=w.heap.push (.cells cs.toArray e (0,0))}:=by
 have hold:∀b,b<w.heap.size->(w.heap.push (.cells cs.toArray e (0,0)))[b]?=w.heap[b]?:=λb hb=>by
  grind
 refine⟨h.os,h.tape,h.output,by simp;have:=h.size;omega,λb o hb=>?_,λx hx=>?_,?_⟩
 .rw[hold b (h.lt hb)];exact h.mem b o hb
 .rcases Qz.1 hx with rfl|hx
  .exact⟨h.fresh,Q2⟩
  .exact As.fy (h.all x hx) (Sub.refl M) λb hb=>⟨hold b (As.bg (h.all x hx) hb).1,(As.bg (h.all x hx) hb).2⟩
 .simp only[Rh,As.gh];refine Rw.2 ⟨λhm=>?_,h.nodup⟩;obtain⟨x,hx,hb⟩:=Tf.1 hm;have:=(As.bg (h.all x hx) hb).1;omega
theorem St.write{w0 w:QL}{M:Mem}{Γ:List As}{b:Nat}{e:QH}{cs:List Qw}(h:St w0 M (.own b e cs::Γ) w)(cs':List Qw)(w':QL)
  (hw:w'={w with heap:=w.heap.setIfInBounds b (.cells cs'.toArray e (0,0))}):St w0 M (.own b e cs'::Γ) w':=by
 subst hw;have hown:=h.all _ (Qt ..);have hlt:b<w.heap.size:=(RH.1 hown.2).1;have hne:∀k,k≠b->(w.heap.setIfInBounds b (.cells cs'.toArray e (0,0)))[k]?=w.heap[k]?:=λk hk=>U7 Q0;have hnd:=h.nodup;simp only[Rh,As.gh]at hnd;refine⟨h.os,h.tape,h.output,by simp;exact h.size,λk o hk=>?_,λx hx=>?_,by simpa[Rh,As.gh]using h.nodup⟩
 .rw[hne k (λe=>by subst e;rw[hown.1]at hk;cases hk)];exact h.mem k o hk
 .rcases Qz.1 hx with rfl|hm
  .exact⟨hown.1,by simp[hlt]⟩
  .have hx':=h.all x (Qx _ hm);refine As.fy hx' (Sub.refl M) λk hk=>⟨hne k λe=>?_,(As.bg hx' hk).2⟩;subst e;exact(Rw.1 hnd).1 (vX hm hk)
abbrev JR:=Exit->Lm->Mem->List As->Prop
def Real(n:Nat)(w0:QL)(X:JR)(e:Exit)(a:Act)(w:QL):Prop:=∃L M Γ,X e L M Γ/\Sat n L a/\St w0 M Γ w
def CW(P:QE)(n:Nat)(w0:QL)(c:Code)(X:JR)(L:Lm)(M:Mem)(Γ:List As):Prop :=
 ∀a w,Sat n L a->St w0 M Γ w->c.wp P (Real n w0 X) a w
def MN(K:Lm->Mem->List As->Prop)(X:JR):JR
 |.normal,L,M,Γ=>K L M Γ
 |e,L,M,Γ=>X e L M Γ
def Hv(id:Nat)(X:JR):JR
 |.exit i,L,M,Γ=>match Qy i id with
  |true=>X .normal L M Γ
  |false=>X (.exit i) L M Γ
 |e,L,M,Γ=>X e L M Γ
section
variable {P:QE} {n:Nat} {w0:QL} {X:JR} {L:Lm} {M:Mem} {Γ:List As}
theorem CW.pre{c:Code}{L':Lm}{M':Mem}{Γ':List As}(h:CW P n w0 c X L' M' Γ')(hL:lr L L')(hG:∀w,St w0 M Γ w->St w0 M' Γ' w):CW P n w0 c X L M Γ :=
 λa w ha hw=>h a w (ha.ON hL) (hG w hw)
theorem CW.ON{c:Code}{L':Lm}(hL:lr L L')(h:CW P n w0 c X L' M Γ):CW P n w0 c X L M Γ:=h.pre hL λ_ hw=>hw
theorem CW.seq{c1 c2:Code}(h:∀K:Lm->Mem->List As->Prop,(∀L M Γ,CW P n w0 c2 X L M Γ->K L M Γ)->CW P n w0 c1 (MN K X) L M Γ):CW P n w0 (.seq c1 c2) X L M Γ:=by intro a w ha hw;refine wp_seq (YC (h (λL M Γ=>CW P n w0 c2 X L M Γ) (λ_ _ _ h=>h) a w ha hw) ?_);rintro e a w ⟨L,M,Γ,hX,h1,h2⟩;cases e <;> first|exact hX a w h1 h2|exact⟨L,M,Γ,hX,h1,h2⟩
theorem CW.skip(h:X .normal L M Γ):CW P n w0 .skip X L M Γ:=λ_ _ ha hw=>wp_skip ⟨L,M,Γ,h,ha,hw⟩
theorem CW.exit{id:Nat}(h:X (.exit id) L M Γ):CW P n w0 (.exit id) X L M Γ:=λ_ _ ha hw=>wp_exit ⟨L,M,Γ,h,ha,hw⟩
theorem CW.ret(h:X .ret L M Γ):CW P n w0 .ret X L M Γ:=λ_ _ ha hw=>wp_ret ⟨L,M,Γ,h,ha,hw⟩
theorem CW.block{id:Nat}{c:Code}(h:CW P n w0 c (Hv id X) L M Γ):CW P n w0 (.block id c) X L M Γ:=by
 intro a w ha hw;refine wp_block (YC (h a w ha hw) ?_);rintro e a w ⟨L,M,Γ,hX,h1,h2⟩;cases e with
 |exit i =>
  simp only[Exit.inBlock];by_cases e:i=id
  .subst e;have hb:Qy i i=true:=Ud i;simp only[Hv,hb]at hX;simp only[if_true];exact⟨L,M,Γ,hX,h1,h2⟩
  .have hb:Qy i id=false:=by
    cases hb:Qy i id with
    |false=>rfl
    |true=>exact J3 (Qp hb) e
   simp only[Hv,hb]at hX;rw[J1 e];exact⟨L,M,Γ,hX,h1,h2⟩
 |_=>exact⟨L,M,Γ,hX,h1,h2⟩
theorem CW.cond{t:QM}{c1 c2:Code}{b:Bool}(ht:bm L t=some (.bool b))(h1:b=true->CW P n w0 c1 X L M Γ)(h2:b=false->CW P n w0 c2 X L M Γ):CW P n w0 (.cond t c1 c2) X L M Γ :=
 λa w ha hw=>wp_cond_split (ha.ev ht) (λhb=>h1 hb a w ha hw) (λhb=>h2 hb a w ha hw)
theorem CW.ite{t:QM}{c1 c2:Code}{p:Prop}[Decidable p](ht:bm L t=some (.bool (decide p)))(h1:p->CW P n w0 c1 X L M Γ)(h2:¬p->CW P n w0 c2 X L M Γ):CW P n w0 (.cond t c1 c2) X L M Γ :=
 CW.cond ht (λh=>h1 (J7 h)) (λh=>h2 (of_decide_eq_false h))
theorem CW.loop{c:Code}(I:Nat->Lm->Mem->List As->Prop)(m:Nat)(h0:I m L M Γ)
  (round:∀m L M Γ,I m L M Γ->CW P n w0 c (MN (λL M Γ=>∃m',m'<m/\I m' L M Γ) X) L M Γ):CW P n w0 (.loop c) X L M Γ:=by
 intro a w ha hw b k cs;have key:∀m (L:Lm) (M:Mem) (Γ:List As) (a:Act) (w:QL),I m L M Γ->Sat n L a->St w0 M Γ w ->
   ∃e a' w',Real n w0 X e a' w'/\Arrives P (lone (b.at a (.code c::.inLoop c::k)) cs w) b k cs e a' w':=by
  intro m;induction m using Nat.strongRecOn with
  |_ m ih =>
   intro L M Γ a w hI ha hw;obtain⟨e,a1,w1,hq,harr⟩:=round m L M Γ hI a w ha hw b (.inLoop c::k) cs;obtain⟨L1,M1,Γ1,hX,h1,h2⟩:=hq;cases e with
   |normal=>obtain⟨m',hlt,hI'⟩:=hX;obtain⟨e2,a2,w2,hq2,harr2⟩:=ih m' hlt L1 M1 Γ1 a1 w1 hI' h1 h2;exact⟨e2,a2,w2,hq2,.of_steps (Steps.trans harr (.one step_inLoop)) harr2⟩
   |exit id=>exact⟨_,a1,w1,⟨L1,M1,Γ1,hX,h1,h2⟩,.pass (x:=.inLoop c) rfl (λ_ _=>.inl Q2) harr⟩
   |goto l=>exact⟨_,a1,w1,⟨L1,M1,Γ1,hX,h1,h2⟩,.pass (x:=.inLoop c) rfl (λ_ _=>.inl Q2) harr⟩
   |ret=>exact⟨_,a1,w1,⟨L1,M1,Γ1,hX,h1,h2⟩,.pass (x:=.inLoop c) rfl (λ_ _=>.inl Q2) harr⟩
   |panic ch=>exact⟨_,a1,w1,⟨L1,M1,Γ1,hX,h1,h2⟩,.pass (x:=.inLoop c) rfl (λ_ _=>.inl Q2) harr⟩
   |outgrown=>exact⟨_,a1,w1,⟨L1,M1,Γ1,hX,h1,h2⟩,.pass (x:=.inLoop c) rfl (λ_ _=>.inl Q2) harr⟩
 obtain⟨e,a',w',hq,harr⟩:=key m L M Γ a w h0 ha hw;exact⟨e,a',w',hq,.of_steps (.one step_loop) harr⟩
end
abbrev HE:=Value->Mem->List As->Prop
def RetP(w0:QL)(R:HE)(e:Ending)(w':QL):Prop:=∃v M Γ,e=.returned v/\R v M Γ/\St w0 M Γ w'
def jk(P:QE)(w0:QL)(M:Mem)(Γ:List As)(f:UY)(args:Array Qw)(R:HE):Prop :=
 ∀w,St w0 M Γ w->Calls P f args w (RetP w0 R)
def RL(P:QE)(n:Nat)(w0:QL)(ops:Array Oper)(rest:List Oper)(L:Lm)(M:Mem)(Γ:List As)(K:Lm->Mem->List As->Prop):Prop :=
 ∀R:Exit->Act->QL->Prop,(∀L M Γ,K L M Γ->∀a w,Sat n L a->St w0 M Γ w->R .normal a w)->∀a w,Sat n L a->St w0 M Γ w->wpList P ops R rest a w
def Yq(P:QE)(w0:QL)(L:Lm)(M:Mem)(Γ:List As)(o:Oper)(v:Qw):Prop :=
 ∀n a w,Sat n L a->St w0 M Γ w->(Rc a.eval o).run P w=.ok (.value v) w
def P9(ops:Array Oper)(L:Lm)(o:Oper)(b:Bool):Prop :=
 match o.guard with
 |none=>b=true
 |some (j,want)=>∃t x,(ops[j]?).bind (·.dst)=some t/\kQ L t=some (.bool x)/\b=(x == want)
theorem P9.spec{ops:Array Oper}{L:Lm}{o:Oper}{b:Bool}(h:P9 ops L o b){n:Nat}{a:Act}(ha:Sat n L a):Sg o (yielded ops a.tmps)=b:=by
 unfold P9 at h;unfold Sg;split at h
 .grind
 .rename_i j want hg;obtain⟨t,x,ht,hx,rfl⟩:=h;rw[hg];have:=ha.get t _ hx;simp only[yielded,ht,TV,this]
  grind
section
variable {P:QE} {n:Nat} {w0:QL} {ops:Array Oper} {rest:List Oper} {L:Lm} {M:Mem} {Γ:List As} {K:Lm->Mem->List As->Prop}
theorem RL.nil(h:K L M Γ):RL P n w0 ops [] L M Γ K:=λ_ hR a w ha hw=>hR L M Γ h a w ha hw
theorem RL.pre{L':Lm}{M':Mem}{Γ':List As}(hL:lr L L')(hG:∀w,St w0 M Γ w->St w0 M' Γ' w)(h:RL P n w0 ops rest L' M' Γ' K):RL P n w0 ops rest L M Γ K :=
 λR hR a w ha hw=>h R hR a w (ha.ON hL) (hG w hw)
theorem RL.know{F:Prop}(hF:∀w,St w0 M Γ w->F)(h:F->RL P n w0 ops rest L M Γ K):RL P n w0 ops rest L M Γ K :=
 λR hR a w ha hw=>h (hF w hw) R hR a w ha hw
theorem RL.q{op:Op}{ty:QH}{pos:String}{after:Array Edge}{d:Nat}{v:Qw}(hy:Yq P w0 L M Γ ⟨some d,op,ty,pos,after,none⟩ v)(hd:Sq d n=true)
  (h:RL P n w0 ops rest ((d,v)::L) M Γ K):RL P n w0 ops (⟨some d,op,ty,pos,after,none⟩::rest) L M Γ K:=by
 intro R hR a w ha hw;unfold wpList;rw[J2 (by simp[Sg])];refine .inl ?_;unfold UH;rw[hy n a w ha hw];exact h R hR _ _ (ha.put hd) hw
theorem RL.e{op:Op}{ty:QH}{pos:String}{after:Array Edge}{d:Nat}(F:Qw->Mem->List As->Prop)
  (hy:∀n a w,Sat n L a->St w0 M Γ w->∃v w' M' Γ',(Rc a.eval ⟨some d,op,ty,pos,after,none⟩).run P w=.ok (.value v) w'/\F v M' Γ'/\St w0 M' Γ' w') (hd:Sq d n=true)
  (h:∀v M' Γ',F v M' Γ'->RL P n w0 ops rest ((d,v)::L) M' Γ' K):RL P n w0 ops (⟨some d,op,ty,pos,after,none⟩::rest) L M Γ K:=by
 intro R hR a w ha hw;unfold wpList;rw[J2 (by simp[Sg])];refine .inl ?_;unfold UH;obtain⟨v,w',M',Γ',hr,hF,hw'⟩:=hy n a w ha hw;rw[hr];exact h v M' Γ' hF R hR _ _ (ha.put hd) hw'
theorem RL.c{op:Op}{ty:QH}{pos:String}{after:Array Edge}{g:Option (Nat×Bool)}{d:Nat}{f:UY}{args:Array Qw}{F:HE}(hg:P9 ops L ⟨some d,op,ty,pos,after,g⟩ true)
  (hy:∀n a w,Sat n L a->(Rc a.eval ⟨some d,op,ty,pos,after,g⟩).run P w=.ok (.enter f args) w) (hd:Sq d n=true)
  (hc:jk P w0 M Γ f args F)
  (h:∀v M' Γ',F v M' Γ'->RL P n w0 ops rest ((d,v)::L) M' Γ' K):RL P n w0 ops (⟨some d,op,ty,pos,after,g⟩::rest) L M Γ K:=by
 intro R hR a w ha hw;unfold wpList;rw[J2 (hg.spec ha)];refine .inl ?_;unfold UH;rw[hy n a w ha];refine(hc w hw).mono ?_;rintro e w' ⟨v,M',Γ',rfl,hF,hw'⟩;exact h v M' Γ' hF R hR _ _ (ha.put hd) hw'
theorem CW.region{id:Nat}{X:JR}{l:List Oper}(h:RL P n w0 l.toArray l L M Γ (X .normal)):CW P n w0 (.region id l.toArray false) X L M Γ :=
 λa w ha hw=>wp_region_lit (h _ (λL M Γ hX _ _ ha hw=>⟨L,M,Γ,hX,ha,hw⟩) a w ha hw)
end
def endX(w0:QL)(r:Nat)(R:HE):JR
 |.ret,L,M,Γ|.normal,L,M,Γ=>∃v,kQ L r=some v/\o4 w0 M Γ (R v)
 |_,_,_,_=>False
def iy:Nat->List Qw->Lm
 |_,[]=>[]
 |i,v::vs=>(i,v)::iy (i+1) vs
theorem uM:∀(vs:List Qw) (i t:Nat) (v:Qw),kQ (iy i vs) t=some v->∃k,t=i+k/\vs[k]?=some v
 |[],_,_,_,h=>by simp[iy,kQ]at h
 |x::xs,i,t,v,h=>by
  simp only[iy,kQ]at h;cases hb:Qy t i with
  |true=>rw[hb]at h;simp only[Qq]at h;exact⟨0,by simp_all,by simp[h]⟩
  |false=>rw[hb]at h;obtain⟨k,h1,h2⟩:=uM xs (i+1) t v h;exact⟨k+1,Q0,by grind⟩
theorem tG(n:Nat)(args:List Qw)(hn:SI args.length n=true) :
  Sat n (iy 0 args) {tmps:=args.toArray++Array.replicate (n-args.toArray.size) undef,defers:=[]}:=by
 have hn':args.length<=n:=by simp_all
 refine⟨Qc,rfl,λt v h=>?_⟩;obtain⟨k,rfl,hk⟩:=uM args 0 t v h;have:k<args.length:=by
  grind
 simp only[Rn];rw[Array.getElem?_append_left Q0];simpa using hk
theorem enter{P:QE}{f:UY}{fn:Func}{c:Code}{args:List Qw}{w0:QL}{M:Mem}{Γ:List As}{R:HE}{r n:Nat}
  (hf:P.funcs[f]?=some fn) (hb:fn.body=some c) (hn:fn.ntmps=n) (hr:fn.results=#[.tmp r]) (ha:SI args.length n=true)
  (h:∀w1,St w0 M Γ w1->CW P n w0 c (endX w0 r R) (iy 0 args) M Γ):jk P w0 M Γ f args.toArray R:=by
 intro w hw;refine calls_of_wp hf hb ?_;rw[hn];refine YC (h w hw _ w (tG n args ha) hw) ?_;rintro e a w' ⟨L,M1,Γ1,hX,h1,h2⟩;cases e with
 |normal|ret=>obtain⟨v,hv,hi⟩:=hX;obtain⟨M',Γ',hR,hw'⟩:=hi w' h2;refine⟨h1.defers,v,?_,v,M',Γ',rfl,hR,hw'⟩;have:=h1.get r v hv;simp[results,hr,this]
 |_=>exact hX.elim
def jZ(P:QE)(t:QH):Bool:=match P.underlying t with
 |some (.struct _)=>false
 |some (.array ..)=>false
 |none=>false
 |_=>true
def FC(P:QE)(t:QH)(sz:Nat):Bool:=(match P.underlying t with
 |some (.struct _)=>true
 |some (.array ..)=>true
 |_=>false) && (match P.info? t with
 |some i=>Qy i.size sz
 |none=>false)
def mf(P:QE)(t:QH)(sz:Nat):Bool:=match P.info? t with
 |some i=>Qy i.size sz
 |none=>false
def sliceB(P:QE)(t e sz:Nat):Bool:=(match P.underlying t with
 |some (.slice e')=>Qy e' e
 |_=>false) && mf P e sz
def yp(P:QE)(s i off:Nat):Bool:=match P.underlying s with
 |some (.struct fs)=>match fs[i]? with
  |some f=>Qy f.offset off && (match P.info? f.type with
   |some j=>Sq 0 j.size
   |none=>false)
  |none=>false
 |_=>false
def oP(P:QE)(f:UY):Bool:=match P.funcs[f]? with
 | some fn => !(fn.name == "runtime.NumGoroutine") && fn.body.isSome
 |none=>false
section
variable {P:QE} {w:QL}
theorem w9{t:QH}(h:jZ P t=true):(isAgg t).run P w=.ok false w:=by
 unfold jZ at h;unfold isAgg;cases hu:P.underlying t with
 |none=>simp[hu]at h
 |some d=>simp only[SD,QN hu,Tr];cases d <;> first|rfl|simp[hu]at h
theorem DE{t:QH}{sz:Nat}(h:FC P t sz=true):(isAgg t).run P w=.ok true w/\(TS t).run P w=.ok sz w:=by
 unfold FC at h;simp only[QA]at h;obtain⟨h1,h2⟩:=h;constructor
 .unfold isAgg;cases hu:P.underlying t with
  |none=>simp[hu]at h1
  |some d=>simp only[SD,QN hu,Tr];cases d <;> first|rfl|simp[hu]at h1
 .cases hi:P.info? t with
  |none=>simp[hi]at h2
  |some i=>rw[hi]at h2;have:=Qp h2;simp[TS,TJ,hi,this]
theorem gW{t:QH}{sz:Nat}(h:mf P t sz=true):(TS t).run P w=.ok sz w:=by
 unfold mf at h;cases hi:P.info? t with
 |none=>simp[hi]at h
 |some i=>rw[hi]at h;have:=Qp h;simp[TS,TJ,hi,this]
theorem dR{t e sz:Nat}(h:sliceB P t e sz=true):P.underlying t=some (.slice e)/\mf P e sz=true:=by
 unfold sliceB at h;simp only[QA]at h;obtain⟨h1,h2⟩:=h;refine⟨?_,h2⟩;cases hu:P.underlying t with
 |none=>simp[hu]at h1
 |some d=>rw[hu]at h1;cases d <;> first|(have:=Qp h1;subst this;rfl)|simp at h1
theorem F5{s i off:Nat}(h:yp P s i off=true)(x:Addr):(Yl s (.pointer (some x)) i).run P w=.ok (.pointer (some (x.add off))) w:=by
 unfold yp at h;unfold Yl;cases hu:P.underlying s with
 |none=>simp[hu]at h
 |some d =>
  rw[hu]at h;cases d with
  |struct fs =>
   simp only[]at h;cases hf:fs[i]? with
   |none=>simp[hf]at h
   |some f =>
    rw[hf]at h;simp only[QA]at h;obtain⟨h1,h2⟩:=h;have h1:=Qp h1;cases hi:P.info? f.type with
    |none=>simp[hi]at h2
    |some j =>
     rw[hi]at h2;have h2:0<j.size:=by simp_all
     have h3:j.size≠0:=Q0;simp[QN hu,hf,Sv,fieldPlace,TS,TJ,hi,h3,h1]
  |_=>simp at h
end
section
variable {P:QE} {w0:QL} {L:Lm} {M:Mem} {Γ:List As} {d:Option Nat} {ty:QH} {pos:String} {af:Array Edge} {g:Option (Nat×Bool)}
namespace Y
theorem move{x:QM}{v:Qw}(h:bm L x=some v):Yq P w0 L M Γ ⟨d,.move x,ty,pos,af,g⟩ v:=λn a w ha _=>by simp[Rc,ha.ev h]
theorem assign{x:QM}{v:Qw}(h:bm L x=some v):Yq P w0 L M Γ ⟨d,.assign x,ty,pos,af,g⟩ v:=λn a w ha _=>by simp[Rc,ha.ev h]
theorem rn{z:Int}(h:-9223372036854775808<=z/\z<=9223372036854775807):Ym.wrap z=z:=IntWalk.i64_in z h
theorem add{x y:QM}{m k:Int}{t:QH}(hx:bm L x=some (.int .i64 m))(hy:bm L y=some (.int .i64 k))(hb:-9223372036854775808<=m+k/\m+k<=9223372036854775807) :
  Yq P w0 L M Γ ⟨d,.binOp .add t x y t,ty,pos,af,g⟩ (.int .i64 (m+k)):=λn a w ha _=>by
 simp[Rc,ha.ev hx,ha.ev hy,RZ,SQ,T6,rn hb]
theorem sub{x y:QM}{m k:Int}{t:QH}(hx:bm L x=some (.int .i64 m))(hy:bm L y=some (.int .i64 k))(hb:-9223372036854775808<=m-k/\m-k<=9223372036854775807) :
  Yq P w0 L M Γ ⟨d,.binOp .sub t x y t,ty,pos,af,g⟩ (.int .i64 (m-k)):=λn a w ha _=>by
 simp[Rc,ha.ev hx,ha.ev hy,RZ,SQ,T6,rn hb]
theorem mul{x y:QM}{m k:Int}{t:QH}(hx:bm L x=some (.int .i64 m))(hy:bm L y=some (.int .i64 k))(hb:-9223372036854775808<=m*k/\m*k<=9223372036854775807) :
  Yq P w0 L M Γ ⟨d,.binOp .mul t x y t,ty,pos,af,g⟩ (.int .i64 (m*k)):=λn a w ha _=>by
 simp[Rc,ha.ev hx,ha.ev hy,RZ,SQ,T6,rn hb]
theorem quo{x y:QM}{m k:Int}{t:QH}(hx:bm L x=some (.int .i64 m))(hy:bm L y=some (.int .i64 k))(h0:k≠0)(hb:-9223372036854775808<=m.tdiv k/\m.tdiv k<=9223372036854775807) :
  Yq P w0 L M Γ ⟨d,.binOp .quo t x y t,ty,pos,af,g⟩ (.int .i64 (m.tdiv k)):=λn a w ha _=>by
 simp[Rc,ha.ev hx,ha.ev hy,RZ,SQ,Xc,h0,rn hb]
theorem rem{x y:QM}{m k:Int}{t:QH}(hx:bm L x=some (.int .i64 m))(hy:bm L y=some (.int .i64 k))(h0:k≠0) :
  Yq P w0 L M Γ ⟨d,.binOp .rem t x y t,ty,pos,af,g⟩ (.int .i64 (m.tmod k)):=λn a w ha _=>by
 simp[Rc,ha.ev hx,ha.ev hy,RZ,SQ,Xc,h0]
theorem lss{x y:QM}{m k:Int}{t:QH}(hx:bm L x=some (.int .i64 m))(hy:bm L y=some (.int .i64 k)) :
  Yq P w0 L M Γ ⟨d,.binOp .lss t x y t,ty,pos,af,g⟩ (.bool (decide (m<k))):=λn a w ha _=>by
 simp[Rc,ha.ev hx,ha.ev hy,RZ,SQ,Tu]
theorem leq{x y:QM}{m k:Int}{t:QH}(hx:bm L x=some (.int .i64 m))(hy:bm L y=some (.int .i64 k)) :
  Yq P w0 L M Γ ⟨d,.binOp .leq t x y t,ty,pos,af,g⟩ (.bool (decide (m<=k))):=λn a w ha _=>by
 simp[Rc,ha.ev hx,ha.ev hy,RZ,SQ,Tu]
theorem gtr{x y:QM}{m k:Int}{t:QH}(hx:bm L x=some (.int .i64 m))(hy:bm L y=some (.int .i64 k)) :
  Yq P w0 L M Γ ⟨d,.binOp .gtr t x y t,ty,pos,af,g⟩ (.bool (decide (k<m))):=λn a w ha _=>by
 simp[Rc,ha.ev hx,ha.ev hy,RZ,SQ,Tu]
theorem geq{x y:QM}{m k:Int}{t:QH}(hx:bm L x=some (.int .i64 m))(hy:bm L y=some (.int .i64 k)) :
  Yq P w0 L M Γ ⟨d,.binOp .geq t x y t,ty,pos,af,g⟩ (.bool (decide (k<=m))):=λn a w ha _=>by
 simp[Rc,ha.ev hx,ha.ev hy,RZ,SQ,Tu]
theorem eql{x y:QM}{m k:Int}{t:QH}(hx:bm L x=some (.int .i64 m))(hy:bm L y=some (.int .i64 k)) :
  Yq P w0 L M Γ ⟨d,.binOp .eql t x y t,ty,pos,af,g⟩ (.bool (decide (m=k))):=λn a w ha _=>by
 simp[Rc,ha.ev hx,ha.ev hy,RZ,SQ,Tu];by_cases h:m=k <;> simp[h]
theorem neq{x y:QM}{m k:Int}{t:QH}(hx:bm L x=some (.int .i64 m))(hy:bm L y=some (.int .i64 k)) :
  Yq P w0 L M Γ ⟨d,.binOp .neq t x y t,ty,pos,af,g⟩ (.bool (decide (m≠k))):=λn a w ha _=>by
 simp[Rc,ha.ev hx,ha.ev hy,RZ,SQ,Tu];by_cases h:m=k <;> simp[h]
theorem neg{x:QM}{m:Int}{t:QH}(hx:bm L x=some (.int .i64 m))(hb:-9223372036854775808<=-m/\-m<=9223372036854775807) :
  Yq P w0 L M Γ ⟨d,.unOp .neg t x,ty,pos,af,g⟩ (.int .i64 (-m)):=λn a w ha _=>by
 have hb':-9223372036854775808<=0-m/\0-m<=9223372036854775807:=Q0;simp only[Rc,ha.ev hx,Op.unary,T6,rn hb'];simp
theorem not{x:QM}{b:Bool}{t:QH}(hx:bm L x=some (.bool b)) :
  Yq P w0 L M Γ ⟨d,.unOp .not t x,ty,pos,af,g⟩ (.bool (!b)):=λn a w ha _=>by
 simp[Rc,ha.ev hx,Op.unary]
theorem extract{x:QM}{vs:List Qw}{i:Nat}{v:Qw}(hx:bm L x=some (.tuple vs.toArray))(hi:vs[i]?=some v) :
  Yq P w0 L M Γ ⟨d,.extract x i,ty,pos,af,g⟩ v:=λn a w ha _=>by
 simp[Rc,ha.ev hx,Instr.extract,hi]
theorem len{x:QM}{t:QH}{a:Option Addr}{k c:Nat}{e:Nat}(hx:bm L x=some (.slice a k c))(ht:P.underlying t=some (.slice e)) :
  Yq P w0 L M Γ ⟨d,.call ⟨.builtin .len,#[x],#[t]⟩,ty,pos,af,g⟩ (.int .i64 (k:Int)):=λn a w ha _=>by
 simp[Rc,resolve,invoke,Tm,Builtin.len_,ha.ev hx,QN ht,goInt]
theorem min2{x y:QM}{m k:Int}{ts:Array QH}(hx:bm L x=some (.int .i64 m))(hy:bm L y=some (.int .i64 k)) :
  Yq P w0 L M Γ ⟨d,.call ⟨.builtin .min,#[x,y],ts⟩,ty,pos,af,g⟩ (.int .i64 (min m k)):=λn a w ha _=>by
 simp[Rc,resolve,invoke,Tm,Builtin.min_,Builtin.min2,ha.ev hx,ha.ev hy];omega
theorem max2{x y:QM}{m k:Int}{ts:Array QH}(hx:bm L x=some (.int .i64 m))(hy:bm L y=some (.int .i64 k)) :
  Yq P w0 L M Γ ⟨d,.call ⟨.builtin .max,#[x,y],ts⟩,ty,pos,af,g⟩ (.int .i64 (max m k)):=λn a w ha _=>by
 simp[Rc,resolve,invoke,Tm,Builtin.max_,Builtin.max2,ha.ev hx,ha.ev hy];omega
theorem index{x i:QM}{t e sz:Nat}{a:Option Addr}{l c:Nat}{ik:R6}{z:Int}(k:Nat)(hx:bm L x=some (.slice a l c))(hi:bm L i=some (.int ik z))(hz:z=(k:Int))(hk:k<l)
  (ht:sliceB P t e sz=true) (hs:∀w,St w0 M Γ w->a.isSome=true) :
  Yq P w0 L M Γ ⟨d,.indexAddr t x i,ty,pos,af,g⟩ (.pointer (some (fT a (k*sz)))):=λn ac w ha hw=>by
 obtain⟨b,rfl⟩:=R0.1 (hs w hw);subst hz;obtain⟨h1,h2⟩:=dR ht;simp[Rc,ha.ev hx,ha.ev hi,Yn,YI,QN h1,gW h2,hk,fT]
theorem field{x:QM}{s i off:Nat}{a:Option Addr}{q:Nat}(hx:bm L x=some (.pointer (some (fT a q))))(hf:yp P s i off=true) :
  Yq P w0 L M Γ ⟨d,.fieldAddr s x i,ty,pos,af,g⟩ (.pointer (some (fT a (q+off)))):=λn ac w ha _=>by
 simp[Rc,ha.ev hx,F5 hf,eu]
theorem load{x:QM}{t:QH}{p:Addr}{v:Qw}(hx:bm L x=some (.pointer (some p)))(hf:jZ P t=true)(hc:∀w,St w0 M Γ w->w.cell? p=some v) :
  Yq P w0 L M Γ ⟨d,.load t x,ty,pos,af,g⟩ v:=λn a w ha hw=>by
 simp[Rc,ha.ev hx,Ys,Sv,loadVar,w9 hf,hc w hw]
theorem lx{w:QL}{p:Addr}:∀(vs:List Qw) (i:Nat) (acc:Array Qw),(∀j v,vs[j]?=some v->w.cell? (p.add (i+j))=some v) ->
  (Xs p i vs.length acc).run P w=.ok (acc++vs.toArray) w
 |[],i,acc,_=>by simp[Xs]
 |v::vs,i,acc,h=>by
  have h0:w.cell? (p.add i)=some v:=by simpa using h 0 v rfl
  have ih:=lx (w:=w) (p:=p) vs (i+1) (acc.push v) λj u hj=>by
   have:=h (j+1) u (by grind)
   grind
  simp only[QG,Xs,SD,run_load,h0,Tr,ih];simp
theorem v8{x:QM}{t:QH}{p:Addr}{vs:List Qw}(hx:bm L x=some (.pointer (some p)))(hf:FC P t vs.length=true)(hc:∀w,St w0 M Γ w->∀j v,vs[j]?=some v->w.cell? (p.add j)=some v) :
  Yq P w0 L M Γ ⟨d,.load t x,ty,pos,af,g⟩ (.agg vs.toArray):=λn a w ha hw=>by
 obtain⟨h1,h2⟩:=DE (P:=P) (w:=w) hf;have h3:=lx (P:=P) (w:=w) (p:=p) vs 0 #[] (by grind);simp[Rc,ha.ev hx,Ys,Sv,loadVar,h1,h2,loadCells,h3]
end Y
end
theorem St.mj{w0 w:QL}{M:Mem}{Γ:List As}(h:St w0 M Γ w){b:Nat}{e:QH}{cs:List Qw}(hm:As.own b e cs∈Γ){q:Nat}{v:Qw}(hq:cs[q]?=some v) :
  w.cell? (fT (some ⟨b,0,none⟩) q)=some v:=by
 have:=(h.all _ hm).2;rw[cx];simp[RQ,this,hq]
end Xe
namespace Xe
open Go
theorem td{M:Mem}{a:Option Addr}{q:Nat}:∀{ds:List D},(∀j e,ds[j]?=some e->∃u,dW M (fT a (q+j))=some u/\Rd M e u) ->
  ∃us,bz M ds us/\∀j v,us[j]?=some v->dW M (fT a (q+j))=some v:=by
 intro ds;induction ds generalizing q with
 |nil=>exact λ_=>⟨[],bz.nil M,λj v h=>by simp at h⟩
 |cons d ds ih =>
  intro h;obtain⟨u,h1,h2⟩:=h 0 d rfl;obtain⟨us,h3,h4⟩:=ih (q:=q+1) λj e hj=>by
   have:=h (j+1) e (by grind)
   grind
  refine⟨u::us,bz.cons h2 h3,λj v hj=>?_⟩;cases j with
  |zero=>simp only[Ru,Qq]at hj;subst hj;exact h1
  |succ j=>have:=h4 j v (by grind);rwa [show q+1+j=q+(j+1) from by omega]at this
theorem bz.get{M:Mem}{ds:List D}{us:List Qw}(h:bz M ds us){q:Nat}{e:D}(hq:ds[q]?=some e):∃u,us[q]?=some u/\Rd M e u:=by
 have hlt:q<us.length:=by
  rw[h.1]
  grind
 exact⟨us[q],by simp[hlt],h.2 q _ _ hq (by simp[hlt])⟩
theorem Rd.one{M:Mem}:∀{d:D} {u:Qw},Rd M d u->u.oneCell'=true
 |.v x,u,h=>by simp only[Rd]at h;rw[h.1];exact h.2
 |.sl n sz cs,u,h=>by simp only[Rd]at h;obtain⟨a,c,rfl,_⟩:=h;rfl
theorem bz.one{M:Mem}{ds:List D}{us:List Qw}(h:bz M ds us):∀u∈us,u.oneCell'=true:=by
 intro u hu;obtain⟨k,hk,rfl⟩:=QO.1 hu;have hk':k<ds.length:=by rw[<-h.1];exact hk
 exact Rd.one (h.2 k ds[k] us[k] (by simp[hk']) (by simp[hk]))
section
variable {P:QE} {w0:QL} {L:Lm} {M:Mem} {Γ:List As} {d:Option Nat} {ty:QH} {pos:String} {af:Array Edge} {g:Option (Nat×Bool)}
namespace Y
end Y
end
section
variable {P:QE} {n:Nat} {w0:QL} {ops:Array Oper} {rest:List Oper} {L:Lm} {M:Mem} {Γ:List As} {K:Lm->Mem->List As->Prop} {ty:QH} {pos:String} {af:Array Edge} {d:Nat}
def jV(P:QE)(e:QH):Option Qw:=(P.info? e).bind (·.zero)
theorem iZ{w:QL}{e:QH}{z:Qw}(h:jV P e=some z):(YS e).run P w=.ok z w:=by
 unfold jV at h;cases hi:P.info? e with
 |none=>simp[hi]at h
 |some i=>simp only[hi,TV]at h;simp[YS,TJ,hi,h]
end
section
variable {P:QE} {n:Nat} {w0:QL} {ops:Array Oper} {rest:List Oper} {L:Lm} {M:Mem} {Γ:List As} {K:Lm->Mem->List As->Prop} {ty:QH} {pos:String} {af:Array Edge} {d:Nat}
theorem kC:∀(vs:List Qw) (i:Nat) (w:QL) (b:Nat) (e:QH) (cs:List Qw) (q:Nat),w.heap[b]?=some (.cells cs.toArray e (0,0))->q+i+vs.length<=cs.length->(∀v∈vs,v.oneCell'=true) ->
  (VJ (fT (some ⟨b,0,none⟩) q) vs i).run P w=.ok () {w with heap:=w.heap.setIfInBounds b (.cells (cs.take (q+i)++vs++cs.drop (q+i+vs.length)).toArray e (0,0))}:=by
 intro vs i w b e cs q h hl h1;rw[cx];have:=run_storeCells_at P b (0+q) e vs i cs.toArray w (by rw[h]) (by grind) h1;rw[this];simp only[World.setRow,Rn]
 congr 2
 have hlt:b<w.heap.size:=(RH.1 h).1;have hb:w.heap[b]=.cells cs.toArray e (0,0):=(RH.1 h).2;apply Array.ext
 .simp
 .intro j h3 h4;by_cases hi:b=j
  .subst hi;simp[Xd,hb]
  .rw[Xd,J1 hi,Array.getElem_setIfInBounds_ne (by grind) hi]
end
def E0(L:Lm):List QM->Option (List Qw)
 |[]=>some []
 |x::xs=>match bm L x with
  |some v=>match E0 L xs with
   |some vs=>some (v::vs)
   |none=>none
  |none=>none
theorem Sat.E0{n:Nat}{L:Lm}{a:Act}(h:Sat n L a):∀{xs:List QM} {vs:List Qw},E0 L xs=some vs->xs.map a.eval=vs
 |[],vs,hv=>by simp only[Xe.E0,Qq]at hv;simp[<-hv]
 |x::xs,vs,hv=>by
  simp only[Xe.E0]at hv;cases hx:bm L x with
  |none=>simp[hx]at hv
  |some v =>
   rw[hx]at hv;simp only[]at hv;cases hxs:Xe.E0 L xs with
   |none=>simp[hxs]at hv
   |some us=>rw[hxs]at hv;simp only[Qq]at hv;rw[<-hv];simp[h.ev hx,h.E0 hxs]
section
variable {P:QE} {w0:QL} {L:Lm} {M:Mem} {Γ:List As} {d:Option Nat} {ty:QH} {pos:String} {af:Array Edge} {g:Option (Nat×Bool)}
theorem zQ{w:QL}{f:UY}(h:oP P f=true)(args:Array Qw):(callFunc f args).run P w=.ok (.enter f args) w:=by
 unfold oP at h;cases hf:P.funcs[f]? with
 |none=>simp[hf]at h
 |some fn =>
  rw[hf]at h;simp only[QA,Bool.not_eq_true',beq_eq_false_iff_ne]at h;obtain⟨h1,h2⟩:=h;have h3:fn.body≠none:=by grind
  simp[callFunc,hf,h1,h3]
theorem Hq{f:UY}{xs:List QM}{ts:Array QH}{vs:List Qw}(hf:oP P f=true)(hx:E0 L xs=some vs) :
  ∀n a w,Sat n L a->(Rc a.eval ⟨d,.call ⟨.value (.func f),xs.toArray,ts⟩,ty,pos,af,g⟩).run P w=.ok (.enter f vs.toArray) w:=λn a w ha=>by
 have h1:(xs.toArray.map a.eval)=vs.toArray:=by rw[UA,ha.E0 hx]
 simp only[Rc,resolve,h1,Vm,Deferred.ofValue];simp[invoke,zQ hf]
end
section
variable {P:QE} {n:Nat} {w0:QL} {ops:Array Oper} {rest:List Oper} {L:Lm} {M:Mem} {Γ:List As} {K:Lm->Mem->List As->Prop} {ty:QH} {pos:String} {af:Array Edge} {d:Nat}
theorem RL.call{g:Option (Nat×Bool)}{f:UY}{xs:List QM}{ts:Array QH}{vs:List Qw}{F:HE}(hg:P9 ops L ⟨some d,.call ⟨.value (.func f),xs.toArray,ts⟩,ty,pos,af,g⟩ true)(hf:oP P f=true)(hx:E0 L xs=some vs)(hd:Sq d n=true)
  (hc:jk P w0 M Γ f vs.toArray F) (h:∀v M' Γ',F v M' Γ'->RL P n w0 ops rest ((d,v)::L) M' Γ' K) :
  RL P n w0 ops (⟨some d,.call ⟨.value (.func f),xs.toArray,ts⟩,ty,pos,af,g⟩::rest) L M Γ K:=RL.c hg (Hq hf hx) hd hc h
end
end Xe
namespace Xe
open Go
def EndR(w0:QL)(M:Mem)(L0:Lm)(Γ0:List As)(I:Nat->Lm->Mem->List As->Prop)(m:Nat)(L2:Lm)(M2:Mem)(Γ2:List As):Prop :=
 ∃m' Lc,m'<m/\lr L2 (Lc++L0)/\o4 w0 M2 Γ2 (λM3 Γ3=>∃Γc,Γ3=Γc++Γ0/\Sub M M3/\I m' Lc M3 Γc)
theorem CW.I3{P:QE}{n:Nat}{w0:QL}{X:JR}{L:Lm}{M:Mem}{Γ:List As}{c:Code}(I:Nat->Lm->Mem->List As->Prop)(m:Nat)(Lc:Lm)(Γc:List As){L0:Lm}{Γ0:List As}
  (hL:L=Lc++L0) (hG:Γ=Γc++Γ0) (h0:I m Lc M Γc)
  (round:∀m Lc M1 Γc,Sub M M1->I m Lc M1 Γc->CW P n w0 c (MN (EndR w0 M L0 Γ0 I m) X) (Lc++L0) M1 (Γc++Γ0)):CW P n w0 (.loop c) X L M Γ:=by
 subst hL hG;refine CW.loop (λm L M1 Γ=>∃Lc Γc,L=Lc++L0/\Γ=Γc++Γ0/\Sub M M1/\I m Lc M1 Γc) m ⟨Lc,Γc,rfl,rfl,Sub.refl M,h0⟩ ?_;rintro m L M1 Γ ⟨Lc,Γc,rfl,rfl,hs,hI⟩;intro a w ha hw;refine YC (round m Lc M1 Γc hs hI a w ha hw) ?_;rintro e a w ⟨L2,M2,Γ2,hX,h1,h2⟩;cases e with
 |normal=>obtain⟨m',Lc',hlt,hk,ht⟩:=hX;obtain⟨M3,Γ3,⟨Γc',rfl,hs3,hI3⟩,hw3⟩:=ht w h2;exact⟨Lc'++L0,M3,Γc'++Γ0,⟨m',hlt,Lc',Γc',rfl,rfl,hs3,hI3⟩,h1.ON hk,hw3⟩
 |_=>exact⟨L2,M2,Γ2,hX,h1,h2⟩
def Mem.put(M:Mem)(b:Nat)(o:Obj):Mem:=λk=>if k=b then some o else M k
theorem Mem.rO{M:Mem}{b:Nat}{o:Obj}(h:M b=none):Sub M (M.put b o):=λk x hk=>by
 unfold Mem.put
 grind
theorem St.qB{w0 w:QL}{M:Mem}{Γ:List As}{x:As}{b:Nat}{o:Obj}(hw:St w0 M (x::Γ) w)(hx:x.gh=some b)(ho:w.heap[b]?=some o):St w0 (M.put b o) Γ w:=by
 have hb:=As.bg (hw.all x (Qt ..)) hx;have hs:Sub M (M.put b o):=Mem.rO hb.2;have hnd:=hw.nodup;simp only[Rh,hx]at hnd;refine⟨hw.os,hw.tape,hw.output,hw.size,λk y hk=>?_,λy hy=>?_,(Rw.1 hnd).2⟩
 .unfold Mem.put at hk;by_cases e:k=b
  .grind
  .rw[J1 e]at hk;exact hw.mem k y hk
 .have hy':=hw.all y (Qx _ hy);refine As.fy hy' hs λk hk=>⟨rfl,?_⟩;have hne:k≠b:=λe=>by grind
  unfold Mem.put;rw[J1 hne];exact(As.bg hy' hk).2
theorem Mj{M:Mem}{b:Nat}{c:Array Qw}{e:QH}{i:Nat}{v:Qw}(h:c[i]?=some v):dW (M.put b (.cells c e (0,0))) (fT (some ⟨b,0,none⟩) i)=some v:=by rw[cx];simp[dW,Mem.put,h]
theorem St.Ig{w0 w:QL}{M:Mem}{Γ:List As}{u:Qw}{e:QH}{sz n:Nat}{us:List Qw}{ds:List D}(hw:St w0 M (.acc u e sz n us::Γ) w)(hr:bz M ds us)(hn:n<=lim) :
  ∃M',Sub M M'/\Rd M' (.sl n sz ds) u/\St w0 M' (.rd (.sl n sz ds) u::Γ) w:=by
 have hx:=hw.all _ (Qt ..);obtain⟨⟨hl,hh⟩,hM⟩:=hx;rcases hh with⟨rfl,rfl⟩|⟨b,cap,cur,rfl,_,hb,hnc,hcm,hcs,htk⟩
 .have hd:ds=[]:=by have h1:=hr.1;have:us.length=0:=Q0;rw[this]at h1;exact Rg h1.symm
  subst hd;have hrd:Rd M (.sl 0 sz []) (.slice none 0 0):=by simp only[Rd];exact⟨none,0,rfl,QW _,Rr _,Rr _,Q2,Q2,by simp[o5]⟩
  refine⟨M,Sub.refl M,hrd,?_⟩;exact(hw.sub (Tn _ _)).add (x:=.rd (.sl 0 sz []) (.slice none 0 0)) hrd rfl
 .have hMb:M b=none:=hM b rfl;have hs:Sub M (M.put b (.cells cur e (0,0))):=Mem.rO hMb;have hw':=hw.qB (b:=b) rfl hb;have hrd:Rd (M.put b (.cells cur e (0,0))) (.sl n sz ds) (.slice (some ⟨b,0,none⟩) n cap):=by
   simp only[Rd];refine⟨some ⟨b,0,none⟩,cap,rfl,hnc,hcm,hn,by rw[<-hr.1];exact hl,λ_=>rfl,o5.mk ds 0 λk d hk=>?_⟩;obtain⟨v,h1,h2⟩:=bz.get hr hk;refine⟨v,?_,Rd.mono hs d v h2⟩;rw[Rn];apply Mj
   grind
  exact⟨_,hs,hrd,hw'.add (x:=.rd _ _) hrd rfl⟩
theorem St.BP{w0 w:QL}{M:Mem}{Γ:List As}{b n:Nat}{e:QH}{sz:Nat}{us:List Qw}(hw:St w0 M (.own b e us::Γ) w)(hl:us.length=n*sz)(hn:n<=Ti) :
  St w0 M (.acc (.slice (some ⟨b,0,none⟩) n n) e sz n us::Γ) w:=by
 have hx:=hw.all _ (Qt ..);refine⟨hw.os,hw.tape,hw.output,hw.size,hw.mem,λy hy=>?_,by simpa[Rh,As.gh,RN]using hw.nodup⟩;rcases Qz.1 hy with rfl|hy
 .refine⟨⟨hl,.inr ⟨b,n,us.toArray,rfl,Rr _,hx.2,QW _,hn,Q0,?_⟩⟩,λk hk=>?_⟩
  .rw[Rj Qc]
  .simp only[RN,Qq]at hk;subst hk;exact hx.1
 .exact hw.all y (Qx _ hy)
theorem St.tl{w0 w:QL}{M:Mem}{Γ:List As}(hw:St w0 M Γ w)(e sz:Nat):St w0 M (.acc (.slice none 0 0) e sz 0 []::Γ) w :=
 hw.add ⟨World.ownsRow_nil w 0 e sz,λb hb=>by simp[RN]at hb⟩ rfl
structure gj(P:QE)(t e sz bytes:Nat):Prop where
 ut:P.underlying t=some (.slice e)
 info:∃i z,P.info? e=some i/\i.zero=some z/\i.size=sz/\i.bytes=bytes/\z.cells.size=sz
 pos:0<sz
theorem gj.mk'{P:QE}{t e sz bytes:Nat}{z:Qw}(h1:P.underlying t=some (.slice e))(h2:(P.info? e).map (λi=>(i.zero,i.size,i.bytes))=some (some z,sz,bytes))(h3:z.cells.size=sz)(h4:Sq 0 sz=true):gj P t e sz bytes:=by
 refine⟨h1,?_,by simp_all⟩;cases hi:P.info? e with
 |none=>simp[hi]at h2
 |some i=>simp only[hi,TK,Qq,QR]at h2;exact⟨i,z,rfl,h2.1,h2.2.1,h2.2.2,h3⟩
def gz(w0:QL)(M:Mem)(Γ:List As)(x:Qw)(sz m:Nat)(news:List Qw):Prop :=
 news.length=m*sz/\(∀u∈news,u.oneCell'=true) /\
 ((∃p c,x=.slice (some p) m c/\∀w,St w0 M Γ w->∀j u,news[j]?=some u->w.cell? (p.add j)=some u)\/(m=0/\∃c,x=.slice none 0 c))
theorem St.grown{w0 w w':QL}{M:Mem}{Γ:List As}{u u':Qw}{e:QH}{sz n n':Nat}{us us':List Qw}(hw:St w0 M (.acc u e sz n us::Γ) w)
  (hg:w.grownBy w' u.ownBlock) (ho:w'.ownsRow 0 e sz u' n' us') (hb:∀b,u'.ownBlock=some b->u.ownBlock=some b\/w.heap.size<=b):St w0 M (.acc u' e sz n' us'::Γ) w':=by
 have hx:=hw.all _ (Qt ..);have hold:∀k,k<w.heap.size->u.ownBlock≠some k->w'.heap[k]?=w.heap[k]?:=λk hk hne=>hg.block k hk (λe=>hne e.symm);have hnd:=hw.nodup;have hrest:∀y∈Γ,∀k,y.gh=some k->u.ownBlock≠some k:=λy hy k hk e=>by
  simp only[Rh,As.gh,e]at hnd
  grind
 refine⟨hg.os.trans hw.os,hg.tape.trans hw.tape,hg.output.trans hw.output,SS hw.size hg.size,λk o hk=>?_,λy hy=>?_,?_⟩
 .rw[hold k (hw.lt hk) (λe=>by rw[hx.2 k e]at hk;cases hk)];exact hw.mem k o hk
 .rcases Qz.1 hy with rfl|hm
  .refine⟨ho,λb hbb=>?_⟩;rcases hb b hbb with h|h
   .exact hx.2 b h
   .cases hM:M b with
    |none=>rfl
    |some o=>have:=hw.lt hM;omega
  .have hy':=hw.all y (Qx _ hm);refine As.fy hy' (Sub.refl M) λk hk=>⟨hold k (As.bg hy' hk).1 (hrest y hm k hk),(As.bg hy' hk).2⟩
 .simp only[Rh,As.gh]at hnd ⊢;cases hu':u'.ownBlock with
  |none =>
   cases hu:u.ownBlock with
   |none=>simpa[hu]using hnd
   |some k=>rw[hu]at hnd;exact(Rw.1 hnd).2
  |some b =>
   have hnd2:(List.filterMap As.gh Γ).Nodup:=by
    grind
   refine Rw.2 ⟨λhm=>?_,hnd2⟩;obtain⟨y,hy,hk⟩:=Tf.1 hm;rcases hb b hu' with h|h
   .exact hrest y hy b hk h
   .have:=(As.bg (hw.all y (Qx _ hy)) hk).1;omega
theorem kY{P:QE}{w0 w:QL}{M:Mem}{Γ:List As}{t ty e sz bytes n m:Nat}{u x:Qw}{us news:List Qw}(hE:gj P t e sz bytes)
  (hw:St w0 M (.acc u e sz n us::Γ) w) (hs:gz w0 M (.acc u e sz n us::Γ) x sz m news) (hb:(n+m)*bytes<=140737488355328) (hm:n+m<=lim) :
  ∃u' w',(RV #[t,t] ty #[u,x]).run P w=.ok u' w'/\St w0 M (.acc u' e sz (n+m) (us++news)::Γ) w':=by
 obtain⟨ht,⟨i,z,hi,hz,hsize,hby,hzs⟩,hpos⟩:=hE;obtain⟨hl,h1,hsrc⟩:=hs;have hx:=hw.all _ (Qt ..);have h63:n+m<=Ti:=by unfold lim at hm;unfold Ti;omega
 rcases hsrc with⟨p,c,rfl,hnews⟩|⟨rfl,c,rfl⟩
 .obtain⟨v',w',hr,ho,hg,_⟩:=run_append_own (P:=P) w 0 t ty e i z sz bytes ht hi hz hsize hby hzs hpos u n us hx.1 p m c news hl (hnews w hw) h1 h63 hb (Rr _);refine⟨v',w',hr,hw.grown hg ho λb hbb=>?_⟩;subst hsize;obtain⟨hlen,hh⟩:=hx.1;rcases hh with⟨rfl,rfl⟩|⟨b0,cap,cur,rfl,_,hb0,hnc,hcm,hcs,htk⟩
  .rcases Nat.eq_zero_or_pos m with rfl|hmp
   .have e0:news=[]:=Rg Q0;subst e0;have hr2:(RV #[t,t] ty #[.slice none 0 0,.slice (some p) 0 c]).run P w=.ok (.slice none 0 0) w:=by have hf:=run_firstCells_some (P:=P) w i.size 0 p 0 c [] Q2 Q2;simp[RV,QN ht,TS,TJ,hi,SU,hf]
    rw[hr2]at hr;cases hr;simp[RN]at hbb
   .have hr2:=run_append_nil (P:=P) w t ty e i z ht hi hz p m c news hl (hnews w hw) hmp (by unfold lim at hm;omega) (by grind);rw[hr2]at hr;cases hr;simp only[RN,Qq]at hbb;right;omega
  .by_cases hroom:n+m<=cap
   .have hr2:=run_append_room (P:=P) w t ty e i ht hi b0 n cap cur hb0 p m c news hl (hnews w hw) h1 hroom (by rw[hl,hcs,<-RA];exact Rz _ hroom);rw[hr2]at hr;cases hr;exact .inl hbb
   .have holds:∀j v,us[j]?=some v->w.cell? ((⟨b0,0,none⟩:Addr).add j)=some v:=hx.1.cells rfl;have hr2:=run_append_grow (P:=P) w t ty e i z ht hi hz ⟨b0,0,none⟩ n cap us hlen holds p m c news hl (hnews w hw) Q0 (by unfold lim at hm;omega)
     (by rw[hby];exact growslice_fits Q0 hb)
    rw[hr2]at hr;cases hr;simp only[RN,Qq]at hbb;right;omega
 .have e0:news=[]:=Rg Q0;subst e0;refine⟨u,w,?_,by grind⟩;obtain⟨hlen,hh⟩:=hx.1;rcases hh with⟨rfl,rfl⟩|⟨b0,cap,cur,rfl,_,hb0,hnc,hcm,hcs,htk⟩
  .simp[RV,QN ht,TS,TJ,hi,SU,Sx]
  .simp[RV,QN ht,TS,TJ,hi,SU,Sx,hnc,VJ]
def dY(cs:List Qw)(off:Nat)(vs:List Qw):List Qw:=cs.take off++vs++cs.drop (off+vs.length)
theorem yZ{cs:List Qw}{off:Nat}{vs:List Qw}(h:off+vs.length<=cs.length):(dY cs off vs).length=cs.length:=by simp[dY];omega
theorem va:∀(l:List Qw) (off k:Nat) (cs:List Qw),off+k+l.length<=cs.length ->
  (l.zipIdx k).foldl (fun(c:Array Qw) (x:Qw×Nat)=>c.setIfInBounds (off+x.2) x.1) cs.toArray=(dY cs (off+k) l).toArray
 |[],off,k,cs,_=>by simp[dY]
 |v::l,off,k,cs,h=>by
  have h':off+(k+1)+l.length<=cs.length:=by grind
  simp only[List.zipIdx_cons,List.foldl_cons,List.setIfInBounds_toArray];rw[va l off (k+1) (cs.set (off+k) v) (by grind)]
  congr 1
  simp only[dY];have hk:off+k<cs.length:=Q0;rw[<-RW,Qv (by grind),List.take_set_of_le Q0];simp only[SP,QG,List.append_assoc,Rm,Rk,RW]
  congr 3
  rw[Yt,J2 Q0]
  congr 1
  omega
def jI(bq:Nat->Option (Nat×Nat)):List Qw->List (Nat×List Qw)->Option (List Qw)
 |cells,[]=>some cells
 |cells,(i,vs)::rest=>match bq i with
  |none=>none
  |some (off,size)=>if vs.length=size/\off+size<=cells.length then jI bq (dY cells off vs) rest else none
def fI:Qw->List Qw
 |.agg cs=>cs.toList
 |v=>[v]
theorem lD(v:Qw):v.cells=(fI v).toArray:=by cases v <;> simp[VB,fI]
theorem sS(bq:Nat->Option (Nat×Nat)):∀(parts:List (Nat×Qw)) (cells out:List Qw),jI bq cells (parts.map λp=>(p.1,fI p.2))=some out->Xt bq cells.toArray parts=some out.toArray
 |[],cells,out,h=>by simp only[R5,jI,Qq]at h;simp[Xt,h]
 |(i,v)::rest,cells,out,h=>by
  simp only[QT,jI]at h;unfold Xt;cases hp:bq i with
  |none=>simp[hp]at h
  |some os =>
   obtain⟨off,size⟩:=os;rw[hp]at h;simp only[]at h ⊢;split at h
   .rename_i hc;obtain⟨h1,h2⟩:=hc;have hsz:v.cells.size=size:=by rw[lD];simpa using h1
    rw[J1 (by grind)];rw[lD v,<-Array.foldl_toList,Array.toList_zipIdx];have:=va (fI v) off 0 cells Q0;simp only[RY]at this;rw[this];exact sS bq rest _ _ h
   .cases h
def BO(L:Lm):List (Nat×QM)->Option (List (Nat×Qw))
 |[]=>some []
 |(i,x)::r=>match bm L x with
  |some v=>match BO L r with
   |some vs=>some ((i,v)::vs)
   |none=>none
  |none=>none
theorem Sat.BO{n:Nat}{L:Lm}{a:Act}(h:Sat n L a):∀{xs:List (Nat×QM)} {vs:List (Nat×Qw)},BO L xs=some vs->xs.map (λp=>(p.1,a.eval p.2))=vs
 |[],vs,hv=>by simp only[Xe.BO,Qq]at hv;simp[<-hv]
 |(i,x)::xs,vs,hv=>by
  simp only[Xe.BO]at hv;cases hx:bm L x with
  |none=>simp[hx]at hv
  |some v =>
   rw[hx]at hv;simp only[]at hv;cases hxs:Xe.BO L xs with
   |none=>simp[hxs]at hv
   |some us=>rw[hxs]at hv;simp only[Qq]at hv;rw[<-hv];simp[h.ev hx,h.BO hxs]
def BJ(P:QE)(t:QH):Option (List (Nat×Nat)):=match P.underlying t with
 |some (.struct fs)=>fs.toList.mapM λf=>match P.info? f.type with
  |some i=>some (f.offset,i.size)
  |none=>none
 |_=>none
theorem w7{P:QE}{w:QL}:∀(fs:List Xf) (pl:List (Nat×Nat)),(fs.mapM λf=>match P.info? f.type with
  |some i=>some (f.offset,i.size)
  |none=>none)=some pl->(fs.mapM λf=>Prod.mk f.offset <$> TS f.type:Sem (List (Nat×Nat))).run P w=.ok pl w
 |[],pl,h=>by simp_all
 |f::fs,pl,h=>by
  simp only[List.mapM_cons]at h ⊢;cases hi:P.info? f.type with
  |none=>simp[hi]at h
  |some i =>
   simp only[hi,Option.bind_eq_bind,TV]at h
   cases hr:(fs.mapM λf=>match P.info? f.type with
    |some i=>some (f.offset,i.size)
    |none=>none) with
   |none=>rw[hr]at h;simp at h
   |some pl' =>
    rw[hr]at h;simp only[TV,Option.pure_def,Qq]at h;subst h;have ih:=w7 (P:=P) (w:=w) fs pl' hr;have hs:(TS f.type).run P w=.ok i.size w:=by simp[TS,TJ,hi]
    simp only[SD,Sem.run_map,hs,Tr,ih,YT]
section
variable {P:QE} {w0:QL} {L:Lm} {M:Mem} {Γ:List As} {d:Option Nat} {ty:QH} {pos:String} {af:Array Edge} {g:Option (Nat×Bool)}
namespace Y
theorem build{t:QH}{parts:List (Nat×QM)}{vs:List (Nat×Qw)}{zs:List Qw}{pl:List (Nat×Nat)}(out:List Qw)(hp:BO L parts=some vs)(hz:jV P t=some (.agg zs.toArray))(hpl:BJ P t=some pl)
  (hf:jI (pl[·]?) zs (vs.map λp=>(p.1,fI p.2))=some out):Yq P w0 L M Γ ⟨d,.build t parts.toArray,ty,pos,af,g⟩ (.agg out.toArray):=λn a w ha _=>by
 unfold BJ at hpl;cases hu:P.underlying t with
 |none=>simp[hu]at hpl
 |some dd =>
  rw[hu]at hpl;cases dd with
  |struct fs =>
   simp only[]at hpl;have h1:=w7 (P:=P) (w:=w) fs.toList pl hpl;have h2:=sS (pl[·]?) vs zs out hf;have h3:(parts.toArray.map λx=>(x.1,a.eval x.2))=vs.toArray:=by rw[UA,ha.BO hp]
   have h4:(fs.mapM λf=>(do pure (f.offset,<-TS f.type):Sem (Nat×Nat))).run P w=.ok pl.toArray w:=by rw[Array.mapM_eq_mapM_toList];simp[h1]
   simp only[Rc,h3];simp only[Instr.build,SD,iZ hz,Tr,QN hu,VB,h4,List.getElem?_toArray,h2,YT]
  |_=>simp at hpl
end Y
end
section
variable {P:QE} {n:Nat} {w0:QL} {ops:Array Oper} {rest:List Oper} {L:Lm} {M:Mem} {Γ:List As} {K:Lm->Mem->List As->Prop} {ty:QH} {pos:String} {af:Array Edge} {d:Nat}
theorem om{w:QL}{t e sz bytes len:Nat}{vs:List (Nat×Qw)}{out:List Qw}(hE:gj P t e sz bytes)(hlen:SI (len*sz) 16777216=true)
  (hf:∀zs:List Qw,zs.length=len*sz->jI (λi=>some (i*sz,sz)) zs (vs.map λp=>(p.1,fI p.2))=some out) :
  (Vo t len vs.toArray).run P w=.ok (.slice (some ⟨w.heap.size,0,none⟩) len len) {w with heap:=w.heap.push (.cells out.toArray e (0,0))}:=by
 obtain⟨ht,⟨i,z,hi,hz,hsize,hby,hzs⟩,hpos⟩:=hE;have hl:¬(16777216<len*sz):=by simp_all
 by_cases h0:len*sz=0
 .have h1:=sS (λi=>some (i*sz,sz)) vs [] out (hf [] (by simp[h0]));have e0:Array.map (λ_=>(default:Qw)) (YD 0)=#[]:=Q2;simp[Vo,QN ht,TS,TJ,hi,hsize,h0,h1,e0,newRow]
 .have h1:=sS (λi=>some (i*sz,sz)) vs ((YD (len*sz)).map (z.cells[· % z.cells.size]!)).toList out (hf _ Q2);simp only[Array.toArray_toList]at h1;simp[Vo,QN ht,TS,TJ,YS,hi,hz,hsize,h0,hl,h1,newRow]
inductive vA(x:As):List As->List As->Prop
 |here (Γ:List As):vA x (x::Γ) Γ
 |there (y:As) {Γ R:List As}:vA x Γ R->vA x (y::Γ) (y::R)
theorem vA.fP{x:As}{Γ R:List As}(h:vA x Γ R):X5 Γ (x::R):=by
 induction h with
 |here Γ=>exact .refl _
 |there y _ ih=>exact(ih.cons y).trans (.swap x y _)
theorem src_rd{w:QL}{n sz:Nat}{ds:List D}{a:Option Addr}{l c:Nat}(hw:St w0 M Γ w)(hm:As.rd (.sl n sz ds) (.slice a l c)∈Γ) :
  ∃news,bz M ds news/\gz w0 M Γ (.slice a l c) sz l news:=by
 have hr:=hw.rd hm;simp only[Rd]at hr;obtain⟨a',c',h1,h2,h3,h4,h5,h6,h7⟩:=hr;simp only[Ri]at h1;obtain⟨rfl,rfl,rfl⟩:=h1;obtain⟨us,h8,h9⟩:=td (M:=M) (a:=a) (q:=0) (ds:=ds) λj e hj=>by simpa using o5.get ds 0 h7 j e hj
 refine⟨us,h8,by rw[h8.1];exact h5,h8.one,?_⟩;cases a with
 |none =>
  have h0:¬0<l:=λh=>by grind
  obtain rfl:l=0:=Q0;exact .inr ⟨rfl,c,rfl⟩
 |some p=>exact .inl ⟨p,c,rfl,λw hw j u hj=>hw.cell (by have:=h9 j u hj;rw[Rn]at this;exact this)⟩
theorem ji{w:QL}{u:Qw}{e:QH}{sz n:Nat}{us:List Qw}(h:As.ok M w (.acc u e sz n us)):∃a c,u=.slice a n c/\n<=c:=by
 obtain⟨⟨_,hh⟩,_⟩:=h
 grind
theorem RL.append{t e sz bytes k m:Nat}{x y:QM}{u xv:Qw}{us news:List Qw}{R:List As}(hE:gj P t e sz bytes)(hx:bm L x=some u)(hy:bm L y=some xv)(hp:vA (.acc u e sz k us) Γ R)
  (hs:gz w0 M Γ xv sz m news) (hb:(k+m)*bytes<=140737488355328) (hm:k+m<=lim) (hd:Sq d n=true)
  (h:∀a' c',k+m<=c'->RL P n w0 ops rest ((d,.slice a' (k+m) c')::L) M (.acc (.slice a' (k+m) c') e sz (k+m) (us++news)::R) K):RL P n w0 ops (⟨some d,.call ⟨.builtin .append,#[x,y],#[t,t]⟩,ty,pos,af,none⟩::rest) L M Γ K:=by
 refine RL.e (λv M' Γ'=>M'=M/\Γ'=.acc v e sz (k+m) (us++news)::R) (λn a w ha hw=>?_) hd ?_
 .obtain⟨hl,h1,hsrc⟩:=hs;have hs':gz w0 M (.acc u e sz k us::R) xv sz m news:=⟨hl,h1,hsrc.imp (fun⟨p,c,h1,h2⟩=>⟨p,c,h1,λw hw=>h2 w (hw.fP hp.fP.symm)⟩) id⟩;obtain⟨u',w',hr,hw'⟩:=kY (P:=P) (ty:=ty) hE (hw.fP hp.fP) hs' hb hm;refine⟨u',w',M,_,?_,⟨rfl,rfl⟩,hw'⟩;simp[Rc,resolve,invoke,Tm,ha.ev hx,ha.ev hy,hr]
 .rintro v M' Γ' ⟨rfl,rfl⟩;refine RL.know (F:=∃a' c',v=.slice a' (k+m) c'/\k+m<=c') (λw hw=>ji (hw.all _ (Qt ..))) ?_;rintro⟨a',c',rfl,hc'⟩;exact h a' c' hc'
theorem RL.Fy{t e sz bytes k m:Nat}{x y:QM}{u:Qw}{a:Option Addr}{c:Nat}{us:List Qw}{ds:List D}{R:List As}(hE:gj P t e sz bytes)(hx:bm L x=some u)(hy:bm L y=some (.slice a m c))(hp:vA (.acc u e sz k us) Γ R)
  (hs:As.rd (.sl m sz ds) (.slice a m c)∈Γ) (hb:(k+m)*bytes<=140737488355328) (hm:k+m<=lim) (hd:Sq d n=true)
  (h:∀a' c' news,k+m<=c'->bz M ds news->RL P n w0 ops rest ((d,.slice a' (k+m) c')::L) M (.acc (.slice a' (k+m) c') e sz (k+m) (us++news)::R) K):RL P n w0 ops (⟨some d,.call ⟨.builtin .append,#[x,y],#[t,t]⟩,ty,pos,af,none⟩::rest) L M Γ K:=by
 refine RL.know (F:=∃news,bz M ds news/\gz w0 M Γ (.slice a m c) sz m news) (λw hw=>src_rd hw hs) ?_;rintro⟨news,hr,hs'⟩;exact RL.append hE hx hy hp hs' hb hm hd λa' c' hc'=>h a' c' news hc' hr
end
theorem o4.drop{w0:QL}{M:Mem}{Γ Γ':List As}{F:Mem->List As->Prop}(h:F M Γ')(hs:U6 Γ' Γ):o4 w0 M Γ F:=o4.of h λ_ hw=>hw.sub hs
theorem CW.addRd{P:QE}{n:Nat}{w0:QL}{c:Code}{X:JR}{L:Lm}{M:Mem}{Γ:List As}{e:D}{u:Qw}(hr:Rd M e u)(h:CW P n w0 c X L M (.rd e u::Γ)):CW P n w0 c X L M Γ :=
 h.pre (lr.refl L) λ_ hw=>hw.add (x:=.rd e u) hr rfl
theorem Rd.slice{M:Mem}{n sz:Nat}{cs:List D}{u:Qw}(h:Rd M (.sl n sz cs) u):∃a c,u=.slice a n c/\n<=c/\n<=140737488355328/\cs.length=n*sz:=by simp only[Rd]at h;obtain⟨a,c,h1,h2,_,h4,h5,_⟩:=h;exact⟨a,c,h1,h2,h4,h5⟩
theorem CW.P8{P:QE}{n:Nat}{w0:QL}{c:Code}{X:JR}{L:Lm}{M:Mem}{Γ:List As}(e sz:Nat)(h:CW P n w0 c X L M (.acc (.slice none 0 0) e sz 0 []::Γ)):CW P n w0 c X L M Γ:=h.pre (lr.refl L) λ_ hw=>hw.tl e sz
theorem CW.front{P:QE}{n:Nat}{w0:QL}{c:Code}{X:JR}{L:Lm}{M:Mem}{Γ R:List As}{x:As}(hp:vA x Γ R)(h:CW P n w0 c X L M (x::R)):CW P n w0 c X L M Γ :=
 h.pre (lr.refl L) λ_ hw=>hw.fP hp.fP
end Xe
namespace Xe
open Go
def jN(L:Lm):Option QM->Nat->Nat->Prop
 |none,d,k=>k=d
 |some x,_,k=>∃z,bm L x=some (.int .i64 z)/\z=(k:Int)
theorem bh{P:QE}{w:QL}{z:Int}{y k:Nat}{c:BoundsCode}(h:z=(k:Int))(hk:k<=y):(XS (.int .i64 z) y c).run P w=.ok k w:=by subst h;simp[XS,YI,hk]
def lq(a:Option Addr)(l h m sz:Nat):Qw:=.slice (if m=l then a else a.map (·.add (l*sz))) (h-l) (m-l)
theorem Y.slice{P:QE}{w0:QL}{L:Lm}{M:Mem}{Γ:List As}{d:Option Nat}{ty:QH}{pos:String}{af:Array Edge}{g:Option (Nat×Bool)}{x:QM}{lo hi mx:Option QM}{t e sz:Nat}{a:Option Addr}{n c:Nat}(l h m:Nat)
  (hx:bm L x=some (.slice a n c)) (hlo:jN L lo 0 l) (hhi:jN L hi n h) (hmx:jN L mx c m) (hb:hi.isSome=true\/mx.isSome=false) (h1:l<=h) (h2:h<=m) (h3:m<=c) (ht:sliceB P t e sz=true) :
  Yq P w0 L M Γ ⟨d,.slice t x lo hi mx,ty,pos,af,g⟩ (lq a l h m sz):=λk ac w ha _=>by
 obtain⟨e1,e2⟩:=dR ht;have r3:=gW (P:=P) (w:=w) e2;have key:(S0 t (.slice a n c) (lo.map ac.eval) (hi.map ac.eval) (mx.map ac.eval)).run P w=.ok (lq a l h m sz) w:=by
  have hl:lo=none/\l=0\/∃y z,lo=some y/\ac.eval y=.int .i64 z/\z=(l:Int):=by
   cases lo with
   |none=>exact .inl ⟨rfl,hlo⟩
   |some y=>obtain⟨z,hz,e⟩:=hlo;exact .inr ⟨y,z,rfl,ha.ev hz,e⟩
  cases mx with
  |none =>
   simp only[jN]at hmx;subst hmx;cases hi with
   |none =>
    simp only[jN]at hhi;subst hhi;rcases hl with⟨rfl,rfl⟩|⟨y,z,rfl,hy,hz⟩
    .simp[S0,QN e1,RM,r3,lq]
    .simp[S0,QN e1,RM,hy,r3,bh hz h1,lq]
   |some y =>
    obtain⟨z,hz,e⟩:=hhi;rcases hl with⟨rfl,rfl⟩|⟨y',z',rfl,hy,hz'⟩
    .simp[S0,QN e1,RM,ha.ev hz,r3,bh e h2,lq]
    .simp[S0,QN e1,RM,ha.ev hz,hy,r3,bh e h2,bh hz' h1,lq]
  |some u =>
   obtain⟨z',hz',e'⟩:=hmx;cases hi with
   |none=>simp at hb
   |some y =>
    obtain⟨z,hz,e⟩:=hhi;rcases hl with⟨rfl,rfl⟩|⟨y',z'',rfl,hy,hz''⟩
    .simp[S0,QN e1,RM,ha.ev hz,ha.ev hz',r3,bh e h2,bh e' h3,lq]
    .simp[S0,QN e1,RM,ha.ev hz,ha.ev hz',hy,r3,bh e h2,bh e' h3,bh hz'' h1,lq]
 simp[Rc,ha.ev hx,Instr.sliceAt,QN e1,key]
theorem Rd.cut{M:Mem}{n sz:Nat}{cs:List D}{a:Option Addr}{c:Nat}(hr:Rd M (.sl n sz cs) (.slice a n c))(l h m:Nat)(h1:l<=h)(h2:h<=m)(h3:m<=c)(h4:h<=n) :
  Rd M (.sl (h-l) sz ((cs.drop (l*sz)).take ((h-l)*sz))) (lq a l h m sz):=by
 simp only[Rd]at hr ⊢;obtain⟨a',cap,e,k1,k2,k3,k4,k5,k6⟩:=hr;simp only[Ri]at e;obtain⟨rfl,_,rfl⟩:=e;refine⟨_,_,rfl,Q0,Q0,Q0,?_,?_,?_⟩
 .have:=Rz sz h4;simp only[Rf,RO,k4,Nat.sub_mul];omega
 .intro hp;have:=k5 Q0;by_cases hm:m=l
  .omega
  .rw[J1 hm];simpa using this
 .by_cases hm:m=l
  .have:h-l=0:=Q0;simp[this,o5]
  .rw[J1 hm];refine o5.mk _ 0 λk d hk=>?_;have hk':cs[l*sz+k]?=some d:=by
    grind
   have hk2:k<(h-l)*sz:=by
    grind
   obtain⟨u,q1,q2⟩:=o5.get cs 0 k6 _ d hk';have hp:0<h-l:=by
    grind
   have:=k5 Q0;obtain⟨b,rfl⟩:=R0.1 this;refine⟨u,?_,q2⟩;rw[Rn]at q1 ⊢;have:fT ((some b).map (·.add (l*sz))) k=fT (some b) (l*sz+k):=by have h0:b.add (l*sz)=fT (some b) (l*sz):=rfl;show(b.add (l*sz)).add k=_;rw[h0,eu]
   rw[this];exact q1
theorem St.NJ{w0 w:QL}{M:Mem}{Γ:List As}{b n cap:Nat}{e:QH}{sz:Nat}{cs us:List Qw}(hw:St w0 M (.own b e cs::Γ) w)(hl:us.length=n*sz)(hc:cs.length=cap*sz)(ht:cs.take (n*sz)=us)(hn:n<=cap)(hm:cap<=Ti) :
  St w0 M (.acc (.slice (some ⟨b,0,none⟩) n cap) e sz n us::Γ) w:=by
 have hx:=hw.all _ (Qt ..);refine⟨hw.os,hw.tape,hw.output,hw.size,hw.mem,λy hy=>?_,by simpa[Rh,As.gh,RN]using hw.nodup⟩;rcases Qz.1 hy with rfl|hy
 .refine⟨⟨hl,.inr ⟨b,cap,cs.toArray,rfl,Rr _,hx.2,hn,hm,Q0,Q0⟩⟩,λk hk=>?_⟩;simp only[RN,Qq]at hk;subst hk;exact hx.1
 .exact hw.all y (Qx _ hy)
def Mem.diff(M' M:Mem):Mem:=λb=>if(M b).isSome then none else M' b
theorem PM{M:Mem}{b:Nat}{c:Array Qw}{e:QH}{i:Nat}{v:Qw}(hM:M b=some (.cells c e (0,0)))(h:c[i]?=some v):dW M (fT (some ⟨b,0,none⟩) i)=some v:=by rw[cx];simp[dW,hM,h]
theorem Rd.ofBlock{M:Mem}{b n cap:Nat}{e:QH}{sz:Nat}{cur:Array Qw}{us:List Qw}{ds:List D}(hM:M b=some (.cells cur e (0,0)))(hr:bz M ds us)(hl:us.length=n*sz)(hn:n<=lim)(hc:n<=cap)(hm:cap<=Ti)(ht:cur.toList.take (n*sz)=us) :
  Rd M (.sl n sz ds) (.slice (some ⟨b,0,none⟩) n cap):=by
 simp only[Rd];refine⟨some ⟨b,0,none⟩,cap,rfl,hc,hm,hn,by rw[<-hr.1];exact hl,λ_=>rfl,o5.mk ds 0 λk d hk=>?_⟩;obtain⟨v,h1,h2⟩:=bz.get hr hk;refine⟨v,?_,h2⟩;rw[Rn];apply PM hM;have hk':k<n*sz:=by
  grind
 rw[<-ht,TI hk']at h1;simpa using h1
def Mem.nQ(M:Mem)(bs:List Nat):Mem:=λb=>if b∈bs then none else M b
def As.owns:As->Prop
 |.own ..=>True
 |.acc ..=>True
 |_=>False
structure Qi(w0:QL)(M:Mem)(Γs Γ:List As)(M':Mem):Prop where
 sub:Sub M M'
 wit:∃w,St w0 M (Γs++Γ) w/\∀x∈Γs,∀b,x.gh=some b->M' b=w.heap[b]?
 only:∀b o,M' b=some o->M b=some o\/b∈Γs.filterMap As.gh
theorem St.Ep{w0 w:QL}{M:Mem}{Γ:List As}:∀(Γs:List As),(∀x∈Γs,x.owns)->St w0 M (Γs++Γ) w->∃M',Qi w0 M Γs Γ M'/\St w0 M' Γ w
 |[],_,h=>⟨M,⟨Sub.refl M,⟨w,h,λx hx=>by simp at hx⟩,λb o hb=>.inl hb⟩,h⟩
 |x::Γs,ho,h=>by
  have hp:St w0 M (Γs++(x::Γ)) w:=h.fP (List.perm_middle.symm);obtain⟨M1,hl,h1⟩:=St.Ep Γs (λy hy=>ho y (Qx _ hy)) hp;have hx:=h1.all x (Qt ..);cases hb:x.gh with
  |none =>
   refine⟨M1,⟨hl.sub,⟨w,h,λy hy b hyb=>?_⟩,λb o hbo=>?_⟩,h1.sub (Tn _ _)⟩
   .rcases Qz.1 hy with rfl|hy
    .rw[hb]at hyb;cases hyb
    .have hblk:b∈Γs.filterMap As.gh:=vX hy hyb;have:=h1.mem;cases hM:M1 b with
     |some o=>exact(h1.mem b o hM).symm
     |none=>obtain⟨w',hw',hw2⟩:=hl.wit;have e1:=hw2 y hy b hyb;have e2:=(As.bg (hw'.all y (List.mem_append_left _ hy)) hyb).1;rw[hM]at e1;exact J3 e1.symm (by grind)
   .rcases hl.only b o hbo with h2|h2
    .exact .inl h2
    .exact .inr (by grind)
  |some b =>
   have hlt:=(As.bg hx hb);obtain⟨o,ho'⟩:∃o,w.heap[b]?=some o:=⟨_,Um hlt.1⟩;have h2:=h1.qB (b:=b) (o:=o) hb ho';refine⟨M1.put b o,⟨hl.sub.trans (Mem.rO hlt.2),⟨w,h,λy hy c hyc=>?_⟩,λc o' hc=>?_⟩,h2⟩
   .rcases Qz.1 hy with rfl|hy
    .rw[hb]at hyc;cases hyc;simp[Mem.put,ho']
    .obtain⟨w',hw',hw2⟩:=hl.wit;have e1:=hw2 y hy c hyc;have e2:=(As.bg (hw'.all y (List.mem_append_left _ hy)) hyc).1;cases hM:M1 c with
     |none=>rw[hM]at e1;exact J3 e1.symm (by grind)
     |some o2=>have:=Mem.rO hlt.2 (o:=o) c o2 hM;rw[this];exact(h1.mem c o2 hM).symm
   .unfold Mem.put at hc;by_cases e:c=b
    .right;simp[hb,e]
    .rw[J1 e]at hc;rcases hl.only c o' hc with h3|h3
     .exact .inl h3
     .right;simp only[Rh,hb];exact Qx _ h3
theorem Qi.back{w0 w':QL}{M M1 M2:Mem}{Γs Γ:List As}(h:Qi w0 M Γs Γ M1)(_ho:∀x∈Γs,x.owns)(hs:Sub M1 M2)(hw:St w0 M2 Γ w') :
  Sub M (M2.nQ (Γs.filterMap As.gh))/\Sub (M2.diff M1) (M2.nQ (Γs.filterMap As.gh))/\St w0 (M2.nQ (Γs.filterMap As.gh)) (Γs++Γ) w':=by
 obtain⟨w,hw1,hl⟩:=h.wit;have hMs:∀x∈Γs,∀b,x.gh=some b->∃o,M1 b=some o/\w.heap[b]?=some o:=λx hx b hb=>by
  have e1:=hl x hx b hb;have e2:=(As.bg (hw1.all x (List.mem_append_left _ hx)) hb).1
  grind
 have hsubM:Sub M (M2.nQ (Γs.filterMap As.gh)):=λb o hb=>by
  unfold Mem.nQ;rw[J1 λhm=>?_]
  .exact hs b o (h.sub b o hb)
  .obtain⟨x,hx,hxb⟩:=Tf.1 hm;have:=(As.bg (hw1.all x (List.mem_append_left _ hx)) hxb).2
   grind
 have hle:Sub (M2.nQ (Γs.filterMap As.gh)) M2:=λb o hb=>by
  unfold Mem.nQ at hb
  grind
 refine⟨hsubM,λb o hb=>?_,hw.os,hw.tape,hw.output,hw.size,λb o hb=>hw.mem b o (hle b o hb),λx hx=>?_,?_⟩
 .unfold Mem.diff at hb;split at hb
  .cases hb
  .rename_i hn;unfold Mem.nQ;rw[J1 λhm=>?_]
   .exact hb
   .obtain⟨x,hx,hxb⟩:=Tf.1 hm;obtain⟨o',h1,h2⟩:=hMs x hx b hxb;simp[h1]at hn
 .rcases QK.1 hx with hx|hx
  .have h0:=hw1.all x (List.mem_append_left _ hx);have hk:∀b,x.gh=some b->w'.heap[b]?=w.heap[b]?/\M2.nQ (Γs.filterMap As.gh) b=none:=λb hb=>by
    obtain⟨o,h1,h2⟩:=hMs x hx b hb;refine⟨by rw[hw.mem b o (hs b o h1),h2],?_⟩;unfold Mem.nQ
    grind
   exact As.fy h0 hsubM hk
  .have h0:=hw1.all x (List.mem_append_right _ hx);have h2:=hw.all x hx;cases x with
   |rd d u=>exact Rd.mono hsubM d u h0
   |rds d u=>exact bz.mono hsubM h0
   |own b e cs =>
    refine⟨?_,h2.2⟩;cases hM:M2.nQ (Γs.filterMap As.gh) b with
    |none=>rfl
    |some o2=>have:=hle b o2 hM;rw[h2.1]at this;cases this
   |acc u e sz n us =>
    refine⟨h2.1,λb hb=>?_⟩;cases hM:M2.nQ (Γs.filterMap As.gh) b with
    |none=>rfl
    |some o=>have:=hle b o hM;rw[h2.2 b hb]at this;cases this
   |mp b l =>
    refine⟨?_,h2.2⟩;cases hM:M2.nQ (Γs.filterMap As.gh) b with
    |none=>rfl
    |some o2=>have:=hle b o2 hM;rw[h2.1]at this;cases this
   |raw b o =>
    refine⟨?_,h2.2⟩;cases hM:M2.nQ (Γs.filterMap As.gh) b with
    |none=>rfl
    |some o2=>have:=hle b o2 hM;rw[h2.1]at this;cases this
 .exact hw1.nodup
theorem Qi.acc{w0:QL}{M M':Mem}{Γs Γ:List As}(h:Qi w0 M Γs Γ M'){u:Qw}{n:Nat}{e:QH}{sz:Nat}{us:List Qw}{ds:List D}(hx:As.acc u e sz n us∈Γs)(hr:bz M' ds us)(hn:n<=lim) :
  Rd M' (.sl n sz ds) u:=by
 obtain⟨w,hw,hm⟩:=h.wit;have h0:=hw.all _ (List.mem_append_left _ hx);obtain⟨⟨hl,hh⟩,_⟩:=h0;rcases hh with⟨rfl,rfl⟩|⟨b,cap,cur,rfl,_,hb,hnc,hcm,hcs,htk⟩
 .have hd:ds=[]:=by have h1:=hr.1;have:us.length=0:=Q0;rw[this]at h1;exact Rg h1.symm
  subst hd;simp only[Rd];exact⟨none,0,rfl,QW _,Rr _,Rr _,Q2,Q2,by simp[o5]⟩
 .have h1:=hm _ hx b rfl;rw[hb]at h1;exact Rd.ofBlock h1 hr hl hn hnc hcm Q0
theorem St.o3{w0 w:QL}{M:Mem}{Γ:List As}(h:St w0 M Γ w){a:Option Addr}{n c e sz:Nat}{us:List Qw}(hm:As.acc (.slice a n c) e sz n us∈Γ){q:Nat}{v:Qw}(hq:us[q]?=some v):a.isSome=true/\w.cell? (fT a q)=some v:=by
 obtain⟨⟨hl,hh⟩,_⟩:=h.all _ hm;rcases hh with⟨e1,rfl⟩|⟨b,cap,cur,e1,_,hb,hnc,hcm,hcs,htk⟩
 .grind
 .simp only[Ri]at e1;obtain⟨rfl,_,rfl⟩:=e1;refine⟨rfl,?_⟩;rw[cx];have hk':q<n*sz:=by
   grind
  have h2:=hq;rw[<-htk,TI hk']at h2;have h3:cur[q]?=some v:=by grind
  simp[RQ,hb,h3]
section
variable {P:QE} {w0:QL} {L:Lm} {M:Mem} {Γ:List As} {d:Option Nat} {ty:QH} {pos:String} {af:Array Edge} {g:Option (Nat×Bool)}
theorem Y.sA{x:QM}{t:QH}{p:Addr}{v:Qw}(hx:bm L x=some (.pointer (some p)))(hc:dW M p=some v)(hf:jZ P t=true) :
  Yq P w0 L M Γ ⟨d,.load t x,ty,pos,af,g⟩ v:=Y.load hx hf λ_ hw=>hw.cell hc
end
structure ql(P:QE)(kt:QH){κ:Type}[DecidableEq κ](kv:κ->Qw):Prop where
 kind:∃fs,P.underlying kt=some (.struct fs)
 check:∀k b w,(Instr.checkKey b 10000 kt (kv k)).run P w=.ok () w
 eq:∀k k' w,(YE kt (kv k) (kv k')).run P w=.ok (decide (k=k')) w
variable {P:QE} {κ:Type} [DecidableEq κ] {kv:κ->Qw}
def gu(k:κ):List (κ×Qw)->Option Qw
 |[]=>none
 |p::l=>if k=p.1 then some p.2 else gu k l
abbrev vw(kv:κ->Qw)(l:List (κ×Qw)):List (Qw×Qw):=l.map λp=>(kv p.1,p.2)
theorem oh{kt:QH}(hK:ql P kt kv)(k:κ):∀(l:List (κ×Qw)) (es:List Su) (i:Nat) (w:QL),es.map (λe=>(e.key,e.val))=vw kv l ->
  ∃r:Option (Nat×Qw),(Sn kt (kv k) es i).run P w=.ok r w/\r.map (·.2)=gu k l
 |[],[],i,w,_=>⟨none,by simp[Sn],rfl⟩
 |p::l,e::es,i,w,h=>by
  simp only[vw,QT,SA,QR]at h;obtain⟨⟨h0,h00⟩,ht⟩:=h;have h1:=hK.eq k p.1 w;by_cases he:k=p.1
  .refine⟨some (i,e.val),?_,by simp[gu,he,h00]⟩;rw[J5 he]at h1;simp only[Sn,h0];simp[h1]
  .obtain⟨r,h2,h3⟩:=oh hK k l es (i+1) w ht;rw[J6 he]at h1;refine⟨r,?_,by simp only[gu];rw[J1 he];exact h3⟩;simp only[Sn,h0];simp[h1,h2]
 |[],_::_,_,_,h=>by grind
 |_::_,[],_,_,h=>by grind
theorem DD{kt:QH}(hK:ql P kt kv)(k:κ)(l:List (κ×Qw))(es:List Su)(w:QL)(h:es.map (λe=>(e.key,e.val))=vw kv l) :
  ∃r:Option (Nat×Qw),(S2 kt (kv k) es).run P w=.ok r w/\r.map (·.2)=gu k l:=by
 obtain⟨fs,hfs⟩:=hK.kind;obtain⟨r,h1,h2⟩:=oh hK k l es 0 w h;cases es with
 |nil =>
  refine⟨none,by simp[S2,QN hfs,Uw],?_⟩;cases l with
  |nil=>rfl
  |cons p l=>simp[vw]at h
 |cons e es=>refine⟨r,?_,h2⟩;simp[S2,QN hfs,Uw,Instr.sameNow,h1]
def GG(P:QE)(t k e:Nat):Bool:=match P.underlying t with
 |some (.map k' e')=>Qy k k' && Qy e e'
 |_=>false
theorem kh{t k e:Nat}(h:GG P t k e=true):P.underlying t=some (.map k e):=by
 unfold GG at h;cases hu:P.underlying t with
 |none=>simp[hu]at h
 |some d=>rw[hu]at h;cases d <;> simp at h;obtain⟨h1,h2⟩:=h;rw[h1,h2]
section
variable {w0:QL} {L:Lm} {M:Mem} {Γ:List As} {d:Option Nat} {ty:QH} {pos:String} {af:Array Edge} {g:Option (Nat×Bool)}
theorem Y.makeFunc{f:UY}{first cap:List QM}{vs us:List Qw}(h1:E0 L first=some vs)(h2:E0 L cap=some us) :
  Yq P w0 L M Γ ⟨d,.makeFunc (.func f) first.toArray cap.toArray,ty,pos,af,g⟩ (.func (.func f) vs.toArray us.toArray):=λn a w ha _=>by
 have e1:first.toArray.map a.eval=vs.toArray:=by rw[UA,ha.E0 h1]
 have e2:cap.toArray.map a.eval=us.toArray:=by rw[UA,ha.E0 h2]
 simp[Rc,Instr.makeFunc,e1,e2]
end
section
variable {n:Nat} {w0:QL} {ops:Array Oper} {rest:List Oper} {L:Lm} {M:Mem} {Γ:List As} {K:Lm->Mem->List As->Prop} {ty:QH} {pos:String} {af:Array Edge} {d:Nat}
theorem St.newMap{w:QL}(h:St w0 M Γ w):St w0 M (.mp w.heap.size []::Γ) {w with heap:=w.heap.push (.map #[] 0)}:=by
 have hold:∀b,b<w.heap.size->(w.heap.push (.map #[] 0))[b]?=w.heap[b]?:=λb hb=>by
  grind
 refine⟨h.os,h.tape,h.output,by simp;have:=h.size;omega,λb o hb=>?_,λx hx=>?_,?_⟩
 .rw[hold b (h.lt hb)];exact h.mem b o hb
 .rcases Qz.1 hx with rfl|hx
  .exact⟨h.fresh,#[],0,Q2,rfl,by simp[nN]⟩
  .exact As.fy (h.all x hx) (Sub.refl M) λb hb=>⟨hold b (As.bg (h.all x hx) hb).1,(As.bg (h.all x hx) hb).2⟩
 .simp only[Rh,As.gh];refine Rw.2 ⟨λhm=>?_,h.nodup⟩;obtain⟨x,hx,hb⟩:=Tf.1 hm;have:=(As.bg (h.all x hx) hb).1;omega
end
def Ms(P:QE)(t n e sz:Nat):Bool:=(match P.underlying t with
 |some (.array n' e')=>Qy n n' && Qy e e'
 |_=>false) && mf P e sz && Sq 1 n
theorem Bb{t n e sz:Nat}(h:Ms P t n e sz=true):P.underlying t=some (.array n e)/\mf P e sz=true/\1<n:=by
 unfold Ms at h;simp only[QA]at h;obtain⟨⟨h1,h2⟩,h3⟩:=h;refine⟨?_,h2,by simp_all⟩;cases hu:P.underlying t with
 |none=>simp[hu]at h1
 |some d=>rw[hu]at h1;cases d <;> simp at h1;obtain⟨h4,h5⟩:=h1;rw[h4,h5]
theorem Y.Ez{w0:QL}{L:Lm}{M:Mem}{Γ:List As}{d:Option Nat}{ty:QH}{pos:String}{af:Array Edge}{g:Option (Nat×Bool)}{x i:QM}{t e sz n:Nat}{a:Option Addr}{q:Nat}{ik:R6}{z:Int}(k:Nat)(hx:bm L x=some (.pointer (some (fT a q))))(hi:bm L i=some (.int ik z))(hz:z=(k:Int))(hk:k<n)
  (ht:Ms P t n e sz=true):Yq P w0 L M Γ ⟨d,.indexAddr t x i,ty,pos,af,g⟩ (.pointer (some (fT a (q+k*sz)))):=λm ac w ha hw=>by
 subst hz;obtain⟨h1,h2,h3⟩:=Bb ht;simp[Rc,ha.ev hx,ha.ev hi,Yn,YI,QN h1,gW h2,hk,eu,Sv]
theorem Y.eqlBB{w0:QL}{L:Lm}{M:Mem}{Γ:List As}{d:Option Nat}{ty:QH}{pos:String}{af:Array Edge}{g:Option (Nat×Bool)}{x y:QM}{p q:Bool}{t:QH}(ht:P.underlying t=some .bool)(hx:bm L x=some (.bool p))(hy:bm L y=some (.bool q)) :
  Yq P w0 L M Γ ⟨d,.binOp .eql t x y t,ty,pos,af,g⟩ (.bool (p == q)):=λn a w ha _=>by
 simp only[Rc,ha.ev hx,ha.ev hy];have h:∀b c:Bool,(Op.equalIn 10000 t (.bool b) (.bool c)).run P w=.ok (b == c) w:=λb c=>YU w 9999 t b c ht;cases p <;> cases q <;> simp[RZ,SQ,YE,Op.maxDepth,h]
theorem Y.neqD{w0:QL}{L:Lm}{M:Mem}{Γ:List As}{d:Option Nat}{ty:QH}{pos:String}{af:Array Edge}{g:Option (Nat×Bool)}{x y:QM}{p q:Prop}[Decidable p][Decidable q]{t:QH}(ht:P.underlying t=some .bool)(hx:bm L x=some (.bool (decide p)))(hy:bm L y=some (.bool (decide q))) :
  Yq P w0 L M Γ ⟨d,.binOp .neq t x y t,ty,pos,af,g⟩ (.bool (decide (¬(p↔q)))):=λn a w ha _=>by
 simp only[Rc,ha.ev hx,ha.ev hy];have h:∀b c:Bool,(Op.equalIn 10000 t (.bool b) (.bool c)).run P w=.ok (b == c) w:=λb c=>YU w 9999 t b c ht;by_cases h1:p <;> by_cases h2:q <;> simp[h1,h2,RZ,SQ,YE,Op.maxDepth,h]
end Xe
namespace Xe
open Go
def lM(n:Int):Prop:=-9223372036854775808<=n/\n<=9223372036854775807
abbrev Is(M:Mem)(Γ:List As)(v:Qw):HE:=λu M' Γ'=>u=v/\M'=M/\Γ'=Γ
abbrev lX(n:Int):Qw:=.int .i64 n
abbrev ai(n:Int):D:=.v (.int .i64 n)
section
variable {α:Type} {enc:α->List D} {sz:Nat}
theorem eJ(h:∀x,(enc x).length=sz):∀xs:List α,(xs.flatMap enc).length=xs.length*sz
 |[]=>by simp
 |x::xs=>by rw[QD,QC,h,eJ h xs,QG,Ue,S9]
theorem AF(h:∀x,(enc x).length=sz):∀(xs:List α) (k:Nat) (x:α),xs[k]?=some x->((xs.flatMap enc).drop (k*sz)).take sz=enc x
 |[],k,x,hk=>by simp at hk
 |y::ys,0,x,hk=>by
  grind
 |y::ys,k+1,x,hk=>by
  have hk':ys[k]?=some x:=by grind
  rw[QD,Ue,S9,<-SE,List.drop_append_of_le_length (UN (h y).symm),UI (UN (h y)),Rk];exact AF h ys k x hk'
end
def bU(l:List Int):D:=.sl l.length 1 (l.map ai)
structure ar where
 aD:Int
 seq:Int
 index:Int
 deriving DecidableEq,Repr,Inhabited
def ar.gF(x:ar):List Qw:=[lX x.aD,lX x.seq,lX x.index]
def ar.enc(x:ar):List D:=[ai x.aD,ai x.seq,ai x.index]
inductive Ty where
 |mk (kind:Int) (df:ar) (kids:List Ty)
 deriving Inhabited
def Ty.kind:Ty->Int|.mk k _ _=>k
def Ty.df:Ty->ar|.mk _ d _=>d
def Ty.kids:Ty->List Ty|.mk _ _ l=>l
mutual
def Ty.enc:Ty->List D
 |.mk k d l=>[ai k,ai d.aD,ai d.seq,ai d.index,.sl l.length 5 (Ty.yu l)]
def Ty.yu:List Ty->List D
 |[]=>[]
 |t::ts=>t.enc++Ty.yu ts
end
theorem Ty.sX:∀l:List Ty,Ty.yu l=l.flatMap Ty.enc
 |[]=>by simp[Ty.yu]
 |t::ts=>by rw[Ty.yu,Ty.sX ts,QD]
theorem Ty.aF(t:Ty):t.enc=[ai t.kind,ai t.df.aD,ai t.df.seq,ai t.df.index,.sl t.kids.length 5 (t.kids.flatMap Ty.enc)]:=by cases t;rw[Ty.enc,Ty.sX];rfl
theorem Ty.aP(t:Ty):t.enc.length=5:=by rw[Ty.aF];rfl
mutual
def Ty.size:Ty->Nat
 |.mk _ _ l=>1+Ty.aW l
def Ty.aW:List Ty->Nat
 |[]=>0
 |t::ts=>t.size+Ty.aW ts
end
theorem Ty.jy:∀{l:List Ty} {t:Ty},t∈l->t.size<=Ty.aW l
 |x::xs,t,h=>by
  rw[Ty.aW];rcases Qz.1 h with rfl|h
  .omega
  .have:=Ty.jy h;omega
theorem Ty.mc{t k:Ty}(h:k∈t.kids):k.size<t.size:=by
 cases t with
 |mk a b l=>have:=Ty.jy (l:=l) h;rw[Ty.size];omega
mutual
def Ty.beq:Ty->Ty->Bool
 |.mk a b l,.mk c d m=>decide (a=c) && decide (b=d) && Ty.Hy l m
def Ty.Hy:List Ty->List Ty->Bool
 |[],[]=>true
 |x::xs,y::ys=>x.beq y && Ty.Hy xs ys
 |[],_::_=>false
 |_::_,[]=>false
end
mutual
theorem Ty.JJ:∀a b:Ty,a.beq b=true↔a=b
 |.mk a b l,.mk c d m=>by simp only[Ty.beq,QA,decide_eq_true_eq,Ty.mk.injEq,Ty.Fo l m,and_assoc]
theorem Ty.Fo:∀a b:List Ty,Ty.Hy a b=true↔a=b
 |[],[]=>by simp[Ty.Hy]
 |x::xs,y::ys=>by simp only[Ty.Hy,QA,SA,Ty.JJ x y,Ty.Fo xs ys]
 |[],_::_=>by simp[Ty.Hy]
 |_::_,[]=>by simp[Ty.Hy]
end
instance:DecidableEq Ty:=λa b=>decidable_of_iff (a.beq b=true) (Ty.JJ a b)
inductive Ex where
 |mk (id:ar) (kind n:Int) (ref:ar) (ty:Ty) (kids:List Ex) (aK:List ByteArray)
 deriving Inhabited
def Ex.id:Ex->ar|.mk i _ _ _ _ _ _=>i
def Ex.kind:Ex->Int|.mk _ k _ _ _ _ _=>k
def Ex.n:Ex->Int|.mk _ _ n _ _ _ _=>n
def Ex.ref:Ex->ar|.mk _ _ _ r _ _ _=>r
def Ex.ty:Ex->Ty|.mk _ _ _ _ t _ _=>t
def Ex.kids:Ex->List Ex|.mk _ _ _ _ _ l _=>l
def Ex.aK:Ex->List ByteArray|.mk _ _ _ _ _ _ s=>s
def bM(s:ByteArray):D:=.v (.string s)
def Jy(l:List ByteArray):D:=.sl l.length 1 (l.map bM)
mutual
def Ex.enc:Ex->List D
 |.mk i k n r t l s=>[ai i.aD,ai i.seq,ai i.index,ai k,ai n,ai r.aD,ai r.seq,ai r.index,ai t.kind,ai t.df.aD,ai t.df.seq,ai t.df.index,.sl t.kids.length 5 (t.kids.flatMap Ty.enc),.sl l.length 15 (Ex.yu l),Jy s]
def Ex.yu:List Ex->List D
 |[]=>[]
 |t::ts=>t.enc++Ex.yu ts
end
theorem Ex.sX:∀l:List Ex,Ex.yu l=l.flatMap Ex.enc
 |[]=>by simp[Ex.yu]
 |t::ts=>by rw[Ex.yu,Ex.sX ts,QD]
theorem Ex.aF(e:Ex):e.enc=[ai e.id.aD,ai e.id.seq,ai e.id.index,ai e.kind,ai e.n,ai e.ref.aD,ai e.ref.seq,ai e.ref.index,ai e.ty.kind,ai e.ty.df.aD,ai e.ty.df.seq,ai e.ty.df.index,
  .sl e.ty.kids.length 5 (e.ty.kids.flatMap Ty.enc),.sl e.kids.length 15 (e.kids.flatMap Ex.enc),.sl e.aK.length 1 (e.aK.map bM)]:=by
 cases e;rw[Ex.enc,Ex.sX];rfl
theorem Ex.aP(e:Ex):e.enc.length=15:=by rw[Ex.aF];rfl
mutual
def Ex.size:Ex->Nat
 |.mk _ _ _ _ _ l _=>1+Ex.aW l
def Ex.aW:List Ex->Nat
 |[]=>0
 |t::ts=>t.size+Ex.aW ts
end
theorem Ex.cb(e:Ex):e.size=1+Ex.aW e.kids:=by cases e;rw[Ex.size];rfl
theorem Ex.jy:∀{l:List Ex} {t:Ex},t∈l->t.size<=Ex.aW l
 |x::xs,t,h=>by
  rw[Ex.aW];rcases Qz.1 h with rfl|h
  .omega
  .have:=Ex.jy h;omega
theorem Ex.mc{e k:Ex}(h:k∈e.kids):k.size<e.size:=by have:=Ex.jy h;rw[Ex.cb e];omega
theorem Ex.qy:∀(l:List Ex) (k:Nat),Ex.aW (l.take k)<=Ex.aW l
 |[],k=>by simp
 |x::xs,0=>by simp[Ex.aW]
 |x::xs,k+1=>by have:=Ex.qy xs k;simp only[List.take_succ_cons,Ex.aW];omega
theorem Ex.rE:∀(l m:List Ex),Ex.aW (l++m)=Ex.aW l+Ex.aW m
 |[],m=>by simp[Ex.aW]
 |x::xs,m=>by have:=Ex.rE xs m;simp only[Rm,Ex.aW];omega
theorem Ex.mV(l:List Ex)(k:Nat)(h:k<l.length):Ex.aW (l.take (k+1))=Ex.aW (l.take k)+l[k].size:=by rw[Qv h,Ex.rE];simp[Ex.aW]
def gi(n m:Int):Int:=(if n<0 then -(n+1) else n) % m
theorem Mt(n m:Int)(_hm:1<=m):gi n m=(if n<0 then -(n+1) else n).tmod m:=by
 unfold gi
 grind
theorem mJ(n m:Int)(hm:1<=m):0<=gi n m/\gi n m<m:=by unfold gi;exact⟨Int.emod_nonneg _ Q0,Int.emod_lt_of_pos _ Q0⟩
def er(l:List Int)(i B6:Int):Int:=if i<0\/(l.length:Int)<=i then 0 else gi (l.getD i.toNat 0) B6
theorem ar.aP(i:ar):i.enc.length=3:=rfl
theorem Rd.sf{M:Mem}{sz:Nat}:Rd M (.sl 0 sz []) (.slice none 0 0):=by simp only[Rd];exact⟨none,0,rfl,QW _,Rr _,Rr _,Q2,Q2,by simp[o5]⟩
def ki:ar:=⟨0,0,0⟩
def bS:Ty:=.mk 0 ki []
theorem eD(l:List Int)(i m:Int)(hm:1<=m):0<=er l i m/\er l i m<m:=by
 unfold er;split
 .omega
 .exact mJ _ _ hm
open Go Go.ChangeShapes Go.WideShapes Go.RowKit
abbrev ef(W:QL):Mem:=λb=>W.heap[b]?
theorem MY(W:QL):St W (ef W) [] W:=⟨rfl,rfl,rfl,QW _,λ_ _ h=>h,λ_ h=>by simp at h,Q2⟩
theorem P1{W w':QL}(h:St W (ef W) [] w'):Below W.heap.size W w' :=
 ⟨h.os,h.tape,h.output,h.size,λk hk=>by
  have e:ef W k=some W.heap[k]:=Um hk
  rw[h.mem k _ e];exact e.symm⟩
theorem vh(W:QL)(p:Addr):dW (ef W) p=W.cell? p:=by
 unfold dW RQ ef
 grind
section
variable {H:Type} {enc:QH×Qw->H} {P:QE} {W:QL}
theorem inI_of{n:Int}(h:(YV .i64 n).wf=true):lM n:=by simp only[Lit.wf,QA,decide_eq_true_eq]at h;unfold lM;have h1:Ym.min=-9223372036854775808:=Q1;simp_all
theorem Gj{f:Func}{s:Yu}{apart fresh handsOn again:Bool}{W':QL}{args:Array Qw}{v:Qw}{ds gs:List (Tt H)}{before pa pv:List Wg}
  (hW:YF enc P f.params.toList s.vars apart W args.toList ds gs before)
  (hres:∀(b:Nat) (sp:Nat->Bool) (hd:Bool),Un enc P W' b sp hd f.resultTypes.toList (v.resultList f.resultTypes.size) (s.fn H (ds++gs)).results [])
  (hargs:∀sp:Nat->Bool,(∀p∈before,sp p.block=true)->Un enc P W' 0 sp true f.params.toList args.toList (s.fn H (ds++gs)).args pa)
  (hvars:∀sp:Nat->Bool,(∀p∈before,sp p.block=true)->DataW.TrodVars enc P W' sp s.vars (s.fn H (ds++gs)).vars pv)
  (hps:before=pa++pv) (hb:Below W.heap.size W W')
  (hok:∀(j:Nat) (t:QH) (r:Qw),f.resultTypes[j]?=some t->(v.resultList f.resultTypes.size)[j]?=some r->UZ P W' .any 0 t r) :
  s.post enc P f apart fresh handsOn again W args v W':=by
 have hlt:∀p∈before,p.block<W.heap.size:=λp hp=>hW.lt p hp;have hold:∀p∈before,(λb=>decide (b<W.heap.size)) p.block=true:=λp hp=>by grind
 refine⟨ds,gs,before,[],pa,pv,hW,hres _ _ _,hargs _ hold,hvars _ hold,World.keptBut_mono (λp hp=>⟨hp,?_⟩) (hb.frame (·∈before)),λ_=>?_⟩
 .rw[hps,QK]at hp;exact Or.inr hp
 .obtain⟨_,_,_,_,_,hz,hn⟩:=hW;refine⟨hok,_,_,([]++pa)++pv,⟨[]++pa,pv,trodAll_append (hargs _ (λ_ _=>rfl)) (hres _ _ _),hvars _ (λ_ _=>rfl),rfl,?_,?_⟩,?_⟩
  .intro b off hp;have hin:MemPlace.cell b off∈before:=by grind
   rw[hb.frozen (hlt _ hin)];exact hz b off hin
  .intro ha;have:=hn ha;rw[hps]at this;simpa using this
  .intro p hp _;rw[hps];simpa using hp
end
section
variable {w0 w:QL} {M:Mem} {Γ:List As}
theorem St.wu{a:Option Addr}{n c e sz k:Nat}{us:List Qw}(hw:St w0 M (.acc (.slice a n c) e sz n us::Γ) w)(hk:k<=n):St w0 M (.acc (.slice a k c) e sz k (us.take (k*sz))::Γ) w:=by
 have hx:=hw.all _ (Qt ..);have hob:(YG a k c).ownBlock=(YG a n c).ownBlock:=by cases a <;> rfl
 refine⟨hw.os,hw.tape,hw.output,hw.size,hw.mem,λy hy0=>?_,by have:=hw.nodup;simp only[Rh,As.gh]at this ⊢;rw[hob];exact this⟩;rcases Qz.1 hy0 with rfl|hy
 .obtain⟨⟨hl,hh⟩,hM⟩:=hx;refine⟨⟨?_,?_⟩,λb hb=>hM b (by grind)⟩
  .simp_all
  .rcases hh with⟨e1,e2⟩|⟨b,cap,cur,e1,g,hb,hnc,hcm,hcs,htk⟩
   .grind
   .simp only[Ri]at e1;obtain⟨rfl,_,rfl⟩:=e1;refine .inr ⟨b,c,cur,rfl,g,hb,Q0,hcm,hcs,?_⟩;rw[<-htk,List.take_take,Nat.min_eq_left (Rz _ hk)]
 .exact hw.all y (Qx _ hy)
theorem cut0(a:Option Addr)(h m sz:Nat):lq a 0 h m sz=.slice a h m:=by
 unfold lq;rw[TP,T9,T9];cases a with
 |none=>split <;> rfl
 |some x=>split <;> simp[Uz]
theorem St.setAcc{a:Option Addr}{n c e sz q:Nat}{us:List Qw}{v:Qw}(hw:St w0 M (.acc (.slice a n c) e sz n us::Γ) w)(hq:q<us.length) :
  St w0 M (.acc (.slice a n c) e sz n (us.set q v)::Γ) (w.setCell (fT a q) v)/\(w.cell? (fT a q)).isSome=true/\w.frozen? (fT a q)=false:=by
 have hx:=hw.all _ (Qt ..);obtain⟨⟨hl,hh⟩,hM⟩:=hx;rcases hh with⟨e1,e2⟩|⟨b,cap,cur,e1,g,hb,hnc,hcm,hcs,htk⟩
 .simp only[Ri]at e1;obtain⟨rfl,rfl,rfl⟩:=e1;simp at hl;subst hl;simp at hq
 .simp only[Ri]at e1;obtain⟨rfl,_,rfl⟩:=e1;have hlt:b<w.heap.size:=(RH.1 hb).1;have hbe:w.heap[b]=.cells cur e (0,0):=(RH.1 hb).2;have hqc:q<cur.size:=by
   grind
  have hset:w.setCell (fT (some ⟨b,0,none⟩) q) v={w with heap:=w.heap.setIfInBounds b (.cells (cur.setIfInBounds q v) e (0,0))}:=by
   rw[cx];simp only[World.setCell]
   congr 1
   grind
  refine⟨?_,by rw[cx];simp[RQ,hb,hqc],by rw[cx];simp[World.frozen?,hb]⟩;rw[hset];have hne:∀k,k≠b->(w.heap.setIfInBounds b (.cells (cur.setIfInBounds q v) e (0,0)))[k]?=w.heap[k]?:=λk hk=>U7 Q0;have hnd:=hw.nodup;simp only[Rh,As.gh,RN]at hnd;refine⟨hw.os,hw.tape,hw.output,by simp;exact hw.size,λk o hk=>?_,λy hy0=>?_,by simpa[Rh,As.gh,RN]using hw.nodup⟩
  .rw[hne k (λe'=>by subst e';rw[hM _ rfl]at hk;cases hk)];exact hw.mem k o hk
  .rcases Qz.1 hy0 with rfl|hy
   .refine⟨⟨by grind,.inr ⟨b,c,cur.setIfInBounds q v,rfl,g,by simp[hlt],hnc,hcm,by grind,?_⟩⟩,hM⟩;rw[Array.toList_setIfInBounds,Yv,htk]
   .have hy':=hw.all y (Qx _ hy);refine As.fy hy' (Sub.refl M) λk hk=>⟨hne k λe'=>?_,(As.bg hy' hk).2⟩;subst e';exact(Rw.1 hnd).1 (vX hy hk)
end
section
variable {P:QE} {n:Nat} {w0:QL} {ops:Array Oper} {rest:List Oper} {L:Lm} {M:Mem} {Γ:List As} {K:Lm->Mem->List As->Prop} {ty:QH} {pos:String} {af:Array Edge} {d:Nat}
theorem RL.wu{a:Option Addr}{m c e sz k:Nat}{us:List Qw}(hk:k<=m)(h:RL P n w0 ops rest L M (.acc (.slice a k c) e sz k (us.take (k*sz))::Γ) K):RL P n w0 ops rest L M (.acc (.slice a m c) e sz m us::Γ) K :=
 h.pre (λ_ _ h=>h) λ_ hw=>hw.wu hk
end
theorem Y.Bu{P:QE}{w0:QL}{L:Lm}{M:Mem}{Γ:List As}{d:Option Nat}{ty:QH}{pos:String}{af:Array Edge}{g:Option (Nat×Bool)}{x:QM}{hi mx:Option QM}{t e sz:Nat}{a:Option Addr}{n c:Nat}(h m:Nat)
  (hx:bm L x=some (.slice a n c)) (hhi:jN L hi n h) (hmx:jN L mx c m) (hb:hi.isSome=true\/mx.isSome=false) (h2:h<=m) (h3:m<=c) (ht:sliceB P t e sz=true) :
  Yq P w0 L M Γ ⟨d,.slice t x none hi mx,ty,pos,af,g⟩ (.slice a h m):=by
 have:=Y.slice (P:=P) (w0:=w0) (M:=M) (Γ:=Γ) (d:=d) (ty:=ty) (pos:=pos) (af:=af) (g:=g) (lo:=none) 0 h m hx rfl hhi hmx hb (Rr _) h2 h3 ht;rwa [cut0]at this
def WT(P:QE):Nat->QH->List D->Prop
 |0,_,_=>False
 |n+1,t,ds=>match P.underlying t with
  |some .bool=>∃b,ds=[.v (.bool b)]
  |some (.int k)=>∃z,ds=[.v (.int k z)]/\(YV k z).wf=true
  |some .string=>∃s:ByteArray,ds=[.v (.string s)]/\s.size<=lim
  |some (.slice e)=>∃els:List (List D),ds=[.sl els.length (P.cellsOf e) els.flatten]/\els.length<=lim/\∀x∈els,WT P n e x
  |some (.struct fs)=>ds.length=P.cellsOf t/\∀f∈fs.toList,WT P n f.type ((ds.drop f.offset).take (P.cellsOf f.type))
  |some (.array m e)=>ds.length=P.cellsOf t/\∀i,i<m->WT P n e ((ds.drop (i*P.cellsOf e)).take (P.cellsOf e))
  |_=>False
mutual
def fK:D->Nat
 |.v _=>1
 |.sl _ _ cs=>1+eZ cs
def eZ:List D->Nat
 |[]=>0
 |d::ds=>fK d+eZ ds
end
theorem lR:∀(a b:List D),eZ (a++b)=eZ a+eZ b
 |[],b=>by simp[eZ]
 |x::xs,b=>by have:=lR xs b;simp only[Rm,eZ];omega
structure CO{H:Type}(jK:Tt H->Nat):Prop where
 lit:∀l,1<=jK (.lit l)
 nil:1<=jK .nil
 slice:∀els sp,(els.map jK).sum+1<=jK (.slice els sp)
 agg:∀ps,(ps.map jK).sum<=jK (.agg ps)
def pO(P:QE):Nat->List Xf->Nat->Bool
 |off,[],tot=>Qy off tot
 |off,f::fs,tot=>Qy f.offset off && pO P (off+P.cellsOf f.type) fs tot
theorem AU{P:QE}:∀{fs:List Xf} {off tot:Nat},pO P off fs tot=true->off<=tot/\∀f∈fs,off<=f.offset
 |[],off,tot,h=>⟨UN (Qp h),λf hf=>by simp at hf⟩
 |g::fs,off,tot,h=>by
  simp only[pO,QA]at h;obtain⟨h1,h2⟩:=AU h.2;have h0:=Qp h.1
  grind
def wq(P:QE)(ts:List QH):Bool:=ts.all λt=>match P.underlying t with
 |some .bool=>true
 |some (.int _)=>true
 |some .string=>true
 |some (.slice e)=>ts.contains e && Sq 0 (P.bytesOf e)
 |some (.struct fs)=>pO P 0 fs.toList (P.cellsOf t) && fs.toList.all λf=>ts.contains f.type
 |some (.array m e)=>Qy (P.cellsOf t) (m*P.cellsOf e) && ts.contains e
 |_=>false
theorem bz.cut{M:Mem}{ds:List D}{us:List Qw}(h:bz M ds us)(q n:Nat):bz M ((ds.drop q).take n) ((us.drop q).take n):=by
 refine⟨by simp[h.1],λk d u h1 h2=>?_⟩;have hk:k<n:=by
  grind
 rw[TI hk,Sp]at h1 h2;exact h.2 _ _ _ h1 h2
theorem kq{H:Type}{P:QE}{e:QH}{d:Tt H}:∀{l:List (Tt H)},d∈l->∀n∈d.weights P e,n∈XT P e l
 |x::xs,hd,n,hn=>by
  rw[XT,QK];rcases Qz.1 hd with rfl|hd
  .exact .inl hn
  .exact .inr (kq hd n hn)
theorem glueF{M:Mem}{P:QE}(F:Xf->List D->Prop):∀(fs:List Xf) (bs:List Nat) (off:Nat) (cs:List Qw),pO P off fs (off+cs.length)=true->bs.length=fs.length ->
  (∀(i:Nat) (f:Xf) (b:Nat),fs[i]?=some f->bs[i]?=some b->∃ds,bz M ds ((cs.drop (f.offset-off)).take (P.cellsOf f.type))/\F f ds/\eZ ds<=b)->∃ds,bz M ds cs/\(∀f∈fs,F f ((ds.drop (f.offset-off)).take (P.cellsOf f.type)))/\eZ ds<=bs.sum:=by
 intro fs;induction fs with
 |nil=>intro bs off cs h _ _;have:=Qp h;have:cs=[]:=Rg Q0;subst this;exact⟨[],bz.nil M,λf hf=>by simp at hf,by simp[eZ]⟩
 |cons g fs ih =>
  intro bs off cs h hbl hf;simp only[pO,QA]at h;have h0:=Qp h.1;have h1:=AU h.2;obtain⟨b0,bs,rfl⟩:∃b0 bs',bs=b0::bs':=by
   cases bs with
   |nil=>simp at hbl
   |cons b0 bs'=>exact⟨b0,bs',rfl⟩
  obtain⟨d0,r0,f0,q0⟩:=hf 0 g b0 rfl rfl;rw[h0,UO,RR]at r0;have hd0:d0.length=P.cellsOf g.type:=by rw[<-r0.1,Rf];omega
  obtain⟨ds,r1,f1,q1⟩:=ih bs (off+P.cellsOf g.type) (cs.drop (P.cellsOf g.type)) (by grind) (by grind) λi f b hfi hbi=>by
   obtain⟨ds,r,ff,q⟩:=hf (i+1) f b (by grind) (by grind);have:=h1.2 f (TF hfi);refine⟨ds,?_,ff,q⟩;rw[SE]
   grind
  refine⟨d0++ds,?_,λf hfm=>?_,by rw[lR,SN];omega⟩
  .have:=r0.append r1;rwa [SF]at this
  .rcases Qz.1 hfm with rfl|hfm
   .rw[h0,UO,RR,<-hd0,UT];exact f0
   .have:=h1.2 f hfm;have e:=f1 f hfm;rw[List.drop_append,UI Q0,Rk,hd0,show f.offset-off-P.cellsOf g.type=f.offset-(off+P.cellsOf g.type) from by omega];exact e
theorem yh:∀(l:List (List D)) (sz i:Nat) (hi:i<l.length),(∀x∈l,x.length=sz)->((l.flatten.drop (i*sz)).take sz)=l[i]
 |x::xs,sz,0,_,h=>by
  grind
 |x::xs,sz,i+1,hi,h=>by
  have h0:=h x (Qt ..);have e:(x++xs.flatten).drop sz=xs.flatten:=by grind
  rw[TW,Ue,S9,<-SE,e,List.getElem_cons_succ];exact yh xs sz i (by grind) λy hy=>h y (Qx _ hy)
section
variable {H:Type} {enc:QH×Qw->H} {P:QE} {W:QL}
theorem glue{M:Mem}(sz:Nat)(F:List D->Prop):∀(bs:List Nat) (cs:List Qw),cs.length=bs.length*sz->(∀(i:Nat) (b:Nat),bs[i]?=some b->∃ds,bz M ds ((cs.drop (i*sz)).take sz)/\F ds/\eZ ds<=b) ->
  ∃els:List (List D),els.length=bs.length/\bz M els.flatten cs/\(∀x∈els,F x)/\(∀x∈els,x.length=sz)/\eZ els.flatten<=bs.sum:=by
 intro bs;induction bs with
 |nil=>intro cs hl _;have:cs=[]:=Rg (by grind);subst this;exact⟨[],rfl,bz.nil M,λx hx=>by simp at hx,λx hx=>by simp at hx,by simp[eZ]⟩
 |cons b0 bs ih =>
  intro cs hl h;have hls:sz<=cs.length:=by rw[hl,QG,Ue];omega
  obtain⟨d0,r0,f0,q0⟩:=h 0 b0 rfl;simp only[TP,RR]at r0;obtain⟨els,h1,h2,h3,h4,h5⟩:=ih (cs.drop sz) (by rw[RO,hl,QG,Ue];omega) λi b hi=>by
   obtain⟨ds,r,f,q⟩:=h (i+1) b (by grind);refine⟨ds,?_,f,q⟩;rw[SE]
   grind
  refine⟨d0::els,by simp[h1],?_,λx hx=>?_,λx hx=>?_,by rw[TW,lR,SN];omega⟩
  .have:=r0.append h2;rwa [SF]at this
  .rcases Qz.1 hx with rfl|hx
   .exact f0
   .exact h3 x hx
  .rcases Qz.1 hx with rfl|hx
   .rw[<-r0.1,Rf];omega
   .exact h4 x hx
theorem vc{sz:Nat}:∀{els:List (List D)},(∀x∈els,x.length=sz)->els.flatten.length=els.length*sz
 |[],_=>by simp
 |x::xs,h=>by rw[TW,QC,h x (Qt ..),vc λy hy=>h y (Qx _ hy),QG,Ue,S9]
theorem DZ{ts:List QH}{jK:Tt H->Nat}(hbk:CO jK)(hcl:wq P ts=true):∀(n:Nat) (t:QH) (cs:List Qw) (x:Tt H×List Wg),t∈ts ->
  TX enc P W 0 (λ_=>true) true n t cs=some x->(∀k∈x.1.weights P t,k<=Yw)->∃ds,bz (ef W) ds cs/\WT P n t ds/\eZ ds<=jK x.1:=by
 intro n;induction n with
 |zero=>intro t cs x _ h;simp[TX]at h
 |succ n ih =>
  intro t cs x ht h hw;have hc:=T0.1 hcl t ht;cases hu:P.underlying t with
  |none=>simp[hu]at hc
  |some u =>
   rw[hu]at hc;cases u with
   |bool=>obtain⟨b,rfl,rfl⟩:=DataW.trod_bool hu h;exact⟨[.v (.bool b)],bz.cons (by simp[Rd,Tz]) (bz.nil _),by simp[WT,hu],hbk.lit _⟩
   |int k=>obtain⟨z,rfl,rfl,hz⟩:=Ye hu h;exact⟨[.v (.int k z)],bz.cons (by simp[Rd,Tz]) (bz.nil _),by simp[WT,hu,hz],hbk.lit _⟩
   |string =>
    obtain⟨s,rfl,rfl,hs⟩:=XJ hu h;refine⟨[.v (.string s)],bz.cons (by simp[Rd,Tz]) (bz.nil _),?_,hbk.lit _⟩;have:=hw s.data.toList.length (by rw[Uo];exact QI.2 rfl);have h5:=reachBytes_lt;have hsz:s.data.toList.length=s.size:=by simp_all
    simp only[WT,hu];exact⟨s,rfl,by unfold lim;omega⟩
   |slice e =>
    simp only[QA,Xg]at hc;obtain⟨he,hb⟩:=hc;have hb:0<P.bytesOf e:=by simp_all
    rcases DataW.trod_slice hu h with⟨rfl,rfl⟩|⟨a,len,cap,sY,rest,n',hn,rfl,rfl,_,hl,hm,hlen,hel,_,_⟩
    .refine⟨[.sl 0 (P.cellsOf e) []],bz.cons Rd.sf (bz.nil _),?_,hbk.nil⟩;simp only[WT,hu];exact⟨[],rfl,Rr _,λx hx=>by simp at hx⟩
    .obtain rfl:n'=n:=Q0;have hwl:len<=lim:=by have:=hw ((sY.map (·.1)).length+(rest.map (·.1)).length |> (·*P.bytesOf e)) (by simp[Uo,hu]);have h5:=reachBytes_lt;have h6:len<=((sY.map (·.1)).length+(rest.map (·.1)).length)*P.bytesOf e:=SS (by simp[hlen]) (Nat.le_mul_of_pos_right _ hb);simp only at this;unfold lim;omega
     have each:∀i,(hi:i<len)->∃cs' ds,W.cells? 0 (a.add (i*P.cellsOf e)) (P.cellsOf e)=some cs'/\bz (ef W) ds cs'/\WT P n' e ds/\eZ ds<=jK (sY[i]'Q0).1:=λi hi=>by
      have h1:=hel i hi;have h2:i<sY.length:=Q0;rw[QQ h2,Option.bind_eq_some_iff]at h1;obtain⟨cs',h3,h4⟩:=h1
      obtain⟨ds,h5,h6,h7⟩:=ih e cs' _ he h4 λk hk=>hw k (by
       simp only[Uo,hu,Qz,QK]
       exact .inr (.inl (kq (QP.2 ⟨_,QB h2,rfl⟩) k hk)))
      grind
     have hcell:∀q,q<len*P.cellsOf e->∃u,W.cell? (a.add q)=some u:=λq hq=>by
      have hp:0<P.cellsOf e:=by
       grind
      have hi:q / P.cellsOf e<len:=Nat.div_lt_of_lt_mul (by grind);obtain⟨cs',ds,h1,_,_,_⟩:=each _ hi;obtain⟨_,h2,h3⟩:=XK h1;have hr:q % P.cellsOf e<P.cellsOf e:=Nat.mod_lt _ hp;have h4:=h3 _ hr
      rw[show(a.add (q / P.cellsOf e*P.cellsOf e)).add (q % P.cellsOf e)=a.add q from by
       have e1:q / P.cellsOf e*P.cellsOf e+q % P.cellsOf e=q:=by rw[Nat.mul_comm];exact Nat.div_add_mod q _
       have:=eu (some a) (q / P.cellsOf e*P.cellsOf e) (q % P.cellsOf e);rw[e1]at this
       exact this,QQ Q0]at h4
      exact⟨_,h4⟩
     -- qt cells as one qT
     obtain⟨row,hrl,hrow⟩:∃row:List Qw,row.length=len*P.cellsOf e/\∀q,q<len*P.cellsOf e->W.cell? (a.add q)=row[q]?:=by
      refine⟨(UQ (len*P.cellsOf e)).map λq=>(W.cell? (a.add q)).getD default,Q2,λq hq=>?_⟩
      grind
     obtain⟨els,k1,k2,k3,k4,k5⟩:=glue (M:=ef W) (P.cellsOf e) (WT P n' e) ((sY.map (·.1)).map jK) row (by grind) λi b hbi=>by
      obtain⟨hi0,hb0⟩:=Se.1 hbi;have hi:i<len:=by grind
      obtain⟨cs',ds,h1,h2,h3,h7⟩:=each i hi;have hb1:jK (sY[i]'Q0).1=b:=by grind
      rw[hb1]at h7;obtain⟨_,h4,h5⟩:=XK h1;refine⟨ds,?_,h3,h7⟩;have:(row.drop (i*P.cellsOf e)).take (P.cellsOf e)=cs':=by
       apply U5;intro j;by_cases hj:j<P.cellsOf e
       .rw[TI hj,Sp,<-h5 j hj];have hlt:i*P.cellsOf e+j<len*P.cellsOf e:=by
         have:(i+1)*P.cellsOf e<=len*P.cellsOf e:=Rz _ hi
         grind
        rw[<-hrow _ hlt];have:=eu (some a) (i*P.cellsOf e) j;show W.cell? (fT (some a) _)=_;rw[<-this];rfl
       all_goals grind
      rw[this];exact h2
     rw[QS,QS,hlen]at k1;refine⟨[.sl els.length (P.cellsOf e) els.flatten],bz.cons ?_ (bz.nil _),?_,?_⟩
     .simp only[Rd];refine⟨some a,cap,by rw[k1],Q0,hm,Q0,vc k4,λ_=>rfl,o5.mk _ 0 λk d hk=>?_⟩;have hlt:k<row.length:=by
       rw[k2.1]
       grind
      refine⟨row[k],?_,k2.2 k d _ hk (QQ hlt)⟩;rw[vh,Rn];exact(hrow k Q0).trans (QQ hlt)
     .simp only[WT,hu];exact⟨els,rfl,Q0,k3⟩
     .have:=hbk.slice (sY.map (·.1)) (rest.map (·.1));simp only[eZ,fK]at k5 ⊢;omega
   |struct fs =>
    obtain⟨xs,n',hn,rfl,hl,hxl,hf⟩:=DataW.trod_struct hu h;obtain rfl:n'=n:=Q0;rw[QA]at hc;have hca:∀f∈fs.toList,f.type∈ts:=λf hf=>by
     grind
    have hwe:∀(l:List Xf) (ys:List (Tt H)) (i:Nat) (f:Xf) (d:Tt H),l[i]?=some f->ys[i]?=some d->∀k∈d.weights P f.type,k∈TQ P (l.map (·.type)) ys:=by
     intro l;induction l with
     |nil=>intro ys i f d h1;simp at h1
     |cons g l ihl =>
      intro ys i f d h1 h2 k hk;cases ys with
      |nil=>simp at h2
      |cons y ys =>
       rw[QT,TQ,QK];cases i with
       |zero=>simp only[Ru,Qq]at h1 h2;subst h1 h2;exact .inl hk
       |succ i=>exact .inr (ihl ys i f d (by grind) (by grind) k hk)
    have each:∀(i:Nat) (f:Xf) (b:Nat),fs.toList[i]?=some f->((xs.map (·.1)).map jK)[i]?=some b->∃ds,bz (ef W) ds ((cs.drop f.offset).take (P.cellsOf f.type))/\WT P n' f.type ds/\eZ ds<=b:=λi f b hi hbi=>by
     have hfm:=TF hi;have h1:=hf i f (by grind);have hix:i<xs.length:=by
      grind
     rw[QQ hix]at h1;have hb1:jK (xs[i]).1=b:=by
      grind
     rw[<-hb1]
     exact ih f.type _ _ (hca f hfm) h1 λk hk=>hw k (by
      simp only[Uo,hu]
      exact hwe _ _ i f _ hi (by simp[hix]) k hk)
    obtain⟨ds,k1,k2,k3⟩:=glueF (M:=ef W) (P:=P) (λf ds=>WT P n' f.type ds) fs.toList ((xs.map (·.1)).map jK) 0 cs (by grind) (by simp[hxl]) λi f b hi hbi=>by grind
    refine⟨ds,k1,?_,SS k3 (hbk.agg _)⟩;simp only[WT,hu];exact⟨by rw[<-k1.1];exact hl,λf hf=>by grind⟩
   |array m e =>
    simp only[QA,Xg]at hc;obtain⟨hc0,hc⟩:=hc;have hc0:=Qp hc0;obtain⟨xs,n',hn,rfl,hl,hxl,hf⟩:=XU hu h;obtain rfl:n'=n:=Q0;have each:∀(i b:Nat),((xs.map (·.1)).map jK)[i]?=some b->∃ds,bz (ef W) ds ((cs.drop (i*P.cellsOf e)).take (P.cellsOf e))/\WT P n' e ds/\eZ ds<=b:=λi b hbi=>by
     obtain⟨hi0,hb0⟩:=Se.1 hbi;have hix:i<xs.length:=by grind
     have h1:=hf i Q0;have hb1:jK (xs[i]).1=b:=by grind
     rw[<-hb1];rw[QQ hix]at h1
     exact ih e _ _ hc h1 λk hk=>hw k (by
      simp only[Uo,hu]
      exact kq (QP.2 ⟨_,QB hix,rfl⟩) k hk)
    obtain⟨els,k1,k2,k3,k4,k5⟩:=glue (M:=ef W) (P.cellsOf e) (WT P n' e) ((xs.map (·.1)).map jK) cs (by grind) each;rw[QS,QS,hxl]at k1;refine⟨els.flatten,k2,?_,SS k5 (hbk.agg _)⟩;simp only[WT,hu];refine⟨by rw[<-k2.1];exact hl,λi hi=>?_⟩;have hi':i<els.length:=Q0;have e2:∀(l:List (List D)) (sz i:Nat) (hi:i<l.length),(∀x∈l,x.length=sz)->((l.flatten.drop (i*sz)).take sz)=l[i]:=λl sz i hi hall=>by have:=yh l sz i hi hall;exact this
    rw[e2 els _ i hi' k4];exact k3 _ (QB hi')
   |_=>simp at hc
end
def uF(P:QE)(t:QH)(us:List Qw)(v:Qw):Prop:=match P.underlying t with
 |some (.struct _)=>v=.agg us.toArray
 |some (.array ..)=>v=.agg us.toArray
 |_=>us=[v]
inductive yX(P:QE)(M:Mem)(b:Nat):List QH->List Qw->Prop
 |nil:yX P M b [] []
 |cons {t:QH} {ts:List QH} {v:Qw} {vs:List Qw} (n:Nat) (ds:List D) (us:List Qw):bz M ds us->WT P n t ds->uF P t us v->eZ ds<=b->yX P M b ts vs->yX P M b (t::ts) (v::vs)
inductive lb(P:QE)(M:Mem):List QH->List Qw->Prop
 |nil:lb P M [] []
 |cons {t:QH} {ts:List QH} {v:Qw} {vs:List Qw} (n:Nat) (ds:List D) (us:List Qw):bz M ds us->WT P n t ds->uF P t us v->lb P M ts vs->lb P M (t::ts) (v::vs)
theorem lb.inv{P:QE}{M:Mem}{t:QH}{ts:List QH}{vs:List Qw}(h:lb P M (t::ts) vs) :
  ∃n ds us v vs',vs=v::vs'/\bz M ds us/\WT P n t ds/\uF P t us v/\lb P M ts vs':=by
 cases h with
 |cons n ds us h1 h2 h3 h4=>exact⟨n,ds,us,_,_,rfl,h1,h2,h3,h4⟩
theorem yX.toW{P:QE}{M:Mem}{b:Nat}{ts:List QH}{vs:List Qw}(h:yX P M b ts vs):lb P M ts vs:=by
 induction h with
 |nil=>exact .nil
 |cons n ds us h1 h2 h3 _ _ ih=>exact .cons n ds us h1 h2 h3 ih
theorem lb.nil_inv{P:QE}{M:Mem}{vs:List Qw}(h:lb P M [] vs):vs=[]:=by cases h;rfl
section
variable {H:Type} {enc:QH×Qw->H} {P:QE} {W:QL}
theorem Fw{ts0:List QH}{jK:Tt H->Nat}(hbk:CO jK)(bd:Nat)(hcl:wq P ts0=true)(hl:laidOutB P=true) :
  ∀(ts:List QH) (vs:List Qw) (ds:List (Tt H)) (p:List Wg),Un enc P W 0 (λ_=>true) true ts vs ds p->(∀t∈ts,t∈ts0/\P.readableRec t=true/\t<P.types.size) ->
  (∀(j:Nat) t v,ts[j]?=some t->vs[j]?=some v->∃b,UZ P W .any b t v)->(∀k∈TQ P ts ds,k<=Yw)->(∀d∈ds,jK d<=bd) ->
  yX P (ef W) bd ts vs/\∀(W':QL) (sp:Nat->Bool),Below W.heap.size W W'->(∀q∈p,q.block<W.heap.size)->(∀q∈p,sp q.block=true)->Un enc P W' 0 sp true ts vs ds p
 |[],vs,ds,p,h,_,_,_,_=>by obtain⟨rfl,rfl,rfl⟩:=trodAll_nil h;exact⟨.nil,λ_ _ _ _ _=>rfl⟩
 |t::ts,vs,ds,p,h,hts,hval,hsz,hbd=>by
  obtain⟨v,vs1,d,ds1,pa,pb,rfl,rfl,rfl,h1,h2⟩:=trodAll_cons h;rw[TQ]at hsz;obtain⟨h3,h4⟩:=Fw hbk bd hcl hl ts vs1 ds1 pb h2 (λx hx=>hts x (Qx _ hx)) (λj x y hx hy=>hval (j+1) x y (by grind) (by grind)) (λk hk=>hsz k (List.mem_append_right _ hk)) (λx hx=>hbd x (Qx _ hx));obtain⟨b,hv⟩:=hval 0 t v rfl rfl;obtain⟨ht0,hr,hrow⟩:=hts t (Qt ..);obtain⟨n,hn⟩:=h1;obtain⟨es,k1,k2,k3⟩:=DZ hbk hcl n t _ _ ht0 hn λk hk=>hsz k (List.mem_append_left _ hk)
  refine⟨.cons n es v.cells.toList k1 k2 ?_ (SS k3 (hbd _ (Qt ..))) h3,λW' sp hB hlt hq=>⟨pa,pb,WideElems.Trod_stays hl hr hrow ⟨n,hn⟩ (λx hx=>hB.same (hlt x (List.mem_append_left _ hx))) (λx hx=>hq x (List.mem_append_left _ hx)),
   h4 W' sp hB (λx hx=>hlt x (List.mem_append_right _ hx)) (λx hx=>hq x (List.mem_append_right _ hx)),rfl⟩⟩
  have hc:=T0.1 hcl t ht0;unfold uF;cases hu:P.underlying t with
  |none=>simp[hu]at hc
  |some u =>
   rw[hu]at hc;cases u with
   |bool=>obtain⟨b,rfl⟩:=okWide_bool hu hv;rfl
   |int k=>obtain⟨z,rfl⟩:=okWide_int hu hv;rfl
   |string=>obtain⟨s,rfl⟩:=okWide_string hu hv;rfl
   |slice e=>obtain⟨a,n,c,rfl⟩:=okWide_slice hu hv;rfl
   |struct fs=>obtain⟨cs,rfl,_⟩:=okWide_struct hu hv;simp[VB]
   |array m e=>simp only[UZ,hu]at hv;obtain⟨cs,rfl,_⟩:=hv;simp[VB]
   |_=>simp at hc
end
theorem OI{H:Type}{enc:QH×Qw->H}{C:Checked}{f:UY}{fn:Func}{s:Yu}{tb:QH}{fresh handsOn again:Bool}{jK:Tt H->Nat}(hbk:CO jK)(bd:Nat)(ts0:List QH)
  (hcl:wq C.prog ts0=true) (hl:laidOutB C.prog=true) (htb:C.prog.underlying tb=some .bool)
  (hts:(fn.params.toList.all λt=>ts0.contains t && C.prog.readableRec t && Sq t C.prog.types.size)=true) (hres:fn.resultTypes=#[tb]) (hvars:s.vars=[]) (hspec:∀ds:List (Tt H),ds.length=fn.params.toList.length->s.fn H ds={results:=[.lit (.bool true)],args:=ds,vars:=[]})
  {W:QL} {aQ:Nat} {args:Array Qw} {ds gs:List (Tt H)} {before:List Wg} (hval:∀(j:Nat) t v,fn.params[j]?=some t->args[j]?=some v->UZ C.prog W .any aQ t v)
  (hW:YF enc C.prog fn.params.toList s.vars false W args.toList ds gs before) (hsz:(TQ C.prog (fn.params.toList++s.plain.varTypes C.prog) (ds++gs)).all (·<=Yw)=true) (hbd:∀d∈ds,jK d<=bd)
  (contract:∀vs:List Qw,yX C.prog (ef W) bd fn.params.toList vs->jk C.prog W (ef W) [] f vs.toArray (Is (ef W) [] (.bool true))) :
  Calls C.prog f args W λe W'=>∃v,e=.returned v/\s.post enc C.prog fn false fresh handsOn again W args v W':=by
 have hW':=hW;obtain⟨p,q,hA,hV,hb,hfz,hnd⟩:=hW;rw[hvars]at hV;obtain⟨rfl,rfl⟩:=trodVars_none hV;have hvt:s.plain.varTypes C.prog=[]:=by have:s.plain.vars=[]:=hvars;unfold DataSpec.varTypes;rw[this];rfl
 rw[hvt,QF,QF]at hsz;have hts':∀t∈fn.params.toList,t∈ts0/\C.prog.readableRec t=true/\t<C.prog.types.size:=λt ht=>by have:=T0.1 hts t ht;simp_all
 obtain⟨h1,h2⟩:=Fw (enc:=enc) hbk bd hcl hl fn.params.toList args.toList ds p hA hts' (λj t v ht hv=>⟨aQ,hval j t v (by grind) (by grind)⟩) (λk hk=>by
  have:=T0.1 hsz k hk
  simpa using this) hbd
 have hlen:ds.length=fn.params.toList.length:=by
  have:∀(ts:List QH) (vs:List Qw) (ds:List (Tt H)) (p:List Wg),Un enc C.prog W 0 (λ_=>true) true ts vs ds p->ds.length=ts.length:=by
   intro ts;induction ts with
   |nil=>intro vs ds p h;obtain⟨_,rfl,_⟩:=trodAll_nil h;rfl
   |cons t ts ih=>intro vs ds p h;obtain⟨v,vs1,d,ds1,a,b,rfl,rfl,rfl,_,h2⟩:=trodAll_cons h;simp[ih _ _ _ h2]
  exact this _ _ _ _ hA
 refine(contract args.toList h1 W (MY W)).mono ?_;rintro e' W' ⟨v,M',Γ',rfl,⟨rfl,rfl,rfl⟩,hw'⟩;refine⟨_,rfl,?_⟩;have hB:=P1 hw';have hfn':=hspec ds hlen;have hlt:∀x∈p,x.block<W.heap.size:=λx hx=>hW'.lt x (by grind);refine Gj (pa:=p) (pv:=[]) hW' (λb sp hd=>?_) (λsp hsp=>?_) (λsp _=>?_) (by rw[hb]) hB (λj t r hj hr=>?_)
 .rw[QF,hfn',hres];exact trodAll_mk1 (shut_bool htb true)
 .rw[QF,hfn'];exact h2 W' sp hB hlt λq hq=>hsp q (by grind)
 .rw[QF,hfn',hvars];rfl
 .rw[hres]at hj hr;have hj0:j=0:=by
   grind
  subst hj0;simp[Value.resultList]at hj hr;subst hj hr;exact okWide_bool_mk htb true
theorem qz{H:Type}:∀l:List (Tt H),(l.map Ul).sum+1<=Ul l
 |[]=>by simp
 |x::xs=>by have:=qz xs;simp only[QT,SN,List.cons.sizeOf_spec];omega
theorem Fl{H:Type}:CO (H:=H) Ul:=⟨λl=>by simp,Q2,λels sp=>by have:=qz els;simp only[DataW.slice.sizeOf_spec];omega,λps=>by have:=qz ps;simp only[DataW.agg.sizeOf_spec];omega⟩
theorem GO{α:Type}(g:α->Nat):∀{l:List α} {x:α},x∈l->g x<=(l.map g).sum
 |y::ys,x,h=>by
  rw[QT,SN];rcases Qz.1 h with rfl|h
  .omega
  .have:=GO g h;omega
def yW(w0:QL)(M:Mem)(Γ:List As)(p:Addr)(vs:List Qw):Prop:=∀w,St w0 M Γ w->∀j v,vs[j]?=some v->w.cell? (p.add j)=some v
theorem yW.mono{w0:QL}{M:Mem}{Γ Γ':List As}{p:Addr}{vs:List Qw}(h:yW w0 M Γ p vs)(hs:∀w,St w0 M Γ' w->St w0 M Γ w):yW w0 M Γ' p vs:=λw hw=>h w (hs w hw)
section
variable {P:QE} {w0:QL} {L:Lm} {M:Mem} {Γ:List As} {d:Option Nat} {ty:QH} {pos:String} {af:Array Edge} {g:Option (Nat×Bool)}
namespace Y
end Y
end
theorem MM{α:Type}{x:α}{l:List α}(h:x∈l:=by first|((repeat (first|exact List.Mem.head _|apply List.Mem.tail|apply List.mem_append_right));done)|fail):x∈l:=h
theorem PK{x:As}{l l':List As}(h:vA x l l':=by first|((repeat (first|exact vA.here _|apply vA.there));done)|fail):vA x l l':=h
theorem SB{l l':List As}(h:U6 l l':=by first|((repeat (first|exact List.Sublist.refl _|apply List.Sublist.cons_cons|apply List.Sublist.cons));done)|fail):U6 l l':=h
theorem OM{p:Prop}(h:p:=by omega):p:=h
def F3(L:Lm):List Nat->Option Lm
 |[]=>some []
 |k::ks=>match kQ L k with
  |some v=>match F3 L ks with
   |some r=>some ((k,v)::r)
   |none=>none
  |none=>none
theorem lr.sel{L:Lm}:∀{ks:List Nat} {L':Lm},F3 L ks=some L'->lr L L'
 |[],L',h=>by simp only[F3,Qq]at h;subst h;exact lr.nil L
 |k::ks,L',h=>by
  simp only[F3]at h;cases hv:kQ L k with
  |none=>rw[hv]at h;cases h
  |some v =>
   rw[hv]at h;cases hr:F3 L ks with
   |none=>rw[hr]at h;cases h
   |some r=>rw[hr]at h;obtain rfl:=Sw h;exact lr.cons k hv (lr.sel hr)
theorem CW.kp{P:QE}{n:Nat}{w0:QL}{c:Code}{X:JR}{L L':Lm}{M:Mem}{Γ:List As}(ks:List Nat)(hs:F3 L ks=some L')(h:CW P n w0 c X L' M Γ):CW P n w0 c X L M Γ:=CW.ON (lr.sel hs) h
theorem KP{L L':Lm}(ks:List Nat)(hs:F3 L ks=some L':=by rfl):lr L L':=lr.sel hs
end Xe
namespace Xe
open Go
section
variable {P:QE} {w0:QL} {L:Lm} {M:Mem} {Γ:List As} {d:Option Nat} {ty:QH} {pos:String} {af:Array Edge} {g:Option (Nat×Bool)}
namespace Y
theorem eqlK{ik:R6}{x y:QM}{m k:Int}{t:QH}(hx:bm L x=some (.int ik m))(hy:bm L y=some (.int ik k)) :
  Yq P w0 L M Γ ⟨d,.binOp .eql t x y t,ty,pos,af,g⟩ (.bool (decide (m=k))):=λn a w ha _=>by
 simp[Rc,ha.ev hx,ha.ev hy,RZ,SQ,Tu];by_cases h:m=k <;> simp[h]
theorem neqK{ik:R6}{x y:QM}{m k:Int}{t:QH}(hx:bm L x=some (.int ik m))(hy:bm L y=some (.int ik k)) :
  Yq P w0 L M Γ ⟨d,.binOp .neq t x y t,ty,pos,af,g⟩ (.bool (decide (m≠k))):=λn a w ha _=>by
 simp[Rc,ha.ev hx,ha.ev hy,RZ,SQ,Tu];by_cases h:m=k <;> simp[h]
def intB(P:QE)(t:QH)(k:R6):Bool:=match P.underlying t with
 |some (.int k')=>decide (k'=k)
 |_=>false
theorem LK{t:QH}{k:R6}(h:intB P t k=true):P.underlying t=some (.int k):=by
 unfold intB at h
 grind
end Y
end
section
variable {P:QE} {w0:QL} {L:Lm} {M:Mem} {Γ:List As} {d:Option Nat} {ty:QH} {pos:String} {af:Array Edge} {g:Option (Nat×Bool)}
namespace Y
end Y
end
theorem CI{P:QE}{w0 w:QL}{M:Mem}{Γ:List As}{t tn ty e sz bytes n:Nat}{kn:R6}(hE:gj P t e sz bytes)(htn:P.underlying tn=some (.int kn))(hw:St w0 M Γ w)(h0:0<n)(hb:n*bytes<=140737488355328)(hm:n<=lim) :
  ∃b c us w',(RV #[t,tn] ty #[.slice none 0 0,.int .i64 n]).run P w=.ok (.slice (some ⟨b,0,none⟩) n c) w'/\us.length=n*sz/\n<=c/\St w0 M (.acc (.slice (some ⟨b,0,none⟩) n c) e sz n us::Γ) w':=by
 obtain⟨ht,⟨i,z,hi,hz,hsize,hby,hzs⟩,hpos⟩:=hE;subst hsize hby;have hlm:lim=140737488355328:=rfl;have hr:=Lib.run_append_nil_zeros (P:=P) w t tn ty e i z .i64 kn ht htn hi hz n h0 hpos Q0 Q0;have hc1:=grownCap_ge w n 0 e;have hc2:=grownCap_le_maxLen w n 0 e (by unfold Ti;omega);refine⟨w.heap.size,To w n 0 e,(RD z.cells n).toList,_,hr,by rw[S3,TY,hzs],hc1,?_⟩;have h5:=(hw.iM (w.drawn+1)).alloc e (RD z.cells n++RD z.cells (To w n 0 e-n)).toList;have h6:St w0 M (.own w.heap.size e (RD z.cells n++RD z.cells (To w n 0 e-n)).toList::Γ) (w.drew.alloc (.cells (RD z.cells n++RD z.cells (To w n 0 e-n)) e (0,0))):=by have:(RD z.cells n++RD z.cells (To w n 0 e-n)).toList.toArray=(RD z.cells n++RD z.cells (To w n 0 e-n)):=Q2;rw[this]at h5;exact h5
 refine St.NJ h6 (by rw[S3,TY,hzs]) ?_ ?_ hc1 hc2
 .rw[UU,QC,S3,S3,TY,TY,hzs,<-RA]
  congr 1
  omega
 .rw[UU,List.take_append_of_le_length (by rw[S3,TY,hzs];exact QW _),Rj (by rw[S3,TY,hzs];exact QW _)]
theorem RL.vr{P:QE}{n:Nat}{w0:QL}{ops:Array Oper}{rest:List Oper}{L:Lm}{M:Mem}{Γ:List As}{K:Lm->Mem->List As->Prop}{ty:QH}{pos:String}{af:Array Edge}{d:Nat}{t tn e sz bytes:Nat}{kn:R6}{x y:QM}{z:Int}(k:Nat)
  (hE:gj P t e sz bytes) (htn:P.underlying tn=some (.int kn)) (hx:bm L x=some (.slice none 0 0)) (hy:bm L y=some (.int .i64 z)) (hz:z=(k:Int)) (h0:0<k) (hb:k*bytes<=140737488355328) (hm:k<=lim) (hd:Sq d n=true)
  (h:∀b c us,us.length=k*sz->k<=c->RL P n w0 ops rest ((d,.slice (some ⟨b,0,none⟩) k c)::L) M (.acc (.slice (some ⟨b,0,none⟩) k c) e sz k us::Γ) K):RL P n w0 ops (⟨some d,.call ⟨.builtin .append,#[x,y],#[t,tn]⟩,ty,pos,af,none⟩::rest) L M Γ K:=by
 subst hz;refine RL.e (λv M' Γ'=>∃b c us,v=.slice (some ⟨b,0,none⟩) k c/\us.length=k*sz/\k<=c/\M'=M/\Γ'=.acc v e sz k us::Γ) (λn a w ha hw=>?_) hd ?_
 .obtain⟨b,c,us,w',h1,h2,h3,h4⟩:=CI (P:=P) (ty:=ty) hE htn hw h0 hb hm;refine⟨_,w',M,_,?_,⟨b,c,us,rfl,h2,h3,rfl,rfl⟩,h4⟩;simp[Rc,resolve,invoke,Tm,ha.ev hx,ha.ev hy,h1]
 .rintro v M' Γ' ⟨b,c,us,rfl,h2,h3,rfl,rfl⟩;exact h b c us h2 h3
section
variable {P:QE} {w0:QL} {L:Lm} {M:Mem} {Γ:List As} {d:Option Nat} {ty:QH} {pos:String} {af:Array Edge} {g:Option (Nat×Bool)}
theorem Y.cap{x:QM}{t:QH}{a:Option Addr}{k c:Nat}{e:Nat}(hx:bm L x=some (.slice a k c))(ht:P.underlying t=some (.slice e)) :
  Yq P w0 L M Γ ⟨d,.call ⟨.builtin .cap,#[x],#[t]⟩,ty,pos,af,g⟩ (.int .i64 (c:Int)):=λn a w ha _=>by
 simp[Rc,resolve,invoke,Tm,Builtin.cap_,ha.ev hx,QN ht,goInt]
end
end Xe
namespace Xe
open Go
def byteB(P:QE)(src dst:QH):Bool:=match P.underlying src,P.underlying dst with
 |some (.slice e),some .string=>match P.underlying e with
  |some (.int .u8)=>true
  |_=>false
 |_,_=>false
section
variable {P:QE} {w0:QL} {L:Lm} {M:Mem} {Γ:List As} {d:Option Nat} {ty:QH} {pos:String} {af:Array Edge} {g:Option (Nat×Bool)}
theorem zG{s t:ByteArray}(h:¬s=t):¬s.toList=t.toList:=λe=>h (by
 rw[WX,WX]at e
 exact ByteArray.ext (Array.toList_inj.mp e))
namespace Y
theorem eqlS{x y:QM}{s t:ByteArray}{u:QH}(hx:bm L x=some (.string s))(hy:bm L y=some (.string t)) :
  Yq P w0 L M Γ ⟨d,.binOp .eql u x y u,ty,pos,af,g⟩ (.bool (decide (s=t))):=λn a w ha _=>by
 simp[Rc,ha.ev hx,ha.ev hy,RZ,SQ,XL];by_cases h:s=t
 .simp[h]
 .simp[h,zG h]
theorem neqS{x y:QM}{s t:ByteArray}{u:QH}(hx:bm L x=some (.string s))(hy:bm L y=some (.string t)) :
  Yq P w0 L M Γ ⟨d,.binOp .neq u x y u,ty,pos,af,g⟩ (.bool (decide (s≠t))):=λn a w ha _=>by
 simp[Rc,ha.ev hx,ha.ev hy,RZ,SQ,XL];by_cases h:s=t
 .simp[h]
 .simp[h,zG h]
end Y
end
end Xe
namespace Xe
open Go
def slcB(P:QE)(t e sz:Nat):Bool:=match P.underlying t with
 |some (.slice e')=>Qy e' e && Qy (P.cellsOf e) sz
 |_=>false
section
variable {P:QE} {n:Nat} {t:QH} {ds:List D}
theorem WT.sY{e sz:Nat}(h:WT P n t ds)(hs:slcB P t e sz=true):∃m,n=m+1/\∃els:List (List D),ds=[.sl els.length sz els.flatten]/\els.length<=lim/\∀x∈els,WT P m e x:=by
 cases n with
 |zero=>exact h.elim
 |succ m =>
  unfold slcB at hs;split at hs
  .rename_i e' hu;rw[QA]at hs;obtain rfl:=Qp hs.1;obtain rfl:=Qp hs.2;simp only[WT,hu]at h;exact⟨m,rfl,h⟩
  .cases hs
theorem WT.int(h:WT P n t ds)(hs:Y.intB P t .i64=true):∃z,ds=[ai z]/\lM z:=by
 have hu:=Y.LK hs;cases n with
 |zero=>exact h.elim
 |succ m=>simp only[WT,hu]at h;obtain⟨z,rfl,hz⟩:=h;exact⟨z,rfl,inI_of hz⟩
end
theorem E3{α:Type}{enc:α->List D}{Q:α->Prop}:∀{els:List (List D)},(∀x∈els,∃a,x=enc a/\Q a)->∃l:List α,els.length=l.length/\els.flatten=l.flatMap enc/\∀a∈l,Q a
 |[],_=>⟨[],rfl,rfl,λa h=>by cases h⟩
 |x::xs,h=>by
  obtain⟨a,rfl,hq⟩:=h x (Qt ..);obtain⟨l,h1,h2,h3⟩:=E3 λy hy=>h y (Qx _ hy);refine⟨a::l,by simp[h1],by simp[h2],λb hb=>?_⟩
  grind
theorem gH{P:QE}{w0:QL}{M:Mem}{Γ:List As}{a:Option Addr}{n c e sz q:Nat}:∀(vs:List Qw) (i:Nat) (w:QL) (us:List Qw),St w0 M (.acc (.slice a n c) e sz n us::Γ) w->q+i+vs.length<=us.length->(∀v∈vs,v.oneCell'=true) ->
  ∃w',(VJ (fT a q) vs i).run P w=.ok () w'/\St w0 M (.acc (.slice a n c) e sz n (us.take (q+i)++vs++us.drop (q+i+vs.length))::Γ) w'
 |[],i,w,us,hw,_,_=>⟨w,by simp[VJ],by simpa using hw⟩
 |v::vs,i,w,us,hw,hl,h1=>by
  simp only[QG]at hl;obtain⟨k1,k2,k3⟩:=hw.setAcc (q:=q+i) (v:=v) Q0;obtain⟨w',r1,r2⟩:=gH (q:=q) vs (i+1) _ _ k1 Qc (λx hx=>h1 x (Qx _ hx));have h3:(Go.store ((fT a q).add i) v).run P w=.ok () (w.setCell (fT a (q+i)) v):=by
   rw[eu,run_store P w _ v _ (h1 v (Qt ..))]
   grind
  refine⟨w',by simp[VJ,h3];exact r1,?_⟩;have he:(us.set (q+i) v).take (q+(i+1))++vs++(us.set (q+i) v).drop (q+(i+1)+vs.length)=us.take (q+i)++v::vs++us.drop (q+i+(v::vs).length):=by
   have hk:q+i<us.length:=Q0;have e1:(us.set (q+i) v).take (q+(i+1))=us.take (q+i)++[v]:=by rw[<-RW,Qv (by grind),Yv,List.set_eq_of_length_le (by grind),SP]
   have e2:(us.set (q+i) v).drop (q+(i+1)+vs.length)=us.drop (q+i+(v::vs).length):=by
    rw[Yt,J2 Q0]
    congr 1
    grind
   rw[e1,e2];simp
  grind
theorem bz.split{M:Mem}{ds es:List D}{us:List Qw}(h:bz M (ds++es) us):bz M ds (us.take ds.length)/\bz M es (us.drop ds.length):=by have hl:=h.1;rw[QC]at hl;have h1:=h.cut 0 ds.length;have h2:=h.cut ds.length es.length;rw[RR,RR,UT]at h1;rw[List.drop_left,List.take_length,Rj (by grind)]at h2;exact⟨h1,h2⟩
open Go Go.ChangeShapes Go.WideShapes Go.RowKit
theorem Er{H:Type}{enc:QH×Qw->H}{C:Checked}{os:Os}{f:UY}{fn:Func}{s:Yu}{tb:QH}{fresh handsOn again:Bool}{laid:List (String×Tt Unit)}{F:Stop.Interp}(ts0:List QH)(own:ownKnob C.prog.godebug=none)(started:os.Started)(noInit:C.prog.inits.idxOf? f=none)(hfn:C.prog.funcs[f]?=some fn)
  (hcl:wq C.prog ts0=true) (hl:laidOutB C.prog=true) (htb:C.prog.underlying tb=some .bool)
  (hts:(fn.params.toList.all λt=>ts0.contains t && C.prog.readableRec t && Sq t C.prog.types.size)=true) (hres:fn.resultTypes=#[tb]) (hvars:s.vars=[]) (hspec:∀ds:List (Tt H),ds.length=fn.params.toList.length->s.fn H ds={results:=[.lit (.bool true)],args:=ds,vars:=[]})
  (witness:∃(w:QL) (tape:Tape) (i:Input),w.os=os/\(w.forCall tape i).Shaped C.prog/\i.vars=[]/\Input.okWide C.prog (w.forCall tape i) .any w.heap.size f i /\
   (Uf s).preRow enc C.prog fn [] false laid (w.forCall tape i).memory i.args/\Assume.holds {} C.prog (lone (Frame.enter C.prog f i.args .normal) [] (w.forCall tape i)))
  (contract:∀(W:QL) (vs:List Qw),UJ C.prog laid W->lb C.prog (ef W) fn.params.toList vs->jk C.prog W (ef W) [] f vs.toArray (Is (ef W) [] (.bool true))) :
  ReturnsInHanded {} C os f .any ((Uf s).preRow enc C.prog fn [] false laid) (((Uf s).at F).post enc C.prog fn false fresh handsOn again):=by
 refine returnsInHanded_of_row (C:=C) (s:=Uf s) own started noInit hfn witness ?_;intro W aQ args ds gs before hval hW _ _ hsz hL _ _;exact OI Fl (ds.map Ul).sum ts0 hcl hl htb hts hres hvars hspec hval hW hsz (λd hd=>GO Ul hd) λvs h=>contract W vs hL h.toW
structure aC where
 id:ar
 name:ByteArray
 ty:Ty
 B6:Int
 bq:Int
 deriving Inhabited
def aC.enc(s:aC):List D:=[ai s.id.aD,ai s.id.seq,ai s.id.index,bM s.name,ai s.ty.kind,ai s.ty.df.aD,ai s.ty.df.seq,ai s.ty.df.index,.sl s.ty.kids.length 5 (s.ty.kids.flatMap Ty.enc),ai s.B6,ai s.bq]
theorem aC.aP(s:aC):s.enc.length=11:=rfl
structure aq where
 id:ar
 kind:Int
 mod:ar
 name:ByteArray
 ah:List aC
 au:Ty
 body:Ex
 bq:Int
 cg:List ByteArray
 deriving Inhabited
def aq.enc(s:aq):List D:=[ai s.id.aD,ai s.id.seq,ai s.id.index,ai s.kind,ai s.mod.aD,ai s.mod.seq,ai s.mod.index,bM s.name,.sl s.ah.length 11 (s.ah.flatMap aC.enc),
 ai s.au.kind,ai s.au.df.aD,ai s.au.df.seq,ai s.au.df.index,.sl s.au.kids.length 5 (s.au.kids.flatMap Ty.enc),
 ai s.body.id.aD,ai s.body.id.seq,ai s.body.id.index,ai s.body.kind,ai s.body.n,ai s.body.ref.aD,ai s.body.ref.seq,ai s.body.ref.index,ai s.body.ty.kind,ai s.body.ty.df.aD,ai s.body.ty.df.seq,ai s.body.ty.df.index,
  .sl s.body.ty.kids.length 5 (s.body.ty.kids.flatMap Ty.enc),.sl s.body.kids.length 15 (s.body.kids.flatMap Ex.enc),.sl s.body.aK.length 1 (s.body.aK.map bM),
 ai s.bq,.sl s.cg.length 1 (s.cg.map bM)]
theorem aq.aP(s:aq):s.enc.length=31:=rfl
structure aI where
 id:ar
 name:ByteArray
 bP:List ar
 ae:List ar
 deriving Inhabited
def aI.enc(m:aI):List D:=[ai m.id.aD,ai m.id.seq,ai m.id.index,bM m.name,.sl m.bP.length 3 (m.bP.flatMap ar.enc),.sl m.ae.length 3 (m.ae.flatMap ar.enc)]
theorem aI.aP(m:aI):m.enc.length=6:=rfl
structure av where
 al:List aI
 ae:List aq
 deriving Inhabited
def av.enc(p:av):List D:=[.sl p.al.length 6 (p.al.flatMap aI.enc),.sl p.ae.length 31 (p.ae.flatMap aq.enc)]
theorem ar.ext'{a b:ar}(h1:a.aD=b.aD)(h2:a.seq=b.seq)(h3:a.index=b.index):a=b:=by cases a;cases b;simp only at h1 h2 h3;rw[h1,h2,h3]
def oT:Ex:=.mk ki 0 0 ki bS [] []
def lj:aq:=⟨ki,0,ki,Xr,[],bS,oT,0,[]⟩
def dy(p:av)(id:ar):Prop:=∃d∈p.ae,d.id=id
instance (p:av) (id:ar):Decidable (dy p id):=by unfold dy;exact inferInstance
def an(p:av)(id:ar):aq:=(p.ae.find? λd=>decide (d.id=id)).getD lj
theorem iX{p:av}{id:ar}{k:Nat}(h:k<p.ae.length)(h1:∀j (hj:j<p.ae.length),j<k->p.ae[j].id≠id)(h2:p.ae[k].id=id):dy p id/\an p id=p.ae[k]:=by
 refine⟨⟨_,QB h,h2⟩,?_⟩;have:p.ae.find? (λd=>decide (d.id=id))=some p.ae[k]:=by
  rw[List.find?_eq_some_iff_getElem]
  grind
 rw[an,this];rfl
theorem oa{p:av}{id:ar}(h1:∀j (hj:j<p.ae.length),p.ae[j].id≠id):¬dy p id/\an p id=lj:=by
 have hn:¬dy p id:=by rintro⟨d,hd,he⟩;obtain⟨j,hj,rfl⟩:=QO.1 hd;exact h1 j hj he
 refine⟨hn,?_⟩;have:p.ae.find? (λd=>decide (d.id=id))=none:=by rw[List.find?_eq_none];intro d hd;simpa using λe=>hn ⟨d,hd,e⟩
 rw[an,this];rfl
def lB(p:av)(id:ar):Prop:=dy p id/\((an p id).kind=0\/(an p id).kind=1)
instance (p:av) (id:ar):Decidable (lB p id):=by unfold lB;exact inferInstance
def b9(p:av):Nat->Ty->Bool
 |0,_=>false
 |n+1,t=>if t.kind=2 then decide (t.df=ki) && (match t.kids with|[x]=>b9 p n x|_=>false)
  else t.kids.isEmpty && (if t.kind=3 then decide (lB p t.df) else decide (t.df=ki) && decide (t.kind=0\/t.kind=1))
def cr(p:av)(t:Ty):Prop:=b9 p 24 t=true
instance (p:av) (t:Ty):Decidable (cr p t):=by unfold cr;exact inferInstance
theorem mO{p:av}{n:Nat}{t:Ty}(hk:t.kind=2):b9 p (n+1) t=true↔t.df=ki/\∃y,t.kids=[y]/\b9 p n y=true:=by
 rw[b9,J2 hk,QA,decide_eq_true_eq]
 grind
theorem CZ{p:av}{n:Nat}{t:Ty}(hk:t.kind=2)(h1:t.df=ki)(h2:t.kids.length=1):b9 p (n+1) t=true↔b9 p n (t.kids[0]'Q0)=true:=by
 rw[mO hk];have e:t.kids=[t.kids[0]'Q0]:=by
  apply List.ext_getElem
  all_goals grind
 grind
theorem uK{p:av}{n:Nat}{t:Ty}(hk:t.kind=3):b9 p (n+1) t=true↔lB p t.df/\t.kids.length=0:=by rw[b9,J1 Q0,J2 hk,QA,decide_eq_true_eq,Wh,and_comm,WZ]
theorem jv{p:av}{n:Nat}{t:Ty}(hk:t.kind≠2)(hk3:t.kind≠3):b9 p (n+1) t=true↔t.kids.length=0/\t.df=ki/\(t.kind=0\/t.kind=1):=by rw[b9,J1 hk,J1 hk3,QA,QA,decide_eq_true_eq,decide_eq_true_eq,Wh,WZ]
def fw(n:Int):ar:=⟨0,1+n.tdiv 32,n.tmod 32⟩
def mm(i:ar):Ty:=.mk 3 i []
def b8(t:Ty):Ty:=.mk 2 ki [t]
def eN(p:av):Nat->Ty->Prop
 |0,_=>False
 |n+1,t=>t.kind=0\/t.kind=1\/(t.kind=2/\0<t.kids.length/\eN p n (t.kids.headD bS)) \/
  (t.kind≠0/\t.kind≠1/\t.kind≠2/\(an p t.df).ah.length<=3/\((an p t.df).kind=1->0<(an p t.df).ah.length)/\∀s∈(an p t.df).ah,eN p n s.ty)
theorem wD{p:av}{n:Nat}{t:Ty}(h:eN p (n+1) t)(h2:t.kind=2):0<t.kids.length/\eN p n (t.kids.headD bS):=by
 rw[eN]at h
 grind
theorem mN{p:av}{n:Nat}{t:Ty}(h:eN p (n+1) t)(h0:¬t.kind=0)(h1:¬t.kind=1)(h2:¬t.kind=2):(an p t.df).ah.length<=3/\((an p t.df).kind=1->0<(an p t.df).ah.length)/\∀s∈(an p t.df).ah,eN p n s.ty:=by
 rw[eN]at h
 grind
theorem b7{p:av}:∀{n m:Nat} {t:Ty},n<=m->eN p n t->eN p m t
 |0,_,_,_,h=>h.elim
 |n+1,0,_,hm,_=>by omega
 |n+1,m+1,t,hm,h=>by
  rw[eN]at h ⊢;rcases h with h|h|h|h
  .exact .inl h
  .exact .inr (.inl h)
  .exact .inr (.inr (.inl ⟨h.1,h.2.1,b7 Q0 h.2.2⟩))
  .exact .inr (.inr (.inr ⟨h.1,h.2.1,h.2.2.1,h.2.2.2.1,h.2.2.2.2.1,λs hs=>b7 Q0 (h.2.2.2.2.2 s hs)⟩))
theorem Bm(p:av)(n:Nat):eN p (n+1) bS:=.inl rfl
theorem JV{p:av}{n:Nat}{t:Ty}(h:eN p n t):eN p (n+1) (b8 t):=.inr (.inr (.inl ⟨rfl,by simp[b8,Ty.kids],h⟩))
def InR(z:Int):Prop:=-1099511627776<=z/\z<=1099511627776
instance (z:Int):Decidable (InR z):=by unfold InR;exact inferInstance
end Xe
namespace Pm
open Go Xe
def bs(l:List UInt8):Qw:=.string ⟨l.toArray⟩
def kwV:List Qw:=[bs [109,111,100,117,108,101],bs [117,115,101],bs [114,101,99],bs [99,97,115,101],bs [102,117,110],bs [111,110],bs [116,101,115,116],bs [99,111,110,118],bs [116,114,117,101],bs [102,97,108,115,101],bs [110,111,116],bs [97,110,100],bs [111,114],bs [105,102],bs [116,104,101,110],bs [101,108,115,101],bs [108,101,116],bs [105,110],bs [109,97,116,99,104],bs [102,111,108,100],bs [111,118,101,114],bs [100,111],bs [108,101,110],bs [106,111,105,110],bs [76,105,115,116],bs [73,110,116],bs [66,111,111,108]]
def OL:List Qw:=([0,0,0,-1,2,3,2,-1,1,1,-1,-1,3]:List Int).map (Sa .i64)
def OK:List Qw:=[195,286,287,287].map λf=>.func (.func f) #[] #[]
def M6:List Qw:=[bs [61,61],bs [45,62],bs [40],bs [41],bs [123],bs [125],bs [91],bs [93],bs [44],bs [58],bs [46],bs [61],bs [43],bs [45],bs [42],bs [47],bs [37],bs [60]]
def Jl:List (Nat×List Qw):=[(1,kwV),(2,OL),(3,OK),(4,M6)]
def iI:List (Int×Int):=[(3,36),(7,1),(8,1),(9,2),(10,2)]
structure yT(M:Mem):Prop where
 gl:∀p∈Jl,∀i u,p.2[i]?=some u->dW M (Uz ⟨p.1,0,none⟩ i)=some u
 gm:∃(m:Nat) (es:Array Su) (c:Nat) (l:List (Int×Int)),dW M ⟨0,0,none⟩=some (.map (some m))/\M m=some (.map es c)/\(es.toList.map λe=>(e.key,e.val))=(l:List (Int×Int)).map (λp=>(Sa .i64 p.1,Sa .i64 p.2))/\l.Perm iI
theorem yT.mono{M M':Mem}(h:yT M)(hs:Sub M M'):yT M':=⟨λp hp i u hu=>kV hs (h.gl p hp i u hu),by
 obtain⟨m,es,c,l,h1,h2,h3⟩:=h.gm
 exact⟨m,es,c,l,kV hs h1,hs _ _ h2,h3⟩⟩
end Pm
namespace Go.Proofs.YtmbboaapillefaaGreatDoor
open Xe
set_option maxRecDepth 20000
theorem wt3:Y.intB Qu 3 .i64=true:=by kernel_rfl
theorem wt22:slcB Qu 22 3 1=true:=by kernel_rfl
theorem ints_of{n:Nat}{ds:List D}(h:WT Qu n 22 ds):∃l:List Int,ds=[bU l]/\∀x∈l,lM x:=by obtain⟨m,rfl,els,rfl,_,he⟩:=h.sY wt22;obtain⟨l,e1,e2,e3⟩:=E3 (enc:=λz=>[ai z]) (Q:=lM) λx hx=>(he x hx).int wt3;exact⟨l,by rw[e1,e2,bU,List.map_eq_flatMap],e3⟩
theorem P4{M:Mem}{ts:List QH}{vs:List Qw}(h:lb Qu M (22::ts) vs):∃(l:List Int) (v:Qw) (vs':List Qw),vs=v::vs'/\Rd M (bU l) v/\(∀x∈l,lM x)/\lb Qu M ts vs':=by obtain⟨n,ds,us,v,vs',rfl,h1,h2,h3,h4⟩:=h.inv;obtain⟨l,rfl,hl⟩:=ints_of h2;simp only[uF,Tryz.underlying22]at h3;subst h3;exact⟨l,v,vs',rfl,h1.2 0 _ _ rfl rfl,hl,h4⟩
theorem JN{M:Mem}{ts:List QH}{vs:List Qw}(h:lb Qu M (3::ts) vs):∃(z:Int) (vs':List Qw),vs=lX z::vs'/\lM z/\lb Qu M ts vs':=by obtain⟨n,ds,us,v,vs',rfl,h1,h2,h3,h4⟩:=h.inv;obtain⟨z,rfl,hz⟩:=h2.int wt3;simp only[uF,Sc]at h3;subst h3;have h5:=h1.2 0 _ _ rfl rfl;simp only[Rd]at h5;rw[h5.1];exact⟨z,vs',rfl,hz,h4⟩
open Xe Pm Go.ChangeShapes Go.WideShapes Go.ChangeAt Go.RowKit
set_option maxRecDepth 100000
abbrev nK : List (String × DataW Unit) := [("splicery/lex.signs", Rows.laid_splicery_lex_signs), ("splicery/lex.kinds", Rows.laid_splicery_lex_kinds), ("splicery/lex.keywords", Rows.laid_splicery_lex_keywords), ("splicery/whole.fits", Rows.laid_splicery_whole_fits), ("splicery/whole.kids", Rows.laid_splicery_whole_kids)]
theorem ownKn:ownKnob Qu.godebug=none:=by kernel_rfl
theorem gvar4 : Tryz.prog.globalNamed "splicery/lex.signs" = some 4 := by kernel_rfl
theorem tvar4:(Qu.globals[4]?).map (·.type)=some 277:=by kernel_rfl
theorem gvar3 : Tryz.prog.globalNamed "splicery/lex.kinds" = some 3 := by kernel_rfl
theorem tvar3:(Qu.globals[3]?).map (·.type)=some 276:=by kernel_rfl
theorem gvar1 : Tryz.prog.globalNamed "splicery/lex.keywords" = some 1 := by kernel_rfl
theorem tvar1:(Qu.globals[1]?).map (·.type)=some 240:=by kernel_rfl
theorem gvar0 : Tryz.prog.globalNamed "splicery/whole.fits" = some 0 := by kernel_rfl
theorem tvar0:(Qu.globals[0]?).map (·.type)=some 130:=by kernel_rfl
theorem gvar2 : Tryz.prog.globalNamed "splicery/whole.kids" = some 2 := by kernel_rfl
theorem tvar2:(Qu.globals[2]?).map (·.type)=some 242:=by kernel_rfl
theorem uty240:Qu.underlying 240=some (.array 27 9):=by kernel_rfl
theorem uty242:Qu.underlying 242=some (.array 13 3):=by kernel_rfl
theorem uty277:Qu.underlying 277=some (.array 18 9):=by kernel_rfl
theorem uty276:Qu.underlying 276=some (.array 2 275):=by kernel_rfl
theorem MD:Qu.underlying 275=some (.array 2 238):=by kernel_rfl
theorem Bo:Qu.underlying 238=some (.func #[5] #[4] false):=by kernel_rfl
theorem uty130:Qu.underlying 130=some (.map 3 3):=by kernel_rfl
theorem uty9:Qu.underlying 9=some .string:=by kernel_rfl
theorem uty3:Qu.underlying 3=some (.int .i64):=by kernel_rfl
theorem cty9:Qu.cellsOf 9=1:=by kernel_rfl
theorem cty3:Qu.cellsOf 3=1:=by kernel_rfl
theorem cty238:Qu.cellsOf 238=1:=by kernel_rfl
theorem cty275:Qu.cellsOf 275=2:=by kernel_rfl
theorem cty276:Qu.cellsOf 276=4:=by kernel_rfl
theorem take1{cs:List Qw}{i:Nat}{v:Qw}(h:(cs.drop i).take 1=[v]):cs[i]?=some v:=by have:=J4 (·[0]?) h;simpa[R8,Sp]using this
section
variable {H:Type} {enc:QH×Qw->H} {P:QE} {w:QL} {aQ:Nat} {sp:Nat->Bool} {held:Bool} {fuel t e n:Nat} {cs:List Qw} {ds:List (Tt H)} {p:List Wg}
theorem yK(ht:P.underlying t=some (.array n e))(h:TX enc P w aQ sp held fuel t cs=some (.agg ds,p)) :
  cs.length=P.cellsOf t/\∀i d,ds[i]?=some d->∃m q,TX enc P w aQ sp held m e ((cs.drop (i*P.cellsOf e)).take (P.cellsOf e))=some (d,q):=by
 obtain⟨xs,m,rfl,hx,hl,hxl,hf⟩:=XU ht h;simp only[QR,DataW.agg.injEq]at hx;refine⟨hl,λi d hd=>?_⟩;rw[hx.1,Tv,R9]at hd;obtain⟨y,hy,rfl⟩:=hd;have hi:i<n:=by have:=(Se.1 hy).1;omega
 exact⟨m,y.2,by rw[hf i hi,hy]⟩
theorem MV(ht:P.underlying t=some (.array n e))(he:P.underlying e=some .string)(hc:P.cellsOf e=1){l:List (List UInt8)}(h:TX enc P w aQ sp held fuel t cs=some (.agg (l.map λb=>.lit (.string b)),p))(i:Nat)(u:Qw)(hu:(l.map bs)[i]?=some u):cs[i]?=some u:=by rw[Tv,R9]at hu;obtain⟨b,hb,rfl⟩:=hu;obtain⟨m,q,h1⟩:=(yK ht h).2 i (.lit (.string b)) (by rw[Tv,hb];rfl);obtain⟨s,hs,hx,_⟩:=XJ he h1;rw[hc,Td]at hs;simp only[QR,Xo,Lit.string.injEq]at hx;rw[take1 hs,bs,hx.1]
theorem int_at(ht:P.underlying t=some (.array n e))(he:P.underlying e=some (.int .i64))(hc:P.cellsOf e=1){l:List Int}(h:TX enc P w aQ sp held fuel t cs=some (.agg (l.map λz=>.lit (.int .i64 z)),p))(i:Nat)(u:Qw)(hu:(l.map (Sa .i64))[i]?=some u):cs[i]?=some u:=by rw[Tv,R9]at hu;obtain⟨z,hz,rfl⟩:=hu;obtain⟨m,q,h1⟩:=(yK ht h).2 i (.lit (.int .i64 z)) (by rw[Tv,hz];rfl);obtain⟨s,hs,hx,_⟩:=Ye he h1;rw[hc,Td]at hs;simp only[QR,Xo,Lit.int.injEq,true_and]at hx;rw[take1 hs,hx.1]
end
abbrev kwB:List (List UInt8):=[[109,111,100,117,108,101],[117,115,101],[114,101,99],[99,97,115,101],[102,117,110],[111,110],[116,101,115,116],[99,111,110,118],[116,114,117,101],[102,97,108,115,101],[110,111,116],[97,110,100],[111,114],[105,102],[116,104,101,110],[101,108,115,101],[108,101,116],[105,110],[109,97,116,99,104],[102,111,108,100],[111,118,101,114],[100,111],[108,101,110],[106,111,105,110],[76,105,115,116],[73,110,116],[66,111,111,108]]
abbrev sgB:List (List UInt8):=[[61,61],[45,62],[40],[41],[123],[125],[91],[93],[44],[58],[46],[61],[43],[45],[42],[47],[37],[60]]
abbrev kidsI:List Int:=[0,0,0,-1,2,3,2,-1,1,1,-1,-1,3]
theorem kwEq:(Rows.laid_splicery_lex_keywords:Tt Unit)=.agg (kwB.map λb=>.lit (.string b)):=Q3
theorem sgEq:(Rows.laid_splicery_lex_signs:Tt Unit)=.agg (sgB.map λb=>.lit (.string b)):=Q3
theorem kidsEq:(Rows.laid_splicery_whole_kids:Tt Unit)=.agg (kidsI.map λz=>.lit (.int .i64 z)):=Q3
theorem fitsEq:(Rows.laid_splicery_whole_fits:Tt Unit)=.map (iI.map λp=>(.int .i64 p.1,.lit (.int .i64 p.2))):=Q3
theorem kwVeq:kwV=kwB.map bs:=Q3
theorem sgVeq:M6=sgB.map bs:=Q3
theorem kidsVeq:OL=kidsI.map (Sa .i64):=Q3
theorem NB{W:QL}(h:UJ Qu nK W):laidMet Qu (nK.filter λx=>x.2.handleName?.isNone) W:=by
 have hm : ("splicery/lex.kinds", Rows.laid_splicery_lex_kinds) ∈ nK.filter fun x => x.2.handleName?.isSome := List.mem_filter.2 ⟨List.Mem.tail _ (List.Mem.head _), by kernel_rfl⟩
 unfold UJ at h;generalize(nK.filter λx=>x.2.handleName?.isSome)=fl at h hm;cases fl with
 |nil=>cases hm
 |cons a r=>exact h.1
theorem rN{W:QL}(h:UJ Qu nK W){n:String}{d:Tt Unit}(hx:(n,d)∈nK)(hd:d.handleName?.isNone=true){g t:Nat}(hg:Qu.globalNamed n=some g)(ht:(Qu.globals[g]?).map (·.type)=some t) :
  ∃cs fuel p,W.var? Qu n=some cs/\TX (λ_=>()) Qu W 0 (λ_=>true) false fuel t cs.toList=some (d,p):=by
 obtain⟨g',t',cs,fuel,p,hg',ht',hv,hd'⟩:=Go.Lib.laidMet.reads (NB h) (Rq.2 ⟨hx,hd⟩);obtain rfl:=Sw (hg.symm.trans hg');obtain rfl:=Sw (ht.symm.trans ht');exact⟨cs,fuel,p,hv,hd'⟩
theorem tf{W:QL}{n:String}{g:Nat}{cs:Array Qw}(hg:Qu.globalNamed n=some g)(hv:W.var? Qu n=some cs){i:Nat}{u:Qw}(hu:cs.toList[i]?=some u):dW (ef W) (Uz ⟨g,0,none⟩ i)=some u:=by rw[vh,show Uz ⟨g,0,none⟩ i=⟨g,i,none⟩ by have:=cx g 0 i;rw[Rn]at this;exact this,World.var?_cell hg hv i,<-Array.getElem?_toList,hu]
theorem list4{cs:List Qw}(h:cs.length=4):∃a b c d,cs=[a,b,c,d]:=by
 match cs,h with
 |[a,b,c,d],_=>exact⟨a,b,c,d,rfl⟩
theorem OJ{W:QL}(h:UJ Qu nK W)(i:Nat)(u:Qw)(hu:OK[i]?=some u):dW (ef W) (Uz ⟨3,0,none⟩ i)=some u:=by
 obtain ⟨g, t, cs, fuel, p, hg, ht, hv, hd⟩ := h.funcs (n := "splicery/lex.kinds") (List.Mem.tail _ (List.Mem.head _))
 obtain rfl:=Sw (gvar3.symm.trans hg);obtain rfl:=Sw (tvar3.symm.trans ht);have hd1:TX (funcToken Qu) Qu W 0 (λ_=>true) true fuel 276 cs.toList=some (.agg [.agg [.held [115,112,108,105,99,101,114,121,47,108,101,120,46,108,101,116,116,101,114],.held [115,112,108,105,99,101,114,121,47,108,101,120,46,101,105,116,104,101,114]],.agg [.held [115,112,108,105,99,101,114,121,47,108,101,120,46,100,105,103,105,116],.held [115,112,108,105,99,101,114,121,47,108,101,120,46,100,105,103,105,116]]],p):=hd;refine tf gvar3 hv ?_;obtain⟨h1,h2⟩:=yK uty276 hd1;rw[cty276]at h1;obtain⟨a,b,c,d,hcs⟩:=list4 h1;rw[hcs]at h2 ⊢;rw[cty275]at h2;obtain⟨m0,q0,e0⟩:=h2 0 _ rfl;obtain⟨m1,q1,e1⟩:=h2 1 _ rfl;have f0:=(yK MD e0).2;have f1:=(yK MD e1).2;rw[cty238]at f0 f1;obtain⟨_,_,a0⟩:=f0 0 _ rfl;obtain⟨_,_,b0⟩:=f0 1 _ rfl;obtain⟨_,_,c0⟩:=f1 0 _ rfl;obtain⟨_,_,d0⟩:=f1 1 _ rfl;obtain rfl:=Wi (f0:=195) Bo (by kernel_rfl) a0;obtain rfl:=Wi (f0:=286) Bo (by kernel_rfl) b0;obtain rfl:=Wi (f0:=287) Bo (by kernel_rfl) c0;obtain rfl:=Wi (f0:=287) Bo (by kernel_rfl) d0;exact hu
abbrev numOf(x:Qw):Int:=match x with
 |.int _ n=>n
 |_=>0
abbrev OD(x:Lit×Tt Unit):Int×Int:=(match x.1 with
 |.int _ n=>n
 |_=>0,match x.2 with
 |.lit (.int _ n)=>n
 |_=>0)
theorem u9{H:Type}(x:Lit×Tt H):∀l:List (Lit×Tt H),(W0 x l).Perm (x::l)
 |[]=>.refl _
 |y::r=>by
  unfold W0;split
  .exact .refl _
  .exact((u9 x r).cons y).trans (List.Perm.swap x y r)
theorem AB{H:Type}:∀l:List (Lit×Tt H),(l.foldr W0 []).Perm l
 |[]=>.refl _
 |x::l=>(u9 x _).trans ((AB l).cons x)
theorem Jb{v:Qw}{l:Lit}(h:keyOf Qu 3 v=some l):∃n,v=.int .i64 n/\l=.int .i64 n:=by
 unfold keyOf at h;rw[uty3]at h;simp only at h;unfold mapKey at h;rw[uty3]at h;split at h
 .rename_i e;cases e
 .rename_i q q' n e;obtain rfl:q=.i64:=by cases e;rfl
  split at h
  .rename_i hq;obtain⟨rfl,_⟩:=hq;exact⟨n,rfl,(Sw h).symm⟩
  .cases h
 .rename_i e;cases e
 .cases h
theorem fits_of{W:QL}(h:UJ Qu nK W):∃(m:Nat) (es:Array Su) (c:Nat) (l:List (Int×Int)),dW (ef W) ⟨0,0,none⟩=some (.map (some m))/\ef W m=some (.map es c)/\(es.toList.map λe=>(e.key,e.val))=l.map (λp=>(Sa .i64 p.1,Sa .i64 p.2))/\l.Perm iI:=by
 obtain ⟨cs, fuel, p, hv, hd⟩ := rN h (n := "splicery/whole.fits") (List.Mem.tail _ (List.Mem.tail _ (List.Mem.tail _ (List.Mem.head _)))) rfl gvar0 tvar0
 rw[fitsEq]at hd;obtain⟨_,hx⟩|⟨m,es,c,hcs,hb,_,F,hx⟩:=Go.WideMaps.open_map uty130 uty3 hd
 .simp at hx
 simp only[QR,DataW.map.injEq]at hx;have hp:=AB (es.toList.map (Go.WideMaps.rg Unit Qu 3 .i64));rw[<-hx.1]at hp;refine⟨m,es,c,es.toList.map λe=>(numOf e.key,numOf e.val),?_,hb,?_,?_⟩
 .have:=tf (W:=W) gvar0 hv (i:=0) (u:=.map (some m)) (by rw[hcs];rfl);exact this
 .rw[R3];refine TM λe he=>?_;obtain⟨y,hy⟩:=F.reads e he;obtain⟨n,hn,_⟩:=Jb (Xu hy);obtain⟨k,hk,_⟩:=Xv hy;simp[hn,hk]
 .have h2:=hp.symm.map OD;rw[R3,R3]at h2;have h3:iI.map (OD ∘ λp=>(YV .i64 p.1,DataW.lit (.int .i64 p.2)))=iI:=Q3;rw[h3]at h2;refine Xq (List.Perm.of_eq (TM λe he=>?_)) h2;obtain⟨y,hy⟩:=F.reads e he;obtain⟨n,hn,hn2⟩:=Jb (Xu hy);obtain⟨k,hk,hk2,_⟩:=Xv hy;simp[Go.WideMaps.rg_of hy,OD,hn,hk,hn2,hk2]
theorem gr_of{W:QL}(h:UJ Qu nK W):yT (ef W):=by
 refine⟨λq hq i u hu=>?_,fits_of h⟩;simp only[Jl,Qz,List.not_mem_nil,or_false]at hq;obtain rfl|rfl|rfl|rfl:=hq
 ·obtain ⟨cs, fuel, p, hv, hd⟩ := rN h (n := "splicery/lex.keywords") (List.Mem.tail _ (List.Mem.tail _ (List.Mem.head _))) rfl gvar1 tvar1
  rw[kwEq]at hd;exact tf gvar1 hv (MV uty240 uty9 cty9 hd i u (by rw[<-kwVeq];exact hu))
 ·obtain ⟨cs, fuel, p, hv, hd⟩ := rN h (n := "splicery/whole.kids") (List.Mem.tail _ (List.Mem.tail _ (List.Mem.tail _ (List.Mem.tail _ (List.Mem.head _))))) rfl gvar2 tvar2
  rw[kidsEq]at hd;exact tf gvar2 hv (int_at uty242 uty3 cty3 hd i u (by rw[<-kidsVeq];exact hu))
 .exact OJ h i u hu
 ·obtain ⟨cs, fuel, p, hv, hd⟩ := rN h (n := "splicery/lex.signs") (List.Mem.head _) rfl gvar4 tvar4
  rw[sgEq]at hd;exact tf gvar4 hv (MV uty277 uty9 cty9 hd i u (by rw[<-sgVeq];exact hu))
theorem Pz(os:Os)(args:Array Qw):UJ Qu nK ((World.doorLaid Qu 3000 os).forCall (λ_ _=>0) ⟨#[],args,[]⟩).memory :=
 laidMetH_of_parts3 (fuel:=8) (laidMet_of_run' 8 (by kernel_rfl) (by kernel_rfl)) (by kernel_rfl) (by kernel_rfl)
end Go.Proofs.YtmbboaapillefaaGreatDoor
namespace Pm
open Go Xe
instance:Inhabited D:=⟨.v (.bool false)⟩
inductive C where
 |d (x:D)
 |n
 |l (sz:Nat)
 |p (b off:Nat)
 |q (b sz k j:Nat)
 |w (b:Nat)
 |m (b:Nat)
 |f (g:Nat) (cs:List C)
 |z
 |u
 |e (b i:Nat)
 |y (b q sz l n:Nat)
 |k (g:Nat)
 deriving Inhabited
inductive S where
 |c (x:C)
 |a (n:Nat) (ds:List D)
 |g (cs:List C)
 |r (n:Nat) (ds:List D) (o:Nat)
 |t (l:List S)
 deriving Inhabited
inductive O where
 |b (e:QH) (cs:List C)
 |a (e n:Nat) (ds:List D)
 |w (e sz n:Nat) (ds:List D)
 |v (e sz n:Nat) (cs:List C)
 |s (sz n:Nat) (ds:List D)
 |m (t:QH) (ag:Bool) (vs n:Nat) (ds:List D)
 |ms (t:QH) (ag:Bool) (vs n:Nat) (ds:List D)
 |it (ag:Bool) (vs:Nat) (cur:Option (List D)) (n:Nat) (ds:List D)
 |x (e sz n:Nat) (ds:List D)
 |bW
structure Fr where
 sl:Nat->S
 ob:Nat->Option O
 aQ:Nat
def su:S:=.c .u
def Fr.put(fr:Fr)(t:Nat)(v:S):Fr:=⟨λk=>match Qy k t with
 |true=>v
 |false=>fr.sl k,fr.ob,fr.aQ⟩
def Fr.set(fr:Fr)(b:Nat)(o:O):Fr:=⟨fr.sl,λk=>match Qy k b with
 |true=>some o
 |false=>fr.ob k,fr.aQ⟩
def cell(ds:List D)(i:Nat):D:=ds.getD i default
def sub(ds:List D)(o n:Nat):List D:=(ds.drop o).take n
def el(ds:List D)(sz k:Nat):List D:=(ds.drop (k*sz)).take sz
def cQ(ds:List D)(o:Nat)(vs:List D):List D:=ds.take o++vs++ds.drop (o+vs.length)
def cells(n:Nat)(ds:List D):List D:=(UQ n).map (cell ds)
def OT:D->Int
 |.v (.int .i64 z)=>z
 |_=>0
def x9(a b c:Int)(ds:List D):Bool:=decide (OT (cell ds 0)=a/\OT (cell ds 1)=b/\OT (cell ds 2)=c)
def bu(sz:Nat)(a b c:Int):Nat->List D->Option (List D)
 |0,_=>none
 |n+1,ds=>match x9 a b c ds with
  |true=>some ((ds.take sz).drop 3)
  |false=>bu sz a b c n (ds.drop sz)
def cS(sz:Nat)(a b c:Int)(vs:List D):Nat->List D->List D
 |0,ds=>.v (.int .i64 a)::.v (.int .i64 b)::.v (.int .i64 c)::vs++ds
 |n+1,ds=>match x9 a b c ds with
  |true=>ds.take 3++vs++ds.drop sz
  |false=>ds.take sz++cS sz a b c vs n (ds.drop sz)
def fH(sz:Nat)(a b c:Int)(n:Nat)(ds:List D):Nat:=match bu sz a b c n ds with
 |some _=>n
 |none=>n+1
inductive jt where
 |d
 |i
 |bo
 |p (b off:Nat)
 |w (b:Nat)
 |m (b:Nat)
 |f (g:Nat) (cs:List jt)
 |y (b sz:Nat)
inductive lL where
 |c (x:jt)
 |a (n:Nat)
 |g (cs:List jt)
 |t (l:List lL)
inductive lV where
 |b (e:QH) (cs:List jt)
 |a (e n:Nat)
 |w (e sz:Nat)
 |v (e sz n:Nat) (cs:List jt)
 |m (t:QH) (ag:Bool) (vs:Nat)
 |ms (t:QH) (ag:Bool) (vs:Nat)
 |it (ag:Bool) (vs:Nat)
 |x (e sz:Nat)
structure Sh where
 sl:List (Nat×lL)
 ob:List (Nat×lV)
abbrev bR:=List (List D)
structure bA where
 f:Nat
 ins:Sh
 out:lL
 jl:List (Nat×lV)
 Ep:Bool
structure Tb where
 sg:List bA
 eq3:List Nat
 deep:List Nat
 eqa:List Nat
 gl:List (Nat×List D)
 gm:List (Nat×List (Int×Int))
 hp:Bool
 eqs:List (Nat×Nat)
 nd:Bool
 ic:Bool
 cs:List Nat
structure Cx where
 is:bA->bR->bR->Prop
 inl:Nat->List S->List (Nat×O)->S->List (Nat×O)->Prop
def aw(x:D)(k:Int->Prop):Prop:=match x with
 |.v (.int .i64 z)=>k z
 |_=>False
def oX(x:D)(k:Bool->Prop):Prop:=match x with
 |.v (.bool b)=>k b
 |_=>False
def rA(x:D)(k:ByteArray->Prop):Prop:=match x with
 |.v (.string s)=>k s
 |_=>False
def aH(sz:Nat)(x:D)(k:Nat->List D->Prop):Prop:=match x with
 |.sl n s cs=>(match Qy s sz with
  |true=>k n cs
  |false=>False)
 |_=>False
def qk(kd:R6)(x:D)(k:Int->Prop):Prop:=match x with
 |.v (.int kd' z)=>kd'=kd/\k z
 |_=>False
def nu(kd:R6):List D->Option (List Int)
 |[]=>some []
 |.v (.int kd' z)::l=>(match decEq kd' kd with
  |.isTrue _=>(match nu kd l with
   |some b=>some (z::b)
   |none=>none)
  |.isFalse _=>none)
 |_=>none
def PT(kd:R6)(cs:List D)(k:List Int->Prop):Prop:=match nu kd cs with
 |some b=>k b
 |none=>False
def strB(zs:List Int):ByteArray:=⟨(zs.map λz=>UInt8.ofNat z.toNat).toArray⟩
def az(p:Prop)(k:Prop):Prop:=p/\k
def aB(b:Bool)(k h:Prop):Prop:=match b with
 |true=>k
 |false=>h
def bI:Option O->Option O
 |some (.w e sz n _)=>some (.w e sz n [])
 |some (.v e sz n _)=>some (.v e sz n [])
 |some (.s sz n _)=>some (.s sz n [])
 |some (.x e sz n _)=>some (.x e sz n [])
 |_=>none
inductive bj where
 |no
 |ret (v:Option S) (ob:List (Nat×O))
 |Kz (t:Nat) (k:S->bj)
 |lU (b:Nat) (k:Option O->bj)
 |KA (b:Nat) (k:Option O->bj)
 |i (x:D) (k:Int->bj)
 |bo (x:D) (k:Bool->bj)
 |st (x:D) (k:ByteArray->bj)
 |ik (kd:R6) (x:D) (k:Int->bj)
 |FJ (kd:R6) (cs:List D) (k:List Int->bj)
 |sc (sz:Nat) (x:D) (k:Nat->List D->bj)
 |we (b:Bool) (p q:bj)
 |ck (p:Prop) (d:Decidable p) (k:bj)
 |ca (s:bA) (a:bR) (k:bR->bj)
 |inl (id f:Nat) (xs:List S) (ob:List (Nat×O)) (k:S->List (Nat×O)->bj)
abbrev jg(p:Prop)[d:Decidable p](k:bj):bj:=.ck p d k
structure Qs(α:Type) where
 i:D->(Int->α)->α
 bo:D->(Bool->α)->α
 sc:Nat->D->(Nat->List D->α)->α
def qb:Qs bj:=⟨.i,.bo,.sc⟩
def bc:Qs Prop:=⟨aw,oX,aH⟩
inductive Tg where
 |ob (b:Nat)
 |nil (sz:Nat)
structure Pk where
 mp:List (Nat×Tg)
 fix:List Nat
def bH:List (Nat×Tg)->Nat->Option Tg
 |[],_=>none
 |(i,x)::l,j=>match Qy j i with
  |true=>some x
  |false=>bH l j
def G2:List (Nat×Tg)->Nat->Bool
 |[],_=>false
 |(_,.ob b)::l,j=>match Qy j b with
  |true=>true
  |false=>G2 l j
 |(_,.nil _)::l,j=>G2 l j
def Pk.LB(k:Pk)(i b:Nat):Option Pk:=match bH k.mp i with
 |some (.ob b')=>(match Qy b b' with
  |true=>some k
  |false=>none)
 |some (.nil _)=>none
 |none=>match G2 k.mp b with
  |true=>none
  |false=>some ⟨(i,.ob b)::k.mp,k.fix⟩
def Pk.Ca(k:Pk)(i sz:Nat):Option Pk:=match bH k.mp i with
 |some _=>none
 |none=>some ⟨(i,.nil sz)::k.mp,k.fix⟩
abbrev Ob:=Nat->Option O
def rG(ob:Ob):List C->Option (List D×List Nat)
 |[]=>some ([],[])
 |.d x::l=>(match rG ob l with
  |some (ds,bs)=>some (x::ds,bs)
  |none=>none)
 |.l sz::l=>(match rG ob l with
  |some (ds,bs)=>some (.sl 0 sz []::ds,bs)
  |none=>none)
 |.w b::l=>(match ob b with
  |some (.w _ sz n xs)=>(match rG ob l with
   |some (ds,bs)=>some (.sl n sz xs::ds,b::bs)
   |none=>none)
  |some (.s sz n xs)=>(match rG ob l with
   |some (ds,bs)=>some (.sl n sz xs::ds,bs)
   |none=>none)
  |_=>none)
 |_::_=>none
def II(ob:Ob)(k:Pk):jt->C->Option (List D×Pk)
 |.d,.d x=>some ([x],k)
 |.d,.l sz=>some ([.sl 0 sz []],k)
 |.i,.d x=>some ([x],k)
 |.bo,.d x=>some ([x],k)
 |.d,.w b=>(match ob b with
  |some (.w _ sz n ds)=>some ([.sl n sz ds],⟨k.mp,b::k.fix⟩)
  |some (.s sz n ds)=>some ([.sl n sz ds],k)
  |some (.v _ sz n ws)=>(match rG ob ws with
   |some (ds,bs)=>some ([.sl n sz ds],⟨k.mp,bs++b::k.fix⟩)
   |none=>none)
  |_=>none)
 |.p i off,.p b off'=>(match Qy off off' with
  |true=>(k.LB i b).map λk=>([],k)
  |false=>none)
 |.w i,.w b=>(k.LB i b).map λk=>([],k)
 |.w i,.l sz=>(k.Ca i sz).map λk=>([],k)
 |.m i,.m b=>(k.LB i b).map λk=>([],k)
 |.y i sz,.y b q sz' l n=>(match Qy q 0 && Qy sz sz' with
  |true=>(k.LB i b).map λk=>([.v (.int .i64 (l:Int)),.v (.int .i64 (n:Int))],k)
  |false=>none)
 |_,_=>none
def qI(ob:Ob):Pk->List jt->List C->Option (List D×Pk)
 |k,[],[]=>some ([],k)
 |k,s::ss,c::cs=>(match II ob k s c with
  |some (d,k)=>(match qI ob k ss cs with
   |some (ds,k)=>some (d++ds,k)
   |none=>none)
  |none=>none)
 |_,_,_=>none
def IH(ob:Ob)(k:Pk):jt->C->Option (List D×Pk)
 |.f g cs,.f g' cs'=>(match Qy g g' with
  |true=>qI ob k cs cs'
  |false=>none)
 |s,c=>II ob k s c
def jb(ob:Ob):Pk->List jt->List C->Option (List D×Pk)
 |k,[],[]=>some ([],k)
 |k,s::ss,c::cs=>(match IH ob k s c with
  |some (d,k)=>(match jb ob k ss cs with
   |some (ds,k)=>some (d++ds,k)
   |none=>none)
  |none=>none)
 |_,_,_=>none
def dsh:Nat->List jt
 |0=>[]
 |n+1=>.d::dsh n
def ND(ob:Ob)(k:Pk):lL->S->Option (List D×Pk)
 |.c s,.c x=>IH ob k s x
 |.a n,.a m ds=>(match Qy n m with
  |true=>some (ds,k)
  |false=>none)
 |.a n,.g cs=>jb ob k (dsh n) cs
 |.g ss,.g cs=>jb ob k ss cs
 |.g ss,.a n ds=>jb ob k ss ((cells n ds).map C.d)
 |_,_=>none
def isD:jt->Bool
 |.d=>true
 |.i=>true
 |.bo=>true
 |.y _ _=>true
 |_=>false
def LU:jt->Bool
 |.d=>true
 |.i=>true
 |.bo=>true
 |.y _ _=>true
 |.f _ cs=>cs.any isD
 |_=>false
def uq:lL->Bool
 |.c s=>LU s
 |.a _=>true
 |.g cs=>cs.any LU
 |.t _=>false
def ow(ob:Ob)(sl:Nat->S):Pk->List (Nat×lL)->Option (bR×Pk)
 |k,[]=>some ([],k)
 |k,(t,s)::l=>match ND ob k s (sl t) with
  |some (ds,k)=>(match ow ob sl k l with
   |some (r,k)=>(match uq s with
    |true=>some (ds::r,k)
    |false=>some (r,k))
   |none=>none)
  |none=>none
def NF(ob:Ob)(k:Pk)(i:Nat)(o:lV):Option (List D×Pk):=match bH k.mp i with
 |some (.ob b)=>(match o,ob b with
  |.b e cs,some (.b e' cs')=>(match Qy e e' with
   |true=>jb ob k cs cs'
   |false=>none)
  |.b e cs,some (.a e' n ds)=>(match Qy e e' with
   |true=>jb ob k cs ((cells n ds).map C.d)
   |false=>none)
  |.a e n,some (.a e' n' ds)=>(match Qy e e' with
   |true=>(match Qy n n' with
    |true=>some (ds,k)
    |false=>none)
   |false=>none)
  |.a e n,some (.b e' cs')=>(match Qy e e' with
   |true=>jb ob k (dsh n) cs'
   |false=>none)
  |.w e sz,some (.w e' sz' n ds)=>(match Qy e e' with
   |true=>(match Qy sz sz' with
    |true=>some ([.sl n sz ds],k)
    |false=>none)
   |false=>none)
  |.v e sz n cs,some (.v e' sz' n' cs')=>(match Qy e e' && Qy sz sz' && Qy n n' with
   |true=>jb ob k cs cs'
   |false=>none)
  |.m t ag vs,some (.m t' ag' vs' n ds)=>(match Qy t t' && UB (ag == ag') (Qy vs vs') with
   |true=>some ([.sl n (3+vs) ds],k)
   |false=>none)
  |.ms t ag vs,some (.ms t' ag' vs' n ds)=>(match Qy t t' && UB (ag == ag') (Qy vs vs') with
   |true=>some ([.sl n (3+vs) ds],k)
   |false=>none)
  |.x e sz,some (.x e' sz' n ds)=>(match Qy e e' && Qy sz sz' with
   |true=>some ([.sl n sz ds],k)
   |false=>none)
  |.x e sz,some (.w e' sz' n ds)=>(match Qy e e' && Qy sz sz' with
   |true=>some ([.sl n sz ds],k)
   |false=>none)
  |.it ag vs,some (.it ag' vs' _ n ds)=>(match UB (ag == ag') (Qy vs vs') with
   |true=>some ([.sl n (3+vs) ds],k)
   |false=>none)
  |_,_=>none)
 |some (.nil sz)=>(match o with
  |.w _ sz'=>(match Qy sz sz' with
   |true=>some ([.sl 0 sz []],k)
   |false=>none)
  |_=>none)
 |none=>none
def Ce:lV->Bool
 |.b _ cs=>cs.any LU
 |.v _ _ _ cs=>cs.any LU
 |_=>true
def oz(ob:Ob):Pk->List (Nat×lV)->Option (bR×Pk)
 |k,[]=>some ([],k)
 |k,(i,o)::l=>match NF ob k i o with
  |some (ds,k)=>(match oz ob k l with
   |some (r,k)=>(match Ce o with
    |true=>some (ds::r,k)
    |false=>some (r,k))
   |none=>none)
  |none=>none
def oG(obs:List (Nat×lV)):List (Nat×Tg)->Bool
 |[]=>true
 |(i,_)::l=>match obs.any λx=>Qy x.1 i with
  |true=>oG obs l
  |false=>false
def ri(mp:List (Nat×Tg)):List Nat->Bool
 |[]=>true
 |b::l=>match G2 mp b with
  |true=>false
  |false=>ri mp l
def nh:List (Nat×lV)->Bool
 |[]=>true
 |(i,_)::l=>match l.any λx=>Qy x.1 i with
  |true=>false
  |false=>nh l
def Gn(sh:Sh)(fr:Fr):Option (bR×Pk):=match ow fr.ob fr.sl ⟨[],[]⟩ sh.sl with
 |some (r,k)=>(match oz fr.ob k sh.ob with
  |some (r',k)=>(match oG sh.ob k.mp && ri k.mp k.fix && nh sh.ob with
   |true=>some (r++r',k)
   |false=>none)
  |none=>none)
 |none=>none
section
variable {α:Type} (Q:Qs α)
def unB(ds:List D)(j:Nat)(s:jt)(k:C->Nat->α):α:=match s with
 |.d=>k (.d (cell ds j)) (j+1)
 |.i=>Q.i (cell ds j) λz=>k (.d (.v (.int .i64 z))) (j+1)
 |.bo=>Q.bo (cell ds j) λz=>k (.d (.v (.bool z))) (j+1)
 |.p b off=>k (.p b off) j
 |.w b=>k (.w b) j
 |.m b=>k (.m b) j
 |.f _ _=>k .u j
 |.y b sz=>Q.i (cell ds j) λl=>Q.i (cell ds (j+1)) λn=>k (.y b 0 sz l.toNat n.toNat) (j+2)
def Bp(ds:List D):Nat->List jt->(List C->Nat->α)->α
 |j,[],k=>k [] j
 |j,s::ss,k=>unB Q ds j s λc j=>Bp ds j ss λcs j=>k (c::cs) j
def unC(ds:List D)(j:Nat)(s:jt)(k:C->Nat->α):α:=match s with
 |.f g cs=>Bp Q ds j cs λcs j=>k (.f g cs) j
 |s=>unB Q ds j s k
def wH(ds:List D):Nat->List jt->(List C->Nat->α)->α
 |j,[],k=>k [] j
 |j,s::ss,k=>unC Q ds j s λc j=>wH ds j ss λcs j=>k (c::cs) j
def Mv(ds:List D)(s:lL)(k:S->α):α:=match s with
 |.c s=>unC Q ds 0 s λc _=>k (.c c)
 |.a n=>k (.a n ds)
 |.g cs=>wH Q ds 0 cs λcs _=>k (.g cs)
 |.t _=>k su
def ab(r:bR)(j:Nat):List D:=r.getD j []
def fe(s:Bool)(r:bR)(j:Nat):List D×Nat:=match s with
 |true=>(ab r j,j+1)
 |false=>([],j)
def qq(r:bR):Nat->List (Nat×lL)->(Nat->S)->((Nat->S)->Nat->α)->α
 |j,[],f,k=>k f j
 |j,(t,s)::l,f,k=>Mv Q (fe (uq s) r j).1 s λx=>qq r (fe (uq s) r j).2 l (λi=>match Qy i t with
   |true=>x
   |false=>f i) k
def unO(ds:List D)(o:lV)(k:O->α):α:=match o with
 |.b e cs=>wH Q ds 0 cs λcs _=>k (.b e cs)
 |.v e sz n cs=>wH Q ds 0 cs λcs _=>k (.v e sz n cs)
 |.a e n=>k (.a e n ds)
 |.w e sz=>Q.sc sz (cell ds 0) λn cs=>k (.w e sz n cs)
 |.m t ag vs=>Q.sc (3+vs) (cell ds 0) λn cs=>k (.m t ag vs n cs)
 |.ms t ag vs=>Q.sc (3+vs) (cell ds 0) λn cs=>k (.ms t ag vs n cs)
 |.x e sz=>Q.sc sz (cell ds 0) λn cs=>k (.x e sz n cs)
 |.it ag vs=>Q.sc (3+vs) (cell ds 0) λn cs=>k (.it ag vs none n cs)
def CJ(b:Nat)(o:O)(f:Ob):Ob:=λk=>match Qy k b with
 |true=>some o
 |false=>f k
def vu(r:bR):Nat->List (Nat×lV)->Ob->(Ob->α)->α
 |_,[],f,k=>k f
 |j,(b,o)::l,f,k=>unO Q (fe (Ce o) r j).1 o λx=>vu r (fe (Ce o) r j).2 l (CJ b x f) k
def rh:List (Nat×lV)->Nat
 |[]=>0
 |(i,_)::l=>Nat.max (i+1) (rh l)
def ct(sh:Sh)(r:bR)(k:Fr->α):α:=qq Q r 0 sh.sl (λ_=>su) λsl j=>vu Q r j sh.ob (λ_=>none) λob=>k ⟨sl,ob,rh sh.ob⟩
end
def Mw(P:QE)(t:QH):Option Nat:=match P.info? t with
 |some i=>some i.size
 |none=>none
def zn(P:QE)(t:QH):Option Nat:=match P.underlying t with
 |some (.struct _)=>Mw P t
 |some (.array ..)=>Mw P t
 |_=>none
def AP(P:QE)(t:QH):Option (Nat×Nat):=match P.underlying t with
 |some (.slice e)=>(match Mw P e with
   |some sz=>some (e,sz)
   |none=>none)
 |_=>none
def fJ(P:QE)(t:QH):Nat:=match P.info? t with
 |some i=>i.bytes
 |none=>0
def qZ(P:QE)(s i:Nat):Option (Nat×Nat):=match P.underlying s with
 |some (.struct fs)=>(match fs[i]? with
   |some f=>(match P.info? f.type with
     |some j=>(match j.size with
       |0=>none
       |_+1=>some (f.offset,f.type))
     |none=>none)
   |none=>none)
 |_=>none
def Hp(P:QE):Nat->QH->List QH
 |0,t=>[t]
 |n+1,t=>match P.underlying t with
   |some (.struct fs)=>fs.toList.flatMap λf=>Hp P n f.type
   |some (.array k e)=>(QY k (Hp P n e)).flatten
   |_=>[t]
def zC(P:QE)(t:QH)(v:Qw):Option C:=match v,AP P t with
 |.slice none 0 0,some (_,sz)=>some (.l sz)
 |v,_=>match v.oneCell' with
   |true=>some (.d (.v v))
   |false=>none
def wz(P:QE):List QH->List Qw->Option (List C)
 |[],[]=>some []
 |t::ts,v::vs=>(match zC P t v,wz P ts vs with
   |some d,some ds=>some (d::ds)
   |_,_=>none)
 |_,_=>none
def ir(P:QE)(t:QH):Option (List C):=match jV P t with
 |some v=>wz P (Hp P 4 t) v.cells.toList
 |none=>none
def vE:List C->Option (List D)
 |[]=>some []
 |.d x::l=>(match vE l with
   |some ds=>some (x::ds)
   |none=>none)
 |.l sz::l=>(match vE l with
   |some ds=>some (.sl 0 sz []::ds)
   |none=>none)
 |_::_=>none
def GU:Option Qw->Bool
 |some (.agg _)=>true
 |_=>false
def conS:Qw->S
 |.slice none 0 0=>.c .n
 |.agg cs=>(match cs.toList.all Tz with
   |true=>.a cs.toList.length (cs.toList.map D.v)
   |false=>su)
 |v=>match v.oneCell' with
   |true=>.c (.d (.v v))
   |false=>su
def cK(x:QM)(k:S->bj):bj:=match x with
 |.tmp t=>.Kz t k
 |.const v=>k (conS v)
 |.func f=>k (.c (.f f []))
 |.global _=>.no
def fU(P:QE)(t:QH)(s:S):S:=match s with
 |.c .n=>(match AP P t with
   |some (_,sz)=>.c (.l sz)
   |none=>s)
 |s=>s
def nilC:C->C
 |.l _=>.d (.v (.slice none 0 0))
 |c=>c
def sf(hp:Bool)(s:S):S:=match hp with
 |false=>s
 |true=>match s with
   |.c c=>.c (nilC c)
   |.g cs=>.g (cs.map nilC)
   |s=>s
def xM(P:QE)(t:QH)(s:S):S:=match s with
 |.c (.d (.v v))=>(match v with
   |.slice none 0 0=>fU P t (.c .n)
   |.func (.func g) fs cs=>(match fs.toList,cs.toList with
     |[],[]=>.c (.f g [])
     |_,_=>s)
   |_=>s)
 |s=>s
def cv(v:S):bj:=.ret (some v) []
def zf:Option S->bj
 |some v=>cv v
 |none=>.no
def jD(id:Nat)(s:S)(os:List (Nat×O))(o:O):bj:=.lU id λx=>match x with
 |none=>.ret (some s) (os++[(id,o)])
 |some _=>.no
def lP(s:S)(k:Int->bj):bj:=match s with
 |.c (.d x)=>.i x k
 |_=>.no
def Fm(s:S)(k:Bool->bj):bj:=match s with
 |.c (.d x)=>.bo x k
 |_=>.no
def wM(s:S)(k:ByteArray->bj):bj:=match s with
 |.c (.d x)=>.st x k
 |_=>.no
def mY(z:Int):bj:=cv (.c (.d (.v (.int .i64 z))))
def mg(b:Bool):bj:=cv (.c (.d (.v (.bool b))))
def bt(z:Int):Prop:=-9223372036854775808<=z/\z<=9223372036854775807
instance (z:Int):Decidable (bt z):=by unfold bt;exact inferInstance
def Kh(sz:Nat)(s:S)(k:Nat->List D->bj):bj:=match s with
 |.c (.l sz')=>(match Qy sz' sz with
   |true=>k 0 []
   |false=>.no)
 |.c (.d x)=>.sc sz x k
 |.c (.w b)=>.lU b λo=>(match o with
   |some (.w _ sz' n ds)=>(match Qy sz' sz with
     |true=>k n ds
     |false=>.no)
   |some (.s sz' n ds)=>(match Qy sz' sz with
     |true=>k n ds
     |false=>.no)
   |some (.x _ sz' n ds)=>(match Qy sz' sz with
     |true=>k n ds
     |false=>.no)
   |_=>.no)
 |_=>.no
def Fe(c:C)(k:D->List (Nat×O)->bj):bj:=match c with
 |.d x=>k x []
 |.l sz=>k (.sl 0 sz []) []
 |.w b=>.lU b λo=>(match o with
   |some (.w _ sz n ds)=>k (.sl n sz ds) [(b,.s sz n ds)]
   |some (.s sz n ds)=>k (.sl n sz ds) []
   |_=>.no)
 |_=>.no
def Fc:List C->(List D->List (Nat×O)->bj)->bj
 |[],k=>k [] []
 |c::cs,k=>Fe c λd o=>Fc cs λds os=>k (d::ds) (o++os)
def FN(s:S)(k:Nat->List D->List (Nat×O)->bj):bj:=match s with
 |.c c=>Fe c λd os=>k 1 [d] os
 |.a n ds=>k n ds []
 |.g cs=>Fc cs λds os=>k cs.length ds os
 |_=>.no
def Ae:C->Bool
 |.u=>false
 |.z=>false
 |_=>true
def gQ:S->Option (List C)
 |.c c=>(match Ae c with
   |true=>some [c]
   |false=>none)
 |.a n ds=>some ((cells n ds).map C.d)
 |.g cs=>(match cs.all Ae with
   |true=>some cs
   |false=>none)
 |_=>none
def nJ(P:QE)(t:QH)(n:Nat)(ds:List D)(o:Nat):Option S:=match jZ P t with
 |true=>(match Sq o n with
   |true=>some (.c (.d (cell ds o)))
   |false=>none)
 |false=>match zn P t with
   |some m=>(match Qy o 0 && Qy m n with
     |true=>some (.a n ds)
     |false=>(match SI (o+m) n with
       |true=>some (.a m (sub ds o m))
       |false=>none))
   |none=>none
def sA(P:QE)(t:QH)(cs:List C)(o:Nat):Option S:=match jZ P t with
 |true=>(match cs[o]? with
   |some c=>some (.c c)
   |none=>none)
 |false=>match zn P t with
   |some m=>(match SI (o+m) cs.length with
     |true=>some (.g ((cs.drop o).take m))
     |false=>none)
   |none=>none
def nP:List C->Option (List D)
 |[]=>some []
 |.d x::l=>(match nP l with
   |some ds=>some (x::ds)
   |none=>none)
 |_::_=>none
def I4(P:QE)(t:QH)(n:Nat)(ds:List D)(i:Nat):bj:=match jZ P t with
 |true=>jg (i<n) (cv (.c (.d (cell ds i))))
 |false=>match zn P t with
   |some m=>jg (i+m<=n) (cv (.a m (sub ds i m)))
   |none=>.no
def OA(P:QE)(t:QH)(s:S):bj:=match s with
 |.r n ds o=>zf (nJ P t n ds o)
 |.c (.p b o)=>.lU b λx=>(match x with
   |some (.a _ n ds)=>zf (nJ P t n ds o)
   |some (.b _ cs)=>zf (sA P t cs o)
   |_=>.no)
 |.c (.q b sz k j)=>.lU b λx=>(match x with
   |some (.w _ sz' _ ds)=>(match Qy sz' sz with
     |true=>zf (nJ P t sz (el ds sz k) j)
     |false=>.no)
   |some (.s sz' _ ds)=>(match Qy sz' sz with
     |true=>zf (nJ P t sz (el ds sz k) j)
     |false=>.no)
   |some (.x _ sz' _ ds)=>(match Qy sz' sz with
     |true=>zf (nJ P t sz (el ds sz k) j)
     |false=>.no)
   |some (.v _ sz' _ cs)=>(match Qy sz' sz with
     |true=>zf (sA P t ((cs.drop (k*sz)).take sz) j)
     |false=>.no)
   |_=>.no)
 |.c (.e b i)=>.lU b λx=>(match x with
   |some (.a _ n ds)=>I4 P t n ds i
   |some (.b _ cs)=>(match nP cs with
     |some ds=>I4 P t cs.length ds i
     |none=>.no)
   |_=>.no)
 |_=>.no
def Bw(cs:List C)(o:Nat)(vs:List C):List C:=cs.take o++vs++cs.drop (o+vs.length)
def rf:O->Option (Nat×List C)
 |.a e n ds=>some (e,(cells n ds).map C.d)
 |.b e cs=>some (e,cs)
 |_=>none
def Jo:S->Option (Nat×List D)
 |.a n ds=>some (n,ds)
 |.c (.d x)=>some (1,[x])
 |_=>none
def Mp(m:Nat)(x:O)(o:Nat)(v:S):Option O:=match x with
 |.a e n ds=>(match Sq 40 n && Bool.not (Qy m n),Jo v with
   |true,some (m',vs)=>(match Qy m m' && SI (o+m) n with
     |true=>some (.a e n (cQ ds o vs))
     |false=>none)
   |_,_=>none)
 |_=>none
def qu(m:Nat)(x:O)(o:Nat)(v:S):Option O:=match Mp m x o v with
|some y=>some y
|none=>match rf x with
 |none=>none
 |some (e,us)=>match v with
   |.a m' vs=>(match Qy o 0 && Qy m' us.length && Qy m m' with
     |true=>some (.a e m' vs)
     |false=>(match Qy m' m && SI (o+m) us.length with
       |true=>some (.b e (Bw us o ((cells m' vs).map C.d)))
       |false=>none))
   |v=>(match gQ v with
     |some cs=>(match Qy cs.length m && SI (o+m) us.length with
       |true=>some (.b e (Bw us o cs))
       |false=>none)
     |none=>none)
def wN(P:QE)(t:QH)(s v:S):bj:=match Mw P t with
 |none=>.no
 |some m=>match s with
   |.c (.p b o)=>.lU b λx=>(match x with
     |some x=>(match qu m x o v with
       |some y=>.ret none [(b,y)]
       |none=>.no)
     |none=>.no)
   |.c (.q b sz k j)=>.lU b λx0=>match x0 with
     |some (.v e sz' n us)=>(match gQ v with
       |some cs=>(match Qy cs.length m && Qy sz sz' && SI (j+m) sz with
         |true=>.ret none [(b,.v e sz n (Bw us (k*sz+j) cs))]
         |false=>.no)
       |none=>.no)
     |_=>FN v λm' vs os=>(match Qy m m' with
     |true=>.lU b λx=>(match x with
       |some (.w e sz' n ds)=>(match Qy sz sz' && SI (j+m) sz with
         |true=>(match os.any λp=>Qy p.1 b with
           |true=>.no
           |false=>.ret none (os++[(b,.w e sz n (cQ ds (k*sz+j) vs))]))
         |false=>.no)
       |_=>.no)
     |false=>.no)
   |.c (.e b i)=>FN v λm' vs os=>(match Qy m m' with
     |true=>.lU b λx=>(match os.any λp=>Qy p.1 b with
       |true=>.no
       |false=>match x with
         |some (.a e n ds)=>jg (i+m<=n) (.ret none (os++[(b,.a e n (cQ ds i vs))]))
         |some (.b e cs)=>(match nP cs with
           |some ds=>jg (i+m<=cs.length) (.ret none (os++[(b,.a e cs.length (cQ ds i vs))]))
           |none=>.no)
         |_=>.no)
     |false=>.no)
   |_=>.no
def Hc(P:QE)(t:QH)(s:S)(i:Nat):bj:=match qZ P t i with
 |none=>.no
 |some (off,_)=>match s with
   |.r n ds o=>cv (.r n ds (o+off))
   |.c (.p b o)=>cv (.c (.p b (o+off)))
   |.c (.q b sz k j)=>cv (.c (.q b sz k (j+off)))
   |.c (.e b i)=>cv (.c (.e b (i+off)))
   |_=>.no
def Cj(P:QE)(t:QH)(s:S)(i:Nat):bj:=match qZ P t i with
 |none=>.no
 |some (off,ft)=>match s with
   |.a n ds=>zf (nJ P ft n ds off)
   |.g cs=>zf (sA P ft cs off)
   |_=>.no
def NC:Nat->Nat->Int->(Nat->bj)->bj
 |0,_,_,_=>.no
 |n+1,j,z,k=>.we (decide (z=(j:Int))) (k j) (NC n (j+1) z k)
def CH(P:QE)(t:QH):Option (Nat×Nat×Nat):=match P.underlying t with
 |some (.array n e)=>(match Mw P e with
   |some sz=>(match Sq 0 sz && (Sq 1 n && SI n 1000000) with
     |true=>some (n,e,sz)
     |false=>none)
   |none=>none)
 |_=>none
def JL(s:S)(k:Nat->Nat->bj):bj:=match s with
 |.c (.p b o)=>k b o
 |.c (.e b i)=>k b i
 |_=>.no
def GW(P:QE)(t:QH)(s i:S):bj:=match AP P t with
 |none=>(match CH P t with
   |some (n,_,sz)=>JL s λb o=>lP i λz=>jg (0<=z/\z<(n:Int)) (cv (.c (.e b (o+z.toNat*sz))))
   |none=>.no)
 |some (_,sz)=>match s with
   |.c (.d x)=>lP i λz=>.sc sz x λn cs=>jg (0<=z/\z<n) (cv (.r sz (el cs sz z.toNat) 0))
   |.c (.w b)=>lP i λz=>.KA b λo=>(match o with
     |some (.w _ sz' n _)=>(match Qy sz' sz with
       |true=>jg (0<=z/\z<n) (cv (.c (.q b sz z.toNat 0)))
       |false=>.no)
     |some (.s _ _ _)=>.lU b λo=>(match o with
       |some (.s sz' n ds)=>(match Qy sz' sz with
         |true=>jg (0<=z/\z<n) (cv (.r sz (el ds sz z.toNat) 0))
         |false=>.no)
       |_=>.no)
     |some (.x _ sz' n _)=>(match Qy sz' sz with
       |true=>jg (0<=z/\z<n) (cv (.c (.q b sz z.toNat 0)))
       |false=>.no)
     |some (.v _ sz' n _)=>(match Qy sz' sz with
       |true=>jg (0<=z/\z<n) (NC n 0 z λk=>cv (.c (.q b sz k 0)))
       |false=>.no)
     |_=>.no)
   |.c (.y b q sz' l n)=>lP i λz=>(match Qy sz' sz with
     |true=>.lU b λo=>(match o with
       |some (.w _ _ _ _)=>jg (0<=z/\z<(n:Int)) (cv (.c (.q b sz (l+z.toNat) 0)))
       |some (.x _ _ _ _)=>jg (0<=z/\z<(n:Int)) (cv (.c (.q b sz (l+z.toNat) 0)))
       |some (.a _ _ _)=>jg (0<=z/\z<(n:Int)) (cv (.c (.e b (q+(l+z.toNat)*sz))))
       |some (.b _ _)=>jg (0<=z/\z<(n:Int)) (cv (.c (.e b (q+(l+z.toNat)*sz))))
       |_=>.no)
     |false=>.no)
   |_=>.no
def OQ(P:QE)(t:QH):Bool:=match P.underlying t with
 |some (.int .i64)=>true
 |_=>false
def KD(s:S)(k:List D->bj):bj:=match s with
 |.a _ ds=>k ds
 |.g [.d a,.d b,.d c]=>k [a,b,c]
 |_=>.no
def Ic:S->Bool
 |.a n _=>Qy n 3
 |_=>true
def sE(P:QE)(t:QH):Option R6:=match P.underlying t with
 |some (.int k)=>some k
 |_=>none
def kP(kd:R6)(s:S)(k:Int->bj):bj:=match s with
 |.c (.d x)=>.ik kd x k
 |_=>.no
def rK(kd:R6)(z:Int):bj:=cv (.c (.d (.v (.int kd z))))
def HA(kd:R6)(op:WY)(a b:Int):bj:=match op with
 |.add=>rK kd (kd.wrap (a+b))
 |.sub=>rK kd (kd.wrap (a-b))
 |.mul=>rK kd (kd.wrap (a*b))
 |.quo=>jg (b≠0) (rK kd (kd.wrap (a.tdiv b)))
 |.rem=>jg (b≠0) (rK kd (a.tmod b))
 |.and=>rK kd (bits .and kd a b)
 |.or=>rK kd (bits .or kd a b)
 |.xor=>rK kd (bits .xor kd a b)
 |.andNot=>rK kd (bits .andNot kd a b)
 |.lss=>mg (decide (a<b))
 |.leq=>mg (decide (a<=b))
 |.gtr=>mg (decide (b<a))
 |.geq=>mg (decide (b<=a))
 |_=>.no
def isSh:WY->Bool
 |.shl=>true
 |.shr=>true
 |_=>false
def F2(P:QE)(op:WY)(t t':QH)(x y:S):bj:=match sE P t,sE P t' with
 |some k,some k'=>kP k x λa=>kP k' y λb=>(match op with
   |.shl=>jg (0<=b) (rK k (k.wrap (a*2 ^ min b.toNat k.bits)))
   |.shr=>jg (0<=b) (rK k (a / 2 ^ min b.toNat k.bits))
   |_=>.no)
 |_,_=>.no
def eqP(P:QE)(tb:Tb)(t:QH)(x y:S)(k:Bool->bj):bj:=match P.underlying t with
 |some (.int .i64)=>lP x λa=>lP y λb=>k (decide (a=b))
 |some .string=>wM x λa=>wM y λb=>k (decide (a=b))
 |some .bool=>Fm x λa=>Fm y λb=>k (a == b)
 |some (.struct _)=>(match tb.eq3.any (Qy t) && Ic x && Ic y with
   |true=>KD x λa=>KD y λb=>.i (cell a 0) λa0=>.i (cell a 1) λa1=>.i (cell a 2) λa2 =>
       .i (cell b 0) λb0=>.i (cell b 1) λb1=>.i (cell b 2) λb2=>k (decide (a0=b0/\a1=b1/\a2=b2))
   |false=>.no)
 |some (.int kd)=>kP kd x λa=>kP kd y λb=>k (decide (a=b))
 |some (.array n e)=>(match tb.eqa.any (Qy t),sE P e,x,y with
   |true,some kd,.a m ds,.a m' ds'=>(match Qy m n && Qy m' n with
     |true=>.FJ kd ds λa=>.FJ kd ds' λb=>k (decide (a=b))
     |false=>.no)
   |_,_,_,_=>.no)
 |_=>.no
def Hz(op:WY)(a b:Int):bj:=match op with
 |.add=>jg (bt (a+b)) (mY (a+b))
 |.sub=>jg (bt (a-b)) (mY (a-b))
 |.mul=>jg (bt (a*b)) (mY (a*b))
 |.quo=>jg (b≠0/\bt (a.tdiv b)) (mY (a.tdiv b))
 |.rem=>jg (b≠0) (mY (a.tmod b))
 |.lss=>mg (decide (a<b))
 |.leq=>mg (decide (a<=b))
 |.gtr=>mg (decide (b<a))
 |.geq=>mg (decide (b<=a))
 |.and=>mY (bits .and .i64 a b)
 |.or=>mY (bits .or .i64 a b)
 |.xor=>mY (bits .xor .i64 a b)
 |_=>.no
def CC(P:QE)(tb:Tb)(op:WY)(t:QH)(x y:S):bj:=match op with
 |.eql=>eqP P tb t x y mg
 |.neq=>eqP P tb t x y λb=>mg (!b)
 |_=>match P.underlying t with
   |some (.int .i64)=>lP x λa=>lP y λb=>Hz op a b
   |some .string=>wM x λa=>wM y λb=>(match op with
     |.add=>jg (a.size+b.size<=1000000) (cv (.c (.d (.v (.string (a++b))))))
     |_=>.no)
   |some (.int kd)=>kP kd x λa=>kP kd y λb=>HA kd op a b
   |_=>.no
def unP(P:QE)(op:UnOp)(t:QH)(x:S):bj:=match op with
 |.not=>Fm x λa=>mg (!a)
 |.neg=>(match OQ P t with
   |true=>lP x λa=>jg (bt (-a)) (mY (-a))
   |false=>.no)
 |.xor=>(match sE P t with
   |some k=>kP k x λa=>rK k (bits .xor k (match k.signed with
     |true=>-1
     |false=>k.max) a)
   |none=>.no)
 |_=>.no
def PE(P:QE)(s t:QH)(x:S):bj:=match sE P s,sE P t with
 |some k,some k'=>kP k x λz=>rK k' (k'.wrap z)
 |_,_=>match P.underlying t with
   |some .string=>(match P.underlying s with
     |some (.slice e)=>(match sE P e with
       |some .u8=>Kh 1 x λ_ cs=>.FJ .u8 cs λzs=>cv (.c (.d (.v (.string (strB zs)))))
       |_=>.no)
     |some .string=>wM x λb=>cv (.c (.d (.v (.string b))))
     |_=>.no)
   |_=>.no
def oneB(P:QE)(t:QH):Bool:=match Mw P t with
 |some m=>Qy m 1
 |none=>false
def Cv(s:ByteArray)(i:Nat):Int:=((s.data.toList.getD i 0).toNat:Int)
def pB(P:QE)(t:QH)(x i:S):bj:=match P.underlying t with
 |some .string=>wM x λs=>lP i λz=>jg (0<=z/\z<(s.size:Int)) (rK .u8 (Cv s z.toNat))
 |some (.array n e)=>(match x with
   |.a m ds=>(match Qy n m && jZ P e && oneB P e with
     |true=>lP i λz=>jg (0<=z/\z<(n:Int)) (cv (.c (.d (cell ds z.toNat))))
     |false=>.no)
   |_=>.no)
 |_=>.no
def Cc(P:QE)(t:QH)(x i:S):bj:=match P.underlying t,i with
 |some .string,.c (.d (.v (.int _ z)))=>wM x λs=>jg (0<=z/\z<(s.size:Int)) (rK .u8 (Cv s z.toNat))
 |some (.array n e),.c (.d (.v (.int .i64 z)))=>(match jZ P e,zn P e,x with
   |false,some sz,.a m ds=>(match Qy m (n*sz) with
     |true=>jg (0<=z/\z<(n:Int)) (cv (.a sz (sub ds (z.toNat*sz) sz)))
     |false=>.no)
   |_,_,_=>pB P t x i)
 |_,_=>pB P t x i
def IE(P:QE)(t:QH):Option (List (Nat×Nat)):=match CH P t with
 |some (n,_,sz)=>some ((UQ n).map λi=>(i*sz,sz))
 |none=>BJ P t
def partT(P:QE)(t i:Nat):Option Nat:=match CH P t with
 |some (_,e,_)=>some e
 |none=>match qZ P t i with
   |some (_,ft)=>some ft
   |none=>none
def BK(P:QE)(t:QH)(pl:List (Nat×Nat)):List (Nat×QM)->List C->(List C->bj)->bj
 |[],cs,k=>k cs
 |(i,x)::l,cs,k=>match pl[i]?,partT P t i with
   |some (off,m),some ft=>cK x λs=>(match gQ (fU P ft s) with
       |some vs=>(match Qy vs.length m && SI (off+m) cs.length with
         |true=>BK P t pl l (Bw cs off vs) k
         |false=>.no)
       |none=>.no)
   |_,_=>.no
def Hs(P:QE)(t:QH)(parts:List (Nat×QM)):bj:=match IE P t,ir P t,GU (jV P t) with
 |some pl,some zs,true=>BK P t pl parts zs λcs=>cv (.g cs)
 |_,_,_=>.no
def BM(P:QE)(hp:Bool)(e sz:Nat):Nat->List (Nat×QM)->(List D->List (Nat×O)->bj)->bj
 |_,[],k=>k [] []
 |j,(i,x)::l,k=>match Qy i j with
   |true=>cK x λs=>FN (sf hp (fU P e s)) λm ds os=>(match Qy m sz with
     |true=>BM P hp e sz (j+1) l λr os'=>k (ds++r) (os++os')
     |false=>.no)
   |false=>.no
def j7(P:QE)(e sz:Nat):Bool:=match P.info? e with
 |some i=>Qy i.size sz && (match i.zero with
   |some z=>Qy z.cells.size sz
   |none=>false) && Sq 0 sz
 |none=>false
def oW(P:QE)(hp:Bool)(id:Nat)(t:QH)(len:Nat)(parts:List (Nat×QM)):bj:=match AP P t with
 |some (e,sz)=>(match Qy parts.length len && SI (len*sz) 16777216 && j7 P e sz with
   |true=>BM P hp e sz 0 parts λds os=>jD id (.c (.w id)) os (.w e sz len ds)
   |false=>.no)
 |none=>.no
def Bl(P:QE)(e sz:Nat):Nat->List (Nat×QM)->(List C->bj)->bj
 |_,[],k=>k []
 |j,(i,x)::l,k=>match Qy i j with
   |true=>cK x λs=>match gQ (fU P e s) with
     |some cs=>(match Qy cs.length sz with
       |true=>Bl P e sz (j+1) l λr=>k (cs++r)
       |false=>.no)
     |none=>.no
   |false=>.no
def uz(P:QE)(id:Nat)(t:QH)(len:Nat)(parts:List (Nat×QM)):bj:=match AP P t with
 |some (e,sz)=>(match Qy parts.length len && SI (len*sz) 16777216 && j7 P e sz with
   |true=>Bl P e sz 0 parts λcs=>jD id (.c (.w id)) [] (.v e sz len cs)
   |false=>.no)
 |none=>.no
def HB(P:QE)(id:Nat)(t:QH):bj:=match ir P t with
 |some zs=>(match Sq 40 zs.length,vE zs with
   |true,some ds=>jD id (.c (.p id 0)) [] (.a t zs.length ds)
   |_,_=>jD id (.c (.p id 0)) [] (.b t zs))
 |none=>.no
def boxP(P:QE)(id:Nat)(t:QH)(s:S):bj:=match fU P t s with
 |.a n ds=>jD id (.c (.p id 0)) [] (.a t n ds)
 |s=>(match gQ s with
   |some cs=>jD id (.c (.p id 0)) [] (.b t cs)
   |none=>.no)
def aO(n bytes:Nat):Prop:=n*bytes<=140737488355328
instance (n bytes:Nat):Decidable (aO n bytes):=by unfold aO;exact inferInstance
def Nl(sz:Nat)(s:S)(k:Nat->Nat->Nat->Nat->Nat->List D->bj)(nzz:bj):bj:=match s with
 |.c (.w b)=>.lU b λo=>(match o with
   |some (.w e sz' N ds)=>(match Qy sz' sz with
     |true=>k b 0 N N e ds
     |false=>.no)
   |some (.x e sz' N ds)=>(match Qy sz' sz with
     |true=>k b 0 N N e ds
     |false=>.no)
   |_=>nzz)
 |.c (.y b q sz' l n)=>.lU b λo=>(match o with
   |some (.w e sz2 N ds)=>(match Qy q 0 && (Qy sz' sz && Qy sz2 sz) with
     |true=>k b l n N e ds
     |false=>.no)
   |some (.x e sz2 N ds)=>(match Qy q 0 && (Qy sz' sz && Qy sz2 sz) with
     |true=>k b l n N e ds
     |false=>.no)
   |_=>nzz)
 |_=>nzz
def C8(sz:Nat)(s:S)(k:Nat->List D->bj):bj:=match s with
 |.c (.y b q sz' l n)=>Nl sz (.c (.y b q sz' l n)) (λ_ l n _ _ ds=>k n (sub ds (l*sz) (n*sz))) .no
 |s=>Kh sz s k
def Aw(e sz:Nat)(s:S)(k:Nat->List D->List (Nat×O)->bj):bj:=match s with
 |.c .n=>k 0 [] []
 |.c (.l sz')=>(match Qy sz' sz with
   |true=>k 0 [] []
   |false=>.no)
 |.c (.w b)=>.lU b λo=>(match o with
   |some (.w e' sz' n ds)=>(match Qy e e' && Qy sz sz' with
     |true=>k n ds [(b,.bW)]
     |false=>.no)
   |_=>.no)
 |_=>.no
def sM(e sz:Nat)(s:S)(k:Nat->List C->List (Nat×O)->bj):bj:=match s with
 |.c .n=>k 0 [] []
 |.c (.l sz')=>(match Qy sz' sz with
   |true=>k 0 [] []
   |false=>.no)
 |.c (.w b)=>.lU b λo=>(match o with
   |some (.v e' sz' n cs)=>(match Qy e e' && Qy sz sz' with
     |true=>k n cs [(b,.bW)]
     |false=>.no)
   |_=>.no)
 |_=>.no
def nD(P:QE)(id:Nat)(t:QH)(s x:S):bj:=match AP P t with
 |none=>.no
 |some (e,sz)=>match j7 P e sz with
   |false=>.no
   |true=>match x with
     |.c (.w b2)=>.lU b2 λo2=>(match o2 with
       |some (.v e2 sz2 m vs)=>(match Qy e e2 && Qy sz sz2 && vs.all Ae with
         |true=>sM e sz s λn cs os=>jg (aO (n+m) (fJ P e+1)) (jD id (.c (.w id)) os (.v e sz (n+m) (cs++vs)))
         |false=>.no)
       |_=>Aw e sz s λn ds os=>C8 sz x λm vs=>jg (aO (n+m) (fJ P e+1)) (jD id (.c (.w id)) os (.w e sz (n+m) (ds++vs))))
     |x=>Aw e sz s λn ds os=>C8 sz x λm vs=>jg (aO (n+m) (fJ P e+1)) (jD id (.c (.w id)) os (.w e sz (n+m) (ds++vs)))
def lenP(P:QE)(t:QH)(s:S):bj:=match P.underlying t with
 |some (.slice _)=>(match AP P t with
   |some (_,sz)=>(match s with
     |.c (.w b)=>.KA b λo=>(match o with
       |some (.v _ sz' n _)=>(match Qy sz' sz with
         |true=>mY (n:Int)
         |false=>.no)
       |some (.w _ sz' n _)=>(match Qy sz' sz with
         |true=>mY (n:Int)
         |false=>.no)
       |some (.s sz' n _)=>(match Qy sz' sz with
         |true=>mY (n:Int)
         |false=>.no)
       |some (.x _ sz' n _)=>(match Qy sz' sz with
         |true=>mY (n:Int)
         |false=>.no)
       |_=>.no)
     |.c (.y _ _ sz' _ n)=>(match Qy sz' sz with
       |true=>mY (n:Int)
       |false=>.no)
     |s=>Kh sz s λn _=>mY (n:Int))
   |none=>.no)
 |some .string=>wM s λa=>mY (a.size:Int)
 |_=>.no
def sameB:jt->C->Bool
 |.d,.d _=>true
 |.i,.d _=>true
 |.bo,.d _=>true
 |.d,.w _=>true
 |.d,.l _=>true
 |.d,.y _ _ _ _ _=>true
 |.p _ o,.p _ o'=>Qy o o'
 |.w _,.w _=>true
 |.w _,.l _=>true
 |.m _,.m _=>true
 |_,_=>false
def M9:List jt->List C->Bool
 |[],[]=>true
 |s::ss,c::cs=>sameB s c && M9 ss cs
 |_,_=>false
def sameC:jt->C->Bool
 |.f g cs,.f g' cs'=>Qy g g' && M9 cs cs'
 |s,c=>sameB s c
def M8:List jt->List C->Bool
 |[],[]=>true
 |s::ss,c::cs=>sameC s c && M8 ss cs
 |_,_=>false
def sameS:lL->S->Bool
 |.c s,.c c=>sameC s c
 |.a n,.a m _=>Qy n m
 |.a n,.g cs=>Qy n cs.length
 |.g ss,.g cs=>M8 ss cs
 |.g ss,.a n _=>Qy ss.length n
 |_,_=>false
def AJ:List (Nat×lL)->List S->Bool
 |[],[]=>true
 |(_,s)::l,x::xs=>sameS s x && AJ l xs
 |_,_=>false
def L9:List QM->(List S->bj)->bj
 |[],k=>k []
 |x::xs,k=>cK x λs=>L9 xs λl=>k (s::l)
def kx(P:QE):List QH->List S->List S
 |t::ts,s::l=>fU P t s::kx P ts l
 |_,l=>l
def xl:C->List Nat
 |.p b _=>[b]
 |.q b _ _ _=>[b]
 |.w b=>[b]
 |.m b=>[b]
 |.e b _=>[b]
 |.y b _ _ _ _=>[b]
 |_=>[]
def DL:C->List Nat
 |.f _ cs=>cs.flatMap xl
 |c=>xl c
def pY:S->List Nat
 |.c c=>DL c
 |.g cs=>cs.flatMap DL
 |.t l=>l.flatMap fun|.c c=>DL c|.g cs=>cs.flatMap DL|_=>[]
 |_=>[]
def Ns:O->List Nat
 |.b _ cs=>cs.flatMap DL
 |.v _ _ _ cs=>cs.flatMap DL
 |_=>[]
def nv:List (Nat×O)->Nat->Option O
 |[],_=>none
 |(i,o)::l,b=>match Qy b i with
   |true=>some o
   |false=>nv l b
def cM:List (Nat×O)->Nat->Bool
 |[],_=>false
 |(i,_)::l,b=>match Qy b i with
   |true=>true
   |false=>cM l b
def xq:Nat->List Nat->List (Nat×O)->(List (Nat×O)->bj)->bj
 |0,_,_,_=>.no
 |_+1,[],acc,k=>k acc
 |n+1,b::l,acc,k=>match cM acc b with
   |true=>xq n l acc k
   |false=>.lU b λo=>match o with
     |some o=>xq n (Ns o++l) ((b,o)::acc) k
     |none=>.no
def wL(acc:List (Nat×O)):List Nat->Bool
 |[]=>true
 |b::l=>match cM acc b with
   |true=>wL acc l
   |false=>false
def uO(acc:List (Nat×O)):List (Nat×O)->Bool
 |[]=>true
 |(_,o)::l=>match wL acc (Ns o) with
   |true=>uO acc l
   |false=>false
def uT:List (Nat×O)->Bool
 |[]=>true
 |(i,_)::l=>match cM l i with
   |true=>false
   |false=>uT l
def Eb(id:Nat)(acc:List (Nat×O)):List (Nat×O)->bj->bj
 |[],k=>k
 |(b,_)::l,k=>match cM acc b with
   |true=>Eb id acc l k
   |false=>jg (id<=b) (.lU b λx=>match x with
     |none=>Eb id acc l k
     |some _=>.no)
def isT:S->Bool
 |.t _=>true
 |_=>false
def PQ(P:QE)(id f:Nat)(xs:List S):bj:=match P.funcs[f]?,oP P f with
 |some fn,true=>xq 100000 ((kx P fn.params.toList xs).flatMap pY) [] λacc=>match wL acc ((kx P fn.params.toList xs).flatMap pY) && (uO acc acc && uT acc) with
   |true=>.inl id f (kx P fn.params.toList xs) acc λv os=>(match wL os (pY v) && (uO os os && (uT os && wL os (acc.map QZ))) with
     |true=>Eb id acc os (.ret (some v) os)
     |false=>.no)
   |false=>.no
 |_,_=>.no
def refC:C->List Nat
 |.p b _=>[b]
 |.w b=>[b]
 |.m b=>[b]
 |.e b _=>[b]
 |.y b _ _ _ _=>[b]
 |.f _ cs=>cs.flatMap fun|.p b _=>[b]|.w b=>[b]|.m b=>[b]|_=>[]
 |_=>[]
def refS:S->List Nat
 |.c c=>refC c
 |.g cs=>cs.flatMap refC
 |_=>[]
def refO:Option O->List Nat
 |some (.b _ cs)=>cs.flatMap refC
 |some (.v _ _ _ cs)=>cs.flatMap refC
 |_=>[]
def xp:Nat->List Nat->List Nat->(Ob->bj)->Ob->bj
 |0,_,_,k,f=>k f
 |_+1,[],_,k,f=>k f
 |n+1,b::l,seen,k,f=>match seen.contains b with
   |true=>xp n l seen k f
   |false=>.lU b λo=>xp n (l++refO o) (b::seen) k (λi=>match Qy i b with
     |true=>o
     |false=>f i)
def cB:Nat->List S->(Nat->S)
 |_,[]=>λ_=>su
 |j,s::l=>λk=>match Qy k j with
   |true=>s
   |false=>cB (j+1) l k
def bx(mp:List (Nat×Tg))(d i:Nat):Nat:=match bH mp i with
 |some (.ob b)=>b
 |_=>d+10000*(i+1)
def JM(mp:List (Nat×Tg))(d:Nat):C->C
 |.p b o=>.p (bx mp d b) o
 |.w b=>.w (bx mp d b)
 |.m b=>.m (bx mp d b)
 |.q _ _ _ _=>.u
 |.e _ _=>.u
 |.y _ _ _ _ _=>.u
 |c=>c
def A6(mp:List (Nat×Tg))(d:Nat):C->C
 |.f g cs=>.f g (cs.map (JM mp d))
 |c=>JM mp d c
def Fu(mp:List (Nat×Tg))(d:Nat):S->S
 |.c c=>.c (A6 mp d c)
 |.g cs=>.g (cs.map (A6 mp d))
 |s=>s
def A5(mp:List (Nat×Tg))(d:Nat):O->O
 |.b e cs=>.b e (cs.map (A6 mp d))
 |.v e sz n cs=>.v e sz n (cs.map (A6 mp d))
 |o=>o
def freeP(mp:List (Nat×Tg))(d i:Nat)(k:bj):bj:=match bH mp i with
 |some (.ob _)=>k
 |_=>.lU (d+10000*(i+1)) λx=>match x with
   |none=>k
   |some _=>.no
def HX(mp:List (Nat×Tg))(d:Nat)(r:bR):Nat->List (Nat×lV)->List (Nat×O)->(List (Nat×O)->bj)->bj
 |_,[],l,k=>k l
 |j,(b,o)::os,l,k=>unO qb (fe (Ce o) r j).1 o λx=>freeP mp d b (HX mp d r (fe (Ce o) r j).2 os (l++[(bx mp d b,A5 mp d x)]) k)
def unRs(r:bR):Nat->List lL->(List S->Nat->bj)->bj
 |j,[],k=>k [] j
 |j,s::l,k=>Mv qb (fe (uq s) r j).1 s λx=>unRs r (fe (uq s) r j).2 l λxs j=>k (x::xs) j
def unR(r:bR)(s:lL)(k:S->Nat->bj):bj:=match s with
 |.t l=>unRs r 0 l λxs j=>k (.t xs) j
 |s=>Mv qb (fe (uq s) r 0).1 s λx=>k x (fe (uq s) r 0).2
def A4(mp:List (Nat×Tg))(d:Nat):S->S
 |.t l=>.t (l.map (Fu mp d))
 |s=>Fu mp d s
def gq(ob:Ob):List Nat->List (Nat×O)
 |[]=>[]
 |b::l=>match ob b with
   |some (.w _ sz n ds)=>(b,.s sz n ds)::gq ob l
   |_=>gq ob l
def gN(ob:Ob)(fx:List Nat):List Nat->List (Nat×O)
 |[]=>[]
 |b::l=>match ob b with
   |some (.v _ sz n ws)=>(match rG ob ws with
     |some (ds,bs)=>(match bs.all λx=>fx.any (Qy x) with
       |true=>(b,.s sz n ds)::gN ob fx l
       |false=>gN ob fx l)
     |none=>gN ob fx l)
   |_=>gN ob fx l
def bW(jl:List (Nat×lV)):List (Nat×Tg)->List (Nat×O)
 |[]=>[]
 |(i,.ob b)::l=>(match jl.any λx=>Qy x.1 i with
   |true=>bW jl l
   |false=>(b,.bW)::bW jl l)
 |_::l=>bW jl l
def w4:lL->Bool
 |.c .i=>true
 |.c .bo=>true
 |_=>false
def lendB(s:bA):Bool:=s.ins.ob.isEmpty && s.jl.isEmpty && (match s.out with
 |.t l=>l.all w4
 |.a _=>true
 |s=>w4 s)
def P7:List D->Bool
 |[]=>true
 |.v _::l=>P7 l
 |_::_=>false
def Gk(v:S)(k:bj):bj:=match v with
 |.a _ ds=>jg (P7 ds=true) k
 |_=>k
def yS(ob:Ob):S->S
 |.c (.y b q sz l n)=>(match ob b with
   |some (.a _ m ds)=>(match Qy sz 1 && (SI (q+l*sz+n) m && SI n 1000000) with
     |true=>.c (.d (.sl n 1 (sub ds (q+l*sz) n)))
     |false=>.c (.y b q sz l n))
   |_=>.c (.y b q sz l n))
 |s=>s
def yBs:List S->List Nat
 |[]=>[]
 |.c (.y b _ _ _ _)::l=>b::yBs l
 |_::l=>yBs l
def Ja(ln:Bool)(ob:Ob)(l:List S):List S:=match ln with
 |true=>l.map (yS ob)
 |false=>l
def Ci(tb:Tb)(ob:Ob)(f:Nat)(xs:List S):Option bA:=tb.sg.find? λs=>Qy s.f f && AJ s.ins.sl xs && (Gn s.ins ⟨cB 0 (Ja s.Ep ob xs),ob,0⟩).isSome
def JF(P:QE)(tb:Tb)(id f:Nat)(xs:List S):bj:=match tb.ic with
|true=>PQ P id f xs
|false=>match P.funcs[f]?,oP P f with
 |none,_=>.no
 |some _,false=>.no
 |some fn,true=>xp 12 (xs.flatMap refS) [] (λob=>match Ci tb ob f (kx P fn.params.toList xs) with
   |none=>.no
   |some s=>match Gn s.ins ⟨cB 0 (Ja s.Ep ob (kx P fn.params.toList xs)),ob,0⟩ with
     |none=>.no
     |some (a,k)=>match gN ob k.fix k.fix with
      |_::_=>.no
      |[]=>match s.Ep with
       |true=>(match lendB s with
         |true=>.ca s a λr=>unR r s.out λv _=>Gk v (.ret (some v) [])
         |false=>.no)
       |false=>(match nh s.jl with
         |true=>.ca s a λr=>unR r s.out λv j=>HX k.mp id r j s.jl (gq ob k.fix++bW s.jl k.mp) λos=>.ret (some (A4 k.mp id v)) os
         |false=>.no)) (λ_=>none)
def nj(n:Nat)(x:Option QM)(k:Int->bj):bj:=match x with
 |none=>k (n:Int)
 |some x=>cK x λs=>lP s k
def tC(P:QE)(t:QH)(x:S)(lo hi mx:Option QM):bj:=match mx with
 |some _=>.no
 |none=>match AP P t with
   |some (_,sz)=>(match x with
     |.c (.y b q sz' l0 n)=>(match Qy sz' sz with
       |true=>nj 0 lo λl=>nj n hi λh=>jg (0<=l/\l<=h/\h<=(n:Int)) (cv (.c (.y b q sz (l0+l.toNat) (h.toNat-l.toNat))))
       |false=>.no)
     |.c c=>Fe c λx os=>.sc sz x λn cs=>nj 0 lo λl=>nj n hi λh =>
         jg (0<=l/\l<=h/\h<=n) (.ret (some (.c (.d (.sl (h.toNat-l.toNat) sz (sub cs (l.toNat*sz) ((h.toNat-l.toNat)*sz)))))) os)
     |_=>.no)
   |none=>match CH P t with
    |some (n,_,sz)=>JL x λb o=>nj 0 lo λl=>nj n hi λh=>jg (0<=l/\l<=h/\h<=(n:Int)) (cv (.c (.y b o sz l.toNat (h.toNat-l.toNat))))
    |none=>match P.underlying t with
     |some .string=>wM x λs=>nj 0 lo λl=>nj s.size hi λh =>
         jg (0<=l/\l<=h/\h<=(s.size:Int)) (cv (.c (.d (.v (.string (s.extract l.toNat h.toNat))))))
     |_=>.no
def rowH(sz:Nat)(s:S)(k:Nat->Nat->Nat->Nat->Nat->List D->bj)(nzz:bj):bj:=match s with
 |.c (.w b)=>.lU b λo=>(match o with
   |some (.w e sz' N ds)=>(match Qy sz' sz with
     |true=>k b 0 N N e ds
     |false=>.no)
   |_=>nzz)
 |.c (.y b q sz' l n)=>.lU b λo=>(match o with
   |some (.w e sz2 N ds)=>(match Qy q 0 && (Qy sz' sz && Qy sz2 sz) with
     |true=>k b l n N e ds
     |false=>.no)
   |_=>nzz)
 |_=>nzz
def Bt(P:QE)(t:QH)(x:S)(lo hi mx:Option QM):bj:=match AP P t with
 |none=>tC P t x lo hi mx
 |some (_,sz)=>match x with
   |.c (.l sz')=>(match mx,Qy sz' sz with
     |none,true=>nj 0 lo λl=>nj 0 hi λh=>jg (l=0/\h=0) (cv (.c (.l sz')))
     |_,_=>.no)
   |x=>Nl sz x (λb l0 n N _ _=>nj 0 lo λl=>nj n hi λh=>match mx with
       |none=>jg (0<=l/\l<=h/\(l0:Int)+h<=(N:Int)) (cv (.c (.y b 0 sz (l0+l.toNat) (h.toNat-l.toNat))))
       |some m=>nj 0 (some m) λm=>jg (hi.isSome=true/\0<=l/\l<=h/\h<=m/\(l0:Int)+m<=(N:Int)) (cv su)) (tC P t x lo hi mx)
def Bs(P:QE)(id:Nat)(t:QH)(x:S)(lo hi:Option QM):bj:=match AP P t,x with
 |some (_,sz),.c (.w b)=>.lU b λo=>nj 0 lo λl=>(match o with
     |some (.w e sz' N ds)=>(match Qy sz' sz with
       |true=>nj N hi λh=>(match lo with
         |none=>jg (0<=h/\h<=(N:Int)) (jD id (.c (.w id)) [(b,.bW)] (.w e sz h.toNat (sub ds (0*sz) (h.toNat*sz))))
         |some _=>jg (0<=l/\l<=h/\h<=(N:Int)/\0<N) (jD id (.c (.w id)) [(b,.bW)] (.x e sz (h.toNat-l.toNat) (sub ds (l.toNat*sz) ((h.toNat-l.toNat)*sz)))))
       |false=>.no)
     |some (.x e sz' N ds)=>(match Qy sz' sz with
       |true=>nj N hi λh=>jg (0<=l/\l<=h/\h<=(N:Int)/\0<N) (jD id (.c (.w id)) [(b,.bW)] (.x e sz (h.toNat-l.toNat) (sub ds (l.toNat*sz) ((h.toNat-l.toNat)*sz))))
       |false=>.no)
     |_=>.no)
 |_,_=>.no
def ML(id:Nat)(s:S):bj:=match s with
 |.c (.y b q sz l n)=>.lU b λo=>(match o with
   |some (.w e sz' N ds)=>(match Qy q 0 && (Qy l 0 && Qy sz' sz) with
     |true=>jg (0<N/\n<=N) (jD id (.c (.w id)) [(b,.bW)] (.w e sz n (sub ds (0*sz) (n*sz))))
     |false=>.no)
   |_=>.no)
 |s=>cv s
def noneH:S->Bool
 |.c (.l _)=>true
 |.c (.d (.sl n _ _))=>Qy n 0
 |_=>false
def yL(P:QE)(id:Nat)(t:QH)(s x:S):bj:=match s with
 |.c (.y b q sz' l n)=>(match AP P t with
   |some (e0,sz)=>(match j7 P e0 sz with
     |true=>Nl sz (.c (.y b q sz' l n)) (λb l n N e ds=>C8 sz x λm vs=>.we (decide (m=0)) (cv (.c (.y b 0 sz l n)))
         (.we (decide (l+n+m<=N)) (rowH sz (.c (.y b q sz' l n)) (λ_ _ _ _ _ _=>.ret (some (.c (.y b 0 sz l (n+m)))) [(b,.w e sz N (cQ ds ((l+n)*sz) vs))]) .no)
           (jg (l+n=N/\aO (n+m) (fJ P e0+1)) (match Qy e e0 with
             |true=>jD id (.c (.w id)) [(b,.bW)] (.x e sz (n+m) (sub ds (l*sz) (n*sz)++vs))
             |false=>.no)))) .no
     |false=>.no)
   |none=>.no)
 |.c (.l sz')=>(match noneH x,AP P t with
   |true,some (_,sz)=>(match Qy sz sz' with
     |true=>cv (.c (.l sz'))
     |false=>.no)
   |_,_=>nD P id t (.c (.l sz')) x)
 |.c (.w b)=>.lU b λo=>(match o with
   |some (.x e sz n ds)=>(match AP P t with
     |some (e0,sz0)=>(match j7 P e0 sz0 && (Qy e e0 && Qy sz sz0) with
       |true=>C8 sz x λm vs=>.we (decide (m=0)) (cv (.c (.w b))) (jg (aO (n+m) (fJ P e0+1)) (jD id (.c (.w id)) [(b,.bW)] (.x e sz (n+m) (ds++vs))))
       |false=>.no)
     |none=>.no)
   |_=>nD P id t (.c (.w b)) x)
 |s=>nD P id t s x
def Fx(P:QE)(id:Nat)(t t':QH)(s x:S):bj:=match s,AP P t,P.underlying t' with
 |.c (.l sz'),some (e,sz),some (.int _)=>(match(ir P e).bind vE,j7 P e sz && Qy sz sz' with
   |some zs,true=>lP x λz=>jg (0<z/\aO z.toNat (fJ P e+1)) (jD id (.c (.w id)) [] (.w e sz z.toNat (QY z.toNat zs).flatten))
   |_,_=>.no)
 |_,_,_=>.no
def Cu(P:QE)(t:QH)(s:S):bj:=match s,AP P t with
 |.c (.y b q sz' l n),some (e0,sz)=>(match(ir P e0).bind vE with
   |some zs=>rowH sz (.c (.y b q sz' l n)) (λb l n N e ds=>jg (zs.length=sz/\l+n<=N/\n<=1000000000000000) (.ret none [(b,.w e sz N (cQ ds (l*sz) (QY n zs).flatten))])) .no
   |none=>.no)
 |_,_=>.no
def N7(P:QE)(t:QH)(x y:S)(k:Bool->bj)(nzz:bj):bj:=match AP P t,x,y with
 |some _,.c (.l _),.c .n=>k true
 |some _,.c .n,.c .n=>k true
 |some _,.c (.w b),.c .n=>.lU b λo=>(match o with
   |some (.w _ _ n _)=>(match n with
     |0=>.no
     |_+1=>k false)
   |_=>.no)
 |some _,.c (.d (.sl n _ _)),.c .n=>(match n with
     |0=>.no
     |_+1=>k false)
 |_,_,_=>nzz
def ES(t:Nat):List (Nat×Nat)->Option Nat
 |[]=>none
 |(i,n)::l=>match Qy t i with
   |true=>some n
   |false=>ES t l
def IU:S->Option (List D)
 |.a _ ds=>some ds
 |.g cs=>nP cs
 |_=>none
def Ma(P:QE)(tb:Tb)(t:QH)(x y:S)(k:Bool->bj)(nzz:bj):bj:=match ES t tb.eqs,IU x,IU y with
 |some n,some a,some b=>.FJ .i64 a λa=>.FJ .i64 b λb=>jg (a.length=n/\b.length=n) (k (decide (a=b)))
 |_,_,_=>N7 P t x y k nzz
def ye(g:Nat):List (Nat×List D)->Option (List D)
 |[]=>none
 |(i,ds)::l=>match Qy g i with
   |true=>some ds
   |false=>ye g l
def Jk(P:QE)(tb:Tb)(g:Nat)(t:QH):bj:=match ye g tb.gl,zn P t with
 |some ds,some m=>(match Qy m ds.length with
   |true=>cv (.a m ds)
   |false=>.no)
 |_,_=>.no
def luS(cm:Bool)(v:S)(ok:Bool):S:=match cm with
 |true=>.t [v,.c (.d (.v (.bool ok)))]
 |false=>v
def Ax(g:Nat):List (Nat×List (Int×Int))->Option (List (Int×Int))
 |[]=>none
 |(i,ds)::l=>match Qy g i with
   |true=>some ds
   |false=>Ax g l
def isMap(P:QE)(t:QH):Bool:=match P.underlying t with
 |some (.map _ _)=>true
 |_=>false
def G5(P:QE)(tb:Tb)(g:Nat)(t:QH):bj:=match Ax g tb.gm,jZ P t && isMap P t with
 |some _,true=>cv (.c (.k g))
 |_,_=>Jk P tb g t
def G6(P:QE)(tb:Tb)(g:Nat)(t:QH)(i:S):bj:=match ye g tb.gl,CH P t with
 |some ds,some (n,_,sz)=>(match Qy ds.length (n*sz) with
   |true=>lP i λz=>jg (0<=z/\z<(n:Int)) (cv (.r sz (el ds sz z.toNat) 0))
   |false=>.no)
 |_,_=>.no
def G4(P:QE)(tb:Tb)(g:Nat)(t:QH)(lo hi mx:Option QM):bj:=match ye g tb.gl,CH P t,lo,hi,mx with
 |some ds,some (n,_,sz),none,none,none=>(match Qy ds.length (n*sz) with
   |true=>cv (.c (.d (.sl n sz ds)))
   |false=>.no)
 |_,_,_,_,_=>.no
def xY(z:Int):List (Int×Int)->Option Int
 |[]=>none
 |(a,b)::l=>match decide (z=a) with
   |true=>some b
   |false=>xY z l
def OP(P:QE)(t:QH):Bool:=match P.underlying t with
 |some (.map k e)=>OQ P k && (match jV P e with
   |some (.int .i64 0)=>true
   |_=>false)
 |_=>false
def xW(P:QE)(tb:Tb)(t:QH)(g:Nat)(key:S)(cm:Bool):bj:=match Ax g tb.gm,OP P t with
 |some l,true=>lP key λz=>cv (luS cm (.c (.d (.v (.int .i64 ((xY z l).getD 0))))) (xY z l).isSome)
 |_,_=>.no
def Ov(P:QE)(id:Nat)(t:QH)(x y:S):bj:=match AP P t with
 |some (e,sz)=>(match(ir P e).bind vE,j7 P e sz with
   |some zs,true=>lP x λa=>lP y λb=>jg (0<=a/\a=b/\aO a.toNat (fJ P e+1)) (jD id (.c (.w id)) [] (.w e sz a.toNat (QY a.toNat zs).flatten))
   |_,_=>.no)
 |none=>.no
def vV(mx:Bool)(x y:S):bj:=lP x λa=>lP y λb=>mY (match mx with
 |true=>max a b
 |false=>min a b)
def Fk:List S->Option (List C)
 |[]=>some []
 |.c (.f _ _)::_=>none
 |.c c::l=>(match Ae c,Fk l with
   |true,some cs=>some (c::cs)
   |_,_=>none)
 |_::_=>none
def funP(g:Nat)(xs:List S):bj:=match Fk xs with
 |some cs=>cv (.c (.f g cs))
 |none=>.no
def Ly(P:QE)(tb:Tb)(t:QH):Option (Nat×Bool×Nat×List D):=match P.underlying t with
 |some (.map k e)=>(match tb.eq3.any (Qy k),(ir P e).bind vE with
   |true,some zs=>(match GU (jV P e) with
     |true=>some (e,true,zs.length,zs)
     |false=>(match zs with
       |[_]=>some (e,false,1,zs)
       |_=>none))
   |_,_=>none)
 |_=>none
def xV(P:QE)(tb:Tb)(id:Nat)(t:QH):bj:=match Ly P tb t with
 |some (_,ag,vs,_)=>jD id (.c (.m id)) [] (.m t ag vs 0 [])
 |none=>.no
def Ar(s:S)(k:Int->Int->Int->bj):bj:=match Ic s with
 |true=>KD s λds=>.i (cell ds 0) λa=>.i (cell ds 1) λb=>.i (cell ds 2) λc=>k a b c
 |false=>.no
def entR(t:QH)(ag:Bool)(vs:Nat)(s:S)(k:Nat->List D->bj):bj:=match s with
 |.c (.m b)=>.lU b λo=>(match o with
   |some (.m t' ag' vs' n ds)=>(match Qy t t' && UB (ag == ag') (Qy vs vs') with
     |true=>k n ds
     |false=>.no)
   |some (.ms t' ag' vs' n ds)=>(match Qy t t' && UB (ag == ag') (Qy vs vs') with
     |true=>k n ds
     |false=>.no)
   |_=>.no)
 |_=>.no
def entP(t:QH)(ag:Bool)(vs:Nat)(s:S)(k:Nat->Nat->List D->bj):bj:=match s with
 |.c (.m b)=>.lU b λo=>(match o with
   |some (.m t' ag' vs' n ds)=>(match Qy t t' && UB (ag == ag') (Qy vs vs') with
     |true=>k b n ds
     |false=>.no)
   |_=>.no)
 |_=>.no
def O6(ag:Bool)(vs:Nat)(xs:List D):S:=match ag with
 |true=>.a vs xs
 |false=>.c (.d (cell xs 0))
def v7(P:QE)(tb:Tb)(t:QH)(s key:S)(cm:Bool):bj:=match Ly P tb t with
 |some (_,ag,vs,zs)=>entR t ag vs s λn ds=>Ar key λx y z=>cv (luS cm (O6 ag vs ((bu (3+vs) x y z n ds).getD zs)) (bu (3+vs) x y z n ds).isSome)
 |none=>.no
def Oh(ag:Bool)(s:S)(k:Nat->List D->List (Nat×O)->bj):bj:=match ag,s with
 |false,.c c=>Fe c λx os=>k 1 [x] os
 |true,.a n ds=>k n ds []
 |true,.g cs=>Fc cs λds os=>k cs.length ds os
 |_,_=>.no
def qP(P:QE)(tb:Tb)(t:QH)(s key v:S):bj:=match Ly P tb t with
 |some (e,ag,vs,_)=>entP t ag vs s λb n cur=>Ar key λx y z=>Oh ag (sf tb.hp (fU P e v)) λm ds os=>match Qy m vs && !(os.any λp=>Qy p.1 b) with
     |true=>.ret none (os++[(b,.m t ag vs (fH (3+vs) x y z n cur) (cS (3+vs) x y z ds n cur))])
     |false=>.no
 |none=>.no
def Gb(P:QE)(tb:Tb)(id:Nat)(t:QH)(s:S):bj:=match Ly P tb t,s with
 |some (_,ag,vs,_),.c (.m b)=>.lU b λo=>(match o with
   |some (.m t' ag' vs' n ds)=>(match Qy t t' && UB (ag == ag') (Qy vs vs') with
     |true=>jD id (.c (.p id 0)) [(b,.ms t ag vs n ds)] (.it ag vs none n ds)
     |false=>.no)
   |some (.ms t' ag' vs' n ds)=>(match Qy t t' && UB (ag == ag') (Qy vs vs') with
     |true=>jD id (.c (.p id 0)) [] (.it ag vs none n ds)
     |false=>.no)
   |_=>.no)
 |_,_=>.no
def Hf(s:S):bj:=match s with
 |.c (.p b 0)=>.lU b λo=>(match o with
   |some (.it ag vs (some kc) _ _)=>cv (.t [.a 3 (kc.take 3),O6 ag vs (kc.drop 3)])
   |_=>.no)
 |_=>.no
def opP(P:QE)(tb:Tb)(aQ:Nat)(o:Oper):bj:=match o.dst with
 |none=>(match o.op with
   |.store t x y=>cK x λs=>cK y λv=>wN P t s (sf tb.hp (fU P t v))
   |.mapUpdate t x y z=>cK x λs=>cK y λk=>cK z λv=>qP P tb t s k v
   |.call c=>(match c.callee with
     |.builtin .clear=>(match c.args.toList,c.argTypes.toList with
       |[x],[t]=>(match tb.hp with
         |true=>cK x λs=>Cu P t s
         |false=>.no)
       |_,_=>.no)
     |_=>.no)
   |_=>.no)
 |some d=>match o.op with
   |.move x=>(match tb.cs.any (Qy d) with
     |true=>cK x λs=>ML (aQ+d) (fU P o.type s)
     |false=>cK x λs=>cv (fU P o.type s))
   |.assign x=>cK x λs=>cv (fU P o.type s)
   |.pick c a b=>cK c λs=>Fm s λz=>.we z (cK a cv) (cK b cv)
   |.load t x=>(match x with
     |.global g=>(match tb.hp with
       |true=>G5 P tb g t
       |false=>Jk P tb g t)
     |x=>cK x λs=>OA P t s)
   |.fieldAddr t x i=>cK x λs=>Hc P t s i
   |.field t x i=>cK x λs=>Cj P t s i
   |.indexAddr t x i=>(match tb.hp,x with
     |true,.global g=>cK i λz=>G6 P tb g t z
     |_,x=>cK x λs=>cK i λz=>GW P t s z)
   |.alloc t=>HB P (aQ+d) t
   |.box t x=>cK x λs=>boxP P (aQ+d) t s
   |.build t ps=>Hs P t ps.toList
   |.buildSlice t n ps=>(match tb.deep.any (Qy t) with
     |true=>uz P (aQ+d) t n ps.toList
     |false=>oW P tb.hp (aQ+d) t n ps.toList)
   |.binOp op t x y t'=>(match isSh op with
     |true=>cK x λa=>cK y λb=>F2 P op t t' a b
     |false=>match Qy t t' with
       |true=>cK x λa=>cK y λb=>(match tb.hp,op with
         |true,.eql=>Ma P tb t a b mg (CC P tb op t a b)
         |true,.neq=>Ma P tb t a b (λb=>mg (!b)) (CC P tb op t a b)
         |_,_=>CC P tb op t a b)
       |false=>.no)
   |.convert s t x=>cK x λa=>PE P s t a
   |.index t x i=>(match tb.hp with
     |true=>cK x λa=>cK i λz=>Cc P t a z
     |false=>cK x λa=>cK i λz=>pB P t a z)
   |.unOp op t x=>cK x λa=>unP P op t a
   |.extract x i=>cK x λs=>(match s with
     |.t l=>(match l[i]? with
       |some v=>cv v
       |none=>.no)
     |_=>.no)
   |.nilCheck x=>cK x λs=>(match s with
     |.c (.p b o)=>cv (.c (.p b o))
     |.r n ds o=>cv (.r n ds o)
     |.c (.q b sz k j)=>cv (.c (.q b sz k j))
     |.c (.e b i)=>cv (.c (.e b i))
     |_=>.no)
   |.slice t x lo hi mx=>(match tb.cs.any (Qy d) && mx.isNone with
     |true=>cK x λs=>Bs P (aQ+d) t s lo hi
     |false=>match tb.hp || tb.cs.any (Qy (d+1000000)),x with
       |true,.global g=>G4 P tb g t lo hi mx
       |true,x=>cK x λs=>Bt P t s lo hi mx
       |false,x=>cK x λs=>tC P t s lo hi mx)
   |.makeMap t none=>xV P tb (aQ+d) t
   |.lookup t x y cm=>cK x λs=>cK y λk=>(match s with
     |.c (.k g)=>xW P tb t g k cm
     |s=>v7 P tb t s k cm)
   |.range t x=>(match tb.nd with
     |true=>cK x λs=>Gb P tb (aQ+d) t s
     |false=>.no)
   |.entry x=>cK x λs=>Hf s
   |.makeSlice t x y=>cK x λa=>cK y λb=>Ov P (aQ+d) t a b
   |.makeFunc (.func g) fs cs=>(match fs.toList with
     |[]=>L9 cs.toList λxs=>funP g xs
     |_=>.no)
   |.call c=>(match c.callee with
     |.value x=>cK x λs=>(match s with
       |.c (.f g cs)=>L9 c.args.toList λxs=>JF P tb (aQ+d) g (xs++cs.map S.c)
       |_=>.no)
     |.builtin .len=>(match c.args.toList,c.argTypes.toList with
       |[x],[t]=>cK x λs=>lenP P t s
       |_,_=>.no)
     |.builtin .append=>(match c.args.toList,c.argTypes.toList with
       |[x,y],[t,t']=>(match Qy t t' with
         |true=>(match tb.hp with
           |true=>cK x λs=>cK y λv=>yL P (aQ+d) t s v
           |false=>cK x λs=>cK y λv=>nD P (aQ+d) t s v)
         |false=>.no)
       |_,_=>.no)
     |.builtin .min=>(match c.args.toList with
       |[x,y]=>cK x λa=>cK y λb=>vV false a b
       |_=>.no)
     |.builtin .max=>(match c.args.toList with
       |[x,y]=>cK x λa=>cK y λb=>vV true a b
       |_=>.no)
     |_=>.no)
   |_=>.no
def aA(Is:Cx)(s:bA)(a:bR)(k:bR->Prop):Prop:=∃r,Is.is s a r/\k r
structure Fp where
 wr:Option Nat
 sl:List Nat
 ob:List Nat
 wo:List Nat
 kp:Bool
def uj(o:Oper)(ob:List (Nat×O)):Bool:=match o.op,ob with
 |.store ..,[_]=>true
 |_,_=>false
def run(Is:Cx)(fr:Fr):bj->List Nat->List Nat->(Option S->List (Nat×O)->List Nat->List Nat->Prop)->Prop
 |.no,_,_,_=>False
 |.ret v ob,fs,fo,K=>K v ob fs fo
 |.Kz t k,fs,fo,K=>run Is fr (k (fr.sl t)) (t::fs) fo K
 |.lU b k,fs,fo,K=>run Is fr (k (fr.ob b)) fs ((2*b)::fo) K
 |.KA b k,fs,fo,K=>run Is fr (k (bI (fr.ob b))) fs ((2*b+1)::fo) K
 |.i x k,fs,fo,K=>aw x λz=>run Is fr (k z) fs fo K
 |.bo x k,fs,fo,K=>oX x λz=>run Is fr (k z) fs fo K
 |.st x k,fs,fo,K=>rA x λz=>run Is fr (k z) fs fo K
 |.ik kd x k,fs,fo,K=>qk kd x λz=>run Is fr (k z) fs fo K
 |.FJ kd cs k,fs,fo,K=>PT kd cs λz=>run Is fr (k z) fs fo K
 |.sc sz x k,fs,fo,K=>aH sz x λn cs=>run Is fr (k n cs) fs fo K
 |.we b p q,fs,fo,K=>aB b (run Is fr p fs fo K) (run Is fr q fs fo K)
 |.ck p _ k,fs,fo,K=>az p (run Is fr k fs fo K)
 |.ca s a k,fs,fo,K=>aA Is s a λr=>run Is fr (k r) fs fo K
 |.inl _ f xs ob k,fs,fo,K=>∃v os,Is.inl f xs ob v os/\run Is fr (k v os) fs fo K
def bj.bind(h:Option S->List (Nat×O)->bj):bj->bj
 |.no=>.no
 |.ret v ob=>h v ob
 |.Kz t k=>.Kz t λs=>(k s).bind h
 |.lU b k=>.lU b λs=>(k s).bind h
 |.KA b k=>.KA b λs=>(k s).bind h
 |.i x k=>.i x λs=>(k s).bind h
 |.bo x k=>.bo x λs=>(k s).bind h
 |.st x k=>.st x λs=>(k s).bind h
 |.ik kd x k=>.ik kd x λs=>(k s).bind h
 |.FJ kd cs k=>.FJ kd cs λs=>(k s).bind h
 |.sc sz x k=>.sc sz x λn s=>(k n s).bind h
 |.we b p q=>.we b (p.bind h) (q.bind h)
 |.ck p d k=>.ck p d (k.bind h)
 |.ca s a k=>.ca s a λr=>(k r).bind h
 |.inl id f xs ob k=>.inl id f xs ob λv os=>(k v os).bind h
def tellP(v:Option S)(ob:List (Nat×O)):bj:=match v with
 |some (.c (.d x))=>.bo x λb=>.we b (.ret (some (.c (.d (.v (.bool true))))) ob) (.ret (some (.c (.d (.v (.bool false))))) ob)
 |v=>.ret v ob
def sL(ops:Array Oper):List Oper->List Nat
 |[]=>[]
 |o::l=>match o.guard with
   |some (j,_)=>(match(ops[j]?).bind (·.dst) with
     |some t=>t::sL ops l
     |none=>sL ops l)
   |none=>sL ops l
def zF(gs:List Nat)(o:Oper)(p:bj):bj:=match o.dst with
 |some d=>(match gs.any (Qy d) with
   |true=>p.bind tellP
   |false=>p)
 |none=>p
def opH(P:QE)(tb:Tb)(aQ:Nat)(o:Oper):bj:=match tb.ic with
 |true=>(opP P tb aQ o).bind λv ob=>.ret (match v with
   |some s=>some (xM P o.type s)
   |none=>none) ob
 |false=>opP P tb aQ o
def nI(P:QE)(tb:Tb)(aQ:Nat)(ops:Array Oper)(gs:List Nat)(o:Oper):bj:=match o.guard with
 |none=>zF gs o (opH P tb aQ o)
 |some (j,want)=>match(ops[j]?).bind (·.dst) with
   |none=>.no
   |some t=>.Kz t λs=>match s with
     |.c .z=>.ret (match o.dst with
       |some _=>some (.c .z)
       |none=>none) []
     |s=>Fm s λb=>.we (b == want) (zF gs o (opH P tb aQ o)) (.ret (match o.dst with
       |some _=>some (.c .z)
       |none=>none) [])
def Fr.aJ(fr:Fr):List (Nat×O)->Fr
 |[]=>fr
 |(b,o)::l=>(fr.set b o).aJ l
def Fr.bl(fr:Fr)(d:Option Nat)(v:Option S):Fr:=match d,v with
 |some d,some v=>fr.put d v
 |_,_=>fr
def Cg(n:Nat)(d:Option Nat)(v:Option S):Bool:=match d,v with
 |some d,some _=>Sq d n
 |none,none=>true
 |_,_=>false
def G8:C->(C->Prop)->Prop
 |.d x,k=>k (.d x)
 |.n,k=>k .n
 |.l sz,k=>k (.l sz)
 |.p b o,k=>k (.p b o)
 |.q b sz i j,k=>k (.q b sz i j)
 |.w b,k=>k (.w b)
 |.m b,k=>k (.m b)
 |.f g cs,k=>k (.f g cs)
 |.z,k=>k .z
 |.u,k=>k .u
 |.e b i,k=>k (.e b i)
 |.y b q sz l n,k=>k (.y b q sz l n)
 |.k g,k=>k (.k g)
def pI:List C->(List C->Prop)->Prop
 |[],k=>k []
 |c::cs,k=>G8 c λc=>pI cs λcs=>k (c::cs)
def Pd:S->(S->Prop)->Prop
 |.c x,k=>G8 x λx=>k (.c x)
 |.a n ds,k=>k (.a n ds)
 |.g cs,k=>pI cs λcs=>k (.g cs)
 |.r n ds o,k=>k (.r n ds o)
 |.t l,k=>k (.t l)
def Pc:Option S->(Option S->Prop)->Prop
 |none,k=>k none
 |some v,k=>Pd v λv=>k (some v)
def Pe:O->(O->Prop)->Prop
 |.b e cs,k=>pI cs λcs=>k (.b e cs)
 |.a e n ds,k=>k (.a e n ds)
 |.w e sz n ds,k=>k (.w e sz n ds)
 |.v e sz n cs,k=>pI cs λcs=>k (.v e sz n cs)
 |.s sz n ds,k=>k (.s sz n ds)
 |.m t ag vs n ds,k=>k (.m t ag vs n ds)
 |.ms t ag vs n ds,k=>k (.ms t ag vs n ds)
 |.it ag vs c n ds,k=>k (.it ag vs c n ds)
 |.x e sz n ds,k=>k (.x e sz n ds)
 |.bW,k=>k .bW
def wi:List (Nat×O)->(List (Nat×O)->Prop)->Prop
 |[],k=>k []
 |(b,o)::l,k=>Pe o λo=>wi l λl=>k ((b,o)::l)
theorem AA(c:C)(k:C->Prop):G8 c k=k c:=by cases c <;> rfl
theorem nw:∀(l:List C) (k:List C->Prop),pI l k=k l
 |[],_=>rfl
 |c::l,k=>by rw[pI,AA,nw l]
theorem LX(s:S)(k:S->Prop):Pd s k=k s:=by
 cases s with
 |c x=>exact AA x _
 |g cs=>exact nw cs _
 |_=>rfl
theorem pH(v:Option S)(k:Option S->Prop):Pc v k=k v:=by
 cases v with
 |none=>rfl
 |some v=>exact LX v _
theorem LY(o:O)(k:O->Prop):Pe o k=k o:=by
 cases o with
 |b e cs=>exact nw cs _
 |v e sz n cs=>exact nw cs _
 |_=>rfl
theorem kR:∀(l:List (Nat×O)) (k:List (Nat×O)->Prop),wi l k=k l
 |[],_=>rfl
 |(b,o)::l,k=>by rw[wi,LY,kR l]
def xc(Is:Cx)(P:QE)(tb:Tb)(n:Nat)(ops:Array Oper)(gs:List Nat):List Oper->Nat->Fr->List (Nat×Fp)->(Fr->List (Nat×Fp)->Prop)->Prop
 |[],_,fr,l,K=>K fr l
 |o::os,i,fr,l,K=>run Is fr (nI P tb fr.aQ ops gs o) [] [] λv ob fs fo=>match Cg n o.dst v with
   |true=>Pc v λv=>wi ob λob=>xc Is P tb n ops gs os (i+1) ((fr.bl o.dst v).aJ ob) ((i,⟨o.dst,fs,fo,ob.map QZ,uj o ob⟩)::l) K
   |false=>False
def AV(a b:Fp):Bool :=
 (match a.wr with
 |some d=>b.sl.any (Qy d) || (match b.wr with
   |some d'=>Qy d d'
   |none=>false)
 |none=>false) || (match b.wr with
 |some d=>a.sl.any (Qy d)
 |none=>false) || a.wo.any (λx=>b.ob.any (Qy (2*x)) || ((!a.kp && b.ob.any (Qy (2*x+1))) || b.wo.any (Qy x))) || b.wo.any (λx=>a.ob.any (Qy (2*x)) || (!b.kp && a.ob.any (Qy (2*x+1))))
def Mm(bf:Array Nat):List (Nat×Fp)->Bool
 |[]=>true
 |(j,x)::l=>l.all (λy=>!AV y.2 x || Nat.testBit (bf.getD j 0) y.1) && Mm bf l
def oV:List Oper->Nat->Bool
 |[],_=>true
 |o::l,i=>o.after.toList.all (λe=>!Region.binds .any e || Sq e.on i) && oV l (i+1)
def Fr.ou(fr:Fr):Fr:=⟨fr.sl,fr.ob,fr.aQ+1000000⟩
structure Kt where
 n:Fr->Prop
 x:Nat->Fr->Prop
 r:Fr->Prop
def Lp(B:(bR->Prop)->bR->Prop)(s:bR):Prop:=∃I:Nat->bR->Prop,(∃m,I m s)/\∀m s,I m s->B (λs'=>∃m',m'<m/\I m' s') s
def jn(X:(bR->Prop)->Prop)(k:bR->Prop):Prop:=∃I:bR->Prop,X I/\∀s,I s->k s
def Ew(mp:List (Nat×Tg)):List Nat->Bool
 |[]=>true
 |i::l=>(match bH mp i with
   |some (.ob b)=>Qy b i
   |_=>false) && Ew mp l
def nH(kp:List Nat)(sh:Sh)(fr:Fr)(k:bR->Prop):Prop:=match Gn sh fr with
 |some (st,x)=>(match Ew x.mp kp with
   |true=>k st
   |false=>False)
 |none=>False
def gO:Code->Option Nat
 |.region id _ _=>some id
 |.seq a b=>(match gO a with
   |some i=>some i
   |none=>gO b)
 |.block _ c=>gO c
 |.loop c=>gO c
 |.scope c=>gO c
 |_=>none
structure p9 where
 lp:List (Nat×Sh)
 jn:List (Nat×Sh)
 un:List (Nat×Nat)
def getU:List (Nat×Nat)->Option Nat->Option Nat
 |_,none=>none
 |[],_=>none
 |(i,s)::l,some j=>match Qy i j with
   |true=>some s
   |false=>getU l (some j)
def unr(B:Fr->(Fr->Prop)->Prop):Nat->Fr->Prop
 |0,_=>False
 |n+1,fr=>B fr λfr'=>unr B n fr'
def getH:List (Nat×Sh)->Option Nat->Option Sh
 |_,none=>none
 |[],_=>none
 |(i,s)::l,some j=>match Qy i j with
   |true=>some s
   |false=>getH l (some j)
def EF:List (Nat×Sh)->Option Nat->List Sh
 |_,none=>[]
 |[],_=>[]
 |(i,s)::l,some j=>match Qy i j with
   |true=>s::EF l (some j)
   |false=>EF l (some j)
def BL(fr:Fr):List Sh->Option Sh
 |[]=>none
 |sh::l=>match Gn sh fr with
   |some _=>some sh
   |none=>BL fr l
def evB(fr:Fr)(t:QM)(k:Bool->Prop):Prop:=match t with
 |.tmp t=>(match fr.sl t with
   |.c (.d x)=>oX x k
   |_=>False)
 |.const v=>(match v with
   |.bool b=>k b
   |_=>False)
 |_=>False
def Ah(tb:Tb)(n:Nat)(iM:Bool)(ops:List Oper):Option (Nat×Nat×Nat):=match iM,tb.nd,ops with
 |false,true,[⟨some d,.next (.tmp t) false,_,_,_,none⟩,⟨some e,.extract (.tmp d') 0,_,_,_,none⟩]=>(match Qy d d' && (Sq d n && Sq e n) with
   |true=>some (d,t,e)
   |false=>none)
 |_,_,_=>none
def mF(ds:List D)(sz i:Nat):List D:=ds.take (i*sz)++ds.drop ((i+1)*sz)
def vb(b:Bool):S:=.c (.d (.v (.bool b)))
def Ea(fr:Fr)(d t e:Nat)(K:Fr->Prop):Prop:=match fr.sl t with
 |.c (.p b 0)=>(match fr.ob b with
   |some (.it ag vs _ n ds)=>(n=0->K ((fr.put d (.t [vb false])).put e (vb false))) /\
       ∀i,i<n->K (((fr.set b (.it ag vs (some (el ds (3+vs) i)) (n-1) (mF ds (3+vs) i))).put d (.t [vb true,su,su])).put e (vb true))
   |_=>False)
 |_=>False
def ex(Is:Cx)(P:QE)(tb:Tb)(n:Nat)(H:p9)(kp:List Nat):Code->Fr->Kt->Prop
 |.skip,fr,K=>K.n fr
 |.label _,fr,K=>K.n fr
 |.region _ ops iM,fr,K=>(match Ah tb n iM ops.toList with
  |some (d,t,e)=>Ea fr d t e λfr=>K.n fr.ou
  |none=>xc Is P tb n ops (sL ops ops.toList) ops.toList 0 fr [] λfr l=>(match iM with
   |true=>(match Mm (Region.before ops) l && oV ops.toList 0 with
     |true=>K.n fr.ou
     |false=>False)
   |false=>K.n fr.ou))
 |.seq a b,fr,K=>(match getH H.jn (gO b) with
   |none=>ex Is P tb n H kp a fr ⟨λfr=>ex Is P tb n H kp b fr K,K.x,K.r⟩
   |some sh=>jn (λk=>ex Is P tb n H kp a fr ⟨λfr=>nH kp sh fr k,K.x,K.r⟩) λst=>ct bc sh st λfr=>ex Is P tb n H kp b fr K)
 |.cond t a b,fr,K=>evB fr t λz=>aB z (ex Is P tb n H kp a fr K) (ex Is P tb n H kp b fr K)
 |.block i c,fr,K=>ex Is P tb n H kp c fr ⟨K.n,λj fr=>(match Qy j i with
   |true=>K.n fr
   |false=>K.x j fr),K.r⟩
 |.loop c,fr,K=>(match getU H.un (gO c) with
  |some k=>unr (λfr next=>ex Is P tb n H kp c fr ⟨next,K.x,K.r⟩) k fr
  |none=>match BL fr (EF H.lp (gO c)) with
   |none=>False
   |some sh=>nH kp sh fr (Lp λnext st=>ct bc sh st λfr=>ex Is P tb n H kp c fr ⟨λfr=>nH kp sh fr next,K.x,K.r⟩))
 |.exit i,fr,K=>K.x i fr
 |.scope c,fr,K=>ex Is P tb n H kp c fr K
 |.ret,fr,K=>K.r fr
 |_,_,_=>False
def PL(P:QE)(fr:Fr)(t ty:Nat):Option S:=match fr.sl t with
 |.c (.p b o)=>(match fr.ob b with
   |some (.a _ n ds)=>nJ P ty n ds o
   |some (.b _ cs)=>sA P ty cs o
   |_=>none)
 |_=>none
def BB(P:QE)(fr:Fr):List ResultVar->Option (List S)
 |[]=>some []
 |.tmp t::l=>(match BB P fr l with
   |some xs=>some (fr.sl t::xs)
   |none=>none)
 |.cell t ty::l=>(match PL P fr t ty with
   |some s=>(match BB P fr l with
     |some xs=>some (s::xs)
     |none=>none)
   |none=>none)
def tX:lL->List lL
 |.t l=>l
 |s=>[s]
def sW{α:Type}:Nat->List α->List (Nat×α)
 |_,[]=>[]
 |j,x::l=>(j,x)::sW (j+1) l
def start(ins jl:List (Nat×lV)):List (Nat×Tg):=match ins with
 |[]=>[]
 |(i,_)::l=>match jl.any λx=>Qy x.1 i with
   |true=>(i,.ob i)::start l jl
   |false=>start l jl
def BN(s:bA)(fr:Fr):Option bR:=match ow fr.ob fr.sl ⟨start s.ins.ob s.jl,[]⟩ (sW 0 (tX s.out)) with
 |some (r,k)=>(match oz fr.ob k s.jl with
   |some (r',k)=>(match oG s.jl k.mp && ri k.mp k.fix && nh s.jl with
     |true=>some (r++r')
     |false=>none)
   |none=>none)
 |none=>none
def F7(P:QE)(s:bA)(rs:List ResultVar)(fr:Fr)(K:bR->Prop):Prop:=match BB P fr rs with
 |some xs=>(match BN s ⟨cB 0 xs,fr.ob,fr.aQ⟩ with
   |some st=>K st
   |none=>False)
 |none=>False
def fnB(s:bA)(fn:Func):Bool:=SI s.ins.sl.length fn.ntmps && (match s.out with
 |.t l=>Qy fn.results.toList.length l.length && !Qy l.length 1
 |_=>Qy fn.results.toList.length 1)
def Ev(l:List (Nat×Tg)):List Nat:=l.map QZ
def fnX(Is:Cx)(P:QE)(tb:Tb)(H:p9)(s:bA)(a:bR)(K:bR->Prop):Prop:=match P.funcs[s.f]? with
 |none=>False
 |some fn=>match fn.body with
   |none=>False
   |some c=>match fnB s fn with
     |true=>ct bc s.ins a λfr=>ex Is P tb fn.ntmps H (Ev (start s.ins.ob s.jl)) c fr ⟨λfr=>F7 P s fn.results.toList fr K,λ_ _=>False,λfr=>F7 P s fn.results.toList fr K⟩
     |false=>False
abbrev ptr(k:Nat):Qw:=.pointer (some ⟨k,0,none⟩)
def CB(M:Mem)(ρ:Nat->Option Qw):C->Qw->Prop
 |.d x,u=>Rd M x u
 |.n,u=>u=.slice none 0 0
 |.l _,u=>u=.slice none 0 0
 |.p b o,u=>∃k,ρ b=some (ptr k)/\u=.pointer (some (fT (some ⟨k,0,none⟩) o))
 |.q b sz k j,u=>∃a n c,ρ b=some (.slice a n c)/\k<n/\u=.pointer (some (fT a (k*sz+j)))
 |.w b,u=>ρ b=some u/\∃a n c,u=.slice a n c
 |.m b,u=>∃k,ρ b=some (.map (some k))/\u=.map (some k)
 |.z,u=>u=undef
 |.u,_=>True
 |.e b i,u=>∃k,ρ b=some (ptr k)/\u=.pointer (some (fT (some ⟨k,0,none⟩) i))
 |.y b q sz l n,u=>∃ad c,u=.slice ad n c/\(n<=c/\c<=Ti)/\((∃k,ρ b=some (ptr k)/\(0<n->ad=some (fT (some ⟨k,0,none⟩) (q+l*sz)))) \/
   ∃a N C,ρ b=some (.slice a N C)/\q=0/\l+n<=N/\l+c=C/\(0<c->ad=some (fT a (l*sz))))
 |.k g,u=>(∃m,u=.map (some m))/\dW M ⟨g,0,none⟩=some u
 |.f _ _,_=>False
def zr(M:Mem)(ρ:Nat->Option Qw):List C->List Qw->Prop
 |[],[]=>True
 |c::cs,u::us=>CB M ρ c u/\zr M ρ cs us
 |_,_=>False
def CR(M:Mem)(ρ:Nat->Option Qw):C->Qw->Prop
 |.f g cs,u=>∃us,u=.func (.func g) #[] us.toArray/\zr M ρ cs us
 |c,u=>CB M ρ c u
def dr(M:Mem)(ρ:Nat->Option Qw):List C->List Qw->Prop
 |[],[]=>True
 |c::cs,u::us=>CR M ρ c u/\dr M ρ cs us
 |_,_=>False
def Qd(M:Mem)(a:Option Addr)(q:Nat)(ds:List D):Prop:=∀i d,ds[i]?=some d->∃u,dW M (fT a (q+i))=some u/\Rd M d u
def SB(M:Mem)(ρ:Nat->Option Qw):S->Qw->Prop
 |.c c,v=>CR M ρ c v
 |.a n ds,v=>ds.length=n/\∃us,v=.agg us.toArray/\bz M ds us
 |.g cs,v=>∃us,v=.agg us.toArray/\dr M ρ cs us
 |.r n ds o,v=>ds.length=n/\∃a q,v=.pointer (some (fT a (q+o)))/\Qd M a q ds
 |.t _,_=>False
def wx(M:Mem)(ρ:Nat->Option Qw):List S->List Qw->Prop
 |[],[]=>True
 |c::cs,u::us=>SB M ρ c u/\wx M ρ cs us
 |_,_=>False
def SR(M:Mem)(ρ:Nat->Option Qw):S->Qw->Prop
 |.t l,v=>∃vs,v=.tuple vs.toArray/\wx M ρ l vs
 |s,v=>SB M ρ s v
abbrev jH(i:ar):Qw:=.agg i.gF.toArray
def VR(M:Mem):Bool->List D->Qw->Prop
 |true,xs,v=>∃us,v=.agg us.toArray/\bz M xs us
 |false,xs,v=>∃d,xs=[d]/\Rd M d v
def MR(M:Mem)(ag:Bool)(vs:Nat):List (ar×Qw)->List D->Prop
 |[],ds=>ds=[]
 |(i,v)::l,ds=>∃xs rest,ds=.v (.int .i64 i.aD)::.v (.int .i64 i.seq)::.v (.int .i64 i.index)::(xs++rest)/\xs.length=vs/\VR M ag xs v/\MR M ag vs l rest
def MsR(M:Mem)(ag:Bool)(vs n:Nat)(ds:List D)(k:Nat):Prop:=∃es clock l,M k=some (.map es clock)/\nN es clock/\es.toList.map (λe=>(e.key,e.val))=vw jH l/\MR M ag vs l ds/\l.length=n
def CurR(M:Mem)(ag:Bool)(vs:Nat)(es:Array Su)(clock c0:Nat)(seen:Array Nat)(kc:List D):Prop:=c0=clock/\∃(e:Su) (i:ar) (xs:List D),e∈es.toList/\(∃s',seen=Array.push s' e.born)/\e.key=jH i /\
 kc=.v (.int .i64 i.aD)::.v (.int .i64 i.seq)::.v (.int .i64 i.index)::xs/\xs.length=vs/\VR M ag xs e.val
def lA(es:Array Su)(seen:Array Nat):List Su:=es.toList.filter λe=>!seen.contains e.born
def ItR(M:Mem)(ag:Bool)(vs:Nat)(cur:Option (List D))(n:Nat)(ds:List D)(o:Obj):Prop:=∃kb es clock seen c0 since l,o=.mapIter (some kb) since seen c0/\M kb=some (.map es clock)/\nN es clock/\(since<=c0/\since<=clock)/\(∀x∈es.toList,x.born<since) /\
 (lA es seen).map (λe=>(e.key,e.val))=vw jH l/\MR M ag vs l ds/\l.length=n/\∀kc,cur=some kc->CurR M ag vs es clock c0 seen kc
def tm(lst:List (Nat×As))(b e sz n:Nat)(a:Option Addr)(c:Nat)(us:List Qw):Prop:=(b,As.acc (.slice a n c) e sz n us)∈lst \/
 (n<=c/\c<=Ti/\∃g l0 cur,(0<c->a=some ⟨g,l0*sz,none⟩)/\(b,As.raw g (.cells cur e (0,0)))∈lst/\cur.size=(l0+c)*sz/\(cur.toList.drop (l0*sz)).take (n*sz)=us)
theorem tm.mono{lst lst':List (Nat×As)}{b b' e sz n:Nat}{a:Option Addr}{c:Nat}{us:List Qw}(hl:∀x,(b,x)∈lst->(b',x)∈lst')(h:tm lst b e sz n a c us):tm lst' b' e sz n a c us:=by
 rcases h with h5|⟨h5,h6,g,l0,cur,h7,h8,h9⟩
 .exact .inl (hl _ h5)
 .exact .inr ⟨h5,h6,g,l0,cur,h7,hl _ h8,h9⟩
theorem tm.src{lst:List (Nat×As)}{b e sz n:Nat}{a:Option Addr}{c:Nat}{us:List Qw}(h:tm lst b e sz n a c us):∃x,(b,x)∈lst/\∀b' lst',(b',x)∈lst'->tm lst' b' e sz n a c us:=by
 rcases h with h5|⟨h5,h6,g,l0,cur,h7,h8,h9⟩
 .exact⟨_,h5,λ_ _ hm=>.inl hm⟩
 .exact⟨_,h8,λ_ _ hm=>.inr ⟨h5,h6,g,l0,cur,h7,hm,h9⟩⟩
theorem tm.cap{w0 w:QL}{M:Mem}{Γ0:List As}{lst:List (Nat×As)}{b e sz n:Nat}{a:Option Addr}{c:Nat}{us:List Qw}(h:tm lst b e sz n a c us)(hw:St w0 M (lst.map Ra++Γ0) w):n<=c/\c<=Ti:=by
 rcases h with h5|⟨h5,h6,_⟩
 .obtain⟨⟨hl,hh⟩,_⟩:=hw.all _ (List.mem_append_left _ (Rl h5))
  grind
 .exact⟨h5,h6⟩
theorem tm.cell{w0 w:QL}{M:Mem}{Γ0:List As}{lst:List (Nat×As)}{b e sz n:Nat}{a:Option Addr}{c:Nat}{us:List Qw}(h:tm lst b e sz n a c us)(hw:St w0 M (lst.map Ra++Γ0) w)(hl:us.length=n*sz){q:Nat}{v:Qw}(hq:us[q]?=some v) :
  a.isSome=true/\w.cell? (fT a q)=some v:=by
 rcases h with h5|⟨h5,h6,g,l0,cur,h7,h8,h9,h10⟩
 .exact hw.o3 (List.mem_append_left _ (Rl h5)) hq
 .obtain⟨_,hb⟩:=hw.all _ (List.mem_append_left _ (Rl h8));have hq':=(Se.1 hq).1;have hn0:0<n:=by
   grind
  obtain rfl:=h7 Q0;refine⟨rfl,?_⟩;have e1:fT (some ⟨g,l0*sz,none⟩) q=⟨g,l0*sz+q,none⟩:=by rw[cx]
  rw[e1,cell_of_row w g _ cur e (0,0) hb];rw[<-h10,R8,Sp]at hq;split at hq
  .simpa using hq
  .cases hq
def OR(M:Mem)(ρ:Nat->Option Qw)(lst:List (Nat×As))(b:Nat):O->Prop
 |.b e cs=>∃k us,ρ b=some (ptr k)/\(b,As.own k e us)∈lst/\dr M ρ cs us
 |.a e n ds=>∃k us,ρ b=some (ptr k)/\(b,As.own k e us)∈lst/\bz M ds us/\ds.length=n
 |.w e sz n ds=>∃a c us,ρ b=some (.slice a n c)/\(b,As.acc (.slice a n c) e sz n us)∈lst/\bz M ds us/\us.length=n*sz/\n<=lim
 |.v e sz n cs=>∃a c us,ρ b=some (.slice a n c)/\(b,As.acc (.slice a n c) e sz n us)∈lst/\dr M ρ cs us/\us.length=n*sz/\n<=lim
 |.s sz n ds=>∃v,ρ b=some v/\Rd M (.sl n sz ds) v
 |.m _ ag vs n ds=>∃k l,ρ b=some (.map (some k))/\(b,As.mp k (vw jH l))∈lst/\MR M ag vs l ds/\l.length=n
 |.ms _ ag vs n ds=>∃k,ρ b=some (.map (some k))/\(b,As.rds [] [])∈lst/\MsR M ag vs n ds k
 |.it ag vs cur n ds=>∃k o,ρ b=some (ptr k)/\(b,As.raw k o)∈lst/\ItR M ag vs cur n ds o
 |.x e sz n ds=>∃a c us,ρ b=some (.slice a n c)/\bz M ds us/\us.length=n*sz/\n<=lim/\tm lst b e sz n a c us
 |.bW=>True
structure Rel(w0:QL)(Γ0:List As)(fr:Fr)(ρ:Nat->Option Qw)(M:Mem)(lst:List (Nat×As))(val:Nat->Option Qw)(w:QL):Prop where
 sl:∀t,fr.sl t=su\/∃v,val t=some v/\SR M ρ (fr.sl t) v
 ob:∀b o,fr.ob b=some o->OR M ρ lst b o
 vP:∀b v,ρ b=some v->b<fr.aQ\/(fr.ob b).isSome=true
 gg:∀p,p∈lst->(ρ p.1).isSome=true
 nd:(lst.map QZ).Nodup
 st:St w0 M (lst.map Ra++Γ0) w
 gr:yT M
def Ext(ρ ρ':Nat->Option Qw):Prop:=∀b v,ρ b=some v->ρ' b=some v
theorem Ext.refl(ρ:Nat->Option Qw):Ext ρ ρ:=λ_ _ h=>h
theorem Ext.trans{a b c:Nat->Option Qw}(h:Ext a b)(k:Ext b c):Ext a c:=λx v hx=>k x v (h x v hx)
section
variable {M M':Mem} {ρ ρ':Nat->Option Qw} (hM:Sub M M') (hr:Ext ρ ρ')
theorem CB.mono(hM:Sub M M')(hr:Ext ρ ρ'):∀{c:C} {v:Qw},CB M ρ c v->CB M' ρ' c v
 |.d _,_,h=>Rd.mono hM _ _ h
 |.n,_,h=>h
 |.l _,_,h=>h
 |.p _ _,_,⟨k,h1,h2⟩=>⟨k,hr _ _ h1,h2⟩
 |.q _ _ _ _,_,⟨a,n,c,h1,h2⟩=>⟨a,n,c,hr _ _ h1,h2⟩
 |.w _,_,h=>⟨hr _ _ h.1,h.2⟩
 |.m _,_,⟨k,h1,h2⟩=>⟨k,hr _ _ h1,h2⟩
 |.z,_,h=>h
 |.u,_,_=>trivial
 |.e _ _,_,⟨k,h1,h2⟩=>⟨k,hr _ _ h1,h2⟩
 |.y _ _ _ _ _,_,⟨ad,c,h1,h2,.inl ⟨k,h3,h4⟩⟩=>⟨ad,c,h1,h2,.inl ⟨k,hr _ _ h3,h4⟩⟩
 |.y _ _ _ _ _,_,⟨ad,c,h1,h2,.inr ⟨a,N,C,h3,h4⟩⟩=>⟨ad,c,h1,h2,.inr ⟨a,N,C,hr _ _ h3,h4⟩⟩
 |.k _,_,h=>⟨h.1,kV hM h.2⟩
 |.f _ _,_,h=>h
theorem zr.mono(hM:Sub M M')(hr:Ext ρ ρ'):∀{c:List C} {v:List Qw},zr M ρ c v->zr M' ρ' c v
 |[],[],_=>trivial
 |_::_,_::_,h=>⟨CB.mono hM hr h.1,zr.mono hM hr h.2⟩
 |[],_::_,h=>h
 |_::_,[],h=>h
theorem CR.mono(hM:Sub M M')(hr:Ext ρ ρ'):∀{c:C} {v:Qw},CR M ρ c v->CR M' ρ' c v
 |.f _ _,_,⟨us,h1,h2⟩=>⟨us,h1,zr.mono hM hr h2⟩
 |.d x,_,h=>CB.mono hM hr (c:=.d x) h
 |.n,_,h=>CB.mono hM hr (c:=.n) h
 |.l sz,_,h=>CB.mono hM hr (c:=.l sz) h
 |.p b o,_,h=>CB.mono hM hr (c:=.p b o) h
 |.q b s k j,_,h=>CB.mono hM hr (c:=.q b s k j) h
 |.w b,_,h=>CB.mono hM hr (c:=.w b) h
 |.m b,_,h=>CB.mono hM hr (c:=.m b) h
 |.z,_,h=>CB.mono hM hr (c:=.z) h
 |.u,_,_=>trivial
 |.e b i,_,h=>CB.mono hM hr (c:=.e b i) h
 |.y b q sz l n,_,h=>CB.mono hM hr (c:=.y b q sz l n) h
 |.k g,_,h=>CB.mono hM hr (c:=.k g) h
theorem dr.mono(hM:Sub M M')(hr:Ext ρ ρ'):∀{c:List C} {v:List Qw},dr M ρ c v->dr M' ρ' c v
 |[],[],_=>trivial
 |_::_,_::_,h=>⟨CR.mono hM hr h.1,dr.mono hM hr h.2⟩
 |[],_::_,h=>h
 |_::_,[],h=>h
theorem Qd.mono(hM:Sub M M'){a:Option Addr}{q:Nat}{ds:List D}(h:Qd M a q ds):Qd M' a q ds:=λi d hi=>let⟨u,h1,h2⟩:=h i d hi;⟨u,kV hM h1,Rd.mono hM _ _ h2⟩
theorem SB.mono(hM:Sub M M')(hr:Ext ρ ρ'){s:S}{v:Qw}(h:SB M ρ s v):SB M' ρ' s v:=by
 cases s with
 |c c=>exact CR.mono hM hr h
 |a n ds=>obtain⟨h0,us,h1,h2⟩:=h;exact⟨h0,us,h1,h2.mono hM⟩
 |g cs=>obtain⟨us,h1,h2⟩:=h;exact⟨us,h1,dr.mono hM hr h2⟩
 |r n ds o=>obtain⟨h0,a,q,h1,h2⟩:=h;exact⟨h0,a,q,h1,h2.mono hM⟩
 |t l=>exact h
theorem wx.mono(hM:Sub M M')(hr:Ext ρ ρ'):∀{c:List S} {v:List Qw},wx M ρ c v->wx M' ρ' c v
 |[],[],_=>trivial
 |_::_,_::_,h=>⟨SB.mono hM hr h.1,wx.mono hM hr h.2⟩
 |[],_::_,h=>h
 |_::_,[],h=>h
theorem SR.mono(hM:Sub M M')(hr:Ext ρ ρ'):∀{s:S} {v:Qw},SR M ρ s v->SR M' ρ' s v
 |.t _,_,⟨vs,h1,h2⟩=>⟨vs,h1,wx.mono hM hr h2⟩
 |.c c,_,h=>SB.mono hM hr (s:=.c c) h
 |.a n ds,_,h=>SB.mono hM hr (s:=.a n ds) h
 |.g cs,_,h=>SB.mono hM hr (s:=.g cs) h
 |.r n ds o,_,h=>SB.mono hM hr (s:=.r n ds o) h
theorem VR.mono(hM:Sub M M'){ag:Bool}{xs:List D}{v:Qw}(h:VR M ag xs v):VR M' ag xs v:=by
 cases ag with
 |true=>obtain⟨us,h1,h2⟩:=h;exact⟨us,h1,h2.mono hM⟩
 |false=>obtain⟨d,h1,h2⟩:=h;exact⟨d,h1,Rd.mono hM _ _ h2⟩
theorem MR.mono(hM:Sub M M'){ag:Bool}{vs:Nat}:∀{l:List (ar×Qw)} {ds:List D},MR M ag vs l ds->MR M' ag vs l ds
 |[],_,h=>h
 |(_,_)::_,_,⟨xs,rest,h1,h2,h3,h4⟩=>⟨xs,rest,h1,h2,VR.mono hM h3,MR.mono hM h4⟩
theorem MsR.mono(hM:Sub M M'){ag:Bool}{vs n:Nat}{ds:List D}{k:Nat}(h:MsR M ag vs n ds k):MsR M' ag vs n ds k:=by obtain⟨es,clock,l,h1,h2,h3,h4,h5⟩:=h;exact⟨es,clock,l,hM _ _ h1,h2,h3,h4.mono hM,h5⟩
theorem ItR.mono(hM:Sub M M'){ag:Bool}{vs n:Nat}{cur:Option (List D)}{ds:List D}{o:Obj}(h:ItR M ag vs cur n ds o):ItR M' ag vs cur n ds o:=by obtain⟨kb,es,clock,seen,c0,since,l,h1,h2,h3,h4,h5,h6,h7,h8,h9⟩:=h;refine⟨kb,es,clock,seen,c0,since,l,h1,hM _ _ h2,h3,h4,h5,h6,h7.mono hM,h8,λkc hk=>?_⟩;obtain⟨e1,e,i,xs,e2,e3,e4,e5,e6,e7⟩:=h9 kc hk;exact⟨e1,e,i,xs,e2,e3,e4,e5,e6,e7.mono hM⟩
theorem ItR.nQ{ag:Bool}{vs n:Nat}{cur:Option (List D)}{ds:List D}{o:Obj}(h:ItR M ag vs cur n ds o):ItR M ag vs none n ds o:=by obtain⟨kb,es,clock,seen,c0,since,l,h1,h2,h3,h4,h5,h6,h7,h8,h9⟩:=h;exact⟨kb,es,clock,seen,c0,since,l,h1,h2,h3,h4,h5,h6,h7,h8,λkc hk=>by cases hk⟩
theorem OR.mono(hM:Sub M M')(hr:Ext ρ ρ'){lst lst':List (Nat×As)}{b:Nat}(hl:∀x,(b,x)∈lst->(b,x)∈lst'){o:O}(h:OR M ρ lst b o):OR M' ρ' lst' b o:=by
 cases o with
 |b e cs=>obtain⟨k,us,h1,h2,h3⟩:=h;exact⟨k,us,hr _ _ h1,hl _ h2,dr.mono hM hr h3⟩
 |a e n ds=>obtain⟨k,us,h1,h2,h3,h4⟩:=h;exact⟨k,us,hr _ _ h1,hl _ h2,h3.mono hM,h4⟩
 |w e sz n ds=>obtain⟨a,c,us,h1,h2,h3,h4⟩:=h;exact⟨a,c,us,hr _ _ h1,hl _ h2,h3.mono hM,h4⟩
 |v e sz n cs=>obtain⟨a,c,us,h1,h2,h3,h4⟩:=h;exact⟨a,c,us,hr _ _ h1,hl _ h2,dr.mono hM hr h3,h4⟩
 |s sz n ds=>obtain⟨v,h1,h2⟩:=h;exact⟨v,hr _ _ h1,Rd.mono hM _ _ h2⟩
 |m t ag vs n ds=>obtain⟨k,l,h1,h2,h3,h4⟩:=h;exact⟨k,l,hr _ _ h1,hl _ h2,h3.mono hM,h4⟩
 |ms t ag vs n ds=>obtain⟨k,h1,h2,h3⟩:=h;exact⟨k,hr _ _ h1,hl _ h2,h3.mono hM⟩
 |it ag vs cur n ds=>obtain⟨k,o,h1,h2,h3⟩:=h;exact⟨k,o,hr _ _ h1,hl _ h2,h3.mono hM⟩
 |x e sz n ds=>obtain⟨a,c,us,h1,h2,h3,h4,h5⟩:=h;exact⟨a,c,us,hr _ _ h1,h2.mono hM,h3,h4,h5.mono hl⟩
 |bW=>trivial
end
def upV(val:Nat->Option Qw)(d:Nat)(v:Qw):Nat->Option Qw:=λt=>match Qy t d with
 |true=>some v
 |false=>val t
theorem BG(fr:Fr)(d:Nat)(s:S)(t:Nat):(fr.put d s).sl t=if t=d then s else fr.sl t:=by
 show(match Qy t d with
  |true=>s
  |false=>fr.sl t)=_
 by_cases e:t=d
 .simp_all
 .rw[J1 e];have:Qy t d=false:=by
   cases hb:Qy t d with
   |false=>rfl
   |true=>exact J3 (Qp hb) e
  rw[this]
theorem MG(val:Nat->Option Qw)(d:Nat)(v:Qw)(t:Nat):upV val d v t=if t=d then some v else val t:=by
 unfold upV;by_cases e:t=d
 .simp_all
 .rw[J1 e];have:Qy t d=false:=by
   cases hb:Qy t d with
   |false=>rfl
   |true=>exact J3 (Qp hb) e
  rw[this]
theorem cu(fr:Fr)(b:Nat)(o:O)(k:Nat):(fr.set b o).ob k=if k=b then some o else fr.ob k:=by
 show(match Qy k b with
  |true=>some o
  |false=>fr.ob k)=_
 by_cases e:k=b
 .simp_all
 .rw[J1 e];have:Qy k b=false:=by
   cases hb:Qy k b with
   |false=>rfl
   |true=>exact J3 (Qp hb) e
  rw[this]
section
variable {w0:QL} {Γ0:List As} {fr:Fr} {ρ:Nat->Option Qw} {M:Mem} {lst:List (Nat×As)} {val:Nat->Option Qw} {w:QL}
theorem Rel.put(h:Rel w0 Γ0 fr ρ M lst val w)(d:Nat){s:S}{v:Qw}(hs:SR M ρ s v):Rel w0 Γ0 (fr.put d s) ρ M lst (upV val d v) w:=by
 refine⟨λt=>?_,h.ob,h.vP,h.gg,h.nd,h.st,h.gr⟩;rw[BG,MG];by_cases e:t=d
 .grind
 .rw[J1 e,J1 e];exact h.sl t
theorem Rel.mem(h:Rel w0 Γ0 fr ρ M lst val w){b:Nat}{x:As}(hm:(b,x)∈lst):X5 (lst.map Ra++Γ0) (x::((lst.filter λp=>!Qy p.1 b).map Ra++Γ0)):=by
 obtain⟨l1,l2,rfl⟩:=List.append_of_mem hm;have hnd:=h.nd;rw[Rb,QT]at hnd;have hn1:∀p∈l1,Qy p.1 b=false:=λp hp=>by
  cases hb:Qy p.1 b with
  |false=>rfl
  |true=>have e:=Qp hb;exact J3 e ((R7.1 hnd).2.2 p.1 (Rl hp) b (Qt ..))
 have hn2:∀p∈l2,Qy p.1 b=false:=λp hp=>by
  cases hb:Qy p.1 b with
  |false=>rfl
  |true=>have e:=Qp hb;have:=(Rw.1 (R7.1 hnd).2.1).1;exact J3 (show b∈l2.map QZ by grind) this
 have f1:l1.filter (λp=>!Qy p.1 b)=l1:=Tj.2 λp hp=>by grind
 have f2:l2.filter (λp=>!Qy p.1 b)=l2:=Tj.2 λp hp=>by grind
 rw[RF,List.filter_cons,f1,f2,Ud];simp_all
end
structure Out where
 v:Option S
 ob:List (Nat×O)
 fs:List Nat
 fo:List Nat
def R1(Is:Cx)(fr:Fr):bj->List Nat->List Nat->Out->Prop
 |.no,_,_,_=>False
 |.ret v ob,fs,fo,o=>o=⟨v,ob,fs,fo⟩
 |.Kz t k,fs,fo,o=>R1 Is fr (k (fr.sl t)) (t::fs) fo o
 |.lU b k,fs,fo,o=>R1 Is fr (k (fr.ob b)) fs ((2*b)::fo) o
 |.KA b k,fs,fo,o=>R1 Is fr (k (bI (fr.ob b))) fs ((2*b+1)::fo) o
 |.i x k,fs,fo,o=>∃z,x=.v (.int .i64 z)/\R1 Is fr (k z) fs fo o
 |.bo x k,fs,fo,o=>∃z,x=.v (.bool z)/\R1 Is fr (k z) fs fo o
 |.st x k,fs,fo,o=>∃z,x=.v (.string z)/\R1 Is fr (k z) fs fo o
 |.ik kd x k,fs,fo,o=>∃z,x=.v (.int kd z)/\R1 Is fr (k z) fs fo o
 |.FJ kd cs k,fs,fo,o=>∃b,nu kd cs=some b/\R1 Is fr (k b) fs fo o
 |.sc sz x k,fs,fo,o=>∃n cs,x=.sl n sz cs/\R1 Is fr (k n cs) fs fo o
 |.we b p q,fs,fo,o=>(b=true/\R1 Is fr p fs fo o)\/(b=false/\R1 Is fr q fs fo o)
 |.ck p _ k,fs,fo,o=>p/\R1 Is fr k fs fo o
 |.ca s a k,fs,fo,o=>∃r,Is.is s a r/\R1 Is fr (k r) fs fo o
 |.inl _ f xs ob k,fs,fo,o=>∃v os,Is.inl f xs ob v os/\R1 Is fr (k v os) fs fo o
theorem oL{x:D}{k:Int->Prop}(h:aw x k):∃z,x=.v (.int .i64 z)/\k z:=by
 unfold aw at h
 grind
theorem kW{x:D}{k:Bool->Prop}(h:oX x k):∃z,x=.v (.bool z)/\k z:=by
 unfold oX at h
 grind
theorem C5{x:D}{k:ByteArray->Prop}(h:rA x k):∃z,x=.v (.string z)/\k z:=by
 unfold rA at h
 grind
theorem Jg{kd:R6}{x:D}{k:Int->Prop}(h:qk kd x k):∃z,x=.v (.int kd z)/\k z:=by
 unfold qk at h
 grind
theorem JG{kd:R6}{cs:List D}{k:List Int->Prop}(h:PT kd cs k):∃b,nu kd cs=some b/\k b:=by
 unfold PT at h
 grind
theorem iz{sz:Nat}{x:D}{k:Nat->List D->Prop}(h:aH sz x k):∃n cs,x=.sl n sz cs/\k n cs:=by
 unfold aH at h;split at h
 .rename_i n s cs;cases hb:Qy s sz with
  |true=>rw[hb]at h;rw[Qp hb];exact⟨n,cs,rfl,h⟩
  |false=>rw[hb]at h;exact h.elim
 .exact h.elim
theorem gI{Is:Cx}{fr:Fr}:∀(p:bj) {fs fo:List Nat} {K:Option S->List (Nat×O)->List Nat->List Nat->Prop},run Is fr p fs fo K->∃o,R1 Is fr p fs fo o/\K o.v o.ob o.fs o.fo
 |.no,_,_,_,h=>h.elim
 |.ret v ob,fs,fo,_,h=>⟨⟨v,ob,fs,fo⟩,rfl,h⟩
 |.Kz t k,_,_,_,h=>gI (k (fr.sl t)) h
 |.lU b k,_,_,_,h=>gI (k (fr.ob b)) h
 |.KA b k,_,_,_,h=>gI (k (bI (fr.ob b))) h
 |.i _ k,_,_,_,h=>let⟨z,h1,h2⟩:=oL h;let⟨o,h3,h4⟩:=gI (k z) h2;⟨o,⟨z,h1,h3⟩,h4⟩
 |.bo _ k,_,_,_,h=>let⟨z,h1,h2⟩:=kW h;let⟨o,h3,h4⟩:=gI (k z) h2;⟨o,⟨z,h1,h3⟩,h4⟩
 |.st _ k,_,_,_,h=>let⟨z,h1,h2⟩:=C5 h;let⟨o,h3,h4⟩:=gI (k z) h2;⟨o,⟨z,h1,h3⟩,h4⟩
 |.ik _ _ k,_,_,_,h=>let⟨z,h1,h2⟩:=Jg h;let⟨o,h3,h4⟩:=gI (k z) h2;⟨o,⟨z,h1,h3⟩,h4⟩
 |.FJ _ _ k,_,_,_,h=>let⟨z,h1,h2⟩:=JG h;let⟨o,h3,h4⟩:=gI (k z) h2;⟨o,⟨z,h1,h3⟩,h4⟩
 |.sc _ _ k,_,_,_,h=>let⟨n,cs,h1,h2⟩:=iz h;let⟨o,h3,h4⟩:=gI (k n cs) h2;⟨o,⟨n,cs,h1,h3⟩,h4⟩
 |.we true p _,_,_,_,h=>let⟨o,h3,h4⟩:=gI p h;⟨o,.inl ⟨rfl,h3⟩,h4⟩
 |.we false _ q,_,_,_,h=>let⟨o,h3,h4⟩:=gI q h;⟨o,.inr ⟨rfl,h3⟩,h4⟩
 |.ck _ _ k,_,_,_,h=>let⟨o,h3,h4⟩:=gI k h.2;⟨o,⟨h.1,h3⟩,h4⟩
 |.ca _ _ k,_,_,_,h=>let⟨r,h1,h2⟩:=h;let⟨o,h3,h4⟩:=gI (k r) h2;⟨o,⟨r,h1,h3⟩,h4⟩
 |.inl _ _ _ _ k,_,_,_,h=>let⟨v,os,h1,h2⟩:=h;let⟨o,h3,h4⟩:=gI (k v os) h2;⟨o,⟨v,os,h1,h3⟩,h4⟩
theorem Om{x:Option O}{e sz n:Nat}{l:List D}(h:bI x=some (.w e sz n l)):∃ds,x=some (.w e sz n ds):=by unfold bI at h;split at h <;> simp_all
theorem Ol{x:Option O}{e sz n:Nat}{l:List D}(h:bI x=some (.x e sz n l)):∃ds,x=some (.x e sz n ds):=by unfold bI at h;split at h <;> simp_all
theorem On{x:Option O}{e sz n:Nat}{l:List C}(h:bI x=some (.v e sz n l)):∃ds,x=some (.v e sz n ds):=by unfold bI at h;split at h <;> simp_all
theorem meta_s{x:Option O}{sz n:Nat}{l:List D}(h:bI x=some (.s sz n l)):∃ds,x=some (.s sz n ds):=by unfold bI at h;split at h <;> simp_all
def tv(a:Act):Nat->Option Qw:=λt=>a.tmps[t]?
def eo(a:Act):QM->Qw->Prop
 |.tmp t,v=>a.tmps[t]?=some v
 |.const c,v=>v=c
 |.func f,v=>v=.func (.func f) #[] #[]
 |.global g,v=>v=.pointer (some ⟨g,0,none⟩)
def Lf(a:Act):Lm:=iy 0 a.tmps.toList
theorem mT:∀(vs:List Qw) (i k:Nat),kQ (iy i vs) (i+k)=vs[k]?
 |[],_,_=>by simp[iy,kQ]
 |v::vs,i,0=>by simp only[iy,kQ,RY,Ud];rfl
 |v::vs,i,k+1=>by
  have hb:Qy (i+(k+1)) i=false:=by
   cases h:Qy (i+(k+1)) i with
   |false=>rfl
   |true=>have:=Qp h;omega
  simp only[iy,kQ,hb];rw[show i+(k+1)=i+1+k by omega,mT vs (i+1) k];simp
theorem Lf_at(a:Act)(t:Nat):kQ (Lf a) t=a.tmps[t]?:=by have:=mT a.tmps.toList 0 t;rw[Rn]at this;rw[Lf,this];simp
theorem uH{n:Nat}{a:Act}(h1:a.tmps.size=n)(h2:a.defers=[]):Sat n (Lf a) a:=⟨h1,h2,λt v h=>by rwa [Lf_at]at h⟩
theorem eo.bm{a:Act}{x:QM}{v:Qw}(h:eo a x v):bm (Lf a) x=some v:=by
 cases x with
 |tmp t=>rw[Xe.bm,Lf_at];exact h
 |const c=>rw[Xe.bm,h]
 |func f=>rw[Xe.bm,h]
 |global g=>rw[Xe.bm,h]
theorem eo.eval{a:Act}{x:QM}{v:Qw}(h:eo a x v):a.eval x=v:=by
 cases x with
 |tmp t=>simp[Vm,show a.tmps[t]?=some v from h]
 |const c=>rw[h];rfl
 |func f=>rw[h];rfl
 |global g=>rw[h];rfl
theorem conS_ok(M:Mem)(ρ:Nat->Option Qw)(v:Qw):SR M ρ (conS v) v:=by
 unfold conS;split
 .rfl
 .rename_i cs;split
  .rename_i h;refine⟨Q2,cs.toList,rfl,Q2,λk d u hd hu=>?_⟩;rw[Tv,hu]at hd;simp only[TK,Qq]at hd;subst hd;unfold Rd
   grind
  .exact trivial
 .split
  .rename_i h;exact⟨rfl,h⟩
  .exact trivial
section
variable {Is:Cx} {w0:QL} {Γ0:List As} {fr:Fr} {ρ:Nat->Option Qw} {M:Mem} {lst:List (Nat×As)} {a:Act} {w:QL} {fs fo:List Nat} {o:Out}
theorem bD(h:Rel w0 Γ0 fr ρ M lst (tv a) w){x:QM}{k:S->bj}(hr:R1 Is fr (cK x k) fs fo o):∃s fs',R1 Is fr (k s) fs' fo o/\(s=su\/∃v,eo a x v/\SR M ρ s v):=by
 cases x with
 |tmp t=>exact⟨_,_,hr,h.sl t⟩
 |const c=>exact⟨_,_,hr,.inr ⟨c,rfl,conS_ok M ρ c⟩⟩
 |func f=>exact⟨_,_,hr,.inr ⟨_,rfl,⟨[],rfl,trivial⟩⟩⟩
 |global g=>exact hr.elim
theorem SR_su(v:Qw):SR M ρ su v:=trivial
theorem dt{P:QE}{t:QH}{s:S}{v:Qw}(h:SR M ρ s v):SR M ρ (fU P t s) v:=by
 unfold fU;split
 .split
  .exact h
  .exact h
 .exact h
theorem IW{c:C}{v:Qw}(h:CR M ρ c v):CR M ρ (nilC c) v:=by
 cases c with
 |l sz=>obtain rfl:v=.slice none 0 0:=h;exact⟨rfl,rfl⟩
 |_=>exact h
theorem D9:∀{cs:List C} {vs:List Qw},dr M ρ cs vs->dr M ρ (cs.map nilC) vs
 |[],[],_=>trivial
 |_::_,_::_,h=>⟨IW h.1,D9 h.2⟩
 |[],_::_,h=>h.elim
 |_::_,[],h=>h.elim
theorem pz{hp:Bool}{s:S}{v:Qw}(h:SR M ρ s v):SR M ρ (sf hp s) v:=by
 cases hp with
 |false=>exact h
 |true =>
  cases s with
  |c c=>exact IW (M:=M) (ρ:=ρ) h
  |g cs=>obtain⟨us,h1,h2⟩:=h;exact⟨us,h1,D9 h2⟩
  |_=>exact h
theorem se{P:QE}{t:QH}{hp:Bool}:sf hp (fU P t su)=su:=by cases hp <;> rfl
theorem N4{P:QE}{t:QH}{s:S}{v:Qw}(h:SR M ρ s v):SR M ρ (xM P t s) v:=by
 unfold xM;split
 .split
  .have hv:v=.slice none 0 0:=by have h:Rd M (.v (.slice none 0 0)) v:=h;simp only[Rd]at h;exact h.1
   exact dt (s:=.c .n) hv
  .rename_i g fs cs;split
   .rename_i h1 h2;have hv:v=.func (.func g) fs cs:=by have h:Rd M (.v (.func (.func g) fs cs)) v:=h;simp only[Rd]at h;exact h.1
    have e1:fs=#[]:=by grind
    have e2:cs=#[]:=by grind
    exact⟨[],by grind,trivial⟩
   .exact h
  .exact h
 .exact h
theorem ee{s:S}{k:Int->bj}(hr:R1 Is fr (lP s k) fs fo o):∃z,s=.c (.d (.v (.int .i64 z)))/\R1 Is fr (k z) fs fo o:=by
 unfold lP at hr;split at hr
 .obtain⟨z,rfl,h⟩:=hr;exact⟨z,rfl,h⟩
 .exact hr.elim
theorem uA{s:S}{k:Bool->bj}(hr:R1 Is fr (Fm s k) fs fo o):∃z,s=.c (.d (.v (.bool z)))/\R1 Is fr (k z) fs fo o:=by
 unfold Fm at hr;split at hr
 .obtain⟨z,rfl,h⟩:=hr;exact⟨z,rfl,h⟩
 .exact hr.elim
theorem mS{s:S}{k:ByteArray->bj}(hr:R1 Is fr (wM s k) fs fo o):∃z,s=.c (.d (.v (.string z)))/\R1 Is fr (k z) fs fo o:=by
 unfold wM at hr;split at hr
 .obtain⟨z,rfl,h⟩:=hr;exact⟨z,rfl,h⟩
 .exact hr.elim
theorem ev_val{x:QM}{s:S}{y:D}(h:s=su\/∃v,eo a x v/\SR M ρ s v)(e:s=.c (.d y)):∃v,eo a x v/\Rd M y v:=by
 subst e;rcases h with h|h
 .cases h
 .exact h
theorem dU{x:QM}{s:S}{y:Qw}(h:s=su\/∃v,eo a x v/\SR M ρ s v)(e:s=.c (.d (.v y))):eo a x y:=by obtain⟨v,h1,h2⟩:=ev_val h e;simp only[Rd]at h2;rw[<-h2.1];exact h1
end
def aX(n:Nat)(w0:QL)(Γ0:List As)(ρ:Nat->Option Qw)(M:Mem)(fr:Fr)(a:Act)(w:QL):Prop :=
 a.tmps.size=n/\a.defers=[]/\∃ρ' M' lst',Sub M M'/\Ext ρ ρ'/\Rel w0 Γ0 fr ρ' M' lst' (tv a) w
theorem rv:∀(l:List (Nat×O)) (fr:Fr),(fr.aJ l).sl=fr.sl
 |[],_=>rfl
 |(b,o)::l,fr=>by rw[Fr.aJ,rv l];rfl
theorem ka:∀(l:List (Nat×O)) (fr:Fr),(fr.aJ l).aQ=fr.aQ
 |[],_=>rfl
 |(b,o)::l,fr=>by rw[Fr.aJ,ka l];rfl
theorem ky:∀(l:List (Nat×O)) (fr:Fr) (d:Nat) (s:S),(fr.put d s).aJ l=(fr.aJ l).put d s
 |[],_,_,_=>rfl
 |(b,o)::l,fr,d,s=>by rw[Fr.aJ,Fr.aJ,<-ky l (fr.set b o) d s];rfl
theorem wI:∀(l k:List (Nat×O)) (fr:Fr),fr.aJ (l++k)=(fr.aJ l).aJ k
 |[],_,_=>rfl
 |(b,o)::l,k,fr=>by rw[Rm,Fr.aJ,Fr.aJ,wI l k]
theorem tv_put{a:Act}{d:Nat}(v:Qw)(hd:d<a.tmps.size):tv (a.put (some d) v)=upV (tv a) d v:=by
 funext t
 rw[MG];unfold tv;simp only[Vn]
 grind
section
variable {P:QE} {n:Nat} {w0:QL} {Γ0:List As} {fr:Fr} {ρ:Nat->Option Qw} {M:Mem} {lst:List (Nat×As)} {a:Act} {w:QL} {Q:Exit->Act->QL->Prop}
theorem aX.put{fr':Fr}{ρ':Nat->Option Qw}{M':Mem}{lst':List (Nat×As)}{w':QL}(h1:a.tmps.size=n)(h2:a.defers=[])(hM:Sub M M')(hE:Ext ρ ρ')(h:Rel w0 Γ0 fr' ρ' M' lst' (tv a) w'){d:Nat}(hd:d<n){s:S}{v:Qw}(hs:SR M' ρ' s v) :
  aX n w0 Γ0 ρ M (fr'.put d s) (a.put (some d) v) w':=by
 refine⟨by simp[Vn,h1],by simp[Vn,h2],ρ',M',lst',hM,hE,?_⟩;rw[tv_put v Q0];exact h.put d hs
theorem ba{o:Oper}{d:Nat}{out:Out}{s:S}{v:Qw}{ρ':Nat->Option Qw}{M':Mem}{lst':List (Nat×As)}{w':QL}(h1:a.tmps.size=n)(h2:a.defers=[])(hd:o.dst=some d)(hdn:d<n)(hv:out.v=some s)
  (hM:Sub M M') (hE:Ext ρ ρ') (h:Rel w0 Γ0 (fr.aJ out.ob) ρ' M' lst' (tv a) w') (hs:SR M' ρ' s v) (hrun:(Rc a.eval o).run P w=.ok (.value v) w') :
  o.wp P a w (aX n w0 Γ0 ρ M ((fr.bl o.dst out.v).aJ out.ob)) Q:=by
 unfold UH;rw[hrun,Oper.upon_value,hd,hv];show aX n w0 Γ0 ρ M ((fr.put d s).aJ out.ob) _ _;rw[ky];exact aX.put h1 h2 hM hE h hdn hs
theorem rU{o:Oper}{out:Out}{ρ':Nat->Option Qw}{M':Mem}{lst':List (Nat×As)}{w':QL}(h1:a.tmps.size=n)(h2:a.defers=[])(hd:o.dst=none)
  (hM:Sub M M') (hE:Ext ρ ρ') (h:Rel w0 Γ0 (fr.aJ out.ob) ρ' M' lst' (tv a) w') (hrun:(Rc a.eval o).run P w=.ok .skip w') :
  o.wp P a w (aX n w0 Γ0 ρ M ((fr.bl o.dst out.v).aJ out.ob)) Q:=by
 unfold UH;rw[hrun,Oper.upon_skip,hd];refine⟨h1,h2,ρ',M',lst',hM,hE,?_⟩;have e:fr.bl none out.v=fr:=rfl;rw[e];exact h
theorem aS{o:Oper}{d:Nat}{out:Out}{s:S}{v:Qw}(h1:a.tmps.size=n)(h2:a.defers=[])(h:Rel w0 Γ0 fr ρ M lst (tv a) w)(hd:o.dst=some d)(hdn:d<n)(hv:out.v=some s)(hob:out.ob=[])(hs:SR M ρ s v)
  (hy:Yq P w0 (Lf a) M (lst.map Ra++Γ0) o v):o.wp P a w (aX n w0 Γ0 ρ M ((fr.bl o.dst out.v).aJ out.ob)) Q :=
 ba h1 h2 hd hdn hv (Sub.refl M) (Ext.refl ρ) (by rw[hob];exact h) hs (hy n a w (uH h1 h2) h.st)
end
def Eq3(P:QE)(t:QH):Prop:=∀(w0:QL) (L:Lm) (M:Mem) (Γ:List As) (d:Option Nat) (ty:QH) (pos:String) (af:Array Edge) (g:Option (Nat×Bool)) (x y:QM) (a b c a' b' c':Int),
 bm L x=some (.agg [.int .i64 a,.int .i64 b,.int .i64 c].toArray)->bm L y=some (.agg [.int .i64 a',.int .i64 b',.int .i64 c'].toArray) ->
 Yq P w0 L M Γ ⟨d,.binOp .eql t x y t,ty,pos,af,g⟩ (.bool (decide (a=a'/\b=b'/\c=c')))/\Yq P w0 L M Γ ⟨d,.binOp .neq t x y t,ty,pos,af,g⟩ (.bool (!decide (a=a'/\b=b'/\c=c')))
def EqA(P:QE)(t:QH)(n:Nat)(kd:R6):Prop:=∀(w0:QL) (L:Lm) (M:Mem) (Γ:List As) (d:Option Nat) (ty:QH) (pos:String) (af:Array Edge) (g:Option (Nat×Bool)) (x y:QM) (a b:List Int),
 a.length=n->b.length=n->bm L x=some (.agg (a.map (Sa kd)).toArray)->bm L y=some (.agg (b.map (Sa kd)).toArray) ->
 Yq P w0 L M Γ ⟨d,.binOp .eql t x y t,ty,pos,af,g⟩ (.bool (decide (a=b)))/\Yq P w0 L M Γ ⟨d,.binOp .neq t x y t,ty,pos,af,g⟩ (.bool (!decide (a=b)))
structure lS(P:QE)(tb:Tb):Prop where
 eq3:∀t,tb.eq3.any (Qy t)=true->Eq3 P t
 key:∀t,tb.eq3.any (Qy t)=true->ql P t jH
 eqa:∀t n e kd,tb.eqa.any (Qy t)=true->P.underlying t=some (.array n e)->P.underlying e=some (.int kd)->EqA P t n kd
 gl:∀v ds,ye v tb.gl=some ds->∀M,yT M->∃us,bz M ds us/\∀i u,us[i]?=some u->dW M (Uz ⟨v,0,none⟩ i)=some u
 gm:∀v l,Ax v tb.gm=some l->∀M,yT M->∃(m:Nat) (es:Array Su) (c:Nat) (l':List (Int×Int)),dW M ⟨v,0,none⟩=some (.map (some m))/\M m=some (.map es c)/\(es.toList.map λe=>(e.key,e.val))=(l'.map λp=>(Sa .i64 p.1,Sa .i64 p.2))/\l'.Perm l/\(l.map QZ).Nodup
 eqs:∀t n,ES t tb.eqs=some n->EqA P t n .i64
theorem gk{P:QE}{t:QH}{m:Nat}(h:Mw P t=some m):mf P t m=true:=by
 unfold Mw at h;unfold mf;cases hi:P.info? t with
 |none=>simp[hi]at h
 |some i =>
  rw[hi]at h;have:i.size=m:=by grind
  subst this;exact Ud _
theorem ij{P:QE}{t:QH}{m:Nat}(h:zn P t=some m):FC P t m=true:=by
 unfold zn at h;unfold FC;cases hu:P.underlying t with
 |none=>simp[hu]at h
 |some d =>
  rw[hu]at h;cases d with
  |struct fs=>have:=gk h;unfold mf at this;simpa using this
  |array n e=>have:=gk h;unfold mf at this;simpa using this
  |_=>simp at h
theorem dA{P:QE}{t e sz:Nat}(h:AP P t=some (e,sz)):sliceB P t e sz=true:=by
 unfold AP at h;unfold sliceB;cases hu:P.underlying t with
 |none=>simp[hu]at h
 |some d =>
  rw[hu]at h;cases d with
  |slice e' =>
   simp only[]at h;cases hs:Mw P e' with
   |none=>simp[hs]at h
   |some sz'=>rw[hs]at h;simp only[Qq,QR]at h;obtain⟨rfl,rfl⟩:=h;rw[gk hs];simp
  |_=>simp at h
theorem ET{P:QE}{s i off ft:Nat}(h:qZ P s i=some (off,ft)):yp P s i off=true:=by
 unfold qZ at h;unfold yp;cases hu:P.underlying s with
 |none=>simp[hu]at h
 |some d =>
  rw[hu]at h;cases d with
  |struct fs =>
   simp only[]at h ⊢;cases hf:fs[i]? with
   |none=>simp[hf]at h
   |some f =>
    rw[hf]at h;simp only[]at h ⊢;cases hj:P.info? f.type with
    |none=>simp[hj]at h
    |some j =>
     rw[hj]at h;simp only[]at h ⊢;cases hs:j.size with
     |zero=>rw[hs]at h;simp at h
     |succ k=>rw[hs]at h;simp only[Qq,QR]at h;obtain⟨rfl,_⟩:=h;simp
  |_=>simp at h
theorem th{ds:List D}{i:Nat}(h:i<ds.length):ds[i]?=some (cell ds i):=by
 unfold cell
 grind
theorem dr.len{M:Mem}{ρ:Nat->Option Qw}:∀{cs:List C} {us:List Qw},dr M ρ cs us->us.length=cs.length
 |[],[],_=>rfl
 |_::cs,_::us,h=>by rw[QG,QG,dr.len h.2]
 |[],_::_,h=>h.elim
 |_::_,[],h=>h.elim
theorem dr.get{M:Mem}{ρ:Nat->Option Qw}:∀{cs:List C} {us:List Qw} {i:Nat} {c:C},dr M ρ cs us->cs[i]?=some c->∃u,us[i]?=some u/\CR M ρ c u
 |c::cs,u::us,0,_,h,hc=>by simp only[Ru,Qq]at hc;subst hc;exact⟨u,rfl,h.1⟩
 |_::cs,_::us,i+1,_,h,hc=>by
  obtain⟨u,h1,h2⟩:=dr.get (i:=i) h.2 (by simpa using hc)
  grind
 |[],[],_,_,_,hc=>by simp at hc
 |[],_::_,_,_,h,_=>h.elim
 |_::_,[],_,_,h,_=>h.elim
theorem dr.drop{M:Mem}{ρ:Nat->Option Qw}:∀(n:Nat) {cs:List C} {us:List Qw},dr M ρ cs us->dr M ρ (cs.drop n) (us.drop n)
 |0,_,_,h=>h
 |_+1,[],[],_=>trivial
 |n+1,_::_,_::_,h=>dr.drop n h.2
 |_+1,[],_::_,h=>h.elim
 |_+1,_::_,[],h=>h.elim
theorem dr.take{M:Mem}{ρ:Nat->Option Qw}:∀(n:Nat) {cs:List C} {us:List Qw},dr M ρ cs us->dr M ρ (cs.take n) (us.take n)
 |0,_,_,_=>trivial
 |_+1,[],[],_=>trivial
 |n+1,_::_,_::_,h=>⟨h.1,dr.take n h.2⟩
 |_+1,[],_::_,h=>h.elim
 |_+1,_::_,[],h=>h.elim
theorem dr.app{M:Mem}{ρ:Nat->Option Qw}:∀{cs:List C} {us:List Qw} {cs':List C} {us':List Qw},dr M ρ cs us->dr M ρ cs' us'->dr M ρ (cs++cs') (us++us')
 |[],[],_,_,_,h=>h
 |_::_,_::_,_,_,h,k=>⟨h.1,dr.app h.2 k⟩
 |[],_::_,_,_,h,_=>h.elim
 |_::_,[],_,_,h,_=>h.elim
theorem dr.data{M:Mem}{ρ:Nat->Option Qw}:∀{ds:List D} {us:List Qw},bz M ds us->dr M ρ (ds.map C.d) us
 |[],[],_=>trivial
 |d::ds,u::us,h=>⟨h.2 0 d u rfl rfl,dr.data ⟨by simpa using h.1,λk e x h1 h2=>h.2 (k+1) e x (by grind) (by grind)⟩⟩
 |[],_::_,h=>by have:=h.1;simp at this
 |_::_,[],h=>by have:=h.1;simp at this
theorem te{n:Nat}{ds:List D}(h:ds.length=n):cells n ds=ds:=by
 unfold cells;apply U5;intro i;rcases Nat.lt_or_ge i n with hi|hi
 .rw[th (ds:=ds) Q0];simp[hi]
 all_goals grind
section
variable {P:QE} {n:Nat} {w0:QL} {Γ:List As} {ρ:Nat->Option Qw} {M:Mem} {L:Lm} {d:Option Nat} {ty:QH} {pos:String} {af:Array Edge} {g:Option (Nat×Bool)}
theorem lI(a:Option Addr)(i j:Nat):fT a (i+j)=fT (some (fT a i)) j:=(eu a i j).symm
theorem jE{t:QH}{x:QM}{ad:Option Addr}{q o m:Nat}{ds:List D}{us:List Qw}{s:S}(hx:bm L x=some (.pointer (some (fT ad (q+o)))))(hr:bz M ds us)(hl:ds.length=m)
  (hc:∀i u,us[i]?=some u->∀w,St w0 M Γ w->w.cell? (fT ad (q+i))=some u) (h:nJ P t m ds o=some s):∃v,Yq P w0 L M Γ ⟨d,.load t x,ty,pos,af,g⟩ v/\SR M ρ s v:=by
 unfold nJ at h;cases hf:jZ P t with
 |true =>
  rw[hf]at h;simp only[]at h;cases ho:Sq o m with
  |false=>simp[ho]at h
  |true =>
   rw[ho]at h;simp only[Qq]at h;subst h;have ho':o<ds.length:=by simp_all
   obtain⟨u,h1,h2⟩:=bz.get hr (th ho');exact⟨u,Y.load hx hf (hc o u h1),h2⟩
 |false =>
  rw[hf]at h;simp only[]at h;cases ha:zn P t with
  |none=>simp[ha]at h
  |some k =>
   rw[ha]at h;simp only[]at h;have hag:=ij ha;cases hb:(Qy o 0 && Qy k m) with
   |true=>rw[hb]at h;simp only[Qq]at h;subst h;simp only[QA]at hb;have e1:=Qp hb.1;have e2:=Qp hb.2;subst e1 e2;refine⟨.agg us.toArray,Y.v8 hx (by rw[hr.1,hl];exact hag) λw hw j v hj=>?_,hl,us,rfl,hr⟩;have:=hc j v hj w hw;rwa [RY,eu]
   |false =>
    rw[hb]at h;simp only[]at h;cases hb2:SI (o+k) m with
    |false=>simp[hb2]at h
    |true =>
     rw[hb2]at h;simp only[Qq]at h;subst h;have hle:o+k<=m:=by simp_all
     have hcut:=hr.cut o k;have hlen:((us.drop o).take k).length=k:=by simp[hr.1,hl];omega
     refine⟨.agg ((us.drop o).take k).toArray,Y.v8 hx (by grind) λw hw j v hj=>?_,?_,_,rfl,hcut⟩
     .have hj':us[o+j]?=some v:=by
       rw[R8]at hj;split at hj
       .simpa using hj
       .cases hj
      have:=hc (o+j) v hj' w hw;rwa [eu,RW]
     .unfold sub;simp[hl];omega
theorem xX{t:QH}{x:QM}{ad:Option Addr}{o:Nat}{cs:List C}{us:List Qw}{s:S}(hx:bm L x=some (.pointer (some (fT ad o))))(hr:dr M ρ cs us)
  (hc:∀i u,us[i]?=some u->∀w,St w0 M Γ w->w.cell? (fT ad i)=some u) (h:sA P t cs o=some s):∃v,Yq P w0 L M Γ ⟨d,.load t x,ty,pos,af,g⟩ v/\SR M ρ s v:=by
 unfold sA at h;cases hf:jZ P t with
 |true =>
  rw[hf]at h;simp only[]at h;cases ho:cs[o]? with
  |none=>simp[ho]at h
  |some c=>rw[ho]at h;simp only[Qq]at h;subst h;obtain⟨u,h1,h2⟩:=dr.get hr ho;exact⟨u,Y.load hx hf (hc o u h1),h2⟩
 |false =>
  rw[hf]at h;simp only[]at h;cases ha:zn P t with
  |none=>simp[ha]at h
  |some k =>
   rw[ha]at h;simp only[]at h;have hag:=ij ha;cases hb2:SI (o+k) cs.length with
   |false=>simp[hb2]at h
   |true =>
    rw[hb2]at h;simp only[Qq]at h;subst h;have hle:o+k<=cs.length:=by simp_all
    have hcut:=dr.take k (dr.drop o hr);have hlen:((us.drop o).take k).length=k:=by simp[dr.len hr];omega
    refine⟨.agg ((us.drop o).take k).toArray,Y.v8 hx (by grind) λw hw j v hj=>?_,_,rfl,hcut⟩;have hj':us[o+j]?=some v:=by
     grind
    have:=hc (o+j) v hj' w hw;rwa [eu]
end
theorem Hg{M:Mem}{ds:List D}{us:List Qw}(h:bz M ds us)(sz k:Nat):bz M (el ds sz k) ((us.drop (k*sz)).take sz):=h.cut _ _
theorem Cm{ds:List D}{sz n k:Nat}(hl:ds.length=n*sz)(hk:k<n):(el ds sz k).length=sz:=by
 unfold el;have:(k+1)*sz<=n*sz:=Rz _ hk
 grind
theorem nf{Is:Cx}{fr:Fr}{x:Option S}{fs fo:List Nat}{o:Out}(h:R1 Is fr (zf x) fs fo o):∃s,x=some s/\o=⟨some s,[],fs,fo⟩:=by
 cases x with
 |none=>exact h.elim
 |some s=>exact⟨s,rfl,h⟩
theorem jF{kd:R6}:∀{ds:List D} {zs:List Int},nu kd ds=some zs->ds=zs.map (λz=>D.v (.int kd z))
 |[],zs,h=>by simp only[nu,Qq]at h;rw[<-h];rfl
 |x::ds,zs,h=>by
  unfold nu at h;split at h
  .grind
  .rename_i kd' z l heq;obtain⟨rfl,rfl⟩:=List.cons.inj heq;split at h
   .rename_i e _;subst e;split at h
    .rename_i b' hb;simp only[Qq]at h;rw[<-h,jF hb];rfl
    .cases h
   .cases h
  .cases h
theorem pR{M:Mem}{kd:R6}{zs:List Int}{us:List Qw}(h:bz M (zs.map λz=>D.v (.int kd z)) us):us=zs.map λz=>Sa kd z:=by
 induction zs generalizing us with
 |nil=>exact Rg (by simpa using h.1)
 |cons z zs ih =>
  cases us with
  |nil=>have:=h.1;simp at this
  |cons u us=>have h0:=h.2 0 (.v (.int kd z)) u rfl rfl;simp only[Rd]at h0;have h1:bz M (zs.map λz=>D.v (.int kd z)) us:=⟨by have:=h.1;simpa using this,λk e x h1 h2=>h.2 (k+1) e x (by grind) (by grind)⟩;rw[ih h1,h0.1];rfl
theorem vD{M:Mem}{ρ:Nat->Option Qw}:∀{cs:List C} {us:List Qw} {ds:List D},dr M ρ cs us->nP cs=some ds->bz M ds us/\ds.length=cs.length
 |[],[],ds,_,h=>by simp only[nP,Qq]at h;subst h;exact⟨bz.nil _,rfl⟩
 |.d x::cs,u::us,ds,h,hz=>by
  unfold nP at hz;split at hz
  .rename_i ds' h4;simp only[Qq]at hz;subst hz;obtain⟨h5,h6⟩:=vD h.2 h4;exact⟨bz.cons h.1 h5,by simp[h6]⟩
  .cases hz
 |[],_::_,_,h,_=>h.elim
 |_::_,[],_,h,_=>h.elim
 |.n::_,_,_,_,hz=>by simp[nP]at hz
 |.l _::_,_,_,_,hz=>by simp[nP]at hz
 |.p _ _::_,_,_,_,hz=>by simp[nP]at hz
 |.q _ _ _ _::_,_,_,_,hz=>by simp[nP]at hz
 |.w _::_,_,_,_,hz=>by simp[nP]at hz
 |.m _::_,_,_,_,hz=>by simp[nP]at hz
 |.f _ _::_,_,_,_,hz=>by simp[nP]at hz
 |.z::_,_,_,_,hz=>by simp[nP]at hz
 |.u::_,_,_,_,hz=>by simp[nP]at hz
 |.e _ _::_,_,_,_,hz=>by simp[nP]at hz
 |.y _ _ _ _ _::_,_,_,_,hz=>by simp[nP]at hz
theorem En{Is:Cx}{P:QE}{fr:Fr}{t n i:Nat}{ds:List D}{fs fo:List Nat}{o:Out}(h:R1 Is fr (I4 P t n ds i) fs fo o)(hl:ds.length=n):∃s,nJ P t n ds i=some s/\o=⟨some s,[],fs,fo⟩:=by
 unfold I4 at h;unfold nJ;cases hf:jZ P t with
 |true =>
  rw[hf]at h;obtain⟨h0,h⟩:=h;have:Sq i n=true:=by simp_all
  dsimp only;rw[this];exact⟨_,rfl,h⟩
 |false =>
  rw[hf]at h;dsimp only at h ⊢;cases ha:zn P t with
  |none=>rw[ha]at h;exact h.elim
  |some m =>
   rw[ha]at h;obtain⟨h0,h⟩:=h;have h:o=⟨some (.a m (sub ds i m)),[],fs,fo⟩:=h;dsimp only;cases hb:(Qy i 0 && Qy m n) with
   |true=>simp only[QA]at hb;have e1:=Qp hb.1;have e2:=Qp hb.2;subst e1 e2;refine⟨_,rfl,?_⟩;rw[h];unfold sub;rw[RR,Rj Q0]
   |false =>
    have:SI (i+m) n=true:=by simp_all
    dsimp only;rw[this];exact⟨_,rfl,h⟩
section
variable {Is:Cx} {P:QE} {tb:Tb} {n:Nat} {w0:QL} {Γ0:List As} {fr:Fr} {ρ:Nat->Option Qw} {M:Mem} {lst:List (Nat×As)} {a:Act} {w:QL} {fs fo:List Nat} {o:Out} {Q:Exit->Act->QL->Prop} {d:Nat} {ty:QH} {pos:String} {af:Array Edge} {g:Option (Nat×Bool)}
variable (h1:a.tmps.size=n) (h2:a.defers=[]) (h:Rel w0 Γ0 fr ρ M lst (tv a) w) (hd:d<n)
theorem ok_load(h1:a.tmps.size=n)(h2:a.defers=[])(h:Rel w0 Γ0 fr ρ M lst (tv a) w)(hd:d<n){t:QH}{x:QM}(hr:R1 Is fr (cK x λs=>OA P t s) fs fo o):(⟨some d,.load t x,ty,pos,af,g⟩:Oper).wp P a w (aX n w0 Γ0 ρ M ((fr.bl (some d) o.v).aJ o.ob)) Q:=by
 obtain⟨s,fs',hr,hs⟩:=bD h hr;unfold OA at hr;split at hr
 .rename_i m ds off;obtain⟨s',e1,rfl⟩:=nf hr;rcases hs with hs|⟨v,hv,hl,ad,q,rfl,hseen⟩
  .cases hs
  .obtain⟨us,h3,h4⟩:=td (M:=M) (a:=ad) (q:=q) (ds:=ds) λj e hj=>hseen j e hj;obtain⟨v,h5,h6⟩:=jE (P:=P) (w0:=w0) (Γ:=lst.map Ra++Γ0) (ρ:=ρ) hv.bm h3 hl (λi u hi w hw=>hw.cell (h4 i u hi)) e1;exact aS h1 h2 h rfl hd rfl rfl h6 h5
 .rename_i b off;have hb:∀x,fr.ob b=some x->OR M ρ lst b x:=λx hx=>h.ob b x hx;change R1 Is fr (match fr.ob b with|some (.a _ n ds)=>_|some (.b _ cs)=>_|_=>_) _ _ _ at hr;rcases hs with hs|⟨v,hv,k,hk,rfl⟩
  .cases hs
  .split at hr
   .rename_i e m ds hob;obtain⟨s',e1,rfl⟩:=nf hr;obtain⟨k',us,h3,h4,h5,h6⟩:=hb _ hob;rw[hk]at h3;obtain rfl:k=k':=by grind
    have hm:As.own k e us∈lst.map Ra++Γ0:=List.mem_append_left _ (Rl h4);obtain⟨v,h7,h8⟩:=jE (P:=P) (w0:=w0) (ρ:=ρ) (q:=0) (ad:=some ⟨k,0,none⟩) (by rw[Rn];exact hv.bm) h5 h6 (Γ:=lst.map Ra++Γ0) (λi u hi w hw=>by rw[Rn];exact hw.mj hm hi) e1;exact aS h1 h2 h rfl hd rfl rfl h8 h7
   .rename_i e cs hob;obtain⟨s',e1,rfl⟩:=nf hr;obtain⟨k',us,h3,h4,h5⟩:=hb _ hob;rw[hk]at h3;obtain rfl:k=k':=by grind
    have hm:As.own k e us∈lst.map Ra++Γ0:=List.mem_append_left _ (Rl h4);obtain⟨v,h7,h8⟩:=xX (P:=P) (w0:=w0) (ρ:=ρ) (ad:=some ⟨k,0,none⟩) (Γ:=lst.map Ra++Γ0) hv.bm h5 (λi u hi w hw=>hw.mj hm hi) e1;exact aS h1 h2 h rfl hd rfl rfl h8 h7
   .exact hr.elim
 .rename_i b sz k j;have hb:∀x,fr.ob b=some x->OR M ρ lst b x:=λx hx=>h.ob b x hx;change R1 Is fr (match fr.ob b with|some (.w _ sz' _ ds)=>_|some (.s sz' _ ds)=>_|some (.x _ sz' _ ds)=>_|some (.v _ sz' _ cs)=>_|_=>_) _ _ _ at hr;rcases hs with hs|⟨v,hv,ad,m,c,hk,hkm,rfl⟩
  .cases hs
  .split at hr
   .rename_i e sz' m' ds hob;obtain⟨ad',c',us,h3,h4,h5,h6,h7⟩:=hb _ hob;rw[hk]at h3;simp only[Qq,Ri]at h3;obtain⟨rfl,rfl,rfl⟩:=h3;split at hr
    .rename_i hbe;obtain⟨s',e1,rfl⟩:=nf hr;have e2:=Qp hbe;subst e2;have hm:As.acc (.slice ad m c) e sz' m us∈lst.map Ra++Γ0:=List.mem_append_left _ (Rl h4)
     obtain⟨v,h8,h9⟩:=jE (P:=P) (w0:=w0) (ρ:=ρ) (q:=k*sz') (ad:=ad) (Γ:=lst.map Ra++Γ0) hv.bm (Hg h5 sz' k) (Cm (by rw[<-h5.1,h6]) hkm) (λi u hi w hw=>by
      refine(hw.o3 hm (q:=k*sz'+i) ?_).2;rw[R8]at hi;split at hi
      .simpa using hi
      .cases hi) e1
     exact aS h1 h2 h rfl hd rfl rfl h9 h8
    .exact hr.elim
   .rename_i sz' m' ds hob;obtain⟨v,h3,h4⟩:=hb _ hob;rw[hk]at h3;simp only[Qq]at h3;subst h3;split at hr
    .rename_i hbe;obtain⟨s',e1,rfl⟩:=nf hr;have e2:=Qp hbe;subst e2;have h5:=h4;simp only[Rd]at h5;obtain⟨a',cap,e3,_,_,_,h6,_,h7⟩:=h5;simp only[Ri]at e3;obtain⟨rfl,rfl,rfl⟩:=e3;obtain⟨us,h8,h9⟩:=td (M:=M) (a:=ad) (q:=0) (ds:=ds) λj e hj=>by simpa using o5.get ds 0 h7 j e hj
     obtain⟨v,h10,h11⟩:=jE (P:=P) (w0:=w0) (ρ:=ρ) (q:=k*sz') (ad:=ad) (Γ:=lst.map Ra++Γ0) hv.bm (Hg h8 sz' k) (Cm h6 hkm) (λi u hi w hw=>by
      refine hw.cell ?_
      have:=h9 (k*sz'+i) u (by
       rw[R8]at hi;split at hi
       .simpa using hi
       .cases hi)
      rwa [Rn]at this) e1
     exact aS h1 h2 h rfl hd rfl rfl h11 h10
    .exact hr.elim
   .rename_i e sz' m' ds hob;obtain⟨ad',c',us,h3,h5,h6,h7,h4⟩:=hb _ hob;rw[hk]at h3;simp only[Qq,Ri]at h3;obtain⟨rfl,rfl,rfl⟩:=h3;split at hr
    .rename_i hbe;obtain⟨s',e1,rfl⟩:=nf hr;have e2:=Qp hbe;subst e2
     obtain⟨v,h8,h9⟩:=jE (P:=P) (w0:=w0) (ρ:=ρ) (q:=k*sz') (ad:=ad) (Γ:=lst.map Ra++Γ0) hv.bm (Hg h5 sz' k) (Cm (by rw[<-h5.1,h6]) hkm) (λi u hi w hw=>by
      refine(h4.cell hw h6 (q:=k*sz'+i) ?_).2;rw[R8]at hi;split at hi
      .simpa using hi
      .cases hi) e1
     exact aS h1 h2 h rfl hd rfl rfl h9 h8
    .exact hr.elim
   .rename_i e sz' m' cs hob;obtain⟨ad',c',us,h3,h4,h5,h6,h7⟩:=hb _ hob;rw[hk]at h3;simp only[Qq,Ri]at h3;obtain⟨rfl,rfl,rfl⟩:=h3;split at hr
    .rename_i hbe;obtain⟨s',e1,rfl⟩:=nf hr;have e2:=Qp hbe;subst e2;have hm:As.acc (.slice ad m c) e sz' m us∈lst.map Ra++Γ0:=List.mem_append_left _ (Rl h4)
     obtain⟨v,h8,h9⟩:=xX (P:=P) (w0:=w0) (ρ:=ρ) (ad:=some (fT ad (k*sz'))) (Γ:=lst.map Ra++Γ0) (by rw[<-lI];exact hv.bm) (dr.take sz' (dr.drop (k*sz') h5)) (λi u hi w hw=>by
      rw[<-lI];refine(hw.o3 hm (q:=k*sz'+i) ?_).2;rw[R8]at hi;split at hi
      .simpa using hi
      .cases hi) e1
     exact aS h1 h2 h rfl hd rfl rfl h9 h8
    .exact hr.elim
   .exact hr.elim
 .rename_i b off;have hb:∀x,fr.ob b=some x->OR M ρ lst b x:=λx hx=>h.ob b x hx;change R1 Is fr (match fr.ob b with|some (.a _ n ds)=>_|some (.b _ cs)=>_|_=>_) _ _ _ at hr;rcases hs with hs|⟨v,hv,k,hk,rfl⟩
  .cases hs
  .split at hr
   .rename_i e m ds hob;obtain⟨k',us,h3,h4,h5,h6⟩:=hb _ hob;obtain⟨s',e1,rfl⟩:=En hr h6;rw[hk]at h3;obtain rfl:k=k':=by grind
    have hm:As.own k e us∈lst.map Ra++Γ0:=List.mem_append_left _ (Rl h4);obtain⟨v,h7,h8⟩:=jE (P:=P) (w0:=w0) (ρ:=ρ) (q:=0) (ad:=some ⟨k,0,none⟩) (by rw[Rn];exact hv.bm) h5 h6 (Γ:=lst.map Ra++Γ0) (λi u hi w hw=>by rw[Rn];exact hw.mj hm hi) e1;exact aS h1 h2 h rfl hd rfl rfl h8 h7
   .rename_i e cs hob;obtain⟨k',us,h3,h4,h5⟩:=hb _ hob;split at hr
    .rename_i ds hz;obtain⟨h5,h6⟩:=vD h5 hz;obtain⟨s',e1,rfl⟩:=En hr h6;rw[hk]at h3;obtain rfl:k=k':=by grind
     have hm:As.own k e us∈lst.map Ra++Γ0:=List.mem_append_left _ (Rl h4);obtain⟨v,h7,h8⟩:=jE (P:=P) (w0:=w0) (ρ:=ρ) (q:=0) (ad:=some ⟨k,0,none⟩) (by rw[Rn];exact hv.bm) h5 h6 (Γ:=lst.map Ra++Γ0) (λi u hi w hw=>by rw[Rn];exact hw.mj hm hi) e1;exact aS h1 h2 h rfl hd rfl rfl h8 h7
    .exact hr.elim
   .exact hr.elim
 .exact hr.elim
theorem IQ(hT:lS P tb)(h1:a.tmps.size=n)(h2:a.defers=[])(h:Rel w0 Γ0 fr ρ M lst (tv a) w)(hd:d<n){t:QH}{v:Nat}(hr:R1 Is fr (Jk P tb v t) fs fo o):(⟨some d,.load t (.global v),ty,pos,af,g⟩:Oper).wp P a w (aX n w0 Γ0 ρ M ((fr.bl (some d) o.v).aJ o.ob)) Q:=by
 unfold Jk at hr;split at hr
 .rename_i ds m hg ha;split at hr
  .rename_i hb;have e1:=Qp hb;have hr:o=⟨some (.a m ds),[],fs,fo⟩:=hr;subst hr;obtain⟨us,h3,h4⟩:=hT.gl v ds hg M h.gr;have hl:us.length=m:=by rw[h3.1,e1]
   refine aS h1 h2 h rfl hd rfl rfl (show SR M ρ (.a m ds) (.agg us.toArray) from⟨e1.symm,us,rfl,h3⟩) (Y.v8 (p:=⟨v,0,none⟩) (show bm (Lf a) (.global v)=_ from rfl) (by rw[hl];exact ij ha) λw hw j u hj=>hw.cell (h4 j u hj))
  .exact hr.elim
 .exact hr.elim
theorem NR(hT:lS P tb)(h1:a.tmps.size=n)(h2:a.defers=[])(h:Rel w0 Γ0 fr ρ M lst (tv a) w)(hd:d<n){t:QH}{v:Nat}(hr:R1 Is fr (G5 P tb v t) fs fo o):(⟨some d,.load t (.global v),ty,pos,af,g⟩:Oper).wp P a w (aX n w0 Γ0 ρ M ((fr.bl (some d) o.v).aJ o.ob)) Q:=by
 unfold G5 at hr;split at hr
 .rename_i l hg hb;simp only[QA]at hb;obtain⟨m,es,c,_,e1,e2,_⟩:=hT.gm v l hg M h.gr;have hr:o=⟨some (.c (.k v)),[],fs,fo⟩:=hr;subst hr;exact aS h1 h2 h rfl hd rfl rfl (show SR M ρ (.c (.k v)) (.map (some m)) from⟨⟨m,rfl⟩,e1⟩) (Y.sA (show bm (Lf a) (.global v)=_ from rfl) e1 hb.1)
 .exact IQ hT h1 h2 h hd hr
end
end Pm
namespace Xe
open Go
section
variable {P:QE} {w0:QL} {L:Lm} {M:Mem} {Γ:List As} {d:Option Nat} {ty:QH} {pos:String} {af:Array Edge} {g:Option (Nat×Bool)}
theorem Y.nilCheck{x:QM}{p:Addr}(hx:bm L x=some (.pointer (some p))):Yq P w0 L M Γ ⟨d,.nilCheck x,ty,pos,af,g⟩ (.pointer (some p)):=λn a w ha _=>by simp[Rc,ha.ev hx]
end
structure cd where
 id:ar
 n:Int
 ty:Ty
 deriving Inhabited
def cd.enc(b:cd):List D:=[ai b.id.aD,ai b.id.seq,ai b.id.index,ai b.n,ai b.ty.kind,ai b.ty.df.aD,ai b.ty.df.seq,ai b.ty.df.index,.sl b.ty.kids.length 5 (b.ty.kids.flatMap Ty.enc)]
theorem cd.aP(b:cd):b.enc.length=9:=rfl
structure bY where
 pos:Int
 be:Int
 left:Int
 name:Int
structure fB where
 p:av
 l:List Int
 own:Int
 j3:ar
abbrev GX:=Ty->List cd->Int->bY->Ex×bY
def fQ(c:fB)(n:Int)(s:bY):Int×bY:=(er c.l s.pos n,{s with pos:=s.pos+1})
def bb(kind n:Int)(kids:List Ex)(s:bY):Ex×bY:=(.mk ⟨0,0,s.be⟩ kind n ki bS kids [],{s with be:=s.be+1,left:=s.left-1})
def nm1:List ByteArray:=[⟨#[117]⟩,⟨#[118]⟩,⟨#[119]⟩]
def nm2:List ByteArray:=[⟨#[]⟩,⟨#[49]⟩,⟨#[50]⟩,⟨#[51]⟩,⟨#[52]⟩,⟨#[53]⟩,⟨#[54]⟩,⟨#[55]⟩]
def Ed(k:Int):ByteArray:=nm1.getD (k.tmod 3).toNat ⟨#[]⟩++nm2.getD ((k.tdiv 3).tmod 8).toNat ⟨#[]⟩
def cI(s:bY):ByteArray×bY:=(Ed (s.name+1),{s with name:=s.name+1})
def Ex.dH(e:Ex)(r:ar):Ex:=.mk e.id e.kind e.n r e.ty e.kids e.aK
def Ex.Ie(e:Ex)(t:Ty):Ex:=.mk e.id e.kind e.n e.ref t e.kids e.aK
def Ex.dD(e:Ex)(l:List Ex)(s:List ByteArray):Ex:=.mk e.id e.kind e.n e.ref e.ty l s
def bN(c:fB)(k:Nat):aq:=c.p.ae.getD k lj
def Lr(c:fB):aI:=c.p.al.getD 0 default
def kr(c:fB)(k:Nat):Prop:=(k:Int)<c.own/\((bN c k).mod=c.j3\/(bN c k).mod=(Lr c).id)
instance (c:fB) (k:Nat):Decidable (kr c k):=by unfold kr;exact inferInstance
def gL(c:fB)(kind:Int)(frm:Nat):Nat->Nat->Int
 |_,0=>-1
 |i,m+1=>if(bN c ((frm+i) % c.p.ae.length)).kind=kind/\kr c ((frm+i) % c.p.ae.length) then((frm+i) % c.p.ae.length:Nat) else gL c kind frm (i+1) m
def My(c:fB)(kind:Int)(frm:Nat):Int:=gL c kind frm 0 c.p.ae.length
def eX(env:List cd)(t:Ty):List cd:=env.filter λb=>decide (b.ty=t)
def MC(b:cd)(s:bY):Ex×bY:=((bb 2 b.n [] s).1.dH b.id,(bb 2 b.n [] s).2)
def dh(g:GX)(t:Ty)(env:List cd)(d:Int):Nat->bY->List Ex×bY
 |0,s=>([],s)
 |k+1,s=>if 0<s.left then((g t env d s).1::(dh g t env d k (g t env d s).2).1,(dh g t env d k (g t env d s).2).2) else([],s)
def dg(g:GX)(env:List cd)(d:Int):List Ty->bY->List Ex×bY
 |[],s=>([],s)
 |t::ts,s=>((g t env d s).1::(dg g env d ts (g t env d s).2).1,(dg g env d ts (g t env d s).2).2)
def OE(x:Int):Int:=if x.tmod 29=3 then 1099511627776-x.tmod 2 else x.tmod 9-2
def fX(d:aq)(x depth:Int):Int:=if depth<0 then 0 else x.tmod d.ah.length
def kM(c:fB)(g:GX)(t:Ty)(env:List cd)(x depth:Int)(s:bY):Ex×bY :=
 if t.kind=0 then bb 0 (OE x) [] s
 else if t.kind=1 then bb 1 (x.tmod 2) [] s
 else if t.kind=2 then
   (let r:=dh g (t.kids.headD bS) env (depth-1) (if 0<=depth then(x.tmod 3).toNat else 0) s
    ((bb 11 0 r.1 r.2).1.Ie (t.kids.headD bS),(bb 11 0 r.1 r.2).2))
 else if(an c.p t.df).kind=1 then
   (let k:=fX (an c.p t.df) x depth
    let r:=g ((((an c.p t.df).ah.map aC.ty).getD k.toNat bS)) env (depth-1) s
    ((bb 9 k [r.1] r.2).1.dH (an c.p t.df).id,(bb 9 k [r.1] r.2).2))
 else
   (let r:=dg g env (depth-1) ((an c.p t.df).ah.map aC.ty) s
    ((bb 7 0 r.1 r.2).1.dH (an c.p t.df).id,(bb 7 0 r.1 r.2).2))
def lE(g:GX)(n:Int)(u:Ty)(env:List cd)(d:Int)(s:bY):Ex×bY :=
 bb 4 n [(g u env d s).1,(g u env d (g u env d s).2).1] (g u env d (g u env d s).2).2
def Gs(g:GX)(n:Int)(u:Ty)(env:List cd)(d:Int)(s:bY):Ex×bY:=bb 4 n [(g u env d s).1] (g u env d s).2
def yG(x:Int):Int:=if 4<=x.tmod 6 then 7+(x.tmod 6-4) else if x.tmod 6=3 then 6 else if x.tmod 6=2 then 6 else 5
def jJ(env:List cd)(x:Int):cd:=env.getD (x.tmod env.length).toNat default
def jU(t:Ty)(env:List cd)(x:Int):Ty:=if 4<=x.tmod 6 then t else if x.tmod 6=3 then(jJ env (x.tdiv 6)).ty else bS
def nI(c:fB)(g:GX)(t:Ty)(env:List cd)(x depth:Int)(s:bY):Ex×bY :=
 if t.kind=0 then(if x.tmod 6=5 then Gs g 11 (b8 bS) env (depth-1) s else lE g (x.tmod 5) t env (depth-1) s)
 else if t.kind=1 then(if x.tmod 6=0 then Gs g 9 t env (depth-1) s else lE g (yG x) (jU t env x) env (depth-1) s)
 else if t.kind=2/\x.tmod 2=0 then lE g 10 t env (depth-1) s
 else kM c g t env (x.tdiv 2) depth s
def bk(g:GX)(t:Ty)(env:List cd)(d:Int)(id:ar):List aC->Nat->bY->(List Ex×List ByteArray)×bY
 |[],_,s=>(([],[]),s)
 |sl::sls,i,s =>
   (let r:=g t (env++[⟨id,i,sl.ty⟩]) d s
    let q:=cI r.2;let z:=bk g t env d id sls (i+1) q.2
    ((r.1::z.1.1,q.1::z.1.2),z.2))
def jS(c:fB)(g:GX)(t:Ty)(env:List cd)(x depth:Int)(s:bY):Ex×bY :=
 if My c 1 x.toNat<0 then nI c g t env x depth s
 else
   (let d:=bN c (My c 1 x.toNat).toNat
    let r:=g (mm d.id) env (depth-2) s;let q:=bb 10 0 [] r.2;let z:=bk g t env (depth-1) q.1.id d.ah 0 q.2
    ((q.1.dH d.id).dD (r.1::z.1.1) z.1.2,z.2))
def mU(sl:List aC)(t:Ty):Option Nat:=sl.findIdx? λx=>decide (x.ty=t)
def fp(c:fB)(t:Ty)(x:Nat):Nat->Nat->Option (Nat×Nat)
 |_,0=>none
 |i,m+1=>match(if(bN c ((x+i) % c.p.ae.length)).kind=0/\kr c ((x+i) % c.p.ae.length) then mU (bN c ((x+i) % c.p.ae.length)).ah t else none) with
   |some j=>some ((x+i) % c.p.ae.length,j)
   |none=>fp c t x (i+1) m
def jT(c:fB)(g:GX)(t:Ty)(env:List cd)(x depth:Int)(s:bY):Ex×bY :=
 match fp c t x.toNat 0 c.p.ae.length with
 |some (k,j) =>
   (let r:=g (mm (bN c k).id) env (depth-1) s
    ((bb 8 j [r.1] r.2).1.dH (bN c k).id,(bb 8 j [r.1] r.2).2))
 |none=>nI c g t env x depth s
def gx(c:fB)(t:Ty):Nat->Nat->Option Nat
 |_,0=>none
 |i,m+1=>if((bN c i).kind=2/\kr c i)/\(bN c i).au=t then some i else gx c t (i+1) m
def nM(c:fB)(g:GX)(t:Ty)(env:List cd)(x depth:Int)(s:bY):Ex×bY :=
 match gx c t 0 c.p.ae.length with
 |some k =>
   (let r:=dg g env (depth-1) ((bN c k).ah.map aC.ty) s
    ((bb 3 0 r.1 r.2).1.dH (bN c k).id,(bb 3 0 r.1 r.2).2))
 |none=>nI c g t env x depth s
def ifG(g:GX)(t:Ty)(env:List cd)(d:Int)(s:bY):Ex×bY :=
 (let a:=g (.mk 1 ki []) env d s
  let b:=g t env d a.2;let e:=g t env d b.2
  bb 5 0 [a.1,b.1,e.1] e.2)
def LC(g:GX)(t:Ty)(env:List cd)(x d:Int)(s:bY):Ex×bY :=
 (let u:=(jJ env x).ty
  let a:=g u env d s;let q:=bb 6 0 [] a.2;let m:=cI q.2;let b:=g t (env++[⟨q.1.id,0,u⟩]) d m.2
  (q.1.dD [a.1,b.1] [m.1],b.2))
def AD(g:GX)(t:Ty)(env:List cd)(d:Int)(s:bY):Ex×bY :=
 (let a:=g (b8 bS) env d s
  let b:=g t env d a.2;let q:=bb 12 0 [] b.2;let m:=cI q.2;let m2:=cI m.2;let e:=g t (env++[⟨q.1.id,0,bS⟩]++[⟨q.1.id,1,t⟩]) d m2.2
  (q.1.dD [a.1,b.1,e.1] [m.1,m2.1],e.2))
def oo(c:fB)(g:GX)(t:Ty)(env:List cd)(k x d:Int)(s:bY):Ex×bY :=
 if k=0\/k=1 then ifG g t env (d-1) s
 else if k=2 then LC g t env x (d-1) s
 else if k=3\/k=4 then jS c g t env x d s
 else if k=5 then jT c g t env x d s
 else if k=6\/k=7 then nM c g t env x d s
 else if k=8 then AD g t env (d-1) s
 else nI c g t env x d s
def kT(c:fB)(g:GX):GX:=λt env depth s =>
 (let x:=(fQ c 65536 s).1
  let s1:=(fQ c 65536 s).2;let d:=if s1.left<=0 then min depth 0 else depth
  let vars:=eX env t
  if 0<vars.length/\(d<=0\/x.tmod 3=0) then MC (vars.getD ((x.tdiv 3).tmod vars.length).toNat default) s1
  else if d<=0 then kM c g t env (x.tdiv 3) d s1
  else oo c g t env ((x.tdiv 3).tmod 12) (x.tdiv 36) d s1)
def ay(c:fB):Nat->GX
 |0=>λ_ _ _ s=>(default,s)
 |n+1=>kT c (ay c n)
theorem Y.addS{P:QE}{w0:QL}{L:Lm}{M:Mem}{Γ:List As}{d:Option Nat}{ty:QH}{pos:String}{af:Array Edge}{g:Option (Nat×Bool)}{x y:QM}{a b:ByteArray}{t:QH}(hx:bm L x=some (.string a))(hy:bm L y=some (.string b))(hs:a.size+b.size<=1000000) :
  Yq P w0 L M Γ ⟨d,.binOp .add t x y t,ty,pos,af,g⟩ (.string (a++b)):=λn ac w ha _=>by
 simp[Rc,ha.ev hx,ha.ev hy,RZ,SQ,XL];omega
def Bd(B:Int)(s:bY):Prop:=0<=s.pos/\s.pos+B<=1099511627776/\0<=s.be/\s.be+B<=1099511627776/\-1099511627776<=s.left-B/\s.left<=1099511627776/\0<=s.name/\s.name+B<=1099511627776
theorem Bd.mono{A B:Int}{s:bY}(h:Bd A s)(hB:B<=A):Bd B s:=by unfold Bd at *;omega
theorem Bd.num{A B n:Int}{c:fB}{s:bY}(h:Bd A s)(hB:B+1<=A):Bd B (fQ c n s).2:=by show Bd B ⟨s.pos+1,s.be,s.left,s.name⟩;unfold Bd at *;dsimp only;omega
theorem Bd.node{A B k n:Int}{l:List Ex}{s:bY}(h:Bd A s)(hB:B+1<=A):Bd B (bb k n l s).2:=by show Bd B ⟨s.pos,s.be+1,s.left-1,s.name⟩;unfold Bd at *;dsimp only;omega
theorem Bd.uY{A B:Int}{s:bY}(h:Bd A s)(hB:B+1<=A):Bd B (cI s).2:=by show Bd B ⟨s.pos,s.be,s.left,s.name+1⟩;unfold Bd at *;dsimp only;omega
theorem nm1_rng:∀i,i<3->(nm1.getD i ⟨#[]⟩).size<=1:=Q1
theorem nm2_rng:∀i,i<8->(nm2.getD i ⟨#[]⟩).size<=1:=Q1
theorem yl{l:List cd}{t:Ty}{k:Nat}(h:k<l.length):eX (l.take (k+1)) t=if l[k].ty=t then eX (l.take k) t++[l[k]] else eX (l.take k) t:=by
 unfold eX;rw[Qv h,RF]
 grind
theorem EK{l:List cd}{t:Ty}(k:Nat):(eX (l.take k) t).length<=l.length:=by
 unfold eX
 grind
theorem nm_rng{k:Int}(h:0<=k):∃i j:Nat,k.tmod 3=i/\i<3/\(k.tdiv 3).tmod 8=j/\j<8/\Ed k=nm1.getD i ⟨#[]⟩++nm2.getD j ⟨#[]⟩:=by
 have e1:k.tmod 3=k % 3:=RB h;have e2:k.tdiv 3=k / 3:=Int.tdiv_eq_ediv_of_nonneg h;have e3:(k / 3).tmod 8=k / 3 % 8:=RB Q0;obtain⟨i,hi⟩:=UK (show 0<=k % 3 by omega);obtain⟨j,hj⟩:=UK (show 0<=k / 3 % 8 by omega);refine⟨i,j,by rw[e1,hi],Q0,by grind,Q0,?_⟩;unfold Ed
 grind
theorem modA_eq{c:fB}(h:0<c.p.al.length):Lr c=c.p.al[0]:=by
 unfold Lr
 grind
theorem jr{c:fB}{k:Nat}(h:k<c.p.ae.length):bN c k=c.p.ae[k]:=by
 unfold bN
 grind
theorem D3{c:fB}{kind:Int}{frm i:Nat}(h:i<c.p.ae.length):gL c kind frm i (c.p.ae.length-i)=if(bN c ((frm+i) % c.p.ae.length)).kind=kind/\kr c ((frm+i) % c.p.ae.length) then(((frm+i) % c.p.ae.length:Nat):Int) else gL c kind frm (i+1) (c.p.ae.length-(i+1)):=by obtain⟨m,hm⟩:∃m,c.p.ae.length-i=m+1:=⟨c.p.ae.length-i-1,Q0⟩;rw[hm,gL,show c.p.ae.length-(i+1)=m by omega]
end Xe
namespace Pm
open Go Xe
section
variable {Is:Cx} {P:QE} {tb:Tb} {n:Nat} {w0:QL} {Γ0:List As} {fr:Fr} {ρ:Nat->Option Qw} {M:Mem} {lst:List (Nat×As)} {a:Act} {w:QL} {fs fo:List Nat} {o:Out} {Q:Exit->Act->QL->Prop} {d:Nat} {ty:QH} {pos:String} {af:Array Edge} {g:Option (Nat×Bool)}
theorem aR{s:S}(hr:R1 Is fr (cv s) fs fo o):o=⟨some s,[],fs,fo⟩:=hr
variable (h1:a.tmps.size=n) (h2:a.defers=[]) (h:Rel w0 Γ0 fr ρ M lst (tv a) w) (hd:d<n)
theorem rV(h1:a.tmps.size=n)(h2:a.defers=[])(h:Rel w0 Γ0 fr ρ M lst (tv a) w)(hd:d<n){o:Oper}{out:Out}{s:S}{x:QM}{v:Qw}(hdst:o.dst=some d)(hv:out.v=some s)(hob:out.ob=[])(hs:SR M ρ s v)(hx:a.eval x=v)
  (hrun:(Rc a.eval o).run P w=.ok (.value (a.eval x)) w):o.wp P a w (aX n w0 Γ0 ρ M ((fr.bl o.dst out.v).aJ out.ob)) Q :=
 ba h1 h2 hdst hd hv (Sub.refl M) (Ext.refl ρ) (by rw[hob];exact h) hs (by grind)
theorem pL{x:QM}{s:S}(hs:s=su\/∃v,eo a x v/\SR M ρ s v):SR M ρ s (a.eval x):=by
 rcases hs with rfl|⟨v,hv,hs⟩
 .exact trivial
 .rw[hv.eval];exact hs
theorem ok_move(h1:a.tmps.size=n)(h2:a.defers=[])(h:Rel w0 Γ0 fr ρ M lst (tv a) w)(hd:d<n){x:QM}(hr:R1 Is fr (cK x λs=>cv (fU P ty s)) fs fo o):(⟨some d,.move x,ty,pos,af,g⟩:Oper).wp P a w (aX n w0 Γ0 ρ M ((fr.bl (some d) o.v).aJ o.ob)) Q:=by obtain⟨s,fs',hr,hs⟩:=bD h hr;obtain rfl:=aR hr;exact rV h1 h2 h hd (x:=x) rfl rfl rfl (dt (pL hs)) rfl (by simp[Rc])
theorem Ld(h1:a.tmps.size=n)(h2:a.defers=[])(h:Rel w0 Γ0 fr ρ M lst (tv a) w)(hd:d<n){x:QM}(hr:R1 Is fr (cK x λs=>cv (fU P ty s)) fs fo o):(⟨some d,.assign x,ty,pos,af,g⟩:Oper).wp P a w (aX n w0 Γ0 ρ M ((fr.bl (some d) o.v).aJ o.ob)) Q:=by obtain⟨s,fs',hr,hs⟩:=bD h hr;obtain rfl:=aR hr;exact rV h1 h2 h hd (x:=x) rfl rfl rfl (dt (pL hs)) rfl (by simp[Rc])
theorem ok_pick(h1:a.tmps.size=n)(h2:a.defers=[])(h:Rel w0 Γ0 fr ρ M lst (tv a) w)(hd:d<n){c x y:QM}(hr:R1 Is fr (cK c λs=>Fm s λz=>.we z (cK x cv) (cK y cv)) fs fo o):(⟨some d,.pick c x y,ty,pos,af,g⟩:Oper).wp P a w (aX n w0 Γ0 ρ M ((fr.bl (some d) o.v).aJ o.ob)) Q:=by
 obtain⟨s,fs',hr,hs⟩:=bD h hr;obtain⟨z,e,hr⟩:=uA hr;have hc:=(dU hs e).eval;rcases hr with⟨rfl,hr⟩|⟨rfl,hr⟩
 .obtain⟨s',fs'',hr,hs'⟩:=bD h hr;obtain rfl:=aR hr;exact rV h1 h2 h hd (x:=x) rfl rfl rfl (pL hs') rfl (by simp[Rc,hc,asBool])
 .obtain⟨s',fs'',hr,hs'⟩:=bD h hr;obtain rfl:=aR hr;exact rV h1 h2 h hd (x:=y) rfl rfl rfl (pL hs') rfl (by simp[Rc,hc,asBool])
theorem jc(h1:a.tmps.size=n)(h2:a.defers=[])(h:Rel w0 Γ0 fr ρ M lst (tv a) w)(hd:d<n){o:Oper}{v:Qw}(hdst:o.dst=some d){out:Out}(hv:out=⟨some (.c (.d (.v v))),[],fs,fo⟩)(h1c:v.oneCell'=true)(hy:Yq P w0 (Lf a) M (lst.map Ra++Γ0) o v):o.wp P a w (aX n w0 Γ0 ρ M ((fr.bl o.dst out.v).aJ out.ob)) Q:=by subst hv;exact aS h1 h2 h hdst hd rfl rfl (show Rd M (.v v) v by unfold Rd;exact⟨rfl,h1c⟩) hy
theorem kR1{s:S}{kd:R6}{k:Int->bj}(hr:R1 Is fr (kP kd s k) fs fo o):∃z,s=.c (.d (.v (.int kd z)))/\R1 Is fr (k z) fs fo o:=by
 unfold kP at hr;split at hr
 .obtain⟨z,rfl,hr⟩:=hr;exact⟨z,rfl,hr⟩
 .exact hr.elim
theorem nr{P:QE}{t:QH}{k:R6}(h:sE P t=some k):P.underlying t=some (.int k):=by
 unfold sE at h
 grind
theorem qK(h1:a.tmps.size=n)(h2:a.defers=[])(h:Rel w0 Γ0 fr ρ M lst (tv a) w)(hd:d<n){op:Op}{kd:R6}{z:Int}(hr:R1 Is fr (rK kd z) fs fo o)(hrun:(Rc a.eval ⟨some d,op,ty,pos,af,g⟩).run P w=.ok (.value (.int kd z)) w):(⟨some d,op,ty,pos,af,g⟩:Oper).wp P a w (aX n w0 Γ0 ρ M ((fr.bl (some d) o.v).aJ o.ob)) Q:=by obtain rfl:=aR hr;exact ba h1 h2 rfl hd rfl (Sub.refl M) (Ext.refl ρ) h (show Rd M (.v (.int kd z)) (.int kd z) by unfold Rd;exact⟨rfl,rfl⟩) hrun
theorem op_b(h1:a.tmps.size=n)(h2:a.defers=[])(h:Rel w0 Γ0 fr ρ M lst (tv a) w)(hd:d<n){op:Op}{z:Bool}(hr:R1 Is fr (mg z) fs fo o)(hrun:(Rc a.eval ⟨some d,op,ty,pos,af,g⟩).run P w=.ok (.value (.bool z)) w):(⟨some d,op,ty,pos,af,g⟩:Oper).wp P a w (aX n w0 Γ0 ρ M ((fr.bl (some d) o.v).aJ o.ob)) Q:=by obtain rfl:=aR hr;exact ba h1 h2 rfl hd rfl (Sub.refl M) (Ext.refl ρ) h (show Rd M (.v (.bool z)) (.bool z) by unfold Rd;exact⟨rfl,rfl⟩) hrun
theorem pt(h1:a.tmps.size=n)(h2:a.defers=[])(h:Rel w0 Γ0 fr ρ M lst (tv a) w)(hd:d<n){op:WY}{x y:QM}{t:QH}{kd:R6}{p q:Int}(hx:eo a x (.int kd p))(hy:eo a y (.int kd q))(hr:R1 Is fr (HA kd op p q) fs fo o):(⟨some d,.binOp op t x y t,ty,pos,af,g⟩:Oper).wp P a w (aX n w0 Γ0 ρ M ((fr.bl (some d) o.v).aJ o.ob)) Q:=by
 have ex:=hx.eval;have ey:=hy.eval;unfold HA at hr;split at hr
 .exact qK h1 h2 h hd hr (by simp[Rc,ex,ey,RZ,SQ,T6])
 .exact qK h1 h2 h hd hr (by simp[Rc,ex,ey,RZ,SQ,T6])
 .exact qK h1 h2 h hd hr (by simp[Rc,ex,ey,RZ,SQ,T6])
 .obtain⟨h0,hr⟩:=hr;exact qK h1 h2 h hd hr (by simp[Rc,ex,ey,RZ,SQ,Xc,h0])
 .obtain⟨h0,hr⟩:=hr;exact qK h1 h2 h hd hr (by simp[Rc,ex,ey,RZ,SQ,Xc,h0])
 .exact qK h1 h2 h hd hr (by simp only[Rc,ex,ey];simp[RZ,SQ,intBits_and])
 .exact qK h1 h2 h hd hr (by simp only[Rc,ex,ey];simp[RZ,SQ,intBits_or])
 .exact qK h1 h2 h hd hr (by simp only[Rc,ex,ey];simp[RZ,SQ,intBits_xor])
 .exact qK h1 h2 h hd hr (by simp only[Rc,ex,ey];simp[RZ,SQ,intBits_andNot])
 .exact op_b h1 h2 h hd hr (by simp[Rc,ex,ey,RZ,SQ,Tu])
 .exact op_b h1 h2 h hd hr (by simp[Rc,ex,ey,RZ,SQ,Tu])
 .exact op_b h1 h2 h hd hr (by simp[Rc,ex,ey,RZ,SQ,Tu])
 .exact op_b h1 h2 h hd hr (by simp[Rc,ex,ey,RZ,SQ,Tu])
 .exact hr.elim
theorem NN(h1:a.tmps.size=n)(h2:a.defers=[])(h:Rel w0 Γ0 fr ρ M lst (tv a) w)(hd:d<n){op:WY}{x y:QM}{t t':QH}(hr:R1 Is fr (cK x λa=>cK y λb=>F2 P op t t' a b) fs fo o):(⟨some d,.binOp op t x y t',ty,pos,af,g⟩:Oper).wp P a w (aX n w0 Γ0 ρ M ((fr.bl (some d) o.v).aJ o.ob)) Q:=by
 obtain⟨s1,fs1,hr,hs1⟩:=bD h hr;obtain⟨s2,fs2,hr,hs2⟩:=bD h hr;unfold F2 at hr;split at hr
 .obtain⟨p,e1,hr⟩:=kR1 hr;obtain⟨q,e2,hr⟩:=kR1 hr;have ex:=(dU hs1 e1).eval;have ey:=(dU hs2 e2).eval;split at hr
  .obtain⟨h0,hr⟩:=hr;exact qK h1 h2 h hd hr (by simp only[Rc,ex,ey];simp[RZ,SQ,shift_shl_any _ _ _ _ h0])
  .obtain⟨h0,hr⟩:=hr;exact qK h1 h2 h hd hr (by simp only[Rc,ex,ey];simp[RZ,SQ,shift_shr_any _ _ _ _ h0])
  .exact hr.elim
 .exact hr.elim
theorem NX(h1:a.tmps.size=n)(h2:a.defers=[])(h:Rel w0 Γ0 fr ρ M lst (tv a) w)(hd:d<n){op:WY}{x y:QM}{t:QH}{p q:Int}(hx:eo a x (.int .i64 p))(hy:eo a y (.int .i64 q))(hr:R1 Is fr (Hz op p q) fs fo o):(⟨some d,.binOp op t x y t,ty,pos,af,g⟩:Oper).wp P a w (aX n w0 Γ0 ρ M ((fr.bl (some d) o.v).aJ o.ob)) Q:=by
 unfold Hz at hr;split at hr
 .exact jc (fs:=fs) (fo:=fo) h1 h2 h hd rfl (aR hr.2) rfl (Y.add hx.bm hy.bm hr.1)
 .exact jc (fs:=fs) (fo:=fo) h1 h2 h hd rfl (aR hr.2) rfl (Y.sub hx.bm hy.bm hr.1)
 .exact jc (fs:=fs) (fo:=fo) h1 h2 h hd rfl (aR hr.2) rfl (Y.mul hx.bm hy.bm hr.1)
 .exact jc (fs:=fs) (fo:=fo) h1 h2 h hd rfl (aR hr.2) rfl (Y.quo hx.bm hy.bm hr.1.1 hr.1.2)
 .exact jc (fs:=fs) (fo:=fo) h1 h2 h hd rfl (aR hr.2) rfl (Y.rem hx.bm hy.bm hr.1)
 .exact jc (fs:=fs) (fo:=fo) h1 h2 h hd rfl (aR hr) rfl (Y.lss hx.bm hy.bm)
 .exact jc (fs:=fs) (fo:=fo) h1 h2 h hd rfl (aR hr) rfl (Y.leq hx.bm hy.bm)
 .exact jc (fs:=fs) (fo:=fo) h1 h2 h hd rfl (aR hr) rfl (Y.gtr hx.bm hy.bm)
 .exact jc (fs:=fs) (fo:=fo) h1 h2 h hd rfl (aR hr) rfl (Y.geq hx.bm hy.bm)
 .exact pt h1 h2 h hd (op:=.and) hx hy hr
 .exact pt h1 h2 h hd (op:=.or) hx hy hr
 .exact pt h1 h2 h hd (op:=.xor) hx hy hr
 .exact hr.elim
theorem Gd{s:S}{k:List D->bj}(hr:R1 Is fr (KD s k) fs fo o)(h3:Ic s=true){v:Qw}(hs:SR M ρ s v):∃x y z,R1 Is fr (k [x,y,z]) fs fo o/\∃u1 u2 u3,v=.agg [u1,u2,u3].toArray/\Rd M x u1/\Rd M y u2/\Rd M z u3:=by
 unfold KD at hr;split at hr
 .rename_i m ds;obtain⟨hl,us,rfl,hr2⟩:=hs;have hm:m=3:=Qp h3;subst hm
  match ds,us,hl,hr2 with
  |[x,y,z],[u1,u2,u3],_,hr2=>exact⟨x,y,z,hr,u1,u2,u3,rfl,hr2.2 0 _ _ rfl rfl,hr2.2 1 _ _ rfl rfl,hr2.2 2 _ _ rfl rfl⟩
  |[_,_,_],[],_,hr2=>have:=hr2.1;simp at this
  |[_,_,_],[_],_,hr2=>have:=hr2.1;simp at this
  |[_,_,_],[_,_],_,hr2=>have:=hr2.1;simp at this
  |[_,_,_],_::_::_::_::_,_,hr2=>have:=hr2.1;simp at this
 .rename_i x y z;obtain⟨us,rfl,hr2⟩:=hs
  match us,hr2 with
  |[u1,u2,u3],hr2=>exact⟨x,y,z,hr,u1,u2,u3,rfl,hr2.1,hr2.2.1,hr2.2.2.1⟩
  |[],hr2=>exact hr2.elim
  |[_],hr2=>exact hr2.2.elim
  |[_,_],hr2=>exact hr2.2.2.elim
  |_::_::_::_::_,hr2=>exact hr2.2.2.2.elim
 .exact hr.elim
theorem IT(h1:a.tmps.size=n)(h2:a.defers=[])(h:Rel w0 Γ0 fr ρ M lst (tv a) w)(hd:d<n)(hT:lS P tb){op:WY}{x y:QM}{t:QH}{s1 s2:S}(hs1:s1=su\/∃v,eo a x v/\SR M ρ s1 v)(hs2:s2=su\/∃v,eo a y v/\SR M ρ s2 v)(hr:R1 Is fr (CC P tb op t s1 s2) fs fo o):(⟨some d,.binOp op t x y t,ty,pos,af,g⟩:Oper).wp P a w (aX n w0 Γ0 ρ M ((fr.bl (some d) o.v).aJ o.ob)) Q:=by
 have key:∀(k:Bool->bj) (bo:Bool->Bool) (hk:∀b fs fo o,R1 Is fr (k b) fs fo o->o=⟨some (.c (.d (.v (.bool (bo b))))),[],fs,fo⟩) (opn:WY),(∀p q:Int,bm (Lf a) x=some (.int .i64 p)->bm (Lf a) y=some (.int .i64 q)->Yq P w0 (Lf a) M (lst.map Ra++Γ0) ⟨some d,.binOp opn t x y t,ty,pos,af,g⟩ (.bool (bo (decide (p=q))))) ->
   (∀(kd:R6) (p q:Int),bm (Lf a) x=some (.int kd p)->bm (Lf a) y=some (.int kd q)->Yq P w0 (Lf a) M (lst.map Ra++Γ0) ⟨some d,.binOp opn t x y t,ty,pos,af,g⟩ (.bool (bo (decide (p=q))))) ->
   (∀(n:Nat) (e:QH) (kd:R6),tb.eqa.any (Qy t)=true->P.underlying t=some (.array n e)->P.underlying e=some (.int kd)->∀p q:List Int,p.length=n->q.length=n->bm (Lf a) x=some (.agg (p.map (Sa kd)).toArray)->bm (Lf a) y=some (.agg (q.map (Sa kd)).toArray)->Yq P w0 (Lf a) M (lst.map Ra++Γ0) ⟨some d,.binOp opn t x y t,ty,pos,af,g⟩ (.bool (bo (decide (p=q))))) ->
   (∀p q:ByteArray,bm (Lf a) x=some (.string p)->bm (Lf a) y=some (.string q)->Yq P w0 (Lf a) M (lst.map Ra++Γ0) ⟨some d,.binOp opn t x y t,ty,pos,af,g⟩ (.bool (bo (decide (p=q))))) ->
   (∀p q:Bool,P.underlying t=some .bool->bm (Lf a) x=some (.bool p)->bm (Lf a) y=some (.bool q)->Yq P w0 (Lf a) M (lst.map Ra++Γ0) ⟨some d,.binOp opn t x y t,ty,pos,af,g⟩ (.bool (bo (p == q)))) ->
   (Eq3 P t->∀p q r p' q' r':Int,bm (Lf a) x=some (.agg [.int .i64 p,.int .i64 q,.int .i64 r].toArray)->bm (Lf a) y=some (.agg [.int .i64 p',.int .i64 q',.int .i64 r'].toArray)->Yq P w0 (Lf a) M (lst.map Ra++Γ0) ⟨some d,.binOp opn t x y t,ty,pos,af,g⟩ (.bool (bo (decide (p=p'/\q=q'/\r=r'))))) ->
   R1 Is fr (eqP P tb t s1 s2 k) fs fo o->(⟨some d,.binOp opn t x y t,ty,pos,af,g⟩:Oper).wp P a w (aX n w0 Γ0 ρ M ((fr.bl (some d) o.v).aJ o.ob)) Q:=by
  intro k bo hk opn hI hK hA hS hB hE hr;unfold eqP at hr;split at hr
  .obtain⟨p,e1,hr⟩:=ee hr;obtain⟨q,e2,hr⟩:=ee hr;exact jc h1 h2 h hd rfl (hk _ _ _ _ hr) rfl (hI p q (dU hs1 e1).bm (dU hs2 e2).bm)
  .obtain⟨p,e1,hr⟩:=mS hr;obtain⟨q,e2,hr⟩:=mS hr;exact jc h1 h2 h hd rfl (hk _ _ _ _ hr) rfl (hS p q (dU hs1 e1).bm (dU hs2 e2).bm)
  .rename_i hu;obtain⟨p,e1,hr⟩:=uA hr;obtain⟨q,e2,hr⟩:=uA hr;exact jc h1 h2 h hd rfl (hk _ _ _ _ hr) rfl (hB p q hu (dU hs1 e1).bm (dU hs2 e2).bm)
  .split at hr
   .rename_i hb;simp only[QA]at hb;have su3:∀{s:S} {x:QM} {k:List D->bj} {fs fo:List Nat},R1 Is fr (KD s k) fs fo o->(s=su\/∃v,eo a x v/\SR M ρ s v)->∃v,eo a x v/\SR M ρ s v:=by
     intro s x k fs fo hr hs;rcases hs with rfl|hs
     .exact hr.elim
     .exact hs
    obtain⟨v1,hv1,hs1⟩:=su3 hr hs1;obtain⟨x1,y1,z1,hr,u1,u2,u3,rfl,r1,r2,r3⟩:=Gd hr hb.1.2 hs1;obtain⟨v2,hv2,hs2⟩:=su3 hr hs2;obtain⟨x2,y2,z2,hr,u4,u5,u6,rfl,r4,r5,r6⟩:=Gd hr hb.2 hs2;obtain⟨p,e1,q,e2,r,e3,p',e4,q',e5,r',e6,hr9⟩:=hr;have f1:x1=.v (.int .i64 p):=e1;have f2:y1=.v (.int .i64 q):=e2;have f3:z1=.v (.int .i64 r):=e3;have f4:x2=.v (.int .i64 p'):=e4;have f5:y2=.v (.int .i64 q'):=e5;have f6:z2=.v (.int .i64 r'):=e6;subst f1 f2 f3 f4 f5 f6;simp only[Rd]at r1 r2 r3 r4 r5 r6;obtain rfl:=r1.1;obtain rfl:=r2.1;obtain rfl:=r3.1;obtain rfl:=r4.1;obtain rfl:=r5.1;obtain rfl:=r6.1;exact jc h1 h2 h hd rfl (hk _ _ _ _ hr9) rfl (hE (hT.eq3 t hb.1.1) p q r p' q' r' hv1.bm hv2.bm)
   .exact hr.elim
  .obtain⟨p,e1,hr⟩:=kR1 hr;obtain⟨q,e2,hr⟩:=kR1 hr;exact jc h1 h2 h hd rfl (hk _ _ _ _ hr) rfl (hK _ p q (dU hs1 e1).bm (dU hs2 e2).bm)
  .rename_i na ea hua;split at hr
   .rename_i kd ma dsa mb dsb hqa hkd _;split at hr
    .rename_i hb;simp only[QA]at hb;have em1:=Qp hb.1;have em2:=Qp hb.2;obtain⟨p,hp,q,hq,hr⟩:=hr;have kn:∀{x:QM} {m:Nat} {ds:List D} {zs:List Int},((S.a m ds)=su\/∃v,eo a x v/\SR M ρ (S.a m ds) v)->nu kd ds=some zs->zs.length=m/\bm (Lf a) x=some (.agg (zs.map (Sa kd)).toArray):=by
      intro x m ds zs hs hz;rcases hs with hs|⟨v,hv,hl,us,rfl,hrd⟩
      .cases hs
      .obtain rfl:=jF hz;rw[pR hrd]at hv;exact⟨by grind,hv.bm⟩
     obtain⟨l1,v1⟩:=kn hs1 hp;obtain⟨l2,v2⟩:=kn hs2 hq;exact jc h1 h2 h hd rfl (hk _ _ _ _ hr) rfl (hA na ea kd hqa hua (nr hkd) p q Q0 Q0 v1 v2)
    .exact hr.elim
   .exact hr.elim
  .exact hr.elim
 unfold CC at hr;split at hr
 .exact key mg id (λb fs fo o h=>h) .eql (λp q hx hy=>Y.eql hx hy) (λkd p q hx hy=>Y.eqlK hx hy) (λn e kd h0 hu he p q hp hq hx hy=>(hT.eqa t n e kd h0 hu he _ _ _ _ _ _ _ _ _ _ _ _ _ hp hq hx hy).1) (λp q hx hy=>Y.eqlS hx hy) (λp q hu hx hy=>Y.eqlBB hu hx hy) (λhE p q r p' q' r' hx hy=>(hE _ _ _ _ _ _ _ _ _ _ _ _ _ _ _ _ _ hx hy).1) hr
 .refine key (λb=>mg (!b)) not (λb fs fo o h=>h) .neq (λp q hx hy=>?_) (λkd p q hx hy=>?_) (λn e kd h0 hu he p q hp hq hx hy=>(hT.eqa t n e kd h0 hu he _ _ _ _ _ _ _ _ _ _ _ _ _ hp hq hx hy).2) (λp q hx hy=>?_) (λp q hu hx hy=>?_) (λhE p q r p' q' r' hx hy=>(hE _ _ _ _ _ _ _ _ _ _ _ _ _ _ _ _ _ hx hy).2) hr
  .have:=Y.neq (P:=P) (w0:=w0) (M:=M) (Γ:=lst.map Ra++Γ0) (d:=some d) (ty:=ty) (pos:=pos) (af:=af) (g:=g) (t:=t) hx hy;rwa [decide_not]at this
  .have:=Y.neqK (P:=P) (w0:=w0) (M:=M) (Γ:=lst.map Ra++Γ0) (d:=some d) (ty:=ty) (pos:=pos) (af:=af) (g:=g) (t:=t) hx hy;rwa [decide_not]at this
  .have:=Y.neqS (P:=P) (w0:=w0) (M:=M) (Γ:=lst.map Ra++Γ0) (d:=some d) (ty:=ty) (pos:=pos) (af:=af) (g:=g) (u:=t) hx hy;rwa [decide_not]at this
  .have:=Y.neqD (P:=P) (w0:=w0) (M:=M) (Γ:=lst.map Ra++Γ0) (d:=some d) (ty:=ty) (pos:=pos) (af:=af) (g:=g) (p:=p=true) (q:=q=true) hu (by simpa using hx) (by simpa using hy);cases p <;> cases q <;> simpa using this
 .split at hr
  .obtain⟨p,e1,hr⟩:=ee hr;obtain⟨q,e2,hr⟩:=ee hr;exact NX h1 h2 h hd (dU hs1 e1) (dU hs2 e2) hr
  .obtain⟨p,e1,hr⟩:=mS hr;obtain⟨q,e2,hr⟩:=mS hr;split at hr
   .exact jc h1 h2 h hd rfl (aR hr.2) rfl (Y.addS (dU hs1 e1).bm (dU hs2 e2).bm hr.1)
   .exact hr.elim
  .obtain⟨p,e1,hr⟩:=kR1 hr;obtain⟨q,e2,hr⟩:=kR1 hr;exact pt h1 h2 h hd (dU hs1 e1) (dU hs2 e2) hr
  .exact hr.elim
end
theorem cW(b:Nat):Qy b b=true:=Ud b
theorem gS{a b:Nat}(h:a≠b):Qy a b=false:=by
 cases hb:Qy a b with
 |false=>rfl
 |true=>exact J3 (Qp hb) h
theorem Dt{fr:Fr}{b:Nat}{o:O}(h:fr.ob b=some o):fr.set b o=fr:=by
 have:(fr.set b o).ob=fr.ob:=by
  funext k
  rw[cu]
  grind
 cases fr;simp only[Fr.set]at this ⊢;rw[this]
section
variable {w0:QL} {Γ0:List As} {fr:Fr} {ρ:Nat->Option Qw} {M:Mem} {lst:List (Nat×As)} {val:Nat->Option Qw} {w:QL}
theorem ib{b k:Nat}{x:As}(h:(k,x)∈lst)(hk:k≠b):(k,x)∈lst.filter λp=>!Qy p.1 b:=Rq.2 ⟨h,by simp[gS hk]⟩
theorem kl(h:(lst.map QZ).Nodup)(b:Nat):((lst.filter λp=>!Qy p.1 b).map QZ).Nodup:=by
 grind
theorem ym{b k:Nat}{x:As}(h:(k,x)∈lst.filter λp=>!Qy p.1 b):k≠b:=λe=>by simp_all
theorem Rel.fix(h:Rel w0 Γ0 fr ρ M lst val w){b e sz n:Nat}{ds:List D}(hb:fr.ob b=some (.w e sz n ds)) :
  ∃M' lst' v,Sub M M'/\ρ b=some v/\Rd M' (.sl n sz ds) v/\Rel w0 Γ0 (fr.set b (.s sz n ds)) ρ M' lst' val w:=by
 obtain⟨ad,c,us,h1,h2,h3,h4,h5⟩:=h.ob b _ hb;obtain⟨M',hs,hrd,hst⟩:=(h.st.fP (h.mem h2)).Ig h3 h5;refine⟨M',lst.filter λp=>!Qy p.1 b,_,hs,h1,hrd,⟨λt=>?_,λk o hk=>?_,λk v hk=>?_,λp hp=>?_,kl h.nd b,hst.sub (Tn _ _),h.gr.mono hs⟩⟩
 .rcases h.sl t with h6|⟨v,h6,h7⟩
  .exact .inl h6
  .exact .inr ⟨v,h6,SR.mono hs (Ext.refl ρ) h7⟩
 .rw[cu]at hk;by_cases e:k=b
  .subst e;rw[J2 rfl]at hk;simp only[Qq]at hk;subst hk;exact⟨_,h1,hrd⟩
  .rw[J1 e]at hk;exact OR.mono hs (Ext.refl ρ) (λx hx=>ib hx e) (h.ob k o hk)
 .rcases h.vP k v hk with h6|h6
  .exact .inl h6
  .right;rw[cu];by_cases e:k=b
   .rw[J2 e];rfl
   .rw[J1 e];exact h6
 .exact h.gg p (Rq.1 hp).1
theorem Rel.fixV(h:Rel w0 Γ0 fr ρ M lst val w){b e sz n:Nat}{ws:List C}{ds:List D}(hb:fr.ob b=some (.v e sz n ws))(hd:∀us,dr M ρ ws us->bz M ds us) :
  ∃M' lst' v,Sub M M'/\ρ b=some v/\Rd M' (.sl n sz ds) v/\Rel w0 Γ0 (fr.set b (.s sz n ds)) ρ M' lst' val w:=by
 obtain⟨ad,c,us,h1,h2,h3,h4,h5⟩:=h.ob b _ hb;obtain⟨M',hs,hrd,hst⟩:=(h.st.fP (h.mem h2)).Ig (hd us h3) h5;refine⟨M',lst.filter λp=>!Qy p.1 b,_,hs,h1,hrd,⟨λt=>?_,λk o hk=>?_,λk v hk=>?_,λp hp=>?_,kl h.nd b,hst.sub (Tn _ _),h.gr.mono hs⟩⟩
 .rcases h.sl t with h6|⟨v,h6,h7⟩
  .exact .inl h6
  .exact .inr ⟨v,h6,SR.mono hs (Ext.refl ρ) h7⟩
 .rw[cu]at hk;by_cases e:k=b
  .subst e;rw[J2 rfl]at hk;simp only[Qq]at hk;subst hk;exact⟨_,h1,hrd⟩
  .rw[J1 e]at hk;exact OR.mono hs (Ext.refl ρ) (λx hx=>ib hx e) (h.ob k o hk)
 .rcases h.vP k v hk with h6|h6
  .exact .inl h6
  .right;rw[cu];by_cases e:k=b
   .rw[J2 e];rfl
   .rw[J1 e];exact h6
 .exact h.gg p (Rq.1 hp).1
theorem Rel.Pn(g:Nat->Option O):∀(os:List (Nat×O)) {fr:Fr} {M:Mem} {lst:List (Nat×As)},Rel w0 Γ0 fr ρ M lst val w ->
  (∀p∈os,g p.1=some p.2/\∃e sz n ws ds,p.2=.s sz n ds/\(fr.ob p.1=some (.v e sz n ws)\/fr.ob p.1=some (.s sz n ds))/\∀M' us,Sub M M'->dr M' ρ ws us->bz M' ds us) ->
  ∃M' lst',Sub M M'/\(∀p∈os,∀sz n ds,p.2=O.s sz n ds->∃v,ρ p.1=some v/\Rd M' (.sl n sz ds) v)/\Rel w0 Γ0 (fr.aJ os) ρ M' lst' val w
 |[],fr,M,lst,h,_=>⟨M,lst,Sub.refl M,λp hp=>by simp at hp,h⟩
 |(b,o)::os,fr,M,lst,h,hf=>by
  obtain⟨hg,e,sz,n,ws,ds,ho,h0,hd⟩:=hf (b,o) (Qt ..);simp only at ho hg h0;subst ho;have step:∃M1 l1 v,Sub M M1/\ρ b=some v/\Rd M1 (.sl n sz ds) v/\Rel w0 Γ0 (fr.set b (.s sz n ds)) ρ M1 l1 val w:=by
   rcases h0 with h0|h0
   .exact h.fixV h0 λus hu=>hd M us (Sub.refl M) hu
   .obtain⟨v,h3,h4⟩:=h.ob _ _ h0;exact⟨M,lst,v,Sub.refl M,h3,h4,by rw[Dt h0];exact h⟩
  obtain⟨M1,l1,v,hs,hv,hrd,h1⟩:=step;obtain⟨M2,l2,hs2,hfa,h2⟩:=Rel.Pn g os h1 λp hp=>by
   obtain⟨hg',e',sz',n',ws',ds',ho',h0',hd'⟩:=hf p (Qx _ hp);refine⟨hg',e',sz',n',ws',ds',ho',?_,λM' us hM hu=>hd' M' us (hs.trans hM) hu⟩;by_cases e:p.1=b
   .right;rw[e,hg]at hg';rw[cu,J2 e];rw[hg',ho']
   .rw[cu,J1 e];exact h0'
  refine⟨M2,l2,hs.trans hs2,λp hp sz' n' ds' hp'=>?_,h2⟩;rcases Qz.1 hp with rfl|hp
  .simp only[O.s.injEq]at hp';obtain⟨rfl,rfl,rfl⟩:=hp';exact⟨v,hv,Rd.mono hs2 _ _ hrd⟩
  all_goals grind
def mM(ρ:Nat->Option Qw)(M:Mem)(os:List (Nat×O)):Prop:=∀p∈os,match p.2 with
 |.s sz n ds=>∃v,ρ p.1=some v/\Rd M (.sl n sz ds) v
 |_=>False
def fj(fr:Fr)(os:List (Nat×O)):Prop:=∀p∈os,match p.2 with
 |.s sz n ds=>(∃e,fr.ob p.1=some (.w e sz n ds))\/fr.ob p.1=some (.s sz n ds)
 |_=>False
theorem Rel.Jq:∀(os:List (Nat×O)) {fr:Fr} {M:Mem} {lst:List (Nat×As)},Rel w0 Γ0 fr ρ M lst val w->fj fr os->∃M' lst',Sub M M'/\mM ρ M' os/\Rel w0 Γ0 (fr.aJ os) ρ M' lst' val w
 |[],fr,M,lst,h,_=>⟨M,lst,Sub.refl M,λp hp=>by simp at hp,h⟩
 |(b,o)::os,fr,M,lst,h,hf=>by
  have h0:=hf (b,o) (Qt ..);cases o with
  |s sz n ds =>
   have hrest:fj (fr.set b (.s sz n ds)) os:=λp hp=>by
    have:=hf p (Qx _ hp);split at this
    .rename_i sz' n' ds' he;by_cases e:p.1=b
     .right;rw[cu,J2 e]
      grind
     .rw[cu,J1 e];exact this
    .exact this.elim
   rcases h0 with⟨e0,h0⟩|h0
   .obtain⟨M1,l1,v,hs,hv,hrd,h1⟩:=h.fix h0;obtain⟨M2,l2,hs2,hfa,h2⟩:=Rel.Jq os h1 hrest;refine⟨M2,l2,hs.trans hs2,λp hp=>?_,h2⟩;rcases Qz.1 hp with rfl|hp
    .exact⟨v,hv,Rd.mono hs2 _ _ hrd⟩
    .exact hfa p hp
   .have e1:=Dt h0;rw[e1]at hrest;obtain⟨M2,l2,hs2,hfa,h2⟩:=Rel.Jq os h hrest;refine⟨M2,l2,hs2,λp hp=>?_,by rw[Fr.aJ,e1];exact h2⟩;rcases Qz.1 hp with rfl|hp
    .obtain⟨v,h3,h4⟩:=h.ob _ _ h0;exact⟨v,h3,Rd.mono hs2 _ _ h4⟩
    .exact hfa p hp
  |_=>exact h0.elim
theorem fj.app{os os':List (Nat×O)}(h:fj fr os)(k:fj fr os'):fj fr (os++os'):=λp hp=>by
 rcases QK.1 hp with hp|hp
 .exact h p hp
 .exact k p hp
theorem fj.nil:fj fr []:=λp hp=>by simp at hp
theorem mM.app1{os os':List (Nat×O)}(h:mM ρ M (os++os')):mM ρ M os:=λp hp=>h p (List.mem_append_left _ hp)
theorem mM.app2{os os':List (Nat×O)}(h:mM ρ M (os++os')):mM ρ M os':=λp hp=>h p (List.mem_append_right _ hp)
end
section
variable {Is:Cx} {P:QE} {w0:QL} {Γ0:List As} {fr:Fr} {ρ:Nat->Option Qw} {M:Mem} {lst:List (Nat×As)} {val:Nat->Option Qw} {w:QL} {fs fo:List Nat} {o:Out}
def DatOk(ρ:Nat->Option Qw)(M:Mem)(c:C)(x:D)(os:List (Nat×O)):Prop:=∀M' v,Sub M M'->mM ρ M' os->CR M ρ c v->Rd M' x v
theorem Cq(h:Rel w0 Γ0 fr ρ M lst val w){c:C}{k:D->List (Nat×O)->bj}(hr:R1 Is fr (Fe c k) fs fo o):∃x os fo',R1 Is fr (k x os) fs fo' o/\fj fr os/\DatOk ρ M c x os/\c≠.u:=by
 unfold Fe at hr;split at hr
 .rename_i x;exact⟨x,[],fo,hr,fj.nil,λM' v hM _ hc=>Rd.mono hM _ _ hc,Q2⟩
 .refine⟨_,[],fo,hr,fj.nil,λM' v hM _ hc=>?_,Q2⟩;obtain rfl:v=.slice none 0 0:=hc;exact Rd.sf
 .rename_i b;change R1 Is fr (match fr.ob b with|some (.w _ sz n ds)=>_|some (.s sz n ds)=>_|_=>_) _ _ _ at hr;split at hr
  .rename_i e sz n ds hob;refine⟨.sl n sz ds,[(b,.s sz n ds)],_,hr,λp hp=>?_,λM' v hM hf hc=>?_,Q2⟩
   .grind
   .obtain⟨v',h1,h2⟩:=hf (b,.s sz n ds) (QI.2 rfl);have h3:ρ b=some v:=hc.1
    grind
  .rename_i sz n ds hob;refine⟨.sl n sz ds,[],_,hr,fj.nil,λM' v hM hf hc=>?_,Q2⟩;obtain⟨v',h1,h2⟩:=h.ob b _ hob;have h3:ρ b=some v:=hc.1;rw[h1]at h3;simp only[Qq]at h3;subst h3;exact Rd.mono hM _ _ h2
  .exact hr.elim
 .exact hr.elim
def DatsOk(ρ:Nat->Option Qw)(M:Mem)(cs:List C)(ds:List D)(os:List (Nat×O)):Prop:=∀M' us,Sub M M'->mM ρ M' os->dr M ρ cs us->bz M' ds us
theorem Cp(h:Rel w0 Γ0 fr ρ M lst val w):∀(cs:List C) {k:List D->List (Nat×O)->bj} {fs fo:List Nat} {o:Out},R1 Is fr (Fc cs k) fs fo o->∃ds os fo',R1 Is fr (k ds os) fs fo' o/\fj fr os/\DatsOk ρ M cs ds os
 |[],k,fs,fo,o,hr=>⟨[],[],fo,hr,fj.nil,λM' us _ _ hc=>by
  cases us with
  |nil=>exact bz.nil _
  |cons _ _=>exact hc.elim⟩
 |c::cs,k,fs,fo,o,hr=>by
  obtain⟨x,os,fo1,hr,hf,hd,_⟩:=Cq h hr;obtain⟨ds,os',fo2,hr,hf',hd'⟩:=Cp h cs hr;refine⟨x::ds,os++os',fo2,hr,hf.app hf',λM' us hM hfa hc=>?_⟩;cases us with
  |nil=>exact hc.elim
  |cons u us=>exact bz.cons (hd M' u hM hfa.app1 hc.1) (hd' M' us hM hfa.app2 hc.2)
theorem AW{v:Qw}(h:v.oneCell'=true):v.cells=#[v]:=by cases v <;> first|rfl|simp[Tz]at h
def ValOk(ρ:Nat->Option Qw)(M:Mem)(s:S)(m:Nat)(ds:List D)(os:List (Nat×O)):Prop:=∀M' v,Sub M M'->mM ρ M' os->SR M ρ s v->∃us,v.cells=us.toArray/\bz M' ds us/\us.length=m
theorem FM(h:Rel w0 Γ0 fr ρ M lst val w){s:S}{k:Nat->List D->List (Nat×O)->bj}(hr:R1 Is fr (FN s k) fs fo o):∃m ds os fo',R1 Is fr (k m ds os) fs fo' o/\fj fr os/\ValOk ρ M s m ds os/\s≠su:=by
 unfold FN at hr;split at hr
 .rename_i c;obtain⟨x,os,fo1,hr,hf,hd,hne⟩:=Cq h hr;refine⟨1,[x],os,fo1,hr,hf,λM' v hM hfa hs=>?_,by unfold su;simpa using hne⟩;have:=hd M' v hM hfa hs;exact⟨[v],AW (Rd.one this),bz.cons this (bz.nil _),rfl⟩
 .rename_i n ds;refine⟨n,ds,[],fo,hr,fj.nil,λM' v hM _ hs=>?_,by unfold su;simp⟩;obtain⟨hl,us,rfl,hr2⟩:=hs;exact⟨us,rfl,hr2.mono hM,by rw[hr2.1,hl]⟩
 .rename_i cs;obtain⟨ds,os,fo1,hr,hf,hd⟩:=Cp h cs hr;refine⟨cs.length,ds,os,fo1,hr,hf,λM' v hM hfa hs=>?_,by unfold su;simp⟩;obtain⟨us,rfl,hr2⟩:=hs;exact⟨us,rfl,hd M' us hM hfa hr2,dr.len hr2⟩
 .exact hr.elim
theorem F1(_:Rel w0 Γ0 fr ρ M lst val w){sz:Nat}{s:S}{k:Nat->List D->bj}(hr:R1 Is fr (Kh sz s k) fs fo o):∃n ds fo',R1 Is fr (k n ds) fs fo' o /\
  ((s=.c (.d (.sl n sz ds)))\/(s=.c (.l sz)/\n=0/\ds=[])\/∃b,s=.c (.w b)/\((∃e,fr.ob b=some (.w e sz n ds))\/fr.ob b=some (.s sz n ds)\/∃e,fr.ob b=some (.x e sz n ds))):=by
 unfold Kh at hr;split at hr
 .split at hr
  .rename_i hb;have e1:=Qp hb;subst e1;exact⟨0,[],fo,hr,.inr (.inl ⟨rfl,rfl,rfl⟩)⟩
  .exact hr.elim
 .obtain⟨n,cs,rfl,hr⟩:=hr;exact⟨n,cs,fo,hr,.inl rfl⟩
 .rename_i b;change R1 Is fr (match fr.ob b with|some (.w _ sz' n ds)=>_|some (.s sz' n ds)=>_|some (.x _ sz' n ds)=>_|_=>_) _ _ _ at hr;split at hr
  .rename_i e sz' n ds hob;split at hr
   .rename_i hb;have e1:=Qp hb;subst e1;exact⟨n,ds,_,hr,.inr (.inr ⟨b,rfl,.inl ⟨e,hob⟩⟩)⟩
   .exact hr.elim
  .rename_i sz' n ds hob;split at hr
   .rename_i hb;have e1:=Qp hb;subst e1;exact⟨n,ds,_,hr,.inr (.inr ⟨b,rfl,.inr (.inl hob)⟩)⟩
   .exact hr.elim
  .rename_i e sz' n ds hob;split at hr
   .rename_i hb;have e1:=Qp hb;subst e1;exact⟨n,ds,_,hr,.inr (.inr ⟨b,rfl,.inr (.inr ⟨e,hob⟩)⟩)⟩
   .exact hr.elim
  .exact hr.elim
 .exact hr.elim
theorem CK(h:Rel w0 Γ0 fr ρ M lst val w){b e sz n c:Nat}{ad:Option Addr}{us:List Qw}(h2:(b,As.acc (.slice ad n c) e sz n us)∈lst):n<=c/\(0<n->ad.isSome=true):=by
 have hm:As.acc (.slice ad n c) e sz n us∈lst.map Ra++Γ0:=List.mem_append_left _ (Rl h2);obtain⟨ad',c',e3,hc⟩:=ji (h.st.all _ hm);simp only[Ri]at e3;obtain⟨rfl,_,rfl⟩:=e3;refine⟨hc,λhn=>?_⟩;obtain⟨⟨_,hh⟩,_⟩:=h.st.all _ hm
 grind
theorem ph(h:Rel w0 Γ0 fr ρ M lst val w){sz n:Nat}{s:S}{ds:List D}{v:Qw}(hs:SR M ρ s v)(k:(s=.c (.d (.sl n sz ds)))\/(s=.c (.l sz)/\n=0/\ds=[])\/∃b,s=.c (.w b)/\((∃e,fr.ob b=some (.w e sz n ds))\/fr.ob b=some (.s sz n ds)\/∃e,fr.ob b=some (.x e sz n ds))) :
  ∃ad c us,v=.slice ad n c/\n<=c/\bz M ds us/\us.length=n*sz/\n<=lim/\(0<n->ad.isSome=true)/\∀i u,us[i]?=some u->∀w',St w0 M (lst.map Ra++Γ0) w'->w'.cell? (fT ad i)=some u:=by
 have ofRd:∀v,Rd M (.sl n sz ds) v->∃ad c us,v=.slice ad n c/\n<=c/\bz M ds us/\us.length=n*sz/\n<=lim/\(0<n->ad.isSome=true)/\∀i u,us[i]?=some u->∀w',St w0 M (lst.map Ra++Γ0) w'->w'.cell? (fT ad i)=some u:=by
  intro v hv;simp only[Rd]at hv;obtain⟨ad,c,rfl,h2,_,h4,h5,h6,h7⟩:=hv;obtain⟨us,h8,h9⟩:=td (M:=M) (a:=ad) (q:=0) (ds:=ds) λj e hj=>by simpa using o5.get ds 0 h7 j e hj
  exact⟨ad,c,us,rfl,h2,h8,by rw[h8.1];exact h5,h4,h6,λi u hi w' hw'=>hw'.cell (by grind)⟩
 rcases k with rfl|⟨rfl,rfl,rfl⟩|⟨b,rfl,k⟩
 .exact ofRd v hs
 .obtain rfl:v=.slice none 0 0:=hs;exact ofRd _ Rd.sf
 .have hb:ρ b=some v:=hs.1;rcases k with⟨e,k⟩|k|⟨e,k⟩
  .obtain⟨ad,c,us,h1,h2,h3,h4,h5⟩:=h.ob b _ k;rw[h1]at hb;simp only[Qq]at hb;subst hb;have hm:As.acc (.slice ad n c) e sz n us∈lst.map Ra++Γ0:=List.mem_append_left _ (Rl h2);obtain⟨ad',c',e3,hc⟩:=ji (h.st.all _ hm);simp only[Ri]at e3;obtain⟨rfl,_,rfl⟩:=e3;refine⟨ad,c,us,rfl,hc,h3,h4,h5,λhn=>?_,λi u hi w' hw'=>(hw'.o3 hm hi).2⟩;obtain⟨⟨_,hh⟩,_⟩:=h.st.all _ hm;rcases hh with⟨e4,e5⟩|⟨b',cap,cur,e4,_⟩
   .simp only[Ri]at e4;omega
   .simp only[Ri]at e4;rw[e4.1];rfl
  .obtain⟨v',h1,h2⟩:=h.ob b _ k;rw[h1]at hb;simp only[Qq]at hb;subst hb;exact ofRd _ h2
  .obtain⟨ad,c,us,h1,h2,h3,h4,h5⟩:=h.ob b _ k;rw[h1]at hb;simp only[Qq]at hb;subst hb;have hc:=(h5.cap h.st).1;refine⟨ad,c,us,rfl,hc,h2,h3,h4,λhn=>?_,λi u hi w' hw'=>(h5.cell hw' h3 hi).2⟩;rcases h5 with h5|⟨_,_,g,l0,cur,h7,_⟩
   .exact(CK h h5).2 hn
   .rw[h7 Q0];rfl
end
end Pm
