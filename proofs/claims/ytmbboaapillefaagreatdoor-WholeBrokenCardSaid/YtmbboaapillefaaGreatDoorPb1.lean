/- Xe1, Xe2, Api, Pure, Xe3, Xe4, XeLd, PureA, PureB, Ev0, Gr, Arg, Laid, PmA, PmB, PmC, PmD, PmE, PmF, PmG, XeZ, Ev9, Ev10, PmH, PmI, put together. -/
import Derived.WalkKit
import Derived.Deep.Quiet
import Derived.OrdersHeld
import Derived.ProofKit
import Derived.SizedLaws
import Derived.Below
import Derived.Recover
import Derived.Carry
import Derived.OpenShut
import Derived.Deep.CondSized
import Derived.Scope
import Derived.Lib.AppendZeros
import Derived.Laws.Bits64b
import Derived.Deep.DeepHandedRow
import Derived.LaidMore
import Derived.KernelRfl
import Derived.Test.YtmbboaapillefaaGreatDoorProg
import Derived.Test.YtmbboaapillefaaGreatDoorCards
import Derived.Test.YtmbboaapillefaaGreatDoorTie
import Derived.LaidHandle
import Derived.WideKeyMaps
import Derived.Lib.LaidU8
import Derived.Stop.Joined
open Array renaming toList_push->YI,getElem?_eq_some_iff->SQ,getElem?_setIfInBounds_ne->Xk,getElem_modify->Yf,range->ZD,getElem?_eq_getElem->XR,length_toList->Uk,toList_append->Yn
open Bool renaming and_eq_true->RP,and->WH
open ByteArray renaming empty->Ys
open Go renaming Value->RK,Operand->R4,maxLen->UI,TypeId->RX,MapEntry->TJ,World->R0,Program->RV,wp_mono->ZC,FuncId->Xa,execOp->Sk,run_underlying->R7,sizeOf->U1,typeInfo->US,binOp->Ub,eqGuard->Th,builtin->UF,IntKind->Tl,asIntOf->ZI,loadCellsFrom->Yt,zeroValue->ZT,storeCells->Xy,Field->Yg,run_equalIn_bool->ZV,ChangeSpec->Zt,DataW->Uz,MemPlace->XJ,reachBytes->Zv,grownCap->VP,size_zeroCells->Vc,laidMetH->W0,func_of_trod->XK,BinOp->X2
open Go.Act renaming eval->Xp,put->Xq
open Go.Addr renaming add->WE
open Go.Builtin renaming append_->S7,lenOf->Uc,firstCells->TL,zeroCells->SX
open Go.ByteArray renaming toList_eq->X1
open Go.DataW renaming Whole->ZF,TrodAll->VW,weightsAll->YT,trod->U8,trod_int->Ze,trod_string->YJ,weights->VY,weightsEach->UX,trod_array->YU,insert->X5
open Go.DataW.lit renaming injEq->Yo
open Go.Instr renaming fieldAt->Zl,sureAddr->Tu,indexAt->Zn,loadAt->Zr,fill->Yu,buildSlice->Xr,sliceBound->YS,slice->Uh,sliceBounds->SZ,findAsking->TD,findKey->Uj,findNow->Wr
open Go.IntKind renaming i64->Zm
open Go.Lit renaming int->ZW
open Go.Op renaming intArith->Vs,intDiv->Ye,intCmp->UA,equal->ZE,stringOp->YL
open Go.OpenSpec renaming ofChange->VH
open Go.Oper renaming wp->WY
open Go.Proofs.Tryz renaming prog->RH,underlying3->Ta
open Go.Region renaming wanted->Tt
open Go.Result renaming andThen_ok->Uy
open Go.Sem renaming run_bind->TP,run_pure->ZU
open Go.Value renaming oneCell'->UD,ownBlock->S1,cells->Xt,okWide->Xb,slice->ZG,int->To
open Go.Value.slice renaming injEq->Sm
open Go.WideMaps renaming rd_key->Yv,rd_val->Yw
open Go.World renaming cell?->SU,cells?_some->YK
open Int renaming tmod_eq_emod_of_nonneg->SL,eq_ofNat_of_zero_le->X8
open List renaming getElem?_cons_zero->SE,getElem?_append_left->XW,getElem?_append_right->XQ,map_append->Si,nodup_append->Td,mem_map->R3,map_cons->Sb,map_nil->Tr,mem_singleton->RZ,mem_append->RY,ext_getElem?->Xi,mem_filterMap->Uq,Sublist->Xj,Perm->Y5,mem_cons->RO,filterMap_cons->Sr,nodup_cons->SG,mem_cons_self->RG,mem_cons_of_mem->RM,length_cons->RU,mem_iff_getElem->R8,map_toArray->WG,eq_nil_of_length_eq_zero->Sq,sublist_cons_self->Uv,take_of_length_le->Su,take_succ_eq_append_getElem->RJ,getElem_set_self->T9,append_assoc->R9,cons_append->SA,nil_append->Sv,drop_set->Zs,length_take->Sn,length_drop->S3,getElem?_take_of_lt->UR,flatMap_cons->RT,length_append->RS,drop_drop->TR,drop_of_length_le->WZ,take_set->Zu,getElem?_drop->TV,drop_zero->Te,mem_of_getElem?->UM,sum_cons->T7,take_append_drop->TS,take_left->X3,flatten_cons->U7,all_eq_true->Ve,contains_iff_mem->Yh,getElem?_eq_getElem->R5,getElem_mem->RQ,range->W6,getElem?_eq_some_iff->TN,length_map->Sa,append_nil->RW,isEmpty_iff->Vf,length_eq_zero_iff->X4,getElem?_map->VZ,mem_filter->Sp,map_map->SP,map_congr_left->TM,replicate->Sj,mem_map_of_mem->Ss,getElem?_take->TE,filter_eq_self->Uu,filter_append->SS
open List.Perm renaming trans->Yr
open List.cons renaming injEq->Tn
open Nat renaming beq->RN,blt->Tw,beq_refl->VF,eq_of_beq_eq_true->RD,ble->TX,zero_add->Sz,le_refl->Sc,zero_le->Sy,le_trans->TQ,add_mul->SK,mul_le_mul_right->SI,add_assoc->S8,add_zero->S2,succ_mul->VG,add_comm->Un,le_of_eq->XI,zero_mul->Vb,sub_zero->VX,sub_self->W5,mul_one->UG
open Option renaming bind_some->U6,isSome_iff_exists->Ti,map_some->UT,map_eq_some_iff->Tm
open Option.some renaming injEq->RE,inj->TW
open Prod renaming fst->Sf,snd->Sg
open Prod.mk renaming injEq->R6
open SizeOf renaming sizeOf->VV
namespace Xe
theorem J1.{u}{c:Prop}{h:Decidable c}(n:¬c){α:Sort u}{t e:α}:ite c t e=e:=if_neg n
theorem J2.{u}{c:Prop}{h:Decidable c}(n:c){α:Sort u}{t e:α}:ite c t e=t:=if_pos n
theorem J3{a b:Prop}(h:a)(k:¬a):b:=absurd h k
theorem J4.{u,v}{α:Sort u}{β:Sort v}{a b:α}(f:α -> β)(h:a=b):f a=f b:=congrArg f h
theorem J5{p:Prop}[Decidable p]:p -> decide p=true:=decide_eq_true
theorem J6{p:Prop}[Decidable p]:¬p -> decide p=false:=decide_eq_false
theorem J7{p:Prop}[Decidable p]:decide p=true -> p:=of_decide_eq_true
theorem Q0{p:Prop}(h:p:=by omega):p:=h
theorem Q1{p:Prop}(h:p:=by decide):p:=h
theorem Q2{p:Prop}(h:p:=by simp):p:=h
theorem Q3{p:Prop}(h:p:=by rfl):p:=h
theorem Q4{p:Prop}(h:p:=by unfold aZ;omega):p:=h
theorem Q5{p:Prop}(h:p:=by first|(simp;done)|simp[av.gM]):p:=h
theorem Q6{p:Prop}(h:p:=by first|(simp[UD];done)|simp[UD,av.gM]):p:=h
theorem Q7{p:Prop}(h:p:=by first|exact Kn.lenRds MM EL|exact Kn.lenLit rfl):p:=h
theorem Q8{p:Prop}(h:p:=by first|exact decide_eq_true_iff|(simp only[decide_eq_true_eq];omega)|(simp only[true_iff];omega)|(simp only[Bool.false_eq_true,false_iff];omega)):p:=h
theorem Q9{p:Prop}(h:p:=by first|omega|(simp;done)|(simp;omega)):p:=h
theorem Qa{p:Prop}(h:p:=by unfold aL;omega):p:=h
theorem Qb{p:Prop}(h:p:=by simp <;> omega):p:=h
theorem Qc{p:Prop}(h:p:=by simp;omega):p:=h
end Xe
namespace Xe
open Go
abbrev Lm:=List (Nat×RK)
def lf:Lm->Nat->Option RK
 |[],_=>none
 |(t,v)::r,s=>match RN s t with
  |true=>some v
  |false=>lf r s
def bq(L:Lm):R4->Option RK
 |.tmp t=>lf L t
 |.const v=>some v
 |.global g=>some (.pointer (some ⟨g,0,none⟩))
 |.func f=>some (.func (.func f) #[] #[])
structure Sat(n:Nat)(L:Lm)(a:Act):Prop where
 size:a.tmps.size=n
 defers:a.defers=[]
 get:∀t v,lf L t=some v->a.tmps[t]?=some v
theorem Sat.ev{n:Nat}{L:Lm}{a:Act}(h:Sat n L a){x:R4}{v:RK}(hx:bq L x=some v):a.eval x=v:=by
 cases x with
 |tmp t=>have:=h.get t v hx;simp only[Xp,Array.getD_eq_getD_getElem?,this,Option.getD_some]
 |const c=>simpa[bq,Xp]using hx
 |global g=>simpa[bq,Xp]using hx
 |func f=>simpa[bq,Xp]using hx
theorem Sat.put{n d:Nat}{L:Lm}{a:Act}{v:RK}(h:Sat n L a)(hd:Tw d n=true):Sat n ((d,v)::L) (a.put (some d) v):=by
 have hd':d<n:=by simp_all
 refine⟨by simp[Xq,h.size],by simp[Xq,h.defers],λt u ht=>?_⟩;simp only[lf]at ht;by_cases e:t=d
 .subst e;have hb:RN t t=true:=VF t;rw[hb]at ht;simp only[RE]at ht;subst ht;have:t<a.tmps.size:=by rw[h.size];exact hd'
  simp[Xq,this]
 .have hb:RN t d=false:=by
   grind [RN,RD]
  rw[hb]at ht;have:=h.get t u ht
  grind [Xq]
theorem Sat.CI{n:Nat}{L L':Lm}{a:Act}(h:Sat n L a)(hk:∀t v,lf L' t=some v->lf L t=some v):Sat n L' a :=
 ⟨h.size,h.defers,λt v ht=>h.get t v (hk t v ht)⟩
def lH(L L':Lm):Prop:=∀t v,lf L' t=some v->lf L t=some v
theorem lH.nil(L:Lm):lH L []:=λ_ _ h=>by simp[lf]at h
theorem lH.cons{L L':Lm}(t:Nat){v:RK}(h:lf L t=some v)(k:lH L L'):lH L ((t,v)::L'):=λs u hs=>by
 simp only[lf]at hs;cases hb:RN s t with
 |true=>rw[hb]at hs;simp only[RE]at hs;subst hs;rw[RD hb];exact h
 |false=>rw[hb]at hs;exact k s u hs
theorem lH.refl(L:Lm):lH L L:=λ_ _ h=>h
abbrev Mem:=Nat->Option Obj
def Sub(M M':Mem):Prop:=∀b o,M b=some o->M' b=some o
theorem Sub.refl(M:Mem):Sub M M:=λ_ _ h=>h
theorem Sub.trans{M M' M'':Mem}(h:Sub M M')(k:Sub M' M''):Sub M M'':=λb o hb=>k b o (h b o hb)
def gd(a:Option Addr)(i:Nat):Addr:=(a.getD default).add i
theorem eI(a:Option Addr)(i j:Nat):(gd a i).add j=gd a (i+j):=by
 unfold gd WE
 grind
theorem cy(b o i:Nat):gd (some ⟨b,o,none⟩) i=⟨b,o+i,none⟩:=by
 unfold gd WE
 grind
def ee(M:Mem)(p:Addr):Option RK :=
 match M p.block with
 |some (.cells c _ _)=>if p.spot.isSome then none else c[p.off]?
 |_=>none
theorem lu{M M':Mem}(h:Sub M M'){p:Addr}{v:RK}(hv:ee M p=some v):ee M' p=some v:=by
 unfold ee at *;cases hM:M p.block with
 |none=>simp[hM]at hv
 |some o=>rw[h _ _ hM];rw[hM]at hv;exact hv
inductive D where
 |v (x:RK)
 |sl (n sz:Nat) (cs:List D)
def lim:Nat:=140737488355328
mutual
def Rd(M:Mem):D->RK->Prop
 |.v x,u=>u=x/\x.oneCell'=true
 |.sl n sz cs,u=>∃a cap,u=.slice a n cap/\n<=cap/\cap<=UI/\n<=lim/\cs.length=n*sz/\(0<n->a.isSome=true)/\po M a 0 cs
def po(M:Mem)(a:Option Addr):Nat->List D->Prop
 |_,[]=>True
 |i,d::ds=>(∃u,ee M (gd a i)=some u/\Rd M d u)/\po M a (i+1) ds
end
mutual
theorem Rd.mono{M M':Mem}(h:Sub M M'):∀(d:D) (u:RK),Rd M d u->Rd M' d u
 |.v x,u,hr=>by simpa[Rd]using hr
 |.sl n sz cs,u,hr=>by simp only[Rd]at hr ⊢;obtain⟨a,cap,h1,h2,h3,h4,h5,h6,h7⟩:=hr;exact⟨a,cap,h1,h2,h3,h4,h5,h6,po.mono h a cs 0 h7⟩
theorem po.mono{M M':Mem}(h:Sub M M')(a:Option Addr):∀(cs:List D) (i:Nat),po M a i cs->po M' a i cs
 |[],i,_=>by simp[po]
 |d::ds,i,hr=>by simp only[po]at hr ⊢;obtain⟨⟨u,h1,h2⟩,h3⟩:=hr;exact⟨⟨u,lu h h1,Rd.mono h d u h2⟩,po.mono h a ds (i+1) h3⟩
end
theorem po.get{M:Mem}{a:Option Addr}:∀(cs:List D) (i:Nat),po M a i cs->∀(k:Nat) (d:D),cs[k]?=some d->∃u,ee M (gd a (i+k))=some u/\Rd M d u
 |[],_,_,k,d,hk=>by simp at hk
 |e::es,i,h,k,d,hk=>by
  simp only[po]at h;cases k with
  |zero=>simp only[SE,RE]at hk;subst hk;exact h.1
  |succ k=>obtain⟨u,h1,h2⟩:=po.get es (i+1) h.2 k d (by grind);exact⟨u,by grind,h2⟩
theorem po.mk{M:Mem}{a:Option Addr}:∀(cs:List D) (i:Nat),(∀(k:Nat) (d:D),cs[k]?=some d->∃u,ee M (gd a (i+k))=some u/\Rd M d u)->po M a i cs
 |[],_,_=>by simp[po]
 |e::es,i,h=>by
  simp only[po];refine⟨?_,po.mk es (i+1) λk d hk=>?_⟩
  .have:=h 0 e rfl;simpa using this
  .have:=h (k+1) d (by grind)
   grind
def bz(M:Mem)(ds:List D)(us:List RK):Prop:=us.length=ds.length/\∀(k:Nat) (d:D) (u:RK),ds[k]?=some d->us[k]?=some u->Rd M d u
theorem bz.mono{M M':Mem}(h:Sub M M'){ds:List D}{us:List RK}(hr:bz M ds us):bz M' ds us :=
 ⟨hr.1,λk d u h1 h2=>Rd.mono h d u (hr.2 k d u h1 h2)⟩
theorem bz.nil(M:Mem):bz M [] []:=⟨rfl,λk d u h _=>by simp at h⟩
theorem bz.cons{M:Mem}{d:D}{u:RK}{ds:List D}{us:List RK}(h:Rd M d u)(k:bz M ds us):bz M (d::ds) (u::us) :=
 ⟨by simp[k.1],λi e x h1 h2=>by
  cases i with
  |zero=>simp only[SE,RE]at h1 h2;subst h1 h2;exact h
  |succ i=>exact k.2 i e x (by grind) (by grind)⟩
theorem bz.append{M:Mem}{ds es:List D}{us xs:List RK}(h:bz M ds us)(k:bz M es xs):bz M (ds++es) (us++xs):=by
 refine⟨by simp[h.1,k.1],λi d u h1 h2=>?_⟩;by_cases hi:i<ds.length
 .rw[XW hi]at h1;rw[XW (by rw[h.1];exact hi)]at h2;exact h.2 i d u h1 h2
 .rw[XQ Q0]at h1;rw[XQ (by rw[h.1];omega)]at h2;rw[h.1]at h2;exact k.2 _ d u h1 h2
inductive As where
 |rd (d:D) (u:RK)
 |rds (ds:List D) (us:List RK)
 |own (b:Nat) (e:RX) (cs:List RK)
 |acc (u:RK) (e:RX) (sz n:Nat) (us:List RK)
 |mp (b:Nat) (l:List (RK×RK))
 |raw (b:Nat) (o:Obj)
def nS(es:Array TJ)(clock:Nat):Prop:=(es.toList.map (·.born)).Nodup/\∀x∈es.toList,x.born<clock
theorem nS.push{es:Array TJ}{clock:Nat}(h:nS es clock)(e:TJ)(he:e.born=clock:=by rfl):nS (es.push e) (clock+1):=by
 refine⟨?_,λx hx=>?_⟩
 .rw[YI,Si,Td];refine⟨h.1,Q2,λa ha b hb=>?_⟩;obtain⟨x,hx,rfl⟩:=R3.1 ha;simp only[Sb,Tr,RZ]at hb;have:=h.2 x hx;omega
 .rw[YI]at hx;rcases RY.1 hx with hx|hx
  .have:=h.2 x hx;omega
  all_goals grind
theorem nS.modify{es:Array TJ}{clock:Nat}(h:nS es clock){f:TJ->TJ}(hf:∀e,(f e).born=e.born)(i:Nat):nS (es.modify i f) clock:=by
 have e:(es.modify i f).toList.map (·.born)=es.toList.map (·.born):=by
  rw[Array.toList_modify];apply Xi
  grind
 refine⟨by rw[e];exact h.1,λx hx=>?_⟩;have:x.born∈es.toList.map (·.born):=by grind
 obtain⟨y,hy,e2⟩:=R3.1 this;rw[<-e2];exact h.2 y hy
def As.gx:As->Option Nat
 |.own b _ _=>some b
 |.acc u _ _ _ _=>u.ownBlock
 |.mp b _=>some b
 |.raw b _=>some b
 |_=>none
def As.ok(M:Mem)(w:R0):As->Prop
 |.rd d u=>Rd M d u
 |.rds ds us=>bz M ds us
 |.own b e cs=>M b=none/\w.heap[b]?=some (.cells cs.toArray e (0,0))
 |.acc u e sz n us=>w.ownsRow 0 e sz u n us/\∀b,u.ownBlock=some b->M b=none
 |.mp b l=>M b=none/\∃es clock,w.heap[b]?=some (.map es clock)/\es.toList.map (λe=>(e.key,e.val))=l/\nS es clock
 |.raw b o=>M b=none/\w.heap[b]?=some o
structure St(w0:R0)(M:Mem)(Γ:List As)(w:R0):Prop where
 os:w.os=w0.os
 tape:w.tape=w0.tape
 output:w.output=w0.output
 size:w0.heap.size<=w.heap.size
 mem:∀b o,M b=some o->w.heap[b]?=some o
 all:∀x,x∈Γ->x.ok M w
 nodup:(Γ.filterMap As.gx).Nodup
theorem St.lt{w0 w:R0}{M:Mem}{Γ:List As}(h:St w0 M Γ w){b:Nat}{o:Obj}(hb:M b=some o):b<w.heap.size:=by
 have:=h.mem b o hb
 grind
theorem St.fresh{w0 w:R0}{M:Mem}{Γ:List As}(h:St w0 M Γ w):M w.heap.size=none:=by
 cases hM:M w.heap.size with
 |none=>rfl
 |some o=>have:=h.lt hM;omega
theorem St.cell{w0 w:R0}{M:Mem}{Γ:List As}(h:St w0 M Γ w){p:Addr}{v:RK}(hv:ee M p=some v):w.cell? p=some v:=by
 unfold ee at hv;unfold SU;cases hM:M p.block with
 |none=>simp[hM]at hv
 |some o=>rw[h.mem _ _ hM];rw[hM]at hv;cases o <;> first|exact hv|simp at hv
theorem As.bk{M:Mem}{w:R0}{x:As}(h:x.ok M w){b:Nat}(hb:x.gx=some b):b<w.heap.size/\M b=none:=by
 cases x with
 |rd d u=>simp[As.gx]at hb
 |rds d u=>simp[As.gx]at hb
 |own b' e cs=>simp only[As.gx,RE]at hb;subst hb;exact⟨(SQ.1 h.2).1,h.1⟩
 |acc u e sz n us=>simp only[As.gx]at hb;exact⟨(h.1.lt b hb).2,h.2 b hb⟩
 |mp b' l=>simp only[As.gx,RE]at hb;subst hb;obtain⟨h1,es,clock,h2,_⟩:=h;exact⟨(SQ.1 h2).1,h1⟩
 |raw b' o=>simp only[As.gx,RE]at hb;subst hb;exact⟨(SQ.1 h.2).1,h.1⟩
theorem As.fz{M M':Mem}{w w':R0}{x:As}(h:x.ok M w)(hs:Sub M M')(hb:∀b,x.gx=some b->w'.heap[b]?=w.heap[b]?/\M' b=none):x.ok M' w':=by
 cases x with
 |rd d u=>exact Rd.mono hs d u h
 |rds ds us=>exact bz.mono hs h
 |own b e cs=>exact⟨(hb b rfl).2,by rw[(hb b rfl).1];exact h.2⟩
 |acc u e sz n us =>
  refine⟨?_,λb hbb=>(hb b hbb).2⟩;obtain⟨h1,h2⟩:=h.1;refine⟨h1,?_⟩;rcases h2 with h2|⟨g,cap,cur,hv,hg,hh,r⟩
  .exact .inl h2
  .exact .inr ⟨g,cap,cur,hv,hg,by rw[(hb g (by subst hv;rfl)).1];exact hh,r⟩
 |mp b l=>obtain⟨_,es,clock,h2,h3⟩:=h;exact⟨(hb b rfl).2,es,clock,by rw[(hb b rfl).1];exact h2,h3⟩
 |raw b o=>exact⟨(hb b rfl).2,by rw[(hb b rfl).1];exact h.2⟩
theorem wh{Γ:List As}{x:As}{b:Nat}(hx:x∈Γ)(hb:x.gx=some b):b∈Γ.filterMap As.gx:=Uq.2 ⟨x,hx,hb⟩
theorem St.iW{w0 w:R0}{M:Mem}{Γ:List As}(h:St w0 M Γ w)(k:Nat):St w0 M Γ {w with drawn:=k} :=
 ⟨h.os,h.tape,h.output,h.size,h.mem,λx hx=>As.fz (w':={w with drawn:=k}) (h.all x hx) (Sub.refl M) λ_ hb=>⟨rfl,(As.bk (h.all x hx) hb).2⟩,h.nodup⟩
theorem St.sub{w0 w:R0}{M:Mem}{Γ Γ':List As}(h:St w0 M Γ w)(hs:Xj Γ' Γ):St w0 M Γ' w :=
 ⟨h.os,h.tape,h.output,h.size,h.mem,λx hx=>h.all x (hs.subset hx),(hs.filterMap As.gx).nodup h.nodup⟩
theorem St.fD{w0 w:R0}{M:Mem}{Γ Γ':List As}(h:St w0 M Γ w)(hp:Y5 Γ Γ'):St w0 M Γ' w :=
 ⟨h.os,h.tape,h.output,h.size,h.mem,λx hx=>h.all x (hp.symm.subset hx),(hp.filterMap As.gx).nodup_iff.1 h.nodup⟩
theorem St.add{w0 w:R0}{M:Mem}{Γ:List As}(h:St w0 M Γ w){x:As}(hx:x.ok M w)(hb:x.gx=none):St w0 M (x::Γ) w :=
 ⟨h.os,h.tape,h.output,h.size,h.mem,λy hy=>by
  rcases RO.1 hy with rfl|hy
  .exact hx
  .exact h.all y hy,by simpa[Sr,hb]using h.nodup⟩
theorem St.rd{w0 w:R0}{M:Mem}{Γ:List As}(h:St w0 M Γ w){d:D}{u:RK}(hm:As.rd d u∈Γ):Rd M d u:=h.all _ hm
def pk(w0:R0)(M:Mem)(Γ:List As)(F:Mem->List As->Prop):Prop:=∀w,St w0 M Γ w->∃M' Γ',F M' Γ'/\St w0 M' Γ' w
theorem pk.of{w0:R0}{M M':Mem}{Γ Γ':List As}{F:Mem->List As->Prop}(h:F M' Γ')(k:∀w,St w0 M Γ w->St w0 M' Γ' w):pk w0 M Γ F:=λw hw=>⟨M',Γ',h,k w hw⟩
theorem St.alloc{w0 w:R0}{M:Mem}{Γ:List As}(h:St w0 M Γ w)(e:RX)(cs:List RK) :
  St w0 M (.own w.heap.size e cs::Γ) {w with heap:=w.heap.push (.cells cs.toArray e (0,0))}:=by
 have hold:∀b,b<w.heap.size->(w.heap.push (.cells cs.toArray e (0,0)))[b]?=w.heap[b]?:=λb hb=>by
  grind
 refine⟨h.os,h.tape,h.output,by simp;have:=h.size;omega,λb o hb=>?_,λx hx=>?_,?_⟩
 .rw[hold b (h.lt hb)];exact h.mem b o hb
 .rcases RO.1 hx with rfl|hx
  .exact⟨h.fresh,Q2⟩
  .exact As.fz (h.all x hx) (Sub.refl M) λb hb=>⟨hold b (As.bk (h.all x hx) hb).1,(As.bk (h.all x hx) hb).2⟩
 .simp only[Sr,As.gx];refine SG.2 ⟨λhm=>?_,h.nodup⟩;obtain⟨x,hx,hb⟩:=Uq.1 hm;have:=(As.bk (h.all x hx) hb).1;omega
theorem St.write{w0 w:R0}{M:Mem}{Γ:List As}{b:Nat}{e:RX}{cs:List RK}(h:St w0 M (.own b e cs::Γ) w)(cs':List RK)(w':R0)
  (hw:w'={w with heap:=w.heap.setIfInBounds b (.cells cs'.toArray e (0,0))}):St w0 M (.own b e cs'::Γ) w':=by
 subst hw;have hown:=h.all _ (RG ..);have hlt:b<w.heap.size:=(SQ.1 hown.2).1;have hne:∀k,k≠b->(w.heap.setIfInBounds b (.cells cs'.toArray e (0,0)))[k]?=w.heap[k]?:=λk hk=>Xk Q0;have hnd:=h.nodup;simp only[Sr,As.gx]at hnd;refine⟨h.os,h.tape,h.output,by simp;exact h.size,λk o hk=>?_,λx hx=>?_,by grind [As.gx]⟩
 .rw[hne k (λe=>by subst e;rw[hown.1]at hk;cases hk)];exact h.mem k o hk
 .rcases RO.1 hx with rfl|hm
  .exact⟨hown.1,by simp[hlt]⟩
  .have hx':=h.all x (RM _ hm);refine As.fz hx' (Sub.refl M) λk hk=>⟨hne k λe=>?_,(As.bk hx' hk).2⟩;subst e;exact(SG.1 hnd).1 (wh hm hk)
abbrev KN:=Exit->Lm->Mem->List As->Prop
def Real(n:Nat)(w0:R0)(X:KN)(e:Exit)(a:Act)(w:R0):Prop:=∃L M Γ,X e L M Γ/\Sat n L a/\St w0 M Γ w
def CW(P:RV)(n:Nat)(w0:R0)(c:Code)(X:KN)(L:Lm)(M:Mem)(Γ:List As):Prop :=
 ∀a w,Sat n L a->St w0 M Γ w->c.wp P (Real n w0 X) a w
def NM(K:Lm->Mem->List As->Prop)(X:KN):KN
 |.normal,L,M,Γ=>K L M Γ
 |e,L,M,Γ=>X e L M Γ
def Il(id:Nat)(X:KN):KN
 |.exit i,L,M,Γ=>match RN i id with
  |true=>X .normal L M Γ
  |false=>X (.exit i) L M Γ
 |e,L,M,Γ=>X e L M Γ
section
variable {P:RV} {n:Nat} {w0:R0} {X:KN} {L:Lm} {M:Mem} {Γ:List As}
theorem CW.pre{c:Code}{L':Lm}{M':Mem}{Γ':List As}(h:CW P n w0 c X L' M' Γ')(hL:lH L L')(hG:∀w,St w0 M Γ w->St w0 M' Γ' w):CW P n w0 c X L M Γ :=
 λa w ha hw=>h a w (ha.CI hL) (hG w hw)
theorem CW.CI{c:Code}{L':Lm}(hL:lH L L')(h:CW P n w0 c X L' M Γ):CW P n w0 c X L M Γ:=h.pre hL λ_ hw=>hw
theorem CW.seq{c1 c2:Code}(h:∀K:Lm->Mem->List As->Prop,(∀L M Γ,CW P n w0 c2 X L M Γ->K L M Γ)->CW P n w0 c1 (NM K X) L M Γ):CW P n w0 (.seq c1 c2) X L M Γ:=by intro a w ha hw;refine wp_seq (ZC (h (λL M Γ=>CW P n w0 c2 X L M Γ) (λ_ _ _ h=>h) a w ha hw) ?_);rintro e a w ⟨L,M,Γ,hX,h1,h2⟩;cases e <;> first|exact hX a w h1 h2|exact⟨L,M,Γ,hX,h1,h2⟩
theorem CW.skip(h:X .normal L M Γ):CW P n w0 .skip X L M Γ:=λ_ _ ha hw=>wp_skip ⟨L,M,Γ,h,ha,hw⟩
theorem CW.exit{id:Nat}(h:X (.exit id) L M Γ):CW P n w0 (.exit id) X L M Γ:=λ_ _ ha hw=>wp_exit ⟨L,M,Γ,h,ha,hw⟩
theorem CW.ret(h:X .ret L M Γ):CW P n w0 .ret X L M Γ:=λ_ _ ha hw=>wp_ret ⟨L,M,Γ,h,ha,hw⟩
theorem CW.block{id:Nat}{c:Code}(h:CW P n w0 c (Il id X) L M Γ):CW P n w0 (.block id c) X L M Γ:=by
 intro a w ha hw;refine wp_block (ZC (h a w ha hw) ?_);rintro e a w ⟨L,M,Γ,hX,h1,h2⟩;cases e with
 |exit i =>
  simp only[Exit.inBlock];by_cases e:i=id
  .subst e;have hb:RN i i=true:=VF i;simp only[Il,hb]at hX;simp only[if_true];exact⟨L,M,Γ,hX,h1,h2⟩
  .have hb:RN i id=false:=by
    cases hb:RN i id with
    |false=>rfl
    |true=>exact J3 (RD hb) e
   simp only[Il,hb]at hX;rw[J1 e];exact⟨L,M,Γ,hX,h1,h2⟩
 |_=>exact⟨L,M,Γ,hX,h1,h2⟩
theorem CW.cond{t:R4}{c1 c2:Code}{b:Bool}(ht:bq L t=some (.bool b))(h1:b=true->CW P n w0 c1 X L M Γ)(h2:b=false->CW P n w0 c2 X L M Γ):CW P n w0 (.cond t c1 c2) X L M Γ :=
 λa w ha hw=>wp_cond_split (ha.ev ht) (λhb=>h1 hb a w ha hw) (λhb=>h2 hb a w ha hw)
theorem CW.ite{t:R4}{c1 c2:Code}{p:Prop}[Decidable p](ht:bq L t=some (.bool (decide p)))(h1:p->CW P n w0 c1 X L M Γ)(h2:¬p->CW P n w0 c2 X L M Γ):CW P n w0 (.cond t c1 c2) X L M Γ :=
 CW.cond ht (λh=>h1 (J7 h)) (λh=>h2 (of_decide_eq_false h))
theorem CW.loop{c:Code}(I:Nat->Lm->Mem->List As->Prop)(m:Nat)(h0:I m L M Γ)
  (round:∀m L M Γ,I m L M Γ->CW P n w0 c (NM (λL M Γ=>∃m',m'<m/\I m' L M Γ) X) L M Γ):CW P n w0 (.loop c) X L M Γ:=by
 intro a w ha hw b k cs;have key:∀m (L:Lm) (M:Mem) (Γ:List As) (a:Act) (w:R0),I m L M Γ->Sat n L a->St w0 M Γ w ->
   ∃e a' w',Real n w0 X e a' w'/\Arrives P (lone (b.at a (.code c::.inLoop c::k)) cs w) b k cs e a' w':=by
  intro m;induction m using Nat.strongRecOn with
  |_ m ih =>
   intro L M Γ a w hI ha hw;obtain⟨e,a1,w1,hq,harr⟩:=round m L M Γ hI a w ha hw b (.inLoop c::k) cs;obtain⟨L1,M1,Γ1,hX,h1,h2⟩:=hq;cases e with
   |normal=>obtain⟨m',hlt,hI'⟩:=hX;obtain⟨e2,a2,w2,hq2,harr2⟩:=ih m' hlt L1 M1 Γ1 a1 w1 hI' h1 h2;exact⟨e2,a2,w2,hq2,.of_steps (Steps.trans harr (.one step_inLoop)) harr2⟩
   |exit id=>exact⟨_,a1,w1,⟨L1,M1,Γ1,hX,h1,h2⟩,.pass (x:=.inLoop c) rfl (λ_ _=>.inl Q2) harr⟩
   |goto l=>exact⟨_,a1,w1,⟨L1,M1,Γ1,hX,h1,h2⟩,.pass (x:=.inLoop c) rfl (λ_ _=>.inl Q2) harr⟩
   |ret=>exact⟨_,a1,w1,⟨L1,M1,Γ1,hX,h1,h2⟩,.pass (x:=.inLoop c) rfl (λ_ _=>.inl Q2) harr⟩
   |panic ch=>exact⟨_,a1,w1,⟨L1,M1,Γ1,hX,h1,h2⟩,.pass (x:=.inLoop c) rfl (λ_ _=>.inl Q2) harr⟩
   |outgrown=>exact⟨_,a1,w1,⟨L1,M1,Γ1,hX,h1,h2⟩,.pass (x:=.inLoop c) rfl (λ_ _=>.inl Q2) harr⟩
 obtain⟨e,a',w',hq,harr⟩:=key m L M Γ a w h0 ha hw;exact⟨e,a',w',hq,.of_steps (.one step_loop) harr⟩
end
abbrev Iw:=Value->Mem->List As->Prop
def RetP(w0:R0)(R:Iw)(e:Ending)(w':R0):Prop:=∃v M Γ,e=.returned v/\R v M Γ/\St w0 M Γ w'
def jr(P:RV)(w0:R0)(M:Mem)(Γ:List As)(f:Xa)(args:Array RK)(R:Iw):Prop :=
 ∀w,St w0 M Γ w->Calls P f args w (RetP w0 R)
def RL(P:RV)(n:Nat)(w0:R0)(ops:Array Oper)(rest:List Oper)(L:Lm)(M:Mem)(Γ:List As)(K:Lm->Mem->List As->Prop):Prop :=
 ∀R:Exit->Act->R0->Prop,(∀L M Γ,K L M Γ->∀a w,Sat n L a->St w0 M Γ w->R .normal a w)->∀a w,Sat n L a->St w0 M Γ w->wpList P ops R rest a w
def Yq(P:RV)(w0:R0)(L:Lm)(M:Mem)(Γ:List As)(o:Oper)(v:RK):Prop :=
 ∀n a w,Sat n L a->St w0 M Γ w->(Sk a.eval o).run P w=.ok (.value v) w
def Rq(ops:Array Oper)(L:Lm)(o:Oper)(b:Bool):Prop :=
 match o.guard with
 |none=>b=true
 |some (j,want)=>∃t x,(ops[j]?).bind (·.dst)=some t/\lf L t=some (.bool x)/\b=(x == want)
theorem Rq.spec{ops:Array Oper}{L:Lm}{o:Oper}{b:Bool}(h:Rq ops L o b){n:Nat}{a:Act}(ha:Sat n L a):Tt o (yielded ops a.tmps)=b:=by
 unfold Rq at h;unfold Tt;split at h
 .grind
 .rename_i j want hg;obtain⟨t,x,ht,hx,rfl⟩:=h;rw[hg];have:=ha.get t _ hx
  grind [yielded]
section
variable {P:RV} {n:Nat} {w0:R0} {ops:Array Oper} {rest:List Oper} {L:Lm} {M:Mem} {Γ:List As} {K:Lm->Mem->List As->Prop}
theorem RL.nil(h:K L M Γ):RL P n w0 ops [] L M Γ K:=λ_ hR a w ha hw=>hR L M Γ h a w ha hw
theorem RL.pre{L':Lm}{M':Mem}{Γ':List As}(hL:lH L L')(hG:∀w,St w0 M Γ w->St w0 M' Γ' w)(h:RL P n w0 ops rest L' M' Γ' K):RL P n w0 ops rest L M Γ K :=
 λR hR a w ha hw=>h R hR a w (ha.CI hL) (hG w hw)
theorem RL.know{F:Prop}(hF:∀w,St w0 M Γ w->F)(h:F->RL P n w0 ops rest L M Γ K):RL P n w0 ops rest L M Γ K :=
 λR hR a w ha hw=>h (hF w hw) R hR a w ha hw
theorem RL.q{op:Op}{ty:RX}{pos:String}{after:Array Edge}{d:Nat}{v:RK}(hy:Yq P w0 L M Γ ⟨some d,op,ty,pos,after,none⟩ v)(hd:Tw d n=true)
  (h:RL P n w0 ops rest ((d,v)::L) M Γ K):RL P n w0 ops (⟨some d,op,ty,pos,after,none⟩::rest) L M Γ K:=by
 intro R hR a w ha hw;unfold wpList;rw[J2 (by simp[Tt])];refine .inl ?_;unfold WY;rw[hy n a w ha hw];exact h R hR _ _ (ha.put hd) hw
theorem RL.e{op:Op}{ty:RX}{pos:String}{after:Array Edge}{d:Nat}(F:RK->Mem->List As->Prop)
  (hy:∀n a w,Sat n L a->St w0 M Γ w->∃v w' M' Γ',(Sk a.eval ⟨some d,op,ty,pos,after,none⟩).run P w=.ok (.value v) w'/\F v M' Γ'/\St w0 M' Γ' w') (hd:Tw d n=true)
  (h:∀v M' Γ',F v M' Γ'->RL P n w0 ops rest ((d,v)::L) M' Γ' K):RL P n w0 ops (⟨some d,op,ty,pos,after,none⟩::rest) L M Γ K:=by
 intro R hR a w ha hw;unfold wpList;rw[J2 (by simp[Tt])];refine .inl ?_;unfold WY;obtain⟨v,w',M',Γ',hr,hF,hw'⟩:=hy n a w ha hw;rw[hr];exact h v M' Γ' hF R hR _ _ (ha.put hd) hw'
theorem RL.c{op:Op}{ty:RX}{pos:String}{after:Array Edge}{g:Option (Nat×Bool)}{d:Nat}{f:Xa}{args:Array RK}{F:Iw}(hg:Rq ops L ⟨some d,op,ty,pos,after,g⟩ true)
  (hy:∀n a w,Sat n L a->(Sk a.eval ⟨some d,op,ty,pos,after,g⟩).run P w=.ok (.enter f args) w) (hd:Tw d n=true)
  (hc:jr P w0 M Γ f args F)
  (h:∀v M' Γ',F v M' Γ'->RL P n w0 ops rest ((d,v)::L) M' Γ' K):RL P n w0 ops (⟨some d,op,ty,pos,after,g⟩::rest) L M Γ K:=by
 intro R hR a w ha hw;unfold wpList;rw[J2 (hg.spec ha)];refine .inl ?_;unfold WY;rw[hy n a w ha];refine(hc w hw).mono ?_;rintro e w' ⟨v,M',Γ',rfl,hF,hw'⟩;exact h v M' Γ' hF R hR _ _ (ha.put hd) hw'
theorem CW.region{id:Nat}{X:KN}{l:List Oper}(h:RL P n w0 l.toArray l L M Γ (X .normal)):CW P n w0 (.region id l.toArray false) X L M Γ :=
 λa w ha hw=>wp_region_lit (h _ (λL M Γ hX _ _ ha hw=>⟨L,M,Γ,hX,ha,hw⟩) a w ha hw)
end
def endX(w0:R0)(r:Nat)(R:Iw):KN
 |.ret,L,M,Γ|.normal,L,M,Γ=>∃v,lf L r=some v/\pk w0 M Γ (R v)
 |_,_,_,_=>False
def iA:Nat->List RK->Lm
 |_,[]=>[]
 |i,v::vs=>(i,v)::iA (i+1) vs
theorem uW:∀(vs:List RK) (i t:Nat) (v:RK),lf (iA i vs) t=some v->∃k,t=i+k/\vs[k]?=some v
 |[],_,_,_,h=>by simp[iA,lf]at h
 |x::xs,i,t,v,h=>by
  simp only[iA,lf]at h;cases hb:RN t i with
  |true=>rw[hb]at h;simp only[RE]at h;exact⟨0,by simp_all,by simp[h]⟩
  |false=>rw[hb]at h;obtain⟨k,h1,h2⟩:=uW xs (i+1) t v h;exact⟨k+1,Q0,by grind⟩
theorem tJ(n:Nat)(args:List RK)(hn:TX args.length n=true) :
  Sat n (iA 0 args) {tmps:=args.toArray++Array.replicate (n-args.toArray.size) undef,defers:=[]}:=by
 have hn':args.length<=n:=by simp_all
 refine⟨Qc,rfl,λt v h=>?_⟩;obtain⟨k,rfl,hk⟩:=uW args 0 t v h;have:k<args.length:=by
  grind
 simp only[Sz];rw[Array.getElem?_append_left Q0];simpa using hk
theorem enter{P:RV}{f:Xa}{fn:Func}{c:Code}{args:List RK}{w0:R0}{M:Mem}{Γ:List As}{R:Iw}{r n:Nat}
  (hf:P.funcs[f]?=some fn) (hb:fn.body=some c) (hn:fn.ntmps=n) (hr:fn.results=#[.tmp r]) (ha:TX args.length n=true)
  (h:∀w1,St w0 M Γ w1->CW P n w0 c (endX w0 r R) (iA 0 args) M Γ):jr P w0 M Γ f args.toArray R:=by
 intro w hw;refine calls_of_wp hf hb ?_;rw[hn];refine ZC (h w hw _ w (tJ n args ha) hw) ?_;rintro e a w' ⟨L,M1,Γ1,hX,h1,h2⟩;cases e with
 |normal|ret=>obtain⟨v,hv,hi⟩:=hX;obtain⟨M',Γ',hR,hw'⟩:=hi w' h2;refine⟨h1.defers,v,?_,v,M',Γ',rfl,hR,hw'⟩;have:=h1.get r v hv;simp[results,hr,this]
 |_=>exact hX.elim
def jJ(P:RV)(t:RX):Bool:=match P.underlying t with
 |some (.struct _)=>false
 |some (.array ..)=>false
 |none=>false
 |_=>true
def Gl(P:RV)(t:RX)(sz:Nat):Bool:=(match P.underlying t with
 |some (.struct _)=>true
 |some (.array ..)=>true
 |_=>false) && (match P.info? t with
 |some i=>RN i.size sz
 |none=>false)
def mz(P:RV)(t:RX)(sz:Nat):Bool:=match P.info? t with
 |some i=>RN i.size sz
 |none=>false
def sliceB(P:RV)(t e sz:Nat):Bool:=(match P.underlying t with
 |some (.slice e')=>RN e' e
 |_=>false) && mz P e sz
def yN(P:RV)(s i off:Nat):Bool:=match P.underlying s with
 |some (.struct fs)=>match fs[i]? with
  |some f=>RN f.offset off && (match P.info? f.type with
   |some j=>Tw 0 j.size
   |none=>false)
  |none=>false
 |_=>false
def o3(P:RV)(f:Xa):Bool:=match P.funcs[f]? with
 | some fn => !(fn.name == "runtime.NumGoroutine") && fn.body.isSome
 |none=>false
section
variable {P:RV} {w:R0}
theorem xw{t:RX}(h:jJ P t=true):(isAgg t).run P w=.ok false w:=by
 unfold jJ at h;unfold isAgg;cases hu:P.underlying t with
 |none=>simp[hu]at h
 |some d=>simp only[TP,R7 hu,Uy];cases d <;> first|rfl|simp[hu]at h
theorem Eg{t:RX}{sz:Nat}(h:Gl P t sz=true):(isAgg t).run P w=.ok true w/\(U1 t).run P w=.ok sz w:=by
 unfold Gl at h;simp only[RP]at h;obtain⟨h1,h2⟩:=h;constructor
 .unfold isAgg;cases hu:P.underlying t with
  |none=>simp[hu]at h1
  |some d=>simp only[TP,R7 hu,Uy];cases d <;> first|rfl|simp[hu]at h1
 .cases hi:P.info? t with
  |none=>simp[hi]at h2
  |some i=>rw[hi]at h2;have:=RD h2;simp[U1,US,hi,this]
theorem ie{t:RX}{sz:Nat}(h:mz P t sz=true):(U1 t).run P w=.ok sz w:=by
 unfold mz at h;cases hi:P.info? t with
 |none=>simp[hi]at h
 |some i=>rw[hi]at h;have:=RD h;simp[U1,US,hi,this]
theorem dX{t e sz:Nat}(h:sliceB P t e sz=true):P.underlying t=some (.slice e)/\mz P e sz=true:=by
 unfold sliceB at h;simp only[RP]at h
 grind [RD]
theorem GQ{s i off:Nat}(h:yN P s i off=true)(x:Addr):(Zl s (.pointer (some x)) i).run P w=.ok (.pointer (some (x.add off))) w:=by
 unfold yN at h;unfold Zl;cases hu:P.underlying s with
 |none=>simp[hu]at h
 |some d =>
  rw[hu]at h;cases d with
  |struct fs =>
   simp only[]at h;cases hf:fs[i]? with
   |none=>simp[hf]at h
   |some f =>
    rw[hf]at h;simp only[RP]at h;obtain⟨h1,h2⟩:=h;have h1:=RD h1;cases hi:P.info? f.type with
    |none=>simp[hi]at h2
    |some j =>
     rw[hi]at h2;have h2:0<j.size:=by simp_all
     have h3:j.size≠0:=Q0;simp[R7 hu,hf,Tu,fieldPlace,U1,US,hi,h3,h1]
  |_=>simp at h
end
section
variable {P:RV} {w0:R0} {L:Lm} {M:Mem} {Γ:List As} {d:Option Nat} {ty:RX} {pos:String} {af:Array Edge} {g:Option (Nat×Bool)}
namespace Y
theorem move{x:R4}{v:RK}(h:bq L x=some v):Yq P w0 L M Γ ⟨d,.move x,ty,pos,af,g⟩ v:=λn a w ha _=>by simp[Sk,ha.ev h]
theorem assign{x:R4}{v:RK}(h:bq L x=some v):Yq P w0 L M Γ ⟨d,.assign x,ty,pos,af,g⟩ v:=λn a w ha _=>by simp[Sk,ha.ev h]
theorem rE{z:Int}(h:-9223372036854775808<=z/\z<=9223372036854775807):Zm.wrap z=z:=IntWalk.i64_in z h
theorem add{x y:R4}{m k:Int}{t:RX}(hx:bq L x=some (.int .i64 m))(hy:bq L y=some (.int .i64 k))(hb:-9223372036854775808<=m+k/\m+k<=9223372036854775807) :
  Yq P w0 L M Γ ⟨d,.binOp .add t x y t,ty,pos,af,g⟩ (.int .i64 (m+k)):=λn a w ha _=>by
 simp[Sk,ha.ev hx,ha.ev hy,Th,Ub,Vs,rE hb]
theorem sub{x y:R4}{m k:Int}{t:RX}(hx:bq L x=some (.int .i64 m))(hy:bq L y=some (.int .i64 k))(hb:-9223372036854775808<=m-k/\m-k<=9223372036854775807) :
  Yq P w0 L M Γ ⟨d,.binOp .sub t x y t,ty,pos,af,g⟩ (.int .i64 (m-k)):=λn a w ha _=>by
 simp[Sk,ha.ev hx,ha.ev hy,Th,Ub,Vs,rE hb]
theorem mul{x y:R4}{m k:Int}{t:RX}(hx:bq L x=some (.int .i64 m))(hy:bq L y=some (.int .i64 k))(hb:-9223372036854775808<=m*k/\m*k<=9223372036854775807) :
  Yq P w0 L M Γ ⟨d,.binOp .mul t x y t,ty,pos,af,g⟩ (.int .i64 (m*k)):=λn a w ha _=>by
 simp[Sk,ha.ev hx,ha.ev hy,Th,Ub,Vs,rE hb]
theorem quo{x y:R4}{m k:Int}{t:RX}(hx:bq L x=some (.int .i64 m))(hy:bq L y=some (.int .i64 k))(h0:k≠0)(hb:-9223372036854775808<=m.tdiv k/\m.tdiv k<=9223372036854775807) :
  Yq P w0 L M Γ ⟨d,.binOp .quo t x y t,ty,pos,af,g⟩ (.int .i64 (m.tdiv k)):=λn a w ha _=>by
 simp[Sk,ha.ev hx,ha.ev hy,Th,Ub,Ye,h0,rE hb]
theorem rem{x y:R4}{m k:Int}{t:RX}(hx:bq L x=some (.int .i64 m))(hy:bq L y=some (.int .i64 k))(h0:k≠0) :
  Yq P w0 L M Γ ⟨d,.binOp .rem t x y t,ty,pos,af,g⟩ (.int .i64 (m.tmod k)):=λn a w ha _=>by
 simp[Sk,ha.ev hx,ha.ev hy,Th,Ub,Ye,h0]
theorem lss{x y:R4}{m k:Int}{t:RX}(hx:bq L x=some (.int .i64 m))(hy:bq L y=some (.int .i64 k)) :
  Yq P w0 L M Γ ⟨d,.binOp .lss t x y t,ty,pos,af,g⟩ (.bool (decide (m<k))):=λn a w ha _=>by
 simp[Sk,ha.ev hx,ha.ev hy,Th,Ub,UA]
theorem leq{x y:R4}{m k:Int}{t:RX}(hx:bq L x=some (.int .i64 m))(hy:bq L y=some (.int .i64 k)) :
  Yq P w0 L M Γ ⟨d,.binOp .leq t x y t,ty,pos,af,g⟩ (.bool (decide (m<=k))):=λn a w ha _=>by
 simp[Sk,ha.ev hx,ha.ev hy,Th,Ub,UA]
theorem gtr{x y:R4}{m k:Int}{t:RX}(hx:bq L x=some (.int .i64 m))(hy:bq L y=some (.int .i64 k)) :
  Yq P w0 L M Γ ⟨d,.binOp .gtr t x y t,ty,pos,af,g⟩ (.bool (decide (k<m))):=λn a w ha _=>by
 simp[Sk,ha.ev hx,ha.ev hy,Th,Ub,UA]
theorem geq{x y:R4}{m k:Int}{t:RX}(hx:bq L x=some (.int .i64 m))(hy:bq L y=some (.int .i64 k)) :
  Yq P w0 L M Γ ⟨d,.binOp .geq t x y t,ty,pos,af,g⟩ (.bool (decide (k<=m))):=λn a w ha _=>by
 simp[Sk,ha.ev hx,ha.ev hy,Th,Ub,UA]
theorem eql{x y:R4}{m k:Int}{t:RX}(hx:bq L x=some (.int .i64 m))(hy:bq L y=some (.int .i64 k)) :
  Yq P w0 L M Γ ⟨d,.binOp .eql t x y t,ty,pos,af,g⟩ (.bool (decide (m=k))):=λn a w ha _=>by
 simp[Sk,ha.ev hx,ha.ev hy,Th,Ub,UA];by_cases h:m=k <;> simp[h]
theorem neq{x y:R4}{m k:Int}{t:RX}(hx:bq L x=some (.int .i64 m))(hy:bq L y=some (.int .i64 k)) :
  Yq P w0 L M Γ ⟨d,.binOp .neq t x y t,ty,pos,af,g⟩ (.bool (decide (m≠k))):=λn a w ha _=>by
 simp[Sk,ha.ev hx,ha.ev hy,Th,Ub,UA];by_cases h:m=k <;> simp[h]
theorem neg{x:R4}{m:Int}{t:RX}(hx:bq L x=some (.int .i64 m))(hb:-9223372036854775808<=-m/\-m<=9223372036854775807) :
  Yq P w0 L M Γ ⟨d,.unOp .neg t x,ty,pos,af,g⟩ (.int .i64 (-m)):=λn a w ha _=>by
 have hb':-9223372036854775808<=0-m/\0-m<=9223372036854775807:=Q0;simp only[Sk,ha.ev hx,Op.unary,Vs,rE hb'];simp
theorem not{x:R4}{b:Bool}{t:RX}(hx:bq L x=some (.bool b)) :
  Yq P w0 L M Γ ⟨d,.unOp .not t x,ty,pos,af,g⟩ (.bool (!b)):=λn a w ha _=>by
 simp[Sk,ha.ev hx,Op.unary]
theorem extract{x:R4}{vs:List RK}{i:Nat}{v:RK}(hx:bq L x=some (.tuple vs.toArray))(hi:vs[i]?=some v) :
  Yq P w0 L M Γ ⟨d,.extract x i,ty,pos,af,g⟩ v:=λn a w ha _=>by
 simp[Sk,ha.ev hx,Instr.extract,hi]
theorem len{x:R4}{t:RX}{a:Option Addr}{k c:Nat}{e:Nat}(hx:bq L x=some (.slice a k c))(ht:P.underlying t=some (.slice e)) :
  Yq P w0 L M Γ ⟨d,.call ⟨.builtin .len,#[x],#[t]⟩,ty,pos,af,g⟩ (.int .i64 (k:Int)):=λn a w ha _=>by
 simp[Sk,resolve,invoke,UF,Builtin.len_,ha.ev hx,R7 ht,goInt]
theorem min2{x y:R4}{m k:Int}{ts:Array RX}(hx:bq L x=some (.int .i64 m))(hy:bq L y=some (.int .i64 k)) :
  Yq P w0 L M Γ ⟨d,.call ⟨.builtin .min,#[x,y],ts⟩,ty,pos,af,g⟩ (.int .i64 (min m k)):=λn a w ha _=>by
 simp[Sk,resolve,invoke,UF,Builtin.min_,Builtin.min2,ha.ev hx,ha.ev hy];omega
theorem max2{x y:R4}{m k:Int}{ts:Array RX}(hx:bq L x=some (.int .i64 m))(hy:bq L y=some (.int .i64 k)) :
  Yq P w0 L M Γ ⟨d,.call ⟨.builtin .max,#[x,y],ts⟩,ty,pos,af,g⟩ (.int .i64 (max m k)):=λn a w ha _=>by
 simp[Sk,resolve,invoke,UF,Builtin.max_,Builtin.max2,ha.ev hx,ha.ev hy];omega
theorem index{x i:R4}{t e sz:Nat}{a:Option Addr}{l c:Nat}{ik:Tl}{z:Int}(k:Nat)(hx:bq L x=some (.slice a l c))(hi:bq L i=some (.int ik z))(hz:z=(k:Int))(hk:k<l)
  (ht:sliceB P t e sz=true) (hs:∀w,St w0 M Γ w->a.isSome=true) :
  Yq P w0 L M Γ ⟨d,.indexAddr t x i,ty,pos,af,g⟩ (.pointer (some (gd a (k*sz)))):=λn ac w ha hw=>by
 obtain⟨b,rfl⟩:=Ti.1 (hs w hw);subst hz;obtain⟨h1,h2⟩:=dX ht;simp[Sk,ha.ev hx,ha.ev hi,Zn,ZI,R7 h1,ie h2,hk,gd]
theorem field{x:R4}{s i off:Nat}{a:Option Addr}{q:Nat}(hx:bq L x=some (.pointer (some (gd a q))))(hf:yN P s i off=true) :
  Yq P w0 L M Γ ⟨d,.fieldAddr s x i,ty,pos,af,g⟩ (.pointer (some (gd a (q+off)))):=λn ac w ha _=>by
 simp[Sk,ha.ev hx,GQ hf,eI]
theorem load{x:R4}{t:RX}{p:Addr}{v:RK}(hx:bq L x=some (.pointer (some p)))(hf:jJ P t=true)(hc:∀w,St w0 M Γ w->w.cell? p=some v) :
  Yq P w0 L M Γ ⟨d,.load t x,ty,pos,af,g⟩ v:=λn a w ha hw=>by
 simp[Sk,ha.ev hx,Zr,Tu,loadVar,xw hf,hc w hw]
theorem lM{w:R0}{p:Addr}:∀(vs:List RK) (i:Nat) (acc:Array RK),(∀j v,vs[j]?=some v->w.cell? (p.add (i+j))=some v) ->
  (Yt p i vs.length acc).run P w=.ok (acc++vs.toArray) w
 |[],i,acc,_=>by simp[Yt]
 |v::vs,i,acc,h=>by
  have h0:w.cell? (p.add i)=some v:=by simpa using h 0 v rfl
  have ih:=lM (w:=w) (p:=p) vs (i+1) (acc.push v) λj u hj=>by
   have:=h (j+1) u (by grind)
   grind
  simp only[RU,Yt,TP,run_load,h0,Uy,ih];simp
theorem wq{x:R4}{t:RX}{p:Addr}{vs:List RK}(hx:bq L x=some (.pointer (some p)))(hf:Gl P t vs.length=true)(hc:∀w,St w0 M Γ w->∀j v,vs[j]?=some v->w.cell? (p.add j)=some v) :
  Yq P w0 L M Γ ⟨d,.load t x,ty,pos,af,g⟩ (.agg vs.toArray):=λn a w ha hw=>by
 obtain⟨h1,h2⟩:=Eg (P:=P) (w:=w) hf;have h3:=lM (P:=P) (w:=w) (p:=p) vs 0 #[] (by grind);simp[Sk,ha.ev hx,Zr,Tu,loadVar,h1,h2,loadCells,h3]
end Y
end
theorem St.mC{w0 w:R0}{M:Mem}{Γ:List As}(h:St w0 M Γ w){b:Nat}{e:RX}{cs:List RK}(hm:As.own b e cs∈Γ){q:Nat}{v:RK}(hq:cs[q]?=some v) :
  w.cell? (gd (some ⟨b,0,none⟩) q)=some v:=by
 have:=(h.all _ hm).2;rw[cy];simp[SU,this,hq]
end Xe
namespace Xe
open Go
theorem th{M:Mem}{a:Option Addr}{q:Nat}:∀{ds:List D},(∀j e,ds[j]?=some e->∃u,ee M (gd a (q+j))=some u/\Rd M e u) ->
  ∃us,bz M ds us/\∀j v,us[j]?=some v->ee M (gd a (q+j))=some v:=by
 intro ds;induction ds generalizing q with
 |nil=>exact λ_=>⟨[],bz.nil M,λj v h=>by simp at h⟩
 |cons d ds ih =>
  intro h;obtain⟨u,h1,h2⟩:=h 0 d rfl;obtain⟨us,h3,h4⟩:=ih (q:=q+1) λj e hj=>by
   have:=h (j+1) e (by grind)
   grind
  refine⟨u::us,bz.cons h2 h3,λj v hj=>?_⟩;cases j with
  |zero=>simp only[SE,RE]at hj;subst hj;exact h1
  |succ j=>have:=h4 j v (by grind);rwa [show q+1+j=q+(j+1) from by omega]at this
theorem bz.get{M:Mem}{ds:List D}{us:List RK}(h:bz M ds us){q:Nat}{e:D}(hq:ds[q]?=some e):∃u,us[q]?=some u/\Rd M e u:=by
 have hlt:q<us.length:=by
  rw[h.1]
  grind
 exact⟨us[q],by simp[hlt],h.2 q _ _ hq (by simp[hlt])⟩
theorem Rd.one{M:Mem}:∀{d:D} {u:RK},Rd M d u->u.oneCell'=true
 |.v x,u,h=>by grind [Rd]
 |.sl n sz cs,u,h=>by simp only[Rd]at h;obtain⟨a,c,rfl,_⟩:=h;rfl
theorem bz.one{M:Mem}{ds:List D}{us:List RK}(h:bz M ds us):∀u∈us,u.oneCell'=true:=by
 intro u hu;obtain⟨k,hk,rfl⟩:=R8.1 hu;have hk':k<ds.length:=by rw[<-h.1];exact hk
 exact Rd.one (h.2 k ds[k] us[k] (by simp[hk']) (by simp[hk]))
section
variable {P:RV} {w0:R0} {L:Lm} {M:Mem} {Γ:List As} {d:Option Nat} {ty:RX} {pos:String} {af:Array Edge} {g:Option (Nat×Bool)}
namespace Y
end Y
end
section
variable {P:RV} {n:Nat} {w0:R0} {ops:Array Oper} {rest:List Oper} {L:Lm} {M:Mem} {Γ:List As} {K:Lm->Mem->List As->Prop} {ty:RX} {pos:String} {af:Array Edge} {d:Nat}
def kE(P:RV)(e:RX):Option RK:=(P.info? e).bind (·.zero)
theorem je{w:R0}{e:RX}{z:RK}(h:kE P e=some z):(ZT e).run P w=.ok z w:=by
 unfold kE at h;cases hi:P.info? e with
 |none=>simp[hi]at h
 |some i=>simp only[hi,U6]at h;simp[ZT,US,hi,h]
end
section
variable {P:RV} {n:Nat} {w0:R0} {ops:Array Oper} {rest:List Oper} {L:Lm} {M:Mem} {Γ:List As} {K:Lm->Mem->List As->Prop} {ty:RX} {pos:String} {af:Array Edge} {d:Nat}
theorem kS:∀(vs:List RK) (i:Nat) (w:R0) (b:Nat) (e:RX) (cs:List RK) (q:Nat),w.heap[b]?=some (.cells cs.toArray e (0,0))->q+i+vs.length<=cs.length->(∀v∈vs,v.oneCell'=true) ->
  (Xy (gd (some ⟨b,0,none⟩) q) vs i).run P w=.ok () {w with heap:=w.heap.setIfInBounds b (.cells (cs.take (q+i)++vs++cs.drop (q+i+vs.length)).toArray e (0,0))}:=by
 intro vs i w b e cs q h hl h1;rw[cy];have:=run_storeCells_at P b (0+q) e vs i cs.toArray w (by rw[h]) (by grind) h1;rw[this];simp only[World.setRow,Sz]
 congr 2
 have hlt:b<w.heap.size:=(SQ.1 h).1;have hb:w.heap[b]=.cells cs.toArray e (0,0):=(SQ.1 h).2;apply Array.ext
 .simp
 .intro j h3 h4;by_cases hi:b=j
  .subst hi;simp[Yf,hb]
  .rw[Yf,J1 hi,Array.getElem_setIfInBounds_ne (by grind) hi]
end
def FH(L:Lm):List R4->Option (List RK)
 |[]=>some []
 |x::xs=>match bq L x with
  |some v=>match FH L xs with
   |some vs=>some (v::vs)
   |none=>none
  |none=>none
theorem Sat.FH{n:Nat}{L:Lm}{a:Act}(h:Sat n L a):∀{xs:List R4} {vs:List RK},FH L xs=some vs->xs.map a.eval=vs
 |[],vs,hv=>by grind [Xe.FH,RE]
 |x::xs,vs,hv=>by
  simp only[Xe.FH]at hv;cases hx:bq L x with
  |none=>simp[hx]at hv
  |some v =>
   rw[hx]at hv;simp only[]at hv;cases hxs:Xe.FH L xs with
   |none=>simp[hxs]at hv
   |some us=>rw[hxs]at hv;simp only[RE]at hv;rw[<-hv];simp[h.ev hx,h.FH hxs]
section
variable {P:RV} {w0:R0} {L:Lm} {M:Mem} {Γ:List As} {d:Option Nat} {ty:RX} {pos:String} {af:Array Edge} {g:Option (Nat×Bool)}
theorem Ap{w:R0}{f:Xa}(h:o3 P f=true)(args:Array RK):(callFunc f args).run P w=.ok (.enter f args) w:=by
 unfold o3 at h;cases hf:P.funcs[f]? with
 |none=>simp[hf]at h
 |some fn =>
  rw[hf]at h;simp only[RP,Bool.not_eq_true',beq_eq_false_iff_ne]at h;obtain⟨h1,h2⟩:=h;have h3:fn.body≠none:=by grind
  simp[callFunc,hf,h1,h3]
theorem Ic{f:Xa}{xs:List R4}{ts:Array RX}{vs:List RK}(hf:o3 P f=true)(hx:FH L xs=some vs) :
  ∀n a w,Sat n L a->(Sk a.eval ⟨d,.call ⟨.value (.func f),xs.toArray,ts⟩,ty,pos,af,g⟩).run P w=.ok (.enter f vs.toArray) w:=λn a w ha=>by
 have h1:(xs.toArray.map a.eval)=vs.toArray:=by rw[WG,ha.FH hx]
 simp only[Sk,resolve,h1,Xp,Deferred.ofValue];simp[invoke,Ap hf]
end
section
variable {P:RV} {n:Nat} {w0:R0} {ops:Array Oper} {rest:List Oper} {L:Lm} {M:Mem} {Γ:List As} {K:Lm->Mem->List As->Prop} {ty:RX} {pos:String} {af:Array Edge} {d:Nat}
theorem RL.call{g:Option (Nat×Bool)}{f:Xa}{xs:List R4}{ts:Array RX}{vs:List RK}{F:Iw}(hg:Rq ops L ⟨some d,.call ⟨.value (.func f),xs.toArray,ts⟩,ty,pos,af,g⟩ true)(hf:o3 P f=true)(hx:FH L xs=some vs)(hd:Tw d n=true)
  (hc:jr P w0 M Γ f vs.toArray F) (h:∀v M' Γ',F v M' Γ'->RL P n w0 ops rest ((d,v)::L) M' Γ' K) :
  RL P n w0 ops (⟨some d,.call ⟨.value (.func f),xs.toArray,ts⟩,ty,pos,af,g⟩::rest) L M Γ K:=RL.c hg (Ic hf hx) hd hc h
end
end Xe
namespace Xe
open Go
def EndR(w0:R0)(M:Mem)(L0:Lm)(Γ0:List As)(I:Nat->Lm->Mem->List As->Prop)(m:Nat)(L2:Lm)(M2:Mem)(Γ2:List As):Prop :=
 ∃m' Lc,m'<m/\lH L2 (Lc++L0)/\pk w0 M2 Γ2 (λM3 Γ3=>∃Γc,Γ3=Γc++Γ0/\Sub M M3/\I m' Lc M3 Γc)
theorem CW.JS{P:RV}{n:Nat}{w0:R0}{X:KN}{L:Lm}{M:Mem}{Γ:List As}{c:Code}(I:Nat->Lm->Mem->List As->Prop)(m:Nat)(Lc:Lm)(Γc:List As){L0:Lm}{Γ0:List As}
  (hL:L=Lc++L0) (hG:Γ=Γc++Γ0) (h0:I m Lc M Γc)
  (round:∀m Lc M1 Γc,Sub M M1->I m Lc M1 Γc->CW P n w0 c (NM (EndR w0 M L0 Γ0 I m) X) (Lc++L0) M1 (Γc++Γ0)):CW P n w0 (.loop c) X L M Γ:=by
 subst hL hG;refine CW.loop (λm L M1 Γ=>∃Lc Γc,L=Lc++L0/\Γ=Γc++Γ0/\Sub M M1/\I m Lc M1 Γc) m ⟨Lc,Γc,rfl,rfl,Sub.refl M,h0⟩ ?_;rintro m L M1 Γ ⟨Lc,Γc,rfl,rfl,hs,hI⟩;intro a w ha hw;refine ZC (round m Lc M1 Γc hs hI a w ha hw) ?_;rintro e a w ⟨L2,M2,Γ2,hX,h1,h2⟩;cases e with
 |normal=>obtain⟨m',Lc',hlt,hk,ht⟩:=hX;obtain⟨M3,Γ3,⟨Γc',rfl,hs3,hI3⟩,hw3⟩:=ht w h2;exact⟨Lc'++L0,M3,Γc'++Γ0,⟨m',hlt,Lc',Γc',rfl,rfl,hs3,hI3⟩,h1.CI hk,hw3⟩
 |_=>exact⟨L2,M2,Γ2,hX,h1,h2⟩
def Mem.put(M:Mem)(b:Nat)(o:Obj):Mem:=λk=>if k=b then some o else M k
theorem Mem.rX{M:Mem}{b:Nat}{o:Obj}(h:M b=none):Sub M (M.put b o):=λk x hk=>by
 unfold Mem.put
 grind
theorem St.qN{w0 w:R0}{M:Mem}{Γ:List As}{x:As}{b:Nat}{o:Obj}(hw:St w0 M (x::Γ) w)(hx:x.gx=some b)(ho:w.heap[b]?=some o):St w0 (M.put b o) Γ w:=by
 have hb:=As.bk (hw.all x (RG ..)) hx;have hs:Sub M (M.put b o):=Mem.rX hb.2;have hnd:=hw.nodup;simp only[Sr,hx]at hnd;refine⟨hw.os,hw.tape,hw.output,hw.size,λk y hk=>?_,λy hy=>?_,(SG.1 hnd).2⟩
 .unfold Mem.put at hk;by_cases e:k=b
  .grind
  .rw[J1 e]at hk;exact hw.mem k y hk
 .have hy':=hw.all y (RM _ hy);refine As.fz hy' hs λk hk=>⟨rfl,?_⟩;have hne:k≠b:=λe=>by grind
  unfold Mem.put;rw[J1 hne];exact(As.bk hy' hk).2
theorem Nj{M:Mem}{b:Nat}{c:Array RK}{e:RX}{i:Nat}{v:RK}(h:c[i]?=some v):ee (M.put b (.cells c e (0,0))) (gd (some ⟨b,0,none⟩) i)=some v:=by rw[cy];simp[ee,Mem.put,h]
theorem St.I9{w0 w:R0}{M:Mem}{Γ:List As}{u:RK}{e:RX}{sz n:Nat}{us:List RK}{ds:List D}(hw:St w0 M (.acc u e sz n us::Γ) w)(hr:bz M ds us)(hn:n<=lim) :
  ∃M',Sub M M'/\Rd M' (.sl n sz ds) u/\St w0 M' (.rd (.sl n sz ds) u::Γ) w:=by
 have hx:=hw.all _ (RG ..);obtain⟨⟨hl,hh⟩,hM⟩:=hx;rcases hh with⟨rfl,rfl⟩|⟨b,cap,cur,rfl,_,hb,hnc,hcm,hcs,htk⟩
 .have hd:ds=[]:=by have h1:=hr.1;have:us.length=0:=Q0;rw[this]at h1;exact Sq h1.symm
  subst hd;have hrd:Rd M (.sl 0 sz []) (.slice none 0 0):=by simp only[Rd];exact⟨none,0,rfl,Sc _,Sy _,Sy _,Q2,Q2,by simp[po]⟩
  refine⟨M,Sub.refl M,hrd,?_⟩;exact(hw.sub (Uv _ _)).add (x:=.rd (.sl 0 sz []) (.slice none 0 0)) hrd rfl
 .have hMb:M b=none:=hM b rfl;have hs:Sub M (M.put b (.cells cur e (0,0))):=Mem.rX hMb;have hw':=hw.qN (b:=b) rfl hb;have hrd:Rd (M.put b (.cells cur e (0,0))) (.sl n sz ds) (.slice (some ⟨b,0,none⟩) n cap):=by
   simp only[Rd];refine⟨some ⟨b,0,none⟩,cap,rfl,hnc,hcm,hn,by rw[<-hr.1];exact hl,λ_=>rfl,po.mk ds 0 λk d hk=>?_⟩;obtain⟨v,h1,h2⟩:=bz.get hr hk;refine⟨v,?_,Rd.mono hs d v h2⟩;rw[Sz];apply Nj
   grind
  exact⟨_,hs,hrd,hw'.add (x:=.rd _ _) hrd rfl⟩
theorem St.Cg{w0 w:R0}{M:Mem}{Γ:List As}{b n:Nat}{e:RX}{sz:Nat}{us:List RK}(hw:St w0 M (.own b e us::Γ) w)(hl:us.length=n*sz)(hn:n<=UI) :
  St w0 M (.acc (.slice (some ⟨b,0,none⟩) n n) e sz n us::Γ) w:=by
 have hx:=hw.all _ (RG ..);refine⟨hw.os,hw.tape,hw.output,hw.size,hw.mem,λy hy=>?_,by simpa[Sr,As.gx,S1]using hw.nodup⟩;rcases RO.1 hy with rfl|hy
 .refine⟨⟨hl,.inr ⟨b,n,us.toArray,rfl,Sy _,hx.2,Sc _,hn,Q0,?_⟩⟩,λk hk=>?_⟩
  .rw[Su Qc]
  .simp only[S1,RE]at hk;subst hk;exact hx.1
 .exact hw.all y (RM _ hy)
theorem St.tt{w0 w:R0}{M:Mem}{Γ:List As}(hw:St w0 M Γ w)(e sz:Nat):St w0 M (.acc (.slice none 0 0) e sz 0 []::Γ) w :=
 hw.add ⟨World.ownsRow_nil w 0 e sz,λb hb=>by simp[S1]at hb⟩ rfl
structure gy(P:RV)(t e sz bytes:Nat):Prop where
 ut:P.underlying t=some (.slice e)
 info:∃i z,P.info? e=some i/\i.zero=some z/\i.size=sz/\i.bytes=bytes/\z.cells.size=sz
 pos:0<sz
theorem gy.mk'{P:RV}{t e sz bytes:Nat}{z:RK}(h1:P.underlying t=some (.slice e))(h2:(P.info? e).map (λi=>(i.zero,i.size,i.bytes))=some (some z,sz,bytes))(h3:z.cells.size=sz)(h4:Tw 0 sz=true):gy P t e sz bytes:=by
 refine⟨h1,?_,by simp_all⟩;cases hi:P.info? e with
 |none=>simp[hi]at h2
 |some i=>simp only[hi,UT,RE,R6]at h2;exact⟨i,z,rfl,h2.1,h2.2.1,h2.2.2,h3⟩
def gH(w0:R0)(M:Mem)(Γ:List As)(x:RK)(sz m:Nat)(news:List RK):Prop :=
 news.length=m*sz/\(∀u∈news,u.oneCell'=true) /\
 ((∃p c,x=.slice (some p) m c/\∀w,St w0 M Γ w->∀j u,news[j]?=some u->w.cell? (p.add j)=some u)\/(m=0/\∃c,x=.slice none 0 c))
theorem St.grown{w0 w w':R0}{M:Mem}{Γ:List As}{u u':RK}{e:RX}{sz n n':Nat}{us us':List RK}(hw:St w0 M (.acc u e sz n us::Γ) w)
  (hg:w.grownBy w' u.ownBlock) (ho:w'.ownsRow 0 e sz u' n' us') (hb:∀b,u'.ownBlock=some b->u.ownBlock=some b\/w.heap.size<=b):St w0 M (.acc u' e sz n' us'::Γ) w':=by
 have hx:=hw.all _ (RG ..);have hold:∀k,k<w.heap.size->u.ownBlock≠some k->w'.heap[k]?=w.heap[k]?:=λk hk hne=>hg.block k hk (λe=>hne e.symm);have hnd:=hw.nodup;have hrest:∀y∈Γ,∀k,y.gx=some k->u.ownBlock≠some k:=λy hy k hk e=>by
  grind [As.gx]
 refine⟨hg.os.trans hw.os,hg.tape.trans hw.tape,hg.output.trans hw.output,TQ hw.size hg.size,λk o hk=>?_,λy hy=>?_,?_⟩
 .rw[hold k (hw.lt hk) (λe=>by rw[hx.2 k e]at hk;cases hk)];exact hw.mem k o hk
 .rcases RO.1 hy with rfl|hm
  .refine⟨ho,λb hbb=>?_⟩;rcases hb b hbb with h|h
   .exact hx.2 b h
   .cases hM:M b with
    |none=>rfl
    |some o=>have:=hw.lt hM;omega
  .have hy':=hw.all y (RM _ hm);refine As.fz hy' (Sub.refl M) λk hk=>⟨hold k (As.bk hy' hk).1 (hrest y hm k hk),(As.bk hy' hk).2⟩
 .simp only[Sr,As.gx]at hnd ⊢;cases hu':u'.ownBlock with
  |none =>
   cases hu:u.ownBlock with
   |none=>simpa[hu]using hnd
   |some k=>rw[hu]at hnd;exact(SG.1 hnd).2
  |some b =>
   have hnd2:(List.filterMap As.gx Γ).Nodup:=by
    grind
   refine SG.2 ⟨λhm=>?_,hnd2⟩;obtain⟨y,hy,hk⟩:=Uq.1 hm;rcases hb b hu' with h|h
   .exact hrest y hy b hk h
   .have:=(As.bk (hw.all y (RM _ hy)) hk).1;omega
theorem lz{P:RV}{w0 w:R0}{M:Mem}{Γ:List As}{t ty e sz bytes n m:Nat}{u x:RK}{us news:List RK}(hE:gy P t e sz bytes)
  (hw:St w0 M (.acc u e sz n us::Γ) w) (hs:gH w0 M (.acc u e sz n us::Γ) x sz m news) (hb:(n+m)*bytes<=140737488355328) (hm:n+m<=lim) :
  ∃u' w',(S7 #[t,t] ty #[u,x]).run P w=.ok u' w'/\St w0 M (.acc u' e sz (n+m) (us++news)::Γ) w':=by
 obtain⟨ht,⟨i,z,hi,hz,hsize,hby,hzs⟩,hpos⟩:=hE;obtain⟨hl,h1,hsrc⟩:=hs;have hx:=hw.all _ (RG ..);have h63:n+m<=UI:=by grind [lim,UI]
 rcases hsrc with⟨p,c,rfl,hnews⟩|⟨rfl,c,rfl⟩
 .obtain⟨v',w',hr,ho,hg,_⟩:=run_append_own (P:=P) w 0 t ty e i z sz bytes ht hi hz hsize hby hzs hpos u n us hx.1 p m c news hl (hnews w hw) h1 h63 hb (Sy _);refine⟨v',w',hr,hw.grown hg ho λb hbb=>?_⟩;subst hsize;obtain⟨hlen,hh⟩:=hx.1;rcases hh with⟨rfl,rfl⟩|⟨b0,cap,cur,rfl,_,hb0,hnc,hcm,hcs,htk⟩
  .rcases Nat.eq_zero_or_pos m with rfl|hmp
   .have e0:news=[]:=Sq Q0;subst e0;have hr2:(S7 #[t,t] ty #[.slice none 0 0,.slice (some p) 0 c]).run P w=.ok (.slice none 0 0) w:=by have hf:=run_firstCells_some (P:=P) w i.size 0 p 0 c [] Q2 Q2;simp[S7,R7 ht,U1,US,hi,Uc,hf]
    rw[hr2]at hr;cases hr;simp[S1]at hbb
   .have hr2:=run_append_nil (P:=P) w t ty e i z ht hi hz p m c news hl (hnews w hw) hmp (by grind [lim]) (by grind);rw[hr2]at hr;cases hr;simp only[S1,RE]at hbb;right;omega
  .by_cases hroom:n+m<=cap
   .have hr2:=run_append_room (P:=P) w t ty e i ht hi b0 n cap cur hb0 p m c news hl (hnews w hw) h1 hroom (by rw[hl,hcs,<-SK];exact SI _ hroom);rw[hr2]at hr;cases hr;exact .inl hbb
   .have holds:∀j v,us[j]?=some v->w.cell? ((⟨b0,0,none⟩:Addr).add j)=some v:=hx.1.cells rfl;have hr2:=run_append_grow (P:=P) w t ty e i z ht hi hz ⟨b0,0,none⟩ n cap us hlen holds p m c news hl (hnews w hw) Q0 (by grind [lim])
     (by rw[hby];exact growslice_fits Q0 hb)
    rw[hr2]at hr;cases hr;simp only[S1,RE]at hbb;right;omega
 .have e0:news=[]:=Sq Q0;subst e0;refine⟨u,w,?_,by grind⟩;obtain⟨hlen,hh⟩:=hx.1;rcases hh with⟨rfl,rfl⟩|⟨b0,cap,cur,rfl,_,hb0,hnc,hcm,hcs,htk⟩
  .simp[S7,R7 ht,U1,US,hi,Uc,TL]
  .simp[S7,R7 ht,U1,US,hi,Uc,TL,hnc,Xy]
def eh(cs:List RK)(off:Nat)(vs:List RK):List RK:=cs.take off++vs++cs.drop (off+vs.length)
theorem zF{cs:List RK}{off:Nat}{vs:List RK}(h:off+vs.length<=cs.length):(eh cs off vs).length=cs.length:=by simp[eh];omega
theorem vk:∀(l:List RK) (off k:Nat) (cs:List RK),off+k+l.length<=cs.length ->
  (l.zipIdx k).foldl (fun(c:Array RK) (x:RK×Nat)=>c.setIfInBounds (off+x.2) x.1) cs.toArray=(eh cs (off+k) l).toArray
 |[],off,k,cs,_=>by simp[eh]
 |v::l,off,k,cs,h=>by
  have h':off+(k+1)+l.length<=cs.length:=by grind
  simp only[List.zipIdx_cons,List.foldl_cons,List.setIfInBounds_toArray];rw[vk l off (k+1) (cs.set (off+k) v) (by grind)]
  congr 1
  simp only[eh];have hk:off+k<cs.length:=Q0;rw[<-S8,RJ (by grind),List.take_set_of_le Q0];simp only[T9,RU,R9,SA,Sv,S8]
  grind [Zs]
def jK(bm:Nat->Option (Nat×Nat)):List RK->List (Nat×List RK)->Option (List RK)
 |cells,[]=>some cells
 |cells,(i,vs)::rest=>match bm i with
  |none=>none
  |some (off,size)=>if vs.length=size/\off+size<=cells.length then jK bm (eh cells off vs) rest else none
def fN:RK->List RK
 |.agg cs=>cs.toList
 |v=>[v]
theorem lR(v:RK):v.cells=(fN v).toArray:=by cases v <;> simp[Xt,fN]
theorem sW(bm:Nat->Option (Nat×Nat)):∀(parts:List (Nat×RK)) (cells out:List RK),jK bm cells (parts.map λp=>(p.1,fN p.2))=some out->Yu bm cells.toArray parts=some out.toArray
 |[],cells,out,h=>by grind [jK,RE,Yu]
 |(i,v)::rest,cells,out,h=>by
  simp only[Sb,jK]at h;unfold Yu;cases hp:bm i with
  |none=>simp[hp]at h
  |some os =>
   obtain⟨off,size⟩:=os;rw[hp]at h;simp only[]at h ⊢;split at h
   .rename_i hc;obtain⟨h1,h2⟩:=hc;have hsz:v.cells.size=size:=by grind [lR]
    rw[J1 (by grind)];rw[lR v,<-Array.foldl_toList,Array.toList_zipIdx];have:=vk (fN v) off 0 cells Q0;simp only[S2]at this;rw[this];exact sW bm rest _ _ h
   .cases h
def Cf(L:Lm):List (Nat×R4)->Option (List (Nat×RK))
 |[]=>some []
 |(i,x)::r=>match bq L x with
  |some v=>match Cf L r with
   |some vs=>some ((i,v)::vs)
   |none=>none
  |none=>none
theorem Sat.Cf{n:Nat}{L:Lm}{a:Act}(h:Sat n L a):∀{xs:List (Nat×R4)} {vs:List (Nat×RK)},Cf L xs=some vs->xs.map (λp=>(p.1,a.eval p.2))=vs
 |[],vs,hv=>by grind [Xe.Cf,RE]
 |(i,x)::xs,vs,hv=>by
  simp only[Xe.Cf]at hv;cases hx:bq L x with
  |none=>simp[hx]at hv
  |some v =>
   rw[hx]at hv;simp only[]at hv;cases hxs:Xe.Cf L xs with
   |none=>simp[hxs]at hv
   |some us=>rw[hxs]at hv;simp only[RE]at hv;rw[<-hv];simp[h.ev hx,h.Cf hxs]
def Ca(P:RV)(t:RX):Option (List (Nat×Nat)):=match P.underlying t with
 |some (.struct fs)=>fs.toList.mapM λf=>match P.info? f.type with
  |some i=>some (f.offset,i.size)
  |none=>none
 |_=>none
theorem xu{P:RV}{w:R0}:∀(fs:List Yg) (pl:List (Nat×Nat)),(fs.mapM λf=>match P.info? f.type with
  |some i=>some (f.offset,i.size)
  |none=>none)=some pl->(fs.mapM λf=>Prod.mk f.offset <$> U1 f.type:Sem (List (Nat×Nat))).run P w=.ok pl w
 |[],pl,h=>by simp_all
 |f::fs,pl,h=>by
  simp only[List.mapM_cons]at h ⊢;cases hi:P.info? f.type with
  |none=>simp[hi]at h
  |some i =>
   simp only[hi,Option.bind_eq_bind,U6]at h
   cases hr:(fs.mapM λf=>match P.info? f.type with
    |some i=>some (f.offset,i.size)
    |none=>none) with
   |none=>rw[hr]at h;simp at h
   |some pl' =>
    rw[hr]at h;simp only[U6,Option.pure_def,RE]at h;subst h;have ih:=xu (P:=P) (w:=w) fs pl' hr;have hs:(U1 f.type).run P w=.ok i.size w:=by simp[U1,US,hi]
    simp only[TP,Sem.run_map,hs,Uy,ih,ZU]
section
variable {P:RV} {w0:R0} {L:Lm} {M:Mem} {Γ:List As} {d:Option Nat} {ty:RX} {pos:String} {af:Array Edge} {g:Option (Nat×Bool)}
namespace Y
theorem build{t:RX}{parts:List (Nat×R4)}{vs:List (Nat×RK)}{zs:List RK}{pl:List (Nat×Nat)}(out:List RK)(hp:Cf L parts=some vs)(hz:kE P t=some (.agg zs.toArray))(hpl:Ca P t=some pl)
  (hf:jK (pl[·]?) zs (vs.map λp=>(p.1,fN p.2))=some out):Yq P w0 L M Γ ⟨d,.build t parts.toArray,ty,pos,af,g⟩ (.agg out.toArray):=λn a w ha _=>by
 unfold Ca at hpl;cases hu:P.underlying t with
 |none=>simp[hu]at hpl
 |some dd =>
  rw[hu]at hpl;cases dd with
  |struct fs =>
   simp only[]at hpl;have h1:=xu (P:=P) (w:=w) fs.toList pl hpl;have h2:=sW (pl[·]?) vs zs out hf;have h3:(parts.toArray.map λx=>(x.1,a.eval x.2))=vs.toArray:=by rw[WG,ha.Cf hp]
   have h4:(fs.mapM λf=>(do pure (f.offset,<-U1 f.type):Sem (Nat×Nat))).run P w=.ok pl.toArray w:=by rw[Array.mapM_eq_mapM_toList];simp[h1]
   simp only[Sk,h3];simp only[Instr.build,TP,je hz,Uy,R7 hu,Xt,h4,List.getElem?_toArray,h2,ZU]
  |_=>simp at hpl
end Y
end
section
variable {P:RV} {n:Nat} {w0:R0} {ops:Array Oper} {rest:List Oper} {L:Lm} {M:Mem} {Γ:List As} {K:Lm->Mem->List As->Prop} {ty:RX} {pos:String} {af:Array Edge} {d:Nat}
theorem ou{w:R0}{t e sz bytes len:Nat}{vs:List (Nat×RK)}{out:List RK}(hE:gy P t e sz bytes)(hlen:TX (len*sz) 16777216=true)
  (hf:∀zs:List RK,zs.length=len*sz->jK (λi=>some (i*sz,sz)) zs (vs.map λp=>(p.1,fN p.2))=some out) :
  (Xr t len vs.toArray).run P w=.ok (.slice (some ⟨w.heap.size,0,none⟩) len len) {w with heap:=w.heap.push (.cells out.toArray e (0,0))}:=by
 obtain⟨ht,⟨i,z,hi,hz,hsize,hby,hzs⟩,hpos⟩:=hE;have hl:¬(16777216<len*sz):=by simp_all
 by_cases h0:len*sz=0
 .have h1:=sW (λi=>some (i*sz,sz)) vs [] out (hf [] (by simp[h0]));have e0:Array.map (λ_=>(default:RK)) (ZD 0)=#[]:=Q2;simp[Xr,R7 ht,U1,US,hi,hsize,h0,h1,e0,newRow]
 .have h1:=sW (λi=>some (i*sz,sz)) vs ((ZD (len*sz)).map (z.cells[· % z.cells.size]!)).toList out (hf _ Q2);simp only[Array.toArray_toList]at h1;simp[Xr,R7 ht,U1,US,ZT,hi,hz,hsize,h0,hl,h1,newRow]
inductive vO(x:As):List As->List As->Prop
 |here (Γ:List As):vO x (x::Γ) Γ
 |there (y:As) {Γ R:List As}:vO x Γ R->vO x (y::Γ) (y::R)
theorem vO.fD{x:As}{Γ R:List As}(h:vO x Γ R):Y5 Γ (x::R):=by
 induction h with
 |here Γ=>exact .refl _
 |there y _ ih=>exact(ih.cons y).trans (.swap x y _)
theorem src_rd{w:R0}{n sz:Nat}{ds:List D}{a:Option Addr}{l c:Nat}(hw:St w0 M Γ w)(hm:As.rd (.sl n sz ds) (.slice a l c)∈Γ) :
  ∃news,bz M ds news/\gH w0 M Γ (.slice a l c) sz l news:=by
 have hr:=hw.rd hm;simp only[Rd]at hr;obtain⟨a',c',h1,h2,h3,h4,h5,h6,h7⟩:=hr;simp only[Sm]at h1;obtain⟨rfl,rfl,rfl⟩:=h1;obtain⟨us,h8,h9⟩:=th (M:=M) (a:=a) (q:=0) (ds:=ds) λj e hj=>by grind [po.get]
 refine⟨us,h8,by rw[h8.1];exact h5,h8.one,?_⟩;cases a with
 |none =>
  have h0:¬0<l:=λh=>by grind
  obtain rfl:l=0:=Q0;exact .inr ⟨rfl,c,rfl⟩
 |some p=>exact .inl ⟨p,c,rfl,λw hw j u hj=>hw.cell (by have:=h9 j u hj;rw[Sz]at this;exact this)⟩
theorem jo{w:R0}{u:RK}{e:RX}{sz n:Nat}{us:List RK}(h:As.ok M w (.acc u e sz n us)):∃a c,u=.slice a n c/\n<=c:=by
 obtain⟨⟨_,hh⟩,_⟩:=h
 grind
theorem RL.append{t e sz bytes k m:Nat}{x y:R4}{u xv:RK}{us news:List RK}{R:List As}(hE:gy P t e sz bytes)(hx:bq L x=some u)(hy:bq L y=some xv)(hp:vO (.acc u e sz k us) Γ R)
  (hs:gH w0 M Γ xv sz m news) (hb:(k+m)*bytes<=140737488355328) (hm:k+m<=lim) (hd:Tw d n=true)
  (h:∀a' c',k+m<=c'->RL P n w0 ops rest ((d,.slice a' (k+m) c')::L) M (.acc (.slice a' (k+m) c') e sz (k+m) (us++news)::R) K):RL P n w0 ops (⟨some d,.call ⟨.builtin .append,#[x,y],#[t,t]⟩,ty,pos,af,none⟩::rest) L M Γ K:=by
 refine RL.e (λv M' Γ'=>M'=M/\Γ'=.acc v e sz (k+m) (us++news)::R) (λn a w ha hw=>?_) hd ?_
 .obtain⟨hl,h1,hsrc⟩:=hs;have hs':gH w0 M (.acc u e sz k us::R) xv sz m news:=⟨hl,h1,hsrc.imp (fun⟨p,c,h1,h2⟩=>⟨p,c,h1,λw hw=>h2 w (hw.fD hp.fD.symm)⟩) id⟩;obtain⟨u',w',hr,hw'⟩:=lz (P:=P) (ty:=ty) hE (hw.fD hp.fD) hs' hb hm;refine⟨u',w',M,_,?_,⟨rfl,rfl⟩,hw'⟩;simp[Sk,resolve,invoke,UF,ha.ev hx,ha.ev hy,hr]
 .rintro v M' Γ' ⟨rfl,rfl⟩;refine RL.know (F:=∃a' c',v=.slice a' (k+m) c'/\k+m<=c') (λw hw=>jo (hw.all _ (RG ..))) ?_;rintro⟨a',c',rfl,hc'⟩;exact h a' c' hc'
theorem RL.Gg{t e sz bytes k m:Nat}{x y:R4}{u:RK}{a:Option Addr}{c:Nat}{us:List RK}{ds:List D}{R:List As}(hE:gy P t e sz bytes)(hx:bq L x=some u)(hy:bq L y=some (.slice a m c))(hp:vO (.acc u e sz k us) Γ R)
  (hs:As.rd (.sl m sz ds) (.slice a m c)∈Γ) (hb:(k+m)*bytes<=140737488355328) (hm:k+m<=lim) (hd:Tw d n=true)
  (h:∀a' c' news,k+m<=c'->bz M ds news->RL P n w0 ops rest ((d,.slice a' (k+m) c')::L) M (.acc (.slice a' (k+m) c') e sz (k+m) (us++news)::R) K):RL P n w0 ops (⟨some d,.call ⟨.builtin .append,#[x,y],#[t,t]⟩,ty,pos,af,none⟩::rest) L M Γ K:=by
 refine RL.know (F:=∃news,bz M ds news/\gH w0 M Γ (.slice a m c) sz m news) (λw hw=>src_rd hw hs) ?_;rintro⟨news,hr,hs'⟩;exact RL.append hE hx hy hp hs' hb hm hd λa' c' hc'=>h a' c' news hc' hr
end
theorem pk.drop{w0:R0}{M:Mem}{Γ Γ':List As}{F:Mem->List As->Prop}(h:F M Γ')(hs:Xj Γ' Γ):pk w0 M Γ F:=pk.of h λ_ hw=>hw.sub hs
theorem CW.addRd{P:RV}{n:Nat}{w0:R0}{c:Code}{X:KN}{L:Lm}{M:Mem}{Γ:List As}{e:D}{u:RK}(hr:Rd M e u)(h:CW P n w0 c X L M (.rd e u::Γ)):CW P n w0 c X L M Γ :=
 h.pre (lH.refl L) λ_ hw=>hw.add (x:=.rd e u) hr rfl
theorem Rd.slice{M:Mem}{n sz:Nat}{cs:List D}{u:RK}(h:Rd M (.sl n sz cs) u):∃a c,u=.slice a n c/\n<=c/\n<=140737488355328/\cs.length=n*sz:=by simp only[Rd]at h;obtain⟨a,c,h1,h2,_,h4,h5,_⟩:=h;exact⟨a,c,h1,h2,h4,h5⟩
theorem CW.Rp{P:RV}{n:Nat}{w0:R0}{c:Code}{X:KN}{L:Lm}{M:Mem}{Γ:List As}(e sz:Nat)(h:CW P n w0 c X L M (.acc (.slice none 0 0) e sz 0 []::Γ)):CW P n w0 c X L M Γ:=h.pre (lH.refl L) λ_ hw=>hw.tt e sz
theorem CW.front{P:RV}{n:Nat}{w0:R0}{c:Code}{X:KN}{L:Lm}{M:Mem}{Γ R:List As}{x:As}(hp:vO x Γ R)(h:CW P n w0 c X L M (x::R)):CW P n w0 c X L M Γ :=
 h.pre (lH.refl L) λ_ hw=>hw.fD hp.fD
end Xe
namespace Xe
open Go
def jP(L:Lm):Option R4->Nat->Nat->Prop
 |none,d,k=>k=d
 |some x,_,k=>∃z,bq L x=some (.int .i64 z)/\z=(k:Int)
theorem bl{P:RV}{w:R0}{z:Int}{y k:Nat}{c:BoundsCode}(h:z=(k:Int))(hk:k<=y):(YS (.int .i64 z) y c).run P w=.ok k w:=by subst h;simp[YS,ZI,hk]
def lG(a:Option Addr)(l h m sz:Nat):RK:=.slice (if m=l then a else a.map (·.add (l*sz))) (h-l) (m-l)
theorem Y.slice{P:RV}{w0:R0}{L:Lm}{M:Mem}{Γ:List As}{d:Option Nat}{ty:RX}{pos:String}{af:Array Edge}{g:Option (Nat×Bool)}{x:R4}{lo hi mx:Option R4}{t e sz:Nat}{a:Option Addr}{n c:Nat}(l h m:Nat)
  (hx:bq L x=some (.slice a n c)) (hlo:jP L lo 0 l) (hhi:jP L hi n h) (hmx:jP L mx c m) (hb:hi.isSome=true\/mx.isSome=false) (h1:l<=h) (h2:h<=m) (h3:m<=c) (ht:sliceB P t e sz=true) :
  Yq P w0 L M Γ ⟨d,.slice t x lo hi mx,ty,pos,af,g⟩ (lG a l h m sz):=λk ac w ha _=>by
 obtain⟨e1,e2⟩:=dX ht;have r3:=ie (P:=P) (w:=w) e2;have key:(Uh t (.slice a n c) (lo.map ac.eval) (hi.map ac.eval) (mx.map ac.eval)).run P w=.ok (lG a l h m sz) w:=by
  have hl:lo=none/\l=0\/∃y z,lo=some y/\ac.eval y=.int .i64 z/\z=(l:Int):=by
   cases lo with
   |none=>exact .inl ⟨rfl,hlo⟩
   |some y=>obtain⟨z,hz,e⟩:=hlo;exact .inr ⟨y,z,rfl,ha.ev hz,e⟩
  cases mx with
  |none =>
   simp only[jP]at hmx;subst hmx;cases hi with
   |none =>
    simp only[jP]at hhi;subst hhi;rcases hl with⟨rfl,rfl⟩|⟨y,z,rfl,hy,hz⟩
    .simp[Uh,R7 e1,SZ,r3,lG]
    .simp[Uh,R7 e1,SZ,hy,r3,bl hz h1,lG]
   |some y =>
    obtain⟨z,hz,e⟩:=hhi;rcases hl with⟨rfl,rfl⟩|⟨y',z',rfl,hy,hz'⟩
    .simp[Uh,R7 e1,SZ,ha.ev hz,r3,bl e h2,lG]
    .simp[Uh,R7 e1,SZ,ha.ev hz,hy,r3,bl e h2,bl hz' h1,lG]
  |some u =>
   obtain⟨z',hz',e'⟩:=hmx;cases hi with
   |none=>simp at hb
   |some y =>
    obtain⟨z,hz,e⟩:=hhi;rcases hl with⟨rfl,rfl⟩|⟨y',z'',rfl,hy,hz''⟩
    .simp[Uh,R7 e1,SZ,ha.ev hz,ha.ev hz',r3,bl e h2,bl e' h3,lG]
    .simp[Uh,R7 e1,SZ,ha.ev hz,ha.ev hz',hy,r3,bl e h2,bl e' h3,bl hz'' h1,lG]
 simp[Sk,ha.ev hx,Instr.sliceAt,R7 e1,key]
theorem Rd.cut{M:Mem}{n sz:Nat}{cs:List D}{a:Option Addr}{c:Nat}(hr:Rd M (.sl n sz cs) (.slice a n c))(l h m:Nat)(h1:l<=h)(h2:h<=m)(h3:m<=c)(h4:h<=n) :
  Rd M (.sl (h-l) sz ((cs.drop (l*sz)).take ((h-l)*sz))) (lG a l h m sz):=by
 simp only[Rd]at hr ⊢;obtain⟨a',cap,e,k1,k2,k3,k4,k5,k6⟩:=hr;simp only[Sm]at e;obtain⟨rfl,_,rfl⟩:=e;refine⟨_,_,rfl,Q0,Q0,Q0,?_,?_,?_⟩
 .have:=SI sz h4;simp only[Sn,S3,k4,Nat.sub_mul];omega
 .intro hp;have:=k5 Q0;by_cases hm:m=l
  .omega
  .rw[J1 hm];simpa using this
 .by_cases hm:m=l
  .have:h-l=0:=Q0;simp[this,po]
  .rw[J1 hm];refine po.mk _ 0 λk d hk=>?_;have hk':cs[l*sz+k]?=some d:=by
    grind
   have hk2:k<(h-l)*sz:=by
    grind
   obtain⟨u,q1,q2⟩:=po.get cs 0 k6 _ d hk';have hp:0<h-l:=by
    grind
   have:=k5 Q0;obtain⟨b,rfl⟩:=Ti.1 this;refine⟨u,?_,q2⟩;rw[Sz]at q1 ⊢;have:gd ((some b).map (·.add (l*sz))) k=gd (some b) (l*sz+k):=by have h0:b.add (l*sz)=gd (some b) (l*sz):=rfl;show(b.add (l*sz)).add k=_;rw[h0,eI]
   rw[this];exact q1
theorem St.OL{w0 w:R0}{M:Mem}{Γ:List As}{b n cap:Nat}{e:RX}{sz:Nat}{cs us:List RK}(hw:St w0 M (.own b e cs::Γ) w)(hl:us.length=n*sz)(hc:cs.length=cap*sz)(ht:cs.take (n*sz)=us)(hn:n<=cap)(hm:cap<=UI) :
  St w0 M (.acc (.slice (some ⟨b,0,none⟩) n cap) e sz n us::Γ) w:=by
 have hx:=hw.all _ (RG ..);refine⟨hw.os,hw.tape,hw.output,hw.size,hw.mem,λy hy=>?_,by simpa[Sr,As.gx,S1]using hw.nodup⟩;rcases RO.1 hy with rfl|hy
 .refine⟨⟨hl,.inr ⟨b,cap,cs.toArray,rfl,Sy _,hx.2,hn,hm,Q0,Q0⟩⟩,λk hk=>?_⟩;simp only[S1,RE]at hk;subst hk;exact hx.1
 .exact hw.all y (RM _ hy)
def Mem.diff(M' M:Mem):Mem:=λb=>if(M b).isSome then none else M' b
theorem QS{M:Mem}{b:Nat}{c:Array RK}{e:RX}{i:Nat}{v:RK}(hM:M b=some (.cells c e (0,0)))(h:c[i]?=some v):ee M (gd (some ⟨b,0,none⟩) i)=some v:=by rw[cy];simp[ee,hM,h]
theorem Rd.ofBlock{M:Mem}{b n cap:Nat}{e:RX}{sz:Nat}{cur:Array RK}{us:List RK}{ds:List D}(hM:M b=some (.cells cur e (0,0)))(hr:bz M ds us)(hl:us.length=n*sz)(hn:n<=lim)(hc:n<=cap)(hm:cap<=UI)(ht:cur.toList.take (n*sz)=us) :
  Rd M (.sl n sz ds) (.slice (some ⟨b,0,none⟩) n cap):=by
 simp only[Rd];refine⟨some ⟨b,0,none⟩,cap,rfl,hc,hm,hn,by rw[<-hr.1];exact hl,λ_=>rfl,po.mk ds 0 λk d hk=>?_⟩;obtain⟨v,h1,h2⟩:=bz.get hr hk;refine⟨v,?_,h2⟩;rw[Sz];apply QS hM;have hk':k<n*sz:=by
  grind
 rw[<-ht,UR hk']at h1;simpa using h1
def Mem.nV(M:Mem)(bs:List Nat):Mem:=λb=>if b∈bs then none else M b
def As.owns:As->Prop
 |.own ..=>True
 |.acc ..=>True
 |_=>False
structure Rw(w0:R0)(M:Mem)(Γs Γ:List As)(M':Mem):Prop where
 sub:Sub M M'
 wit:∃w,St w0 M (Γs++Γ) w/\∀x∈Γs,∀b,x.gx=some b->M' b=w.heap[b]?
 only:∀b o,M' b=some o->M b=some o\/b∈Γs.filterMap As.gx
theorem St.E4{w0 w:R0}{M:Mem}{Γ:List As}:∀(Γs:List As),(∀x∈Γs,x.owns)->St w0 M (Γs++Γ) w->∃M',Rw w0 M Γs Γ M'/\St w0 M' Γ w
 |[],_,h=>⟨M,⟨Sub.refl M,⟨w,h,λx hx=>by simp at hx⟩,λb o hb=>.inl hb⟩,h⟩
 |x::Γs,ho,h=>by
  have hp:St w0 M (Γs++(x::Γ)) w:=h.fD (List.perm_middle.symm);obtain⟨M1,hl,h1⟩:=St.E4 Γs (λy hy=>ho y (RM _ hy)) hp;have hx:=h1.all x (RG ..);cases hb:x.gx with
  |none =>
   refine⟨M1,⟨hl.sub,⟨w,h,λy hy b hyb=>?_⟩,λb o hbo=>?_⟩,h1.sub (Uv _ _)⟩
   .rcases RO.1 hy with rfl|hy
    .rw[hb]at hyb;cases hyb
    .have hblk:b∈Γs.filterMap As.gx:=wh hy hyb;have:=h1.mem;cases hM:M1 b with
     |some o=>exact(h1.mem b o hM).symm
     |none=>obtain⟨w',hw',hw2⟩:=hl.wit;have e1:=hw2 y hy b hyb;have e2:=(As.bk (hw'.all y (List.mem_append_left _ hy)) hyb).1;rw[hM]at e1;exact J3 e1.symm (by grind)
   .rcases hl.only b o hbo with h2|h2
    .exact .inl h2
    .exact .inr (by grind)
  |some b =>
   have hlt:=(As.bk hx hb);obtain⟨o,ho'⟩:∃o,w.heap[b]?=some o:=⟨_,XR hlt.1⟩;have h2:=h1.qN (b:=b) (o:=o) hb ho';refine⟨M1.put b o,⟨hl.sub.trans (Mem.rX hlt.2),⟨w,h,λy hy c hyc=>?_⟩,λc o' hc=>?_⟩,h2⟩
   .rcases RO.1 hy with rfl|hy
    .rw[hb]at hyc;cases hyc;simp[Mem.put,ho']
    .obtain⟨w',hw',hw2⟩:=hl.wit;have e1:=hw2 y hy c hyc;have e2:=(As.bk (hw'.all y (List.mem_append_left _ hy)) hyc).1;cases hM:M1 c with
     |none=>rw[hM]at e1;exact J3 e1.symm (by grind)
     |some o2=>have:=Mem.rX hlt.2 (o:=o) c o2 hM;rw[this];exact(h1.mem c o2 hM).symm
   .unfold Mem.put at hc;by_cases e:c=b
    .right;simp[hb,e]
    .rw[J1 e]at hc;rcases hl.only c o' hc with h3|h3
     .exact .inl h3
     .right;simp only[Sr,hb];exact RM _ h3
theorem Rw.back{w0 w':R0}{M M1 M2:Mem}{Γs Γ:List As}(h:Rw w0 M Γs Γ M1)(_ho:∀x∈Γs,x.owns)(hs:Sub M1 M2)(hw:St w0 M2 Γ w') :
  Sub M (M2.nV (Γs.filterMap As.gx))/\Sub (M2.diff M1) (M2.nV (Γs.filterMap As.gx))/\St w0 (M2.nV (Γs.filterMap As.gx)) (Γs++Γ) w':=by
 obtain⟨w,hw1,hl⟩:=h.wit;have hMs:∀x∈Γs,∀b,x.gx=some b->∃o,M1 b=some o/\w.heap[b]?=some o:=λx hx b hb=>by
  have e1:=hl x hx b hb;have e2:=(As.bk (hw1.all x (List.mem_append_left _ hx)) hb).1
  grind
 have hsubM:Sub M (M2.nV (Γs.filterMap As.gx)):=λb o hb=>by
  unfold Mem.nV;rw[J1 λhm=>?_]
  .exact hs b o (h.sub b o hb)
  .obtain⟨x,hx,hxb⟩:=Uq.1 hm;have:=(As.bk (hw1.all x (List.mem_append_left _ hx)) hxb).2
   grind
 have hle:Sub (M2.nV (Γs.filterMap As.gx)) M2:=λb o hb=>by
  grind [Mem.nV]
 refine⟨hsubM,λb o hb=>?_,hw.os,hw.tape,hw.output,hw.size,λb o hb=>hw.mem b o (hle b o hb),λx hx=>?_,?_⟩
 .unfold Mem.diff at hb;split at hb
  .cases hb
  .rename_i hn;unfold Mem.nV;rw[J1 λhm=>?_]
   .exact hb
   .obtain⟨x,hx,hxb⟩:=Uq.1 hm;obtain⟨o',h1,h2⟩:=hMs x hx b hxb;simp[h1]at hn
 .rcases RY.1 hx with hx|hx
  .have h0:=hw1.all x (List.mem_append_left _ hx);have hk:∀b,x.gx=some b->w'.heap[b]?=w.heap[b]?/\M2.nV (Γs.filterMap As.gx) b=none:=λb hb=>by
    obtain⟨o,h1,h2⟩:=hMs x hx b hb;refine⟨by rw[hw.mem b o (hs b o h1),h2],?_⟩;unfold Mem.nV
    grind
   exact As.fz h0 hsubM hk
  .have h0:=hw1.all x (List.mem_append_right _ hx);have h2:=hw.all x hx;cases x with
   |rd d u=>exact Rd.mono hsubM d u h0
   |rds d u=>exact bz.mono hsubM h0
   |own b e cs =>
    refine⟨?_,h2.2⟩;cases hM:M2.nV (Γs.filterMap As.gx) b with
    |none=>rfl
    |some o2=>have:=hle b o2 hM;rw[h2.1]at this;cases this
   |acc u e sz n us =>
    refine⟨h2.1,λb hb=>?_⟩;cases hM:M2.nV (Γs.filterMap As.gx) b with
    |none=>rfl
    |some o=>have:=hle b o hM;rw[h2.2 b hb]at this;cases this
   |mp b l =>
    refine⟨?_,h2.2⟩;cases hM:M2.nV (Γs.filterMap As.gx) b with
    |none=>rfl
    |some o2=>have:=hle b o2 hM;rw[h2.1]at this;cases this
   |raw b o =>
    refine⟨?_,h2.2⟩;cases hM:M2.nV (Γs.filterMap As.gx) b with
    |none=>rfl
    |some o2=>have:=hle b o2 hM;rw[h2.1]at this;cases this
 .exact hw1.nodup
theorem Rw.acc{w0:R0}{M M':Mem}{Γs Γ:List As}(h:Rw w0 M Γs Γ M'){u:RK}{n:Nat}{e:RX}{sz:Nat}{us:List RK}{ds:List D}(hx:As.acc u e sz n us∈Γs)(hr:bz M' ds us)(hn:n<=lim) :
  Rd M' (.sl n sz ds) u:=by
 obtain⟨w,hw,hm⟩:=h.wit;have h0:=hw.all _ (List.mem_append_left _ hx);obtain⟨⟨hl,hh⟩,_⟩:=h0;rcases hh with⟨rfl,rfl⟩|⟨b,cap,cur,rfl,_,hb,hnc,hcm,hcs,htk⟩
 .have hd:ds=[]:=by have h1:=hr.1;have:us.length=0:=Q0;rw[this]at h1;exact Sq h1.symm
  subst hd;simp only[Rd];exact⟨none,0,rfl,Sc _,Sy _,Sy _,Q2,Q2,by simp[po]⟩
 .have h1:=hm _ hx b rfl;rw[hb]at h1;exact Rd.ofBlock h1 hr hl hn hnc hcm Q0
theorem St.mS{w0 w:R0}{M:Mem}{Γ:List As}(h:St w0 M Γ w){a:Option Addr}{n c e sz:Nat}{us:List RK}(hm:As.acc (.slice a n c) e sz n us∈Γ){q:Nat}{v:RK}(hq:us[q]?=some v):a.isSome=true/\w.cell? (gd a q)=some v:=by
 obtain⟨⟨hl,hh⟩,_⟩:=h.all _ hm;rcases hh with⟨e1,rfl⟩|⟨b,cap,cur,e1,_,hb,hnc,hcm,hcs,htk⟩
 .grind
 .simp only[Sm]at e1;obtain⟨rfl,_,rfl⟩:=e1;refine⟨rfl,?_⟩;rw[cy];have hk':q<n*sz:=by
   grind
  have h2:=hq;rw[<-htk,UR hk']at h2;have h3:cur[q]?=some v:=by grind
  simp[SU,hb,h3]
section
variable {P:RV} {w0:R0} {L:Lm} {M:Mem} {Γ:List As} {d:Option Nat} {ty:RX} {pos:String} {af:Array Edge} {g:Option (Nat×Bool)}
theorem Y.sD{x:R4}{t:RX}{p:Addr}{v:RK}(hx:bq L x=some (.pointer (some p)))(hc:ee M p=some v)(hf:jJ P t=true) :
  Yq P w0 L M Γ ⟨d,.load t x,ty,pos,af,g⟩ v:=Y.load hx hf λ_ hw=>hw.cell hc
end
structure qw(P:RV)(kt:RX){κ:Type}[DecidableEq κ](kv:κ->RK):Prop where
 kind:∃fs,P.underlying kt=some (.struct fs)
 check:∀k b w,(Instr.checkKey b 10000 kt (kv k)).run P w=.ok () w
 eq:∀k k' w,(ZE kt (kv k) (kv k')).run P w=.ok (decide (k=k')) w
variable {P:RV} {κ:Type} [DecidableEq κ] {kv:κ->RK}
def gD(k:κ):List (κ×RK)->Option RK
 |[]=>none
 |p::l=>if k=p.1 then some p.2 else gD k l
abbrev vN(kv:κ->RK)(l:List (κ×RK)):List (RK×RK):=l.map λp=>(kv p.1,p.2)
theorem ot{kt:RX}(hK:qw P kt kv)(k:κ):∀(l:List (κ×RK)) (es:List TJ) (i:Nat) (w:R0),es.map (λe=>(e.key,e.val))=vN kv l ->
  ∃r:Option (Nat×RK),(TD kt (kv k) es i).run P w=.ok r w/\r.map (·.2)=gD k l
 |[],[],i,w,_=>⟨none,by simp[TD],rfl⟩
 |p::l,e::es,i,w,h=>by
  simp only[vN,Sb,Tn,R6]at h;obtain⟨⟨h0,h00⟩,ht⟩:=h;have h1:=hK.eq k p.1 w;by_cases he:k=p.1
  .refine⟨some (i,e.val),?_,by simp[gD,he,h00]⟩;rw[J5 he]at h1;simp only[TD,h0];simp[h1]
  .obtain⟨r,h2,h3⟩:=ot hK k l es (i+1) w ht;rw[J6 he]at h1;refine⟨r,?_,by grind [gD]⟩;simp only[TD,h0];simp[h1,h2]
 |[],_::_,_,_,h=>by grind
 |_::_,[],_,_,h=>by grind
theorem Ef{kt:RX}(hK:qw P kt kv)(k:κ)(l:List (κ×RK))(es:List TJ)(w:R0)(h:es.map (λe=>(e.key,e.val))=vN kv l) :
  ∃r:Option (Nat×RK),(Uj kt (kv k) es).run P w=.ok r w/\r.map (·.2)=gD k l:=by
 obtain⟨fs,hfs⟩:=hK.kind;obtain⟨r,h1,h2⟩:=ot hK k l es 0 w h;cases es with
 |nil =>
  refine⟨none,by simp[Uj,R7 hfs,Wr],?_⟩;cases l with
  |nil=>rfl
  |cons p l=>simp[vN]at h
 |cons e es=>refine⟨r,?_,h2⟩;simp[Uj,R7 hfs,Wr,Instr.sameNow,h1]
def Hs(P:RV)(t k e:Nat):Bool:=match P.underlying t with
 |some (.map k' e')=>RN k k' && RN e e'
 |_=>false
theorem kr{t k e:Nat}(h:Hs P t k e=true):P.underlying t=some (.map k e):=by
 unfold Hs at h;cases hu:P.underlying t with
 |none=>simp[hu]at h
 |some d=>rw[hu]at h;cases d <;> simp at h;obtain⟨h1,h2⟩:=h;rw[h1,h2]
section
variable {w0:R0} {L:Lm} {M:Mem} {Γ:List As} {d:Option Nat} {ty:RX} {pos:String} {af:Array Edge} {g:Option (Nat×Bool)}
theorem Y.makeFunc{f:Xa}{first cap:List R4}{vs us:List RK}(h1:FH L first=some vs)(h2:FH L cap=some us) :
  Yq P w0 L M Γ ⟨d,.makeFunc (.func f) first.toArray cap.toArray,ty,pos,af,g⟩ (.func (.func f) vs.toArray us.toArray):=λn a w ha _=>by
 have e1:first.toArray.map a.eval=vs.toArray:=by rw[WG,ha.FH h1]
 have e2:cap.toArray.map a.eval=us.toArray:=by rw[WG,ha.FH h2]
 simp[Sk,Instr.makeFunc,e1,e2]
end
section
variable {n:Nat} {w0:R0} {ops:Array Oper} {rest:List Oper} {L:Lm} {M:Mem} {Γ:List As} {K:Lm->Mem->List As->Prop} {ty:RX} {pos:String} {af:Array Edge} {d:Nat}
theorem St.newMap{w:R0}(h:St w0 M Γ w):St w0 M (.mp w.heap.size []::Γ) {w with heap:=w.heap.push (.map #[] 0)}:=by
 have hold:∀b,b<w.heap.size->(w.heap.push (.map #[] 0))[b]?=w.heap[b]?:=λb hb=>by
  grind
 refine⟨h.os,h.tape,h.output,by simp;have:=h.size;omega,λb o hb=>?_,λx hx=>?_,?_⟩
 .rw[hold b (h.lt hb)];exact h.mem b o hb
 .rcases RO.1 hx with rfl|hx
  .exact⟨h.fresh,#[],0,Q2,rfl,by simp[nS]⟩
  .exact As.fz (h.all x hx) (Sub.refl M) λb hb=>⟨hold b (As.bk (h.all x hx) hb).1,(As.bk (h.all x hx) hb).2⟩
 .simp only[Sr,As.gx];refine SG.2 ⟨λhm=>?_,h.nodup⟩;obtain⟨x,hx,hb⟩:=Uq.1 hm;have:=(As.bk (h.all x hx) hb).1;omega
end
def Ns(P:RV)(t n e sz:Nat):Bool:=(match P.underlying t with
 |some (.array n' e')=>RN n n' && RN e e'
 |_=>false) && mz P e sz && Tw 1 n
theorem BG{t n e sz:Nat}(h:Ns P t n e sz=true):P.underlying t=some (.array n e)/\mz P e sz=true/\1<n:=by
 unfold Ns at h;simp only[RP]at h;obtain⟨⟨h1,h2⟩,h3⟩:=h;refine⟨?_,h2,by simp_all⟩;cases hu:P.underlying t with
 |none=>simp[hu]at h1
 |some d=>rw[hu]at h1;cases d <;> simp at h1;obtain⟨h4,h5⟩:=h1;rw[h4,h5]
theorem Y.Fc{w0:R0}{L:Lm}{M:Mem}{Γ:List As}{d:Option Nat}{ty:RX}{pos:String}{af:Array Edge}{g:Option (Nat×Bool)}{x i:R4}{t e sz n:Nat}{a:Option Addr}{q:Nat}{ik:Tl}{z:Int}(k:Nat)(hx:bq L x=some (.pointer (some (gd a q))))(hi:bq L i=some (.int ik z))(hz:z=(k:Int))(hk:k<n)
  (ht:Ns P t n e sz=true):Yq P w0 L M Γ ⟨d,.indexAddr t x i,ty,pos,af,g⟩ (.pointer (some (gd a (q+k*sz)))):=λm ac w ha hw=>by
 subst hz;obtain⟨h1,h2,h3⟩:=BG ht;simp[Sk,ha.ev hx,ha.ev hi,Zn,ZI,R7 h1,ie h2,hk,eI,Tu]
theorem Y.eqlBB{w0:R0}{L:Lm}{M:Mem}{Γ:List As}{d:Option Nat}{ty:RX}{pos:String}{af:Array Edge}{g:Option (Nat×Bool)}{x y:R4}{p q:Bool}{t:RX}(ht:P.underlying t=some .bool)(hx:bq L x=some (.bool p))(hy:bq L y=some (.bool q)) :
  Yq P w0 L M Γ ⟨d,.binOp .eql t x y t,ty,pos,af,g⟩ (.bool (p == q)):=λn a w ha _=>by
 simp only[Sk,ha.ev hx,ha.ev hy];have h:∀b c:Bool,(Op.equalIn 10000 t (.bool b) (.bool c)).run P w=.ok (b == c) w:=λb c=>ZV w 9999 t b c ht;cases p <;> cases q <;> simp[Th,Ub,ZE,Op.maxDepth,h]
theorem Y.neqD{w0:R0}{L:Lm}{M:Mem}{Γ:List As}{d:Option Nat}{ty:RX}{pos:String}{af:Array Edge}{g:Option (Nat×Bool)}{x y:R4}{p q:Prop}[Decidable p][Decidable q]{t:RX}(ht:P.underlying t=some .bool)(hx:bq L x=some (.bool (decide p)))(hy:bq L y=some (.bool (decide q))) :
  Yq P w0 L M Γ ⟨d,.binOp .neq t x y t,ty,pos,af,g⟩ (.bool (decide (¬(p↔q)))):=λn a w ha _=>by
 simp only[Sk,ha.ev hx,ha.ev hy];have h:∀b c:Bool,(Op.equalIn 10000 t (.bool b) (.bool c)).run P w=.ok (b == c) w:=λb c=>ZV w 9999 t b c ht;by_cases h1:p <;> by_cases h2:q <;> simp[h1,h2,Th,Ub,ZE,Op.maxDepth,h]
end Xe
namespace Xe
open Go
def lX(n:Int):Prop:=-9223372036854775808<=n/\n<=9223372036854775807
abbrev Is(M:Mem)(Γ:List As)(v:RK):Iw:=λu M' Γ'=>u=v/\M'=M/\Γ'=Γ
abbrev mj(n:Int):RK:=.int .i64 n
abbrev aj(n:Int):D:=.v (.int .i64 n)
section
variable {α:Type} {enc:α->List D} {sz:Nat}
theorem eS(h:∀x,(enc x).length=sz):∀xs:List α,(xs.flatMap enc).length=xs.length*sz
 |[]=>by simp
 |x::xs=>by rw[RT,RS,h,eS h xs,RU,VG,Un]
theorem A5(h:∀x,(enc x).length=sz):∀(xs:List α) (k:Nat) (x:α),xs[k]?=some x->((xs.flatMap enc).drop (k*sz)).take sz=enc x
 |[],k,x,hk=>by simp at hk
 |y::ys,0,x,hk=>by
  grind
 |y::ys,k+1,x,hk=>by
  have hk':ys[k]?=some x:=by grind
  rw[RT,VG,Un,<-TR,List.drop_append_of_le_length (XI (h y).symm),WZ (XI (h y)),Sv];exact A5 h ys k x hk'
end
def bY(l:List Int):D:=.sl l.length 1 (l.map aj)
structure av where
 aH:Int
 seq:Int
 index:Int
 deriving DecidableEq,Repr,Inhabited
def av.gM(x:av):List RK:=[mj x.aH,mj x.seq,mj x.index]
def av.enc(x:av):List D:=[aj x.aH,aj x.seq,aj x.index]
inductive Ty where
 |mk (kind:Int) (df:av) (kids:List Ty)
 deriving Inhabited
def Ty.kind:Ty->Int|.mk k _ _=>k
def Ty.df:Ty->av|.mk _ d _=>d
def Ty.kids:Ty->List Ty|.mk _ _ l=>l
mutual
def Ty.enc:Ty->List D
 |.mk k d l=>[aj k,aj d.aH,aj d.seq,aj d.index,.sl l.length 5 (Ty.yR l)]
def Ty.yR:List Ty->List D
 |[]=>[]
 |t::ts=>t.enc++Ty.yR ts
end
theorem Ty.s9:∀l:List Ty,Ty.yR l=l.flatMap Ty.enc
 |[]=>by simp[Ty.yR]
 |t::ts=>by rw[Ty.yR,Ty.s9 ts,RT]
theorem Ty.aD(t:Ty):t.enc=[aj t.kind,aj t.df.aH,aj t.df.seq,aj t.df.index,.sl t.kids.length 5 (t.kids.flatMap Ty.enc)]:=by cases t;rw[Ty.enc,Ty.s9];rfl
theorem Ty.aP(t:Ty):t.enc.length=5:=by rw[Ty.aD];rfl
mutual
def Ty.size:Ty->Nat
 |.mk _ _ l=>1+Ty.ba l
def Ty.ba:List Ty->Nat
 |[]=>0
 |t::ts=>t.size+Ty.ba ts
end
theorem Ty.jC:∀{l:List Ty} {t:Ty},t∈l->t.size<=Ty.ba l
 |x::xs,t,h=>by
  rw[Ty.ba];rcases RO.1 h with rfl|h
  .omega
  .have:=Ty.jC h;omega
theorem Ty.my{t k:Ty}(h:k∈t.kids):k.size<t.size:=by
 cases t with
 |mk a b l=>have:=Ty.jC (l:=l) h;rw[Ty.size];omega
mutual
def Ty.beq:Ty->Ty->Bool
 |.mk a b l,.mk c d m=>decide (a=c) && decide (b=d) && Ty.Ip l m
def Ty.Ip:List Ty->List Ty->Bool
 |[],[]=>true
 |x::xs,y::ys=>x.beq y && Ty.Ip xs ys
 |[],_::_=>false
 |_::_,[]=>false
end
mutual
theorem Ty.KF:∀a b:Ty,a.beq b=true↔a=b
 |.mk a b l,.mk c d m=>by simp only[Ty.beq,RP,decide_eq_true_eq,Ty.mk.injEq,Ty.Ga l m,and_assoc]
theorem Ty.Ga:∀a b:List Ty,Ty.Ip a b=true↔a=b
 |[],[]=>by simp[Ty.Ip]
 |x::xs,y::ys=>by simp only[Ty.Ip,RP,Tn,Ty.KF x y,Ty.Ga xs ys]
 |[],_::_=>by simp[Ty.Ip]
 |_::_,[]=>by simp[Ty.Ip]
end
instance:DecidableEq Ty:=λa b=>decidable_of_iff (a.beq b=true) (Ty.KF a b)
inductive Ex where
 |mk (id:av) (kind n:Int) (ref:av) (ty:Ty) (kids:List Ex) (aJ:List ByteArray)
 deriving Inhabited
def Ex.id:Ex->av|.mk i _ _ _ _ _ _=>i
def Ex.kind:Ex->Int|.mk _ k _ _ _ _ _=>k
def Ex.n:Ex->Int|.mk _ _ n _ _ _ _=>n
def Ex.ref:Ex->av|.mk _ _ _ r _ _ _=>r
def Ex.ty:Ex->Ty|.mk _ _ _ _ t _ _=>t
def Ex.kids:Ex->List Ex|.mk _ _ _ _ _ l _=>l
def Ex.aJ:Ex->List ByteArray|.mk _ _ _ _ _ _ s=>s
def bM(s:ByteArray):D:=.v (.string s)
def Kw(l:List ByteArray):D:=.sl l.length 1 (l.map bM)
mutual
def Ex.enc:Ex->List D
 |.mk i k n r t l s=>[aj i.aH,aj i.seq,aj i.index,aj k,aj n,aj r.aH,aj r.seq,aj r.index,aj t.kind,aj t.df.aH,aj t.df.seq,aj t.df.index,.sl t.kids.length 5 (t.kids.flatMap Ty.enc),.sl l.length 15 (Ex.yR l),Kw s]
def Ex.yR:List Ex->List D
 |[]=>[]
 |t::ts=>t.enc++Ex.yR ts
end
theorem Ex.s9:∀l:List Ex,Ex.yR l=l.flatMap Ex.enc
 |[]=>by simp[Ex.yR]
 |t::ts=>by rw[Ex.yR,Ex.s9 ts,RT]
theorem Ex.aD(e:Ex):e.enc=[aj e.id.aH,aj e.id.seq,aj e.id.index,aj e.kind,aj e.n,aj e.ref.aH,aj e.ref.seq,aj e.ref.index,aj e.ty.kind,aj e.ty.df.aH,aj e.ty.df.seq,aj e.ty.df.index,
  .sl e.ty.kids.length 5 (e.ty.kids.flatMap Ty.enc),.sl e.kids.length 15 (e.kids.flatMap Ex.enc),.sl e.aJ.length 1 (e.aJ.map bM)]:=by
 cases e;rw[Ex.enc,Ex.s9];rfl
theorem Ex.aP(e:Ex):e.enc.length=15:=by rw[Ex.aD];rfl
mutual
def Ex.size:Ex->Nat
 |.mk _ _ _ _ _ l _=>1+Ex.ba l
def Ex.ba:List Ex->Nat
 |[]=>0
 |t::ts=>t.size+Ex.ba ts
end
theorem Ex.cf(e:Ex):e.size=1+Ex.ba e.kids:=by cases e;rw[Ex.size];rfl
theorem Ex.jC:∀{l:List Ex} {t:Ex},t∈l->t.size<=Ex.ba l
 |x::xs,t,h=>by
  rw[Ex.ba];rcases RO.1 h with rfl|h
  .omega
  .have:=Ex.jC h;omega
theorem Ex.my{e k:Ex}(h:k∈e.kids):k.size<e.size:=by have:=Ex.jC h;rw[Ex.cf e];omega
theorem Ex.qK:∀(l:List Ex) (k:Nat),Ex.ba (l.take k)<=Ex.ba l
 |[],k=>by simp
 |x::xs,0=>by simp[Ex.ba]
 |x::xs,k+1=>by have:=Ex.qK xs k;simp only[List.take_succ_cons,Ex.ba];omega
theorem Ex.rP:∀(l m:List Ex),Ex.ba (l++m)=Ex.ba l+Ex.ba m
 |[],m=>by simp[Ex.ba]
 |x::xs,m=>by have:=Ex.rP xs m;simp only[SA,Ex.ba];omega
theorem Ex.ni(l:List Ex)(k:Nat)(h:k<l.length):Ex.ba (l.take (k+1))=Ex.ba (l.take k)+l[k].size:=by rw[RJ h,Ex.rP];simp[Ex.ba]
def fR(n m:Int):Int:=(if n<0 then -(n+1) else n) % m
theorem Nt(n m:Int)(_hm:1<=m):fR n m=(if n<0 then -(n+1) else n).tmod m:=by
 unfold fR
 grind
theorem kD(n m:Int)(hm:1<=m):0<=fR n m/\fR n m<m:=by unfold fR;exact⟨Int.emod_nonneg _ Q0,Int.emod_lt_of_pos _ Q0⟩
def eH(l:List Int)(i CC:Int):Int:=if i<0\/(l.length:Int)<=i then 0 else fR (l.getD i.toNat 0) CC
theorem Rd.qf{M:Mem}{sz:Nat}:Rd M (.sl 0 sz []) (.slice none 0 0):=by simp only[Rd];exact⟨none,0,rfl,Sc _,Sy _,Sy _,Q2,Q2,by simp[po]⟩
def kx:av:=⟨0,0,0⟩
def bQ:Ty:=.mk 0 kx []
theorem eO(l:List Int)(i m:Int)(hm:1<=m):0<=eH l i m/\eH l i m<m:=by
 unfold eH;split
 .omega
 .exact kD _ _ hm
open Go Go.ChangeShapes Go.WideShapes Go.RowKit
abbrev eu(W:R0):Mem:=λb=>W.heap[b]?
theorem NW(W:R0):St W (eu W) [] W:=⟨rfl,rfl,rfl,Sc _,λ_ _ h=>h,λ_ h=>by simp at h,Q2⟩
theorem Ri{W w':R0}(h:St W (eu W) [] w'):Below W.heap.size W w' :=
 ⟨h.os,h.tape,h.output,h.size,λk hk=>by
  have e:eu W k=some W.heap[k]:=XR hk
  rw[h.mem k _ e];exact e.symm⟩
theorem vt(W:R0)(p:Addr):ee (eu W) p=W.cell? p:=by
 unfold ee SU eu
 grind
section
variable {H:Type} {enc:RX×RK->H} {P:RV} {W:R0}
theorem inI_of{n:Int}(h:(ZW .i64 n).wf=true):lX n:=by simp only[Lit.wf,RP,decide_eq_true_eq]at h;unfold lX;have h1:Zm.min=-9223372036854775808:=Q1;simp_all
theorem G6{f:Func}{s:Zt}{apart fresh handsOn again:Bool}{W':R0}{args:Array RK}{v:RK}{ds gs:List (Uz H)}{before pa pv:List XJ}
  (hW:ZF enc P f.params.toList s.vars apart W args.toList ds gs before)
  (hres:∀(b:Nat) (sp:Nat->Bool) (hd:Bool),VW enc P W' b sp hd f.resultTypes.toList (v.resultList f.resultTypes.size) (s.fn H (ds++gs)).results [])
  (hargs:∀sp:Nat->Bool,(∀p∈before,sp p.block=true)->VW enc P W' 0 sp true f.params.toList args.toList (s.fn H (ds++gs)).args pa)
  (hvars:∀sp:Nat->Bool,(∀p∈before,sp p.block=true)->DataW.TrodVars enc P W' sp s.vars (s.fn H (ds++gs)).vars pv)
  (hps:before=pa++pv) (hb:Below W.heap.size W W')
  (hok:∀(j:Nat) (t:RX) (r:RK),f.resultTypes[j]?=some t->(v.resultList f.resultTypes.size)[j]?=some r->Xb P W' .any 0 t r) :
  s.post enc P f apart fresh handsOn again W args v W':=by
 have hlt:∀p∈before,p.block<W.heap.size:=λp hp=>hW.lt p hp;have hold:∀p∈before,(λb=>decide (b<W.heap.size)) p.block=true:=λp hp=>by grind
 refine⟨ds,gs,before,[],pa,pv,hW,hres _ _ _,hargs _ hold,hvars _ hold,World.keptBut_mono (λp hp=>⟨hp,?_⟩) (hb.frame (·∈before)),λ_=>?_⟩
 .rw[hps,RY]at hp;exact Or.inr hp
 .obtain⟨_,_,_,_,_,hz,hn⟩:=hW;refine⟨hok,_,_,([]++pa)++pv,⟨[]++pa,pv,trodAll_append (hargs _ (λ_ _=>rfl)) (hres _ _ _),hvars _ (λ_ _=>rfl),rfl,?_,?_⟩,?_⟩
  .intro b off hp;have hin:MemPlace.cell b off∈before:=by grind
   rw[hb.frozen (hlt _ hin)];exact hz b off hin
  .intro ha;have:=hn ha;rw[hps]at this;simpa using this
  .intro p hp _;rw[hps];simpa using hp
end
section
variable {w0 w:R0} {M:Mem} {Γ:List As}
theorem St.wL{a:Option Addr}{n c e sz k:Nat}{us:List RK}(hw:St w0 M (.acc (.slice a n c) e sz n us::Γ) w)(hk:k<=n):St w0 M (.acc (.slice a k c) e sz k (us.take (k*sz))::Γ) w:=by
 have hx:=hw.all _ (RG ..);have hob:(ZG a k c).ownBlock=(ZG a n c).ownBlock:=by cases a <;> rfl
 refine⟨hw.os,hw.tape,hw.output,hw.size,hw.mem,λy hy0=>?_,by have:=hw.nodup;simp only[Sr,As.gx]at this ⊢;rw[hob];exact this⟩;rcases RO.1 hy0 with rfl|hy
 .obtain⟨⟨hl,hh⟩,hM⟩:=hx;refine⟨⟨?_,?_⟩,λb hb=>hM b (by grind)⟩
  .simp_all
  .rcases hh with⟨e1,e2⟩|⟨b,cap,cur,e1,g,hb,hnc,hcm,hcs,htk⟩
   .grind
   .simp only[Sm]at e1;obtain⟨rfl,_,rfl⟩:=e1;refine .inr ⟨b,c,cur,rfl,g,hb,Q0,hcm,hcs,?_⟩;rw[<-htk,List.take_take,Nat.min_eq_left (SI _ hk)]
 .exact hw.all y (RM _ hy)
theorem cut0(a:Option Addr)(h m sz:Nat):lG a 0 h m sz=.slice a h m:=by
 unfold lG;rw[Vb,VX,VX];cases a with
 |none=>split <;> rfl
 |some x=>split <;> simp[WE]
theorem St.setAcc{a:Option Addr}{n c e sz q:Nat}{us:List RK}{v:RK}(hw:St w0 M (.acc (.slice a n c) e sz n us::Γ) w)(hq:q<us.length) :
  St w0 M (.acc (.slice a n c) e sz n (us.set q v)::Γ) (w.setCell (gd a q) v)/\(w.cell? (gd a q)).isSome=true/\w.frozen? (gd a q)=false:=by
 have hx:=hw.all _ (RG ..);obtain⟨⟨hl,hh⟩,hM⟩:=hx;rcases hh with⟨e1,e2⟩|⟨b,cap,cur,e1,g,hb,hnc,hcm,hcs,htk⟩
 .simp only[Sm]at e1;obtain⟨rfl,rfl,rfl⟩:=e1;simp at hl;subst hl;simp at hq
 .simp only[Sm]at e1;obtain⟨rfl,_,rfl⟩:=e1;have hlt:b<w.heap.size:=(SQ.1 hb).1;have hbe:w.heap[b]=.cells cur e (0,0):=(SQ.1 hb).2;have hqc:q<cur.size:=by
   grind
  have hset:w.setCell (gd (some ⟨b,0,none⟩) q) v={w with heap:=w.heap.setIfInBounds b (.cells (cur.setIfInBounds q v) e (0,0))}:=by
   rw[cy];simp only[World.setCell]
   congr 1
   grind
  refine⟨?_,by grind [cy,SU],by rw[cy];simp[World.frozen?,hb]⟩;rw[hset];have hne:∀k,k≠b->(w.heap.setIfInBounds b (.cells (cur.setIfInBounds q v) e (0,0)))[k]?=w.heap[k]?:=λk hk=>Xk Q0;have hnd:=hw.nodup;simp only[Sr,As.gx,S1]at hnd;refine⟨hw.os,hw.tape,hw.output,by simp;exact hw.size,λk o hk=>?_,λy hy0=>?_,by grind [As.gx,S1]⟩
  .rw[hne k (λe'=>by subst e';rw[hM _ rfl]at hk;cases hk)];exact hw.mem k o hk
  .rcases RO.1 hy0 with rfl|hy
   .refine⟨⟨by grind,.inr ⟨b,c,cur.setIfInBounds q v,rfl,g,by simp[hlt],hnc,hcm,by grind,?_⟩⟩,hM⟩;rw[Array.toList_setIfInBounds,Zu,htk]
   .have hy':=hw.all y (RM _ hy);refine As.fz hy' (Sub.refl M) λk hk=>⟨hne k λe'=>?_,(As.bk hy' hk).2⟩;subst e';exact(SG.1 hnd).1 (wh hy hk)
end
section
variable {P:RV} {n:Nat} {w0:R0} {ops:Array Oper} {rest:List Oper} {L:Lm} {M:Mem} {Γ:List As} {K:Lm->Mem->List As->Prop} {ty:RX} {pos:String} {af:Array Edge} {d:Nat}
theorem RL.wL{a:Option Addr}{m c e sz k:Nat}{us:List RK}(hk:k<=m)(h:RL P n w0 ops rest L M (.acc (.slice a k c) e sz k (us.take (k*sz))::Γ) K):RL P n w0 ops rest L M (.acc (.slice a m c) e sz m us::Γ) K :=
 h.pre (λ_ _ h=>h) λ_ hw=>hw.wL hk
end
theorem Y.BX{P:RV}{w0:R0}{L:Lm}{M:Mem}{Γ:List As}{d:Option Nat}{ty:RX}{pos:String}{af:Array Edge}{g:Option (Nat×Bool)}{x:R4}{hi mx:Option R4}{t e sz:Nat}{a:Option Addr}{n c:Nat}(h m:Nat)
  (hx:bq L x=some (.slice a n c)) (hhi:jP L hi n h) (hmx:jP L mx c m) (hb:hi.isSome=true\/mx.isSome=false) (h2:h<=m) (h3:m<=c) (ht:sliceB P t e sz=true) :
  Yq P w0 L M Γ ⟨d,.slice t x none hi mx,ty,pos,af,g⟩ (.slice a h m):=by
 have:=Y.slice (P:=P) (w0:=w0) (M:=M) (Γ:=Γ) (d:=d) (ty:=ty) (pos:=pos) (af:=af) (g:=g) (lo:=none) 0 h m hx rfl hhi hmx hb (Sy _) h2 h3 ht;rwa [cut0]at this
def WT(P:RV):Nat->RX->List D->Prop
 |0,_,_=>False
 |n+1,t,ds=>match P.underlying t with
  |some .bool=>∃b,ds=[.v (.bool b)]
  |some (.int k)=>∃z,ds=[.v (.int k z)]/\(ZW k z).wf=true
  |some .string=>∃s:ByteArray,ds=[.v (.string s)]/\s.size<=lim
  |some (.slice e)=>∃els:List (List D),ds=[.sl els.length (P.cellsOf e) els.flatten]/\els.length<=lim/\∀x∈els,WT P n e x
  |some (.struct fs)=>ds.length=P.cellsOf t/\∀f∈fs.toList,WT P n f.type ((ds.drop f.offset).take (P.cellsOf f.type))
  |some (.array m e)=>ds.length=P.cellsOf t/\∀i,i<m->WT P n e ((ds.drop (i*P.cellsOf e)).take (P.cellsOf e))
  |_=>False
mutual
def fP:D->Nat
 |.v _=>1
 |.sl _ _ cs=>1+fh cs
def fh:List D->Nat
 |[]=>0
 |d::ds=>fP d+fh ds
end
theorem mc:∀(a b:List D),fh (a++b)=fh a+fh b
 |[],b=>by simp[fh]
 |x::xs,b=>by have:=mc xs b;simp only[SA,fh];omega
structure Dp{H:Type}(jm:Uz H->Nat):Prop where
 lit:∀l,1<=jm (.lit l)
 nil:1<=jm .nil
 slice:∀els sp,(els.map jm).sum+1<=jm (.slice els sp)
 agg:∀ps,(ps.map jm).sum<=jm (.agg ps)
def p7(P:RV):Nat->List Yg->Nat->Bool
 |off,[],tot=>RN off tot
 |off,f::fs,tot=>RN f.offset off && p7 P (off+P.cellsOf f.type) fs tot
theorem Bn{P:RV}:∀{fs:List Yg} {off tot:Nat},p7 P off fs tot=true->off<=tot/\∀f∈fs,off<=f.offset
 |[],off,tot,h=>⟨XI (RD h),λf hf=>by simp at hf⟩
 |g::fs,off,tot,h=>by
  simp only[p7,RP]at h;obtain⟨h1,h2⟩:=Bn h.2
  grind [RD]
def wK(P:RV)(ts:List RX):Bool:=ts.all λt=>match P.underlying t with
 |some .bool=>true
 |some (.int _)=>true
 |some .string=>true
 |some (.slice e)=>ts.contains e && Tw 0 (P.bytesOf e)
 |some (.struct fs)=>p7 P 0 fs.toList (P.cellsOf t) && fs.toList.all λf=>ts.contains f.type
 |some (.array m e)=>RN (P.cellsOf t) (m*P.cellsOf e) && ts.contains e
 |_=>false
theorem bz.cut{M:Mem}{ds:List D}{us:List RK}(h:bz M ds us)(q n:Nat):bz M ((ds.drop q).take n) ((us.drop q).take n):=by
 refine⟨by simp[h.1],λk d u h1 h2=>?_⟩;have hk:k<n:=by
  grind
 rw[UR hk,TV]at h1 h2;exact h.2 _ _ _ h1 h2
theorem kG{H:Type}{P:RV}{e:RX}{d:Uz H}:∀{l:List (Uz H)},d∈l->∀n∈d.weights P e,n∈YT P e l
 |x::xs,hd,n,hn=>by
  rw[YT,RY];rcases RO.1 hd with rfl|hd
  .exact .inl hn
  .exact .inr (kG hd n hn)
theorem glueF{M:Mem}{P:RV}(F:Yg->List D->Prop):∀(fs:List Yg) (bs:List Nat) (off:Nat) (cs:List RK),p7 P off fs (off+cs.length)=true->bs.length=fs.length ->
  (∀(i:Nat) (f:Yg) (b:Nat),fs[i]?=some f->bs[i]?=some b->∃ds,bz M ds ((cs.drop (f.offset-off)).take (P.cellsOf f.type))/\F f ds/\fh ds<=b)->∃ds,bz M ds cs/\(∀f∈fs,F f ((ds.drop (f.offset-off)).take (P.cellsOf f.type)))/\fh ds<=bs.sum:=by
 intro fs;induction fs with
 |nil=>intro bs off cs h _ _;have:=RD h;have:cs=[]:=Sq Q0;subst this;exact⟨[],bz.nil M,λf hf=>by simp at hf,by simp[fh]⟩
 |cons g fs ih =>
  intro bs off cs h hbl hf;simp only[p7,RP]at h;have h0:=RD h.1;have h1:=Bn h.2;obtain⟨b0,bs,rfl⟩:∃b0 bs',bs=b0::bs':=by
   cases bs with
   |nil=>simp at hbl
   |cons b0 bs'=>exact⟨b0,bs',rfl⟩
  obtain⟨d0,r0,f0,q0⟩:=hf 0 g b0 rfl rfl;rw[h0,W5,Te]at r0;have hd0:d0.length=P.cellsOf g.type:=by rw[<-r0.1,Sn];omega
  obtain⟨ds,r1,f1,q1⟩:=ih bs (off+P.cellsOf g.type) (cs.drop (P.cellsOf g.type)) (by grind) (by grind) λi f b hfi hbi=>by
   obtain⟨ds,r,ff,q⟩:=hf (i+1) f b (by grind) (by grind)
   grind [UM,TR]
  refine⟨d0++ds,?_,λf hfm=>?_,by rw[mc,T7];omega⟩
  .have:=r0.append r1;rwa [TS]at this
  .rcases RO.1 hfm with rfl|hfm
   .rw[h0,W5,Te,<-hd0,X3];exact f0
   .have:=h1.2 f hfm;have e:=f1 f hfm;rw[List.drop_append,WZ Q0,Sv,hd0,show f.offset-off-P.cellsOf g.type=f.offset-(off+P.cellsOf g.type) from by omega];exact e
theorem yE:∀(l:List (List D)) (sz i:Nat) (hi:i<l.length),(∀x∈l,x.length=sz)->((l.flatten.drop (i*sz)).take sz)=l[i]
 |x::xs,sz,0,_,h=>by
  grind
 |x::xs,sz,i+1,hi,h=>by
  have h0:=h x (RG ..);have e:(x++xs.flatten).drop sz=xs.flatten:=by grind
  rw[U7,VG,Un,<-TR,e,List.getElem_cons_succ];exact yE xs sz i (by grind) λy hy=>h y (RM _ hy)
section
variable {H:Type} {enc:RX×RK->H} {P:RV} {W:R0}
theorem glue{M:Mem}(sz:Nat)(F:List D->Prop):∀(bs:List Nat) (cs:List RK),cs.length=bs.length*sz->(∀(i:Nat) (b:Nat),bs[i]?=some b->∃ds,bz M ds ((cs.drop (i*sz)).take sz)/\F ds/\fh ds<=b) ->
  ∃els:List (List D),els.length=bs.length/\bz M els.flatten cs/\(∀x∈els,F x)/\(∀x∈els,x.length=sz)/\fh els.flatten<=bs.sum:=by
 intro bs;induction bs with
 |nil=>intro cs hl _;have:cs=[]:=Sq (by grind);subst this;exact⟨[],rfl,bz.nil M,λx hx=>by simp at hx,λx hx=>by simp at hx,by simp[fh]⟩
 |cons b0 bs ih =>
  intro cs hl h;have hls:sz<=cs.length:=by rw[hl,RU,VG];omega
  obtain⟨d0,r0,f0,q0⟩:=h 0 b0 rfl;simp only[Vb,Te]at r0;obtain⟨els,h1,h2,h3,h4,h5⟩:=ih (cs.drop sz) (by rw[S3,hl,RU,VG];omega) λi b hi=>by
   obtain⟨ds,r,f,q⟩:=h (i+1) b (by grind)
   grind [TR]
  refine⟨d0::els,by simp[h1],?_,λx hx=>?_,λx hx=>?_,by rw[U7,mc,T7];omega⟩
  .have:=r0.append h2;rwa [TS]at this
  .rcases RO.1 hx with rfl|hx
   .exact f0
   .exact h3 x hx
  .rcases RO.1 hx with rfl|hx
   .rw[<-r0.1,Sn];omega
   .exact h4 x hx
theorem vl{sz:Nat}:∀{els:List (List D)},(∀x∈els,x.length=sz)->els.flatten.length=els.length*sz
 |[],_=>by simp
 |x::xs,h=>by rw[U7,RS,h x (RG ..),vl λy hy=>h y (RM _ hy),RU,VG,Un]
theorem ED{ts:List RX}{jm:Uz H->Nat}(hbk:Dp jm)(hcl:wK P ts=true):∀(n:Nat) (t:RX) (cs:List RK) (x:Uz H×List XJ),t∈ts ->
  U8 enc P W 0 (λ_=>true) true n t cs=some x->(∀k∈x.1.weights P t,k<=Zv)->∃ds,bz (eu W) ds cs/\WT P n t ds/\fh ds<=jm x.1:=by
 intro n;induction n with
 |zero=>intro t cs x _ h;simp[U8]at h
 |succ n ih =>
  intro t cs x ht h hw;have hc:=Ve.1 hcl t ht;cases hu:P.underlying t with
  |none=>simp[hu]at hc
  |some u =>
   rw[hu]at hc;cases u with
   |bool=>obtain⟨b,rfl,rfl⟩:=DataW.trod_bool hu h;exact⟨[.v (.bool b)],bz.cons (by simp[Rd,UD]) (bz.nil _),by simp[WT,hu],hbk.lit _⟩
   |int k=>obtain⟨z,rfl,rfl,hz⟩:=Ze hu h;exact⟨[.v (.int k z)],bz.cons (by simp[Rd,UD]) (bz.nil _),by simp[WT,hu,hz],hbk.lit _⟩
   |string =>
    obtain⟨s,rfl,rfl,hs⟩:=YJ hu h;refine⟨[.v (.string s)],bz.cons (by simp[Rd,UD]) (bz.nil _),?_,hbk.lit _⟩;have:=hw s.data.toList.length (by rw[VY];exact RZ.2 rfl);have h5:=reachBytes_lt;have hsz:s.data.toList.length=s.size:=by simp_all
    simp only[WT,hu];exact⟨s,rfl,by unfold lim;omega⟩
   |slice e =>
    simp only[RP,Yh]at hc;obtain⟨he,hb⟩:=hc;have hb:0<P.bytesOf e:=by simp_all
    rcases DataW.trod_slice hu h with⟨rfl,rfl⟩|⟨a,len,cap,ta,rest,n',hn,rfl,rfl,_,hl,hm,hlen,hel,_,_⟩
    .refine⟨[.sl 0 (P.cellsOf e) []],bz.cons Rd.qf (bz.nil _),?_,hbk.nil⟩;simp only[WT,hu];exact⟨[],rfl,Sy _,λx hx=>by simp at hx⟩
    .obtain rfl:n'=n:=Q0;have hwl:len<=lim:=by
      have:=hw ((ta.map (·.1)).length+(rest.map (·.1)).length |> (·*P.bytesOf e)) (by simp[VY,hu]);have h5:=reachBytes_lt;have h6:len<=((ta.map (·.1)).length+(rest.map (·.1)).length)*P.bytesOf e:=TQ (by simp[hlen]) (Nat.le_mul_of_pos_right _ hb)
      grind [lim]
     have each:∀i,(hi:i<len)->∃cs' ds,W.cells? 0 (a.add (i*P.cellsOf e)) (P.cellsOf e)=some cs'/\bz (eu W) ds cs'/\WT P n' e ds/\fh ds<=jm (ta[i]'Q0).1:=λi hi=>by
      have h1:=hel i hi;have h2:i<ta.length:=Q0;rw[R5 h2,Option.bind_eq_some_iff]at h1;obtain⟨cs',h3,h4⟩:=h1
      obtain⟨ds,h5,h6,h7⟩:=ih e cs' _ he h4 λk hk=>hw k (by
       simp only[VY,hu,RO,RY]
       exact .inr (.inl (kG (R3.2 ⟨_,RQ h2,rfl⟩) k hk)))
      grind
     have hcell:∀q,q<len*P.cellsOf e->∃u,W.cell? (a.add q)=some u:=λq hq=>by
      have hp:0<P.cellsOf e:=by
       grind
      have hi:q / P.cellsOf e<len:=Nat.div_lt_of_lt_mul (by grind);obtain⟨cs',ds,h1,_,_,_⟩:=each _ hi;obtain⟨_,h2,h3⟩:=YK h1;have hr:q % P.cellsOf e<P.cellsOf e:=Nat.mod_lt _ hp;have h4:=h3 _ hr
      rw[show(a.add (q / P.cellsOf e*P.cellsOf e)).add (q % P.cellsOf e)=a.add q from by
       have e1:q / P.cellsOf e*P.cellsOf e+q % P.cellsOf e=q:=by rw[Nat.mul_comm];exact Nat.div_add_mod q _
       have:=eI (some a) (q / P.cellsOf e*P.cellsOf e) (q % P.cellsOf e);rw[e1]at this
       exact this,R5 Q0]at h4
      exact⟨_,h4⟩
     -- mY cells as one rj
     obtain⟨row,hrl,hrow⟩:∃row:List RK,row.length=len*P.cellsOf e/\∀q,q<len*P.cellsOf e->W.cell? (a.add q)=row[q]?:=by
      refine⟨(W6 (len*P.cellsOf e)).map λq=>(W.cell? (a.add q)).getD default,Q2,λq hq=>?_⟩
      grind
     obtain⟨els,k1,k2,k3,k4,k5⟩:=glue (M:=eu W) (P.cellsOf e) (WT P n' e) ((ta.map (·.1)).map jm) row (by grind) λi b hbi=>by
      obtain⟨hi0,hb0⟩:=TN.1 hbi;have hi:i<len:=by grind
      obtain⟨cs',ds,h1,h2,h3,h7⟩:=each i hi;have hb1:jm (ta[i]'Q0).1=b:=by grind
      rw[hb1]at h7;obtain⟨_,h4,h5⟩:=YK h1;refine⟨ds,?_,h3,h7⟩;have:(row.drop (i*P.cellsOf e)).take (P.cellsOf e)=cs':=by
       apply Xi;intro j;by_cases hj:j<P.cellsOf e
       .rw[UR hj,TV,<-h5 j hj];have hlt:i*P.cellsOf e+j<len*P.cellsOf e:=by
         have:(i+1)*P.cellsOf e<=len*P.cellsOf e:=SI _ hi
         grind
        rw[<-hrow _ hlt];have:=eI (some a) (i*P.cellsOf e) j
        grind [gd]
       all_goals grind
      rw[this];exact h2
     rw[Sa,Sa,hlen]at k1;refine⟨[.sl els.length (P.cellsOf e) els.flatten],bz.cons ?_ (bz.nil _),?_,?_⟩
     .simp only[Rd];refine⟨some a,cap,by rw[k1],Q0,hm,Q0,vl k4,λ_=>rfl,po.mk _ 0 λk d hk=>?_⟩;have hlt:k<row.length:=by
       rw[k2.1]
       grind
      refine⟨row[k],?_,k2.2 k d _ hk (R5 hlt)⟩;rw[vt,Sz];exact(hrow k Q0).trans (R5 hlt)
     .simp only[WT,hu];exact⟨els,rfl,Q0,k3⟩
     .have:=hbk.slice (ta.map (·.1)) (rest.map (·.1));simp only[fh,fP]at k5 ⊢;omega
   |struct fs =>
    obtain⟨xs,n',hn,rfl,hl,hxl,hf⟩:=DataW.trod_struct hu h;obtain rfl:n'=n:=Q0;rw[RP]at hc;have hca:∀f∈fs.toList,f.type∈ts:=λf hf=>by
     grind
    have hwe:∀(l:List Yg) (ys:List (Uz H)) (i:Nat) (f:Yg) (d:Uz H),l[i]?=some f->ys[i]?=some d->∀k∈d.weights P f.type,k∈UX P (l.map (·.type)) ys:=by
     intro l;induction l with
     |nil=>intro ys i f d h1;simp at h1
     |cons g l ihl =>
      intro ys i f d h1 h2 k hk;cases ys with
      |nil=>simp at h2
      |cons y ys =>
       rw[Sb,UX,RY];cases i with
       |zero=>simp only[SE,RE]at h1 h2;subst h1 h2;exact .inl hk
       |succ i=>exact .inr (ihl ys i f d (by grind) (by grind) k hk)
    have each:∀(i:Nat) (f:Yg) (b:Nat),fs.toList[i]?=some f->((xs.map (·.1)).map jm)[i]?=some b->∃ds,bz (eu W) ds ((cs.drop f.offset).take (P.cellsOf f.type))/\WT P n' f.type ds/\fh ds<=b:=λi f b hi hbi=>by
     have hfm:=UM hi;have h1:=hf i f (by grind);have hix:i<xs.length:=by
      grind
     rw[R5 hix]at h1;have hb1:jm (xs[i]).1=b:=by
      grind
     grind [VY]
    obtain⟨ds,k1,k2,k3⟩:=glueF (M:=eu W) (P:=P) (λf ds=>WT P n' f.type ds) fs.toList ((xs.map (·.1)).map jm) 0 cs (by grind) (by simp[hxl]) λi f b hi hbi=>by grind
    refine⟨ds,k1,?_,TQ k3 (hbk.agg _)⟩;simp only[WT,hu];exact⟨by rw[<-k1.1];exact hl,λf hf=>by grind⟩
   |array m e =>
    simp only[RP,Yh]at hc;obtain⟨hc0,hc⟩:=hc;have hc0:=RD hc0;obtain⟨xs,n',hn,rfl,hl,hxl,hf⟩:=YU hu h;obtain rfl:n'=n:=Q0;have each:∀(i b:Nat),((xs.map (·.1)).map jm)[i]?=some b->∃ds,bz (eu W) ds ((cs.drop (i*P.cellsOf e)).take (P.cellsOf e))/\WT P n' e ds/\fh ds<=b:=λi b hbi=>by
     obtain⟨hi0,hb0⟩:=TN.1 hbi;have hix:i<xs.length:=by grind
     have h1:=hf i Q0;have hb1:jm (xs[i]).1=b:=by grind
     grind [R5,VY,kG,RQ]
    obtain⟨els,k1,k2,k3,k4,k5⟩:=glue (M:=eu W) (P.cellsOf e) (WT P n' e) ((xs.map (·.1)).map jm) cs (by grind) each;rw[Sa,Sa,hxl]at k1;refine⟨els.flatten,k2,?_,TQ k5 (hbk.agg _)⟩;simp only[WT,hu];refine⟨by rw[<-k2.1];exact hl,λi hi=>?_⟩;have hi':i<els.length:=Q0;have e2:∀(l:List (List D)) (sz i:Nat) (hi:i<l.length),(∀x∈l,x.length=sz)->((l.flatten.drop (i*sz)).take sz)=l[i]:=λl sz i hi hall=>by
     grind [yE]
    rw[e2 els _ i hi' k4];exact k3 _ (RQ hi')
   |_=>simp at hc
end
def uO(P:RV)(t:RX)(us:List RK)(v:RK):Prop:=match P.underlying t with
 |some (.struct _)=>v=.agg us.toArray
 |some (.array ..)=>v=.agg us.toArray
 |_=>us=[v]
inductive zz(P:RV)(M:Mem)(b:Nat):List RX->List RK->Prop
 |nil:zz P M b [] []
 |cons {t:RX} {ts:List RX} {v:RK} {vs:List RK} (n:Nat) (ds:List D) (us:List RK):bz M ds us->WT P n t ds->uO P t us v->fh ds<=b->zz P M b ts vs->zz P M b (t::ts) (v::vs)
inductive lB(P:RV)(M:Mem):List RX->List RK->Prop
 |nil:lB P M [] []
 |cons {t:RX} {ts:List RX} {v:RK} {vs:List RK} (n:Nat) (ds:List D) (us:List RK):bz M ds us->WT P n t ds->uO P t us v->lB P M ts vs->lB P M (t::ts) (v::vs)
theorem lB.inv{P:RV}{M:Mem}{t:RX}{ts:List RX}{vs:List RK}(h:lB P M (t::ts) vs) :
  ∃n ds us v vs',vs=v::vs'/\bz M ds us/\WT P n t ds/\uO P t us v/\lB P M ts vs':=by
 cases h with
 |cons n ds us h1 h2 h3 h4=>exact⟨n,ds,us,_,_,rfl,h1,h2,h3,h4⟩
theorem zz.toW{P:RV}{M:Mem}{b:Nat}{ts:List RX}{vs:List RK}(h:zz P M b ts vs):lB P M ts vs:=by
 induction h with
 |nil=>exact .nil
 |cons n ds us h1 h2 h3 _ _ ih=>exact .cons n ds us h1 h2 h3 ih
theorem lB.nil_inv{P:RV}{M:Mem}{vs:List RK}(h:lB P M [] vs):vs=[]:=by cases h;rfl
section
variable {H:Type} {enc:RX×RK->H} {P:RV} {W:R0}
theorem Gf{ts0:List RX}{jm:Uz H->Nat}(hbk:Dp jm)(bd:Nat)(hcl:wK P ts0=true)(hl:laidOutB P=true) :
  ∀(ts:List RX) (vs:List RK) (ds:List (Uz H)) (p:List XJ),VW enc P W 0 (λ_=>true) true ts vs ds p->(∀t∈ts,t∈ts0/\P.readableRec t=true/\t<P.types.size) ->
  (∀(j:Nat) t v,ts[j]?=some t->vs[j]?=some v->∃b,Xb P W .any b t v)->(∀k∈UX P ts ds,k<=Zv)->(∀d∈ds,jm d<=bd) ->
  zz P (eu W) bd ts vs/\∀(W':R0) (sp:Nat->Bool),Below W.heap.size W W'->(∀q∈p,q.block<W.heap.size)->(∀q∈p,sp q.block=true)->VW enc P W' 0 sp true ts vs ds p
 |[],vs,ds,p,h,_,_,_,_=>by obtain⟨rfl,rfl,rfl⟩:=trodAll_nil h;exact⟨.nil,λ_ _ _ _ _=>rfl⟩
 |t::ts,vs,ds,p,h,hts,hval,hsz,hbd=>by
  obtain⟨v,vs1,d,ds1,pa,pb,rfl,rfl,rfl,h1,h2⟩:=trodAll_cons h;rw[UX]at hsz;obtain⟨h3,h4⟩:=Gf hbk bd hcl hl ts vs1 ds1 pb h2 (λx hx=>hts x (RM _ hx)) (λj x y hx hy=>hval (j+1) x y (by grind) (by grind)) (λk hk=>hsz k (List.mem_append_right _ hk)) (λx hx=>hbd x (RM _ hx));obtain⟨b,hv⟩:=hval 0 t v rfl rfl;obtain⟨ht0,hr,hrow⟩:=hts t (RG ..);obtain⟨n,hn⟩:=h1;obtain⟨es,k1,k2,k3⟩:=ED hbk hcl n t _ _ ht0 hn λk hk=>hsz k (List.mem_append_left _ hk)
  refine⟨.cons n es v.cells.toList k1 k2 ?_ (TQ k3 (hbd _ (RG ..))) h3,λW' sp hB hlt hq=>⟨pa,pb,WideElems.Trod_stays hl hr hrow ⟨n,hn⟩ (λx hx=>hB.same (hlt x (List.mem_append_left _ hx))) (λx hx=>hq x (List.mem_append_left _ hx)),
   h4 W' sp hB (λx hx=>hlt x (List.mem_append_right _ hx)) (λx hx=>hq x (List.mem_append_right _ hx)),rfl⟩⟩
  have hc:=Ve.1 hcl t ht0;unfold uO;cases hu:P.underlying t with
  |none=>simp[hu]at hc
  |some u =>
   rw[hu]at hc;cases u with
   |bool=>obtain⟨b,rfl⟩:=okWide_bool hu hv;rfl
   |int k=>obtain⟨z,rfl⟩:=okWide_int hu hv;rfl
   |string=>obtain⟨s,rfl⟩:=okWide_string hu hv;rfl
   |slice e=>obtain⟨a,n,c,rfl⟩:=okWide_slice hu hv;rfl
   |struct fs=>obtain⟨cs,rfl,_⟩:=okWide_struct hu hv;simp[Xt]
   |array m e=>simp only[Xb,hu]at hv;obtain⟨cs,rfl,_⟩:=hv;simp[Xt]
   |_=>simp at hc
end
theorem PU{H:Type}{enc:RX×RK->H}{C:Checked}{f:Xa}{fn:Func}{s:Zt}{tb:RX}{fresh handsOn again:Bool}{jm:Uz H->Nat}(hbk:Dp jm)(bd:Nat)(ts0:List RX)
  (hcl:wK C.prog ts0=true) (hl:laidOutB C.prog=true) (htb:C.prog.underlying tb=some .bool)
  (hts:(fn.params.toList.all λt=>ts0.contains t && C.prog.readableRec t && Tw t C.prog.types.size)=true) (hres:fn.resultTypes=#[tb]) (hvars:s.vars=[]) (hspec:∀ds:List (Uz H),ds.length=fn.params.toList.length->s.fn H ds={results:=[.lit (.bool true)],args:=ds,vars:=[]})
  {W:R0} {aV:Nat} {args:Array RK} {ds gs:List (Uz H)} {before:List XJ} (hval:∀(j:Nat) t v,fn.params[j]?=some t->args[j]?=some v->Xb C.prog W .any aV t v)
  (hW:ZF enc C.prog fn.params.toList s.vars false W args.toList ds gs before) (hsz:(UX C.prog (fn.params.toList++s.plain.varTypes C.prog) (ds++gs)).all (·<=Zv)=true) (hbd:∀d∈ds,jm d<=bd)
  (contract:∀vs:List RK,zz C.prog (eu W) bd fn.params.toList vs->jr C.prog W (eu W) [] f vs.toArray (Is (eu W) [] (.bool true))) :
  Calls C.prog f args W λe W'=>∃v,e=.returned v/\s.post enc C.prog fn false fresh handsOn again W args v W':=by
 have hW':=hW;obtain⟨p,q,hA,hV,hb,hfz,hnd⟩:=hW;rw[hvars]at hV;obtain⟨rfl,rfl⟩:=trodVars_none hV;have hvt:s.plain.varTypes C.prog=[]:=by
  have:s.plain.vars=[]:=hvars
  grind [DataSpec.varTypes]
 rw[hvt,RW,RW]at hsz;have hts':∀t∈fn.params.toList,t∈ts0/\C.prog.readableRec t=true/\t<C.prog.types.size:=λt ht=>by have:=Ve.1 hts t ht;simp_all
 obtain⟨h1,h2⟩:=Gf (enc:=enc) hbk bd hcl hl fn.params.toList args.toList ds p hA hts' (λj t v ht hv=>⟨aV,hval j t v (by grind) (by grind)⟩) (λk hk=>by
  have:=Ve.1 hsz k hk
  simpa using this) hbd
 have hlen:ds.length=fn.params.toList.length:=by
  have:∀(ts:List RX) (vs:List RK) (ds:List (Uz H)) (p:List XJ),VW enc C.prog W 0 (λ_=>true) true ts vs ds p->ds.length=ts.length:=by
   intro ts;induction ts with
   |nil=>intro vs ds p h;obtain⟨_,rfl,_⟩:=trodAll_nil h;rfl
   |cons t ts ih=>intro vs ds p h;obtain⟨v,vs1,d,ds1,a,b,rfl,rfl,rfl,_,h2⟩:=trodAll_cons h;simp[ih _ _ _ h2]
  exact this _ _ _ _ hA
 refine(contract args.toList h1 W (NW W)).mono ?_;rintro e' W' ⟨v,M',Γ',rfl,⟨rfl,rfl,rfl⟩,hw'⟩;refine⟨_,rfl,?_⟩;have hB:=Ri hw';have hfn':=hspec ds hlen;have hlt:∀x∈p,x.block<W.heap.size:=λx hx=>hW'.lt x (by grind);refine G6 (pa:=p) (pv:=[]) hW' (λb sp hd=>?_) (λsp hsp=>?_) (λsp _=>?_) (by rw[hb]) hB (λj t r hj hr=>?_)
 .rw[RW,hfn',hres];exact trodAll_mk1 (shut_bool htb true)
 .rw[RW,hfn'];exact h2 W' sp hB hlt λq hq=>hsp q (by grind)
 .rw[RW,hfn',hvars];rfl
 .rw[hres]at hj hr;have hj0:j=0:=by
   grind
  subst hj0;simp[Value.resultList]at hj hr;subst hj hr;exact okWide_bool_mk htb true
theorem qL{H:Type}:∀l:List (Uz H),(l.map VV).sum+1<=VV l
 |[]=>by simp
 |x::xs=>by have:=qL xs;simp only[Sb,T7,List.cons.sizeOf_spec];omega
theorem F6{H:Type}:Dp (H:=H) VV:=⟨λl=>by simp,Q2,λels sp=>by grind [qL,DataW.slice.sizeOf_spec],λps=>by grind [qL,DataW.agg.sizeOf_spec]⟩
theorem HB{α:Type}(g:α->Nat):∀{l:List α} {x:α},x∈l->g x<=(l.map g).sum
 |y::ys,x,h=>by
  rw[Sb,T7];rcases RO.1 h with rfl|h
  .omega
  .have:=HB g h;omega
def zy(w0:R0)(M:Mem)(Γ:List As)(p:Addr)(vs:List RK):Prop:=∀w,St w0 M Γ w->∀j v,vs[j]?=some v->w.cell? (p.add j)=some v
theorem zy.mono{w0:R0}{M:Mem}{Γ Γ':List As}{p:Addr}{vs:List RK}(h:zy w0 M Γ p vs)(hs:∀w,St w0 M Γ' w->St w0 M Γ w):zy w0 M Γ' p vs:=λw hw=>h w (hs w hw)
section
variable {P:RV} {w0:R0} {L:Lm} {M:Mem} {Γ:List As} {d:Option Nat} {ty:RX} {pos:String} {af:Array Edge} {g:Option (Nat×Bool)}
namespace Y
end Y
end
theorem MM{α:Type}{x:α}{l:List α}(h:x∈l:=by first|((repeat (first|exact List.Mem.head _|apply List.Mem.tail|apply List.mem_append_right));done)|fail):x∈l:=h
theorem PK{x:As}{l l':List As}(h:vO x l l':=by first|((repeat (first|exact vO.here _|apply vO.there));done)|fail):vO x l l':=h
theorem SB{l l':List As}(h:Xj l l':=by first|((repeat (first|exact List.Sublist.refl _|apply List.Sublist.cons_cons|apply List.Sublist.cons));done)|fail):Xj l l':=h
theorem OM{p:Prop}(h:p:=by omega):p:=h
def GO(L:Lm):List Nat->Option Lm
 |[]=>some []
 |k::ks=>match lf L k with
  |some v=>match GO L ks with
   |some r=>some ((k,v)::r)
   |none=>none
  |none=>none
theorem lH.sel{L:Lm}:∀{ks:List Nat} {L':Lm},GO L ks=some L'->lH L L'
 |[],L',h=>by simp only[GO,RE]at h;subst h;exact lH.nil L
 |k::ks,L',h=>by
  simp only[GO]at h;cases hv:lf L k with
  |none=>rw[hv]at h;cases h
  |some v =>
   rw[hv]at h;cases hr:GO L ks with
   |none=>rw[hr]at h;cases h
   |some r=>rw[hr]at h;obtain rfl:=TW h;exact lH.cons k hv (lH.sel hr)
theorem CW.kp{P:RV}{n:Nat}{w0:R0}{c:Code}{X:KN}{L L':Lm}{M:Mem}{Γ:List As}(ks:List Nat)(hs:GO L ks=some L')(h:CW P n w0 c X L' M Γ):CW P n w0 c X L M Γ:=CW.CI (lH.sel hs) h
theorem KP{L L':Lm}(ks:List Nat)(hs:GO L ks=some L':=by rfl):lH L L':=lH.sel hs
end Xe
namespace Xe
open Go
section
variable {P:RV} {w0:R0} {L:Lm} {M:Mem} {Γ:List As} {d:Option Nat} {ty:RX} {pos:String} {af:Array Edge} {g:Option (Nat×Bool)}
namespace Y
theorem eqlK{ik:Tl}{x y:R4}{m k:Int}{t:RX}(hx:bq L x=some (.int ik m))(hy:bq L y=some (.int ik k)) :
  Yq P w0 L M Γ ⟨d,.binOp .eql t x y t,ty,pos,af,g⟩ (.bool (decide (m=k))):=λn a w ha _=>by
 simp[Sk,ha.ev hx,ha.ev hy,Th,Ub,UA];by_cases h:m=k <;> simp[h]
theorem neqK{ik:Tl}{x y:R4}{m k:Int}{t:RX}(hx:bq L x=some (.int ik m))(hy:bq L y=some (.int ik k)) :
  Yq P w0 L M Γ ⟨d,.binOp .neq t x y t,ty,pos,af,g⟩ (.bool (decide (m≠k))):=λn a w ha _=>by
 simp[Sk,ha.ev hx,ha.ev hy,Th,Ub,UA];by_cases h:m=k <;> simp[h]
def intB(P:RV)(t:RX)(k:Tl):Bool:=match P.underlying t with
 |some (.int k')=>decide (k'=k)
 |_=>false
theorem MF{t:RX}{k:Tl}(h:intB P t k=true):P.underlying t=some (.int k):=by
 unfold intB at h
 grind
end Y
end
section
variable {P:RV} {w0:R0} {L:Lm} {M:Mem} {Γ:List As} {d:Option Nat} {ty:RX} {pos:String} {af:Array Edge} {g:Option (Nat×Bool)}
namespace Y
end Y
end
theorem Dh{P:RV}{w0 w:R0}{M:Mem}{Γ:List As}{t tn ty e sz bytes n:Nat}{kn:Tl}(hE:gy P t e sz bytes)(htn:P.underlying tn=some (.int kn))(hw:St w0 M Γ w)(h0:0<n)(hb:n*bytes<=140737488355328)(hm:n<=lim) :
  ∃b c us w',(S7 #[t,tn] ty #[.slice none 0 0,.int .i64 n]).run P w=.ok (.slice (some ⟨b,0,none⟩) n c) w'/\us.length=n*sz/\n<=c/\St w0 M (.acc (.slice (some ⟨b,0,none⟩) n c) e sz n us::Γ) w':=by
 obtain⟨ht,⟨i,z,hi,hz,hsize,hby,hzs⟩,hpos⟩:=hE;subst hsize hby;have hlm:lim=140737488355328:=rfl;have hr:=Lib.run_append_nil_zeros (P:=P) w t tn ty e i z .i64 kn ht htn hi hz n h0 hpos Q0 Q0;have hc1:=grownCap_ge w n 0 e;have hc2:=grownCap_le_maxLen w n 0 e (by unfold UI;omega);refine⟨w.heap.size,VP w n 0 e,(SX z.cells n).toList,_,hr,by rw[Uk,Vc,hzs],hc1,?_⟩;have h5:=(hw.iW (w.drawn+1)).alloc e (SX z.cells n++SX z.cells (VP w n 0 e-n)).toList;have h6:St w0 M (.own w.heap.size e (SX z.cells n++SX z.cells (VP w n 0 e-n)).toList::Γ) (w.drew.alloc (.cells (SX z.cells n++SX z.cells (VP w n 0 e-n)) e (0,0))):=by have:(SX z.cells n++SX z.cells (VP w n 0 e-n)).toList.toArray=(SX z.cells n++SX z.cells (VP w n 0 e-n)):=Q2;rw[this]at h5;exact h5
 refine St.OL h6 (by rw[Uk,Vc,hzs]) ?_ ?_ hc1 hc2
 .rw[Yn,RS,Uk,Uk,Vc,Vc,hzs,<-SK]
  congr 1
  omega
 .rw[Yn,List.take_append_of_le_length (by rw[Uk,Vc,hzs];exact Sc _),Su (by rw[Uk,Vc,hzs];exact Sc _)]
theorem RL.vE{P:RV}{n:Nat}{w0:R0}{ops:Array Oper}{rest:List Oper}{L:Lm}{M:Mem}{Γ:List As}{K:Lm->Mem->List As->Prop}{ty:RX}{pos:String}{af:Array Edge}{d:Nat}{t tn e sz bytes:Nat}{kn:Tl}{x y:R4}{z:Int}(k:Nat)
  (hE:gy P t e sz bytes) (htn:P.underlying tn=some (.int kn)) (hx:bq L x=some (.slice none 0 0)) (hy:bq L y=some (.int .i64 z)) (hz:z=(k:Int)) (h0:0<k) (hb:k*bytes<=140737488355328) (hm:k<=lim) (hd:Tw d n=true)
  (h:∀b c us,us.length=k*sz->k<=c->RL P n w0 ops rest ((d,.slice (some ⟨b,0,none⟩) k c)::L) M (.acc (.slice (some ⟨b,0,none⟩) k c) e sz k us::Γ) K):RL P n w0 ops (⟨some d,.call ⟨.builtin .append,#[x,y],#[t,tn]⟩,ty,pos,af,none⟩::rest) L M Γ K:=by
 subst hz;refine RL.e (λv M' Γ'=>∃b c us,v=.slice (some ⟨b,0,none⟩) k c/\us.length=k*sz/\k<=c/\M'=M/\Γ'=.acc v e sz k us::Γ) (λn a w ha hw=>?_) hd ?_
 .obtain⟨b,c,us,w',h1,h2,h3,h4⟩:=Dh (P:=P) (ty:=ty) hE htn hw h0 hb hm;refine⟨_,w',M,_,?_,⟨b,c,us,rfl,h2,h3,rfl,rfl⟩,h4⟩;simp[Sk,resolve,invoke,UF,ha.ev hx,ha.ev hy,h1]
 .rintro v M' Γ' ⟨b,c,us,rfl,h2,h3,rfl,rfl⟩;exact h b c us h2 h3
section
variable {P:RV} {w0:R0} {L:Lm} {M:Mem} {Γ:List As} {d:Option Nat} {ty:RX} {pos:String} {af:Array Edge} {g:Option (Nat×Bool)}
theorem Y.cap{x:R4}{t:RX}{a:Option Addr}{k c:Nat}{e:Nat}(hx:bq L x=some (.slice a k c))(ht:P.underlying t=some (.slice e)) :
  Yq P w0 L M Γ ⟨d,.call ⟨.builtin .cap,#[x],#[t]⟩,ty,pos,af,g⟩ (.int .i64 (c:Int)):=λn a w ha _=>by
 simp[Sk,resolve,invoke,UF,Builtin.cap_,ha.ev hx,R7 ht,goInt]
end
end Xe
namespace Xe
open Go
def byteB(P:RV)(src dst:RX):Bool:=match P.underlying src,P.underlying dst with
 |some (.slice e),some .string=>match P.underlying e with
  |some (.int .u8)=>true
  |_=>false
 |_,_=>false
section
variable {P:RV} {w0:R0} {L:Lm} {M:Mem} {Γ:List As} {d:Option Nat} {ty:RX} {pos:String} {af:Array Edge} {g:Option (Nat×Bool)}
theorem Af{s t:ByteArray}(h:¬s=t):¬s.toList=t.toList:=λe=>h (by
 rw[X1,X1]at e
 exact ByteArray.ext (Array.toList_inj.mp e))
namespace Y
theorem eqlS{x y:R4}{s t:ByteArray}{u:RX}(hx:bq L x=some (.string s))(hy:bq L y=some (.string t)) :
  Yq P w0 L M Γ ⟨d,.binOp .eql u x y u,ty,pos,af,g⟩ (.bool (decide (s=t))):=λn a w ha _=>by
 simp[Sk,ha.ev hx,ha.ev hy,Th,Ub,YL];by_cases h:s=t
 .simp[h]
 .simp[h,Af h]
theorem neqS{x y:R4}{s t:ByteArray}{u:RX}(hx:bq L x=some (.string s))(hy:bq L y=some (.string t)) :
  Yq P w0 L M Γ ⟨d,.binOp .neq u x y u,ty,pos,af,g⟩ (.bool (decide (s≠t))):=λn a w ha _=>by
 simp[Sk,ha.ev hx,ha.ev hy,Th,Ub,YL];by_cases h:s=t
 .simp[h]
 .simp[h,Af h]
end Y
end
end Xe
namespace Xe
open Go
def slcB(P:RV)(t e sz:Nat):Bool:=match P.underlying t with
 |some (.slice e')=>RN e' e && RN (P.cellsOf e) sz
 |_=>false
section
variable {P:RV} {n:Nat} {t:RX} {ds:List D}
theorem WT.ta{e sz:Nat}(h:WT P n t ds)(hs:slcB P t e sz=true):∃m,n=m+1/\∃els:List (List D),ds=[.sl els.length sz els.flatten]/\els.length<=lim/\∀x∈els,WT P m e x:=by
 cases n with
 |zero=>exact h.elim
 |succ m =>
  unfold slcB at hs;split at hs
  .rename_i e' hu;rw[RP]at hs;obtain rfl:=RD hs.1;obtain rfl:=RD hs.2;simp only[WT,hu]at h;exact⟨m,rfl,h⟩
  .cases hs
theorem WT.int(h:WT P n t ds)(hs:Y.intB P t .i64=true):∃z,ds=[aj z]/\lX z:=by
 have hu:=Y.MF hs;cases n with
 |zero=>exact h.elim
 |succ m=>simp only[WT,hu]at h;obtain⟨z,rfl,hz⟩:=h;exact⟨z,rfl,inI_of hz⟩
end
theorem FK{α:Type}{enc:α->List D}{Q:α->Prop}:∀{els:List (List D)},(∀x∈els,∃a,x=enc a/\Q a)->∃l:List α,els.length=l.length/\els.flatten=l.flatMap enc/\∀a∈l,Q a
 |[],_=>⟨[],rfl,rfl,λa h=>by cases h⟩
 |x::xs,h=>by
  obtain⟨a,rfl,hq⟩:=h x (RG ..);obtain⟨l,h1,h2,h3⟩:=FK λy hy=>h y (RM _ hy);refine⟨a::l,by simp[h1],by simp[h2],λb hb=>?_⟩
  grind
theorem eW{P:RV}{w0:R0}{M:Mem}{Γ:List As}{a:Option Addr}{n c e sz q:Nat}:∀(vs:List RK) (i:Nat) (w:R0) (us:List RK),St w0 M (.acc (.slice a n c) e sz n us::Γ) w->q+i+vs.length<=us.length->(∀v∈vs,v.oneCell'=true) ->
  ∃w',(Xy (gd a q) vs i).run P w=.ok () w'/\St w0 M (.acc (.slice a n c) e sz n (us.take (q+i)++vs++us.drop (q+i+vs.length))::Γ) w'
 |[],i,w,us,hw,_,_=>⟨w,by simp[Xy],by simpa using hw⟩
 |v::vs,i,w,us,hw,hl,h1=>by
  simp only[RU]at hl;obtain⟨k1,k2,k3⟩:=hw.setAcc (q:=q+i) (v:=v) Q0;obtain⟨w',r1,r2⟩:=eW (q:=q) vs (i+1) _ _ k1 Qc (λx hx=>h1 x (RM _ hx));have h3:(Go.store ((gd a q).add i) v).run P w=.ok () (w.setCell (gd a (q+i)) v):=by
   rw[eI,run_store P w _ v _ (h1 v (RG ..))]
   grind
  refine⟨w',by simp[Xy,h3];exact r1,?_⟩;have he:(us.set (q+i) v).take (q+(i+1))++vs++(us.set (q+i) v).drop (q+(i+1)+vs.length)=us.take (q+i)++v::vs++us.drop (q+i+(v::vs).length):=by
   have hk:q+i<us.length:=Q0;have e1:(us.set (q+i) v).take (q+(i+1))=us.take (q+i)++[v]:=by
    grind [S8,RJ,Zu,List.set_eq_of_length_le,T9]
   have e2:(us.set (q+i) v).drop (q+(i+1)+vs.length)=us.drop (q+i+(v::vs).length):=by
    rw[Zs,J2 Q0]
    congr 1
    grind
   rw[e1,e2];simp
  grind
theorem bz.split{M:Mem}{ds es:List D}{us:List RK}(h:bz M (ds++es) us):bz M ds (us.take ds.length)/\bz M es (us.drop ds.length):=by
 have hl:=h.1;rw[RS]at hl;have h1:=h.cut 0 ds.length;have h2:=h.cut ds.length es.length
 grind [X3,List.drop_left,List.take_length,Su]
open Go Go.ChangeShapes Go.WideShapes Go.RowKit
theorem E5{H:Type}{enc:RX×RK->H}{C:Checked}{os:Os}{f:Xa}{fn:Func}{s:Zt}{tb:RX}{fresh handsOn again:Bool}{laid:List (String×Uz Unit)}{F:Stop.Interp}(ts0:List RX)(own:ownKnob C.prog.godebug=none)(started:os.Started)(noInit:C.prog.inits.idxOf? f=none)(hfn:C.prog.funcs[f]?=some fn)
  (hcl:wK C.prog ts0=true) (hl:laidOutB C.prog=true) (htb:C.prog.underlying tb=some .bool)
  (hts:(fn.params.toList.all λt=>ts0.contains t && C.prog.readableRec t && Tw t C.prog.types.size)=true) (hres:fn.resultTypes=#[tb]) (hvars:s.vars=[]) (hspec:∀ds:List (Uz H),ds.length=fn.params.toList.length->s.fn H ds={results:=[.lit (.bool true)],args:=ds,vars:=[]})
  (witness:∃(w:R0) (tape:Tape) (i:Input),w.os=os/\(w.forCall tape i).Shaped C.prog/\i.vars=[]/\Input.okWide C.prog (w.forCall tape i) .any w.heap.size f i /\
   (VH s).preRow enc C.prog fn [] false laid (w.forCall tape i).memory i.args/\Assume.holds {} C.prog (lone (Frame.enter C.prog f i.args .normal) [] (w.forCall tape i)))
  (contract:∀(W:R0) (vs:List RK),W0 C.prog laid W->lB C.prog (eu W) fn.params.toList vs->jr C.prog W (eu W) [] f vs.toArray (Is (eu W) [] (.bool true))) :
  ReturnsInHanded {} C os f .any ((VH s).preRow enc C.prog fn [] false laid) (((VH s).at F).post enc C.prog fn false fresh handsOn again):=by
 refine returnsInHanded_of_row (C:=C) (s:=VH s) own started noInit hfn witness ?_;intro W aV args ds gs before hval hW _ _ hsz hL _ _;exact PU F6 (ds.map VV).sum ts0 hcl hl htb hts hres hvars hspec hval hW hsz (λd hd=>HB VV hd) λvs h=>contract W vs hL h.toW
structure aC where
 id:av
 name:ByteArray
 ty:Ty
 CC:Int
 bm:Int
 deriving Inhabited
def aC.enc(s:aC):List D:=[aj s.id.aH,aj s.id.seq,aj s.id.index,bM s.name,aj s.ty.kind,aj s.ty.df.aH,aj s.ty.df.seq,aj s.ty.df.index,.sl s.ty.kids.length 5 (s.ty.kids.flatMap Ty.enc),aj s.CC,aj s.bm]
theorem aC.aP(s:aC):s.enc.length=11:=rfl
structure an where
 id:av
 kind:Int
 mod:av
 name:ByteArray
 ah:List aC
 aq:Ty
 body:Ex
 bm:Int
 bF:List ByteArray
 deriving Inhabited
def an.enc(s:an):List D:=[aj s.id.aH,aj s.id.seq,aj s.id.index,aj s.kind,aj s.mod.aH,aj s.mod.seq,aj s.mod.index,bM s.name,.sl s.ah.length 11 (s.ah.flatMap aC.enc),
 aj s.aq.kind,aj s.aq.df.aH,aj s.aq.df.seq,aj s.aq.df.index,.sl s.aq.kids.length 5 (s.aq.kids.flatMap Ty.enc),
 aj s.body.id.aH,aj s.body.id.seq,aj s.body.id.index,aj s.body.kind,aj s.body.n,aj s.body.ref.aH,aj s.body.ref.seq,aj s.body.ref.index,aj s.body.ty.kind,aj s.body.ty.df.aH,aj s.body.ty.df.seq,aj s.body.ty.df.index,
  .sl s.body.ty.kids.length 5 (s.body.ty.kids.flatMap Ty.enc),.sl s.body.kids.length 15 (s.body.kids.flatMap Ex.enc),.sl s.body.aJ.length 1 (s.body.aJ.map bM),
 aj s.bm,.sl s.bF.length 1 (s.bF.map bM)]
theorem an.aP(s:an):s.enc.length=31:=rfl
structure aO where
 id:av
 name:ByteArray
 cZ:List av
 aa:List av
 deriving Inhabited
def aO.enc(m:aO):List D:=[aj m.id.aH,aj m.id.seq,aj m.id.index,bM m.name,.sl m.cZ.length 3 (m.cZ.flatMap av.enc),.sl m.aa.length 3 (m.aa.flatMap av.enc)]
theorem aO.aP(m:aO):m.enc.length=6:=rfl
structure au where
 aw:List aO
 aa:List an
 deriving Inhabited
def au.enc(p:au):List D:=[.sl p.aw.length 6 (p.aw.flatMap aO.enc),.sl p.aa.length 31 (p.aa.flatMap an.enc)]
theorem av.ext'{a b:av}(h1:a.aH=b.aH)(h2:a.seq=b.seq)(h3:a.index=b.index):a=b:=by cases a;cases b;simp only at h1 h2 h3;rw[h1,h2,h3]
def o7:Ex:=.mk kx 0 0 kx bQ [] []
def l7:an:=⟨kx,0,kx,Ys,[],bQ,o7,0,[]⟩
def cK(p:au)(id:av):Prop:=∃d∈p.aa,d.id=id
instance (p:au) (id:av):Decidable (cK p id):=by unfold cK;exact inferInstance
def al(p:au)(id:av):an:=(p.aa.find? λd=>decide (d.id=id)).getD l7
theorem kN{p:au}{id:av}{k:Nat}(h:k<p.aa.length)(h1:∀j (hj:j<p.aa.length),j<k->p.aa[j].id≠id)(h2:p.aa[k].id=id):cK p id/\al p id=p.aa[k]:=by
 refine⟨⟨_,RQ h,h2⟩,?_⟩;have:p.aa.find? (λd=>decide (d.id=id))=some p.aa[k]:=by
  rw[List.find?_eq_some_iff_getElem]
  grind
 rw[al,this];rfl
theorem uU{p:au}{id:av}(h1:∀j (hj:j<p.aa.length),p.aa[j].id≠id):¬cK p id/\al p id=l7:=by
 grind [cK,R8,List.find?_eq_none,al]
def iH(p:au)(id:av):Prop:=cK p id/\((al p id).kind=0\/(al p id).kind=1)
instance (p:au) (id:av):Decidable (iH p id):=by unfold iH;exact inferInstance
def bW(p:au):Nat->Ty->Bool
 |0,_=>false
 |n+1,t=>if t.kind=2 then decide (t.df=kx) && (match t.kids with|[x]=>bW p n x|_=>false)
  else t.kids.isEmpty && (if t.kind=3 then decide (iH p t.df) else decide (t.df=kx) && decide (t.kind=0\/t.kind=1))
def cd(p:au)(t:Ty):Prop:=bW p 24 t=true
instance (p:au) (t:Ty):Decidable (cd p t):=by unfold cd;exact inferInstance
theorem j5{p:au}{n:Nat}{t:Ty}(hk:t.kind=2):bW p (n+1) t=true↔t.df=kx/\∃y,t.kids=[y]/\bW p n y=true:=by
 rw[bW,J2 hk,RP,decide_eq_true_eq]
 grind
theorem Dx{p:au}{n:Nat}{t:Ty}(hk:t.kind=2)(h1:t.df=kx)(h2:t.kids.length=1):bW p (n+1) t=true↔bW p n (t.kids[0]'Q0)=true:=by
 rw[j5 hk];have e:t.kids=[t.kids[0]'Q0]:=by
  apply List.ext_getElem
  all_goals grind
 grind
theorem uS{p:au}{n:Nat}{t:Ty}(hk:t.kind=3):bW p (n+1) t=true↔iH p t.df/\t.kids.length=0:=by rw[bW,J1 Q0,J2 hk,RP,decide_eq_true_eq,Vf,and_comm,X4]
theorem jz{p:au}{n:Nat}{t:Ty}(hk:t.kind≠2)(hk3:t.kind≠3):bW p (n+1) t=true↔t.kids.length=0/\t.df=kx/\(t.kind=0\/t.kind=1):=by rw[bW,J1 hk,J1 hk3,RP,RP,decide_eq_true_eq,decide_eq_true_eq,Vf,X4]
def fA(n:Int):av:=⟨0,1+n.tdiv 32,n.tmod 32⟩
def mD(i:av):Ty:=.mk 3 i []
def cb(t:Ty):Ty:=.mk 2 kx [t]
def eV(p:au):Nat->Ty->Prop
 |0,_=>False
 |n+1,t=>t.kind=0\/t.kind=1\/(t.kind=2/\0<t.kids.length/\eV p n (t.kids.headD bQ)) \/
  (t.kind≠0/\t.kind≠1/\t.kind≠2/\(al p t.df).ah.length<=3/\((al p t.df).kind=1->0<(al p t.df).ah.length)/\∀s∈(al p t.df).ah,eV p n s.ty)
theorem wV{p:au}{n:Nat}{t:Ty}(h:eV p (n+1) t)(h2:t.kind=2):0<t.kids.length/\eV p n (t.kids.headD bQ):=by
 rw[eV]at h
 grind
theorem mW{p:au}{n:Nat}{t:Ty}(h:eV p (n+1) t)(h0:¬t.kind=0)(h1:¬t.kind=1)(h2:¬t.kind=2):(al p t.df).ah.length<=3/\((al p t.df).kind=1->0<(al p t.df).ah.length)/\∀s∈(al p t.df).ah,eV p n s.ty:=by
 rw[eV]at h
 grind
theorem b9{p:au}:∀{n m:Nat} {t:Ty},n<=m->eV p n t->eV p m t
 |0,_,_,_,h=>h.elim
 |n+1,0,_,hm,_=>by omega
 |n+1,m+1,t,hm,h=>by
  rw[eV]at h ⊢;rcases h with h|h|h|h
  .exact .inl h
  .exact .inr (.inl h)
  .exact .inr (.inr (.inl ⟨h.1,h.2.1,b9 Q0 h.2.2⟩))
  .exact .inr (.inr (.inr ⟨h.1,h.2.1,h.2.2.1,h.2.2.2.1,h.2.2.2.2.1,λs hs=>b9 Q0 (h.2.2.2.2.2 s hs)⟩))
theorem BQ(p:au)(n:Nat):eV p (n+1) bQ:=.inl rfl
theorem KT{p:au}{n:Nat}{t:Ty}(h:eV p n t):eV p (n+1) (cb t):=.inr (.inr (.inl ⟨rfl,by simp[cb,Ty.kids],h⟩))
def InR(z:Int):Prop:=-1099511627776<=z/\z<=1099511627776
instance (z:Int):Decidable (InR z):=by unfold InR;exact inferInstance
end Xe
namespace Pm
open Go Xe
def bs(l:List UInt8):RK:=.string ⟨l.toArray⟩
def kwV:List RK:=[bs [109,111,100,117,108,101],bs [117,115,101],bs [114,101,99],bs [99,97,115,101],bs [102,117,110],bs [111,110],bs [116,101,115,116],bs [99,111,110,118],bs [116,114,117,101],bs [102,97,108,115,101],bs [110,111,116],bs [97,110,100],bs [111,114],bs [105,102],bs [116,104,101,110],bs [101,108,115,101],bs [108,101,116],bs [105,110],bs [109,97,116,99,104],bs [102,111,108,100],bs [111,118,101,114],bs [100,111],bs [108,101,110],bs [106,111,105,110],bs [76,105,115,116],bs [73,110,116],bs [66,111,111,108]]
def PX:List RK:=([0,0,0,-1,2,3,2,-1,1,1,-1,-1,3]:List Int).map (To .i64)
def PW:List RK:=[195,286,287,287].map λf=>.func (.func f) #[] #[]
def NZ:List RK:=[bs [61,61],bs [45,62],bs [40],bs [41],bs [123],bs [125],bs [91],bs [93],bs [44],bs [58],bs [46],bs [61],bs [43],bs [45],bs [42],bs [47],bs [37],bs [60]]
def Kj:List (Nat×List RK):=[(1,kwV),(2,PX),(3,PW),(4,NZ)]
def iM:List (Int×Int):=[(3,36),(7,1),(8,1),(9,2),(10,2)]
structure zu(M:Mem):Prop where
 gl:∀p∈Kj,∀i u,p.2[i]?=some u->ee M (WE ⟨p.1,0,none⟩ i)=some u
 gm:∃(m:Nat) (es:Array TJ) (c:Nat) (l:List (Int×Int)),ee M ⟨0,0,none⟩=some (.map (some m))/\M m=some (.map es c)/\(es.toList.map λe=>(e.key,e.val))=(l:List (Int×Int)).map (λp=>(To .i64 p.1,To .i64 p.2))/\l.Perm iM
theorem zu.mono{M M':Mem}(h:zu M)(hs:Sub M M'):zu M':=⟨λp hp i u hu=>lu hs (h.gl p hp i u hu),by
 obtain⟨m,es,c,l,h1,h2,h3⟩:=h.gm
 exact⟨m,es,c,l,lu hs h1,hs _ _ h2,h3⟩⟩
end Pm
namespace Go.Proofs.YtmbboaapillefaaGreatDoor
open Xe
set_option maxRecDepth 20000
theorem wt3:Y.intB RH 3 .i64=true:=by kernel_rfl
theorem wt22:slcB RH 22 3 1=true:=by kernel_rfl
theorem ints_of{n:Nat}{ds:List D}(h:WT RH n 22 ds):∃l:List Int,ds=[bY l]/\∀x∈l,lX x:=by obtain⟨m,rfl,els,rfl,_,he⟩:=h.ta wt22;obtain⟨l,e1,e2,e3⟩:=FK (enc:=λz=>[aj z]) (Q:=lX) λx hx=>(he x hx).int wt3;exact⟨l,by rw[e1,e2,bY,List.map_eq_flatMap],e3⟩
theorem Rl{M:Mem}{ts:List RX}{vs:List RK}(h:lB RH M (22::ts) vs):∃(l:List Int) (v:RK) (vs':List RK),vs=v::vs'/\Rd M (bY l) v/\(∀x∈l,lX x)/\lB RH M ts vs':=by obtain⟨n,ds,us,v,vs',rfl,h1,h2,h3,h4⟩:=h.inv;obtain⟨l,rfl,hl⟩:=ints_of h2;simp only[uO,Tryz.underlying22]at h3;subst h3;exact⟨l,v,vs',rfl,h1.2 0 _ _ rfl rfl,hl,h4⟩
theorem KJ{M:Mem}{ts:List RX}{vs:List RK}(h:lB RH M (3::ts) vs):∃(z:Int) (vs':List RK),vs=mj z::vs'/\lX z/\lB RH M ts vs':=by
 obtain⟨n,ds,us,v,vs',rfl,h1,h2,h3,h4⟩:=h.inv;obtain⟨z,rfl,hz⟩:=h2.int wt3;simp only[uO,Ta]at h3;subst h3;have h5:=h1.2 0 _ _ rfl rfl;simp only[Rd]at h5
 grind
open Xe Pm Go.ChangeShapes Go.WideShapes Go.ChangeAt Go.RowKit
set_option maxRecDepth 100000
abbrev oU : List (String × DataW Unit) := [("splicery/lex.signs", Rows.laid_splicery_lex_signs), ("splicery/lex.kinds", Rows.laid_splicery_lex_kinds), ("splicery/lex.keywords", Rows.laid_splicery_lex_keywords), ("splicery/whole.fits", Rows.laid_splicery_whole_fits), ("splicery/whole.kids", Rows.laid_splicery_whole_kids)]
theorem ownKn:ownKnob RH.godebug=none:=by kernel_rfl
theorem gvar4 : Tryz.prog.globalNamed "splicery/lex.signs" = some 4 := by kernel_rfl
theorem tvar4:(RH.globals[4]?).map (·.type)=some 277:=by kernel_rfl
theorem gvar3 : Tryz.prog.globalNamed "splicery/lex.kinds" = some 3 := by kernel_rfl
theorem tvar3:(RH.globals[3]?).map (·.type)=some 276:=by kernel_rfl
theorem gvar1 : Tryz.prog.globalNamed "splicery/lex.keywords" = some 1 := by kernel_rfl
theorem tvar1:(RH.globals[1]?).map (·.type)=some 240:=by kernel_rfl
theorem gvar0 : Tryz.prog.globalNamed "splicery/whole.fits" = some 0 := by kernel_rfl
theorem tvar0:(RH.globals[0]?).map (·.type)=some 130:=by kernel_rfl
theorem gvar2 : Tryz.prog.globalNamed "splicery/whole.kids" = some 2 := by kernel_rfl
theorem tvar2:(RH.globals[2]?).map (·.type)=some 242:=by kernel_rfl
theorem uty240:RH.underlying 240=some (.array 27 9):=by kernel_rfl
theorem uty242:RH.underlying 242=some (.array 13 3):=by kernel_rfl
theorem uty277:RH.underlying 277=some (.array 18 9):=by kernel_rfl
theorem uty276:RH.underlying 276=some (.array 2 275):=by kernel_rfl
theorem NC:RH.underlying 275=some (.array 2 238):=by kernel_rfl
theorem BR:RH.underlying 238=some (.func #[5] #[4] false):=by kernel_rfl
theorem uty130:RH.underlying 130=some (.map 3 3):=by kernel_rfl
theorem uty9:RH.underlying 9=some .string:=by kernel_rfl
theorem uty3:RH.underlying 3=some (.int .i64):=by kernel_rfl
theorem cty9:RH.cellsOf 9=1:=by kernel_rfl
theorem cty3:RH.cellsOf 3=1:=by kernel_rfl
theorem cty238:RH.cellsOf 238=1:=by kernel_rfl
theorem cty275:RH.cellsOf 275=2:=by kernel_rfl
theorem cty276:RH.cellsOf 276=4:=by kernel_rfl
theorem take1{cs:List RK}{i:Nat}{v:RK}(h:(cs.drop i).take 1=[v]):cs[i]?=some v:=by
 have:=J4 (·[0]?) h
 grind
section
variable {H:Type} {enc:RX×RK->H} {P:RV} {w:R0} {aV:Nat} {sp:Nat->Bool} {held:Bool} {fuel t e n:Nat} {cs:List RK} {ds:List (Uz H)} {p:List XJ}
theorem zj(ht:P.underlying t=some (.array n e))(h:U8 enc P w aV sp held fuel t cs=some (.agg ds,p)) :
  cs.length=P.cellsOf t/\∀i d,ds[i]?=some d->∃m q,U8 enc P w aV sp held m e ((cs.drop (i*P.cellsOf e)).take (P.cellsOf e))=some (d,q):=by
 obtain⟨xs,m,rfl,hx,hl,hxl,hf⟩:=YU ht h;simp only[R6,DataW.agg.injEq]at hx;refine⟨hl,λi d hd=>?_⟩;rw[hx.1,VZ,Tm]at hd;obtain⟨y,hy,rfl⟩:=hd;have hi:i<n:=by grind
 exact⟨m,y.2,by grind⟩
theorem NT(ht:P.underlying t=some (.array n e))(he:P.underlying e=some .string)(hc:P.cellsOf e=1){l:List (List UInt8)}(h:U8 enc P w aV sp held fuel t cs=some (.agg (l.map λb=>.lit (.string b)),p))(i:Nat)(u:RK)(hu:(l.map bs)[i]?=some u):cs[i]?=some u:=by rw[VZ,Tm]at hu;obtain⟨b,hb,rfl⟩:=hu;obtain⟨m,q,h1⟩:=(zj ht h).2 i (.lit (.string b)) (by grind);obtain⟨s,hs,hx,_⟩:=YJ he h1;rw[hc,UG]at hs;simp only[R6,Yo,Lit.string.injEq]at hx;rw[take1 hs,bs,hx.1]
theorem int_at(ht:P.underlying t=some (.array n e))(he:P.underlying e=some (.int .i64))(hc:P.cellsOf e=1){l:List Int}(h:U8 enc P w aV sp held fuel t cs=some (.agg (l.map λz=>.lit (.int .i64 z)),p))(i:Nat)(u:RK)(hu:(l.map (To .i64))[i]?=some u):cs[i]?=some u:=by rw[VZ,Tm]at hu;obtain⟨z,hz,rfl⟩:=hu;obtain⟨m,q,h1⟩:=(zj ht h).2 i (.lit (.int .i64 z)) (by grind);obtain⟨s,hs,hx,_⟩:=Ze he h1;rw[hc,UG]at hs;simp only[R6,Yo,Lit.int.injEq,true_and]at hx;rw[take1 hs,hx.1]
end
abbrev kwB:List (List UInt8):=[[109,111,100,117,108,101],[117,115,101],[114,101,99],[99,97,115,101],[102,117,110],[111,110],[116,101,115,116],[99,111,110,118],[116,114,117,101],[102,97,108,115,101],[110,111,116],[97,110,100],[111,114],[105,102],[116,104,101,110],[101,108,115,101],[108,101,116],[105,110],[109,97,116,99,104],[102,111,108,100],[111,118,101,114],[100,111],[108,101,110],[106,111,105,110],[76,105,115,116],[73,110,116],[66,111,111,108]]
abbrev sgB:List (List UInt8):=[[61,61],[45,62],[40],[41],[123],[125],[91],[93],[44],[58],[46],[61],[43],[45],[42],[47],[37],[60]]
abbrev kidsI:List Int:=[0,0,0,-1,2,3,2,-1,1,1,-1,-1,3]
theorem kwEq:(Rows.laid_splicery_lex_keywords:Uz Unit)=.agg (kwB.map λb=>.lit (.string b)):=Q3
theorem sgEq:(Rows.laid_splicery_lex_signs:Uz Unit)=.agg (sgB.map λb=>.lit (.string b)):=Q3
theorem kidsEq:(Rows.laid_splicery_whole_kids:Uz Unit)=.agg (kidsI.map λz=>.lit (.int .i64 z)):=Q3
theorem fitsEq:(Rows.laid_splicery_whole_fits:Uz Unit)=.map (iM.map λp=>(.int .i64 p.1,.lit (.int .i64 p.2))):=Q3
theorem kwVeq:kwV=kwB.map bs:=Q3
theorem sgVeq:NZ=sgB.map bs:=Q3
theorem kidsVeq:PX=kidsI.map (To .i64):=Q3
theorem OE{W:R0}(h:W0 RH oU W):laidMet RH (oU.filter λx=>x.2.handleName?.isNone) W:=by
 have hm : ("splicery/lex.kinds", Rows.laid_splicery_lex_kinds) ∈ oU.filter fun x => x.2.handleName?.isSome := List.mem_filter.2 ⟨List.Mem.tail _ (List.Mem.head _), by kernel_rfl⟩
 unfold W0 at h
 grind
theorem rW{W:R0}(h:W0 RH oU W){n:String}{d:Uz Unit}(hx:(n,d)∈oU)(hd:d.handleName?.isNone=true){g t:Nat}(hg:RH.globalNamed n=some g)(ht:(RH.globals[g]?).map (·.type)=some t) :
  ∃cs fuel p,W.var? RH n=some cs/\U8 (λ_=>()) RH W 0 (λ_=>true) false fuel t cs.toList=some (d,p):=by
 obtain⟨g',t',cs,fuel,p,hg',ht',hv,hd'⟩:=Go.Lib.laidMet.reads (OE h) (Sp.2 ⟨hx,hd⟩);obtain rfl:=TW (hg.symm.trans hg');obtain rfl:=TW (ht.symm.trans ht');exact⟨cs,fuel,p,hv,hd'⟩
theorem tj{W:R0}{n:String}{g:Nat}{cs:Array RK}(hg:RH.globalNamed n=some g)(hv:W.var? RH n=some cs){i:Nat}{u:RK}(hu:cs.toList[i]?=some u):ee (eu W) (WE ⟨g,0,none⟩ i)=some u:=by rw[vt,show WE ⟨g,0,none⟩ i=⟨g,i,none⟩ by have:=cy g 0 i;rw[Sz]at this;exact this,World.var?_cell hg hv i,<-Array.getElem?_toList,hu]
theorem list4{cs:List RK}(h:cs.length=4):∃a b c d,cs=[a,b,c,d]:=by
 match cs,h with
 |[a,b,c,d],_=>exact⟨a,b,c,d,rfl⟩
theorem PV{W:R0}(h:W0 RH oU W)(i:Nat)(u:RK)(hu:PW[i]?=some u):ee (eu W) (WE ⟨3,0,none⟩ i)=some u:=by
 obtain ⟨g, t, cs, fuel, p, hg, ht, hv, hd⟩ := h.funcs (n := "splicery/lex.kinds") (List.Mem.tail _ (List.Mem.head _))
 obtain rfl:=TW (gvar3.symm.trans hg);obtain rfl:=TW (tvar3.symm.trans ht);have hd1:U8 (funcToken RH) RH W 0 (λ_=>true) true fuel 276 cs.toList=some (.agg [.agg [.held [115,112,108,105,99,101,114,121,47,108,101,120,46,108,101,116,116,101,114],.held [115,112,108,105,99,101,114,121,47,108,101,120,46,101,105,116,104,101,114]],.agg [.held [115,112,108,105,99,101,114,121,47,108,101,120,46,100,105,103,105,116],.held [115,112,108,105,99,101,114,121,47,108,101,120,46,100,105,103,105,116]]],p):=hd;refine tj gvar3 hv ?_;obtain⟨h1,h2⟩:=zj uty276 hd1;rw[cty276]at h1;obtain⟨a,b,c,d,hcs⟩:=list4 h1;rw[hcs]at h2 ⊢;rw[cty275]at h2;obtain⟨m0,q0,e0⟩:=h2 0 _ rfl;obtain⟨m1,q1,e1⟩:=h2 1 _ rfl;have f0:=(zj NC e0).2;have f1:=(zj NC e1).2;rw[cty238]at f0 f1;obtain⟨_,_,a0⟩:=f0 0 _ rfl;obtain⟨_,_,b0⟩:=f0 1 _ rfl;obtain⟨_,_,c0⟩:=f1 0 _ rfl;obtain⟨_,_,d0⟩:=f1 1 _ rfl;obtain rfl:=XK (f0:=195) BR (by kernel_rfl) a0;obtain rfl:=XK (f0:=286) BR (by kernel_rfl) b0;obtain rfl:=XK (f0:=287) BR (by kernel_rfl) c0;obtain rfl:=XK (f0:=287) BR (by kernel_rfl) d0;exact hu
abbrev numOf(x:RK):Int:=match x with
 |.int _ n=>n
 |_=>0
abbrev PO(x:Lit×Uz Unit):Int×Int:=(match x.1 with
 |.int _ n=>n
 |_=>0,match x.2 with
 |.lit (.int _ n)=>n
 |_=>0)
theorem vj{H:Type}(x:Lit×Uz H):∀l:List (Lit×Uz H),(X5 x l).Perm (x::l)
 |[]=>.refl _
 |y::r=>by
  unfold X5;split
  .exact .refl _
  .exact((vj x r).cons y).trans (List.Perm.swap x y r)
theorem A2{H:Type}:∀l:List (Lit×Uz H),(l.foldr X5 []).Perm l
 |[]=>.refl _
 |x::l=>(vj x _).trans ((A2 l).cons x)
theorem J8{v:RK}{l:Lit}(h:keyOf RH 3 v=some l):∃n,v=.int .i64 n/\l=.int .i64 n:=by
 unfold keyOf at h;rw[uty3]at h;simp only at h;unfold mapKey at h;rw[uty3]at h
 grind
theorem fits_of{W:R0}(h:W0 RH oU W):∃(m:Nat) (es:Array TJ) (c:Nat) (l:List (Int×Int)),ee (eu W) ⟨0,0,none⟩=some (.map (some m))/\eu W m=some (.map es c)/\(es.toList.map λe=>(e.key,e.val))=l.map (λp=>(To .i64 p.1,To .i64 p.2))/\l.Perm iM:=by
 obtain ⟨cs, fuel, p, hv, hd⟩ := rW h (n := "splicery/whole.fits") (List.Mem.tail _ (List.Mem.tail _ (List.Mem.tail _ (List.Mem.head _)))) rfl gvar0 tvar0
 rw[fitsEq]at hd;obtain⟨_,hx⟩|⟨m,es,c,hcs,hb,_,F,hx⟩:=Go.WideMaps.open_map uty130 uty3 hd
 .simp at hx
 simp only[R6,DataW.map.injEq]at hx;have hp:=A2 (es.toList.map (Go.WideMaps.rg Unit RH 3 .i64));rw[<-hx.1]at hp;refine⟨m,es,c,es.toList.map λe=>(numOf e.key,numOf e.val),?_,hb,?_,?_⟩
 .have:=tj (W:=W) gvar0 hv (i:=0) (u:=.map (some m)) (by grind);exact this
 .rw[SP];refine TM λe he=>?_;obtain⟨y,hy⟩:=F.reads e he;obtain⟨n,hn,_⟩:=J8 (Yv hy);obtain⟨k,hk,_⟩:=Yw hy;simp[hn,hk]
 .have h2:=hp.symm.map PO;rw[SP,SP]at h2;have h3:iM.map (PO ∘ λp=>(ZW .i64 p.1,DataW.lit (.int .i64 p.2)))=iM:=Q3;rw[h3]at h2;refine Yr (List.Perm.of_eq (TM λe he=>?_)) h2;obtain⟨y,hy⟩:=F.reads e he;obtain⟨n,hn,hn2⟩:=J8 (Yv hy);obtain⟨k,hk,hk2,_⟩:=Yw hy;simp[Go.WideMaps.rg_of hy,PO,hn,hk,hn2,hk2]
theorem gr_of{W:R0}(h:W0 RH oU W):zu (eu W):=by
 refine⟨λq hq i u hu=>?_,fits_of h⟩;simp only[Kj,RO,List.not_mem_nil,or_false]at hq;obtain rfl|rfl|rfl|rfl:=hq
 ·obtain ⟨cs, fuel, p, hv, hd⟩ := rW h (n := "splicery/lex.keywords") (List.Mem.tail _ (List.Mem.tail _ (List.Mem.head _))) rfl gvar1 tvar1
  rw[kwEq]at hd;exact tj gvar1 hv (NT uty240 uty9 cty9 hd i u (by rw[<-kwVeq];exact hu))
 ·obtain ⟨cs, fuel, p, hv, hd⟩ := rW h (n := "splicery/whole.kids") (List.Mem.tail _ (List.Mem.tail _ (List.Mem.tail _ (List.Mem.tail _ (List.Mem.head _))))) rfl gvar2 tvar2
  rw[kidsEq]at hd;exact tj gvar2 hv (int_at uty242 uty3 cty3 hd i u (by rw[<-kidsVeq];exact hu))
 .exact PV h i u hu
 ·obtain ⟨cs, fuel, p, hv, hd⟩ := rW h (n := "splicery/lex.signs") (List.Mem.head _) rfl gvar4 tvar4
  rw[sgEq]at hd;exact tj gvar4 hv (NT uty277 uty9 cty9 hd i u (by rw[<-sgVeq];exact hu))
theorem QJ(os:Os)(args:Array RK):W0 RH oU ((World.doorLaid RH 3000 os).forCall (λ_ _=>0) ⟨#[],args,[]⟩).memory :=
 laidMetH_of_parts3 (fuel:=8) (laidMet_of_run' 8 (by kernel_rfl) (by kernel_rfl)) (by kernel_rfl) (by kernel_rfl)
end Go.Proofs.YtmbboaapillefaaGreatDoor
namespace Pm
open Go Xe
instance:Inhabited D:=⟨.v (.bool false)⟩
inductive C where
 |d (x:D)
 |n
 |l (sz:Nat)
 |p (b off:Nat)
 |q (b sz k j:Nat)
 |w (b:Nat)
 |m (b:Nat)
 |f (g:Nat) (cs:List C)
 |z
 |u
 |e (b i:Nat)
 |y (b q sz l n:Nat)
 |k (g:Nat)
 deriving Inhabited
inductive S where
 |c (x:C)
 |a (n:Nat) (ds:List D)
 |g (cs:List C)
 |r (n:Nat) (ds:List D) (o:Nat)
 |t (l:List S)
 deriving Inhabited
inductive O where
 |b (e:RX) (cs:List C)
 |a (e n:Nat) (ds:List D)
 |w (e sz n:Nat) (ds:List D)
 |v (e sz n:Nat) (cs:List C)
 |s (sz n:Nat) (ds:List D)
 |m (t:RX) (ag:Bool) (vs n:Nat) (ds:List D)
 |ms (t:RX) (ag:Bool) (vs n:Nat) (ds:List D)
 |it (ag:Bool) (vs:Nat) (cur:Option (List D)) (n:Nat) (ds:List D)
 |x (e sz n:Nat) (ds:List D)
 |h (e sz n:Nat) (ds:List D) (j:Nat) (c:C)
 |dK
structure Fr where
 sl:Nat->S
 ob:Nat->Option O
 aV:Nat
def su:S:=.c .u
def Fr.put(fr:Fr)(t:Nat)(v:S):Fr:=⟨λk=>match RN k t with
 |true=>v
 |false=>fr.sl k,fr.ob,fr.aV⟩
def Fr.set(fr:Fr)(b:Nat)(o:O):Fr:=⟨fr.sl,λk=>match RN k b with
 |true=>some o
 |false=>fr.ob k,fr.aV⟩
def cell(ds:List D)(i:Nat):D:=ds.getD i default
def sub(ds:List D)(o n:Nat):List D:=(ds.drop o).take n
def el(ds:List D)(sz k:Nat):List D:=(ds.drop (k*sz)).take sz
def cB(ds:List D)(o:Nat)(vs:List D):List D:=ds.take o++vs++ds.drop (o+vs.length)
def cells(n:Nat)(ds:List D):List D:=(W6 n).map (cell ds)
def P3:D->Int
 |.v (.int .i64 z)=>z
 |_=>0
def yw(a b c:Int)(ds:List D):Bool:=decide (P3 (cell ds 0)=a/\P3 (cell ds 1)=b/\P3 (cell ds 2)=c)
def bA(sz:Nat)(a b c:Int):Nat->List D->Option (List D)
 |0,_=>none
 |n+1,ds=>match yw a b c ds with
  |true=>some ((ds.take sz).drop 3)
  |false=>bA sz a b c n (ds.drop sz)
def dc(sz:Nat)(a b c:Int)(vs:List D):Nat->List D->List D
 |0,ds=>.v (.int .i64 a)::.v (.int .i64 b)::.v (.int .i64 c)::vs++ds
 |n+1,ds=>match yw a b c ds with
  |true=>ds.take 3++vs++ds.drop sz
  |false=>ds.take sz++dc sz a b c vs n (ds.drop sz)
def fM(sz:Nat)(a b c:Int)(n:Nat)(ds:List D):Nat:=match bA sz a b c n ds with
 |some _=>n
 |none=>n+1
inductive jx where
 |d
 |i
 |bo
 |p (b off:Nat)
 |w (b:Nat)
 |m (b:Nat)
 |f (g:Nat) (cs:List jx)
 |y (b sz:Nat)
inductive lW where
 |c (x:jx)
 |a (n:Nat)
 |g (cs:List jx)
 |t (l:List lW)
inductive mh where
 |b (e:RX) (cs:List jx)
 |a (e n:Nat)
 |w (e sz:Nat)
 |v (e sz n:Nat) (cs:List jx)
 |m (t:RX) (ag:Bool) (vs:Nat)
 |ms (t:RX) (ag:Bool) (vs:Nat)
 |it (ag:Bool) (vs:Nat)
 |x (e sz:Nat)
 |h (e sz i:Nat)
structure Sh where
 sl:List (Nat×lW)
 ob:List (Nat×mh)
abbrev bT:=List (List D)
structure bC where
 f:Nat
 ins:Sh
 out:lW
 js:List (Nat×mh)
 E4:Bool
structure Tb where
 sg:List bC
 eq3:List Nat
 deep:List Nat
 eqa:List Nat
 gl:List (Nat×List D)
 gm:List (Nat×List (Int×Int))
 hp:Bool
 eqs:List (Nat×Nat)
 nd:Bool
 ic:Bool
 cs:List Nat
structure Cx where
 is:bC->bT->bT->Prop
 inl:Nat->List S->List (Nat×O)->S->List (Nat×O)->Prop
def ar(x:D)(k:Int->Prop):Prop:=match x with
 |.v (.int .i64 z)=>k z
 |_=>False
def pc(x:D)(k:Bool->Prop):Prop:=match x with
 |.v (.bool b)=>k b
 |_=>False
def rL(x:D)(k:ByteArray->Prop):Prop:=match x with
 |.v (.string s)=>k s
 |_=>False
def aG(sz:Nat)(x:D)(k:Nat->List D->Prop):Prop:=match x with
 |.sl n s cs=>(match RN s sz with
  |true=>k n cs
  |false=>False)
 |_=>False
def qv(kd:Tl)(x:D)(k:Int->Prop):Prop:=match x with
 |.v (.int kd' z)=>kd'=kd/\k z
 |_=>False
def nH(kd:Tl):List D->Option (List Int)
 |[]=>some []
 |.v (.int kd' z)::l=>(match decEq kd' kd with
  |.isTrue _=>(match nH kd l with
   |some b=>some (z::b)
   |none=>none)
  |.isFalse _=>none)
 |_=>none
def QY(kd:Tl)(cs:List D)(k:List Int->Prop):Prop:=match nH kd cs with
 |some b=>k b
 |none=>False
def strB(zs:List Int):ByteArray:=⟨(zs.map λz=>UInt8.ofNat z.toNat).toArray⟩
def az(p:Prop)(k:Prop):Prop:=p/\k
def ax(b:Bool)(k h:Prop):Prop:=match b with
 |true=>k
 |false=>h
def bO:Option O->Option O
 |some (.w e sz n _)=>some (.w e sz n [])
 |some (.v e sz n _)=>some (.v e sz n [])
 |some (.s sz n _)=>some (.s sz n [])
 |some (.x e sz n _)=>some (.x e sz n [])
 |some (.h e sz n _ _ _)=>some (.w e sz n [])
 |_=>none
inductive bn where
 |no
 |ret (v:Option S) (ob:List (Nat×O))
 |LF (t:Nat) (k:S->bn)
 |lZ (b:Nat) (k:Option O->bn)
 |LG (b:Nat) (k:Option O->bn)
 |i (x:D) (k:Int->bn)
 |bo (x:D) (k:Bool->bn)
 |st (x:D) (k:ByteArray->bn)
 |ik (kd:Tl) (x:D) (k:Int->bn)
 |Gv (kd:Tl) (cs:List D) (k:List Int->bn)
 |sc (sz:Nat) (x:D) (k:Nat->List D->bn)
 |wx (b:Bool) (p q:bn)
 |ck (p:Prop) (d:Decidable p) (k:bn)
 |ca (s:bC) (a:bT) (k:bT->bn)
 |inl (id f:Nat) (xs:List S) (ob:List (Nat×O)) (k:S->List (Nat×O)->bn)
abbrev iZ(p:Prop)[d:Decidable p](k:bn):bn:=.ck p d k
structure Qs(α:Type) where
 i:D->(Int->α)->α
 bo:D->(Bool->α)->α
 sc:Nat->D->(Nat->List D->α)->α
def qk:Qs bn:=⟨.i,.bo,.sc⟩
def bg:Qs Prop:=⟨ar,pc,aG⟩
inductive Tg where
 |ob (b:Nat)
 |nil (sz:Nat)
structure Pk where
 mp:List (Nat×Tg)
 fix:List Nat
def bL:List (Nat×Tg)->Nat->Option Tg
 |[],_=>none
 |(i,x)::l,j=>match RN j i with
  |true=>some x
  |false=>bL l j
def HN:List (Nat×Tg)->Nat->Bool
 |[],_=>false
 |(_,.ob b)::l,j=>match RN j b with
  |true=>true
  |false=>HN l j
 |(_,.nil _)::l,j=>HN l j
def Pk.Mx(k:Pk)(i b:Nat):Option Pk:=match bL k.mp i with
 |some (.ob b')=>(match RN b b' with
  |true=>some k
  |false=>none)
 |some (.nil _)=>none
 |none=>match HN k.mp b with
  |true=>none
  |false=>some ⟨(i,.ob b)::k.mp,k.fix⟩
def Pk.CG(k:Pk)(i sz:Nat):Option Pk:=match bL k.mp i with
 |some _=>none
 |none=>some ⟨(i,.nil sz)::k.mp,k.fix⟩
abbrev Ob:=Nat->Option O
def qR(ob:Ob):List C->Option (List D×List Nat)
 |[]=>some ([],[])
 |.d x::l=>(match qR ob l with
  |some (ds,bs)=>some (x::ds,bs)
  |none=>none)
 |.l sz::l=>(match qR ob l with
  |some (ds,bs)=>some (.sl 0 sz []::ds,bs)
  |none=>none)
 |.w b::l=>(match ob b with
  |some (.w _ sz n xs)=>(match qR ob l with
   |some (ds,bs)=>some (.sl n sz xs::ds,b::bs)
   |none=>none)
  |some (.s sz n xs)=>(match qR ob l with
   |some (ds,bs)=>some (.sl n sz xs::ds,bs)
   |none=>none)
  |_=>none)
 |_::_=>none
def Ey(ob:Ob)(k:Pk):jx->C->Option (List D×Pk)
 |.d,.d x=>some ([x],k)
 |.d,.l sz=>some ([.sl 0 sz []],k)
 |.i,.d x=>some ([x],k)
 |.bo,.d x=>some ([x],k)
 |.d,.w b=>(match ob b with
  |some (.w _ sz n ds)=>some ([.sl n sz ds],⟨k.mp,b::k.fix⟩)
  |some (.s sz n ds)=>some ([.sl n sz ds],k)
  |some (.v _ sz n ws)=>(match qR ob ws with
   |some (ds,bs)=>some ([.sl n sz ds],⟨k.mp,bs++b::k.fix⟩)
   |none=>none)
  |some (.h _ sz n ds j c)=>(match qR ob [c]with
   |some ([x],bs)=>some ([.sl n sz (cB ds j [x])],⟨k.mp,bs++b::k.fix⟩)
   |_=>none)
  |_=>none)
 |.p i off,.p b off'=>(match RN off off' with
  |true=>(k.Mx i b).map λk=>([],k)
  |false=>none)
 |.w i,.w b=>(k.Mx i b).map λk=>([],k)
 |.w i,.l sz=>(k.CG i sz).map λk=>([],k)
 |.m i,.m b=>(k.Mx i b).map λk=>([],k)
 |.y i sz,.y b q sz' l n=>(match RN q 0 && RN sz sz' with
  |true=>(k.Mx i b).map λk=>([.v (.int .i64 (l:Int)),.v (.int .i64 (n:Int))],k)
  |false=>none)
 |_,_=>none
def qW(ob:Ob):Pk->List jx->List C->Option (List D×Pk)
 |k,[],[]=>some ([],k)
 |k,s::ss,c::cs=>(match Ey ob k s c with
  |some (d,k)=>(match qW ob k ss cs with
   |some (ds,k)=>some (d++ds,k)
   |none=>none)
  |none=>none)
 |_,_,_=>none
def Jw(ob:Ob)(k:Pk):jx->C->Option (List D×Pk)
 |.f g cs,.f g' cs'=>(match RN g g' with
  |true=>qW ob k cs cs'
  |false=>none)
 |s,c=>Ey ob k s c
def jh(ob:Ob):Pk->List jx->List C->Option (List D×Pk)
 |k,[],[]=>some ([],k)
 |k,s::ss,c::cs=>(match Jw ob k s c with
  |some (d,k)=>(match jh ob k ss cs with
   |some (ds,k)=>some (d++ds,k)
   |none=>none)
  |none=>none)
 |_,_,_=>none
def dsh:Nat->List jx
 |0=>[]
 |n+1=>.d::dsh n
def OG(ob:Ob)(k:Pk):lW->S->Option (List D×Pk)
 |.c s,.c x=>Jw ob k s x
 |.a n,.a m ds=>(match RN n m with
  |true=>some (ds,k)
  |false=>none)
 |.a n,.g cs=>jh ob k (dsh n) cs
 |.g ss,.g cs=>jh ob k ss cs
 |.g ss,.a n ds=>jh ob k ss ((cells n ds).map C.d)
 |_,_=>none
def isD:jx->Bool
 |.d=>true
 |.i=>true
 |.bo=>true
 |.y _ _=>true
 |_=>false
def MP:jx->Bool
 |.d=>true
 |.i=>true
 |.bo=>true
 |.y _ _=>true
 |.f _ cs=>cs.any isD
 |_=>false
def uz:lW->Bool
 |.c s=>MP s
 |.a _=>true
 |.g cs=>cs.any MP
 |.t _=>false
def oE(ob:Ob)(sl:Nat->S):Pk->List (Nat×lW)->Option (bT×Pk)
 |k,[]=>some ([],k)
 |k,(t,s)::l=>match OG ob k s (sl t) with
  |some (ds,k)=>(match oE ob sl k l with
   |some (r,k)=>(match uz s with
    |true=>some (ds::r,k)
    |false=>some (r,k))
   |none=>none)
  |none=>none
def OH(ob:Ob)(k:Pk)(i:Nat)(o:mh):Option (List D×Pk):=match bL k.mp i with
 |some (.ob b)=>(match o,ob b with
  |.b e cs,some (.b e' cs')=>(match RN e e' with
   |true=>jh ob k cs cs'
   |false=>none)
  |.b e cs,some (.a e' n ds)=>(match RN e e' with
   |true=>jh ob k cs ((cells n ds).map C.d)
   |false=>none)
  |.a e n,some (.a e' n' ds)=>(match RN e e' with
   |true=>(match RN n n' with
    |true=>some (ds,k)
    |false=>none)
   |false=>none)
  |.a e n,some (.b e' cs')=>(match RN e e' with
   |true=>jh ob k (dsh n) cs'
   |false=>none)
  |.w e sz,some (.w e' sz' n ds)=>(match RN e e' with
   |true=>(match RN sz sz' with
    |true=>some ([.sl n sz ds],k)
    |false=>none)
   |false=>none)
  |.v e sz n cs,some (.v e' sz' n' cs')=>(match RN e e' && RN sz sz' && RN n n' with
   |true=>jh ob k cs cs'
   |false=>none)
  |.m t ag vs,some (.m t' ag' vs' n ds)=>(match RN t t' && WH (ag == ag') (RN vs vs') with
   |true=>some ([.sl n (3+vs) ds],k)
   |false=>none)
  |.ms t ag vs,some (.ms t' ag' vs' n ds)=>(match RN t t' && WH (ag == ag') (RN vs vs') with
   |true=>some ([.sl n (3+vs) ds],k)
   |false=>none)
  |.x e sz,some (.x e' sz' n ds)=>(match RN e e' && RN sz sz' with
   |true=>some ([.sl n sz ds],k)
   |false=>none)
  |.x e sz,some (.w e' sz' n ds)=>(match RN e e' && RN sz sz' with
   |true=>some ([.sl n sz ds],k)
   |false=>none)
  |.it ag vs,some (.it ag' vs' _ n ds)=>(match WH (ag == ag') (RN vs vs') with
   |true=>some ([.sl n (3+vs) ds],k)
   |false=>none)
  |.h e sz q,some (.h e' sz' n ds j c)=>(match RN e e' && RN sz sz' with
   |true=>(match Ey ob k (.w q) c with
    |some (_,k)=>some ([.sl n sz ds,.v (.int .i64 (j:Int))],k)
    |none=>none)
   |false=>none)
  |_,_=>none)
 |some (.nil sz)=>(match o with
  |.w _ sz'=>(match RN sz sz' with
   |true=>some ([.sl 0 sz []],k)
   |false=>none)
  |_=>none)
 |none=>none
def CL:mh->Bool
 |.b _ cs=>cs.any MP
 |.v _ _ _ cs=>cs.any MP
 |_=>true
def oF(ob:Ob):Pk->List (Nat×mh)->Option (bT×Pk)
 |k,[]=>some ([],k)
 |k,(i,o)::l=>match OH ob k i o with
  |some (ds,k)=>(match oF ob k l with
   |some (r,k)=>(match CL o with
    |true=>some (ds::r,k)
    |false=>some (r,k))
   |none=>none)
  |none=>none
def oS(obs:List (Nat×mh)):List (Nat×Tg)->Bool
 |[]=>true
 |(i,_)::l=>match obs.any λx=>RN x.1 i with
  |true=>oS obs l
  |false=>false
def rA(mp:List (Nat×Tg)):List Nat->Bool
 |[]=>true
 |b::l=>match HN mp b with
  |true=>false
  |false=>rA mp l
def nA:List (Nat×mh)->Bool
 |[]=>true
 |(i,_)::l=>match l.any λx=>RN x.1 i with
  |true=>false
  |false=>nA l
def Ha(sh:Sh)(fr:Fr):Option (bT×Pk):=match oE fr.ob fr.sl ⟨[],[]⟩ sh.sl with
 |some (r,k)=>(match oF fr.ob k sh.ob with
  |some (r',k)=>(match oS sh.ob k.mp && rA k.mp k.fix && nA sh.ob with
   |true=>some (r++r',k)
   |false=>none)
  |none=>none)
 |none=>none
section
variable {α:Type} (Q:Qs α)
def unB(ds:List D)(j:Nat)(s:jx)(k:C->Nat->α):α:=match s with
 |.d=>k (.d (cell ds j)) (j+1)
 |.i=>Q.i (cell ds j) λz=>k (.d (.v (.int .i64 z))) (j+1)
 |.bo=>Q.bo (cell ds j) λz=>k (.d (.v (.bool z))) (j+1)
 |.p b off=>k (.p b off) j
 |.w b=>k (.w b) j
 |.m b=>k (.m b) j
 |.f _ _=>k .u j
 |.y b sz=>Q.i (cell ds j) λl=>Q.i (cell ds (j+1)) λn=>k (.y b 0 sz l.toNat n.toNat) (j+2)
def BS(ds:List D):Nat->List jx->(List C->Nat->α)->α
 |j,[],k=>k [] j
 |j,s::ss,k=>unB Q ds j s λc j=>BS ds j ss λcs j=>k (c::cs) j
def unC(ds:List D)(j:Nat)(s:jx)(k:C->Nat->α):α:=match s with
 |.f g cs=>BS Q ds j cs λcs j=>k (.f g cs) j
 |s=>unB Q ds j s k
def wZ(ds:List D):Nat->List jx->(List C->Nat->α)->α
 |j,[],k=>k [] j
 |j,s::ss,k=>unC Q ds j s λc j=>wZ ds j ss λcs j=>k (c::cs) j
def Nv(ds:List D)(s:lW)(k:S->α):α:=match s with
 |.c s=>unC Q ds 0 s λc _=>k (.c c)
 |.a n=>k (.a n ds)
 |.g cs=>wZ Q ds 0 cs λcs _=>k (.g cs)
 |.t _=>k su
def ae(r:bT)(j:Nat):List D:=r.getD j []
def fk(s:Bool)(r:bT)(j:Nat):List D×Nat:=match s with
 |true=>(ae r j,j+1)
 |false=>([],j)
def qD(r:bT):Nat->List (Nat×lW)->(Nat->S)->((Nat->S)->Nat->α)->α
 |j,[],f,k=>k f j
 |j,(t,s)::l,f,k=>Nv Q (fk (uz s) r j).1 s λx=>qD r (fk (uz s) r j).2 l (λi=>match RN i t with
   |true=>x
   |false=>f i) k
def unO(ds:List D)(o:mh)(k:O->α):α:=match o with
 |.b e cs=>wZ Q ds 0 cs λcs _=>k (.b e cs)
 |.v e sz n cs=>wZ Q ds 0 cs λcs _=>k (.v e sz n cs)
 |.a e n=>k (.a e n ds)
 |.w e sz=>Q.sc sz (cell ds 0) λn cs=>k (.w e sz n cs)
 |.m t ag vs=>Q.sc (3+vs) (cell ds 0) λn cs=>k (.m t ag vs n cs)
 |.ms t ag vs=>Q.sc (3+vs) (cell ds 0) λn cs=>k (.ms t ag vs n cs)
 |.x e sz=>Q.sc sz (cell ds 0) λn cs=>k (.x e sz n cs)
 |.it ag vs=>Q.sc (3+vs) (cell ds 0) λn cs=>k (.it ag vs none n cs)
 |.h e sz q=>Q.sc sz (cell ds 0) λn cs=>Q.i (cell ds 1) λz=>k (.h e sz n cs z.toNat (.w q))
def Dj(b:Nat)(o:O)(f:Ob):Ob:=λk=>match RN k b with
 |true=>some o
 |false=>f k
def vH(r:bT):Nat->List (Nat×mh)->Ob->(Ob->α)->α
 |_,[],f,k=>k f
 |j,(b,o)::l,f,k=>unO Q (fk (CL o) r j).1 o λx=>vH r (fk (CL o) r j).2 l (Dj b x f) k
def rz:List (Nat×mh)->Nat
 |[]=>0
 |(i,_)::l=>Nat.max (i+1) (rz l)
def cu(sh:Sh)(r:bT)(k:Fr->α):α:=qD Q r 0 sh.sl (λ_=>su) λsl j=>vH Q r j sh.ob (λ_=>none) λob=>k ⟨sl,ob,rz sh.ob⟩
end
def Gs(P:RV)(t:RX):Option Nat:=match P.info? t with
 |some i=>some i.size
 |none=>none
def zS(P:RV)(t:RX):Option Nat:=match P.underlying t with
 |some (.struct _)=>Gs P t
 |some (.array ..)=>Gs P t
 |_=>none
def CY(P:RV)(t:RX):Option (Nat×Nat):=match P.underlying t with
 |some (.slice e)=>(match Gs P e with
   |some sz=>some (e,sz)
   |none=>none)
 |_=>none
def gw(P:RV)(t:RX):Nat:=match P.info? t with
 |some i=>i.bytes
 |none=>0
def rq(P:RV)(s i:Nat):Option (Nat×Nat):=match P.underlying s with
 |some (.struct fs)=>(match fs[i]? with
   |some f=>(match P.info? f.type with
     |some j=>(match j.size with
       |0=>none
       |_+1=>some (f.offset,f.type))
     |none=>none)
   |none=>none)
 |_=>none
def Ib(P:RV):Nat->RX->List RX
 |0,t=>[t]
 |n+1,t=>match P.underlying t with
   |some (.struct fs)=>fs.toList.flatMap λf=>Ib P n f.type
   |some (.array k e)=>(Sj k (Ib P n e)).flatten
   |_=>[t]
def zC(P:RV)(t:RX)(v:RK):Option C:=match v,CY P t with
 |.slice none 0 0,some (_,sz)=>some (.l sz)
 |v,_=>match v.oneCell' with
   |true=>some (.d (.v v))
   |false=>none
def wP(P:RV):List RX->List RK->Option (List C)
 |[],[]=>some []
 |t::ts,v::vs=>(match zC P t v,wP P ts vs with
   |some d,some ds=>some (d::ds)
   |_,_=>none)
 |_,_=>none
def kF(P:RV)(t:RX):Option (List C):=match kE P t with
 |some v=>wP P (Ib P 4 t) v.cells.toList
 |none=>none
def zA:List C->Option (List D)
 |[]=>some []
 |.d x::l=>(match zA l with
   |some ds=>some (x::ds)
   |none=>none)
 |.l sz::l=>(match zA l with
   |some ds=>some (.sl 0 sz []::ds)
   |none=>none)
 |_::_=>none
def HG:Option RK->Bool
 |some (.agg _)=>true
 |_=>false
def conS:RK->S
 |.slice none 0 0=>.c .n
 |.agg cs=>(match cs.toList.all UD with
   |true=>.a cs.toList.length (cs.toList.map D.v)
   |false=>su)
 |v=>match v.oneCell' with
   |true=>.c (.d (.v v))
   |false=>su
def cP(x:R4)(k:S->bn):bn:=match x with
 |.tmp t=>.LF t k
 |.const v=>k (conS v)
 |.func f=>k (.c (.f f []))
 |.global _=>.no
def eJ(P:RV)(t:RX)(s:S):S:=match s with
 |.c .n=>(match CY P t with
   |some (_,sz)=>.c (.l sz)
   |none=>s)
 |s=>s
def nilC:C->C
 |.l _=>.d (.v (.slice none 0 0))
 |c=>c
def qf(hp:Bool)(s:S):S:=match hp with
 |false=>s
 |true=>match s with
   |.c c=>.c (nilC c)
   |.g cs=>.g (cs.map nilC)
   |s=>s
def x9(P:RV)(t:RX)(s:S):S:=match s with
 |.c (.d (.v v))=>(match v with
   |.slice none 0 0=>eJ P t (.c .n)
   |.func (.func g) fs cs=>(match fs.toList,cs.toList with
     |[],[]=>.c (.f g [])
     |_,_=>s)
   |_=>s)
 |s=>s
def cr(v:S):bn:=.ret (some v) []
def zM:Option S->bn
 |some v=>cr v
 |none=>.no
def jT(id:Nat)(s:S)(os:List (Nat×O))(o:O):bn:=.lZ id λx=>match x with
 |none=>.ret (some s) (os++[(id,o)])
 |some _=>.no
def mH(s:S)(k:Int->bn):bn:=match s with
 |.c (.d x)=>.i x k
 |_=>.no
def F9(s:S)(k:Bool->bn):bn:=match s with
 |.c (.d x)=>.bo x k
 |_=>.no
def xa(s:S)(k:ByteArray->bn):bn:=match s with
 |.c (.d x)=>.st x k
 |_=>.no
def nk(z:Int):bn:=cr (.c (.d (.v (.int .i64 z))))
def mA(b:Bool):bn:=cr (.c (.d (.v (.bool b))))
def aZ(z:Int):Prop:=-9223372036854775808<=z/\z<=9223372036854775807
instance (z:Int):Decidable (aZ z):=by unfold aZ;exact inferInstance
def Lj(sz:Nat)(s:S)(k:Nat->List D->bn):bn:=match s with
 |.c (.l sz')=>(match RN sz' sz with
   |true=>k 0 []
   |false=>.no)
 |.c (.d x)=>.sc sz x k
 |.c (.w b)=>.lZ b λo=>(match o with
   |some (.w _ sz' n ds)=>(match RN sz' sz with
     |true=>k n ds
     |false=>.no)
   |some (.s sz' n ds)=>(match RN sz' sz with
     |true=>k n ds
     |false=>.no)
   |some (.x _ sz' n ds)=>(match RN sz' sz with
     |true=>k n ds
     |false=>.no)
   |_=>.no)
 |_=>.no
def FV(c:C)(k:D->List (Nat×O)->bn):bn:=match c with
 |.d x=>k x []
 |.l sz=>k (.sl 0 sz []) []
 |.w b=>.lZ b λo=>(match o with
   |some (.w _ sz n ds)=>k (.sl n sz ds) [(b,.s sz n ds)]
   |some (.s sz n ds)=>k (.sl n sz ds) []
   |_=>.no)
 |_=>.no
def FU:List C->(List D->List (Nat×O)->bn)->bn
 |[],k=>k [] []
 |c::cs,k=>FV c λd o=>FU cs λds os=>k (d::ds) (o++os)
def Gx(s:S)(k:Nat->List D->List (Nat×O)->bn):bn:=match s with
 |.c c=>FV c λd os=>k 1 [d] os
 |.a n ds=>k n ds []
 |.g cs=>FU cs λds os=>k cs.length ds os
 |_=>.no
def zB:C->Bool
 |.u=>false
 |.z=>false
 |_=>true
def gV:S->Option (List C)
 |.c c=>(match zB c with
   |true=>some [c]
   |false=>none)
 |.a n ds=>some ((cells n ds).map C.d)
 |.g cs=>(match cs.all zB with
   |true=>some cs
   |false=>none)
 |_=>none
def nP(P:RV)(t:RX)(n:Nat)(ds:List D)(o:Nat):Option S:=match jJ P t with
 |true=>(match Tw o n with
   |true=>some (.c (.d (cell ds o)))
   |false=>none)
 |false=>match zS P t with
   |some m=>(match RN o 0 && RN m n with
     |true=>some (.a n ds)
     |false=>(match TX (o+m) n with
       |true=>some (.a m (sub ds o m))
       |false=>none))
   |none=>none
def sD(P:RV)(t:RX)(cs:List C)(o:Nat):Option S:=match jJ P t with
 |true=>(match cs[o]? with
   |some c=>some (.c c)
   |none=>none)
 |false=>match zS P t with
   |some m=>(match TX (o+m) cs.length with
     |true=>some (.g ((cs.drop o).take m))
     |false=>none)
   |none=>none
def nU:List C->Option (List D)
 |[]=>some []
 |.d x::l=>(match nU l with
   |some ds=>some (x::ds)
   |none=>none)
 |_::_=>none
def JT(P:RV)(t:RX)(n:Nat)(ds:List D)(i:Nat):bn:=match jJ P t with
 |true=>iZ (i<n) (cr (.c (.d (cell ds i))))
 |false=>match zS P t with
   |some m=>iZ (i+m<=n) (cr (.a m (sub ds i m)))
   |none=>.no
def PJ(P:RV)(t:RX)(s:S):bn:=match s with
 |.r n ds o=>zM (nP P t n ds o)
 |.c (.p b o)=>.lZ b λx=>(match x with
   |some (.a _ n ds)=>zM (nP P t n ds o)
   |some (.b _ cs)=>zM (sD P t cs o)
   |_=>.no)
 |.c (.q b sz k j)=>.lZ b λx=>(match x with
   |some (.w _ sz' _ ds)=>(match RN sz' sz with
     |true=>zM (nP P t sz (el ds sz k) j)
     |false=>.no)
   |some (.s sz' _ ds)=>(match RN sz' sz with
     |true=>zM (nP P t sz (el ds sz k) j)
     |false=>.no)
   |some (.x _ sz' _ ds)=>(match RN sz' sz with
     |true=>zM (nP P t sz (el ds sz k) j)
     |false=>.no)
   |some (.v _ sz' _ cs)=>(match RN sz' sz with
     |true=>zM (sD P t ((cs.drop (k*sz)).take sz) j)
     |false=>.no)
   |some (.h _ sz' _ _ i c)=>(match RN sz' sz && jJ P t with
     |true=>iZ (k*sz+j=i) (cr (.c c))
     |false=>.no)
   |_=>.no)
 |.c (.e b i)=>.lZ b λx=>(match x with
   |some (.a _ n ds)=>JT P t n ds i
   |some (.b _ cs)=>(match nU cs with
     |some ds=>JT P t cs.length ds i
     |none=>.no)
   |_=>.no)
 |_=>.no
def xo(cs:List C)(o:Nat)(vs:List C):List C:=cs.take o++vs++cs.drop (o+vs.length)
def ry:O->Option (Nat×List C)
 |.a e n ds=>some (e,(cells n ds).map C.d)
 |.b e cs=>some (e,cs)
 |_=>none
def Km:S->Option (Nat×List D)
 |.a n ds=>some (n,ds)
 |.c (.d x)=>some (1,[x])
 |_=>none
def Nq(m:Nat)(x:O)(o:Nat)(v:S):Option O:=match x with
 |.a e n ds=>(match Tw 40 n && Bool.not (RN m n),Km v with
   |true,some (m',vs)=>(match RN m m' && TX (o+m) n with
     |true=>some (.a e n (cB ds o vs))
     |false=>none)
   |_,_=>none)
 |_=>none
def qG(m:Nat)(x:O)(o:Nat)(v:S):Option O:=match Nq m x o v with
|some y=>some y
|none=>match ry x with
 |none=>none
 |some (e,us)=>match v with
   |.a m' vs=>(match RN o 0 && RN m' us.length && RN m m' with
     |true=>some (.a e m' vs)
     |false=>(match RN m' m && TX (o+m) us.length with
       |true=>some (.b e (xo us o ((cells m' vs).map C.d)))
       |false=>none))
   |v=>(match gV v with
     |some cs=>(match RN cs.length m && TX (o+m) us.length with
       |true=>some (.b e (xo us o cs))
       |false=>none)
     |none=>none)
def qF(P:RV)(t:RX)(s v:S):bn:=match Gs P t with
 |none=>.no
 |some m=>match s with
   |.c (.p b o)=>.lZ b λx=>(match x with
     |some x=>(match qG m x o v with
       |some y=>.ret none [(b,y)]
       |none=>.no)
     |none=>.no)
   |.c (.q b sz k j)=>.lZ b λx0=>match x0 with
     |some (.v e sz' n us)=>(match gV v with
       |some cs=>(match RN cs.length m && RN sz sz' && TX (j+m) sz with
         |true=>.ret none [(b,.v e sz n (xo us (k*sz+j) cs))]
         |false=>.no)
       |none=>.no)
     |_=>Gx v λm' vs os=>(match RN m m' with
     |true=>.lZ b λx=>(match x with
       |some (.w e sz' n ds)=>(match RN sz sz' && TX (j+m) sz with
         |true=>(match os.any λp=>RN p.1 b with
           |true=>.no
           |false=>.ret none (os++[(b,.w e sz n (cB ds (k*sz+j) vs))]))
         |false=>.no)
       |_=>.no)
     |false=>.no)
   |.c (.e b i)=>Gx v λm' vs os=>(match RN m m' with
     |true=>.lZ b λx=>(match os.any λp=>RN p.1 b with
       |true=>.no
       |false=>match x with
         |some (.a e n ds)=>iZ (i+m<=n) (.ret none (os++[(b,.a e n (cB ds i vs))]))
         |some (.b e cs)=>(match nU cs with
           |some ds=>iZ (i+m<=cs.length) (.ret none (os++[(b,.a e cs.length (cB ds i vs))]))
           |none=>.no)
         |_=>.no)
     |false=>.no)
   |_=>.no
def AX(P:RV)(t:RX)(b sz k j:Nat)(c:C):bn:=.lZ b λx=>match x,Gs P t with
 |some (.w e sz' n ds),some 1=>(match RN sz sz' && Tw j sz with
   |true=>.ret none [(b,.h e sz n ds (k*sz+j) c)]
   |false=>.no)
 |some (.h e sz' n ds i _),some 1=>(match RN sz sz' with
   |true=>iZ (k*sz+j=i) (.ret none [(b,.h e sz n ds i c)])
   |false=>.no)
 |_,_=>.no
def JB(P:RV)(hp:Bool)(t:RX)(s v:S):bn:=match s,v with
 |.c (.q b sz k j),.c (.l z)=>AX P t b sz k j (.l z)
 |.c (.q b sz k j),.c (.w q)=>AX P t b sz k j (.w q)
 |s,v=>qF P t s (qf hp v)
def HW(P:RV)(t:RX)(s:S)(i:Nat):bn:=match rq P t i with
 |none=>.no
 |some (off,_)=>match s with
   |.r n ds o=>cr (.r n ds (o+off))
   |.c (.p b o)=>cr (.c (.p b (o+off)))
   |.c (.q b sz k j)=>cr (.c (.q b sz k (j+off)))
   |.c (.e b i)=>cr (.c (.e b (i+off)))
   |_=>.no
def CT(P:RV)(t:RX)(s:S)(i:Nat):bn:=match rq P t i with
 |none=>.no
 |some (off,ft)=>match s with
   |.a n ds=>zM (nP P ft n ds off)
   |.g cs=>zM (sD P ft cs off)
   |_=>.no
def OF:Nat->Nat->Int->(Nat->bn)->bn
 |0,_,_,_=>.no
 |n+1,j,z,k=>.wx (decide (z=(j:Int))) (k j) (OF n (j+1) z k)
def Dg(P:RV)(t:RX):Option (Nat×Nat×Nat):=match P.underlying t with
 |some (.array n e)=>(match Gs P e with
   |some sz=>(match Tw 0 sz && (Tw 1 n && TX n 1000000) with
     |true=>some (n,e,sz)
     |false=>none)
   |none=>none)
 |_=>none
def KH(s:S)(k:Nat->Nat->bn):bn:=match s with
 |.c (.p b o)=>k b o
 |.c (.e b i)=>k b i
 |_=>.no
def HI(P:RV)(t:RX)(s i:S):bn:=match CY P t with
 |none=>(match Dg P t with
   |some (n,_,sz)=>KH s λb o=>mH i λz=>iZ (0<=z/\z<(n:Int)) (cr (.c (.e b (o+z.toNat*sz))))
   |none=>.no)
 |some (_,sz)=>match s with
   |.c (.d x)=>mH i λz=>.sc sz x λn cs=>iZ (0<=z/\z<n) (cr (.r sz (el cs sz z.toNat) 0))
   |.c (.w b)=>mH i λz=>.LG b λo=>(match o with
     |some (.w _ sz' n _)=>(match RN sz' sz with
       |true=>iZ (0<=z/\z<n) (cr (.c (.q b sz z.toNat 0)))
       |false=>.no)
     |some (.s _ _ _)=>.lZ b λo=>(match o with
       |some (.s sz' n ds)=>(match RN sz' sz with
         |true=>iZ (0<=z/\z<n) (cr (.r sz (el ds sz z.toNat) 0))
         |false=>.no)
       |_=>.no)
     |some (.x _ sz' n _)=>(match RN sz' sz with
       |true=>iZ (0<=z/\z<n) (cr (.c (.q b sz z.toNat 0)))
       |false=>.no)
     |some (.v _ sz' n _)=>(match RN sz' sz with
       |true=>iZ (0<=z/\z<n) (OF n 0 z λk=>cr (.c (.q b sz k 0)))
       |false=>.no)
     |_=>.no)
   |.c (.y b q sz' l n)=>mH i λz=>(match RN sz' sz with
     |true=>.lZ b λo=>(match o with
       |some (.w _ _ _ _)=>iZ (0<=z/\z<(n:Int)) (cr (.c (.q b sz (l+z.toNat) 0)))
       |some (.x _ _ _ _)=>iZ (0<=z/\z<(n:Int)) (cr (.c (.q b sz (l+z.toNat) 0)))
       |some (.a _ _ _)=>iZ (0<=z/\z<(n:Int)) (cr (.c (.e b (q+(l+z.toNat)*sz))))
       |some (.b _ _)=>iZ (0<=z/\z<(n:Int)) (cr (.c (.e b (q+(l+z.toNat)*sz))))
       |_=>.no)
     |false=>.no)
   |_=>.no
def P1(P:RV)(t:RX):Bool:=match P.underlying t with
 |some (.int .i64)=>true
 |_=>false
def LJ(s:S)(k:List D->bn):bn:=match s with
 |.a _ ds=>k ds
 |.g [.d a,.d b,.d c]=>k [a,b,c]
 |_=>.no
def I6:S->Bool
 |.a n _=>RN n 3
 |_=>true
def sH(P:RV)(t:RX):Option Tl:=match P.underlying t with
 |some (.int k)=>some k
 |_=>none
def kP(kd:Tl)(s:S)(k:Int->bn):bn:=match s with
 |.c (.d x)=>.ik kd x k
 |_=>.no
def rK(kd:Tl)(z:Int):bn:=cr (.c (.d (.v (.int kd z))))
def Ir(kd:Tl)(op:X2)(a b:Int):bn:=match op with
 |.add=>rK kd (kd.wrap (a+b))
 |.sub=>rK kd (kd.wrap (a-b))
 |.mul=>rK kd (kd.wrap (a*b))
 |.quo=>iZ (b≠0) (rK kd (kd.wrap (a.tdiv b)))
 |.rem=>iZ (b≠0) (rK kd (a.tmod b))
 |.and=>rK kd (bits .and kd a b)
 |.or=>rK kd (bits .or kd a b)
 |.xor=>rK kd (bits .xor kd a b)
 |.andNot=>rK kd (bits .andNot kd a b)
 |.lss=>mA (decide (a<b))
 |.leq=>mA (decide (a<=b))
 |.gtr=>mA (decide (b<a))
 |.geq=>mA (decide (b<=a))
 |_=>.no
def isSh:X2->Bool
 |.shl=>true
 |.shr=>true
 |_=>false
def GN(P:RV)(op:X2)(t t':RX)(x y:S):bn:=match sH P t,sH P t' with
 |some k,some k'=>kP k x λa=>kP k' y λb=>(match op with
   |.shl=>iZ (0<=b) (rK k (k.wrap (a*2 ^ min b.toNat k.bits)))
   |.shr=>iZ (0<=b) (rK k (a / 2 ^ min b.toNat k.bits))
   |_=>.no)
 |_,_=>.no
def eqP(P:RV)(tb:Tb)(t:RX)(x y:S)(k:Bool->bn):bn:=match P.underlying t with
 |some (.int .i64)=>mH x λa=>mH y λb=>k (decide (a=b))
 |some .string=>xa x λa=>xa y λb=>k (decide (a=b))
 |some .bool=>F9 x λa=>F9 y λb=>k (a == b)
 |some (.struct _)=>(match tb.eq3.any (RN t) && I6 x && I6 y with
   |true=>LJ x λa=>LJ y λb=>.i (cell a 0) λa0=>.i (cell a 1) λa1=>.i (cell a 2) λa2 =>
       .i (cell b 0) λb0=>.i (cell b 1) λb1=>.i (cell b 2) λb2=>k (decide (a0=b0/\a1=b1/\a2=b2))
   |false=>.no)
 |some (.int kd)=>kP kd x λa=>kP kd y λb=>k (decide (a=b))
 |some (.array n e)=>(match tb.eqa.any (RN t),sH P e,x,y with
   |true,some kd,.a m ds,.a m' ds'=>(match RN m n && RN m' n with
     |true=>.Gv kd ds λa=>.Gv kd ds' λb=>k (decide (a=b))
     |false=>.no)
   |_,_,_,_=>.no)
 |_=>.no
def Iq(op:X2)(a b:Int):bn:=match op with
 |.add=>iZ (aZ (a+b)) (nk (a+b))
 |.sub=>iZ (aZ (a-b)) (nk (a-b))
 |.mul=>iZ (aZ (a*b)) (nk (a*b))
 |.quo=>iZ (b≠0/\aZ (a.tdiv b)) (nk (a.tdiv b))
 |.rem=>iZ (b≠0) (nk (a.tmod b))
 |.lss=>mA (decide (a<b))
 |.leq=>mA (decide (a<=b))
 |.gtr=>mA (decide (b<a))
 |.geq=>mA (decide (b<=a))
 |.and=>nk (bits .and .i64 a b)
 |.or=>nk (bits .or .i64 a b)
 |.xor=>nk (bits .xor .i64 a b)
 |_=>.no
def Db(P:RV)(tb:Tb)(op:X2)(t:RX)(x y:S):bn:=match op with
 |.eql=>eqP P tb t x y mA
 |.neq=>eqP P tb t x y λb=>mA (!b)
 |_=>match P.underlying t with
   |some (.int .i64)=>mH x λa=>mH y λb=>Iq op a b
   |some .string=>xa x λa=>xa y λb=>(match op with
     |.add=>iZ (a.size+b.size<=1000000) (cr (.c (.d (.v (.string (a++b))))))
     |_=>.no)
   |some (.int kd)=>kP kd x λa=>kP kd y λb=>Ir kd op a b
   |_=>.no
def unP(P:RV)(op:UnOp)(t:RX)(x:S):bn:=match op with
 |.not=>F9 x λa=>mA (!a)
 |.neg=>(match P1 P t with
   |true=>mH x λa=>iZ (aZ (-a)) (nk (-a))
   |false=>.no)
 |.xor=>(match sH P t with
   |some k=>kP k x λa=>rK k (bits .xor k (match k.signed with
     |true=>-1
     |false=>k.max) a)
   |none=>.no)
 |_=>.no
def QO(P:RV)(s t:RX)(x:S):bn:=match sH P s,sH P t with
 |some k,some k'=>kP k x λz=>rK k' (k'.wrap z)
 |_,_=>match P.underlying t with
   |some .string=>(match P.underlying s with
     |some (.slice e)=>(match sH P e with
       |some .u8=>Lj 1 x λ_ cs=>.Gv .u8 cs λzs=>cr (.c (.d (.v (.string (strB zs)))))
       |_=>.no)
     |some .string=>xa x λb=>cr (.c (.d (.v (.string b))))
     |_=>.no)
   |_=>.no
def oneB(P:RV)(t:RX):Bool:=match Gs P t with
 |some m=>RN m 1
 |none=>false
def C7(s:ByteArray)(i:Nat):Int:=((s.data.toList.getD i 0).toNat:Int)
def pR(P:RV)(t:RX)(x i:S):bn:=match P.underlying t with
 |some .string=>xa x λs=>mH i λz=>iZ (0<=z/\z<(s.size:Int)) (rK .u8 (C7 s z.toNat))
 |some (.array n e)=>(match x with
   |.a m ds=>(match RN n m && jJ P e && oneB P e with
     |true=>mH i λz=>iZ (0<=z/\z<(n:Int)) (cr (.c (.d (cell ds z.toNat))))
     |false=>.no)
   |_=>.no)
 |_=>.no
def CJ(P:RV)(t:RX)(x i:S):bn:=match P.underlying t,i with
 |some .string,.c (.d (.v (.int _ z)))=>xa x λs=>iZ (0<=z/\z<(s.size:Int)) (rK .u8 (C7 s z.toNat))
 |some (.array n e),.c (.d (.v (.int .i64 z)))=>(match jJ P e,zS P e,x with
   |false,some sz,.a m ds=>(match RN m (n*sz) with
     |true=>iZ (0<=z/\z<(n:Int)) (cr (.a sz (sub ds (z.toNat*sz) sz)))
     |false=>.no)
   |_,_,_=>pR P t x i)
 |_,_=>pR P t x i
def Jt(P:RV)(t:RX):Option (List (Nat×Nat)):=match Dg P t with
 |some (n,_,sz)=>some ((W6 n).map λi=>(i*sz,sz))
 |none=>Ca P t
def partT(P:RV)(t i:Nat):Option Nat:=match Dg P t with
 |some (_,e,_)=>some e
 |none=>match rq P t i with
   |some (_,ft)=>some ft
   |none=>none
def Cb(P:RV)(t:RX)(pl:List (Nat×Nat)):List (Nat×R4)->List C->(List C->bn)->bn
 |[],cs,k=>k cs
 |(i,x)::l,cs,k=>match pl[i]?,partT P t i with
   |some (off,m),some ft=>cP x λs=>(match gV (eJ P ft s) with
       |some vs=>(match RN vs.length m && TX (off+m) cs.length with
         |true=>Cb P t pl l (xo cs off vs) k
         |false=>.no)
       |none=>.no)
   |_,_=>.no
def If(P:RV)(t:RX)(parts:List (Nat×R4)):bn:=match Jt P t,kF P t,HG (kE P t) with
 |some pl,some zs,true=>Cb P t pl parts zs λcs=>cr (.g cs)
 |_,_,_=>.no
def Cd(P:RV)(hp:Bool)(e sz:Nat):Nat->List (Nat×R4)->(List D->List (Nat×O)->bn)->bn
 |_,[],k=>k [] []
 |j,(i,x)::l,k=>match RN i j with
   |true=>cP x λs=>Gx (qf hp (eJ P e s)) λm ds os=>(match RN m sz with
     |true=>Cd P hp e sz (j+1) l λr os'=>k (ds++r) (os++os')
     |false=>.no)
   |false=>.no
def lS(P:RV)(e sz:Nat):Bool:=match P.info? e with
 |some i=>RN i.size sz && (match i.zero with
   |some z=>RN z.cells.size sz
   |none=>false) && Tw 0 sz
 |none=>false
def o9(P:RV)(hp:Bool)(id:Nat)(t:RX)(len:Nat)(parts:List (Nat×R4)):bn:=match CY P t with
 |some (e,sz)=>(match RN parts.length len && TX (len*sz) 16777216 && lS P e sz with
   |true=>Cd P hp e sz 0 parts λds os=>jT id (.c (.w id)) os (.w e sz len ds)
   |false=>.no)
 |none=>.no
def BP(P:RV)(e sz:Nat):Nat->List (Nat×R4)->(List C->bn)->bn
 |_,[],k=>k []
 |j,(i,x)::l,k=>match RN i j with
   |true=>cP x λs=>match gV (eJ P e s) with
     |some cs=>(match RN cs.length sz with
       |true=>BP P e sz (j+1) l λr=>k (cs++r)
       |false=>.no)
     |none=>.no
   |false=>.no
def uI(P:RV)(id:Nat)(t:RX)(len:Nat)(parts:List (Nat×R4)):bn:=match CY P t with
 |some (e,sz)=>(match RN parts.length len && TX (len*sz) 16777216 && lS P e sz with
   |true=>BP P e sz 0 parts λcs=>jT id (.c (.w id)) [] (.v e sz len cs)
   |false=>.no)
 |none=>.no
def It(P:RV)(id:Nat)(t:RX):bn:=match kF P t with
 |some zs=>(match Tw 40 zs.length,zA zs with
   |true,some ds=>jT id (.c (.p id 0)) [] (.a t zs.length ds)
   |_,_=>jT id (.c (.p id 0)) [] (.b t zs))
 |none=>.no
def boxP(P:RV)(id:Nat)(t:RX)(s:S):bn:=match eJ P t s with
 |.a n ds=>jT id (.c (.p id 0)) [] (.a t n ds)
 |s=>(match gV s with
   |some cs=>jT id (.c (.p id 0)) [] (.b t cs)
   |none=>.no)
def aL(n bytes:Nat):Prop:=n*bytes<=140737488355328
instance (n bytes:Nat):Decidable (aL n bytes):=by unfold aL;exact inferInstance
def Oh(sz:Nat)(s:S)(k:Nat->Nat->Nat->Nat->Nat->List D->bn)(nzz:bn):bn:=match s with
 |.c (.w b)=>.lZ b λo=>(match o with
   |some (.w e sz' N ds)=>(match RN sz' sz with
     |true=>k b 0 N N e ds
     |false=>.no)
   |some (.x e sz' N ds)=>(match RN sz' sz with
     |true=>k b 0 N N e ds
     |false=>.no)
   |_=>nzz)
 |.c (.y b q sz' l n)=>.lZ b λo=>(match o with
   |some (.w e sz2 N ds)=>(match RN q 0 && (RN sz' sz && RN sz2 sz) with
     |true=>k b l n N e ds
     |false=>.no)
   |some (.x e sz2 N ds)=>(match RN q 0 && (RN sz' sz && RN sz2 sz) with
     |true=>k b l n N e ds
     |false=>.no)
   |_=>nzz)
 |_=>nzz
def DH(sz:Nat)(s:S)(k:Nat->List D->bn):bn:=match s with
 |.c (.y b q sz' l n)=>Oh sz (.c (.y b q sz' l n)) (λ_ l n _ _ ds=>k n (sub ds (l*sz) (n*sz))) .no
 |s=>Lj sz s k
def AY(e sz:Nat)(s:S)(k:Nat->List D->List (Nat×O)->bn):bn:=match s with
 |.c .n=>k 0 [] []
 |.c (.l sz')=>(match RN sz' sz with
   |true=>k 0 [] []
   |false=>.no)
 |.c (.w b)=>.lZ b λo=>(match o with
   |some (.w e' sz' n ds)=>(match RN e e' && RN sz sz' with
     |true=>k n ds [(b,.dK)]
     |false=>.no)
   |_=>.no)
 |_=>.no
def sP(e sz:Nat)(s:S)(k:Nat->List C->List (Nat×O)->bn):bn:=match s with
 |.c .n=>k 0 [] []
 |.c (.l sz')=>(match RN sz' sz with
   |true=>k 0 [] []
   |false=>.no)
 |.c (.w b)=>.lZ b λo=>(match o with
   |some (.v e' sz' n cs)=>(match RN e e' && RN sz sz' with
     |true=>k n cs [(b,.dK)]
     |false=>.no)
   |_=>.no)
 |_=>.no
def nL(P:RV)(id:Nat)(t:RX)(s x:S):bn:=match CY P t with
 |none=>.no
 |some (e,sz)=>match lS P e sz with
   |false=>.no
   |true=>match x with
     |.c (.w b2)=>.lZ b2 λo2=>(match o2 with
       |some (.v e2 sz2 m vs)=>(match RN e e2 && RN sz sz2 && vs.all zB with
         |true=>sP e sz s λn cs os=>iZ (aL (n+m) (gw P e+1)) (jT id (.c (.w id)) os (.v e sz (n+m) (cs++vs)))
         |false=>.no)
       |_=>AY e sz s λn ds os=>DH sz x λm vs=>iZ (aL (n+m) (gw P e+1)) (jT id (.c (.w id)) os (.w e sz (n+m) (ds++vs))))
     |x=>AY e sz s λn ds os=>DH sz x λm vs=>iZ (aL (n+m) (gw P e+1)) (jT id (.c (.w id)) os (.w e sz (n+m) (ds++vs)))
def lenP(P:RV)(t:RX)(s:S):bn:=match P.underlying t with
 |some (.slice _)=>(match CY P t with
   |some (_,sz)=>(match s with
     |.c (.w b)=>.LG b λo=>(match o with
       |some (.v _ sz' n _)=>(match RN sz' sz with
         |true=>nk (n:Int)
         |false=>.no)
       |some (.w _ sz' n _)=>(match RN sz' sz with
         |true=>nk (n:Int)
         |false=>.no)
       |some (.s sz' n _)=>(match RN sz' sz with
         |true=>nk (n:Int)
         |false=>.no)
       |some (.x _ sz' n _)=>(match RN sz' sz with
         |true=>nk (n:Int)
         |false=>.no)
       |_=>.no)
     |.c (.y _ _ sz' _ n)=>(match RN sz' sz with
       |true=>nk (n:Int)
       |false=>.no)
     |s=>Lj sz s λn _=>nk (n:Int))
   |none=>.no)
 |some .string=>xa s λa=>nk (a.size:Int)
 |_=>.no
def sameB:jx->C->Bool
 |.d,.d _=>true
 |.i,.d _=>true
 |.bo,.d _=>true
 |.d,.w _=>true
 |.d,.l _=>true
 |.d,.y _ _ _ _ _=>true
 |.p _ o,.p _ o'=>RN o o'
 |.w _,.w _=>true
 |.w _,.l _=>true
 |.m _,.m _=>true
 |_,_=>false
def N3:List jx->List C->Bool
 |[],[]=>true
 |s::ss,c::cs=>sameB s c && N3 ss cs
 |_,_=>false
def sameC:jx->C->Bool
 |.f g cs,.f g' cs'=>RN g g' && N3 cs cs'
 |s,c=>sameB s c
def N1:List jx->List C->Bool
 |[],[]=>true
 |s::ss,c::cs=>sameC s c && N1 ss cs
 |_,_=>false
def sameS:lW->S->Bool
 |.c s,.c c=>sameC s c
 |.a n,.a m _=>RN n m
 |.a n,.g cs=>RN n cs.length
 |.g ss,.g cs=>N1 ss cs
 |.g ss,.a n _=>RN ss.length n
 |_,_=>false
def A9:List (Nat×lW)->List S->Bool
 |[],[]=>true
 |(_,s)::l,x::xs=>sameS s x && A9 l xs
 |_,_=>false
def M7:List R4->(List S->bn)->bn
 |[],k=>k []
 |x::xs,k=>cP x λs=>M7 xs λl=>k (s::l)
def kL(P:RV):List RX->List S->List S
 |t::ts,s::l=>eJ P t s::kL P ts l
 |_,l=>l
def xJ:C->List Nat
 |.p b _=>[b]
 |.q b _ _ _=>[b]
 |.w b=>[b]
 |.m b=>[b]
 |.e b _=>[b]
 |.y b _ _ _ _=>[b]
 |_=>[]
def B5:C->List Nat
 |.f _ cs=>cs.flatMap xJ
 |c=>xJ c
def qe:S->List Nat
 |.c c=>B5 c
 |.g cs=>cs.flatMap B5
 |.t l=>l.flatMap fun|.c c=>B5 c|.g cs=>cs.flatMap B5|_=>[]
 |_=>[]
def Oo:O->List Nat
 |.b _ cs=>cs.flatMap B5
 |.v _ _ _ cs=>cs.flatMap B5
 |.h _ _ _ _ _ c=>B5 c
 |_=>[]
def o0:List (Nat×O)->Nat->Option O
 |[],_=>none
 |(i,o)::l,b=>match RN b i with
   |true=>some o
   |false=>o0 l b
def cT:List (Nat×O)->Nat->Bool
 |[],_=>false
 |(i,_)::l,b=>match RN b i with
   |true=>true
   |false=>cT l b
def xN:Nat->List Nat->List (Nat×O)->(List (Nat×O)->bn)->bn
 |0,_,_,_=>.no
 |_+1,[],acc,k=>k acc
 |n+1,b::l,acc,k=>match cT acc b with
   |true=>xN n l acc k
   |false=>.lZ b λo=>match o with
     |some o=>xN n (Oo o++l) ((b,o)::acc) k
     |none=>.no
def w9(acc:List (Nat×O)):List Nat->Bool
 |[]=>true
 |b::l=>match cT acc b with
   |true=>w9 acc l
   |false=>false
def uY(acc:List (Nat×O)):List (Nat×O)->Bool
 |[]=>true
 |(_,o)::l=>match w9 acc (Oo o) with
   |true=>uY acc l
   |false=>false
def vc:List (Nat×O)->Bool
 |[]=>true
 |(i,_)::l=>match cT l i with
   |true=>false
   |false=>vc l
def EP(id:Nat)(acc:List (Nat×O)):List (Nat×O)->bn->bn
 |[],k=>k
 |(b,_)::l,k=>match cT acc b with
   |true=>EP id acc l k
   |false=>iZ (id<=b) (.lZ b λx=>match x with
     |none=>EP id acc l k
     |some _=>.no)
def isT:S->Bool
 |.t _=>true
 |_=>false
def QV(P:RV)(id f:Nat)(xs:List S):bn:=match P.funcs[f]?,o3 P f with
 |some fn,true=>xN 100000 ((kL P fn.params.toList xs).flatMap qe) [] λacc=>match w9 acc ((kL P fn.params.toList xs).flatMap qe) && (uY acc acc && vc acc) with
   |true=>.inl id f (kL P fn.params.toList xs) acc λv os=>(match w9 os (qe v) && (uY os os && (vc os && w9 os (acc.map Sf))) with
     |true=>EP id acc os (.ret (some v) os)
     |false=>.no)
   |false=>.no
 |_,_=>.no
def Oq:C->List Nat
 |.p b _=>[b]
 |.w b=>[b]
 |.m b=>[b]
 |.e b _=>[b]
 |.y b _ _ _ _=>[b]
 |.f _ cs=>cs.flatMap fun|.p b _=>[b]|.w b=>[b]|.m b=>[b]|_=>[]
 |_=>[]
def refS:S->List Nat
 |.c c=>Oq c
 |.g cs=>cs.flatMap Oq
 |_=>[]
def refO:Option O->List Nat
 |some (.b _ cs)=>cs.flatMap Oq
 |some (.v _ _ _ cs)=>cs.flatMap Oq
 |some (.h _ _ _ _ _ c)=>Oq c
 |_=>[]
def xM:Nat->List Nat->List Nat->(Ob->bn)->Ob->bn
 |0,_,_,k,f=>k f
 |_+1,[],_,k,f=>k f
 |n+1,b::l,seen,k,f=>match seen.contains b with
   |true=>xM n l seen k f
   |false=>.lZ b λo=>xM n (l++refO o) (b::seen) k (λi=>match RN i b with
     |true=>o
     |false=>f i)
def cC:Nat->List S->(Nat->S)
 |_,[]=>λ_=>su
 |j,s::l=>λk=>match RN k j with
   |true=>s
   |false=>cC (j+1) l k
def bD(mp:List (Nat×Tg))(d i:Nat):Nat:=match bL mp i with
 |some (.ob b)=>b
 |_=>d+10000*(i+1)
def KI(mp:List (Nat×Tg))(d:Nat):C->C
 |.p b o=>.p (bD mp d b) o
 |.w b=>.w (bD mp d b)
 |.m b=>.m (bD mp d b)
 |.q _ _ _ _=>.u
 |.e _ _=>.u
 |.y _ _ _ _ _=>.u
 |c=>c
def zi(mp:List (Nat×Tg))(d:Nat):C->C
 |.f g cs=>.f g (cs.map (KI mp d))
 |c=>KI mp d c
def Ge(mp:List (Nat×Tg))(d:Nat):S->S
 |.c c=>.c (zi mp d c)
 |.g cs=>.g (cs.map (zi mp d))
 |s=>s
def BB(mp:List (Nat×Tg))(d:Nat):O->O
 |.b e cs=>.b e (cs.map (zi mp d))
 |.v e sz n cs=>.v e sz n (cs.map (zi mp d))
 |.h e sz n ds j c=>.h e sz n ds j (zi mp d c)
 |o=>o
def freeP(mp:List (Nat×Tg))(d i:Nat)(k:bn):bn:=match bL mp i with
 |some (.ob _)=>k
 |_=>.lZ (d+10000*(i+1)) λx=>match x with
   |none=>k
   |some _=>.no
def IQ(mp:List (Nat×Tg))(d:Nat)(r:bT):Nat->List (Nat×mh)->List (Nat×O)->(List (Nat×O)->bn)->bn
 |_,[],l,k=>k l
 |j,(b,o)::os,l,k=>unO qk (fk (CL o) r j).1 o λx=>freeP mp d b (IQ mp d r (fk (CL o) r j).2 os (l++[(bD mp d b,BB mp d x)]) k)
def unRs(r:bT):Nat->List lW->(List S->Nat->bn)->bn
 |j,[],k=>k [] j
 |j,s::l,k=>Nv qk (fk (uz s) r j).1 s λx=>unRs r (fk (uz s) r j).2 l λxs j=>k (x::xs) j
def unR(r:bT)(s:lW)(k:S->Nat->bn):bn:=match s with
 |.t l=>unRs r 0 l λxs j=>k (.t xs) j
 |s=>Nv qk (fk (uz s) r 0).1 s λx=>k x (fk (uz s) r 0).2
def BA(mp:List (Nat×Tg))(d:Nat):S->S
 |.t l=>.t (l.map (Ge mp d))
 |s=>Ge mp d s
def gC(ob:Ob):List Nat->List (Nat×O)
 |[]=>[]
 |b::l=>match ob b with
   |some (.w _ sz n ds)=>(b,.s sz n ds)::gC ob l
   |_=>gC ob l
def fy(ob:Ob)(fx:List Nat):List Nat->List (Nat×O)
 |[]=>[]
 |b::l=>match ob b with
   |some (.v _ sz n ws)=>(match qR ob ws with
     |some (ds,bs)=>(match bs.all λx=>fx.any (RN x) with
       |true=>(b,.s sz n ds)::fy ob fx l
       |false=>fy ob fx l)
     |none=>fy ob fx l)
   |some (.h _ sz n ds j c)=>(match qR ob [c]with
     |some ([x],bs)=>(match bs.all λx=>fx.any (RN x) with
       |true=>(b,.s sz n (cB ds j [x]))::fy ob fx l
       |false=>fy ob fx l)
     |_=>fy ob fx l)
   |_=>fy ob fx l
def dK(js:List (Nat×mh)):List (Nat×Tg)->List (Nat×O)
 |[]=>[]
 |(i,.ob b)::l=>(match js.any λx=>RN x.1 i with
   |true=>dK js l
   |false=>(b,.dK)::dK js l)
 |_::l=>dK js l
def xq:lW->Bool
 |.c .i=>true
 |.c .bo=>true
 |_=>false
def lendB(s:bC):Bool:=s.ins.ob.isEmpty && s.js.isEmpty && (match s.out with
 |.t l=>l.all xq
 |.a _=>true
 |s=>xq s)
def Ro:List D->Bool
 |[]=>true
 |.v _::l=>Ro l
 |_::_=>false
def G7(v:S)(k:bn):bn:=match v with
 |.a _ ds=>iZ (Ro ds=true) k
 |_=>k
def yS(ob:Ob):S->S
 |.c (.y b q sz l n)=>(match ob b with
   |some (.a _ m ds)=>(match RN sz 1 && (TX (q+l*sz+n) m && TX n 1000000) with
     |true=>.c (.d (.sl n 1 (sub ds (q+l*sz) n)))
     |false=>.c (.y b q sz l n))
   |_=>.c (.y b q sz l n))
 |s=>s
def yBs:List S->List Nat
 |[]=>[]
 |.c (.y b _ _ _ _)::l=>b::yBs l
 |_::l=>yBs l
def J0(ln:Bool)(ob:Ob)(l:List S):List S:=match ln with
 |true=>l.map (yS ob)
 |false=>l
def CS(tb:Tb)(ob:Ob)(f:Nat)(xs:List S):Option bC:=tb.sg.find? λs=>RN s.f f && A9 s.ins.sl xs && (Ha s.ins ⟨cC 0 (J0 s.E4 ob xs),ob,0⟩).isSome
def KB(P:RV)(tb:Tb)(id f:Nat)(xs:List S):bn:=match tb.ic with
|true=>QV P id f xs
|false=>match P.funcs[f]?,o3 P f with
 |none,_=>.no
 |some _,false=>.no
 |some fn,true=>xM 12 (xs.flatMap refS) [] (λob=>match CS tb ob f (kL P fn.params.toList xs) with
   |none=>.no
   |some s=>match Ha s.ins ⟨cC 0 (J0 s.E4 ob (kL P fn.params.toList xs)),ob,0⟩ with
     |none=>.no
     |some (a,k)=>match fy ob k.fix k.fix with
      |_::_=>.no
      |[]=>match s.E4 with
       |true=>(match lendB s with
         |true=>.ca s a λr=>unR r s.out λv _=>G7 v (.ret (some v) [])
         |false=>.no)
       |false=>(match nA s.js with
         |true=>.ca s a λr=>unR r s.out λv j=>IQ k.mp id r j s.js (gC ob k.fix++dK s.js k.mp) λos=>.ret (some (BA k.mp id v)) os
         |false=>.no)) (λ_=>none)
def nC(n:Nat)(x:Option R4)(k:Int->bn):bn:=match x with
 |none=>k (n:Int)
 |some x=>cP x λs=>mH s k
def tG(P:RV)(t:RX)(x:S)(lo hi mx:Option R4):bn:=match mx with
 |some _=>.no
 |none=>match CY P t with
   |some (_,sz)=>(match x with
     |.c (.y b q sz' l0 n)=>(match RN sz' sz with
       |true=>nC 0 lo λl=>nC n hi λh=>iZ (0<=l/\l<=h/\h<=(n:Int)) (cr (.c (.y b q sz (l0+l.toNat) (h.toNat-l.toNat))))
       |false=>.no)
     |.c c=>FV c λx os=>.sc sz x λn cs=>nC 0 lo λl=>nC n hi λh =>
         iZ (0<=l/\l<=h/\h<=n) (.ret (some (.c (.d (.sl (h.toNat-l.toNat) sz (sub cs (l.toNat*sz) ((h.toNat-l.toNat)*sz)))))) os)
     |_=>.no)
   |none=>match Dg P t with
    |some (n,_,sz)=>KH x λb o=>nC 0 lo λl=>nC n hi λh=>iZ (0<=l/\l<=h/\h<=(n:Int)) (cr (.c (.y b o sz l.toNat (h.toNat-l.toNat))))
    |none=>match P.underlying t with
     |some .string=>xa x λs=>nC 0 lo λl=>nC s.size hi λh =>
         iZ (0<=l/\l<=h/\h<=(s.size:Int)) (cr (.c (.d (.v (.string (s.extract l.toNat h.toNat))))))
     |_=>.no
def rowH(sz:Nat)(s:S)(k:Nat->Nat->Nat->Nat->Nat->List D->bn)(nzz:bn):bn:=match s with
 |.c (.w b)=>.lZ b λo=>(match o with
   |some (.w e sz' N ds)=>(match RN sz' sz with
     |true=>k b 0 N N e ds
     |false=>.no)
   |_=>nzz)
 |.c (.y b q sz' l n)=>.lZ b λo=>(match o with
   |some (.w e sz2 N ds)=>(match RN q 0 && (RN sz' sz && RN sz2 sz) with
     |true=>k b l n N e ds
     |false=>.no)
   |_=>nzz)
 |_=>nzz
def BW(P:RV)(t:RX)(x:S)(lo hi mx:Option R4):bn:=match CY P t with
 |none=>tG P t x lo hi mx
 |some (_,sz)=>match x with
   |.c (.l sz')=>(match mx,RN sz' sz with
     |none,true=>nC 0 lo λl=>nC 0 hi λh=>iZ (l=0/\h=0) (cr (.c (.l sz')))
     |_,_=>.no)
   |x=>Oh sz x (λb l0 n N _ _=>nC 0 lo λl=>nC n hi λh=>match mx with
       |none=>iZ (0<=l/\l<=h/\(l0:Int)+h<=(N:Int)) (cr (.c (.y b 0 sz (l0+l.toNat) (h.toNat-l.toNat))))
       |some m=>nC 0 (some m) λm=>iZ (hi.isSome=true/\0<=l/\l<=h/\h<=m/\(l0:Int)+m<=(N:Int)) (cr su)) (tG P t x lo hi mx)
def BV(P:RV)(id:Nat)(t:RX)(x:S)(lo hi:Option R4):bn:=match CY P t,x with
 |some (_,sz),.c (.w b)=>.lZ b λo=>nC 0 lo λl=>(match o with
     |some (.w e sz' N ds)=>(match RN sz' sz with
       |true=>nC N hi λh=>(match lo with
         |none=>iZ (0<=h/\h<=(N:Int)) (jT id (.c (.w id)) [(b,.dK)] (.w e sz h.toNat (sub ds (0*sz) (h.toNat*sz))))
         |some _=>iZ (0<=l/\l<=h/\h<=(N:Int)/\0<N) (jT id (.c (.w id)) [(b,.dK)] (.x e sz (h.toNat-l.toNat) (sub ds (l.toNat*sz) ((h.toNat-l.toNat)*sz)))))
       |false=>.no)
     |some (.x e sz' N ds)=>(match RN sz' sz with
       |true=>nC N hi λh=>iZ (0<=l/\l<=h/\h<=(N:Int)/\0<N) (jT id (.c (.w id)) [(b,.dK)] (.x e sz (h.toNat-l.toNat) (sub ds (l.toNat*sz) ((h.toNat-l.toNat)*sz))))
       |false=>.no)
     |_=>.no)
 |_,_=>.no
def NL(id:Nat)(s:S):bn:=match s with
 |.c (.y b q sz l n)=>.lZ b λo=>(match o with
   |some (.w e sz' N ds)=>(match RN q 0 && (RN l 0 && RN sz' sz) with
     |true=>iZ (0<N/\n<=N) (jT id (.c (.w id)) [(b,.dK)] (.w e sz n (sub ds (0*sz) (n*sz))))
     |false=>.no)
   |_=>.no)
 |s=>cr s
def noneH:S->Bool
 |.c (.l _)=>true
 |.c (.d (.sl n _ _))=>RN n 0
 |_=>false
def zk(P:RV)(id:Nat)(t:RX)(s x:S):bn:=match s with
 |.c (.y b q sz' l n)=>(match CY P t with
   |some (e0,sz)=>(match lS P e0 sz with
     |true=>Oh sz (.c (.y b q sz' l n)) (λb l n N e ds=>DH sz x λm vs=>.wx (decide (m=0)) (cr (.c (.y b 0 sz l n)))
         (.wx (decide (l+n+m<=N)) (rowH sz (.c (.y b q sz' l n)) (λ_ _ _ _ _ _=>.ret (some (.c (.y b 0 sz l (n+m)))) [(b,.w e sz N (cB ds ((l+n)*sz) vs))]) .no)
           (iZ (l+n=N/\aL (n+m) (gw P e0+1)) (match RN e e0 with
             |true=>jT id (.c (.w id)) [(b,.dK)] (.x e sz (n+m) (sub ds (l*sz) (n*sz)++vs))
             |false=>.no)))) .no
     |false=>.no)
   |none=>.no)
 |.c (.l sz')=>(match noneH x,CY P t with
   |true,some (_,sz)=>(match RN sz sz' with
     |true=>cr (.c (.l sz'))
     |false=>.no)
   |_,_=>nL P id t (.c (.l sz')) x)
 |.c (.w b)=>.lZ b λo=>(match o with
   |some (.x e sz n ds)=>(match CY P t with
     |some (e0,sz0)=>(match lS P e0 sz0 && (RN e e0 && RN sz sz0) with
       |true=>DH sz x λm vs=>.wx (decide (m=0)) (cr (.c (.w b))) (iZ (aL (n+m) (gw P e0+1)) (jT id (.c (.w id)) [(b,.dK)] (.x e sz (n+m) (ds++vs))))
       |false=>.no)
     |none=>.no)
   |_=>nL P id t (.c (.w b)) x)
 |s=>nL P id t s x
def C5(P:RV)(t:RX)(s:S):bn:=match s,CY P t with
 |.c (.y b q sz' l n),some (e0,sz)=>(match(kF P e0).bind zA with
   |some zs=>rowH sz (.c (.y b q sz' l n)) (λb l n N e ds=>iZ (zs.length=sz/\l+n<=N/\n<=1000000000000000) (.ret none [(b,.w e sz N (cB ds (l*sz) (Sj n zs).flatten))])) .no
   |none=>.no)
 |_,_=>.no
def Pf(P:RV)(t:RX)(x y:S)(k:Bool->bn)(nzz:bn):bn:=match CY P t,x,y with
 |some _,.c (.l _),.c .n=>k true
 |some _,.c .n,.c .n=>k true
 |some _,.c (.w b),.c .n=>.lZ b λo=>(match o with
   |some (.w _ _ n _)=>(match n with
     |0=>.no
     |_+1=>k false)
   |_=>.no)
 |some _,.c (.d (.sl n _ _)),.c .n=>(match n with
     |0=>.no
     |_+1=>k false)
 |_,_,_=>nzz
def Fy(t:Nat):List (Nat×Nat)->Option Nat
 |[]=>none
 |(i,n)::l=>match RN t i with
   |true=>some n
   |false=>Fy t l
def JG:S->Option (List D)
 |.a _ ds=>some ds
 |.g cs=>nU cs
 |_=>none
def M8(P:RV)(tb:Tb)(t:RX)(x y:S)(k:Bool->bn)(nzz:bn):bn:=match Fy t tb.eqs,JG x,JG y with
 |some n,some a,some b=>.Gv .i64 a λa=>.Gv .i64 b λb=>iZ (a.length=n/\b.length=n) (k (decide (a=b)))
 |_,_,_=>Pf P t x y k nzz
def yC(g:Nat):List (Nat×List D)->Option (List D)
 |[]=>none
 |(i,ds)::l=>match RN g i with
   |true=>some ds
   |false=>yC g l
def Ki(P:RV)(tb:Tb)(g:Nat)(t:RX):bn:=match yC g tb.gl,zS P t with
 |some ds,some m=>(match RN m ds.length with
   |true=>cr (.a m ds)
   |false=>.no)
 |_,_=>.no
def luS(cm:Bool)(v:S)(ok:Bool):S:=match cm with
 |true=>.t [v,.c (.d (.v (.bool ok)))]
 |false=>v
def AZ(g:Nat):List (Nat×List (Int×Int))->Option (List (Int×Int))
 |[]=>none
 |(i,ds)::l=>match RN g i with
   |true=>some ds
   |false=>AZ g l
def isMap(P:RV)(t:RX):Bool:=match P.underlying t with
 |some (.map _ _)=>true
 |_=>false
def HQ(P:RV)(tb:Tb)(g:Nat)(t:RX):bn:=match AZ g tb.gm,jJ P t && isMap P t with
 |some _,true=>cr (.c (.k g))
 |_,_=>Ki P tb g t
def HR(P:RV)(tb:Tb)(g:Nat)(t:RX)(i:S):bn:=match yC g tb.gl,Dg P t with
 |some ds,some (n,_,sz)=>(match RN ds.length (n*sz) with
   |true=>mH i λz=>iZ (0<=z/\z<(n:Int)) (cr (.r sz (el ds sz z.toNat) 0))
   |false=>.no)
 |_,_=>.no
def HP(P:RV)(tb:Tb)(g:Nat)(t:RX)(lo hi mx:Option R4):bn:=match yC g tb.gl,Dg P t,lo,hi,mx with
 |some ds,some (n,_,sz),none,none,none=>(match RN ds.length (n*sz) with
   |true=>cr (.c (.d (.sl n sz ds)))
   |false=>.no)
 |_,_,_,_,_=>.no
def yp(z:Int):List (Int×Int)->Option Int
 |[]=>none
 |(a,b)::l=>match decide (z=a) with
   |true=>some b
   |false=>yp z l
def P0(P:RV)(t:RX):Bool:=match P.underlying t with
 |some (.map k e)=>P1 P k && (match kE P e with
   |some (.int .i64 0)=>true
   |_=>false)
 |_=>false
def yn(P:RV)(tb:Tb)(t:RX)(g:Nat)(key:S)(cm:Bool):bn:=match AZ g tb.gm,P0 P t with
 |some l,true=>mH key λz=>cr (luS cm (.c (.d (.v (.int .i64 ((yp z l).getD 0))))) (yp z l).isSome)
 |_,_=>.no
def PD(P:RV)(id:Nat)(t:RX)(x y:S):bn:=match CY P t with
 |some (e,sz)=>(match(kF P e).bind zA,lS P e sz with
   |some zs,true=>mH x λa=>mH y λb=>iZ (0<=a/\a=b/\aL a.toNat (gw P e+1)) (jT id (.c (.w id)) [] (.w e sz a.toNat (Sj a.toNat zs).flatten))
   |_,_=>.no)
 |none=>.no
def we(mx:Bool)(x y:S):bn:=mH x λa=>mH y λb=>nk (match mx with
 |true=>max a b
 |false=>min a b)
def F5:List S->Option (List C)
 |[]=>some []
 |.c (.f _ _)::_=>none
 |.c c::l=>(match zB c,F5 l with
   |true,some cs=>some (c::cs)
   |_,_=>none)
 |_::_=>none
def funP(g:Nat)(xs:List S):bn:=match F5 xs with
 |some cs=>cr (.c (.f g cs))
 |none=>.no
def Mt(P:RV)(tb:Tb)(t:RX):Option (Nat×Bool×Nat×List D):=match P.underlying t with
 |some (.map k e)=>(match tb.eq3.any (RN k),(kF P e).bind zA with
   |true,some zs=>(match HG (kE P e) with
     |true=>some (e,true,zs.length,zs)
     |false=>(match zs with
       |[_]=>some (e,false,1,zs)
       |_=>none))
   |_,_=>none)
 |_=>none
def ym(P:RV)(tb:Tb)(id:Nat)(t:RX):bn:=match Mt P tb t with
 |some (_,ag,vs,_)=>jT id (.c (.m id)) [] (.m t ag vs 0 [])
 |none=>.no
def AT(s:S)(k:Int->Int->Int->bn):bn:=match I6 s with
 |true=>LJ s λds=>.i (cell ds 0) λa=>.i (cell ds 1) λb=>.i (cell ds 2) λc=>k a b c
 |false=>.no
def entR(t:RX)(ag:Bool)(vs:Nat)(s:S)(k:Nat->List D->bn):bn:=match s with
 |.c (.m b)=>.lZ b λo=>(match o with
   |some (.m t' ag' vs' n ds)=>(match RN t t' && WH (ag == ag') (RN vs vs') with
     |true=>k n ds
     |false=>.no)
   |some (.ms t' ag' vs' n ds)=>(match RN t t' && WH (ag == ag') (RN vs vs') with
     |true=>k n ds
     |false=>.no)
   |_=>.no)
 |_=>.no
def entP(t:RX)(ag:Bool)(vs:Nat)(s:S)(k:Nat->Nat->List D->bn):bn:=match s with
 |.c (.m b)=>.lZ b λo=>(match o with
   |some (.m t' ag' vs' n ds)=>(match RN t t' && WH (ag == ag') (RN vs vs') with
     |true=>k b n ds
     |false=>.no)
   |_=>.no)
 |_=>.no
def Qi(ag:Bool)(vs:Nat)(xs:List D):S:=match ag with
 |true=>.a vs xs
 |false=>.c (.d (cell xs 0))
def wk(P:RV)(tb:Tb)(t:RX)(s key:S)(cm:Bool):bn:=match Mt P tb t with
 |some (_,ag,vs,zs)=>entR t ag vs s λn ds=>AT key λx y z=>cr (luS cm (Qi ag vs ((bA (3+vs) x y z n ds).getD zs)) (bA (3+vs) x y z n ds).isSome)
 |none=>.no
def Pv(ag:Bool)(s:S)(k:Nat->List D->List (Nat×O)->bn):bn:=match ag,s with
 |false,.c c=>FV c λx os=>k 1 [x] os
 |true,.a n ds=>k n ds []
 |true,.g cs=>FU cs λds os=>k cs.length ds os
 |_,_=>.no
def rh(P:RV)(tb:Tb)(t:RX)(s key v:S):bn:=match Mt P tb t with
 |some (e,ag,vs,_)=>entP t ag vs s λb n cur=>AT key λx y z=>Pv ag (qf tb.hp (eJ P e v)) λm ds os=>match RN m vs && !(os.any λp=>RN p.1 b) with
     |true=>.ret none (os++[(b,.m t ag vs (fM (3+vs) x y z n cur) (dc (3+vs) x y z ds n cur))])
     |false=>.no
 |none=>.no
def GZ(P:RV)(tb:Tb)(id:Nat)(t:RX)(s:S):bn:=match Mt P tb t,s with
 |some (_,ag,vs,_),.c (.m b)=>.lZ b λo=>(match o with
   |some (.m t' ag' vs' n ds)=>(match RN t t' && WH (ag == ag') (RN vs vs') with
     |true=>jT id (.c (.p id 0)) [(b,.ms t ag vs n ds)] (.it ag vs none n ds)
     |false=>.no)
   |some (.ms t' ag' vs' n ds)=>(match RN t t' && WH (ag == ag') (RN vs vs') with
     |true=>jT id (.c (.p id 0)) [] (.it ag vs none n ds)
     |false=>.no)
   |_=>.no)
 |_,_=>.no
def H0(s:S):bn:=match s with
 |.c (.p b 0)=>.lZ b λo=>(match o with
   |some (.it ag vs (some kc) _ _)=>cr (.t [.a 3 (kc.take 3),Qi ag vs (kc.drop 3)])
   |_=>.no)
 |_=>.no
def opP(P:RV)(tb:Tb)(aV:Nat)(o:Oper):bn:=match o.dst with
 |none=>(match o.op with
   |.store t x y=>(match tb.cs.any (RN 2000000) with
     |true=>cP x λs=>cP y λv=>JB P tb.hp t s (eJ P t v)
     |false=>cP x λs=>cP y λv=>qF P t s (qf tb.hp (eJ P t v)))
   |.mapUpdate t x y z=>cP x λs=>cP y λk=>cP z λv=>rh P tb t s k v
   |.call c=>(match c.callee with
     |.builtin .clear=>(match c.args.toList,c.argTypes.toList with
       |[x],[t]=>(match tb.hp with
         |true=>cP x λs=>C5 P t s
         |false=>.no)
       |_,_=>.no)
     |_=>.no)
   |_=>.no)
 |some d=>match o.op with
   |.move x=>(match tb.cs.any (RN d) with
     |true=>cP x λs=>NL (aV+d) (eJ P o.type s)
     |false=>cP x λs=>cr (eJ P o.type s))
   |.assign x=>cP x λs=>cr (eJ P o.type s)
   |.pick c a b=>cP c λs=>F9 s λz=>.wx z (cP a cr) (cP b cr)
   |.load t x=>(match x with
     |.global g=>(match tb.hp with
       |true=>HQ P tb g t
       |false=>Ki P tb g t)
     |x=>cP x λs=>PJ P t s)
   |.fieldAddr t x i=>cP x λs=>HW P t s i
   |.field t x i=>cP x λs=>CT P t s i
   |.indexAddr t x i=>(match tb.hp,x with
     |true,.global g=>cP i λz=>HR P tb g t z
     |_,x=>cP x λs=>cP i λz=>HI P t s z)
   |.alloc t=>It P (aV+d) t
   |.box t x=>cP x λs=>boxP P (aV+d) t s
   |.build t ps=>If P t ps.toList
   |.buildSlice t n ps=>(match tb.deep.any (RN t) with
     |true=>uI P (aV+d) t n ps.toList
     |false=>o9 P tb.hp (aV+d) t n ps.toList)
   |.binOp op t x y t'=>(match isSh op with
     |true=>cP x λa=>cP y λb=>GN P op t t' a b
     |false=>match RN t t' with
       |true=>cP x λa=>cP y λb=>(match tb.hp,op with
         |true,.eql=>M8 P tb t a b mA (Db P tb op t a b)
         |true,.neq=>M8 P tb t a b (λb=>mA (!b)) (Db P tb op t a b)
         |_,_=>Db P tb op t a b)
       |false=>.no)
   |.convert s t x=>cP x λa=>QO P s t a
   |.index t x i=>(match tb.hp with
     |true=>cP x λa=>cP i λz=>CJ P t a z
     |false=>cP x λa=>cP i λz=>pR P t a z)
   |.unOp op t x=>cP x λa=>unP P op t a
   |.extract x i=>cP x λs=>(match s with
     |.t l=>(match l[i]? with
       |some v=>cr v
       |none=>.no)
     |_=>.no)
   |.nilCheck x=>cP x λs=>(match s with
     |.c (.p b o)=>cr (.c (.p b o))
     |.r n ds o=>cr (.r n ds o)
     |.c (.q b sz k j)=>cr (.c (.q b sz k j))
     |.c (.e b i)=>cr (.c (.e b i))
     |_=>.no)
   |.slice t x lo hi mx=>(match tb.cs.any (RN d) && mx.isNone with
     |true=>cP x λs=>BV P (aV+d) t s lo hi
     |false=>match tb.hp || tb.cs.any (RN (d+1000000)),x with
       |true,.global g=>HP P tb g t lo hi mx
       |true,x=>cP x λs=>BW P t s lo hi mx
       |false,x=>cP x λs=>tG P t s lo hi mx)
   |.makeMap t none=>ym P tb (aV+d) t
   |.lookup t x y cm=>cP x λs=>cP y λk=>(match s with
     |.c (.k g)=>yn P tb t g k cm
     |s=>wk P tb t s k cm)
   |.range t x=>(match tb.nd with
     |true=>cP x λs=>GZ P tb (aV+d) t s
     |false=>.no)
   |.entry x=>cP x λs=>H0 s
   |.makeSlice t x y=>cP x λa=>cP y λb=>PD P (aV+d) t a b
   |.makeFunc (.func g) fs cs=>(match fs.toList with
     |[]=>M7 cs.toList λxs=>funP g xs
     |_=>.no)
   |.call c=>(match c.callee with
     |.value x=>cP x λs=>(match s with
       |.c (.f g cs)=>M7 c.args.toList λxs=>KB P tb (aV+d) g (xs++cs.map S.c)
       |_=>.no)
     |.builtin .len=>(match c.args.toList,c.argTypes.toList with
       |[x],[t]=>cP x λs=>lenP P t s
       |_,_=>.no)
     |.builtin .append=>(match c.args.toList,c.argTypes.toList with
       |[x,y],[t,t']=>(match RN t t' with
         |true=>(match tb.hp with
           |true=>cP x λs=>cP y λv=>zk P (aV+d) t s v
           |false=>cP x λs=>cP y λv=>nL P (aV+d) t s v)
         |false=>.no)
       |_,_=>.no)
     |.builtin .min=>(match c.args.toList with
       |[x,y]=>cP x λa=>cP y λb=>we false a b
       |_=>.no)
     |.builtin .max=>(match c.args.toList with
       |[x,y]=>cP x λa=>cP y λb=>we true a b
       |_=>.no)
     |_=>.no)
   |_=>.no
def aA(Is:Cx)(s:bC)(a:bT)(k:bT->Prop):Prop:=∃r,Is.is s a r/\k r
structure Fp where
 wr:Option Nat
 sl:List Nat
 ob:List Nat
 wo:List Nat
 kp:Bool
def uu(o:Oper)(ob:List (Nat×O)):Bool:=match o.op,ob with
 |.store ..,[_]=>true
 |_,_=>false
def run(Is:Cx)(fr:Fr):bn->List Nat->List Nat->(Option S->List (Nat×O)->List Nat->List Nat->Prop)->Prop
 |.no,_,_,_=>False
 |.ret v ob,fs,fo,K=>K v ob fs fo
 |.LF t k,fs,fo,K=>run Is fr (k (fr.sl t)) (t::fs) fo K
 |.lZ b k,fs,fo,K=>run Is fr (k (fr.ob b)) fs ((2*b)::fo) K
 |.LG b k,fs,fo,K=>run Is fr (k (bO (fr.ob b))) fs ((2*b+1)::fo) K
 |.i x k,fs,fo,K=>ar x λz=>run Is fr (k z) fs fo K
 |.bo x k,fs,fo,K=>pc x λz=>run Is fr (k z) fs fo K
 |.st x k,fs,fo,K=>rL x λz=>run Is fr (k z) fs fo K
 |.ik kd x k,fs,fo,K=>qv kd x λz=>run Is fr (k z) fs fo K
 |.Gv kd cs k,fs,fo,K=>QY kd cs λz=>run Is fr (k z) fs fo K
 |.sc sz x k,fs,fo,K=>aG sz x λn cs=>run Is fr (k n cs) fs fo K
 |.wx b p q,fs,fo,K=>ax b (run Is fr p fs fo K) (run Is fr q fs fo K)
 |.ck p _ k,fs,fo,K=>az p (run Is fr k fs fo K)
 |.ca s a k,fs,fo,K=>aA Is s a λr=>run Is fr (k r) fs fo K
 |.inl _ f xs ob k,fs,fo,K=>∃v os,Is.inl f xs ob v os/\run Is fr (k v os) fs fo K
def bn.bind(h:Option S->List (Nat×O)->bn):bn->bn
 |.no=>.no
 |.ret v ob=>h v ob
 |.LF t k=>.LF t λs=>(k s).bind h
 |.lZ b k=>.lZ b λs=>(k s).bind h
 |.LG b k=>.LG b λs=>(k s).bind h
 |.i x k=>.i x λs=>(k s).bind h
 |.bo x k=>.bo x λs=>(k s).bind h
 |.st x k=>.st x λs=>(k s).bind h
 |.ik kd x k=>.ik kd x λs=>(k s).bind h
 |.Gv kd cs k=>.Gv kd cs λs=>(k s).bind h
 |.sc sz x k=>.sc sz x λn s=>(k n s).bind h
 |.wx b p q=>.wx b (p.bind h) (q.bind h)
 |.ck p d k=>.ck p d (k.bind h)
 |.ca s a k=>.ca s a λr=>(k r).bind h
 |.inl id f xs ob k=>.inl id f xs ob λv os=>(k v os).bind h
def tellP(v:Option S)(ob:List (Nat×O)):bn:=match v with
 |some (.c (.d x))=>.bo x λb=>.wx b (.ret (some (.c (.d (.v (.bool true))))) ob) (.ret (some (.c (.d (.v (.bool false))))) ob)
 |v=>.ret v ob
def sO(ops:Array Oper):List Oper->List Nat
 |[]=>[]
 |o::l=>match o.guard with
   |some (j,_)=>(match(ops[j]?).bind (·.dst) with
     |some t=>t::sO ops l
     |none=>sO ops l)
   |none=>sO ops l
def Ae(gs:List Nat)(o:Oper)(p:bn):bn:=match o.dst with
 |some d=>(match gs.any (RN d) with
   |true=>p.bind tellP
   |false=>p)
 |none=>p
def opH(P:RV)(tb:Tb)(aV:Nat)(o:Oper):bn:=match tb.ic with
 |true=>(opP P tb aV o).bind λv ob=>.ret (match v with
   |some s=>some (x9 P o.type s)
   |none=>none) ob
 |false=>opP P tb aV o
def nO(P:RV)(tb:Tb)(aV:Nat)(ops:Array Oper)(gs:List Nat)(o:Oper):bn:=match o.guard with
 |none=>Ae gs o (opH P tb aV o)
 |some (j,want)=>match(ops[j]?).bind (·.dst) with
   |none=>.no
   |some t=>.LF t λs=>match s with
     |.c .z=>.ret (match o.dst with
       |some _=>some (.c .z)
       |none=>none) []
     |s=>F9 s λb=>.wx (b == want) (Ae gs o (opH P tb aV o)) (.ret (match o.dst with
       |some _=>some (.c .z)
       |none=>none) [])
def Fr.aI(fr:Fr):List (Nat×O)->Fr
 |[]=>fr
 |(b,o)::l=>(fr.set b o).aI l
def Fr.bp(fr:Fr)(d:Option Nat)(v:Option S):Fr:=match d,v with
 |some d,some v=>fr.put d v
 |_,_=>fr
def CO(n:Nat)(d:Option Nat)(v:Option S):Bool:=match d,v with
 |some d,some _=>Tw d n
 |none,none=>true
 |_,_=>false
def CM:C->(C->Prop)->Prop
 |.d x,k=>k (.d x)
 |.n,k=>k .n
 |.l sz,k=>k (.l sz)
 |.p b o,k=>k (.p b o)
 |.q b sz i j,k=>k (.q b sz i j)
 |.w b,k=>k (.w b)
 |.m b,k=>k (.m b)
 |.f g cs,k=>k (.f g cs)
 |.z,k=>k .z
 |.u,k=>k .u
 |.e b i,k=>k (.e b i)
 |.y b q sz l n,k=>k (.y b q sz l n)
 |.k g,k=>k (.k g)
def pV:List C->(List C->Prop)->Prop
 |[],k=>k []
 |c::cs,k=>CM c λc=>pV cs λcs=>k (c::cs)
def Qq:S->(S->Prop)->Prop
 |.c x,k=>CM x λx=>k (.c x)
 |.a n ds,k=>k (.a n ds)
 |.g cs,k=>pV cs λcs=>k (.g cs)
 |.r n ds o,k=>k (.r n ds o)
 |.t l,k=>k (.t l)
def Qp:Option S->(Option S->Prop)->Prop
 |none,k=>k none
 |some v,k=>Qq v λv=>k (some v)
def Qr:O->(O->Prop)->Prop
 |.b e cs,k=>pV cs λcs=>k (.b e cs)
 |.a e n ds,k=>k (.a e n ds)
 |.w e sz n ds,k=>k (.w e sz n ds)
 |.v e sz n cs,k=>pV cs λcs=>k (.v e sz n cs)
 |.s sz n ds,k=>k (.s sz n ds)
 |.m t ag vs n ds,k=>k (.m t ag vs n ds)
 |.ms t ag vs n ds,k=>k (.ms t ag vs n ds)
 |.it ag vs c n ds,k=>k (.it ag vs c n ds)
 |.x e sz n ds,k=>k (.x e sz n ds)
 |.h e sz n ds j c,k=>CM c λc=>k (.h e sz n ds j c)
 |.dK,k=>k .dK
def wA:List (Nat×O)->(List (Nat×O)->Prop)->Prop
 |[],k=>k []
 |(b,o)::l,k=>Qr o λo=>wA l λl=>k ((b,o)::l)
theorem uA(c:C)(k:C->Prop):CM c k=k c:=by cases c <;> rfl
theorem nI:∀(l:List C) (k:List C->Prop),pV l k=k l
 |[],_=>rfl
 |c::l,k=>by rw[pV,uA,nI l]
theorem MT(s:S)(k:S->Prop):Qq s k=k s:=by
 cases s with
 |c x=>exact uA x _
 |g cs=>exact nI cs _
 |_=>rfl
theorem pU(v:Option S)(k:Option S->Prop):Qp v k=k v:=by
 cases v with
 |none=>rfl
 |some v=>exact MT v _
theorem MU(o:O)(k:O->Prop):Qr o k=k o:=by
 cases o with
 |b e cs=>exact nI cs _
 |v e sz n cs=>exact nI cs _
 |h e sz n ds j c=>exact uA c _
 |_=>rfl
theorem lg:∀(l:List (Nat×O)) (k:List (Nat×O)->Prop),wA l k=k l
 |[],_=>rfl
 |(b,o)::l,k=>by rw[wA,MU,lg l]
def xA(Is:Cx)(P:RV)(tb:Tb)(n:Nat)(ops:Array Oper)(gs:List Nat):List Oper->Nat->Fr->List (Nat×Fp)->(Fr->List (Nat×Fp)->Prop)->Prop
 |[],_,fr,l,K=>K fr l
 |o::os,i,fr,l,K=>run Is fr (nO P tb fr.aV ops gs o) [] [] λv ob fs fo=>match CO n o.dst v with
   |true=>Qp v λv=>wA ob λob=>xA Is P tb n ops gs os (i+1) ((fr.bp o.dst v).aI ob) ((i,⟨o.dst,fs,fo,ob.map Sf,uu o ob⟩)::l) K
   |false=>False
def Bo(a b:Fp):Bool :=
 (match a.wr with
 |some d=>b.sl.any (RN d) || (match b.wr with
   |some d'=>RN d d'
   |none=>false)
 |none=>false) || (match b.wr with
 |some d=>a.sl.any (RN d)
 |none=>false) || a.wo.any (λx=>b.ob.any (RN (2*x)) || ((!a.kp && b.ob.any (RN (2*x+1))) || b.wo.any (RN x))) || b.wo.any (λx=>a.ob.any (RN (2*x)) || (!b.kp && a.ob.any (RN (2*x+1))))
def Nk(bf:Array Nat):List (Nat×Fp)->Bool
 |[]=>true
 |(j,x)::l=>l.all (λy=>!Bo y.2 x || Nat.testBit (bf.getD j 0) y.1) && Nk bf l
def o8:List Oper->Nat->Bool
 |[],_=>true
 |o::l,i=>o.after.toList.all (λe=>!Region.binds .any e || Tw e.on i) && o8 l (i+1)
def Fr.oC(fr:Fr):Fr:=⟨fr.sl,fr.ob,fr.aV+1000000⟩
structure Kt where
 n:Fr->Prop
 x:Nat->Fr->Prop
 r:Fr->Prop
def Lp(B:(bT->Prop)->bT->Prop)(s:bT):Prop:=∃I:Nat->bT->Prop,(∃m,I m s)/\∀m s,I m s->B (λs'=>∃m',m'<m/\I m' s') s
def jn(X:(bT->Prop)->Prop)(k:bT->Prop):Prop:=∃I:bT->Prop,X I/\∀s,I s->k s
def Fa(mp:List (Nat×Tg)):List Nat->Bool
 |[]=>true
 |i::l=>(match bL mp i with
   |some (.ob b)=>RN b i
   |_=>false) && Fa mp l
def oG(kp:List Nat)(sh:Sh)(fr:Fr)(k:bT->Prop):Prop:=match Ha sh fr with
 |some (st,x)=>(match Fa x.mp kp with
   |true=>k st
   |false=>False)
 |none=>False
def gT:Code->Option Nat
 |.region id _ _=>some id
 |.seq a b=>(match gT a with
   |some i=>some i
   |none=>gT b)
 |.block _ c=>gT c
 |.loop c=>gT c
 |.scope c=>gT c
 |_=>none
structure qj where
 lp:List (Nat×Sh)
 jn:List (Nat×Sh)
 un:List (Nat×Nat)
def getU:List (Nat×Nat)->Option Nat->Option Nat
 |_,none=>none
 |[],_=>none
 |(i,s)::l,some j=>match RN i j with
   |true=>some s
   |false=>getU l (some j)
def unr(B:Fr->(Fr->Prop)->Prop):Nat->Fr->Prop
 |0,_=>False
 |n+1,fr=>B fr λfr'=>unr B n fr'
def getH:List (Nat×Sh)->Option Nat->Option Sh
 |_,none=>none
 |[],_=>none
 |(i,s)::l,some j=>match RN i j with
   |true=>some s
   |false=>getH l (some j)
def Fj:List (Nat×Sh)->Option Nat->List Sh
 |_,none=>[]
 |[],_=>[]
 |(i,s)::l,some j=>match RN i j with
   |true=>s::Fj l (some j)
   |false=>Fj l (some j)
def Cc(fr:Fr):List Sh->Option Sh
 |[]=>none
 |sh::l=>match Ha sh fr with
   |some _=>some sh
   |none=>Cc fr l
def evB(fr:Fr)(t:R4)(k:Bool->Prop):Prop:=match t with
 |.tmp t=>(match fr.sl t with
   |.c (.d x)=>pc x k
   |_=>False)
 |.const v=>(match v with
   |.bool b=>k b
   |_=>False)
 |_=>False
def AH(tb:Tb)(n:Nat)(iW:Bool)(ops:List Oper):Option (Nat×Nat×Nat):=match iW,tb.nd,ops with
 |false,true,[⟨some d,.next (.tmp t) false,_,_,_,none⟩,⟨some e,.extract (.tmp d') 0,_,_,_,none⟩]=>(match RN d d' && (Tw d n && Tw e n) with
   |true=>some (d,t,e)
   |false=>none)
 |_,_,_=>none
def mO(ds:List D)(sz i:Nat):List D:=ds.take (i*sz)++ds.drop ((i+1)*sz)
def vb(b:Bool):S:=.c (.d (.v (.bool b)))
def EO(fr:Fr)(d t e:Nat)(K:Fr->Prop):Prop:=match fr.sl t with
 |.c (.p b 0)=>(match fr.ob b with
   |some (.it ag vs _ n ds)=>(n=0->K ((fr.put d (.t [vb false])).put e (vb false))) /\
       ∀i,i<n->K (((fr.set b (.it ag vs (some (el ds (3+vs) i)) (n-1) (mO ds (3+vs) i))).put d (.t [vb true,su,su])).put e (vb true))
   |_=>False)
 |_=>False
def ex(Is:Cx)(P:RV)(tb:Tb)(n:Nat)(H:qj)(kp:List Nat):Code->Fr->Kt->Prop
 |.skip,fr,K=>K.n fr
 |.label _,fr,K=>K.n fr
 |.region _ ops iW,fr,K=>(match AH tb n iW ops.toList with
  |some (d,t,e)=>EO fr d t e λfr=>K.n fr.oC
  |none=>xA Is P tb n ops (sO ops ops.toList) ops.toList 0 fr [] λfr l=>(match iW with
   |true=>(match Nk (Region.before ops) l && o8 ops.toList 0 with
     |true=>K.n fr.oC
     |false=>False)
   |false=>K.n fr.oC))
 |.seq a b,fr,K=>(match getH H.jn (gT b) with
   |none=>ex Is P tb n H kp a fr ⟨λfr=>ex Is P tb n H kp b fr K,K.x,K.r⟩
   |some sh=>jn (λk=>ex Is P tb n H kp a fr ⟨λfr=>oG kp sh fr k,K.x,K.r⟩) λst=>cu bg sh st λfr=>ex Is P tb n H kp b fr K)
 |.cond t a b,fr,K=>evB fr t λz=>ax z (ex Is P tb n H kp a fr K) (ex Is P tb n H kp b fr K)
 |.block i c,fr,K=>ex Is P tb n H kp c fr ⟨K.n,λj fr=>(match RN j i with
   |true=>K.n fr
   |false=>K.x j fr),K.r⟩
 |.loop c,fr,K=>(match getU H.un (gT c) with
  |some k=>unr (λfr next=>ex Is P tb n H kp c fr ⟨next,K.x,K.r⟩) k fr
  |none=>match Cc fr (Fj H.lp (gT c)) with
   |none=>False
   |some sh=>oG kp sh fr (Lp λnext st=>cu bg sh st λfr=>ex Is P tb n H kp c fr ⟨λfr=>oG kp sh fr next,K.x,K.r⟩))
 |.exit i,fr,K=>K.x i fr
 |.scope c,fr,K=>ex Is P tb n H kp c fr K
 |.ret,fr,K=>K.r fr
 |_,_,_=>False
def QR(P:RV)(fr:Fr)(t ty:Nat):Option S:=match fr.sl t with
 |.c (.p b o)=>(match fr.ob b with
   |some (.a _ n ds)=>nP P ty n ds o
   |some (.b _ cs)=>sD P ty cs o
   |_=>none)
 |_=>none
def B3(P:RV)(fr:Fr):List ResultVar->Option (List S)
 |[]=>some []
 |.tmp t::l=>(match B3 P fr l with
   |some xs=>some (fr.sl t::xs)
   |none=>none)
 |.cell t ty::l=>(match QR P fr t ty with
   |some s=>(match B3 P fr l with
     |some xs=>some (s::xs)
     |none=>none)
   |none=>none)
def uc:lW->List lW
 |.t l=>l
 |s=>[s]
def s6{α:Type}:Nat->List α->List (Nat×α)
 |_,[]=>[]
 |j,x::l=>(j,x)::s6 (j+1) l
def start(ins js:List (Nat×mh)):List (Nat×Tg):=match ins with
 |[]=>[]
 |(i,_)::l=>match js.any λx=>RN x.1 i with
   |true=>(i,.ob i)::start l js
   |false=>start l js
def Ce(s:bC)(fr:Fr):Option bT:=match oE fr.ob fr.sl ⟨start s.ins.ob s.js,[]⟩ (s6 0 (uc s.out)) with
 |some (r,k)=>(match oF fr.ob k s.js with
   |some (r',k)=>(match oS s.js k.mp && rA k.mp k.fix && nA s.js with
     |true=>some (r++r')
     |false=>none)
   |none=>none)
 |none=>none
def GS(P:RV)(s:bC)(rs:List ResultVar)(fr:Fr)(K:bT->Prop):Prop:=match B3 P fr rs with
 |some xs=>(match Ce s ⟨cC 0 xs,fr.ob,fr.aV⟩ with
   |some st=>K st
   |none=>False)
 |none=>False
def fnB(s:bC)(fn:Func):Bool:=TX s.ins.sl.length fn.ntmps && (match s.out with
 |.t l=>RN fn.results.toList.length l.length && !RN l.length 1
 |_=>RN fn.results.toList.length 1)
def E9(l:List (Nat×Tg)):List Nat:=l.map Sf
def fnX(Is:Cx)(P:RV)(tb:Tb)(H:qj)(s:bC)(a:bT)(K:bT->Prop):Prop:=match P.funcs[s.f]? with
 |none=>False
 |some fn=>match fn.body with
   |none=>False
   |some c=>match fnB s fn with
     |true=>cu bg s.ins a λfr=>ex Is P tb fn.ntmps H (E9 (start s.ins.ob s.js)) c fr ⟨λfr=>GS P s fn.results.toList fr K,λ_ _=>False,λfr=>GS P s fn.results.toList fr K⟩
     |false=>False
abbrev ptr(k:Nat):RK:=.pointer (some ⟨k,0,none⟩)
def CB(M:Mem)(ρ:Nat->Option RK):C->RK->Prop
 |.d x,u=>Rd M x u
 |.n,u=>u=.slice none 0 0
 |.l _,u=>u=.slice none 0 0
 |.p b o,u=>∃k,ρ b=some (ptr k)/\u=.pointer (some (gd (some ⟨k,0,none⟩) o))
 |.q b sz k j,u=>∃a n c,ρ b=some (.slice a n c)/\k<n/\u=.pointer (some (gd a (k*sz+j)))
 |.w b,u=>ρ b=some u/\∃a n c,u=.slice a n c
 |.m b,u=>∃k,ρ b=some (.map (some k))/\u=.map (some k)
 |.z,u=>u=undef
 |.u,_=>True
 |.e b i,u=>∃k,ρ b=some (ptr k)/\u=.pointer (some (gd (some ⟨k,0,none⟩) i))
 |.y b q sz l n,u=>∃ad c,u=.slice ad n c/\(n<=c/\c<=UI)/\((∃k,ρ b=some (ptr k)/\(0<n->ad=some (gd (some ⟨k,0,none⟩) (q+l*sz)))) \/
   ∃a N C,ρ b=some (.slice a N C)/\q=0/\l+n<=N/\l+c=C/\(0<c->ad=some (gd a (l*sz))))
 |.k g,u=>(∃m,u=.map (some m))/\ee M ⟨g,0,none⟩=some u
 |.f _ _,_=>False
def zV(M:Mem)(ρ:Nat->Option RK):List C->List RK->Prop
 |[],[]=>True
 |c::cs,u::us=>CB M ρ c u/\zV M ρ cs us
 |_,_=>False
def CR(M:Mem)(ρ:Nat->Option RK):C->RK->Prop
 |.f g cs,u=>∃us,u=.func (.func g) #[] us.toArray/\zV M ρ cs us
 |c,u=>CB M ρ c u
def cA(M:Mem)(ρ:Nat->Option RK):List C->List RK->Prop
 |[],[]=>True
 |c::cs,u::us=>CR M ρ c u/\cA M ρ cs us
 |_,_=>False
def Rr(M:Mem)(a:Option Addr)(q:Nat)(ds:List D):Prop:=∀i d,ds[i]?=some d->∃u,ee M (gd a (q+i))=some u/\Rd M d u
def SB(M:Mem)(ρ:Nat->Option RK):S->RK->Prop
 |.c c,v=>CR M ρ c v
 |.a n ds,v=>ds.length=n/\∃us,v=.agg us.toArray/\bz M ds us
 |.g cs,v=>∃us,v=.agg us.toArray/\cA M ρ cs us
 |.r n ds o,v=>ds.length=n/\∃a q,v=.pointer (some (gd a (q+o)))/\Rr M a q ds
 |.t _,_=>False
def wN(M:Mem)(ρ:Nat->Option RK):List S->List RK->Prop
 |[],[]=>True
 |c::cs,u::us=>SB M ρ c u/\wN M ρ cs us
 |_,_=>False
def SR(M:Mem)(ρ:Nat->Option RK):S->RK->Prop
 |.t l,v=>∃vs,v=.tuple vs.toArray/\wN M ρ l vs
 |s,v=>SB M ρ s v
abbrev jI(i:av):RK:=.agg i.gM.toArray
def VR(M:Mem):Bool->List D->RK->Prop
 |true,xs,v=>∃us,v=.agg us.toArray/\bz M xs us
 |false,xs,v=>∃d,xs=[d]/\Rd M d v
def MR(M:Mem)(ag:Bool)(vs:Nat):List (av×RK)->List D->Prop
 |[],ds=>ds=[]
 |(i,v)::l,ds=>∃xs rest,ds=.v (.int .i64 i.aH)::.v (.int .i64 i.seq)::.v (.int .i64 i.index)::(xs++rest)/\xs.length=vs/\VR M ag xs v/\MR M ag vs l rest
def MsR(M:Mem)(ag:Bool)(vs n:Nat)(ds:List D)(k:Nat):Prop:=∃es clock l,M k=some (.map es clock)/\nS es clock/\es.toList.map (λe=>(e.key,e.val))=vN jI l/\MR M ag vs l ds/\l.length=n
def CurR(M:Mem)(ag:Bool)(vs:Nat)(es:Array TJ)(clock c0:Nat)(seen:Array Nat)(kc:List D):Prop:=c0=clock/\∃(e:TJ) (i:av) (xs:List D),e∈es.toList/\(∃s',seen=Array.push s' e.born)/\e.key=jI i /\
 kc=.v (.int .i64 i.aH)::.v (.int .i64 i.seq)::.v (.int .i64 i.index)::xs/\xs.length=vs/\VR M ag xs e.val
def lP(es:Array TJ)(seen:Array Nat):List TJ:=es.toList.filter λe=>!seen.contains e.born
def ItR(M:Mem)(ag:Bool)(vs:Nat)(cur:Option (List D))(n:Nat)(ds:List D)(o:Obj):Prop:=∃kb es clock seen c0 since l,o=.mapIter (some kb) since seen c0/\M kb=some (.map es clock)/\nS es clock/\(since<=c0/\since<=clock)/\(∀x∈es.toList,x.born<since) /\
 (lP es seen).map (λe=>(e.key,e.val))=vN jI l/\MR M ag vs l ds/\l.length=n/\∀kc,cur=some kc->CurR M ag vs es clock c0 seen kc
def tu(lst:List (Nat×As))(b e sz n:Nat)(a:Option Addr)(c:Nat)(us:List RK):Prop:=(b,As.acc (.slice a n c) e sz n us)∈lst \/
 (n<=c/\c<=UI/\∃g l0 cur,(0<c->a=some ⟨g,l0*sz,none⟩)/\(b,As.raw g (.cells cur e (0,0)))∈lst/\cur.size=(l0+c)*sz/\(cur.toList.drop (l0*sz)).take (n*sz)=us)
theorem tu.mono{lst lst':List (Nat×As)}{b b' e sz n:Nat}{a:Option Addr}{c:Nat}{us:List RK}(hl:∀x,(b,x)∈lst->(b',x)∈lst')(h:tu lst b e sz n a c us):tu lst' b' e sz n a c us:=by
 rcases h with h5|⟨h5,h6,g,l0,cur,h7,h8,h9⟩
 .exact .inl (hl _ h5)
 .exact .inr ⟨h5,h6,g,l0,cur,h7,hl _ h8,h9⟩
theorem tu.src{lst:List (Nat×As)}{b e sz n:Nat}{a:Option Addr}{c:Nat}{us:List RK}(h:tu lst b e sz n a c us):∃x,(b,x)∈lst/\∀b' lst',(b',x)∈lst'->tu lst' b' e sz n a c us:=by
 rcases h with h5|⟨h5,h6,g,l0,cur,h7,h8,h9⟩
 .exact⟨_,h5,λ_ _ hm=>.inl hm⟩
 .exact⟨_,h8,λ_ _ hm=>.inr ⟨h5,h6,g,l0,cur,h7,hm,h9⟩⟩
theorem tu.cap{w0 w:R0}{M:Mem}{Γ0:List As}{lst:List (Nat×As)}{b e sz n:Nat}{a:Option Addr}{c:Nat}{us:List RK}(h:tu lst b e sz n a c us)(hw:St w0 M (lst.map Sg++Γ0) w):n<=c/\c<=UI:=by
 rcases h with h5|⟨h5,h6,_⟩
 .obtain⟨⟨hl,hh⟩,_⟩:=hw.all _ (List.mem_append_left _ (Ss h5))
  grind
 .exact⟨h5,h6⟩
theorem tu.cell{w0 w:R0}{M:Mem}{Γ0:List As}{lst:List (Nat×As)}{b e sz n:Nat}{a:Option Addr}{c:Nat}{us:List RK}(h:tu lst b e sz n a c us)(hw:St w0 M (lst.map Sg++Γ0) w)(hl:us.length=n*sz){q:Nat}{v:RK}(hq:us[q]?=some v) :
  a.isSome=true/\w.cell? (gd a q)=some v:=by
 rcases h with h5|⟨h5,h6,g,l0,cur,h7,h8,h9,h10⟩
 .exact hw.mS (List.mem_append_left _ (Ss h5)) hq
 .obtain⟨_,hb⟩:=hw.all _ (List.mem_append_left _ (Ss h8));have hq':=(TN.1 hq).1;have hn0:0<n:=by
   grind
  obtain rfl:=h7 Q0;refine⟨rfl,?_⟩;have e1:gd (some ⟨g,l0*sz,none⟩) q=⟨g,l0*sz+q,none⟩:=by rw[cy]
  rw[e1,cell_of_row w g _ cur e (0,0) hb];rw[<-h10,TE,TV]at hq;split at hq
  .simpa using hq
  .cases hq
def qd(ds:List D)(j:Nat)(c:C):List C:=(ds.map C.d).set j c
def OR(M:Mem)(ρ:Nat->Option RK)(lst:List (Nat×As))(b:Nat):O->Prop
 |.b e cs=>∃k us,ρ b=some (ptr k)/\(b,As.own k e us)∈lst/\cA M ρ cs us
 |.a e n ds=>∃k us,ρ b=some (ptr k)/\(b,As.own k e us)∈lst/\bz M ds us/\ds.length=n
 |.w e sz n ds=>∃a c us,ρ b=some (.slice a n c)/\(b,As.acc (.slice a n c) e sz n us)∈lst/\bz M ds us/\us.length=n*sz/\n<=lim
 |.v e sz n cs=>∃a c us,ρ b=some (.slice a n c)/\(b,As.acc (.slice a n c) e sz n us)∈lst/\cA M ρ cs us/\us.length=n*sz/\n<=lim
 |.s sz n ds=>∃v,ρ b=some v/\Rd M (.sl n sz ds) v
 |.m _ ag vs n ds=>∃k l,ρ b=some (.map (some k))/\(b,As.mp k (vN jI l))∈lst/\MR M ag vs l ds/\l.length=n
 |.ms _ ag vs n ds=>∃k,ρ b=some (.map (some k))/\(b,As.rds [] [])∈lst/\MsR M ag vs n ds k
 |.it ag vs cur n ds=>∃k o,ρ b=some (ptr k)/\(b,As.raw k o)∈lst/\ItR M ag vs cur n ds o
 |.h e sz n ds j c=>∃a q us,ρ b=some (.slice a n q)/\(b,As.acc (.slice a n q) e sz n us)∈lst/\cA M ρ (qd ds j c) us/\us.length=n*sz/\n<=lim/\j<ds.length
 |.x e sz n ds=>∃a c us,ρ b=some (.slice a n c)/\bz M ds us/\us.length=n*sz/\n<=lim/\tu lst b e sz n a c us
 |.dK=>True
structure Rel(w0:R0)(Γ0:List As)(fr:Fr)(ρ:Nat->Option RK)(M:Mem)(lst:List (Nat×As))(val:Nat->Option RK)(w:R0):Prop where
 sl:∀t,fr.sl t=su\/∃v,val t=some v/\SR M ρ (fr.sl t) v
 ob:∀b o,fr.ob b=some o->OR M ρ lst b o
 vZ:∀b v,ρ b=some v->b<fr.aV\/(fr.ob b).isSome=true
 gq:∀p,p∈lst->(ρ p.1).isSome=true
 nd:(lst.map Sf).Nodup
 st:St w0 M (lst.map Sg++Γ0) w
 gr:zu M
def Ext(ρ ρ':Nat->Option RK):Prop:=∀b v,ρ b=some v->ρ' b=some v
theorem Ext.refl(ρ:Nat->Option RK):Ext ρ ρ:=λ_ _ h=>h
theorem Ext.trans{a b c:Nat->Option RK}(h:Ext a b)(k:Ext b c):Ext a c:=λx v hx=>k x v (h x v hx)
section
variable {M M':Mem} {ρ ρ':Nat->Option RK} (hM:Sub M M') (hr:Ext ρ ρ')
theorem CB.mono(hM:Sub M M')(hr:Ext ρ ρ'):∀{c:C} {v:RK},CB M ρ c v->CB M' ρ' c v
 |.d _,_,h=>Rd.mono hM _ _ h
 |.n,_,h=>h
 |.l _,_,h=>h
 |.p _ _,_,⟨k,h1,h2⟩=>⟨k,hr _ _ h1,h2⟩
 |.q _ _ _ _,_,⟨a,n,c,h1,h2⟩=>⟨a,n,c,hr _ _ h1,h2⟩
 |.w _,_,h=>⟨hr _ _ h.1,h.2⟩
 |.m _,_,⟨k,h1,h2⟩=>⟨k,hr _ _ h1,h2⟩
 |.z,_,h=>h
 |.u,_,_=>trivial
 |.e _ _,_,⟨k,h1,h2⟩=>⟨k,hr _ _ h1,h2⟩
 |.y _ _ _ _ _,_,⟨ad,c,h1,h2,.inl ⟨k,h3,h4⟩⟩=>⟨ad,c,h1,h2,.inl ⟨k,hr _ _ h3,h4⟩⟩
 |.y _ _ _ _ _,_,⟨ad,c,h1,h2,.inr ⟨a,N,C,h3,h4⟩⟩=>⟨ad,c,h1,h2,.inr ⟨a,N,C,hr _ _ h3,h4⟩⟩
 |.k _,_,h=>⟨h.1,lu hM h.2⟩
 |.f _ _,_,h=>h
theorem zV.mono(hM:Sub M M')(hr:Ext ρ ρ'):∀{c:List C} {v:List RK},zV M ρ c v->zV M' ρ' c v
 |[],[],_=>trivial
 |_::_,_::_,h=>⟨CB.mono hM hr h.1,zV.mono hM hr h.2⟩
 |[],_::_,h=>h
 |_::_,[],h=>h
theorem CR.mono(hM:Sub M M')(hr:Ext ρ ρ'):∀{c:C} {v:RK},CR M ρ c v->CR M' ρ' c v
 |.f _ _,_,⟨us,h1,h2⟩=>⟨us,h1,zV.mono hM hr h2⟩
 |.d x,_,h=>CB.mono hM hr (c:=.d x) h
 |.n,_,h=>CB.mono hM hr (c:=.n) h
 |.l sz,_,h=>CB.mono hM hr (c:=.l sz) h
 |.p b o,_,h=>CB.mono hM hr (c:=.p b o) h
 |.q b s k j,_,h=>CB.mono hM hr (c:=.q b s k j) h
 |.w b,_,h=>CB.mono hM hr (c:=.w b) h
 |.m b,_,h=>CB.mono hM hr (c:=.m b) h
 |.z,_,h=>CB.mono hM hr (c:=.z) h
 |.u,_,_=>trivial
 |.e b i,_,h=>CB.mono hM hr (c:=.e b i) h
 |.y b q sz l n,_,h=>CB.mono hM hr (c:=.y b q sz l n) h
 |.k g,_,h=>CB.mono hM hr (c:=.k g) h
theorem cA.mono(hM:Sub M M')(hr:Ext ρ ρ'):∀{c:List C} {v:List RK},cA M ρ c v->cA M' ρ' c v
 |[],[],_=>trivial
 |_::_,_::_,h=>⟨CR.mono hM hr h.1,cA.mono hM hr h.2⟩
 |[],_::_,h=>h
 |_::_,[],h=>h
theorem Rr.mono(hM:Sub M M'){a:Option Addr}{q:Nat}{ds:List D}(h:Rr M a q ds):Rr M' a q ds:=λi d hi=>let⟨u,h1,h2⟩:=h i d hi;⟨u,lu hM h1,Rd.mono hM _ _ h2⟩
theorem SB.mono(hM:Sub M M')(hr:Ext ρ ρ'){s:S}{v:RK}(h:SB M ρ s v):SB M' ρ' s v:=by
 cases s with
 |c c=>exact CR.mono hM hr h
 |a n ds=>obtain⟨h0,us,h1,h2⟩:=h;exact⟨h0,us,h1,h2.mono hM⟩
 |g cs=>obtain⟨us,h1,h2⟩:=h;exact⟨us,h1,cA.mono hM hr h2⟩
 |r n ds o=>obtain⟨h0,a,q,h1,h2⟩:=h;exact⟨h0,a,q,h1,h2.mono hM⟩
 |t l=>exact h
theorem wN.mono(hM:Sub M M')(hr:Ext ρ ρ'):∀{c:List S} {v:List RK},wN M ρ c v->wN M' ρ' c v
 |[],[],_=>trivial
 |_::_,_::_,h=>⟨SB.mono hM hr h.1,wN.mono hM hr h.2⟩
 |[],_::_,h=>h
 |_::_,[],h=>h
theorem SR.mono(hM:Sub M M')(hr:Ext ρ ρ'):∀{s:S} {v:RK},SR M ρ s v->SR M' ρ' s v
 |.t _,_,⟨vs,h1,h2⟩=>⟨vs,h1,wN.mono hM hr h2⟩
 |.c c,_,h=>SB.mono hM hr (s:=.c c) h
 |.a n ds,_,h=>SB.mono hM hr (s:=.a n ds) h
 |.g cs,_,h=>SB.mono hM hr (s:=.g cs) h
 |.r n ds o,_,h=>SB.mono hM hr (s:=.r n ds o) h
theorem VR.mono(hM:Sub M M'){ag:Bool}{xs:List D}{v:RK}(h:VR M ag xs v):VR M' ag xs v:=by
 cases ag with
 |true=>obtain⟨us,h1,h2⟩:=h;exact⟨us,h1,h2.mono hM⟩
 |false=>obtain⟨d,h1,h2⟩:=h;exact⟨d,h1,Rd.mono hM _ _ h2⟩
theorem MR.mono(hM:Sub M M'){ag:Bool}{vs:Nat}:∀{l:List (av×RK)} {ds:List D},MR M ag vs l ds->MR M' ag vs l ds
 |[],_,h=>h
 |(_,_)::_,_,⟨xs,rest,h1,h2,h3,h4⟩=>⟨xs,rest,h1,h2,VR.mono hM h3,MR.mono hM h4⟩
theorem MsR.mono(hM:Sub M M'){ag:Bool}{vs n:Nat}{ds:List D}{k:Nat}(h:MsR M ag vs n ds k):MsR M' ag vs n ds k:=by obtain⟨es,clock,l,h1,h2,h3,h4,h5⟩:=h;exact⟨es,clock,l,hM _ _ h1,h2,h3,h4.mono hM,h5⟩
theorem ItR.mono(hM:Sub M M'){ag:Bool}{vs n:Nat}{cur:Option (List D)}{ds:List D}{o:Obj}(h:ItR M ag vs cur n ds o):ItR M' ag vs cur n ds o:=by obtain⟨kb,es,clock,seen,c0,since,l,h1,h2,h3,h4,h5,h6,h7,h8,h9⟩:=h;refine⟨kb,es,clock,seen,c0,since,l,h1,hM _ _ h2,h3,h4,h5,h6,h7.mono hM,h8,λkc hk=>?_⟩;obtain⟨e1,e,i,xs,e2,e3,e4,e5,e6,e7⟩:=h9 kc hk;exact⟨e1,e,i,xs,e2,e3,e4,e5,e6,e7.mono hM⟩
theorem ItR.nV{ag:Bool}{vs n:Nat}{cur:Option (List D)}{ds:List D}{o:Obj}(h:ItR M ag vs cur n ds o):ItR M ag vs none n ds o:=by obtain⟨kb,es,clock,seen,c0,since,l,h1,h2,h3,h4,h5,h6,h7,h8,h9⟩:=h;exact⟨kb,es,clock,seen,c0,since,l,h1,h2,h3,h4,h5,h6,h7,h8,λkc hk=>by cases hk⟩
theorem OR.mono(hM:Sub M M')(hr:Ext ρ ρ'){lst lst':List (Nat×As)}{b:Nat}(hl:∀x,(b,x)∈lst->(b,x)∈lst'){o:O}(h:OR M ρ lst b o):OR M' ρ' lst' b o:=by
 cases o with
 |b e cs=>obtain⟨k,us,h1,h2,h3⟩:=h;exact⟨k,us,hr _ _ h1,hl _ h2,cA.mono hM hr h3⟩
 |a e n ds=>obtain⟨k,us,h1,h2,h3,h4⟩:=h;exact⟨k,us,hr _ _ h1,hl _ h2,h3.mono hM,h4⟩
 |w e sz n ds=>obtain⟨a,c,us,h1,h2,h3,h4⟩:=h;exact⟨a,c,us,hr _ _ h1,hl _ h2,h3.mono hM,h4⟩
 |v e sz n cs=>obtain⟨a,c,us,h1,h2,h3,h4⟩:=h;exact⟨a,c,us,hr _ _ h1,hl _ h2,cA.mono hM hr h3,h4⟩
 |s sz n ds=>obtain⟨v,h1,h2⟩:=h;exact⟨v,hr _ _ h1,Rd.mono hM _ _ h2⟩
 |m t ag vs n ds=>obtain⟨k,l,h1,h2,h3,h4⟩:=h;exact⟨k,l,hr _ _ h1,hl _ h2,h3.mono hM,h4⟩
 |ms t ag vs n ds=>obtain⟨k,h1,h2,h3⟩:=h;exact⟨k,hr _ _ h1,hl _ h2,h3.mono hM⟩
 |it ag vs cur n ds=>obtain⟨k,o,h1,h2,h3⟩:=h;exact⟨k,o,hr _ _ h1,hl _ h2,h3.mono hM⟩
 |x e sz n ds=>obtain⟨a,c,us,h1,h2,h3,h4,h5⟩:=h;exact⟨a,c,us,hr _ _ h1,h2.mono hM,h3,h4,h5.mono hl⟩
 |h e sz n ds j c=>obtain⟨a,c,us,h1,h2,h3,h4⟩:=h;exact⟨a,c,us,hr _ _ h1,hl _ h2,cA.mono hM hr h3,h4⟩
 |dK=>trivial
end
def upV(val:Nat->Option RK)(d:Nat)(v:RK):Nat->Option RK:=λt=>match RN t d with
 |true=>some v
 |false=>val t
theorem B8(fr:Fr)(d:Nat)(s:S)(t:Nat):(fr.put d s).sl t=if t=d then s else fr.sl t:=by
 show(match RN t d with
  |true=>s
  |false=>fr.sl t)=_
 by_cases e:t=d
 .simp_all
 all_goals grind [RN,RD]
theorem NG(val:Nat->Option RK)(d:Nat)(v:RK)(t:Nat):upV val d v t=if t=d then some v else val t:=by
 unfold upV;by_cases e:t=d
 .simp_all
 all_goals grind [RN,RD]
theorem cI(fr:Fr)(b:Nat)(o:O)(k:Nat):(fr.set b o).ob k=if k=b then some o else fr.ob k:=by
 show(match RN k b with
  |true=>some o
  |false=>fr.ob k)=_
 by_cases e:k=b
 .simp_all
 all_goals grind [RN,RD]
section
variable {w0:R0} {Γ0:List As} {fr:Fr} {ρ:Nat->Option RK} {M:Mem} {lst:List (Nat×As)} {val:Nat->Option RK} {w:R0}
theorem Rel.put(h:Rel w0 Γ0 fr ρ M lst val w)(d:Nat){s:S}{v:RK}(hs:SR M ρ s v):Rel w0 Γ0 (fr.put d s) ρ M lst (upV val d v) w:=by
 refine⟨λt=>?_,h.ob,h.vZ,h.gq,h.nd,h.st,h.gr⟩;rw[B8,NG];by_cases e:t=d
 .grind
 .rw[J1 e,J1 e];exact h.sl t
theorem Rel.mem(h:Rel w0 Γ0 fr ρ M lst val w){b:Nat}{x:As}(hm:(b,x)∈lst):Y5 (lst.map Sg++Γ0) (x::((lst.filter λp=>!RN p.1 b).map Sg++Γ0)):=by
 obtain⟨l1,l2,rfl⟩:=List.append_of_mem hm;have hnd:=h.nd;rw[Si,Sb]at hnd;have hn1:∀p∈l1,RN p.1 b=false:=λp hp=>by
  grind [RN,RD,Td,Ss,RG]
 have hn2:∀p∈l2,RN p.1 b=false:=λp hp=>by
  cases hb:RN p.1 b with
  |false=>rfl
  |true=>have e:=RD hb;have:=(SG.1 (Td.1 hnd).2.1).1;exact J3 (show b∈l2.map Sf by grind) this
 have f1:l1.filter (λp=>!RN p.1 b)=l1:=Uu.2 λp hp=>by grind
 have f2:l2.filter (λp=>!RN p.1 b)=l2:=Uu.2 λp hp=>by grind
 rw[SS,List.filter_cons,f1,f2,VF];simp_all
end
structure Out where
 v:Option S
 ob:List (Nat×O)
 fs:List Nat
 fo:List Nat
def R1(Is:Cx)(fr:Fr):bn->List Nat->List Nat->Out->Prop
 |.no,_,_,_=>False
 |.ret v ob,fs,fo,o=>o=⟨v,ob,fs,fo⟩
 |.LF t k,fs,fo,o=>R1 Is fr (k (fr.sl t)) (t::fs) fo o
 |.lZ b k,fs,fo,o=>R1 Is fr (k (fr.ob b)) fs ((2*b)::fo) o
 |.LG b k,fs,fo,o=>R1 Is fr (k (bO (fr.ob b))) fs ((2*b+1)::fo) o
 |.i x k,fs,fo,o=>∃z,x=.v (.int .i64 z)/\R1 Is fr (k z) fs fo o
 |.bo x k,fs,fo,o=>∃z,x=.v (.bool z)/\R1 Is fr (k z) fs fo o
 |.st x k,fs,fo,o=>∃z,x=.v (.string z)/\R1 Is fr (k z) fs fo o
 |.ik kd x k,fs,fo,o=>∃z,x=.v (.int kd z)/\R1 Is fr (k z) fs fo o
 |.Gv kd cs k,fs,fo,o=>∃b,nH kd cs=some b/\R1 Is fr (k b) fs fo o
 |.sc sz x k,fs,fo,o=>∃n cs,x=.sl n sz cs/\R1 Is fr (k n cs) fs fo o
 |.wx b p q,fs,fo,o=>(b=true/\R1 Is fr p fs fo o)\/(b=false/\R1 Is fr q fs fo o)
 |.ck p _ k,fs,fo,o=>p/\R1 Is fr k fs fo o
 |.ca s a k,fs,fo,o=>∃r,Is.is s a r/\R1 Is fr (k r) fs fo o
 |.inl _ f xs ob k,fs,fo,o=>∃v os,Is.inl f xs ob v os/\R1 Is fr (k v os) fs fo o
theorem mI{x:D}{k:Int->Prop}(h:ar x k):∃z,x=.v (.int .i64 z)/\k z:=by
 unfold ar at h
 grind
theorem lv{x:D}{k:Bool->Prop}(h:pc x k):∃z,x=.v (.bool z)/\k z:=by
 unfold pc at h
 grind
theorem DD{x:D}{k:ByteArray->Prop}(h:rL x k):∃z,x=.v (.string z)/\k z:=by
 unfold rL at h
 grind
theorem Kd{kd:Tl}{x:D}{k:Int->Prop}(h:qv kd x k):∃z,x=.v (.int kd z)/\k z:=by
 unfold qv at h
 grind
theorem KC{kd:Tl}{cs:List D}{k:List Int->Prop}(h:QY kd cs k):∃b,nH kd cs=some b/\k b:=by
 unfold QY at h
 grind
theorem fI{sz:Nat}{x:D}{k:Nat->List D->Prop}(h:aG sz x k):∃n cs,x=.sl n sz cs/\k n cs:=by
 unfold aG at h
 grind [RN,RD]
theorem gO{Is:Cx}{fr:Fr}:∀(p:bn) {fs fo:List Nat} {K:Option S->List (Nat×O)->List Nat->List Nat->Prop},run Is fr p fs fo K->∃o,R1 Is fr p fs fo o/\K o.v o.ob o.fs o.fo
 |.no,_,_,_,h=>h.elim
 |.ret v ob,fs,fo,_,h=>⟨⟨v,ob,fs,fo⟩,rfl,h⟩
 |.LF t k,_,_,_,h=>gO (k (fr.sl t)) h
 |.lZ b k,_,_,_,h=>gO (k (fr.ob b)) h
 |.LG b k,_,_,_,h=>gO (k (bO (fr.ob b))) h
 |.i _ k,_,_,_,h=>let⟨z,h1,h2⟩:=mI h;let⟨o,h3,h4⟩:=gO (k z) h2;⟨o,⟨z,h1,h3⟩,h4⟩
 |.bo _ k,_,_,_,h=>let⟨z,h1,h2⟩:=lv h;let⟨o,h3,h4⟩:=gO (k z) h2;⟨o,⟨z,h1,h3⟩,h4⟩
 |.st _ k,_,_,_,h=>let⟨z,h1,h2⟩:=DD h;let⟨o,h3,h4⟩:=gO (k z) h2;⟨o,⟨z,h1,h3⟩,h4⟩
 |.ik _ _ k,_,_,_,h=>let⟨z,h1,h2⟩:=Kd h;let⟨o,h3,h4⟩:=gO (k z) h2;⟨o,⟨z,h1,h3⟩,h4⟩
 |.Gv _ _ k,_,_,_,h=>let⟨z,h1,h2⟩:=KC h;let⟨o,h3,h4⟩:=gO (k z) h2;⟨o,⟨z,h1,h3⟩,h4⟩
 |.sc _ _ k,_,_,_,h=>let⟨n,cs,h1,h2⟩:=fI h;let⟨o,h3,h4⟩:=gO (k n cs) h2;⟨o,⟨n,cs,h1,h3⟩,h4⟩
 |.wx true p _,_,_,_,h=>let⟨o,h3,h4⟩:=gO p h;⟨o,.inl ⟨rfl,h3⟩,h4⟩
 |.wx false _ q,_,_,_,h=>let⟨o,h3,h4⟩:=gO q h;⟨o,.inr ⟨rfl,h3⟩,h4⟩
 |.ck _ _ k,_,_,_,h=>let⟨o,h3,h4⟩:=gO k h.2;⟨o,⟨h.1,h3⟩,h4⟩
 |.ca _ _ k,_,_,_,h=>let⟨r,h1,h2⟩:=h;let⟨o,h3,h4⟩:=gO (k r) h2;⟨o,⟨r,h1,h3⟩,h4⟩
 |.inl _ _ _ _ k,_,_,_,h=>let⟨v,os,h1,h2⟩:=h;let⟨o,h3,h4⟩:=gO (k v os) h2;⟨o,⟨v,os,h1,h3⟩,h4⟩
theorem Pz{x:Option O}{e sz n:Nat}{l:List D}(h:bO x=some (.w e sz n l)):(∃ds,x=some (.w e sz n ds))\/∃ds j c,x=some (.h e sz n ds j c):=by unfold bO at h;split at h <;> simp_all
theorem Py{x:Option O}{e sz n:Nat}{l:List D}(h:bO x=some (.x e sz n l)):∃ds,x=some (.x e sz n ds):=by unfold bO at h;split at h <;> simp_all
theorem PA{x:Option O}{e sz n:Nat}{l:List C}(h:bO x=some (.v e sz n l)):∃ds,x=some (.v e sz n ds):=by unfold bO at h;split at h <;> simp_all
theorem meta_s{x:Option O}{sz n:Nat}{l:List D}(h:bO x=some (.s sz n l)):∃ds,x=some (.s sz n ds):=by unfold bO at h;split at h <;> simp_all
def tv(a:Act):Nat->Option RK:=λt=>a.tmps[t]?
def dN(a:Act):R4->RK->Prop
 |.tmp t,v=>a.tmps[t]?=some v
 |.const c,v=>v=c
 |.func f,v=>v=.func (.func f) #[] #[]
 |.global g,v=>v=.pointer (some ⟨g,0,none⟩)
def Lf(a:Act):Lm:=iA 0 a.tmps.toList
theorem nf:∀(vs:List RK) (i k:Nat),lf (iA i vs) (i+k)=vs[k]?
 |[],_,_=>by simp[iA,lf]
 |v::vs,i,0=>by simp only[iA,lf,S2,VF];rfl
 |v::vs,i,k+1=>by
  have hb:RN (i+(k+1)) i=false:=by
   grind [RN,RD]
  simp only[iA,lf,hb];rw[show i+(k+1)=i+1+k by omega,nf vs (i+1) k];simp
theorem Lf_at(a:Act)(t:Nat):lf (Lf a) t=a.tmps[t]?:=by have:=nf a.tmps.toList 0 t;rw[Sz]at this;rw[Lf,this];simp
theorem uP{n:Nat}{a:Act}(h1:a.tmps.size=n)(h2:a.defers=[]):Sat n (Lf a) a:=⟨h1,h2,λt v h=>by rwa [Lf_at]at h⟩
theorem dN.bq{a:Act}{x:R4}{v:RK}(h:dN a x v):bq (Lf a) x=some v:=by
 cases x with
 |tmp t=>rw[Xe.bq,Lf_at];exact h
 |const c=>rw[Xe.bq,h]
 |func f=>rw[Xe.bq,h]
 |global g=>rw[Xe.bq,h]
theorem dN.eval{a:Act}{x:R4}{v:RK}(h:dN a x v):a.eval x=v:=by
 cases x with
 |tmp t=>simp[Xp,show a.tmps[t]?=some v from h]
 |const c=>rw[h];rfl
 |func f=>rw[h];rfl
 |global g=>rw[h];rfl
theorem conS_ok(M:Mem)(ρ:Nat->Option RK)(v:RK):SR M ρ (conS v) v:=by
 unfold conS;split
 .rfl
 .rename_i cs;split
  .rename_i h;refine⟨Q2,cs.toList,rfl,Q2,λk d u hd hu=>?_⟩
   grind [RE,Rd]
  .exact trivial
 .split
  .rename_i h;exact⟨rfl,h⟩
  .exact trivial
section
variable {Is:Cx} {w0:R0} {Γ0:List As} {fr:Fr} {ρ:Nat->Option RK} {M:Mem} {lst:List (Nat×As)} {a:Act} {w:R0} {fs fo:List Nat} {o:Out}
theorem bI(h:Rel w0 Γ0 fr ρ M lst (tv a) w){x:R4}{k:S->bn}(hr:R1 Is fr (cP x k) fs fo o):∃s fs',R1 Is fr (k s) fs' fo o/\(s=su\/∃v,dN a x v/\SR M ρ s v):=by
 cases x with
 |tmp t=>exact⟨_,_,hr,h.sl t⟩
 |const c=>exact⟨_,_,hr,.inr ⟨c,rfl,conS_ok M ρ c⟩⟩
 |func f=>exact⟨_,_,hr,.inr ⟨_,rfl,⟨[],rfl,trivial⟩⟩⟩
 |global g=>exact hr.elim
theorem SR_su(v:RK):SR M ρ su v:=trivial
theorem dg{P:RV}{t:RX}{s:S}{v:RK}(h:SR M ρ s v):SR M ρ (eJ P t s) v:=by
 unfold eJ;split
 .split
  .exact h
  .exact h
 .exact h
theorem JI{c:C}{v:RK}(h:CR M ρ c v):CR M ρ (nilC c) v:=by
 cases c with
 |l sz=>obtain rfl:v=.slice none 0 0:=h;exact⟨rfl,rfl⟩
 |_=>exact h
theorem EN:∀{cs:List C} {vs:List RK},cA M ρ cs vs->cA M ρ (cs.map nilC) vs
 |[],[],_=>trivial
 |_::_,_::_,h=>⟨JI h.1,EN h.2⟩
 |[],_::_,h=>h.elim
 |_::_,[],h=>h.elim
theorem pO{hp:Bool}{s:S}{v:RK}(h:SR M ρ s v):SR M ρ (qf hp s) v:=by
 cases hp with
 |false=>exact h
 |true =>
  cases s with
  |c c=>exact JI (M:=M) (ρ:=ρ) h
  |g cs=>obtain⟨us,h1,h2⟩:=h;exact⟨us,h1,EN h2⟩
  |_=>exact h
theorem sq{P:RV}{t:RX}{hp:Bool}:qf hp (eJ P t su)=su:=by cases hp <;> rfl
theorem Pc{P:RV}{t:RX}{s:S}{v:RK}(h:SR M ρ s v):SR M ρ (x9 P t s) v:=by
 unfold x9;split
 .split
  .have hv:v=.slice none 0 0:=by
    have h:Rd M (.v (.slice none 0 0)) v:=h
    grind [Rd]
   exact dg (s:=.c .n) hv
  .rename_i g fs cs;split
   .rename_i h1 h2;have hv:v=.func (.func g) fs cs:=by
     have h:Rd M (.v (.func (.func g) fs cs)) v:=h
     grind [Rd]
    have e1:fs=#[]:=by grind
    have e2:cs=#[]:=by grind
    exact⟨[],by grind,trivial⟩
   .exact h
  .exact h
 .exact h
theorem eL{s:S}{k:Int->bn}(hr:R1 Is fr (mH s k) fs fo o):∃z,s=.c (.d (.v (.int .i64 z)))/\R1 Is fr (k z) fs fo o:=by
 unfold mH at hr;split at hr
 .obtain⟨z,rfl,h⟩:=hr;exact⟨z,rfl,h⟩
 .exact hr.elim
theorem uJ{s:S}{k:Bool->bn}(hr:R1 Is fr (F9 s k) fs fo o):∃z,s=.c (.d (.v (.bool z)))/\R1 Is fr (k z) fs fo o:=by
 unfold F9 at hr;split at hr
 .obtain⟨z,rfl,h⟩:=hr;exact⟨z,rfl,h⟩
 .exact hr.elim
theorem nc{s:S}{k:ByteArray->bn}(hr:R1 Is fr (xa s k) fs fo o):∃z,s=.c (.d (.v (.string z)))/\R1 Is fr (k z) fs fo o:=by
 unfold xa at hr;split at hr
 .obtain⟨z,rfl,h⟩:=hr;exact⟨z,rfl,h⟩
 .exact hr.elim
theorem ev_val{x:R4}{s:S}{y:D}(h:s=su\/∃v,dN a x v/\SR M ρ s v)(e:s=.c (.d y)):∃v,dN a x v/\Rd M y v:=by
 subst e;rcases h with h|h
 .cases h
 .exact h
theorem er{x:R4}{s:S}{y:RK}(h:s=su\/∃v,dN a x v/\SR M ρ s v)(e:s=.c (.d (.v y))):dN a x y:=by
 obtain⟨v,h1,h2⟩:=ev_val h e
 grind [Rd]
end
def aY(n:Nat)(w0:R0)(Γ0:List As)(ρ:Nat->Option RK)(M:Mem)(fr:Fr)(a:Act)(w:R0):Prop :=
 a.tmps.size=n/\a.defers=[]/\∃ρ' M' lst',Sub M M'/\Ext ρ ρ'/\Rel w0 Γ0 fr ρ' M' lst' (tv a) w
theorem rH:∀(l:List (Nat×O)) (fr:Fr),(fr.aI l).sl=fr.sl
 |[],_=>rfl
 |(b,o)::l,fr=>by rw[Fr.aI,rH l];rfl
theorem km:∀(l:List (Nat×O)) (fr:Fr),(fr.aI l).aV=fr.aV
 |[],_=>rfl
 |(b,o)::l,fr=>by rw[Fr.aI,km l];rfl
theorem kM:∀(l:List (Nat×O)) (fr:Fr) (d:Nat) (s:S),(fr.put d s).aI l=(fr.aI l).put d s
 |[],_,_,_=>rfl
 |(b,o)::l,fr,d,s=>by rw[Fr.aI,Fr.aI,<-kM l (fr.set b o) d s];rfl
theorem w4:∀(l k:List (Nat×O)) (fr:Fr),fr.aI (l++k)=(fr.aI l).aI k
 |[],_,_=>rfl
 |(b,o)::l,k,fr=>by rw[SA,Fr.aI,Fr.aI,w4 l k]
theorem tv_put{a:Act}{d:Nat}(v:RK)(hd:d<a.tmps.size):tv (a.put (some d) v)=upV (tv a) d v:=by
 funext t
 rw[NG];unfold tv;simp only[Xq]
 grind
section
variable {P:RV} {n:Nat} {w0:R0} {Γ0:List As} {fr:Fr} {ρ:Nat->Option RK} {M:Mem} {lst:List (Nat×As)} {a:Act} {w:R0} {Q:Exit->Act->R0->Prop}
theorem aY.put{fr':Fr}{ρ':Nat->Option RK}{M':Mem}{lst':List (Nat×As)}{w':R0}(h1:a.tmps.size=n)(h2:a.defers=[])(hM:Sub M M')(hE:Ext ρ ρ')(h:Rel w0 Γ0 fr' ρ' M' lst' (tv a) w'){d:Nat}(hd:d<n){s:S}{v:RK}(hs:SR M' ρ' s v) :
  aY n w0 Γ0 ρ M (fr'.put d s) (a.put (some d) v) w':=by
 refine⟨by simp[Xq,h1],by simp[Xq,h2],ρ',M',lst',hM,hE,?_⟩;rw[tv_put v Q0];exact h.put d hs
theorem bh{o:Oper}{d:Nat}{out:Out}{s:S}{v:RK}{ρ':Nat->Option RK}{M':Mem}{lst':List (Nat×As)}{w':R0}(h1:a.tmps.size=n)(h2:a.defers=[])(hd:o.dst=some d)(hdn:d<n)(hv:out.v=some s)
  (hM:Sub M M') (hE:Ext ρ ρ') (h:Rel w0 Γ0 (fr.aI out.ob) ρ' M' lst' (tv a) w') (hs:SR M' ρ' s v) (hrun:(Sk a.eval o).run P w=.ok (.value v) w') :
  o.wp P a w (aY n w0 Γ0 ρ M ((fr.bp o.dst out.v).aI out.ob)) Q:=by
 unfold WY;rw[hrun,Oper.upon_value,hd,hv];show aY n w0 Γ0 ρ M ((fr.put d s).aI out.ob) _ _;rw[kM];exact aY.put h1 h2 hM hE h hdn hs
theorem pM{o:Oper}{out:Out}{ρ':Nat->Option RK}{M':Mem}{lst':List (Nat×As)}{w':R0}(h1:a.tmps.size=n)(h2:a.defers=[])(hd:o.dst=none)
  (hM:Sub M M') (hE:Ext ρ ρ') (h:Rel w0 Γ0 (fr.aI out.ob) ρ' M' lst' (tv a) w') (hrun:(Sk a.eval o).run P w=.ok .skip w') :
  o.wp P a w (aY n w0 Γ0 ρ M ((fr.bp o.dst out.v).aI out.ob)) Q:=by
 unfold WY;rw[hrun,Oper.upon_skip,hd];refine⟨h1,h2,ρ',M',lst',hM,hE,?_⟩;have e:fr.bp none out.v=fr:=rfl;rw[e];exact h
theorem aS{o:Oper}{d:Nat}{out:Out}{s:S}{v:RK}(h1:a.tmps.size=n)(h2:a.defers=[])(h:Rel w0 Γ0 fr ρ M lst (tv a) w)(hd:o.dst=some d)(hdn:d<n)(hv:out.v=some s)(hob:out.ob=[])(hs:SR M ρ s v)
  (hy:Yq P w0 (Lf a) M (lst.map Sg++Γ0) o v):o.wp P a w (aY n w0 Γ0 ρ M ((fr.bp o.dst out.v).aI out.ob)) Q :=
 bh h1 h2 hd hdn hv (Sub.refl M) (Ext.refl ρ) (by rw[hob];exact h) hs (hy n a w (uP h1 h2) h.st)
end
def Eq3(P:RV)(t:RX):Prop:=∀(w0:R0) (L:Lm) (M:Mem) (Γ:List As) (d:Option Nat) (ty:RX) (pos:String) (af:Array Edge) (g:Option (Nat×Bool)) (x y:R4) (a b c a' b' c':Int),
 bq L x=some (.agg [.int .i64 a,.int .i64 b,.int .i64 c].toArray)->bq L y=some (.agg [.int .i64 a',.int .i64 b',.int .i64 c'].toArray) ->
 Yq P w0 L M Γ ⟨d,.binOp .eql t x y t,ty,pos,af,g⟩ (.bool (decide (a=a'/\b=b'/\c=c')))/\Yq P w0 L M Γ ⟨d,.binOp .neq t x y t,ty,pos,af,g⟩ (.bool (!decide (a=a'/\b=b'/\c=c')))
def EqA(P:RV)(t:RX)(n:Nat)(kd:Tl):Prop:=∀(w0:R0) (L:Lm) (M:Mem) (Γ:List As) (d:Option Nat) (ty:RX) (pos:String) (af:Array Edge) (g:Option (Nat×Bool)) (x y:R4) (a b:List Int),
 a.length=n->b.length=n->bq L x=some (.agg (a.map (To kd)).toArray)->bq L y=some (.agg (b.map (To kd)).toArray) ->
 Yq P w0 L M Γ ⟨d,.binOp .eql t x y t,ty,pos,af,g⟩ (.bool (decide (a=b)))/\Yq P w0 L M Γ ⟨d,.binOp .neq t x y t,ty,pos,af,g⟩ (.bool (!decide (a=b)))
structure me(P:RV)(tb:Tb):Prop where
 eq3:∀t,tb.eq3.any (RN t)=true->Eq3 P t
 key:∀t,tb.eq3.any (RN t)=true->qw P t jI
 eqa:∀t n e kd,tb.eqa.any (RN t)=true->P.underlying t=some (.array n e)->P.underlying e=some (.int kd)->EqA P t n kd
 gl:∀v ds,yC v tb.gl=some ds->∀M,zu M->∃us,bz M ds us/\∀i u,us[i]?=some u->ee M (WE ⟨v,0,none⟩ i)=some u
 gm:∀v l,AZ v tb.gm=some l->∀M,zu M->∃(m:Nat) (es:Array TJ) (c:Nat) (l':List (Int×Int)),ee M ⟨v,0,none⟩=some (.map (some m))/\M m=some (.map es c)/\(es.toList.map λe=>(e.key,e.val))=(l'.map λp=>(To .i64 p.1,To .i64 p.2))/\l'.Perm l/\(l.map Sf).Nodup
 eqs:∀t n,Fy t tb.eqs=some n->EqA P t n .i64
theorem fG{P:RV}{t:RX}{m:Nat}(h:Gs P t=some m):mz P t m=true:=by
 grind [Gs,mz,VF]
theorem iu{P:RV}{t:RX}{m:Nat}(h:zS P t=some m):Gl P t m=true:=by
 unfold zS at h;unfold Gl;cases hu:P.underlying t with
 |none=>simp[hu]at h
 |some d =>
  rw[hu]at h;cases d with
  |struct fs=>have:=fG h;unfold mz at this;simpa using this
  |array n e=>have:=fG h;unfold mz at this;simpa using this
  |_=>simp at h
theorem dF{P:RV}{t e sz:Nat}(h:CY P t=some (e,sz)):sliceB P t e sz=true:=by
 unfold CY at h;unfold sliceB;cases hu:P.underlying t with
 |none=>simp[hu]at h
 |some d =>
  rw[hu]at h;cases d with
  |slice e' =>
   simp only[]at h;cases hs:Gs P e' with
   |none=>simp[hs]at h
   |some sz'=>rw[hs]at h;simp only[RE,R6]at h;obtain⟨rfl,rfl⟩:=h;rw[fG hs];simp
  |_=>simp at h
theorem Fz{P:RV}{s i off ft:Nat}(h:rq P s i=some (off,ft)):yN P s i off=true:=by
 unfold rq at h;unfold yN;cases hu:P.underlying s with
 |none=>simp[hu]at h
 |some d =>
  rw[hu]at h;cases d with
  |struct fs =>
   simp only[]at h ⊢;cases hf:fs[i]? with
   |none=>simp[hf]at h
   |some f =>
    rw[hf]at h;simp only[]at h ⊢;cases hj:P.info? f.type with
    |none=>simp[hj]at h
    |some j =>
     rw[hj]at h;simp only[]at h ⊢;cases hs:j.size with
     |zero=>rw[hs]at h;simp at h
     |succ k=>rw[hs]at h;simp only[RE,R6]at h;obtain⟨rfl,_⟩:=h;simp
  |_=>simp at h
theorem tl{ds:List D}{i:Nat}(h:i<ds.length):ds[i]?=some (cell ds i):=by
 unfold cell
 grind
theorem cA.len{M:Mem}{ρ:Nat->Option RK}:∀{cs:List C} {us:List RK},cA M ρ cs us->us.length=cs.length
 |[],[],_=>rfl
 |_::cs,_::us,h=>by rw[RU,RU,cA.len h.2]
 |[],_::_,h=>h.elim
 |_::_,[],h=>h.elim
theorem cA.get{M:Mem}{ρ:Nat->Option RK}:∀{cs:List C} {us:List RK} {i:Nat} {c:C},cA M ρ cs us->cs[i]?=some c->∃u,us[i]?=some u/\CR M ρ c u
 |c::cs,u::us,0,_,h,hc=>by simp only[SE,RE]at hc;subst hc;exact⟨u,rfl,h.1⟩
 |_::cs,_::us,i+1,_,h,hc=>by
  obtain⟨u,h1,h2⟩:=cA.get (i:=i) h.2 (by simpa using hc)
  grind
 |[],[],_,_,_,hc=>by simp at hc
 |[],_::_,_,_,h,_=>h.elim
 |_::_,[],_,_,h,_=>h.elim
theorem cA.drop{M:Mem}{ρ:Nat->Option RK}:∀(n:Nat) {cs:List C} {us:List RK},cA M ρ cs us->cA M ρ (cs.drop n) (us.drop n)
 |0,_,_,h=>h
 |_+1,[],[],_=>trivial
 |n+1,_::_,_::_,h=>cA.drop n h.2
 |_+1,[],_::_,h=>h.elim
 |_+1,_::_,[],h=>h.elim
theorem cA.take{M:Mem}{ρ:Nat->Option RK}:∀(n:Nat) {cs:List C} {us:List RK},cA M ρ cs us->cA M ρ (cs.take n) (us.take n)
 |0,_,_,_=>trivial
 |_+1,[],[],_=>trivial
 |n+1,_::_,_::_,h=>⟨h.1,cA.take n h.2⟩
 |_+1,[],_::_,h=>h.elim
 |_+1,_::_,[],h=>h.elim
theorem cA.app{M:Mem}{ρ:Nat->Option RK}:∀{cs:List C} {us:List RK} {cs':List C} {us':List RK},cA M ρ cs us->cA M ρ cs' us'->cA M ρ (cs++cs') (us++us')
 |[],[],_,_,_,h=>h
 |_::_,_::_,_,_,h,k=>⟨h.1,cA.app h.2 k⟩
 |[],_::_,_,_,h,_=>h.elim
 |_::_,[],_,_,h,_=>h.elim
theorem cA.data{M:Mem}{ρ:Nat->Option RK}:∀{ds:List D} {us:List RK},bz M ds us->cA M ρ (ds.map C.d) us
 |[],[],_=>trivial
 |d::ds,u::us,h=>⟨h.2 0 d u rfl rfl,cA.data ⟨by simpa using h.1,λk e x h1 h2=>h.2 (k+1) e x (by grind) (by grind)⟩⟩
 |[],_::_,h=>by have:=h.1;simp at this
 |_::_,[],h=>by have:=h.1;simp at this
theorem ti{n:Nat}{ds:List D}(h:ds.length=n):cells n ds=ds:=by
 unfold cells;apply Xi
 grind [Nat.lt_or_ge,tl]
section
variable {P:RV} {n:Nat} {w0:R0} {Γ:List As} {ρ:Nat->Option RK} {M:Mem} {L:Lm} {d:Option Nat} {ty:RX} {pos:String} {af:Array Edge} {g:Option (Nat×Bool)}
theorem lV(a:Option Addr)(i j:Nat):gd a (i+j)=gd (some (gd a i)) j:=(eI a i j).symm
theorem jG{t:RX}{x:R4}{ad:Option Addr}{q o m:Nat}{ds:List D}{us:List RK}{s:S}(hx:bq L x=some (.pointer (some (gd ad (q+o)))))(hr:bz M ds us)(hl:ds.length=m)
  (hc:∀i u,us[i]?=some u->∀w,St w0 M Γ w->w.cell? (gd ad (q+i))=some u) (h:nP P t m ds o=some s):∃v,Yq P w0 L M Γ ⟨d,.load t x,ty,pos,af,g⟩ v/\SR M ρ s v:=by
 unfold nP at h;cases hf:jJ P t with
 |true =>
  rw[hf]at h;simp only[]at h;cases ho:Tw o m with
  |false=>simp[ho]at h
  |true =>
   rw[ho]at h;simp only[RE]at h;subst h;have ho':o<ds.length:=by simp_all
   obtain⟨u,h1,h2⟩:=bz.get hr (tl ho');exact⟨u,Y.load hx hf (hc o u h1),h2⟩
 |false =>
  rw[hf]at h;simp only[]at h;cases ha:zS P t with
  |none=>simp[ha]at h
  |some k =>
   rw[ha]at h;simp only[]at h;have hag:=iu ha;cases hb:(RN o 0 && RN k m) with
   |true=>rw[hb]at h;simp only[RE]at h;subst h;simp only[RP]at hb;have e1:=RD hb.1;have e2:=RD hb.2;subst e1 e2;refine⟨.agg us.toArray,Y.wq hx (by rw[hr.1,hl];exact hag) λw hw j v hj=>?_,hl,us,rfl,hr⟩;have:=hc j v hj w hw;rwa [S2,eI]
   |false =>
    rw[hb]at h;simp only[]at h;cases hb2:TX (o+k) m with
    |false=>simp[hb2]at h
    |true =>
     rw[hb2]at h;simp only[RE]at h;subst h;have hle:o+k<=m:=by simp_all
     have hcut:=hr.cut o k;have hlen:((us.drop o).take k).length=k:=by simp[hr.1,hl];omega
     refine⟨.agg ((us.drop o).take k).toArray,Y.wq hx (by grind) λw hw j v hj=>?_,?_,_,rfl,hcut⟩
     .have hj':us[o+j]?=some v:=by
       rw[TE]at hj;split at hj
       .simpa using hj
       .cases hj
      have:=hc (o+j) v hj' w hw;rwa [eI,S8]
     .unfold sub;simp[hl];omega
theorem yo{t:RX}{x:R4}{ad:Option Addr}{o:Nat}{cs:List C}{us:List RK}{s:S}(hx:bq L x=some (.pointer (some (gd ad o))))(hr:cA M ρ cs us)
  (hc:∀i u,us[i]?=some u->∀w,St w0 M Γ w->w.cell? (gd ad i)=some u) (h:sD P t cs o=some s):∃v,Yq P w0 L M Γ ⟨d,.load t x,ty,pos,af,g⟩ v/\SR M ρ s v:=by
 unfold sD at h;cases hf:jJ P t with
 |true =>
  rw[hf]at h;simp only[]at h;cases ho:cs[o]? with
  |none=>simp[ho]at h
  |some c=>rw[ho]at h;simp only[RE]at h;subst h;obtain⟨u,h1,h2⟩:=cA.get hr ho;exact⟨u,Y.load hx hf (hc o u h1),h2⟩
 |false =>
  rw[hf]at h;simp only[]at h;cases ha:zS P t with
  |none=>simp[ha]at h
  |some k =>
   rw[ha]at h;simp only[]at h;have hag:=iu ha;cases hb2:TX (o+k) cs.length with
   |false=>simp[hb2]at h
   |true =>
    rw[hb2]at h;simp only[RE]at h;subst h;have hle:o+k<=cs.length:=by simp_all
    have hcut:=cA.take k (cA.drop o hr);have hlen:((us.drop o).take k).length=k:=by simp[cA.len hr];omega
    refine⟨.agg ((us.drop o).take k).toArray,Y.wq hx (by grind) λw hw j v hj=>?_,_,rfl,hcut⟩;have hj':us[o+j]?=some v:=by
     grind
    have:=hc (o+j) v hj' w hw;rwa [eI]
end
theorem H2{M:Mem}{ds:List D}{us:List RK}(h:bz M ds us)(sz k:Nat):bz M (el ds sz k) ((us.drop (k*sz)).take sz):=h.cut _ _
theorem CX{ds:List D}{sz n k:Nat}(hl:ds.length=n*sz)(hk:k<n):(el ds sz k).length=sz:=by
 unfold el;have:(k+1)*sz<=n*sz:=SI _ hk
 grind
theorem nw{Is:Cx}{fr:Fr}{x:Option S}{fs fo:List Nat}{o:Out}(h:R1 Is fr (zM x) fs fo o):∃s,x=some s/\o=⟨some s,[],fs,fo⟩:=by
 cases x with
 |none=>exact h.elim
 |some s=>exact⟨s,rfl,h⟩
theorem jH{kd:Tl}:∀{ds:List D} {zs:List Int},nH kd ds=some zs->ds=zs.map (λz=>D.v (.int kd z))
 |[],zs,h=>by
  grind [nH,RE]
 |x::ds,zs,h=>by
  unfold nH at h;split at h
  .grind
  .rename_i kd' z l heq;obtain⟨rfl,rfl⟩:=List.cons.inj heq;split at h
   .rename_i e _;subst e;split at h
    .rename_i b' hb;simp only[RE]at h;rw[<-h,jH hb];rfl
    .cases h
   .cases h
  .cases h
theorem p9{M:Mem}{kd:Tl}{zs:List Int}{us:List RK}(h:bz M (zs.map λz=>D.v (.int kd z)) us):us=zs.map λz=>To kd z:=by
 induction zs generalizing us with
 |nil=>exact Sq (by simpa using h.1)
 |cons z zs ih =>
  cases us with
  |nil=>have:=h.1;simp at this
  |cons u us=>have h0:=h.2 0 (.v (.int kd z)) u rfl rfl;simp only[Rd]at h0;have h1:bz M (zs.map λz=>D.v (.int kd z)) us:=⟨by have:=h.1;simpa using this,λk e x h1 h2=>h.2 (k+1) e x (by grind) (by grind)⟩;rw[ih h1,h0.1];rfl
theorem vQ{M:Mem}{ρ:Nat->Option RK}:∀{cs:List C} {us:List RK} {ds:List D},cA M ρ cs us->nU cs=some ds->bz M ds us/\ds.length=cs.length
 |[],[],ds,_,h=>by
  grind [nU,RE,bz.nil]
 |.d x::cs,u::us,ds,h,hz=>by
  unfold nU at hz;split at hz
  .rename_i ds' h4;simp only[RE]at hz;subst hz;obtain⟨h5,h6⟩:=vQ h.2 h4;exact⟨bz.cons h.1 h5,by simp[h6]⟩
  .cases hz
 |[],_::_,_,h,_=>h.elim
 |_::_,[],_,h,_=>h.elim
 |.n::_,_,_,_,hz=>by simp[nU]at hz
 |.l _::_,_,_,_,hz=>by simp[nU]at hz
 |.p _ _::_,_,_,_,hz=>by simp[nU]at hz
 |.q _ _ _ _::_,_,_,_,hz=>by simp[nU]at hz
 |.w _::_,_,_,_,hz=>by simp[nU]at hz
 |.m _::_,_,_,_,hz=>by simp[nU]at hz
 |.f _ _::_,_,_,_,hz=>by simp[nU]at hz
 |.z::_,_,_,_,hz=>by simp[nU]at hz
 |.u::_,_,_,_,hz=>by simp[nU]at hz
 |.e _ _::_,_,_,_,hz=>by simp[nU]at hz
 |.y _ _ _ _ _::_,_,_,_,hz=>by simp[nU]at hz
theorem E2{Is:Cx}{P:RV}{fr:Fr}{t n i:Nat}{ds:List D}{fs fo:List Nat}{o:Out}(h:R1 Is fr (JT P t n ds i) fs fo o)(hl:ds.length=n):∃s,nP P t n ds i=some s/\o=⟨some s,[],fs,fo⟩:=by
 unfold JT at h;unfold nP;cases hf:jJ P t with
 |true =>
  rw[hf]at h;obtain⟨h0,h⟩:=h;have:Tw i n=true:=by simp_all
  dsimp only;rw[this];exact⟨_,rfl,h⟩
 |false =>
  rw[hf]at h;dsimp only at h ⊢;cases ha:zS P t with
  |none=>rw[ha]at h;exact h.elim
  |some m =>
   rw[ha]at h;obtain⟨h0,h⟩:=h;have h:o=⟨some (.a m (sub ds i m)),[],fs,fo⟩:=h;dsimp only;cases hb:(RN i 0 && RN m n) with
   |true=>simp only[RP]at hb;have e1:=RD hb.1;have e2:=RD hb.2;subst e1 e2;refine⟨_,rfl,?_⟩;rw[h];unfold sub;rw[Te,Su Q0]
   |false =>
    have:TX (i+m) n=true:=by simp_all
    dsimp only;rw[this];exact⟨_,rfl,h⟩
section
variable {Is:Cx} {P:RV} {tb:Tb} {n:Nat} {w0:R0} {Γ0:List As} {fr:Fr} {ρ:Nat->Option RK} {M:Mem} {lst:List (Nat×As)} {a:Act} {w:R0} {fs fo:List Nat} {o:Out} {Q:Exit->Act->R0->Prop} {d:Nat} {ty:RX} {pos:String} {af:Array Edge} {g:Option (Nat×Bool)}
variable (h1:a.tmps.size=n) (h2:a.defers=[]) (h:Rel w0 Γ0 fr ρ M lst (tv a) w) (hd:d<n)
theorem setH_at{ds:List D}{j:Nat}{c:C}(h:j<ds.length):(qd ds j c)[j]?=some c:=by unfold qd;simp[h]
theorem N0{cs:List C}{j:Nat}{c:C}(h:j<cs.length):xo cs j [c]=cs.set j c:=by
 grind [xo,List.set_eq_take_append_cons_drop,R9]
theorem ok_load(h1:a.tmps.size=n)(h2:a.defers=[])(h:Rel w0 Γ0 fr ρ M lst (tv a) w)(hd:d<n){t:RX}{x:R4}(hr:R1 Is fr (cP x λs=>PJ P t s) fs fo o):(⟨some d,.load t x,ty,pos,af,g⟩:Oper).wp P a w (aY n w0 Γ0 ρ M ((fr.bp (some d) o.v).aI o.ob)) Q:=by
 obtain⟨s,fs',hr,hs⟩:=bI h hr;unfold PJ at hr;split at hr
 .rename_i m ds off;obtain⟨s',e1,rfl⟩:=nw hr;rcases hs with hs|⟨v,hv,hl,ad,q,rfl,hseen⟩
  .cases hs
  .obtain⟨us,h3,h4⟩:=th (M:=M) (a:=ad) (q:=q) (ds:=ds) λj e hj=>hseen j e hj;obtain⟨v,h5,h6⟩:=jG (P:=P) (w0:=w0) (Γ:=lst.map Sg++Γ0) (ρ:=ρ) hv.bq h3 hl (λi u hi w hw=>hw.cell (h4 i u hi)) e1;exact aS h1 h2 h rfl hd rfl rfl h6 h5
 .rename_i b off;have hb:∀x,fr.ob b=some x->OR M ρ lst b x:=λx hx=>h.ob b x hx;change R1 Is fr (match fr.ob b with|some (.a _ n ds)=>_|some (.b _ cs)=>_|_=>_) _ _ _ at hr;rcases hs with hs|⟨v,hv,k,hk,rfl⟩
  .cases hs
  .split at hr
   .rename_i e m ds hob;obtain⟨s',e1,rfl⟩:=nw hr;obtain⟨k',us,h3,h4,h5,h6⟩:=hb _ hob;rw[hk]at h3;obtain rfl:k=k':=by grind
    have hm:As.own k e us∈lst.map Sg++Γ0:=List.mem_append_left _ (Ss h4);obtain⟨v,h7,h8⟩:=jG (P:=P) (w0:=w0) (ρ:=ρ) (q:=0) (ad:=some ⟨k,0,none⟩) (by rw[Sz];exact hv.bq) h5 h6 (Γ:=lst.map Sg++Γ0) (λi u hi w hw=>by rw[Sz];exact hw.mC hm hi) e1;exact aS h1 h2 h rfl hd rfl rfl h8 h7
   .rename_i e cs hob;obtain⟨s',e1,rfl⟩:=nw hr;obtain⟨k',us,h3,h4,h5⟩:=hb _ hob;rw[hk]at h3;obtain rfl:k=k':=by grind
    have hm:As.own k e us∈lst.map Sg++Γ0:=List.mem_append_left _ (Ss h4);obtain⟨v,h7,h8⟩:=yo (P:=P) (w0:=w0) (ρ:=ρ) (ad:=some ⟨k,0,none⟩) (Γ:=lst.map Sg++Γ0) hv.bq h5 (λi u hi w hw=>hw.mC hm hi) e1;exact aS h1 h2 h rfl hd rfl rfl h8 h7
   .exact hr.elim
 .rename_i b sz k j;have hb:∀x,fr.ob b=some x->OR M ρ lst b x:=λx hx=>h.ob b x hx;change R1 Is fr (match fr.ob b with|some (.w _ sz' _ ds)=>_|some (.s sz' _ ds)=>_|some (.x _ sz' _ ds)=>_|some (.v _ sz' _ cs)=>_|some (.h _ sz' _ _ i c)=>_|_=>_) _ _ _ at hr;rcases hs with hs|⟨v,hv,ad,m,c,hk,hkm,rfl⟩
  .cases hs
  .split at hr
   .rename_i e sz' m' ds hob;obtain⟨ad',c',us,h3,h4,h5,h6,h7⟩:=hb _ hob;rw[hk]at h3;simp only[RE,Sm]at h3;obtain⟨rfl,rfl,rfl⟩:=h3;split at hr
    .rename_i hbe;obtain⟨s',e1,rfl⟩:=nw hr;have e2:=RD hbe;subst e2;have hm:As.acc (.slice ad m c) e sz' m us∈lst.map Sg++Γ0:=List.mem_append_left _ (Ss h4)
     obtain⟨v,h8,h9⟩:=jG (P:=P) (w0:=w0) (ρ:=ρ) (q:=k*sz') (ad:=ad) (Γ:=lst.map Sg++Γ0) hv.bq (H2 h5 sz' k) (CX (by rw[<-h5.1,h6]) hkm) (λi u hi w hw=>by
      refine(hw.mS hm (q:=k*sz'+i) ?_).2;rw[TE]at hi;split at hi
      .simpa using hi
      .cases hi) e1
     exact aS h1 h2 h rfl hd rfl rfl h9 h8
    .exact hr.elim
   .rename_i sz' m' ds hob;obtain⟨v,h3,h4⟩:=hb _ hob;rw[hk]at h3;simp only[RE]at h3;subst h3;split at hr
    .rename_i hbe;obtain⟨s',e1,rfl⟩:=nw hr;have e2:=RD hbe;subst e2;have h5:=h4;simp only[Rd]at h5;obtain⟨a',cap,e3,_,_,_,h6,_,h7⟩:=h5;simp only[Sm]at e3;obtain⟨rfl,rfl,rfl⟩:=e3;obtain⟨us,h8,h9⟩:=th (M:=M) (a:=ad) (q:=0) (ds:=ds) λj e hj=>by grind [po.get]
     obtain⟨v,h10,h11⟩:=jG (P:=P) (w0:=w0) (ρ:=ρ) (q:=k*sz') (ad:=ad) (Γ:=lst.map Sg++Γ0) hv.bq (H2 h8 sz' k) (CX h6 hkm) (λi u hi w hw=>by
      refine hw.cell ?_
      have:=h9 (k*sz'+i) u (by
       rw[TE]at hi;split at hi
       .simpa using hi
       .cases hi)
      rwa [Sz]at this) e1
     exact aS h1 h2 h rfl hd rfl rfl h11 h10
    .exact hr.elim
   .rename_i e sz' m' ds hob;obtain⟨ad',c',us,h3,h5,h6,h7,h4⟩:=hb _ hob;rw[hk]at h3;simp only[RE,Sm]at h3;obtain⟨rfl,rfl,rfl⟩:=h3;split at hr
    .rename_i hbe;obtain⟨s',e1,rfl⟩:=nw hr;have e2:=RD hbe;subst e2
     obtain⟨v,h8,h9⟩:=jG (P:=P) (w0:=w0) (ρ:=ρ) (q:=k*sz') (ad:=ad) (Γ:=lst.map Sg++Γ0) hv.bq (H2 h5 sz' k) (CX (by rw[<-h5.1,h6]) hkm) (λi u hi w hw=>by
      refine(h4.cell hw h6 (q:=k*sz'+i) ?_).2;rw[TE]at hi;split at hi
      .simpa using hi
      .cases hi) e1
     exact aS h1 h2 h rfl hd rfl rfl h9 h8
    .exact hr.elim
   .rename_i e sz' m' cs hob;obtain⟨ad',c',us,h3,h4,h5,h6,h7⟩:=hb _ hob;rw[hk]at h3;simp only[RE,Sm]at h3;obtain⟨rfl,rfl,rfl⟩:=h3;split at hr
    .rename_i hbe;obtain⟨s',e1,rfl⟩:=nw hr;have e2:=RD hbe;subst e2;have hm:As.acc (.slice ad m c) e sz' m us∈lst.map Sg++Γ0:=List.mem_append_left _ (Ss h4)
     obtain⟨v,h8,h9⟩:=yo (P:=P) (w0:=w0) (ρ:=ρ) (ad:=some (gd ad (k*sz'))) (Γ:=lst.map Sg++Γ0) (by rw[<-lV];exact hv.bq) (cA.take sz' (cA.drop (k*sz') h5)) (λi u hi w hw=>by
      rw[<-lV];refine(hw.mS hm (q:=k*sz'+i) ?_).2;rw[TE]at hi;split at hi
      .simpa using hi
      .cases hi) e1
     exact aS h1 h2 h rfl hd rfl rfl h9 h8
    .exact hr.elim
   .rename_i e sz' m' ds i c' hob;obtain⟨ad',q',us,h3,h4,h5,h6,h7,h8⟩:=hb _ hob;rw[hk]at h3;simp only[RE,Sm]at h3;obtain⟨rfl,rfl,rfl⟩:=h3;split at hr
    .rename_i hbe;simp only[RP]at hbe;have e2:=RD hbe.1;subst e2;obtain⟨hck,hr⟩:=hr;have hr:o=⟨some (.c c'),[],_,_⟩:=hr;subst hr;obtain⟨u,h9,h10⟩:=cA.get h5 (setH_at h8);have hm:As.acc (.slice ad m c) e sz' m us∈lst.map Sg++Γ0:=List.mem_append_left _ (Ss h4);rw[<-hck]at h9;exact aS h1 h2 h rfl hd rfl rfl h10 (Y.load hv.bq hbe.2 λw hw=>(hw.mS hm h9).2)
    .exact hr.elim
   .exact hr.elim
 .rename_i b off;have hb:∀x,fr.ob b=some x->OR M ρ lst b x:=λx hx=>h.ob b x hx;change R1 Is fr (match fr.ob b with|some (.a _ n ds)=>_|some (.b _ cs)=>_|_=>_) _ _ _ at hr;rcases hs with hs|⟨v,hv,k,hk,rfl⟩
  .cases hs
  .split at hr
   .rename_i e m ds hob;obtain⟨k',us,h3,h4,h5,h6⟩:=hb _ hob;obtain⟨s',e1,rfl⟩:=E2 hr h6;rw[hk]at h3;obtain rfl:k=k':=by grind
    have hm:As.own k e us∈lst.map Sg++Γ0:=List.mem_append_left _ (Ss h4);obtain⟨v,h7,h8⟩:=jG (P:=P) (w0:=w0) (ρ:=ρ) (q:=0) (ad:=some ⟨k,0,none⟩) (by rw[Sz];exact hv.bq) h5 h6 (Γ:=lst.map Sg++Γ0) (λi u hi w hw=>by rw[Sz];exact hw.mC hm hi) e1;exact aS h1 h2 h rfl hd rfl rfl h8 h7
   .rename_i e cs hob;obtain⟨k',us,h3,h4,h5⟩:=hb _ hob;split at hr
    .rename_i ds hz;obtain⟨h5,h6⟩:=vQ h5 hz;obtain⟨s',e1,rfl⟩:=E2 hr h6;rw[hk]at h3;obtain rfl:k=k':=by grind
     have hm:As.own k e us∈lst.map Sg++Γ0:=List.mem_append_left _ (Ss h4);obtain⟨v,h7,h8⟩:=jG (P:=P) (w0:=w0) (ρ:=ρ) (q:=0) (ad:=some ⟨k,0,none⟩) (by rw[Sz];exact hv.bq) h5 h6 (Γ:=lst.map Sg++Γ0) (λi u hi w hw=>by rw[Sz];exact hw.mC hm hi) e1;exact aS h1 h2 h rfl hd rfl rfl h8 h7
    .exact hr.elim
   .exact hr.elim
 .exact hr.elim
theorem JE(hT:me P tb)(h1:a.tmps.size=n)(h2:a.defers=[])(h:Rel w0 Γ0 fr ρ M lst (tv a) w)(hd:d<n){t:RX}{v:Nat}(hr:R1 Is fr (Ki P tb v t) fs fo o):(⟨some d,.load t (.global v),ty,pos,af,g⟩:Oper).wp P a w (aY n w0 Γ0 ρ M ((fr.bp (some d) o.v).aI o.ob)) Q:=by
 unfold Ki at hr;split at hr
 .rename_i ds m hg ha;split at hr
  .rename_i hb;have e1:=RD hb;have hr:o=⟨some (.a m ds),[],fs,fo⟩:=hr;subst hr;obtain⟨us,h3,h4⟩:=hT.gl v ds hg M h.gr;have hl:us.length=m:=by rw[h3.1,e1]
   refine aS h1 h2 h rfl hd rfl rfl (show SR M ρ (.a m ds) (.agg us.toArray) from⟨e1.symm,us,rfl,h3⟩) (Y.wq (p:=⟨v,0,none⟩) (show bq (Lf a) (.global v)=_ from rfl) (by grind [iu]) λw hw j u hj=>hw.cell (h4 j u hj))
  .exact hr.elim
 .exact hr.elim
theorem OZ(hT:me P tb)(h1:a.tmps.size=n)(h2:a.defers=[])(h:Rel w0 Γ0 fr ρ M lst (tv a) w)(hd:d<n){t:RX}{v:Nat}(hr:R1 Is fr (HQ P tb v t) fs fo o):(⟨some d,.load t (.global v),ty,pos,af,g⟩:Oper).wp P a w (aY n w0 Γ0 ρ M ((fr.bp (some d) o.v).aI o.ob)) Q:=by
 unfold HQ at hr;split at hr
 .rename_i l hg hb;simp only[RP]at hb;obtain⟨m,es,c,_,e1,e2,_⟩:=hT.gm v l hg M h.gr;have hr:o=⟨some (.c (.k v)),[],fs,fo⟩:=hr;subst hr;exact aS h1 h2 h rfl hd rfl rfl (show SR M ρ (.c (.k v)) (.map (some m)) from⟨⟨m,rfl⟩,e1⟩) (Y.sD (show bq (Lf a) (.global v)=_ from rfl) e1 hb.1)
 .exact JE hT h1 h2 h hd hr
end
end Pm
namespace Xe
open Go
section
variable {P:RV} {w0:R0} {L:Lm} {M:Mem} {Γ:List As} {d:Option Nat} {ty:RX} {pos:String} {af:Array Edge} {g:Option (Nat×Bool)}
theorem Y.nilCheck{x:R4}{p:Addr}(hx:bq L x=some (.pointer (some p))):Yq P w0 L M Γ ⟨d,.nilCheck x,ty,pos,af,g⟩ (.pointer (some p)):=λn a w ha _=>by simp[Sk,ha.ev hx]
end
structure cg where
 id:av
 n:Int
 ty:Ty
 deriving Inhabited
def cg.enc(b:cg):List D:=[aj b.id.aH,aj b.id.seq,aj b.id.index,aj b.n,aj b.ty.kind,aj b.ty.df.aH,aj b.ty.df.seq,aj b.ty.df.index,.sl b.ty.kids.length 5 (b.ty.kids.flatMap Ty.enc)]
theorem cg.aP(b:cg):b.enc.length=9:=rfl
structure b6 where
 pos:Int
 bj:Int
 left:Int
 name:Int
structure fE where
 p:au
 l:List Int
 own:Int
 ka:av
abbrev GX:=Ty->List cg->Int->b6->Ex×b6
def fW(c:fE)(n:Int)(s:b6):Int×b6:=(eH c.l s.pos n,{s with pos:=s.pos+1})
def be(kind n:Int)(kids:List Ex)(s:b6):Ex×b6:=(.mk ⟨0,0,s.bj⟩ kind n kx bQ kids [],{s with bj:=s.bj+1,left:=s.left-1})
def nm1:List ByteArray:=[⟨#[117]⟩,⟨#[118]⟩,⟨#[119]⟩]
def nm2:List ByteArray:=[⟨#[]⟩,⟨#[49]⟩,⟨#[50]⟩,⟨#[51]⟩,⟨#[52]⟩,⟨#[53]⟩,⟨#[54]⟩,⟨#[55]⟩]
def ER(k:Int):ByteArray:=nm1.getD (k.tmod 3).toNat ⟨#[]⟩++nm2.getD ((k.tdiv 3).tmod 8).toNat ⟨#[]⟩
def aM(s:b6):ByteArray×b6:=(ER (s.name+1),{s with name:=s.name+1})
def Ex.dO(e:Ex)(r:av):Ex:=.mk e.id e.kind e.n r e.ty e.kids e.aJ
def Ex.I7(e:Ex)(t:Ty):Ex:=.mk e.id e.kind e.n e.ref t e.kids e.aJ
def Ex.dH(e:Ex)(l:List Ex)(s:List ByteArray):Ex:=.mk e.id e.kind e.n e.ref e.ty l s
def bP(c:fE)(k:Nat):an:=c.p.aa.getD k l7
def Mo(c:fE):aO:=c.p.aw.getD 0 default
def kH(c:fE)(k:Nat):Prop:=(k:Int)<c.own/\((bP c k).mod=c.ka\/(bP c k).mod=(Mo c).id)
instance (c:fE) (k:Nat):Decidable (kH c k):=by unfold kH;exact inferInstance
def gR(c:fE)(kind:Int)(frm:Nat):Nat->Nat->Int
 |_,0=>-1
 |i,m+1=>if(bP c ((frm+i) % c.p.aa.length)).kind=kind/\kH c ((frm+i) % c.p.aa.length) then((frm+i) % c.p.aa.length:Nat) else gR c kind frm (i+1) m
def Nw(c:fE)(kind:Int)(frm:Nat):Int:=gR c kind frm 0 c.p.aa.length
def fg(env:List cg)(t:Ty):List cg:=env.filter λb=>decide (b.ty=t)
def NB(b:cg)(s:b6):Ex×b6:=((be 2 b.n [] s).1.dO b.id,(be 2 b.n [] s).2)
def du(g:GX)(t:Ty)(env:List cg)(d:Int):Nat->b6->List Ex×b6
 |0,s=>([],s)
 |k+1,s=>if 0<s.left then((g t env d s).1::(du g t env d k (g t env d s).2).1,(du g t env d k (g t env d s).2).2) else([],s)
def dt(g:GX)(env:List cg)(d:Int):List Ty->b6->List Ex×b6
 |[],s=>([],s)
 |t::ts,s=>((g t env d s).1::(dt g env d ts (g t env d s).2).1,(dt g env d ts (g t env d s).2).2)
def PQ(x:Int):Int:=if x.tmod 29=3 then 1099511627776-x.tmod 2 else x.tmod 9-2
def gj(d:an)(x depth:Int):Int:=if depth<0 then 0 else x.tmod d.ah.length
def kZ(c:fE)(g:GX)(t:Ty)(env:List cg)(x depth:Int)(s:b6):Ex×b6 :=
 if t.kind=0 then be 0 (PQ x) [] s
 else if t.kind=1 then be 1 (x.tmod 2) [] s
 else if t.kind=2 then
   (let r:=du g (t.kids.headD bQ) env (depth-1) (if 0<=depth then(x.tmod 3).toNat else 0) s
    ((be 11 0 r.1 r.2).1.I7 (t.kids.headD bQ),(be 11 0 r.1 r.2).2))
 else if(al c.p t.df).kind=1 then
   (let k:=gj (al c.p t.df) x depth
    let r:=g ((((al c.p t.df).ah.map aC.ty).getD k.toNat bQ)) env (depth-1) s
    ((be 9 k [r.1] r.2).1.dO (al c.p t.df).id,(be 9 k [r.1] r.2).2))
 else
   (let r:=dt g env (depth-1) ((al c.p t.df).ah.map aC.ty) s
    ((be 7 0 r.1 r.2).1.dO (al c.p t.df).id,(be 7 0 r.1 r.2).2))
def lT(g:GX)(n:Int)(u:Ty)(env:List cg)(d:Int)(s:b6):Ex×b6 :=
 be 4 n [(g u env d s).1,(g u env d (g u env d s).2).1] (g u env d (g u env d s).2).2
def Hg(g:GX)(n:Int)(u:Ty)(env:List cg)(d:Int)(s:b6):Ex×b6:=be 4 n [(g u env d s).1] (g u env d s).2
def zd(x:Int):Int:=if 4<=x.tmod 6 then 7+(x.tmod 6-4) else if x.tmod 6=3 then 6 else if x.tmod 6=2 then 6 else 5
def jL(env:List cg)(x:Int):cg:=env.getD (x.tmod env.length).toNat default
def jY(t:Ty)(env:List cg)(x:Int):Ty:=if 4<=x.tmod 6 then t else if x.tmod 6=3 then(jL env (x.tdiv 6)).ty else bQ
def nO(c:fE)(g:GX)(t:Ty)(env:List cg)(x depth:Int)(s:b6):Ex×b6 :=
 if t.kind=0 then(if x.tmod 6=5 then Hg g 11 (cb bQ) env (depth-1) s else lT g (x.tmod 5) t env (depth-1) s)
 else if t.kind=1 then(if x.tmod 6=0 then Hg g 9 t env (depth-1) s else lT g (zd x) (jY t env x) env (depth-1) s)
 else if t.kind=2/\x.tmod 2=0 then lT g 10 t env (depth-1) s
 else kZ c g t env (x.tdiv 2) depth s
def bt(g:GX)(t:Ty)(env:List cg)(d:Int)(id:av):List aC->Nat->b6->(List Ex×List ByteArray)×b6
 |[],_,s=>(([],[]),s)
 |sl::sls,i,s =>
   (let r:=g t (env++[⟨id,i,sl.ty⟩]) d s
    let q:=aM r.2;let z:=bt g t env d id sls (i+1) q.2
    ((r.1::z.1.1,q.1::z.1.2),z.2))
def jV(c:fE)(g:GX)(t:Ty)(env:List cg)(x depth:Int)(s:b6):Ex×b6 :=
 if Nw c 1 x.toNat<0 then nO c g t env x depth s
 else
   (let d:=bP c (Nw c 1 x.toNat).toNat
    let r:=g (mD d.id) env (depth-2) s;let q:=be 10 0 [] r.2;let z:=bt g t env (depth-1) q.1.id d.ah 0 q.2
    ((q.1.dO d.id).dH (r.1::z.1.1) z.1.2,z.2))
def ng(sl:List aC)(t:Ty):Option Nat:=sl.findIdx? λx=>decide (x.ty=t)
def fq(c:fE)(t:Ty)(x:Nat):Nat->Nat->Option (Nat×Nat)
 |_,0=>none
 |i,m+1=>match(if(bP c ((x+i) % c.p.aa.length)).kind=0/\kH c ((x+i) % c.p.aa.length) then ng (bP c ((x+i) % c.p.aa.length)).ah t else none) with
   |some j=>some ((x+i) % c.p.aa.length,j)
   |none=>fq c t x (i+1) m
def jX(c:fE)(g:GX)(t:Ty)(env:List cg)(x depth:Int)(s:b6):Ex×b6 :=
 match fq c t x.toNat 0 c.p.aa.length with
 |some (k,j) =>
   (let r:=g (mD (bP c k).id) env (depth-1) s
    ((be 8 j [r.1] r.2).1.dO (bP c k).id,(be 8 j [r.1] r.2).2))
 |none=>nO c g t env x depth s
def gF(c:fE)(t:Ty):Nat->Nat->Option Nat
 |_,0=>none
 |i,m+1=>if((bP c i).kind=2/\kH c i)/\(bP c i).aq=t then some i else gF c t (i+1) m
def nR(c:fE)(g:GX)(t:Ty)(env:List cg)(x depth:Int)(s:b6):Ex×b6 :=
 match gF c t 0 c.p.aa.length with
 |some k =>
   (let r:=dt g env (depth-1) ((bP c k).ah.map aC.ty) s
    ((be 3 0 r.1 r.2).1.dO (bP c k).id,(be 3 0 r.1 r.2).2))
 |none=>nO c g t env x depth s
def ifG(g:GX)(t:Ty)(env:List cg)(d:Int)(s:b6):Ex×b6 :=
 (let a:=g (.mk 1 kx []) env d s
  let b:=g t env d a.2;let e:=g t env d b.2
  be 5 0 [a.1,b.1,e.1] e.2)
def My(g:GX)(t:Ty)(env:List cg)(x d:Int)(s:b6):Ex×b6 :=
 (let u:=(jL env x).ty
  let a:=g u env d s;let q:=be 6 0 [] a.2;let m:=aM q.2;let b:=g t (env++[⟨q.1.id,0,u⟩]) d m.2
  (q.1.dH [a.1,b.1] [m.1],b.2))
def A3(g:GX)(t:Ty)(env:List cg)(d:Int)(s:b6):Ex×b6 :=
 (let a:=g (cb bQ) env d s
  let b:=g t env d a.2;let q:=be 12 0 [] b.2;let m:=aM q.2;let m2:=aM m.2;let e:=g t (env++[⟨q.1.id,0,bQ⟩]++[⟨q.1.id,1,t⟩]) d m2.2
  (q.1.dH [a.1,b.1,e.1] [m.1,m2.1],e.2))
def ow(c:fE)(g:GX)(t:Ty)(env:List cg)(k x d:Int)(s:b6):Ex×b6 :=
 if k=0\/k=1 then ifG g t env (d-1) s
 else if k=2 then My g t env x (d-1) s
 else if k=3\/k=4 then jV c g t env x d s
 else if k=5 then jX c g t env x d s
 else if k=6\/k=7 then nR c g t env x d s
 else if k=8 then A3 g t env (d-1) s
 else nO c g t env x d s
def lq(c:fE)(g:GX):GX:=λt env depth s =>
 (let x:=(fW c 65536 s).1
  let s1:=(fW c 65536 s).2;let d:=if s1.left<=0 then min depth 0 else depth
  let vars:=fg env t
  if 0<vars.length/\(d<=0\/x.tmod 3=0) then NB (vars.getD ((x.tdiv 3).tmod vars.length).toNat default) s1
  else if d<=0 then kZ c g t env (x.tdiv 3) d s1
  else ow c g t env ((x.tdiv 3).tmod 12) (x.tdiv 36) d s1)
def aB(c:fE):Nat->GX
 |0=>λ_ _ _ s=>(default,s)
 |n+1=>lq c (aB c n)
theorem Y.addS{P:RV}{w0:R0}{L:Lm}{M:Mem}{Γ:List As}{d:Option Nat}{ty:RX}{pos:String}{af:Array Edge}{g:Option (Nat×Bool)}{x y:R4}{a b:ByteArray}{t:RX}(hx:bq L x=some (.string a))(hy:bq L y=some (.string b))(hs:a.size+b.size<=1000000) :
  Yq P w0 L M Γ ⟨d,.binOp .add t x y t,ty,pos,af,g⟩ (.string (a++b)):=λn ac w ha _=>by
 simp[Sk,ha.ev hx,ha.ev hy,Th,Ub,YL];omega
def Bd(B:Int)(s:b6):Prop:=0<=s.pos/\s.pos+B<=1099511627776/\0<=s.bj/\s.bj+B<=1099511627776/\-1099511627776<=s.left-B/\s.left<=1099511627776/\0<=s.name/\s.name+B<=1099511627776
theorem Bd.mono{A B:Int}{s:b6}(h:Bd A s)(hB:B<=A):Bd B s:=by grind [Bd]
theorem Bd.num{A B n:Int}{c:fE}{s:b6}(h:Bd A s)(hB:B+1<=A):Bd B (fW c n s).2:=by
 show Bd B ⟨s.pos+1,s.bj,s.left,s.name⟩
 grind [Bd]
theorem Bd.node{A B k n:Int}{l:List Ex}{s:b6}(h:Bd A s)(hB:B+1<=A):Bd B (be k n l s).2:=by
 show Bd B ⟨s.pos,s.bj+1,s.left-1,s.name⟩
 grind [Bd]
theorem Bd.vh{A B:Int}{s:b6}(h:Bd A s)(hB:B+1<=A):Bd B (aM s).2:=by
 show Bd B ⟨s.pos,s.bj,s.left,s.name+1⟩
 grind [Bd]
theorem nm1_rng:∀i,i<3->(nm1.getD i ⟨#[]⟩).size<=1:=Q1
theorem nm2_rng:∀i,i<8->(nm2.getD i ⟨#[]⟩).size<=1:=Q1
theorem yJ{l:List cg}{t:Ty}{k:Nat}(h:k<l.length):fg (l.take (k+1)) t=if l[k].ty=t then fg (l.take k) t++[l[k]] else fg (l.take k) t:=by
 grind [fg,RJ]
theorem Fs{l:List cg}{t:Ty}(k:Nat):(fg (l.take k) t).length<=l.length:=by
 unfold fg
 grind
theorem nm_rng{k:Int}(h:0<=k):∃i j:Nat,k.tmod 3=i/\i<3/\(k.tdiv 3).tmod 8=j/\j<8/\ER k=nm1.getD i ⟨#[]⟩++nm2.getD j ⟨#[]⟩:=by
 have e1:k.tmod 3=k % 3:=SL h;have e2:k.tdiv 3=k / 3:=Int.tdiv_eq_ediv_of_nonneg h;have e3:(k / 3).tmod 8=k / 3 % 8:=SL Q0;obtain⟨i,hi⟩:=X8 (show 0<=k % 3 by omega);obtain⟨j,hj⟩:=X8 (show 0<=k / 3 % 8 by omega);refine⟨i,j,by rw[e1,hi],Q0,by grind,Q0,?_⟩;unfold ER
 grind
theorem modA_eq{c:fE}(h:0<c.p.aw.length):Mo c=c.p.aw[0]:=by
 unfold Mo
 grind
theorem ju{c:fE}{k:Nat}(h:k<c.p.aa.length):bP c k=c.p.aa[k]:=by
 unfold bP
 grind
theorem EH{c:fE}{kind:Int}{frm i:Nat}(h:i<c.p.aa.length):gR c kind frm i (c.p.aa.length-i)=if(bP c ((frm+i) % c.p.aa.length)).kind=kind/\kH c ((frm+i) % c.p.aa.length) then(((frm+i) % c.p.aa.length:Nat):Int) else gR c kind frm (i+1) (c.p.aa.length-(i+1)):=by
 obtain⟨m,hm⟩:∃m,c.p.aa.length-i=m+1:=⟨c.p.aa.length-i-1,Q0⟩
 grind [gR]
end Xe
namespace Pm
open Go Xe
section
variable {Is:Cx} {P:RV} {tb:Tb} {n:Nat} {w0:R0} {Γ0:List As} {fr:Fr} {ρ:Nat->Option RK} {M:Mem} {lst:List (Nat×As)} {a:Act} {w:R0} {fs fo:List Nat} {o:Out} {Q:Exit->Act->R0->Prop} {d:Nat} {ty:RX} {pos:String} {af:Array Edge} {g:Option (Nat×Bool)}
theorem aU{s:S}(hr:R1 Is fr (cr s) fs fo o):o=⟨some s,[],fs,fo⟩:=hr
variable (h1:a.tmps.size=n) (h2:a.defers=[]) (h:Rel w0 Γ0 fr ρ M lst (tv a) w) (hd:d<n)
theorem se(h1:a.tmps.size=n)(h2:a.defers=[])(h:Rel w0 Γ0 fr ρ M lst (tv a) w)(hd:d<n){o:Oper}{out:Out}{s:S}{x:R4}{v:RK}(hdst:o.dst=some d)(hv:out.v=some s)(hob:out.ob=[])(hs:SR M ρ s v)(hx:a.eval x=v)
  (hrun:(Sk a.eval o).run P w=.ok (.value (a.eval x)) w):o.wp P a w (aY n w0 Γ0 ρ M ((fr.bp o.dst out.v).aI out.ob)) Q :=
 bh h1 h2 hdst hd hv (Sub.refl M) (Ext.refl ρ) (by rw[hob];exact h) hs (by grind)
theorem pY{x:R4}{s:S}(hs:s=su\/∃v,dN a x v/\SR M ρ s v):SR M ρ s (a.eval x):=by
 rcases hs with rfl|⟨v,hv,hs⟩
 .exact trivial
 .rw[hv.eval];exact hs
theorem ok_move(h1:a.tmps.size=n)(h2:a.defers=[])(h:Rel w0 Γ0 fr ρ M lst (tv a) w)(hd:d<n){x:R4}(hr:R1 Is fr (cP x λs=>cr (eJ P ty s)) fs fo o):(⟨some d,.move x,ty,pos,af,g⟩:Oper).wp P a w (aY n w0 Γ0 ρ M ((fr.bp (some d) o.v).aI o.ob)) Q:=by obtain⟨s,fs',hr,hs⟩:=bI h hr;obtain rfl:=aU hr;exact se h1 h2 h hd (x:=x) rfl rfl rfl (dg (pY hs)) rfl (by simp[Sk])
theorem Me(h1:a.tmps.size=n)(h2:a.defers=[])(h:Rel w0 Γ0 fr ρ M lst (tv a) w)(hd:d<n){x:R4}(hr:R1 Is fr (cP x λs=>cr (eJ P ty s)) fs fo o):(⟨some d,.assign x,ty,pos,af,g⟩:Oper).wp P a w (aY n w0 Γ0 ρ M ((fr.bp (some d) o.v).aI o.ob)) Q:=by obtain⟨s,fs',hr,hs⟩:=bI h hr;obtain rfl:=aU hr;exact se h1 h2 h hd (x:=x) rfl rfl rfl (dg (pY hs)) rfl (by simp[Sk])
theorem ok_pick(h1:a.tmps.size=n)(h2:a.defers=[])(h:Rel w0 Γ0 fr ρ M lst (tv a) w)(hd:d<n){c x y:R4}(hr:R1 Is fr (cP c λs=>F9 s λz=>.wx z (cP x cr) (cP y cr)) fs fo o):(⟨some d,.pick c x y,ty,pos,af,g⟩:Oper).wp P a w (aY n w0 Γ0 ρ M ((fr.bp (some d) o.v).aI o.ob)) Q:=by
 obtain⟨s,fs',hr,hs⟩:=bI h hr;obtain⟨z,e,hr⟩:=uJ hr;have hc:=(er hs e).eval;rcases hr with⟨rfl,hr⟩|⟨rfl,hr⟩
 .obtain⟨s',fs'',hr,hs'⟩:=bI h hr;obtain rfl:=aU hr;exact se h1 h2 h hd (x:=x) rfl rfl rfl (pY hs') rfl (by simp[Sk,hc,asBool])
 .obtain⟨s',fs'',hr,hs'⟩:=bI h hr;obtain rfl:=aU hr;exact se h1 h2 h hd (x:=y) rfl rfl rfl (pY hs') rfl (by simp[Sk,hc,asBool])
theorem iU(h1:a.tmps.size=n)(h2:a.defers=[])(h:Rel w0 Γ0 fr ρ M lst (tv a) w)(hd:d<n){o:Oper}{v:RK}(hdst:o.dst=some d){out:Out}(hv:out=⟨some (.c (.d (.v v))),[],fs,fo⟩)(h1c:v.oneCell'=true)(hy:Yq P w0 (Lf a) M (lst.map Sg++Γ0) o v):o.wp P a w (aY n w0 Γ0 ρ M ((fr.bp o.dst out.v).aI out.ob)) Q:=by subst hv;exact aS h1 h2 h hdst hd rfl rfl (show Rd M (.v v) v by grind [Rd]) hy
theorem kR1{s:S}{kd:Tl}{k:Int->bn}(hr:R1 Is fr (kP kd s k) fs fo o):∃z,s=.c (.d (.v (.int kd z)))/\R1 Is fr (k z) fs fo o:=by
 unfold kP at hr;split at hr
 .obtain⟨z,rfl,hr⟩:=hr;exact⟨z,rfl,hr⟩
 .exact hr.elim
theorem nG{P:RV}{t:RX}{k:Tl}(h:sH P t=some k):P.underlying t=some (.int k):=by
 unfold sH at h
 grind
theorem qY(h1:a.tmps.size=n)(h2:a.defers=[])(h:Rel w0 Γ0 fr ρ M lst (tv a) w)(hd:d<n){op:Op}{kd:Tl}{z:Int}(hr:R1 Is fr (rK kd z) fs fo o)(hrun:(Sk a.eval ⟨some d,op,ty,pos,af,g⟩).run P w=.ok (.value (.int kd z)) w):(⟨some d,op,ty,pos,af,g⟩:Oper).wp P a w (aY n w0 Γ0 ρ M ((fr.bp (some d) o.v).aI o.ob)) Q:=by obtain rfl:=aU hr;exact bh h1 h2 rfl hd rfl (Sub.refl M) (Ext.refl ρ) h (show Rd M (.v (.int kd z)) (.int kd z) by unfold Rd;exact⟨rfl,rfl⟩) hrun
theorem op_b(h1:a.tmps.size=n)(h2:a.defers=[])(h:Rel w0 Γ0 fr ρ M lst (tv a) w)(hd:d<n){op:Op}{z:Bool}(hr:R1 Is fr (mA z) fs fo o)(hrun:(Sk a.eval ⟨some d,op,ty,pos,af,g⟩).run P w=.ok (.value (.bool z)) w):(⟨some d,op,ty,pos,af,g⟩:Oper).wp P a w (aY n w0 Γ0 ρ M ((fr.bp (some d) o.v).aI o.ob)) Q:=by obtain rfl:=aU hr;exact bh h1 h2 rfl hd rfl (Sub.refl M) (Ext.refl ρ) h (show Rd M (.v (.bool z)) (.bool z) by unfold Rd;exact⟨rfl,rfl⟩) hrun
theorem pN(h1:a.tmps.size=n)(h2:a.defers=[])(h:Rel w0 Γ0 fr ρ M lst (tv a) w)(hd:d<n){op:X2}{x y:R4}{t:RX}{kd:Tl}{p q:Int}(hx:dN a x (.int kd p))(hy:dN a y (.int kd q))(hr:R1 Is fr (Ir kd op p q) fs fo o):(⟨some d,.binOp op t x y t,ty,pos,af,g⟩:Oper).wp P a w (aY n w0 Γ0 ρ M ((fr.bp (some d) o.v).aI o.ob)) Q:=by
 have ex:=hx.eval;have ey:=hy.eval;unfold Ir at hr;split at hr
 .exact qY h1 h2 h hd hr (by simp[Sk,ex,ey,Th,Ub,Vs])
 .exact qY h1 h2 h hd hr (by simp[Sk,ex,ey,Th,Ub,Vs])
 .exact qY h1 h2 h hd hr (by simp[Sk,ex,ey,Th,Ub,Vs])
 .obtain⟨h0,hr⟩:=hr;exact qY h1 h2 h hd hr (by simp[Sk,ex,ey,Th,Ub,Ye,h0])
 .obtain⟨h0,hr⟩:=hr;exact qY h1 h2 h hd hr (by simp[Sk,ex,ey,Th,Ub,Ye,h0])
 .exact qY h1 h2 h hd hr (by simp only[Sk,ex,ey];simp[Th,Ub,intBits_and])
 .exact qY h1 h2 h hd hr (by simp only[Sk,ex,ey];simp[Th,Ub,intBits_or])
 .exact qY h1 h2 h hd hr (by simp only[Sk,ex,ey];simp[Th,Ub,intBits_xor])
 .exact qY h1 h2 h hd hr (by simp only[Sk,ex,ey];simp[Th,Ub,intBits_andNot])
 .exact op_b h1 h2 h hd hr (by simp[Sk,ex,ey,Th,Ub,UA])
 .exact op_b h1 h2 h hd hr (by simp[Sk,ex,ey,Th,Ub,UA])
 .exact op_b h1 h2 h hd hr (by simp[Sk,ex,ey,Th,Ub,UA])
 .exact op_b h1 h2 h hd hr (by simp[Sk,ex,ey,Th,Ub,UA])
 .exact hr.elim
theorem OV(h1:a.tmps.size=n)(h2:a.defers=[])(h:Rel w0 Γ0 fr ρ M lst (tv a) w)(hd:d<n){op:X2}{x y:R4}{t t':RX}(hr:R1 Is fr (cP x λa=>cP y λb=>GN P op t t' a b) fs fo o):(⟨some d,.binOp op t x y t',ty,pos,af,g⟩:Oper).wp P a w (aY n w0 Γ0 ρ M ((fr.bp (some d) o.v).aI o.ob)) Q:=by
 obtain⟨s1,fs1,hr,hs1⟩:=bI h hr;obtain⟨s2,fs2,hr,hs2⟩:=bI h hr;unfold GN at hr;split at hr
 .obtain⟨p,e1,hr⟩:=kR1 hr;obtain⟨q,e2,hr⟩:=kR1 hr;have ex:=(er hs1 e1).eval;have ey:=(er hs2 e2).eval;split at hr
  .obtain⟨h0,hr⟩:=hr;exact qY h1 h2 h hd hr (by simp only[Sk,ex,ey];simp[Th,Ub,shift_shl_any _ _ _ _ h0])
  .obtain⟨h0,hr⟩:=hr;exact qY h1 h2 h hd hr (by simp only[Sk,ex,ey];simp[Th,Ub,shift_shr_any _ _ _ _ h0])
  .exact hr.elim
 .exact hr.elim
theorem O6(h1:a.tmps.size=n)(h2:a.defers=[])(h:Rel w0 Γ0 fr ρ M lst (tv a) w)(hd:d<n){op:X2}{x y:R4}{t:RX}{p q:Int}(hx:dN a x (.int .i64 p))(hy:dN a y (.int .i64 q))(hr:R1 Is fr (Iq op p q) fs fo o):(⟨some d,.binOp op t x y t,ty,pos,af,g⟩:Oper).wp P a w (aY n w0 Γ0 ρ M ((fr.bp (some d) o.v).aI o.ob)) Q:=by
 unfold Iq at hr;split at hr
 .exact iU (fs:=fs) (fo:=fo) h1 h2 h hd rfl (aU hr.2) rfl (Y.add hx.bq hy.bq hr.1)
 .exact iU (fs:=fs) (fo:=fo) h1 h2 h hd rfl (aU hr.2) rfl (Y.sub hx.bq hy.bq hr.1)
 .exact iU (fs:=fs) (fo:=fo) h1 h2 h hd rfl (aU hr.2) rfl (Y.mul hx.bq hy.bq hr.1)
 .exact iU (fs:=fs) (fo:=fo) h1 h2 h hd rfl (aU hr.2) rfl (Y.quo hx.bq hy.bq hr.1.1 hr.1.2)
 .exact iU (fs:=fs) (fo:=fo) h1 h2 h hd rfl (aU hr.2) rfl (Y.rem hx.bq hy.bq hr.1)
 .exact iU (fs:=fs) (fo:=fo) h1 h2 h hd rfl (aU hr) rfl (Y.lss hx.bq hy.bq)
 .exact iU (fs:=fs) (fo:=fo) h1 h2 h hd rfl (aU hr) rfl (Y.leq hx.bq hy.bq)
 .exact iU (fs:=fs) (fo:=fo) h1 h2 h hd rfl (aU hr) rfl (Y.gtr hx.bq hy.bq)
 .exact iU (fs:=fs) (fo:=fo) h1 h2 h hd rfl (aU hr) rfl (Y.geq hx.bq hy.bq)
 .exact pN h1 h2 h hd (op:=.and) hx hy hr
 .exact pN h1 h2 h hd (op:=.or) hx hy hr
 .exact pN h1 h2 h hd (op:=.xor) hx hy hr
 .exact hr.elim
theorem G1{s:S}{k:List D->bn}(hr:R1 Is fr (LJ s k) fs fo o)(h3:I6 s=true){v:RK}(hs:SR M ρ s v):∃x y z,R1 Is fr (k [x,y,z]) fs fo o/\∃u1 u2 u3,v=.agg [u1,u2,u3].toArray/\Rd M x u1/\Rd M y u2/\Rd M z u3:=by
 unfold LJ at hr;split at hr
 .rename_i m ds;obtain⟨hl,us,rfl,hr2⟩:=hs;have hm:m=3:=RD h3;subst hm
  match ds,us,hl,hr2 with
  |[x,y,z],[u1,u2,u3],_,hr2=>exact⟨x,y,z,hr,u1,u2,u3,rfl,hr2.2 0 _ _ rfl rfl,hr2.2 1 _ _ rfl rfl,hr2.2 2 _ _ rfl rfl⟩
  |[_,_,_],[],_,hr2=>have:=hr2.1;simp at this
  |[_,_,_],[_],_,hr2=>have:=hr2.1;simp at this
  |[_,_,_],[_,_],_,hr2=>have:=hr2.1;simp at this
  |[_,_,_],_::_::_::_::_,_,hr2=>have:=hr2.1;simp at this
 .rename_i x y z;obtain⟨us,rfl,hr2⟩:=hs
  match us,hr2 with
  |[u1,u2,u3],hr2=>exact⟨x,y,z,hr,u1,u2,u3,rfl,hr2.1,hr2.2.1,hr2.2.2.1⟩
  |[],hr2=>exact hr2.elim
  |[_],hr2=>exact hr2.2.elim
  |[_,_],hr2=>exact hr2.2.2.elim
  |_::_::_::_::_,hr2=>exact hr2.2.2.2.elim
 .exact hr.elim
theorem JF(h1:a.tmps.size=n)(h2:a.defers=[])(h:Rel w0 Γ0 fr ρ M lst (tv a) w)(hd:d<n)(hT:me P tb){op:X2}{x y:R4}{t:RX}{s1 s2:S}(hs1:s1=su\/∃v,dN a x v/\SR M ρ s1 v)(hs2:s2=su\/∃v,dN a y v/\SR M ρ s2 v)(hr:R1 Is fr (Db P tb op t s1 s2) fs fo o):(⟨some d,.binOp op t x y t,ty,pos,af,g⟩:Oper).wp P a w (aY n w0 Γ0 ρ M ((fr.bp (some d) o.v).aI o.ob)) Q:=by
 have key:∀(k:Bool->bn) (bo:Bool->Bool) (hk:∀b fs fo o,R1 Is fr (k b) fs fo o->o=⟨some (.c (.d (.v (.bool (bo b))))),[],fs,fo⟩) (opn:X2),(∀p q:Int,bq (Lf a) x=some (.int .i64 p)->bq (Lf a) y=some (.int .i64 q)->Yq P w0 (Lf a) M (lst.map Sg++Γ0) ⟨some d,.binOp opn t x y t,ty,pos,af,g⟩ (.bool (bo (decide (p=q))))) ->
   (∀(kd:Tl) (p q:Int),bq (Lf a) x=some (.int kd p)->bq (Lf a) y=some (.int kd q)->Yq P w0 (Lf a) M (lst.map Sg++Γ0) ⟨some d,.binOp opn t x y t,ty,pos,af,g⟩ (.bool (bo (decide (p=q))))) ->
   (∀(n:Nat) (e:RX) (kd:Tl),tb.eqa.any (RN t)=true->P.underlying t=some (.array n e)->P.underlying e=some (.int kd)->∀p q:List Int,p.length=n->q.length=n->bq (Lf a) x=some (.agg (p.map (To kd)).toArray)->bq (Lf a) y=some (.agg (q.map (To kd)).toArray)->Yq P w0 (Lf a) M (lst.map Sg++Γ0) ⟨some d,.binOp opn t x y t,ty,pos,af,g⟩ (.bool (bo (decide (p=q))))) ->
   (∀p q:ByteArray,bq (Lf a) x=some (.string p)->bq (Lf a) y=some (.string q)->Yq P w0 (Lf a) M (lst.map Sg++Γ0) ⟨some d,.binOp opn t x y t,ty,pos,af,g⟩ (.bool (bo (decide (p=q))))) ->
   (∀p q:Bool,P.underlying t=some .bool->bq (Lf a) x=some (.bool p)->bq (Lf a) y=some (.bool q)->Yq P w0 (Lf a) M (lst.map Sg++Γ0) ⟨some d,.binOp opn t x y t,ty,pos,af,g⟩ (.bool (bo (p == q)))) ->
   (Eq3 P t->∀p q r p' q' r':Int,bq (Lf a) x=some (.agg [.int .i64 p,.int .i64 q,.int .i64 r].toArray)->bq (Lf a) y=some (.agg [.int .i64 p',.int .i64 q',.int .i64 r'].toArray)->Yq P w0 (Lf a) M (lst.map Sg++Γ0) ⟨some d,.binOp opn t x y t,ty,pos,af,g⟩ (.bool (bo (decide (p=p'/\q=q'/\r=r'))))) ->
   R1 Is fr (eqP P tb t s1 s2 k) fs fo o->(⟨some d,.binOp opn t x y t,ty,pos,af,g⟩:Oper).wp P a w (aY n w0 Γ0 ρ M ((fr.bp (some d) o.v).aI o.ob)) Q:=by
  intro k bo hk opn hI hK hA hS hB hE hr;unfold eqP at hr;split at hr
  .obtain⟨p,e1,hr⟩:=eL hr;obtain⟨q,e2,hr⟩:=eL hr;exact iU h1 h2 h hd rfl (hk _ _ _ _ hr) rfl (hI p q (er hs1 e1).bq (er hs2 e2).bq)
  .obtain⟨p,e1,hr⟩:=nc hr;obtain⟨q,e2,hr⟩:=nc hr;exact iU h1 h2 h hd rfl (hk _ _ _ _ hr) rfl (hS p q (er hs1 e1).bq (er hs2 e2).bq)
  .rename_i hu;obtain⟨p,e1,hr⟩:=uJ hr;obtain⟨q,e2,hr⟩:=uJ hr;exact iU h1 h2 h hd rfl (hk _ _ _ _ hr) rfl (hB p q hu (er hs1 e1).bq (er hs2 e2).bq)
  .split at hr
   .rename_i hb;simp only[RP]at hb;have su3:∀{s:S} {x:R4} {k:List D->bn} {fs fo:List Nat},R1 Is fr (LJ s k) fs fo o->(s=su\/∃v,dN a x v/\SR M ρ s v)->∃v,dN a x v/\SR M ρ s v:=by
     intro s x k fs fo hr hs;rcases hs with rfl|hs
     .exact hr.elim
     .exact hs
    obtain⟨v1,hv1,hs1⟩:=su3 hr hs1;obtain⟨x1,y1,z1,hr,u1,u2,u3,rfl,r1,r2,r3⟩:=G1 hr hb.1.2 hs1;obtain⟨v2,hv2,hs2⟩:=su3 hr hs2;obtain⟨x2,y2,z2,hr,u4,u5,u6,rfl,r4,r5,r6⟩:=G1 hr hb.2 hs2;obtain⟨p,e1,q,e2,r,e3,p',e4,q',e5,r',e6,hr9⟩:=hr;have f1:x1=.v (.int .i64 p):=e1;have f2:y1=.v (.int .i64 q):=e2;have f3:z1=.v (.int .i64 r):=e3;have f4:x2=.v (.int .i64 p'):=e4;have f5:y2=.v (.int .i64 q'):=e5;have f6:z2=.v (.int .i64 r'):=e6;subst f1 f2 f3 f4 f5 f6;simp only[Rd]at r1 r2 r3 r4 r5 r6;obtain rfl:=r1.1;obtain rfl:=r2.1;obtain rfl:=r3.1;obtain rfl:=r4.1;obtain rfl:=r5.1;obtain rfl:=r6.1;exact iU h1 h2 h hd rfl (hk _ _ _ _ hr9) rfl (hE (hT.eq3 t hb.1.1) p q r p' q' r' hv1.bq hv2.bq)
   .exact hr.elim
  .obtain⟨p,e1,hr⟩:=kR1 hr;obtain⟨q,e2,hr⟩:=kR1 hr;exact iU h1 h2 h hd rfl (hk _ _ _ _ hr) rfl (hK _ p q (er hs1 e1).bq (er hs2 e2).bq)
  .rename_i na ea hua;split at hr
   .rename_i kd ma dsa mb dsb hqa hkd _;split at hr
    .rename_i hb;simp only[RP]at hb;have em1:=RD hb.1;have em2:=RD hb.2;obtain⟨p,hp,q,hq,hr⟩:=hr;have kn:∀{x:R4} {m:Nat} {ds:List D} {zs:List Int},((S.a m ds)=su\/∃v,dN a x v/\SR M ρ (S.a m ds) v)->nH kd ds=some zs->zs.length=m/\bq (Lf a) x=some (.agg (zs.map (To kd)).toArray):=by
      intro x m ds zs hs hz;rcases hs with hs|⟨v,hv,hl,us,rfl,hrd⟩
      .cases hs
      .obtain rfl:=jH hz;rw[p9 hrd]at hv;exact⟨by grind,hv.bq⟩
     obtain⟨l1,v1⟩:=kn hs1 hp;obtain⟨l2,v2⟩:=kn hs2 hq;exact iU h1 h2 h hd rfl (hk _ _ _ _ hr) rfl (hA na ea kd hqa hua (nG hkd) p q Q0 Q0 v1 v2)
    .exact hr.elim
   .exact hr.elim
  .exact hr.elim
 unfold Db at hr;split at hr
 .exact key mA id (λb fs fo o h=>h) .eql (λp q hx hy=>Y.eql hx hy) (λkd p q hx hy=>Y.eqlK hx hy) (λn e kd h0 hu he p q hp hq hx hy=>(hT.eqa t n e kd h0 hu he _ _ _ _ _ _ _ _ _ _ _ _ _ hp hq hx hy).1) (λp q hx hy=>Y.eqlS hx hy) (λp q hu hx hy=>Y.eqlBB hu hx hy) (λhE p q r p' q' r' hx hy=>(hE _ _ _ _ _ _ _ _ _ _ _ _ _ _ _ _ _ hx hy).1) hr
 .refine key (λb=>mA (!b)) not (λb fs fo o h=>h) .neq (λp q hx hy=>?_) (λkd p q hx hy=>?_) (λn e kd h0 hu he p q hp hq hx hy=>(hT.eqa t n e kd h0 hu he _ _ _ _ _ _ _ _ _ _ _ _ _ hp hq hx hy).2) (λp q hx hy=>?_) (λp q hu hx hy=>?_) (λhE p q r p' q' r' hx hy=>(hE _ _ _ _ _ _ _ _ _ _ _ _ _ _ _ _ _ hx hy).2) hr
  .have:=Y.neq (P:=P) (w0:=w0) (M:=M) (Γ:=lst.map Sg++Γ0) (d:=some d) (ty:=ty) (pos:=pos) (af:=af) (g:=g) (t:=t) hx hy;rwa [decide_not]at this
  .have:=Y.neqK (P:=P) (w0:=w0) (M:=M) (Γ:=lst.map Sg++Γ0) (d:=some d) (ty:=ty) (pos:=pos) (af:=af) (g:=g) (t:=t) hx hy;rwa [decide_not]at this
  .have:=Y.neqS (P:=P) (w0:=w0) (M:=M) (Γ:=lst.map Sg++Γ0) (d:=some d) (ty:=ty) (pos:=pos) (af:=af) (g:=g) (u:=t) hx hy;rwa [decide_not]at this
  .have:=Y.neqD (P:=P) (w0:=w0) (M:=M) (Γ:=lst.map Sg++Γ0) (d:=some d) (ty:=ty) (pos:=pos) (af:=af) (g:=g) (p:=p=true) (q:=q=true) hu (by simpa using hx) (by simpa using hy);cases p <;> cases q <;> simpa using this
 .split at hr
  .obtain⟨p,e1,hr⟩:=eL hr;obtain⟨q,e2,hr⟩:=eL hr;exact O6 h1 h2 h hd (er hs1 e1) (er hs2 e2) hr
  .obtain⟨p,e1,hr⟩:=nc hr;obtain⟨q,e2,hr⟩:=nc hr;split at hr
   .exact iU h1 h2 h hd rfl (aU hr.2) rfl (Y.addS (er hs1 e1).bq (er hs2 e2).bq hr.1)
   .exact hr.elim
  .obtain⟨p,e1,hr⟩:=kR1 hr;obtain⟨q,e2,hr⟩:=kR1 hr;exact pN h1 h2 h hd (er hs1 e1) (er hs2 e2) hr
  .exact hr.elim
end
theorem cN(b:Nat):RN b b=true:=VF b
theorem gX{a b:Nat}(h:a≠b):RN a b=false:=by
 grind [RN,RD]
theorem D5{fr:Fr}{b:Nat}{o:O}(h:fr.ob b=some o):fr.set b o=fr:=by
 have:(fr.set b o).ob=fr.ob:=by
  grind [cI]
 cases fr
 grind [Fr.set]
section
variable {w0:R0} {Γ0:List As} {fr:Fr} {ρ:Nat->Option RK} {M:Mem} {lst:List (Nat×As)} {val:Nat->Option RK} {w:R0}
theorem il{b k:Nat}{x:As}(h:(k,x)∈lst)(hk:k≠b):(k,x)∈lst.filter λp=>!RN p.1 b:=Sp.2 ⟨h,by simp[gX hk]⟩
theorem kz(h:(lst.map Sf).Nodup)(b:Nat):((lst.filter λp=>!RN p.1 b).map Sf).Nodup:=by
 grind
theorem yK{b k:Nat}{x:As}(h:(k,x)∈lst.filter λp=>!RN p.1 b):k≠b:=λe=>by simp_all
theorem Rel.fix(h:Rel w0 Γ0 fr ρ M lst val w){b e sz n:Nat}{ds:List D}(hb:fr.ob b=some (.w e sz n ds)) :
  ∃M' lst' v,Sub M M'/\ρ b=some v/\Rd M' (.sl n sz ds) v/\Rel w0 Γ0 (fr.set b (.s sz n ds)) ρ M' lst' val w:=by
 obtain⟨ad,c,us,h1,h2,h3,h4,h5⟩:=h.ob b _ hb;obtain⟨M',hs,hrd,hst⟩:=(h.st.fD (h.mem h2)).I9 h3 h5;refine⟨M',lst.filter λp=>!RN p.1 b,_,hs,h1,hrd,⟨λt=>?_,λk o hk=>?_,λk v hk=>?_,λp hp=>?_,kz h.nd b,hst.sub (Uv _ _),h.gr.mono hs⟩⟩
 .rcases h.sl t with h6|⟨v,h6,h7⟩
  .exact .inl h6
  .exact .inr ⟨v,h6,SR.mono hs (Ext.refl ρ) h7⟩
 .rw[cI]at hk;by_cases e:k=b
  .subst e;rw[J2 rfl]at hk;simp only[RE]at hk;subst hk;exact⟨_,h1,hrd⟩
  .rw[J1 e]at hk;exact OR.mono hs (Ext.refl ρ) (λx hx=>il hx e) (h.ob k o hk)
 .rcases h.vZ k v hk with h6|h6
  .exact .inl h6
  .right;rw[cI];by_cases e:k=b
   .rw[J2 e];rfl
   .rw[J1 e];exact h6
 .exact h.gq p (Sp.1 hp).1
def IsV(x:Option O)(e sz n:Nat)(ws:List C):Prop:=x=some (.v e sz n ws)\/∃ds j c,x=some (.h e sz n ds j c)/\ws=qd ds j c
theorem Rel.fixV(h:Rel w0 Γ0 fr ρ M lst val w){b e sz n:Nat}{ws:List C}{ds:List D}(hb:IsV (fr.ob b) e sz n ws)(hd:∀us,cA M ρ ws us->bz M ds us) :
  ∃M' lst' v,Sub M M'/\ρ b=some v/\Rd M' (.sl n sz ds) v/\Rel w0 Γ0 (fr.set b (.s sz n ds)) ρ M' lst' val w:=by
 obtain⟨ad,c,us,h1,h2,h3,h4,h5⟩:∃a c us,ρ b=some (.slice a n c)/\(b,As.acc (.slice a n c) e sz n us)∈lst/\cA M ρ ws us/\us.length=n*sz/\n<=lim:=by
  rcases hb with hb|⟨ds,j,c,hb,rfl⟩
  .exact h.ob b _ hb
  .obtain⟨a,q,us,h1,h2,h3,h4,h5,_⟩:=h.ob b _ hb
   grind
 obtain⟨M',hs,hrd,hst⟩:=(h.st.fD (h.mem h2)).I9 (hd us h3) h5;refine⟨M',lst.filter λp=>!RN p.1 b,_,hs,h1,hrd,⟨λt=>?_,λk o hk=>?_,λk v hk=>?_,λp hp=>?_,kz h.nd b,hst.sub (Uv _ _),h.gr.mono hs⟩⟩
 .rcases h.sl t with h6|⟨v,h6,h7⟩
  .exact .inl h6
  .exact .inr ⟨v,h6,SR.mono hs (Ext.refl ρ) h7⟩
 .rw[cI]at hk;by_cases e:k=b
  .subst e;rw[J2 rfl]at hk;simp only[RE]at hk;subst hk;exact⟨_,h1,hrd⟩
  .rw[J1 e]at hk;exact OR.mono hs (Ext.refl ρ) (λx hx=>il hx e) (h.ob k o hk)
 .rcases h.vZ k v hk with h6|h6
  .exact .inl h6
  .right;rw[cI];by_cases e:k=b
   .rw[J2 e];rfl
   .rw[J1 e];exact h6
 .exact h.gq p (Sp.1 hp).1
theorem Rel.Qy(g:Nat->Option O):∀(os:List (Nat×O)) {fr:Fr} {M:Mem} {lst:List (Nat×As)},Rel w0 Γ0 fr ρ M lst val w ->
  (∀p∈os,g p.1=some p.2/\∃e sz n ws ds,p.2=.s sz n ds/\(IsV (fr.ob p.1) e sz n ws\/fr.ob p.1=some (.s sz n ds))/\∀M' us,Sub M M'->cA M' ρ ws us->bz M' ds us) ->
  ∃M' lst',Sub M M'/\(∀p∈os,∀sz n ds,p.2=O.s sz n ds->∃v,ρ p.1=some v/\Rd M' (.sl n sz ds) v)/\Rel w0 Γ0 (fr.aI os) ρ M' lst' val w
 |[],fr,M,lst,h,_=>⟨M,lst,Sub.refl M,λp hp=>by simp at hp,h⟩
 |(b,o)::os,fr,M,lst,h,hf=>by
  obtain⟨hg,e,sz,n,ws,ds,ho,h0,hd⟩:=hf (b,o) (RG ..);simp only at ho hg h0;subst ho;have step:∃M1 l1 v,Sub M M1/\ρ b=some v/\Rd M1 (.sl n sz ds) v/\Rel w0 Γ0 (fr.set b (.s sz n ds)) ρ M1 l1 val w:=by
   rcases h0 with h0|h0
   .exact h.fixV h0 λus hu=>hd M us (Sub.refl M) hu
   .obtain⟨v,h3,h4⟩:=h.ob _ _ h0;exact⟨M,lst,v,Sub.refl M,h3,h4,by rw[D5 h0];exact h⟩
  obtain⟨M1,l1,v,hs,hv,hrd,h1⟩:=step;obtain⟨M2,l2,hs2,hfa,h2⟩:=Rel.Qy g os h1 λp hp=>by
   obtain⟨hg',e',sz',n',ws',ds',ho',h0',hd'⟩:=hf p (RM _ hp);refine⟨hg',e',sz',n',ws',ds',ho',?_,λM' us hM hu=>hd' M' us (hs.trans hM) hu⟩
   grind [cI]
  refine⟨M2,l2,hs.trans hs2,λp hp sz' n' ds' hp'=>?_,h2⟩;rcases RO.1 hp with rfl|hp
  .simp only[O.s.injEq]at hp';obtain⟨rfl,rfl,rfl⟩:=hp';exact⟨v,hv,Rd.mono hs2 _ _ hrd⟩
  all_goals grind
def mU(ρ:Nat->Option RK)(M:Mem)(os:List (Nat×O)):Prop:=∀p∈os,match p.2 with
 |.s sz n ds=>∃v,ρ p.1=some v/\Rd M (.sl n sz ds) v
 |_=>False
def fp(fr:Fr)(os:List (Nat×O)):Prop:=∀p∈os,match p.2 with
 |.s sz n ds=>(∃e,fr.ob p.1=some (.w e sz n ds))\/fr.ob p.1=some (.s sz n ds)
 |_=>False
theorem Rel.Kp:∀(os:List (Nat×O)) {fr:Fr} {M:Mem} {lst:List (Nat×As)},Rel w0 Γ0 fr ρ M lst val w->fp fr os->∃M' lst',Sub M M'/\mU ρ M' os/\Rel w0 Γ0 (fr.aI os) ρ M' lst' val w
 |[],fr,M,lst,h,_=>⟨M,lst,Sub.refl M,λp hp=>by simp at hp,h⟩
 |(b,o)::os,fr,M,lst,h,hf=>by
  have h0:=hf (b,o) (RG ..);cases o with
  |s sz n ds =>
   have hrest:fp (fr.set b (.s sz n ds)) os:=λp hp=>by
    have:=hf p (RM _ hp)
    grind [cI]
   rcases h0 with⟨e0,h0⟩|h0
   .obtain⟨M1,l1,v,hs,hv,hrd,h1⟩:=h.fix h0;obtain⟨M2,l2,hs2,hfa,h2⟩:=Rel.Kp os h1 hrest;refine⟨M2,l2,hs.trans hs2,λp hp=>?_,h2⟩;rcases RO.1 hp with rfl|hp
    .exact⟨v,hv,Rd.mono hs2 _ _ hrd⟩
    .exact hfa p hp
   .have e1:=D5 h0;rw[e1]at hrest;obtain⟨M2,l2,hs2,hfa,h2⟩:=Rel.Kp os h hrest;refine⟨M2,l2,hs2,λp hp=>?_,by grind [Fr.aI]⟩;rcases RO.1 hp with rfl|hp
    .obtain⟨v,h3,h4⟩:=h.ob _ _ h0;exact⟨v,h3,Rd.mono hs2 _ _ h4⟩
    .exact hfa p hp
  |_=>exact h0.elim
theorem fp.app{os os':List (Nat×O)}(h:fp fr os)(k:fp fr os'):fp fr (os++os'):=λp hp=>by
 rcases RY.1 hp with hp|hp
 .exact h p hp
 .exact k p hp
theorem fp.nil:fp fr []:=λp hp=>by simp at hp
theorem mU.app1{os os':List (Nat×O)}(h:mU ρ M (os++os')):mU ρ M os:=λp hp=>h p (List.mem_append_left _ hp)
theorem mU.app2{os os':List (Nat×O)}(h:mU ρ M (os++os')):mU ρ M os':=λp hp=>h p (List.mem_append_right _ hp)
end
section
variable {Is:Cx} {P:RV} {w0:R0} {Γ0:List As} {fr:Fr} {ρ:Nat->Option RK} {M:Mem} {lst:List (Nat×As)} {val:Nat->Option RK} {w:R0} {fs fo:List Nat} {o:Out}
def DatOk(ρ:Nat->Option RK)(M:Mem)(c:C)(x:D)(os:List (Nat×O)):Prop:=∀M' v,Sub M M'->mU ρ M' os->CR M ρ c v->Rd M' x v
theorem C1(h:Rel w0 Γ0 fr ρ M lst val w){c:C}{k:D->List (Nat×O)->bn}(hr:R1 Is fr (FV c k) fs fo o):∃x os fo',R1 Is fr (k x os) fs fo' o/\fp fr os/\DatOk ρ M c x os/\c≠.u:=by
 unfold FV at hr;split at hr
 .rename_i x;exact⟨x,[],fo,hr,fp.nil,λM' v hM _ hc=>Rd.mono hM _ _ hc,Q2⟩
 .refine⟨_,[],fo,hr,fp.nil,λM' v hM _ hc=>?_,Q2⟩;obtain rfl:v=.slice none 0 0:=hc;exact Rd.qf
 .rename_i b;change R1 Is fr (match fr.ob b with|some (.w _ sz n ds)=>_|some (.s sz n ds)=>_|_=>_) _ _ _ at hr;split at hr
  .rename_i e sz n ds hob;refine⟨.sl n sz ds,[(b,.s sz n ds)],_,hr,λp hp=>?_,λM' v hM hf hc=>?_,Q2⟩
   .grind
   .obtain⟨v',h1,h2⟩:=hf (b,.s sz n ds) (RZ.2 rfl);have h3:ρ b=some v:=hc.1
    grind
  .rename_i sz n ds hob;refine⟨.sl n sz ds,[],_,hr,fp.nil,λM' v hM hf hc=>?_,Q2⟩;obtain⟨v',h1,h2⟩:=h.ob b _ hob;have h3:ρ b=some v:=hc.1;rw[h1]at h3;simp only[RE]at h3;subst h3;exact Rd.mono hM _ _ h2
  .exact hr.elim
 .exact hr.elim
def DatsOk(ρ:Nat->Option RK)(M:Mem)(cs:List C)(ds:List D)(os:List (Nat×O)):Prop:=∀M' us,Sub M M'->mU ρ M' os->cA M ρ cs us->bz M' ds us
theorem C0(h:Rel w0 Γ0 fr ρ M lst val w):∀(cs:List C) {k:List D->List (Nat×O)->bn} {fs fo:List Nat} {o:Out},R1 Is fr (FU cs k) fs fo o->∃ds os fo',R1 Is fr (k ds os) fs fo' o/\fp fr os/\DatsOk ρ M cs ds os
 |[],k,fs,fo,o,hr=>⟨[],[],fo,hr,fp.nil,λM' us _ _ hc=>by
  cases us with
  |nil=>exact bz.nil _
  |cons _ _=>exact hc.elim⟩
 |c::cs,k,fs,fo,o,hr=>by
  obtain⟨x,os,fo1,hr,hf,hd,_⟩:=C1 h hr;obtain⟨ds,os',fo2,hr,hf',hd'⟩:=C0 h cs hr;refine⟨x::ds,os++os',fo2,hr,hf.app hf',λM' us hM hfa hc=>?_⟩;cases us with
  |nil=>exact hc.elim
  |cons u us=>exact bz.cons (hd M' u hM hfa.app1 hc.1) (hd' M' us hM hfa.app2 hc.2)
theorem Bq{v:RK}(h:v.oneCell'=true):v.cells=#[v]:=by cases v <;> first|rfl|simp[UD]at h
def ValOk(ρ:Nat->Option RK)(M:Mem)(s:S)(m:Nat)(ds:List D)(os:List (Nat×O)):Prop:=∀M' v,Sub M M'->mU ρ M' os->SR M ρ s v->∃us,v.cells=us.toArray/\bz M' ds us/\us.length=m
theorem Gw(h:Rel w0 Γ0 fr ρ M lst val w){s:S}{k:Nat->List D->List (Nat×O)->bn}(hr:R1 Is fr (Gx s k) fs fo o):∃m ds os fo',R1 Is fr (k m ds os) fs fo' o/\fp fr os/\ValOk ρ M s m ds os/\s≠su:=by
 unfold Gx at hr;split at hr
 .rename_i c;obtain⟨x,os,fo1,hr,hf,hd,hne⟩:=C1 h hr;refine⟨1,[x],os,fo1,hr,hf,λM' v hM hfa hs=>?_,by unfold su;simpa using hne⟩;have:=hd M' v hM hfa hs
  grind [Bq,Rd.one,bz.cons,bz.nil]
 .rename_i n ds;refine⟨n,ds,[],fo,hr,fp.nil,λM' v hM _ hs=>?_,by unfold su;simp⟩;obtain⟨hl,us,rfl,hr2⟩:=hs;exact⟨us,rfl,hr2.mono hM,by rw[hr2.1,hl]⟩
 .rename_i cs;obtain⟨ds,os,fo1,hr,hf,hd⟩:=C0 h cs hr;refine⟨cs.length,ds,os,fo1,hr,hf,λM' v hM hfa hs=>?_,by unfold su;simp⟩;obtain⟨us,rfl,hr2⟩:=hs;exact⟨us,rfl,hd M' us hM hfa hr2,cA.len hr2⟩
 .exact hr.elim
theorem GM(_:Rel w0 Γ0 fr ρ M lst val w){sz:Nat}{s:S}{k:Nat->List D->bn}(hr:R1 Is fr (Lj sz s k) fs fo o):∃n ds fo',R1 Is fr (k n ds) fs fo' o /\
  ((s=.c (.d (.sl n sz ds)))\/(s=.c (.l sz)/\n=0/\ds=[])\/∃b,s=.c (.w b)/\((∃e,fr.ob b=some (.w e sz n ds))\/fr.ob b=some (.s sz n ds)\/∃e,fr.ob b=some (.x e sz n ds))):=by
 unfold Lj at hr;split at hr
 .split at hr
  .rename_i hb;have e1:=RD hb;subst e1;exact⟨0,[],fo,hr,.inr (.inl ⟨rfl,rfl,rfl⟩)⟩
  .exact hr.elim
 .obtain⟨n,cs,rfl,hr⟩:=hr;exact⟨n,cs,fo,hr,.inl rfl⟩
 .rename_i b;change R1 Is fr (match fr.ob b with|some (.w _ sz' n ds)=>_|some (.s sz' n ds)=>_|some (.x _ sz' n ds)=>_|_=>_) _ _ _ at hr;split at hr
  .rename_i e sz' n ds hob;split at hr
   .rename_i hb;have e1:=RD hb;subst e1;exact⟨n,ds,_,hr,.inr (.inr ⟨b,rfl,.inl ⟨e,hob⟩⟩)⟩
   .exact hr.elim
  .rename_i sz' n ds hob;split at hr
   .rename_i hb;have e1:=RD hb;subst e1;exact⟨n,ds,_,hr,.inr (.inr ⟨b,rfl,.inr (.inl hob)⟩)⟩
   .exact hr.elim
  .rename_i e sz' n ds hob;split at hr
   .rename_i hb;have e1:=RD hb;subst e1;exact⟨n,ds,_,hr,.inr (.inr ⟨b,rfl,.inr (.inr ⟨e,hob⟩)⟩)⟩
   .exact hr.elim
  .exact hr.elim
 .exact hr.elim
theorem zn(h:Rel w0 Γ0 fr ρ M lst val w){b e sz n c:Nat}{ad:Option Addr}{us:List RK}(h2:(b,As.acc (.slice ad n c) e sz n us)∈lst):n<=c/\(0<n->ad.isSome=true):=by
 have hm:As.acc (.slice ad n c) e sz n us∈lst.map Sg++Γ0:=List.mem_append_left _ (Ss h2);obtain⟨ad',c',e3,hc⟩:=jo (h.st.all _ hm);simp only[Sm]at e3;obtain⟨rfl,_,rfl⟩:=e3;refine⟨hc,λhn=>?_⟩;obtain⟨⟨_,hh⟩,_⟩:=h.st.all _ hm
 grind
theorem pI(h:Rel w0 Γ0 fr ρ M lst val w){sz n:Nat}{s:S}{ds:List D}{v:RK}(hs:SR M ρ s v)(k:(s=.c (.d (.sl n sz ds)))\/(s=.c (.l sz)/\n=0/\ds=[])\/∃b,s=.c (.w b)/\((∃e,fr.ob b=some (.w e sz n ds))\/fr.ob b=some (.s sz n ds)\/∃e,fr.ob b=some (.x e sz n ds))) :
  ∃ad c us,v=.slice ad n c/\n<=c/\bz M ds us/\us.length=n*sz/\n<=lim/\(0<n->ad.isSome=true)/\∀i u,us[i]?=some u->∀w',St w0 M (lst.map Sg++Γ0) w'->w'.cell? (gd ad i)=some u:=by
 have ofRd:∀v,Rd M (.sl n sz ds) v->∃ad c us,v=.slice ad n c/\n<=c/\bz M ds us/\us.length=n*sz/\n<=lim/\(0<n->ad.isSome=true)/\∀i u,us[i]?=some u->∀w',St w0 M (lst.map Sg++Γ0) w'->w'.cell? (gd ad i)=some u:=by
  intro v hv;simp only[Rd]at hv;obtain⟨ad,c,rfl,h2,_,h4,h5,h6,h7⟩:=hv;obtain⟨us,h8,h9⟩:=th (M:=M) (a:=ad) (q:=0) (ds:=ds) λj e hj=>by grind [po.get]
  exact⟨ad,c,us,rfl,h2,h8,by rw[h8.1];exact h5,h4,h6,λi u hi w' hw'=>hw'.cell (by grind)⟩
 rcases k with rfl|⟨rfl,rfl,rfl⟩|⟨b,rfl,k⟩
 .exact ofRd v hs
 .obtain rfl:v=.slice none 0 0:=hs;exact ofRd _ Rd.qf
 .have hb:ρ b=some v:=hs.1;rcases k with⟨e,k⟩|k|⟨e,k⟩
  .obtain⟨ad,c,us,h1,h2,h3,h4,h5⟩:=h.ob b _ k;rw[h1]at hb;simp only[RE]at hb;subst hb;have hm:As.acc (.slice ad n c) e sz n us∈lst.map Sg++Γ0:=List.mem_append_left _ (Ss h2);obtain⟨ad',c',e3,hc⟩:=jo (h.st.all _ hm);simp only[Sm]at e3;obtain⟨rfl,_,rfl⟩:=e3;refine⟨ad,c,us,rfl,hc,h3,h4,h5,λhn=>?_,λi u hi w' hw'=>(hw'.mS hm hi).2⟩;obtain⟨⟨_,hh⟩,_⟩:=h.st.all _ hm;rcases hh with⟨e4,e5⟩|⟨b',cap,cur,e4,_⟩
   .simp only[Sm]at e4;omega
   .simp only[Sm]at e4;rw[e4.1];rfl
  .obtain⟨v',h1,h2⟩:=h.ob b _ k;rw[h1]at hb;simp only[RE]at hb;subst hb;exact ofRd _ h2
  .obtain⟨ad,c,us,h1,h2,h3,h4,h5⟩:=h.ob b _ k;rw[h1]at hb;simp only[RE]at hb;subst hb;have hc:=(h5.cap h.st).1;refine⟨ad,c,us,rfl,hc,h2,h3,h4,λhn=>?_,λi u hi w' hw'=>(h5.cell hw' h3 hi).2⟩;rcases h5 with h5|⟨_,_,g,l0,cur,h7,_⟩
   .exact(zn h h5).2 hn
   .rw[h7 Q0];rfl
end
end Pm
