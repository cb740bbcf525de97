/- PmS, PmT, PmU, PmV, PmW, PmX, PmY, PmZ, PmZh, Zrb, Zrp, Ev11, Ev12, Ev13, Ev15, Ev16, Ev17, Gn0, Wgn1, Wgn2, Wgn3, Wgn4, Wgn5, Wgn6, Wgn7, Wgn8, Wgn9, Ev18, Ev19, Ev20, Ev21, Ev22, Ev23, put together. -/
import Derived.Test.YtmbboaapillefaaGreatDoorPk2
import Derived.Deep.LoopGhost
import Derived.Test.YtmbboaapillefaaGreatDoorProg
import Derived.KernelRfl
open Array renaming foldl_toList->Xz,getD_eq_getD_getElem?->Sm,all_eq_true_iff_forall_mem->U1
open Bool renaming or_eq_false_iff->UW,and_eq_true->QA,or_eq_true->VS,not_eq_true'->TB,or_false->Xj,not_eq_true->X9
open ByteArray renaming mk->QX,size->XA,empty->Xr
open Go renaming Program->QE,Operand->QM,World->QL,Value->Qw,ResultVar->WO,loadVar->W7,execOp->Rc,IntKind->R6,run_eqGuard_agg->US,run_underlying->QN
open Go.Exit renaming inBlock->YM
open Go.Instr renaming checkKey->TT
open Go.Next renaming value->Y1
open Go.Oper renaming wp_mono->VK
open Go.Proofs.Tryz renaming prog->Qu,underlying42->Vp,underlying3->Sc
open Go.Region renaming binds->SV,before->TG,ready->Te
open Go.Result renaming ok->XO,andThen->TR
open Go.Sem renaming run_bind->SD
open Int renaming toNat->Qr,toNat_natCast->Rx,tmod->Rt,tdiv->RE,mul_nonneg->SX,natCast_add->Wl,add_mul->XB,pow_pos->Y2,tmod_eq_emod_of_nonneg->RB,tdiv_eq_ediv_of_nonneg->SL,add_sub_cancel->X0,emod_nonneg->Tp,emod_lt_of_pos->SM,le_refl->RC
open List renaming range'->YW,range'_succ->X7,mem_cons_of_mem->Qx,mem_cons_self->Qt,getElem?_cons_zero->Ru,all_eq_true->T0,mem_filter->Rq,mem_range->Ut,map_cons->QT,mem_cons->Qz,mem_map->QP,mem_map_of_mem->Rl,map_append->Rb,length->YY,length_cons->QG,range->UQ,append_nil->QF,getElem?_eq_getElem->QQ,drop_eq_getElem_cons->S1,take_zero->Sz,mem_singleton->QI,nodup_nil->Ur,any_cons->Xh,any_nil->YN,replicate->QY,flatten->S5,nil_append->Rk,drop_length->X8,getD_eq_getElem?_getD->RX,getElem_mem->QB,length_map->QS,cons_append->Rm,append_assoc->QU,take_succ_eq_append_getElem->Qv,length_append->QC,mem_append->QK,drop_zero->RR,getElem_map->RG,findIdx?_eq_some_iff_getElem->TU,mem_iff_getElem->QO,flatMap_cons->QD,flatMap_nil->Ro,take_length->Re,flatMap_append->QV,not_mem_nil->Rp,length_take->Rf,ext_getElem->T5,find?_cons->Uh,getElem?_cons_succ->R4
open List.Pairwise renaming nil->SK,cons->YX
open List.Sublist renaming append->U8
open List.cons renaming injEq->SA
open Nat renaming add_assoc->RW,add_comm->S9,beq->Qy,eq_of_beq_eq_true->Qp,testBit_or->Yz,lt_or_ge->U0,zero_add->Rn,lt_succ_self->VM,ble->SI,zero_le->Rr,not_lt_zero->RP,mod_lt->U2,sub_self->UO,lt_irrefl->YO,le_refl->QW
open Option renaming getD_some->TC,map_some->TK
open Option.some renaming injEq->Qq,inj->Sw
open Prod renaming fst->QZ,snd->Ra
open Prod.mk renaming injEq->QR
namespace Pm
open Go Xe
def ix(o:Oper)(fr:Fr)(x:Out):Fr:=(fr.bl o.dst x.v).aJ x.ob
def p7(o:Oper)(x:Out):Fp:=⟨o.dst,x.fs,x.fo,x.ob.map QZ,uj o x.ob⟩
def qo(J:Cx)(P:QE)(tb:Tb)(n aQ:Nat)(ops:Array Oper)(gs:List Nat):List (Nat×Oper×Out)->Fr->Fr->Prop
 |[],fr,fr'=>fr=fr'
 |(i,o,x)::l,fr,fr'=>(ops[i]?=some o/\R1 J fr (nI P tb aQ ops gs o) [] [] x/\Cg n o.dst x.v=true)/\qo J P tb n aQ ops gs l (ix o fr x) fr'
theorem zT(fr:Fr)(d:Option Nat)(v:Option S):(fr.bl d v).aQ=fr.aQ:=by unfold Fr.bl;split <;> rfl
theorem qv(o:Oper)(fr:Fr)(x:Out):(ix o fr x).aQ=fr.aQ:=by unfold ix;rw[ka,zT]
section
variable {J:Cx} {P:QE} {tb:Tb} {n aQ:Nat} {ops:Array Oper} {gs:List Nat}
theorem xb:∀(l:List Oper) (i:Nat) (fr:Fr) (fps:List (Nat×Fp)) {K:Fr->List (Nat×Fp)->Prop},fr.aQ=aQ->(∀j,l[j]?=ops[i+j]?)->xc J P tb n ops gs l i fr fps K ->
  ∃(c:List (Nat×Oper×Out)) (fr':Fr),qo J P tb n aQ ops gs c fr fr'/\K fr' ((c.map λy=>(y.1,p7 y.2.1 y.2.2)).reverse++fps)/\c.map QZ=YW i l.length
 |[],i,fr,fps,K,_,_,h=>⟨[],fr,rfl,h,rfl⟩
 |o::os,i,fr,fps,K,hb,hl,h=>by
  unfold xc at h;obtain⟨x,h1,h2⟩:=gI _ h;split at h2
  .rename_i hf;rw[pH,kR]at h2;obtain⟨c,fr',h3,h4,h5⟩:=xb os (i+1) _ _ (by rw[ka,zT];exact hb) (λj=>by have:=hl (j+1);simpa[RW,S9 1 j]using this) h2;refine⟨(i,o,x)::c,fr',⟨⟨by simpa using(hl 0).symm,by grind,hf⟩,h3⟩,?_,by simp[h5,X7]⟩;simpa[p7]using h4
  .exact h2.elim
theorem jM{fr:Fr}:∀{p:bj} {fs fo:List Nat} {x:Out},R1 J fr p fs fo x->(∀t∈fs,t∈x.fs)/\∀b∈fo,b∈x.fo
 |.no,_,_,_,h=>h.elim
 |.ret v ob,fs,fo,x,h=>by
  have h:x=⟨v,ob,fs,fo⟩:=h
  grind
 |.Kz t k,fs,fo,x,h=>let⟨h1,h2⟩:=jM (p:=k (fr.sl t)) h;⟨λs hs=>h1 s (Qx _ hs),h2⟩
 |.lU b k,fs,fo,x,h=>let⟨h1,h2⟩:=jM (p:=k (fr.ob b)) h;⟨h1,λs hs=>h2 s (Qx _ hs)⟩
 |.KA b k,fs,fo,x,h=>let⟨h1,h2⟩:=jM (p:=k (bI (fr.ob b))) h;⟨h1,λs hs=>h2 s (Qx _ hs)⟩
 |.i _ k,_,_,_,⟨z,_,h⟩=>jM (p:=k z) h
 |.bo _ k,_,_,_,⟨z,_,h⟩=>jM (p:=k z) h
 |.st _ k,_,_,_,⟨z,_,h⟩=>jM (p:=k z) h
 |.ik _ _ k,_,_,_,⟨z,_,h⟩=>jM (p:=k z) h
 |.FJ _ _ k,_,_,_,⟨z,_,h⟩=>jM (p:=k z) h
 |.sc _ _ k,_,_,_,⟨n,cs,_,h⟩=>jM (p:=k n cs) h
 |.we _ p _,_,_,_,.inl ⟨_,h⟩=>jM (p:=p) h
 |.we _ _ q,_,_,_,.inr ⟨_,h⟩=>jM (p:=q) h
 |.ck _ _ k,_,_,_,⟨_,h⟩=>jM (p:=k) h
 |.ca _ _ k,_,_,_,⟨r,_,h⟩=>jM (p:=k r) h
 |.inl _ _ _ _ k,_,_,_,⟨v,os,_,h⟩=>jM (p:=k v os) h
theorem cX{fr fr':Fr}:∀{p:bj} {fs fo:List Nat} {x:Out},R1 J fr p fs fo x->(∀t∈x.fs,fr'.sl t=fr.sl t)->(∀b,2*b∈x.fo->fr'.ob b=fr.ob b)->(∀b,2*b+1∈x.fo->bI (fr'.ob b)=bI (fr.ob b))->R1 J fr' p fs fo x
 |.no,_,_,_,h,_,_,_=>h.elim
 |.ret _ _,_,_,_,h,_,_,_=>h
 |.Kz t k,fs,fo,x,h,h1,h2,h3=>by show R1 J fr' (k (fr'.sl t)) _ _ _;have hm:t∈x.fs:=(jM (p:=k (fr.sl t)) h).1 t (Qt ..);rw[h1 t hm];exact cX (p:=k (fr.sl t)) h h1 h2 h3
 |.lU b k,fs,fo,x,h,h1,h2,h3=>by show R1 J fr' (k (fr'.ob b)) _ _ _;have hm:2*b∈x.fo:=(jM (p:=k (fr.ob b)) h).2 _ (Qt ..);rw[h2 b hm];exact cX (p:=k (fr.ob b)) h h1 h2 h3
 |.KA b k,fs,fo,x,h,h1,h2,h3=>by show R1 J fr' (k (bI (fr'.ob b))) _ _ _;have hm:2*b+1∈x.fo:=(jM (p:=k (bI (fr.ob b))) h).2 _ (Qt ..);rw[h3 b hm];exact cX (p:=k (bI (fr.ob b))) h h1 h2 h3
 |.i _ k,_,_,_,⟨z,h0,h⟩,h1,h2,h3=>⟨z,h0,cX (p:=k z) h h1 h2 h3⟩
 |.bo _ k,_,_,_,⟨z,h0,h⟩,h1,h2,h3=>⟨z,h0,cX (p:=k z) h h1 h2 h3⟩
 |.st _ k,_,_,_,⟨z,h0,h⟩,h1,h2,h3=>⟨z,h0,cX (p:=k z) h h1 h2 h3⟩
 |.ik _ _ k,_,_,_,⟨z,h0,h⟩,h1,h2,h3=>⟨z,h0,cX (p:=k z) h h1 h2 h3⟩
 |.FJ _ _ k,_,_,_,⟨z,h0,h⟩,h1,h2,h3=>⟨z,h0,cX (p:=k z) h h1 h2 h3⟩
 |.sc _ _ k,_,_,_,⟨n,cs,h0,h⟩,h1,h2,h3=>⟨n,cs,h0,cX (p:=k n cs) h h1 h2 h3⟩
 |.we _ p _,_,_,_,.inl ⟨h0,h⟩,h1,h2,h3=>.inl ⟨h0,cX (p:=p) h h1 h2 h3⟩
 |.we _ _ q,_,_,_,.inr ⟨h0,h⟩,h1,h2,h3=>.inr ⟨h0,cX (p:=q) h h1 h2 h3⟩
 |.ck _ _ k,_,_,_,⟨h0,h⟩,h1,h2,h3=>⟨h0,cX (p:=k) h h1 h2 h3⟩
 |.ca _ _ k,_,_,_,⟨r,h0,h⟩,h1,h2,h3=>⟨r,h0,cX (p:=k r) h h1 h2 h3⟩
 |.inl _ _ _ _ k,_,_,_,⟨v,os,h0,h⟩,h1,h2,h3=>⟨v,os,h0,cX (p:=k v os) h h1 h2 h3⟩
theorem anyB{l:List Nat}{d:Nat}(h:l.any (Qy d)=false):d ∉ l:=λhm=>by have:=List.any_eq_false.1 h d hm;simp_all
structure FF(a b:Fp):Prop where
 d1:∀d,a.wr=some d->d ∉ b.sl
 d2:∀d,b.wr=some d->d ∉ a.sl
 d3:∀d,a.wr=some d->b.wr≠some d
 o1:∀x∈a.wo,2*x ∉ b.ob/\(a.kp=false->2*x+1 ∉ b.ob)/\x ∉ b.wo
 o2:∀x∈b.wo,2*x ∉ a.ob/\(b.kp=false->2*x+1 ∉ a.ob)
theorem Fi{a b:Fp}(h:AV a b=false):FF a b:=by
 unfold AV at h;simp only[UW]at h;obtain⟨⟨⟨h1,h2⟩,h3⟩,h4⟩:=h;refine⟨λd hd=>?_,λd hd=>?_,λd hd e=>?_,λx hx=>?_,λx hx=>?_⟩
 .rw[hd]at h1;simp only[UW]at h1;exact anyB h1.1
 .rw[hd]at h2;exact anyB h2
 all_goals simp_all
theorem IC(fr:Fr)(d:Option Nat)(v:Option S):(fr.bl d v).ob=fr.ob:=by unfold Fr.bl;split <;> rfl
theorem puts_sl(fr:Fr)(d:Option Nat)(v:Option S){t:Nat}(h:d≠some t):(fr.bl d v).sl t=fr.sl t:=by
 unfold Fr.bl;split
 .rename_i d' v';rw[BG,J1]
  grind
 .rfl
theorem FR{l:List (Nat×O)}{fr:Fr}{k:Nat}(h:k ∉ l.map QZ):(fr.aJ l).ob k=fr.ob k:=iw l λp hp e=>h (by grind)
theorem H5{o:Oper}{fr:Fr}{x:Out}{t:Nat}(h:o.dst≠some t):(ix o fr x).sl t=fr.sl t:=by unfold ix;rw[rv,puts_sl _ _ _ h]
theorem Br{o:Oper}{fr:Fr}{x:Out}{b:Nat}(h:b ∉ x.ob.map QZ):(ix o fr x).ob b=fr.ob b:=by unfold ix;rw[FR h,IC]
theorem zD:∀(l k:List (Nat×O)) (fr:Fr),(∀x∈l.map QZ,x ∉ k.map QZ)->(fr.aJ l).aJ k=(fr.aJ k).aJ l
 |[],_,_,_=>rfl
 |(b,o)::l,k,fr,h=>by
  have hb:b ∉ k.map QZ:=h b (Qt ..);have one:∀(k:List (Nat×O)) (fr:Fr),b ∉ k.map QZ->(fr.set b o).aJ k=(fr.aJ k).set b o:=by
   intro k;induction k with
   |nil=>intro fr _;rfl
   |cons c k ih =>
    intro fr hk;obtain⟨c,u⟩:=c;have hc:b≠c:=λe=>hk (by grind);rw[Fr.aJ,Fr.aJ,<-ih (fr.set c u) λhm=>hk (Qx _ hm)]
    congr 1
    have:((fr.set b o).set c u).ob=((fr.set c u).set b o).ob:=by
     funext q
     simp only[cu]
     grind
    unfold Fr.set at this ⊢;simp only[Fr.mk.injEq,true_and,and_true];exact this
  rw[Fr.aJ,zD l k _ λx hx=>h x (Qx _ hx),one k fr hb,Fr.aJ]
theorem zS(l:List (Nat×O))(fr:Fr)(d:Option Nat)(v:Option S):(fr.bl d v).aJ l=(fr.aJ l).bl d v:=by
 unfold Fr.bl;split
 .rw[ky]
 .rfl
theorem KB{fr:Fr}{d e:Option Nat}{v u:Option S}(h:∀t,d=some t->e≠some t):(fr.bl d v).bl e u=(fr.bl e u).bl d v:=by
 cases d with
 |none=>rfl
 |some d=>cases e with
  |none=>rfl
  |some e=>cases v with
   |none=>rfl
   |some v=>cases u with
    |none=>rfl
    |some u =>
     have hne:d≠e:=λh1=>h d rfl (by rw[h1]);have:((fr.put d v).put e u).sl=((fr.put e u).put d v).sl:=by
      funext q
      simp only[BG]
      grind
     show(fr.put d v).put e u=(fr.put e u).put d v;unfold Fr.put at this ⊢;simp only[Fr.mk.injEq,and_true];exact this
theorem J9{o o':Oper}{x y:Out}{fr:Fr}(h:FF (p7 o x) (p7 o' y)):ix o' (ix o fr x) y=ix o (ix o' fr y) x:=by unfold ix;rw[<-zS,<-zS,KB (d:=o.dst) (e:=o'.dst) (λt ht=>h.d3 t ht),zD x.ob y.ob _ λq hq=>(h.o1 q hq).2.2]
theorem Oo{fr:Fr}{o:Oper}{x:Out}{b:Nat}{y:O}(e:x.ob=[(b,y)])(hb:bI (some y)=bI (fr.ob b))(k:Nat):bI ((ix o fr x).ob k)=bI (fr.ob k):=by
 unfold ix;rw[e];show bI (((fr.bl o.dst x.v).set b y).ob k)=_;rw[cu,IC]
 grind
theorem Fj{y:O}{p:Nat×List C}(h:rf y=some p):bI (some y)=none:=by unfold rf at h;split at h <;> first|rfl|cases h
theorem C6{m:Nat}{y z:O}{q:Nat}{v:S}(h:qu m y q v=some z):bI (some z)=bI (some y):=by
 unfold qu at h;split at h
 .rename_i z' hz;cases h;unfold Mp at hz;split at hz
  .split at hz
   .split at hz
    .cases hz;rfl
    .cases hz
   .cases hz
  .cases hz
 .split at h
  .cases h
  .rename_i p hp;rw[Fj hp];split at h
   .split at h
    .cases h;rfl
    .split at h
     .cases h;rfl
     .cases h
   .split at h
    .split at h
     .cases h;rfl
     .cases h
    .cases h
theorem Pt{fr:Fr}{x:QM}{k:S->bj}{fs fo:List Nat}{o:Out}(hr:R1 J fr (cK x k) fs fo o):∃s fs',R1 J fr (k s) fs' fo o:=by
 cases x with
 |tmp t=>exact⟨_,_,hr⟩
 |const c=>exact⟨_,_,hr⟩
 |func f=>exact⟨_,_,hr⟩
 |global g=>exact hr.elim
theorem JA{fr:Fr}{c:C}{k:D->List (Nat×O)->bj}{fs fo:List Nat}{o:Out}(hr:R1 J fr (Fe c k) fs fo o):∃x os fo',R1 J fr (k x os) fs fo' o:=by
 unfold Fe at hr;split at hr
 .exact⟨_,_,_,hr⟩
 .exact⟨_,_,_,hr⟩
 .rename_i b;change R1 J fr (match fr.ob b with|some (.w _ sz n ds)=>_|some (.s sz n ds)=>_|_=>_) _ _ _ at hr;split at hr
  .exact⟨_,_,_,hr⟩
  .exact⟨_,_,_,hr⟩
  .exact hr.elim
 .exact hr.elim
theorem Fb{fr:Fr}:∀(cs:List C) {k:List D->List (Nat×O)->bj} {fs fo:List Nat} {o:Out},R1 J fr (Fc cs k) fs fo o->∃x os fo',R1 J fr (k x os) fs fo' o
 |[],_,_,_,_,hr=>⟨_,_,_,hr⟩
 |c::cs,_,_,_,_,hr=>by obtain⟨x,os,fo',h1⟩:=JA (c:=c) hr;obtain⟨y,os',fo'',h2⟩:=Fb cs h1;exact⟨_,_,_,h2⟩
theorem HP{fr:Fr}{s:S}{k:Nat->List D->List (Nat×O)->bj}{fs fo:List Nat}{o:Out}(hr:R1 J fr (FN s k) fs fo o):∃m ds os fo',R1 J fr (k m ds os) fs fo' o:=by
 unfold FN at hr;split at hr
 .obtain⟨x,os,fo',h1⟩:=JA hr;exact⟨_,_,_,_,h1⟩
 .exact⟨_,_,_,_,hr⟩
 .obtain⟨x,os,fo',h1⟩:=Fb _ hr;exact⟨_,_,_,_,h1⟩
 .exact hr.elim
theorem Gp{os:List (Nat×O)}{b:Nat}{y:O}{p:Nat×O}(h:os++[(b,y)]=[p]):p=(b,y):=by
 cases os with
 |nil=>simpa using h.symm
 |cons a l=>simp at h
theorem MW{fr:Fr}{t:TypeId}{s v:S}{fs fo:List Nat}{x:Out}{p:Nat×O}(hr:R1 J fr (wN P t s v) fs fo x)(e:x.ob=[p]):bI (some p.2)=bI (fr.ob p.1):=by
 unfold wN at hr;split at hr
 .exact hr.elim
 .rename_i m hm;split at hr
  .rename_i b q;change R1 J fr (match fr.ob b with|some x=>_|none=>_) _ _ _ at hr;split at hr
   .rename_i x0 hob;split at hr
    .rename_i y0 hst;have hr:x=⟨none,[(b,y0)],_,_⟩:=hr;subst hr;simp only[SA,and_true]at e;subst e;show bI (some y0)=bI (fr.ob b);rw[hob];exact C6 hst
    .exact hr.elim
   .exact hr.elim
  .rename_i b sz k j;change R1 J fr (match fr.ob b with|some (.v e sz' n us)=>_|_=>_) _ _ _ at hr;split at hr
   .rename_i e' sz' n' cs0 hob;split at hr
    .split at hr
     .rename_i hb;simp only[QA]at hb;have e2:=Qp hb.1.2;have hr:x=⟨none,[(b,.v e' sz n' _)],_,_⟩:=hr;subst hr;simp only[SA,and_true]at e;subst e;show bI (some (.v e' sz n' _))=bI (fr.ob b);rw[hob,<-e2];rfl
     .exact hr.elim
    .exact hr.elim
   .obtain⟨m',vs,os,fo1,hr⟩:=HP hr;split at hr
    .change R1 J fr (match fr.ob b with|some (.w e sz' n ds)=>_|_=>_) _ _ _ at hr;split at hr
     .rename_i e' sz' n' ds hob;split at hr
      .rename_i hb;simp only[QA]at hb;have e2:=Qp hb.1;split at hr
       .exact hr.elim
       .have hr:x=⟨none,os++[(b,.w e' sz n' _)],_,_⟩:=hr;subst hr;obtain rfl:=Gp e;show bI (some (.w e' sz n' _))=bI (fr.ob b);rw[hob,<-e2];rfl
      .exact hr.elim
     .exact hr.elim
    .exact hr.elim
  .rename_i b i;obtain⟨m',vs,os,fo1,hr⟩:=HP hr;split at hr
   .change R1 J fr (match os.any λp=>Qy p.1 b with|true=>_|false=>_) _ _ _ at hr;split at hr
    .exact hr.elim
    .split at hr
     .rename_i hob;obtain⟨_,hr⟩:=hr;have hr:x=⟨none,os++[(b,.a _ _ _)],_,_⟩:=hr;subst hr;obtain rfl:=Gp e;show bI _=bI (fr.ob b);rw[hob];rfl
     .rename_i hob;split at hr
      .obtain⟨_,hr⟩:=hr;have hr:x=⟨none,os++[(b,.a _ _ _)],_,_⟩:=hr;subst hr;obtain rfl:=Gp e;show bI _=bI (fr.ob b);rw[hob];rfl
      .exact hr.elim
     .exact hr.elim
   .exact hr.elim
  .exact hr.elim
theorem FT{fr:Fr}{o:Oper}{x:Out}(hr:R1 J fr (nI P tb aQ ops gs o) [] [] x)(hk:uj o x.ob=true)(k:Nat):bI ((ix o fr x).ob k)=bI (fr.ob k):=by
 unfold uj at hk;split at hk
 .rename_i t a b p ho hob;have one:∀{fs fo:List Nat} {y:Out},R1 J fr (opP P tb aQ o) fs fo y->y.ob=[p]->bI (some p.2)=bI (fr.ob p.1):=fun{fs fo y} h e=>by
   unfold opP at h;rw[ho]at h;split at h
   .obtain⟨s,fs1,h⟩:=Pt h;obtain⟨v,fs2,h⟩:=Pt h;exact MW h e
   .exact h.elim
  have two:∀{fs fo:List Nat},R1 J fr (zF gs o (opH P tb aQ o)) fs fo x->bI (some p.2)=bI (fr.ob p.1):=fun{fs fo} h=>by
   have h:=H2 h;unfold opH at h;split at h
   .obtain⟨o1,h1,h2⟩:=dX h;have h2:x=⟨_,o1.ob,o1.fs,o1.fo⟩:=h2
    grind
   .exact one h hob
  have all:bI (some p.2)=bI (fr.ob p.1):=by
   unfold nI at hr;split at hr
   .exact two hr
   .split at hr
    .exact hr.elim
    .rename_i t ht;change R1 J fr (match fr.sl t with|.c .z=>_|s=>_) _ _ _ at hr;split at hr
     .have hr:x=⟨_,[],_,_⟩:=hr
      grind
     .obtain⟨z,e,hr⟩:=uA hr;rcases hr with⟨_,hr⟩|⟨_,hr⟩
      .exact two hr
      .have hr:x=⟨_,[],_,_⟩:=hr
       grind
  obtain⟨b,y⟩:=p;exact Oo hob all k
 .cases hk
theorem yN{fr:Fr}{o:Oper}{x:Out}{fo:List Nat}(hr:R1 J fr (nI P tb aQ ops gs o) [] [] x)(h:∀q∈(p7 o x).wo,2*q ∉ fo/\((p7 o x).kp=false->2*q+1 ∉ fo))(b:Nat)(hb:2*b+1∈fo):bI ((ix o fr x).ob b)=bI (fr.ob b):=by
 cases hk:uj o x.ob with
 |true=>exact FT hr hk b
 |false=>rw[Br λhm=>(h b hm).2 hk hb]
theorem Ho{i j:Nat}{o o':Oper}{x y:Out}{l:List (Nat×Oper×Out)}{fr fr':Fr}(h:FF (p7 o x) (p7 o' y))(hc:qo J P tb n aQ ops gs ((i,o,x)::(j,o',y)::l) fr fr'):qo J P tb n aQ ops gs ((j,o',y)::(i,o,x)::l) fr fr':=by
 obtain⟨⟨h1,h2,h3⟩,⟨h4,h5,h6⟩,h7⟩:=hc;have hy:R1 J fr (nI P tb aQ ops gs o') [] [] y:=by
  refine cX h5 (λt ht=>?_) (λb hb=>?_) λb hb=>?_
  .exact(H5 λe=>h.d1 t e ht).symm
  .exact(Br λhm=>(h.o1 b hm).1 hb).symm
  .exact(yN h2 (λq hq=>⟨(h.o1 q hq).1,(h.o1 q hq).2.1⟩) b hb).symm
 refine⟨⟨h4,hy,h6⟩,⟨h1,cX h2 (λt ht=>?_) (λb hb=>?_) λb hb=>?_,h3⟩,?_⟩
 .exact H5 λe=>h.d2 t e ht
 .exact Br λhm=>(h.o2 b hm).1 hb
 .exact yN hy h.o2 b hb
 .rw[<-J9 h];exact h7
theorem vg{j:Nat}{o':Oper}{y:Out}{B:List (Nat×Oper×Out)}{fr':Fr}:∀{A:List (Nat×Oper×Out)} {fr:Fr},(∀z,z∈A->FF (p7 z.2.1 z.2.2) (p7 o' y))->qo J P tb n aQ ops gs (A++(j,o',y)::B) fr fr'->qo J P tb n aQ ops gs ((j,o',y)::(A++B)) fr fr'
 |[],_,_,h=>h
 |(i,o,x)::_,_,ha,⟨h1,h2⟩=>Ho (ha (i,o,x) (Qt ..)) ⟨h1,vg (λz hz=>ha z (Qx _ hz)) h2⟩
def gB(acc:Array Nat)(o:Oper):Nat:=o.after.foldl (λs e=>if SV .any e then s ||| 2 ^ e.on ||| acc.getD e.on 0 else s) 0
def CL(acc:Array Nat)(l:List Oper):Array Nat:=l.foldl (λacc o=>acc.push (gB acc o)) acc
theorem A2(ops:Array Oper):TG ops=CL #[] ops.toList:=by unfold TG CL;rw[<-Xz];rfl
theorem yP:∀(l:List Oper) (acc:Array Nat) (k:Nat),k<acc.size->(CL acc l).getD k 0=acc.getD k 0
 |[],_,_,_=>rfl
 |o::l,acc,k,hk=>by
  show(CL (acc.push (gB acc o)) l).getD k 0=_;rw[yP l _ k Qc];simp only[Sm]
  grind
theorem gB_spec{acc:Array Nat}{o:Oper}{i:Nat}(h:(gB acc o).testBit i=true):∃e∈o.after,SV .any e=true/\(e.on=i\/(acc.getD e.on 0).testBit i=true):=by
 have key:∀(l:List Edge) (s:Nat),(l.foldl (λs e=>if SV .any e then s ||| 2 ^ e.on ||| acc.getD e.on 0 else s) s).testBit i=true->s.testBit i=true\/∃e∈l,SV .any e=true/\(e.on=i\/(acc.getD e.on 0).testBit i=true):=by
  intro l;induction l with
  |nil=>intro s h;exact .inl h
  |cons e l ih =>
   intro s h;rw[List.foldl_cons]at h;rcases ih _ h with h|⟨e',h1,h2⟩
   .split at h
    .rename_i hb;rw[Yz,Yz,Nat.testBit_two_pow]at h;simp only[VS,decide_eq_true_eq]at h;rcases h with(h|h)|h
     .exact .inl h
     .exact .inr ⟨e,Qt ..,hb,.inl h⟩
     .exact .inr ⟨e,Qt ..,hb,.inr h⟩
    .exact .inl h
   .exact .inr ⟨e',Qx _ h1,h2⟩
 unfold gB at h;rw[<-Xz]at h
 grind
theorem Bg:∀(l:List Oper) (acc:Array Nat) (j i:Nat),acc.size<=j->((CL acc l).getD j 0).testBit i=true ->
  ∃o e,l[j-acc.size]?=some o/\e∈o.after/\SV .any e=true/\(e.on=i\/e.on<j/\((CL acc l).getD e.on 0).testBit i=true)
 |[],acc,j,i,hj,h=>by
  rw[show CL acc []=acc from rfl]at h
  grind
 |o::l,acc,j,i,hj,h=>by
  have e0:CL acc (o::l)=CL (acc.push (gB acc o)) l:=rfl;rw[e0]at h ⊢;rcases U0 acc.size j with h1|h1
  .obtain⟨o',e,h2,h3⟩:=Bg l (acc.push (gB acc o)) j i Qc h
   grind
  .have:j=acc.size:=Q0;subst this;rw[yP l _ _ Q2]at h;simp only[Sm,Array.getElem?_push,if_true,TC]at h;obtain⟨e,h2,h3,h4⟩:=gB_spec h;refine⟨o,e,Q2,h2,h3,h4.imp id λh5=>?_⟩;have hlt:e.on<acc.size:=by
    grind
   refine⟨hlt,?_⟩;rw[yP l _ _ Qc];simp only[Sm]at h5 ⊢
   grind
end
section
variable {P:QE} {tb:Tb} {n:Nat} {w0:QL} {Γ0:List As} {ρ0:Nat->Option Qw} {M0:Mem} {fr fr':Fr} {a:Act} {w:QL} {ops:Array Oper} {gs:List Nat} {Q:Exit->Act->QL->Prop}
theorem yy:∀{l:List Oper} {q:Nat},oV l q=true->∀k o,l[k]?=some o->∀e∈o.after,SV .any e=true->e.on<q+k
 |[],_,_,_,_,h,_,_,_=>by simp at h
 |o::l,q,hb,0,o',h,e,he,hbn=>by simp only[Ru,Qq]at h;subst h;unfold oV at hb;simp only[QA,T0]at hb;have:=hb.1 e (Array.mem_toList_iff.2 he);simp_all
 |_::l,q,hb,k+1,o',h,e,he,hbn=>by unfold oV at hb;simp only[QA]at hb;have:=yy hb.2 k o' (by grind) e he hbn;omega
theorem AY{bf:Array Nat}:∀{l:List (Nat×Fp)},Mm bf l=true->l.Pairwise λx y=>AV y.2 x.2=true->Nat.testBit (bf.getD x.1 0) y.1=true
 |[],_=>SK
 |(j,x)::l,h=>by
  unfold Mm at h;simp only[QA,T0,VS,TB]at h;refine YX (λy hy hc=>?_) (AY h.2)
  grind
structure Left'(ops:Array Oper)(listed:Array Bool)(rem:List (Nat×Oper×Out)):Prop where
 size:listed.size=ops.size
 idx:∀i,i<ops.size->(listed.getD i true=false↔i∈rem.map QZ)
 lt:∀i∈rem.map QZ,i<ops.size
 nd:(rem.map QZ).Nodup
 inc:(rem.map QZ).Pairwise (·<·)
 pw:rem.Pairwise λx y=>AV (p7 x.2.1 x.2.2) (p7 y.2.1 y.2.2)=true->((TG ops).getD y.1 0).testBit x.1=true
theorem qE{listed:Array Bool}{i:Nat}(h:i∈Te .any ops listed):i<ops.size/\listed.getD i true=false/\∀o,ops[i]?=some o->∀e∈o.after,SV .any e=true->listed.getD e.on false=true:=by
 unfold Te at h;obtain⟨h1,h2⟩:=Rq.1 h;simp only[QA,TB]at h2;refine⟨Ut.1 h1,h2.1,λo ho e he hb=>?_⟩;have h3:=h2.2;rw[ho]at h3;simp only[TK,TC,U1]at h3
 grind
def Ql(ops:Array Oper)(listed:Array Bool):Prop:=∀j,j<ops.size->listed.getD j false=true->∀i,((TG ops).getD j 0).testBit i=true->listed.getD i false=true
theorem zR{listed:Array Bool}(hd:Ql ops listed){j:Nat}(hj:j∈Te .any ops listed):∀i,((TG ops).getD j 0).testBit i=true->listed.getD i false=true:=λi hi=>by
 obtain⟨h1,_,h3⟩:=qE hj;rw[A2]at hi;obtain⟨o,e,h4,h5,h6,h7⟩:=Bg ops.toList #[] j i Q2 hi;have ho:ops[j]?=some o:=by grind
 have hl:=h3 o ho e h5 h6;rcases h7 with rfl|⟨h7,h8⟩
 .exact hl
 .exact hd e.on Q0 hl i (by rw[A2];exact h8)
theorem Az{l:Array Bool}{i:Nat}(h:i<l.size):l.getD i false=true↔¬l.getD i true=false:=by
 grind
theorem eW{l:Array Bool}{i:Nat}(h:l.getD i false=true):i<l.size:=by
 grind
theorem EG{l:Array Bool}{i j:Nat}{d:Bool}(hi:i<l.size):(l.setIfInBounds i true).getD j d=if j=i then true else l.getD j d:=by
 simp only[Sm]
 grind
theorem P5(hT:lS P tb)(hed:oV ops.toList 0=true){aQ:Nat}(hQ:∀a w,aX n w0 Γ0 ρ0 M0 fr' a w->Q .normal a w):∀(fuel:Nat) (listed:Array Bool) (rem:List (Nat×Oper×Out)) (fr:Fr) (a:Act) (w:QL),rem.length=fuel->Left' ops listed rem->Ql ops listed->aX n w0 Γ0 ρ0 M0 fr a w->fr.aQ=aQ ->
  qo (la P) P tb n aQ ops gs rem fr fr'->wpAny P .any ops Q fuel listed a w
 |0,listed,rem,fr,a,w,hl,hL,hD,hdone,hb,hc=>by obtain rfl:rem=[]:=List.eq_nil_of_length_eq_zero hl;have e:fr=fr':=hc;subst e;refine⟨List.eq_nil_iff_forall_not_mem.2 λi hi=>?_,hQ _ _ hdone⟩;obtain⟨h1,h2,_⟩:=qE hi;have:=(hL.idx i h1).1 h2;simp at this
 |fuel+1,listed,rem,fr,a,w,hl,hL,hD,hdone,hb,hc=>by
  refine⟨λhnil=>?_,λi hi=>?_⟩
  .exfalso
   match rem,hl with
   |(j,o,y)::rest,_ =>
    obtain⟨⟨h1,_⟩,_⟩:=hc;have hj:j<ops.size:=hL.lt j (Qt ..);have hmem:j∈Te .any ops listed:=by
     unfold Te;refine Rq.2 ⟨Ut.2 hj,?_⟩;rw[h1];simp only[QA,TB,TK,TC,U1,VS];refine⟨(hL.idx j hj).2 (Qt ..),λe he=>?_⟩;cases hbn:SV .any e with
     |false=>exact .inl rfl
     |true =>
      right;have hlt:=yy hed j o (by grind) e he hbn;rw[Rn]at hlt;rw[Az (by rw[hL.size];omega)];intro hf;have hm:=(hL.idx e.on Q0).1 hf;have hp:=hL.inc;rw[QT]at hp hm;rcases Qz.1 hm with e1|hm
      .omega
      .have:=(List.pairwise_cons.1 hp).1 _ hm;omega
    rw[hnil]at hmem;cases hmem
  .obtain⟨hi1,hi2,hi3⟩:=qE hi;have hmem:=(hL.idx i hi1).1 hi2;obtain⟨p,hp,hpi⟩:=QP.1 hmem;obtain⟨A,B,rfl⟩:=List.append_of_mem hp;obtain⟨i',o,y⟩:=p;have hpi:i'=i:=hpi;subst hpi;have hunl:∀z∈A,listed.getD z.1 true=false:=λz hz=>by have hm:z.1∈(A++(i',o,y)::B).map QZ:=Rl (List.mem_append_left _ hz);exact(hL.idx z.1 (hL.lt z.1 hm)).2 hm
   have hap:∀z,z∈A->FF (p7 z.2.1 z.2.2) (p7 o y):=λz hz=>by
    refine Fi ?_;cases hcl:AV (p7 z.2.1 z.2.2) (p7 o y) with
    |false=>rfl
    |true=>exfalso;have h1:=(List.pairwise_append.1 hL.pw).2.2 z hz (i',o,y) (Qt ..) hcl;have h2:=zR hD hi _ h1;have h3:=hunl z hz;rw[Az (eW h2)]at h2;exact h2 h3
   obtain⟨⟨h1,h2,h3⟩,h4⟩:=vg hap hc;have hrun:=NK (Q:=Q) hT hdone (by rw[hb];exact h2) h3;have hL':Left' ops (listed.setIfInBounds i' true) (A++B):=by
    have hsub:List.Sublist (A++B) (A++(i',o,y)::B):=U8 (List.Sublist.refl _) (List.sublist_cons_self _ _);have hnd:=hL.nd;rw[Rb,QT]at hnd;refine⟨by simp[hL.size],λq hq=>?_,λq hq=>hL.lt q ((hsub.map _).subset hq),(hsub.map _).nodup hL.nd,hL.inc.sublist (hsub.map _),hL.pw.sublist hsub⟩;rw[EG (by grind)];by_cases e:q=i'
    .grind
    .rw[J1 e,hL.idx q hq]
     grind
   have hD':Ql ops (listed.setIfInBounds i' true):=λj hj hjl q hq=>by
    rw[EG (by grind)]at hjl ⊢;by_cases e:q=i'
    .rw[J2 e]
    .rw[J1 e];by_cases e2:j=i'
     .subst e2;exact zR hD hi q hq
     .rw[J1 e2]at hjl;exact hD j hj hjl q hq
   have hlen:(A++B).length=fuel:=by grind
   have next:∀a w,aX n w0 Γ0 ρ0 M0 (ix o fr y) a w->wpAny P .any ops Q fuel (listed.setIfInBounds i' true) a w:=λa w hd =>
    P5 hT hed hQ fuel _ (A++B) (ix o fr y) a w hlen hL' hD' hd (by rw[qv];exact hb) h4
   unfold wpOp;simp only[h1];split
   .rename_i hw;rw[J2 hw]at hrun;exact .inl (VK next hrun)
   .rename_i hw;rw[J1 hw]at hrun;exact next _ _ hrun
theorem I8(hT:lS P tb){aQ:Nat}(hQ:∀a w,aX n w0 Γ0 ρ0 M0 fr' a w->Q .normal a w):∀(c:List (Nat×Oper×Out)) (fr:Fr) (a:Act) (w:QL),aX n w0 Γ0 ρ0 M0 fr a w->fr.aQ=aQ->qo (la P) P tb n aQ ops gs c fr fr'->wpList P ops Q (c.map λz=>z.2.1) a w
 |[],fr,a,w,hd,_,hc=>by have e:fr=fr':=hc;subst e;exact hQ _ _ hd
 |(i,o,y)::c,fr,a,w,hd,hb,⟨⟨_,h2,h3⟩,h4⟩=>by
  have hrun:=NK (Q:=Q) hT hd (by rw[hb];exact h2) h3;have next:∀a w,aX n w0 Γ0 ρ0 M0 (ix o fr y) a w->wpList P ops Q (c.map λz=>z.2.1) a w:=λa w hd=>I8 hT hQ c _ a w hd (by rw[qv];exact hb) h4
  rw[QT];unfold wpList;split
  .rename_i hw;rw[J2 hw]at hrun;exact .inl (VK next hrun)
  .rename_i hw;rw[J1 hw]at hrun;exact next _ _ hrun
theorem Kx(hT:lS P tb)(hm:P.follows .mixedOrders=true){id:Nat}{iM:Bool}{K:Fr->Prop}(hd:aX n w0 Γ0 ρ0 M0 fr a w)(h:xc (la P) P tb n ops gs ops.toList 0 fr [] λfr l=>(match iM with
  |true=>(match Mm (TG ops) l && oV ops.toList 0 with
   |true=>K fr.ou
   |false=>False)
  |false=>K fr.ou)) (hQ:∀fr',K fr'->∀a w,aX n w0 Γ0 ρ0 M0 fr' a w->Q .normal a w):(Code.region id ops iM).wp P Q a w:=by
 obtain⟨c,fr',h1,h2,h3⟩:=xb ops.toList 0 fr [] rfl (λj=>by simp) h;have hlen:c.length=ops.size:=by have:=J4 YY h3;simpa using this
 have hmap:c.map (λz=>z.2.1)=ops.toList:=by
  have key:∀(c:List (Nat×Oper×Out)) (i:Nat) (fr:Fr),qo (la P) P tb n fr'.aQ ops gs c fr fr'->c.map QZ=YW i c.length->∀k z,c[k]?=some z->ops[i+k]?=some z.2.1:=by
   intro c;induction c with
   |nil=>intro i fr _ _ k z hz;simp at hz
   |cons x c ih =>
    intro i fr hc hr k z hz;obtain⟨q,o,y⟩:=x;simp only[QT,QG,X7,SA]at hr;cases k with
    |zero=>simp only[Ru,Qq]at hz;subst hz;rw[Nat.add_zero,<-hr.1];exact hc.1.1
    |succ k=>have:=ih (i+1) _ hc.2 hr.2 k z (by grind);rwa [show i+(k+1)=i+1+k by omega]
  have hbase:∀(c:List (Nat×Oper×Out)) (fr:Fr) (b:Nat),qo (la P) P tb n b ops gs c fr fr'->fr.aQ=fr'.aQ:=by
   intro c;induction c with
   |nil=>intro fr b hc;rw[show fr=fr' from hc]
   |cons x c ih=>intro fr b hc;have:=ih _ _ hc.2;rwa [qv]at this
  have h1':=h1;rw[hbase c fr _ h1]at h1';apply List.ext_getElem?
  grind
 cases iM with
 |false=>refine wp_region_list ?_;rw[<-hmap];exact I8 hT (λa w hd=>hQ _ h2 a w hd.ou) c fr a w hd rfl h1
 |true =>
  simp only at h2;split at h2
  .rename_i hb;simp only[QA]at hb;refine wp_region_any hm ?_;have hidx:c.map QZ=UQ ops.size:=by rw[h3,List.range_eq_range'];simp
   refine P5 hT hb.2 (λa w hd=>hQ _ h2 a w hd.ou) ops.size _ c fr a _ hlen ⟨Q2,λi hi=>?_,λi hi=>?_,?_,?_,?_⟩ (λj hj hjl=>?_) (hd.iM _) rfl h1
   .rw[hidx];simp[Sm,hi]
   .rw[hidx]at hi;exact Ut.1 hi
   .rw[hidx];exact List.nodup_range
   .rw[hidx];exact List.pairwise_lt_range
   .have:=AY hb.1;rw[QF,List.pairwise_reverse,List.pairwise_map]at this;exact this
   .simp[Sm,hj]at hjl
  .exact h2.elim
end
theorem ya{x:D}{K:Int->Prop}(h:aw x K):∃z,K z/\∀K':Int->Prop,K' z->aw x K':=by obtain⟨z,rfl,h⟩:=oL h;exact⟨z,h,λK' h'=>h'⟩
theorem PZ{x:D}{K:Bool->Prop}(h:oX x K):∃z,K z/\∀K':Bool->Prop,K' z->oX x K':=by obtain⟨z,rfl,h⟩:=kW h;exact⟨z,h,λK' h'=>h'⟩
theorem og{sz:Nat}{x:D}{K:Nat->List D->Prop}(h:aH sz x K):∃n cs,K n cs/\∀K':Nat->List D->Prop,K' n cs->aH sz x K':=by obtain⟨n,cs,rfl,h2⟩:=iz h;refine⟨n,cs,h2,λK' h'=>?_⟩;unfold aH;simp_all
theorem nY{ds:List D}{j:Nat}{s:jt}{K:C->Nat->Prop}(h:unB bc ds j s K):∃c q,K c q/\∀K':C->Nat->Prop,K' c q->unB bc ds j s K':=by
 cases s with
 |i=>obtain⟨z,h1,h2⟩:=ya h;exact⟨_,_,h1,λK' h'=>h2 (λz=>K' (.d (.v (.int .i64 z))) (j+1)) h'⟩
 |bo=>obtain⟨z,h1,h2⟩:=PZ h;exact⟨_,_,h1,λK' h'=>h2 (λz=>K' (.d (.v (.bool z))) (j+1)) h'⟩
 |d=>exact⟨_,_,h,λK' h'=>h'⟩
 |p b o=>exact⟨_,_,h,λK' h'=>h'⟩
 |w b=>exact⟨_,_,h,λK' h'=>h'⟩
 |m b=>exact⟨_,_,h,λK' h'=>h'⟩
 |f g cs=>exact⟨_,_,h,λK' h'=>h'⟩
 |y b sz=>obtain⟨l,h1,h2⟩:=ya (K:=λl=>aw (cell ds (j+1)) λn=>K (.y b 0 sz l.toNat n.toNat) (j+2)) h;obtain⟨n,h3,h4⟩:=ya h1;exact⟨_,_,h3,λK' h'=>h2 (λl=>aw (cell ds (j+1)) λn=>K' (.y b 0 sz l.toNat n.toNat) (j+2)) (h4 (λn=>K' (.y b 0 sz l.toNat n.toNat) (j+2)) h')⟩
theorem HZ:∀{ss:List jt} {ds:List D} {j:Nat} {K:List C->Nat->Prop},Bp bc ds j ss K->∃c q,K c q/\∀K':List C->Nat->Prop,K' c q->Bp bc ds j ss K'
 |[],ds,j,K,h=>⟨[],j,h,λK' h'=>h'⟩
 |s::ss,ds,j,K,h=>by obtain⟨c,q,h,h1⟩:=nY h;obtain⟨cs,q',h,h2⟩:=HZ (ss:=ss) h;exact⟨c::cs,q',h,λK' h'=>h1 _ (h2 (λcs j=>K' (c::cs) j) h')⟩
theorem MJ{ds:List D}{j:Nat}{s:jt}{K:C->Nat->Prop}(h:unC bc ds j s K):∃c q,K c q/\∀K':C->Nat->Prop,K' c q->unC bc ds j s K':=by
 cases s with
 |f g cs=>obtain⟨c,q,h,h1⟩:=HZ (ss:=cs) (ds:=ds) (j:=j) (K:=λcs j=>K (.f g cs) j) h;exact⟨.f g c,q,h,λK' h'=>h1 (λcs j=>K' (.f g cs) j) h'⟩
 |i=>exact nY (s:=.i) (ds:=ds) (j:=j) (K:=K) h
 |bo=>exact nY (s:=.bo) (ds:=ds) (j:=j) (K:=K) h
 |d=>exact nY (s:=.d) (ds:=ds) (j:=j) (K:=K) h
 |p b o=>exact nY (s:=.p b o) (ds:=ds) (j:=j) (K:=K) h
 |w b=>exact nY (s:=.w b) (ds:=ds) (j:=j) (K:=K) h
 |m b=>exact nY (s:=.m b) (ds:=ds) (j:=j) (K:=K) h
 |y b sz=>exact nY (s:=.y b sz) (ds:=ds) (j:=j) (K:=K) h
theorem vJ:∀{ss:List jt} {ds:List D} {j:Nat} {K:List C->Nat->Prop},wH bc ds j ss K->∃c q,K c q/\∀K':List C->Nat->Prop,K' c q->wH bc ds j ss K'
 |[],ds,j,K,h=>⟨[],j,h,λK' h'=>h'⟩
 |s::ss,ds,j,K,h=>by obtain⟨c,q,h,h1⟩:=MJ h;obtain⟨cs,q',h,h2⟩:=vJ (ss:=ss) h;exact⟨c::cs,q',h,λK' h'=>h1 _ (h2 (λcs j=>K' (c::cs) j) h')⟩
theorem unS_un{ds:List D}{s:lL}{K:S->Prop}(h:Mv bc ds s K):∃c,K c/\∀K':S->Prop,K' c->Mv bc ds s K':=by
 cases s with
 |c s=>obtain⟨c,q,h,h1⟩:=MJ (s:=s) (ds:=ds) (j:=0) (K:=λc _=>K (.c c)) h;exact⟨.c c,h,λK' h'=>h1 (λc _=>K' (.c c)) h'⟩
 |a n=>exact⟨_,h,λK' h'=>h'⟩
 |g cs=>obtain⟨c,q,h,h1⟩:=vJ (ss:=cs) (ds:=ds) (j:=0) (K:=λc _=>K (.g c)) h;exact⟨.g c,h,λK' h'=>h1 (λc _=>K' (.g c)) h'⟩
 |t l=>exact⟨su,h,λK' h'=>h'⟩
theorem HR{r:bR}:∀{l:List (Nat×lL)} {j:Nat} {f:Nat->S} {K:(Nat->S)->Nat->Prop},qq bc r j l f K->∃c q,K c q/\∀K':(Nat->S)->Nat->Prop,K' c q->qq bc r j l f K'
 |[],j,f,K,h=>⟨f,j,h,λK' h'=>h'⟩
 |(t,s)::l,j,f,K,h=>by obtain⟨c,h,h1⟩:=unS_un h;obtain⟨g,q,h,h2⟩:=HR (l:=l) h;exact⟨g,q,h,λK' h'=>h1 _ (h2 K' h')⟩
theorem unO_un{ds:List D}{s:lV}{K:O->Prop}(h:unO bc ds s K):∃c,K c/\∀K':O->Prop,K' c->unO bc ds s K':=by
 cases s with
 |b e cs=>obtain⟨c,q,h,h1⟩:=vJ (ss:=cs) (ds:=ds) (j:=0) (K:=λc _=>K (.b e c)) h;exact⟨.b e c,h,λK' h'=>h1 (λc _=>K' (.b e c)) h'⟩
 |a e n=>exact⟨_,h,λK' h'=>h'⟩
 |v e sz n cs=>obtain⟨c,q,h,h1⟩:=vJ (ss:=cs) (ds:=ds) (j:=0) (K:=λc _=>K (.v e sz n c)) h;exact⟨.v e sz n c,h,λK' h'=>h1 (λc _=>K' (.v e sz n c)) h'⟩
 |w e sz=>obtain⟨n,cs,h,h1⟩:=og h;exact⟨_,h,λK' h'=>h1 (λn cs=>K' (.w e sz n cs)) h'⟩
 |m t ag vs=>obtain⟨n,cs,h,h1⟩:=og h;exact⟨_,h,λK' h'=>h1 (λn cs=>K' (.m t ag vs n cs)) h'⟩
 |ms t ag vs=>obtain⟨n,cs,h,h1⟩:=og h;exact⟨_,h,λK' h'=>h1 (λn cs=>K' (.ms t ag vs n cs)) h'⟩
 |x e sz=>obtain⟨n,cs,h,h1⟩:=og h;exact⟨_,h,λK' h'=>h1 (λn cs=>K' (.x e sz n cs)) h'⟩
 |it ag vs=>obtain⟨n,cs,h,h1⟩:=og h;exact⟨_,h,λK' h'=>h1 (λn cs=>K' (.it ag vs none n cs)) h'⟩
theorem HV{r:bR}:∀{l:List (Nat×lV)} {j:Nat} {f:Ob} {K:Ob->Prop},vu bc r j l f K->∃c,K c/\∀K':Ob->Prop,K' c->vu bc r j l f K'
 |[],j,f,K,h=>⟨f,h,λK' h'=>h'⟩
 |(t,s)::l,j,f,K,h=>by obtain⟨c,h,h1⟩:=unO_un h;obtain⟨g,h,h2⟩:=HV (l:=l) h;exact⟨g,h,λK' h'=>h1 _ (h2 K' h')⟩
theorem j9{sh:Sh}{r:bR}{K:Fr->Prop}(h:ct bc sh r K):∃fr,K fr/\∀K':Fr->Prop,K' fr->ct bc sh r K':=by obtain⟨sl,j,h,h1⟩:=HR h;obtain⟨ob,h,h2⟩:=HV (K:=λob=>K ⟨sl,ob,rh sh.ob⟩) h;exact⟨_,h,λK' h'=>h1 _ (h2 (λob=>K' ⟨sl,ob,rh sh.ob⟩) h')⟩
section
variable {w0:QL} {Γ0:List As} {fr:Fr} {ρ:Nat->Option Qw} {M:Mem} {lst:List (Nat×As)} {val:Nat->Option Qw} {w:QL}
theorem Iz(h:Rel w0 Γ0 fr ρ M lst val w){mp0:List (Nat×Tg)}(hi:zo mp0){sh:Sh}{r r':bR}{k1 k2:Pk}(h1:ow fr.ob fr.sl ⟨mp0,[]⟩ sh.sl=some (r,k1))(h2:oz fr.ob k1 sh.ob=some (r',k2))(hb:(oG sh.ob k2.mp && ri k2.mp k2.fix && nh sh.ob)=true)
  {K:Fr->Prop} (hu:ct bc sh (r++r') K):∃fr' M' lst',Sub M M'/\K fr'/\Rel w0 Γ0 fr' (eh k2.mp ρ) M' lst' val w/\(∀p∈lst',p.1∈sh.ob.map QZ)/\∀i x,bH mp0 i=some x->bH k2.mp i=some x:=by
 simp only[QA]at hb;obtain⟨a1,a2⟩:=qG h1;obtain⟨a3,a4⟩:=qH h2;obtain⟨M1,lst1,hM,hR,hrows⟩:=wZ h (ob:=fr.ob) (λ_ _ h=>h) k2.fix;have hsl:∀t,fr.sl t=su\/∃v,val t=some v/\SR M1 ρ (fr.sl t) v:=λt=>by have:=hR.sl t;rwa [rv]at this
 obtain⟨fr',lst',rem,k3,_,k4,k5,_⟩:=tu (w0:=w0) (Γ0:=Γ0) (ob:=fr.ob) (mp:=k2.mp) (λi b x hi hx=>hR.ob b x (by
  rw[iw _ λp hp e=>?_]
  .exact hx
  .have:=F4 hp;rw[e]at this
   exact yM hb.1.2 this hi)) hR.nd hR.gg hR.st hR.gr hrows hsl (qm.mono a3.mp a3.fix a2) a4 hb.1.1 hb.2 (a3.inj (a1.inj hi)) hu
 exact⟨fr',M1,lst',hM,k3,k4.nQ,k5,λi x hx=>a3.mp _ _ (a1.mp _ _ hx)⟩
end
def Keeps(kp:List Nat)(ρ ρ':Nat->Option Qw):Prop:=∀i∈kp,∀u,ρ i=some u->ρ' i=some u
theorem Jd{mp:List (Nat×Tg)}:∀{kp:List Nat},Ew mp kp=true->∀i∈kp,bH mp i=some (.ob i)
 |j::kp,h,i,hi=>by
  unfold Ew at h;simp only[QA]at h;rcases Qz.1 hi with rfl|hi
  .have h1:=h.1;split at h1
   all_goals simp_all
  .exact Jd h.2 i hi
def vC(n:Nat)(w0:QL)(Γ0:List As)(kp:List Nat)(ρ:Nat->Option Qw)(M:Mem)(fr:Fr)(a:Act)(w:QL):Prop :=
 a.tmps.size=n/\a.defers=[]/\∃ρ' M' lst',Sub M M'/\Keeps kp ρ ρ'/\Rel w0 Γ0 fr ρ' M' lst' (tv a) w
structure KOk(nt:Nat)(w0:QL)(Γ0:List As)(kp:List Nat)(ρ:Nat->Option Qw)(M:Mem)(K:Kt)(Q:Exit->Act->QL->Prop):Prop where
 n:∀fr a w,K.n fr->vC nt w0 Γ0 kp ρ M fr a w->Q .normal a w
 x:∀i fr a w,K.x i fr->vC nt w0 Γ0 kp ρ M fr a w->Q (.exit i) a w
 r:∀fr a w,K.r fr->vC nt w0 Γ0 kp ρ M fr a w->Q .ret a w
section
variable {P:QE} {tb:Tb} {n:Nat} {H:p9} {kp:List Nat} {w0:QL} {Γ0:List As} {ρ:Nat->Option Qw} {M:Mem}
theorem xz{sh:Sh}{fr:Fr}{k:bR->Prop}{a:Act}{w:QL}(hh:vC n w0 Γ0 kp ρ M fr a w)(h:nH kp sh fr k):∃st,k st/\∀K:Fr->Prop,ct bc sh st K->∃fr',K fr'/\vC n w0 Γ0 kp ρ M fr' a w:=by
 obtain⟨h1,h2,ρ',M',lst',hM,hk,hR⟩:=hh;unfold nH at h;split at h
 .rename_i st x hp;split at h
  .rename_i hkb;unfold Gn at hp;split at hp
   .rename_i r k1 e1;split at hp
    .rename_i r' k2 e2;split at hp
     .rename_i hb;simp only[Qq,QR]at hp;obtain⟨rfl,rfl⟩:=hp;refine⟨_,h,λK hu=>?_⟩;obtain⟨fr',M2,lst2,g1,g2,g3,_,_⟩:=Iz hR zo.nil e1 e2 hb hu;refine⟨fr',g2,h1,h2,_,M2,lst2,Sub.trans hM g1,λi hi u hu=>?_,g3⟩;rw[cG (Jd hkb i hi)];exact hk i hi u hu
     .cases hp
    .cases hp
   .cases hp
  .exact h.elim
 .exact h.elim
theorem lC(hT:lS P tb)(hm:P.follows .mixedOrders=true):∀(c:Code) {fr:Fr} {K:Kt} {Q:Exit->Act->QL->Prop} {a:Act} {w:QL},ex (la P) P tb n H kp c fr K->KOk n w0 Γ0 kp ρ M K Q->vC n w0 Γ0 kp ρ M fr a w->c.wp P Q a w
 |.skip,fr,K,Q,a,w,h,hK,hh=>wp_skip (hK.n _ _ _ h hh)
 |.label l,fr,K,Q,a,w,h,hK,hh=>wp_label (hK.n _ _ _ h hh)
 |.exit i,fr,K,Q,a,w,h,hK,hh=>wp_exit (hK.x _ _ _ _ h hh)
 |.ret,fr,K,Q,a,w,h,hK,hh=>wp_ret (hK.r _ _ _ h hh)
 |.region id ops iM,fr,K,Q,a,w,h,hK,hh=>by
  obtain⟨h1,h2,ρ',M',lst',hM,hk,hR⟩:=hh;have fin:∀fr',K.n fr'->∀a w,aX n w0 Γ0 ρ' M' fr' a w->Q .normal a w:=λfr' hn a w hd=>by obtain⟨d1,d2,ρ2,M2,lst2,d3,d4,d5⟩:=hd;exact hK.n _ _ _ hn ⟨d1,d2,ρ2,M2,lst2,Sub.trans hM d3,λi hi u hu=>d4 _ _ (hk i hi u hu),d5⟩
  have hD:aX n w0 Γ0 ρ' M' fr a w:=⟨h1,h2,ρ',M',lst',Sub.refl _,Ext.refl _,hR⟩;unfold ex at h;split at h
  .rename_i d t e hb;exact next_ok hD hb h fin
  .exact Kx (ρ0:=ρ') (M0:=M') (w0:=w0) (Γ0:=Γ0) (K:=K.n) hT hm hD h fin
 |.seq x y,fr,K,Q,a,w,h,hK,hh=>by
  refine wp_seq ?_;unfold ex at h;split at h
  .exact lC hT hm x (Q:=Exit.then (y.wp P Q) Q) h ⟨λfr a w hn hh=>lC hT hm y hn hK hh,hK.x,hK.r⟩ hh
  .rename_i sh hsh;obtain⟨I,h1,h2⟩:=h;refine lC hT hm x (Q:=Exit.then (y.wp P Q) Q) h1 ⟨λfr a w hn hh=>?_,hK.x,hK.r⟩ hh;obtain⟨st,hI,hu⟩:=xz hh hn;obtain⟨fr',hx,hh'⟩:=hu _ (h2 st hI);exact lC hT hm y hx hK hh'
 |.cond t x y,fr,K,Q,a,w,h,hK,hh=>by
  unfold ex evB at h;split at h
  .rename_i t;split at h
   .rename_i v hv;obtain⟨z,rfl,h⟩:=kW h;obtain⟨h1,h2,ρ',M',lst',hM,hk,hR⟩:=id hh;have hz:a.eval (.tmp t)=.bool z:=by
     rcases hR.sl t with e|⟨u,e1,e2⟩
     .rw[hv]at e;cases e
     .rw[hv]at e2;have e3:u=.bool z:=by have:Rd M' (.v (.bool z)) u:=e2;simp only[Rd]at this;exact this.1
      subst e3;simp only[Act.eval];have e1':a.tmps[t]?=some (.bool z):=e1;simp_all
    refine wp_cond_split hz (λe=>?_) λe=>?_
    .subst e;exact lC hT hm x h hK hh
    .subst e;exact lC hT hm y h hK hh
   .exact h.elim
  .split at h
   .rename_i z;have hz:a.eval (.const (.bool z))=.bool z:=rfl;refine wp_cond_split hz (λe=>?_) λe=>?_
    .subst e;exact lC hT hm x h hK hh
    .subst e;exact lC hT hm y h hK hh
   .exact h.elim
  .exact h.elim
 |.block i c,fr,K,Q,a,w,h,hK,hh=>by
  refine wp_block (lC hT hm c (Q:=YM i Q) h ⟨hK.n,λj fr a w hj hh=>?_,hK.r⟩ hh);simp only[YM];split
  .rename_i e;subst e;simp only[cW]at hj;exact hK.n _ _ _ hj hh
  .rename_i e;simp only[gS e]at hj;exact hK.x _ _ _ _ hj hh
 |.scope c,fr,K,Q,a,w,h,hK,hh=>wp_scope_straight (lC hT hm c (Q:=Exit.noGoto Q) h ⟨hK.n,hK.x,hK.r⟩ hh)
 |.loop c,fr,K,Q,a,w,h,hK,hh=>by
  unfold ex at h;split at h
  .rename_i k _;refine wp_loop_ghost (λm a w=>∃fr,unr (λfr next=>ex (la P) P tb n H kp c fr ⟨next,K.x,K.r⟩) m fr/\vC n w0 Γ0 kp ρ M fr a w) k ⟨fr,h,hh⟩ ?_;rintro m a w ⟨fr,hu,hh⟩;cases m with
   |zero=>exact hu.elim
   |succ m=>exact lC hT hm c (Q:=Exit.then (λa' w'=>∃n',n'<m+1/\∃fr,unr (λfr next=>ex (la P) P tb n H kp c fr ⟨next,K.x,K.r⟩) n' fr/\vC n w0 Γ0 kp ρ M fr a' w') Q) hu ⟨λfr' a w hn hh=>⟨m,VM m,fr',hn,hh⟩,hK.x,hK.r⟩ hh
  split at h
  .exact h.elim
  .rename_i sh hsh;obtain⟨st,⟨I,⟨m,hI⟩,hround⟩,hu⟩:=xz hh h;refine wp_loop_ghost (λm a w=>∃st,I m st/\∀K:Fr->Prop,ct bc sh st K->∃fr',K fr'/\vC n w0 Γ0 kp ρ M fr' a w) m ⟨st,hI,hu⟩ ?_;rintro m a w ⟨st,hI,hu⟩;obtain⟨fr',hx,hh'⟩:=hu _ (hround m st hI);refine lC hT hm c (Q:=Exit.then (λa' w'=>∃n',n'<m/\∃st,I n' st/\∀K:Fr->Prop,ct bc sh st K->∃fr',K fr'/\vC n w0 Γ0 kp ρ M fr' a' w') Q) hx ⟨λfr a w hn hh=>?_,hK.x,hK.r⟩ hh';obtain⟨st',⟨m',hlt,hI'⟩,hu'⟩:=xz hh hn;exact⟨m',hlt,st',hI',hu'⟩
 |.goto _,_,_,_,_,_,h,_,_=>by first|exact h.elim|(unfold ex at h;exact h.elim)
end
theorem pf(jl:List (Nat×lV)):∀(l:List (Nat×lV)) (i:Nat) (x:Tg),bH (start l jl) i=some x->x=.ob i
 |[],i,x,h=>by simp[start,bH]at h
 |(j,o)::l,i,x,h=>by
  unfold start at h;split at h
  .rw[dO]at h;by_cases e:i=j
   .grind
   .rw[J1 e]at h;exact pf jl l i x h
  .exact pf jl l i x h
theorem FU(l jl:List (Nat×lV)):zo (start l jl):=λi j b h1 h2=>by
 have e1:=pf jl l i _ h1;have e2:=pf jl l j _ h2
 grind
theorem zH{jl:List (Nat×lV)}:∀{l:List (Nat×lV)} {i:Nat},i∈l.map QZ->i∈jl.map QZ->bH (start l jl) i=some (.ob i)/\i∈Ev (start l jl)
 |(j,o)::l,i,h1,h2=>by
  have ha:(jl.any λx=>Qy x.1 i)=true:=by simp_all
  unfold start;by_cases e:i=j
  .subst e;rw[ha];simp only;refine⟨by rw[dO,J2 rfl],?_⟩;unfold Ev
   grind
  .have h1:=(Qz.1 (show i∈j::l.map QZ from h1)).resolve_left e;obtain⟨g1,g2⟩:=zH h1 h2;split
   .refine⟨by rw[dO,J1 e];exact g1,?_⟩;unfold Ev at *
    grind
   .exact⟨g1,g2⟩
 |[],i,h1,_=>by simp at h1
def one(a:Act):WO->Sem Qw
 |.tmp t=>pure (a.tmps.getD t undef)
 |.cell x t=>do W7 t (<-asAddr (a.tmps.getD x undef))
theorem Oz{P:QE}{w:QL}{ρ:QM->Qw}{o:Oper}{x:QM}{t:TypeId}{p:Addr}{v:Qw}(ho:o.op=.load t x)(hx:ρ x=.pointer (some p))(h:(Rc ρ o).run P w=.ok (.value v) w):(W7 t p).run P w=.ok v w:=by
 have h':((W7 t p).run P w).andThen (λv w'=>XO (Y1 v) w')=.ok (.value v) w:=by
  have e:(Rc ρ o).run P w=((W7 t p).run P w).andThen (λv w'=>XO (Y1 v) w'):=by unfold Rc;rw[ho];simp[hx,Instr.loadAt,Instr.sureAddr]
  rw[<-e];exact h
 cases hl:(W7 t p).run P w with
 |ok v' w'=>rw[hl]at h';simp only[TR,Result.ok.injEq,Next.value.injEq]at h';rw[h'.1,h'.2]
 |halt _ _=>rw[hl]at h';simp[TR]at h'
def Mu(ρ:Nat->Option Qw)(M:Mem)(xs:List S)(vs:List Qw):Prop:=∀i,xs.getD i su=su\/∃v,vs[i]?=some v/\SR M ρ (xs.getD i su) v
theorem Mu.cons{ρ:Nat->Option Qw}{M:Mem}{x:S}{v:Qw}{xs:List S}{vs:List Qw}(h:x=su\/SR M ρ x v)(k:Mu ρ M xs vs):Mu ρ M (x::xs) (v::vs):=λi=>by
 cases i with
 |zero =>
  rcases h with h|h
  .exact .inl h
  .exact .inr ⟨v,rfl,h⟩
 |succ i=>exact k i
section
variable {P:QE} {w0:QL} {Γ0:List As} {fr:Fr} {ρ:Nat->Option Qw} {M:Mem} {lst:List (Nat×As)} {a:Act} {w:QL} {n:Nat}
theorem PJ(h1:a.tmps.size=n)(h2:a.defers=[])(hR:Rel w0 Γ0 fr ρ M lst (tv a) w){t ty:Nat}{s:S}(h:PL P fr t ty=some s):∃v,(one a (.cell t ty)).run P w=.ok v w/\SR M ρ s v:=by
 unfold PL at h;split at h
 .rename_i b off hsl;have hs:∃v,tv a t=some v/\SR M ρ (.c (.p b off)) v:=by
   rcases hR.sl t with e|⟨v,e1,e2⟩
   .rw[hsl]at e;cases e
   all_goals grind
  obtain⟨v,hv,k,hk,rfl⟩:=hs;have hev:eo a (.tmp t) (.pointer (some (fT (some ⟨k,0,none⟩) off))):=hv;have hb:∀x,fr.ob b=some x->OR M ρ lst b x:=λx hx=>hR.ob b x hx
  have fin : ∀ v, Yq P w0 (Lf a) M (lst.map Prod.snd ++ Γ0) ⟨none, .load ty (.tmp t), 0, "", #[], none⟩ v → (one a (.cell t ty)).run P w = .ok v w := fun v hy => by
   have hx:=hy n a w (uH h1 h2) hR.st;have he:a.eval (.tmp t)=.pointer (some (fT (some ⟨k,0,none⟩) off)):=eo.eval (x:=.tmp t) hev;have hl:=Oz (x:=.tmp t) rfl he hx;have he':a.tmps.getD t undef=.pointer (some (fT (some ⟨k,0,none⟩) off)):=by have:a.tmps[t]?=some (.pointer (some (fT (some ⟨k,0,none⟩) off))):=hv;simp_all
   show(do W7 ty (<-asAddr (a.tmps.getD t undef)):Sem Qw).run P w=_;rw[he'];simp[asAddr,hl]
  split at h
  .rename_i e m ds hob;obtain⟨k',us,h3,h4,h5,h6⟩:=hb _ hob;rw[hk]at h3;obtain rfl:k=k':=by grind
   have hm:As.own k e us∈lst.map Ra++Γ0:=List.mem_append_left _ (Rl h4);obtain⟨v,h7,h8⟩:=jE (P:=P) (w0:=w0) (ρ:=ρ) (q:=0) (ad:=some ⟨k,0,none⟩) (by rw[Rn];exact hev.bm) h5 h6 (Γ:=lst.map Ra++Γ0) (λi u hi w hw=>by rw[Rn];exact hw.mj hm hi) h;exact⟨v,fin v h7,h8⟩
  .rename_i e cs hob;obtain⟨k',us,h3,h4,h5⟩:=hb _ hob;rw[hk]at h3;obtain rfl:k=k':=by grind
   have hm:As.own k e us∈lst.map Ra++Γ0:=List.mem_append_left _ (Rl h4);obtain⟨v,h7,h8⟩:=xX (P:=P) (w0:=w0) (ρ:=ρ) (ad:=some ⟨k,0,none⟩) (Γ:=lst.map Ra++Γ0) hev.bm h5 (λi u hi w hw=>hw.mj hm hi) h;exact⟨v,fin v h7,h8⟩
  .cases h
 .cases h
theorem vQ(h1:a.tmps.size=n)(h2:a.defers=[])(hR:Rel w0 Γ0 fr ρ M lst (tv a) w):∀{l:List WO} {xs:List S},BB P fr l=some xs->∃vs,(l.mapM (one a)).run P w=.ok vs w/\vs.length=l.length/\Mu ρ M xs vs
 |[],xs,h=>by simp only[BB,Qq]at h;subst h;exact⟨[],Q2,rfl,λi=>.inl rfl⟩
 |.tmp t::l,xs,h=>by
  unfold BB at h;split at h
  .rename_i ys hys;simp only[Qq]at h;subst h;obtain⟨vs,g1,g2,g3⟩:=vQ h1 h2 hR hys;refine⟨a.tmps.getD t undef::vs,by simp[List.mapM_cons,one,g1],by simp[g2],g3.cons ?_⟩;rcases hR.sl t with e|⟨v,e1,e2⟩
   .exact .inl e
   .have:a.tmps[t]?=some v:=e1;simp_all
  .cases h
 |.cell t ty::l,xs,h=>by
  unfold BB at h;split at h
  .rename_i s hs;split at h
   .rename_i ys hys;simp only[Qq]at h;subst h;obtain⟨vs,g1,g2,g3⟩:=vQ h1 h2 hR hys;obtain⟨v,g4,g5⟩:=PJ h1 h2 hR hs;exact⟨v::vs,by simp_all,by simp[g2],g3.cons (.inr g5)⟩
   .cases h
  .cases h
end
def Gq(xs:List Qw):Qw:=if h:xs.toArray.size=1 then xs.toArray[0] else .tuple xs.toArray
theorem xg{P:QE}{fn:Func}{a:Act}{w:QL}{vs:List Qw}(h:(fn.results.toList.mapM (one a)).run P w=.ok vs w):(results fn a.tmps).run P w=XO (Gq vs) w:=by
 have e:results fn a.tmps=(do
   let vs <-fn.results.mapM (one a)
   pure (if h:vs.size=1 then vs[0] else .tuple vs)):=by
  unfold results
  congr 1
 rw[e,Array.mapM_eq_mapM_toList,SD,Sem.run_map,h];rfl
theorem uU:∀(l:List S) (j t:Nat),cB j l (j+t)=l.getD t su
 |[],j,t=>by simp[cB]
 |s::l,j,0=>by simp[cB]
 |s::l,j,t+1=>by have e:Qy (j+(t+1)) j=false:=gS Q0;simp only[cB,e];rw[show j+(t+1)=j+1+t by omega,uU l];simp
theorem Gm{s:bA}{fr:Fr}{st:bR}(h:BN s fr=some st):∃r k1 r' k2,ow fr.ob fr.sl ⟨start s.ins.ob s.jl,[]⟩ (jB s).sl=some (r,k1)/\oz fr.ob k1 (jB s).ob=some (r',k2)/\(oG (jB s).ob k2.mp && ri k2.mp k2.fix && nh (jB s).ob)=true/\st=r++r':=by
 unfold BN at h;split at h
 .rename_i r k1 h1;split at h
  .rename_i r' k2 h2;split at h
   .rename_i hb;simp only[Qq]at h;exact⟨r,k1,r',k2,h1,h2,hb,h.symm⟩
   .cases h
  .cases h
 .cases h
theorem fnB_ok{s:bA}{fn:Func}(h:fnB s fn=true)(xs:List Qw)(hx:xs.length=fn.results.toList.length):CM s.out (Gq xs) xs:=by
 unfold fnB at h;simp only[QA]at h;have h2:=h.2;unfold CM;have one:xs.length=1->xs=[Gq xs]:=λh1=>by
  match xs,h1 with
  |[x],_=>rfl
 cases ho:s.out with
 |t l =>
  rw[ho]at h2;simp only[QA,TB]at h2;have e1:=Qp h2.1;have e2:=Nat.ne_of_beq_eq_false h2.2;have:xs.toArray.size≠1:=by simp;omega
  exact⟨by unfold Gq;rw[dif_neg this],Q0⟩
 |c _=>rw[ho]at h2;exact one (by rw[hx];exact Qp h2)
 |a _=>rw[ho]at h2;exact one (by rw[hx];exact Qp h2)
 |g _=>rw[ho]at h2;exact one (by rw[hx];exact Qp h2)
theorem Pg{P:QE}{tb:Tb}(hT:lS P tb)(hm:P.follows .mixedOrders=true){H:p9}{s:bA}{a r:bR}(h:fnX (la P) P tb H s a λst=>st=r)(hu:ct bc (jB s) r λ_=>True):Is P s a r:=by
 unfold fnX at h;split at h
 .exact h.elim
 .rename_i fn hf;split at h
  .exact h.elim
  .rename_i c hb;split at h
   .rename_i hfb;obtain⟨fr,hx,hun⟩:=j9 h;refine hun _ ?_;intro w0 Γ0 ρ M lst vs w hlen hρ hR;refine calls_of_wp hf hb ?_;have hlt:SI vs.length fn.ntmps=true:=by
     unfold fnB at hfb
     grind
    obtain⟨s1,s2,s3⟩:=tG fn.ntmps vs hlt;refine lC hT hm c (n:=fn.ntmps) (w0:=w0) (Γ0:=Γ0) (ρ:=ρ) (M:=M) hx ?_ ⟨s1,s2,ρ,M,lst,Sub.refl M,λ_ _ _ h=>h,⟨λt=>?_,hR.ob,hR.vP,hR.gg,hR.nd,hR.st,hR.gr⟩⟩
    .have fin:∀(fr:Fr) (a:Act) (w:QL),F7 P s fn.results.toList fr (λst=>st=r)->vC fn.ntmps w0 Γ0 (Ev (start s.ins.ob s.jl)) ρ M fr a w->a.defers=[]/\∃v,(results fn a.tmps).run P w=.ok v w/\Left w0 Γ0 ρ M s r (.returned v) w:=by
      intro fr a w hk ⟨h1,h2,ρ',M',lst',hM,hkp,hR'⟩;unfold F7 at hk;split at hk
      .rename_i xs hxs;split at hk
       .rename_i st hst;subst hk;obtain⟨vs',r1,r2,r3⟩:=vQ h1 h2 hR' hxs;obtain⟨q,k1,q',k2,p1,p2,p3,rfl⟩:=Gm hst;refine⟨h2,_,xg r1,?_⟩
        have hR2:Rel w0 Γ0 ⟨cB 0 xs,fr.ob,fr.aQ⟩ ρ' M' lst' (gF vs') w:=⟨λt=>by
         have:=uU xs 0 t;rw[Rn]at this;show cB 0 xs t=su\/∃v,_/\SR M' ρ' (cB 0 xs t) v;rw[this]
         exact r3 t,hR'.ob,hR'.vP,hR'.gg,hR'.nd,hR'.st,hR'.gr⟩
        obtain⟨fr2,_,hun2⟩:=j9 hu;obtain⟨fr',M2,lst2,g1,g2,g3,g4,g5⟩:=Iz hR2 (FU _ _) p1 p2 p3 (hun2 (λx=>x=fr2) rfl);refine⟨_,_,eh k2.mp ρ',M2,lst2,fr',rfl,fnB_ok hfb _ r2,Sub.trans hM g1,λi u hu hi=>?_,λi hi=>?_,g4,by grind,g3⟩
        .obtain⟨y1,y2⟩:=zH (hρ i (by rw[hu];rfl)) hi;rw[cG (g5 _ _ y1)];exact hkp i y2 u hu
        .simp only[QA]at p3;unfold eh at hi;split at hi
         .rename_i hg;exact fk p3.1.1 hg
         .rename_i hg;exact fk p3.1.1 hg
         .cases hi
       .exact hk.elim
      .exact hk.elim
     exact⟨λfr a w hk hh=>fin fr a w hk hh,λ_ _ _ _ h=>h.elim,λfr a w hk hh=>fin fr a w hk hh⟩
    .rcases hR.sl t with e|⟨v,e1,e2⟩
     .exact .inl e
     .refine .inr ⟨v,s3 t v ?_,e2⟩;have:=mT vs 0 t;rw[Rn]at this;rw[this];exact e1
   .exact h.elim
abbrev vI(z:Int):D:=.v (.int .i64 z)
abbrev vB(b:Bool):D:=.v (.bool b)
abbrev vS(s:ByteArray):D:=.v (.string s)
section
variable {x:List D} {l:bR} {d:D} {ds:List D} {n sz:Nat}
theorem wW{cs:List D}{k:Nat->List D->Prop}:aH sz (.sl n sz cs) k=k n cs:=by
 show(match Qy sz sz with
  |true=>k n cs
  |false=>False)=_
 rw[cW]
theorem ifK_d{p:Prop}[Decidable p]{k h:Prop}:aB (decide p) k h=((p->k)/\(¬p->h)):=by by_cases hp:p <;> simp[aB,hp]
theorem aa{Is:Cx}{s:bA}{a r:bR}{k:bR->Prop}(h:Is.is s a r)(hk:k r):aA Is s a k:=⟨r,h,hk⟩
theorem hY{X:(bR->Prop)->Prop}{k:bR->Prop}(h:X k):jn X k:=⟨k,h,λ_ h=>h⟩
theorem dG{σ:Type}{B:(bR->Prop)->bR->Prop}{s0:bR}(st:σ->bR)(μ:σ->Nat)(I:σ->Prop)(x0:σ)(h0:I x0)(e0:s0=st x0)(h:∀(x:σ) (next:bR->Prop),I x->(∀y,μ y<μ x->I y->next (st y))->B next (st x)):Lp B s0:=by
 refine⟨λm s=>∃y,μ y=m/\I y/\s=st y,⟨_,x0,rfl,h0,e0⟩,?_⟩
 grind
theorem aZ{B:(bR->Prop)->bR->Prop}{s0:bR}(n:Nat)(st:Nat->bR)(I:Nat->Prop)(h0:I 0)(e0:s0=st 0)(h:∀(i:Nat) (next:bR->Prop),i<=n->I i->(i<n->I (i+1)->next (st (i+1)))->B next (st i)):Lp B s0:=by
 refine dG st (λi=>n-i) (λi=>i<=n/\I i) 0 ⟨Rr _,h0⟩ e0 λi next hi hn=>?_
 grind
end
theorem dE{α:Type}{enc:α->List D}{sz:Nat}(he:∀x,(enc x).length=sz)(xs:List α){k:Nat}(hk:k<xs.length):el (xs.flatMap enc) sz k=enc xs[k] :=
 AF he xs k _ (QQ hk)
theorem ux{α:Type}{f:α->D}(xs:List α){k:Nat}(hk:k<xs.length):el (xs.map f) 1 k=[f xs[k]]:=by unfold el;rw[Nat.mul_one,S1 (by grind),List.take_succ_cons,Sz];simp
theorem yv(xs:List Ty){k:Nat}(hk:k<xs.length):el (xs.flatMap Ty.enc) 5 k=xs[k].enc:=dE Ty.aP xs hk
theorem yx(xs:List Ex){k:Nat}(hk:k<xs.length):el (xs.flatMap Ex.enc) 15 k=xs[k].enc:=dE Ex.aP xs hk
theorem cell_Ex(e:Ex)(i:Nat):cell e.enc i=cell [ai e.id.aD,ai e.id.seq,ai e.id.index,ai e.kind,ai e.n,ai e.ref.aD,ai e.ref.seq,ai e.ref.index,ai e.ty.kind,ai e.ty.df.aD,ai e.ty.df.seq,ai e.ty.df.index,
  .sl e.ty.kids.length 5 (e.ty.kids.flatMap Ty.enc),.sl e.kids.length 15 (e.kids.flatMap Ex.enc),.sl e.aK.length 1 (e.aK.map bM)] i:=by rw[Ex.aF]
theorem cell_Ty(t:Ty)(i:Nat):cell t.enc i=cell [ai t.kind,ai t.df.aD,ai t.df.seq,ai t.df.index,.sl t.kids.length 5 (t.kids.flatMap Ty.enc)] i:=by rw[Ty.aF]
def cls(X:List D):Nat->Nat->List D->List D
 |_,0,l=>l
 |j,n+1,l=>cell X j::cls X (j+1) n l
def Cz(X:bR)(j:Nat):D:=cell (ab X j) 0
def eT(c:List D)(s:Nat)(z:Int):List D:=el c s (Qr z)
def iK(X:bR)(j:Nat)(k:Int->Prop):Prop:=aw (cell (ab X j) 0) k
def bK(X:bR)(j:Nat)(k:Bool->Prop):Prop:=oX (cell (ab X j) 0) k
def sK(s:Nat)(X:bR)(j:Nat)(k:Nat->List D->Prop):Prop:=aH s (cell (ab X j) 0) k
def kI(z:Int)(n:Nat)(k:Prop):Prop:=az (0<=z/\z<(n:Int)) k
def lK(z:Int)(n:Nat)(a b:Prop):Prop:=aB (decide (z<(n:Int))) a b
def oK(z:Int)(k:Prop):Prop:=az (bt (z+1)) k
def tK(Y:List D)(k:Int->Int->Int->Prop):Prop:=aw (cell Y 0) λa=>aw (cell Y 1) λb=>aw (cell Y 2) λc=>k a b c
theorem aj:(∀(X:List D) (j:Nat) (l:List D),cls X j 0 l=l)/\(∀(X:List D) (j n:Nat) (l:List D),cls X j (n+1) l=cell X j::cls X (j+1) n l)/\(∀(x:List D) (l:bR),ab (x::l) 0=x)/\(∀(x:List D) (l:bR) (n:Nat),ab (x::l) (n+1)=ab l n)/\(∀(d:D) (ds:List D),cell (d::ds) 0=d)/\(∀(d:D) (ds:List D) (n:Nat),cell (d::ds) (n+1)=cell ds n) /\
  (∀(z:Int) (k:Int->Prop),aw (.v (.int .i64 z)) k=k z)/\(∀(z:Bool) (k:Bool->Prop),oX (.v (.bool z)) k=k z)/\(∀(z:ByteArray) (k:ByteArray->Prop),rA (.v (.string z)) k=k z)/\(∀(sz n:Nat) (cs:List D) (k:Nat->List D->Prop),aH sz (.sl n sz cs) k=k n cs) /\
  (∀p k:Prop,az p k=(p/\k))/\(∀k h:Prop,aB true k h=k)/\(∀k h:Prop,aB false k h=h)/\(∀(p:Prop) (_:Decidable p) (k h:Prop),aB (decide p) k h=((p->k)/\(¬p->h))) /\
  (∀(e:Ex) (i:Nat),cell e.enc i=cell [ai e.id.aD,ai e.id.seq,ai e.id.index,ai e.kind,ai e.n,ai e.ref.aD,ai e.ref.seq,ai e.ref.index,ai e.ty.kind,ai e.ty.df.aD,ai e.ty.df.seq,ai e.ty.df.index,
   .sl e.ty.kids.length 5 (e.ty.kids.flatMap Ty.enc),.sl e.kids.length 15 (e.kids.flatMap Ex.enc),.sl e.aK.length 1 (e.aK.map bM)] i) /\
  (∀(t:Ty) (i:Nat),cell t.enc i=cell [ai t.kind,ai t.df.aD,ai t.df.seq,ai t.df.index,.sl t.kids.length 5 (t.kids.flatMap Ty.enc)] i)/\(∀n:Nat,((n:Int)).toNat=n) /\
  (∀(X:bR) (j:Nat),Cz X j=cell (ab X j) 0)/\(∀(c:List D) (s:Nat) (z:Int),eT c s z=el c s (Qr z))/\(∀(X:bR) (j:Nat) (k:Int->Prop),iK X j k=aw (cell (ab X j) 0) k)/\(∀(X:bR) (j:Nat) (k:Bool->Prop),bK X j k=oX (cell (ab X j) 0) k)/\(∀(s:Nat) (X:bR) (j:Nat) (k:Nat->List D->Prop),sK s X j k=aH s (cell (ab X j) 0) k) /\
  (∀(z:Int) (n:Nat) (k:Prop),kI z n k=((0<=z/\z<(n:Int))/\k))/\(∀(z:Int) (n:Nat) (a b:Prop),lK z n a b=((z<(n:Int)->a)/\(¬z<(n:Int)->b)))/\(∀(z:Int) (k:Prop),oK z k=(bt (z+1)/\k))/\(∀(Y:List D) (k:Int->Int->Int->Prop),tK Y k=aw (cell Y 0) λa=>aw (cell Y 1) λb=>aw (cell Y 2) λc=>k a b c) :=
 ⟨λ_ _ _=>rfl,λ_ _ _ _=>rfl,λ_ _=>rfl,λ_ _ _=>rfl,λ_ _=>rfl,λ_ _ _=>rfl,λ_ _=>rfl,λ_ _=>rfl,λ_ _=>rfl,λ_ _ _ _=>wW,λ_ _=>rfl,λ_ _=>rfl,λ_ _=>rfl,λ_ _ _ _=>ifK_d,cell_Ex,cell_Ty,Rx,λ_ _=>rfl,λ_ _ _=>rfl,λ_ _ _=>rfl,λ_ _ _=>rfl,λ_ _ _ _=>rfl,λ_ _ _=>rfl,λ_ _ _ _=>ifK_d,λ_ _=>rfl,λ_ _=>rfl⟩
abbrev ρ0:Nat->Option Qw:=λ_=>none
def Plain(M:Mem)(sl:Nat->S)(vs:List Qw):Prop:=∀t,sl t=su\/∃v,vs[t]?=some v/\SR M ρ0 (sl t) v
theorem uk{P:QE}{s:bA}{a:bR}{e sz n:Nat}{ds:List D}(hi:s.ins.ob=[])(ho:s.out=.c (.w 0))(hoo:s.jl=[(0,.w e sz)])(hn:n<=lim)(h:ct bc s.ins a λfr=>∀(w0:QL) (M:Mem) (Γ:List As) (vs:List Qw),vs.length=s.ins.sl.length->Plain M fr.sl vs->yT M ->
  jk P w0 M Γ s.f vs.toArray (λu M' Γ'=>∃ad c us,u=.slice ad n c/\Sub M M'/\Γ'=.acc (.slice ad n c) e sz n us::Γ/\bz M' ds us/\us.length=n*sz)):Is P s a [[.sl n sz ds]]:=by
 obtain⟨fr,h1,h2⟩:=j9 h;refine h2 _ ?_;intro w0 Γ0 ρ M lst vs w hlen hρ hR;have hr:ρ=ρ0:=by
  funext i
  cases hc:ρ i with
  |none=>rfl
  |some v=>have:=hρ i (by rw[hc];rfl);rw[hi]at this;cases this
 subst hr;have hl:lst=[]:=by
  cases lst with
  |nil=>rfl
  |cons p l=>have:=hR.gg p (Qt ..);cases this
 subst hl;have hs:=h1 w0 M Γ0 vs hlen hR.sl hR.gr w hR.st;refine hs.mono ?_;rintro e' w' ⟨v,M',Γ',he,⟨ad,c,us,rfl,hM,rfl,hrd,vz⟩,hst⟩;have hh:∀i (u:Qw),(λi=>if i=0 then some (Value.slice ad n c) else none) i=some u->i=0:=λi u hu=>by
  grind
 refine⟨_,[.slice ad n c],λi=>if i=0 then some (.slice ad n c) else none,M',[(0,.acc (.slice ad n c) e sz n us)],⟨λi=>match Qy i 0 with
  |true=>.c (.w 0)
  |false=>su,λk=>match Qy k 0 with
  |true=>some (.w e sz n ds)
  |false=>none,1⟩,he,?_,hM,(λi u hu=>by cases hu),(λi hi=>?_),(λp hp=>?_),?_,⟨λt=>?_,λb o hb=>?_,λb v hv=>?_,λp hp=>?_,Q2,hst,hR.gr.mono hM⟩⟩
 .rw[ho];rfl
 .obtain⟨u,hu⟩:=Option.isSome_iff_exists.1 hi;rw[hh i u hu,hoo];exact Qt ..
 .rw[QI.1 hp,hoo];exact Qt ..
 .unfold jB;rw[ho,hoo]
  have key:aH sz (.sl n sz ds) (λm cs=>(⟨λi=>match Qy i 0 with
   |true=>.c (.w 0)
   |false=>su,CJ 0 (.w e sz m cs) (λ_=>none),1⟩:Fr)=⟨λi=>match Qy i 0 with
   |true=>.c (.w 0)
   |false=>su,λk=>match Qy k 0 with
   |true=>some (.w e sz n ds)
   |false=>none,1⟩):=by
   rw[wW];rfl
  exact key
 .cases t with
  |zero=>exact .inr ⟨_,rfl,Q2,ad,n,c,rfl⟩
  |succ t=>exact .inl rfl
 .cases b with
  |zero=>obtain rfl:O.w e sz n ds=o:=Sw hb;exact⟨ad,c,us,Q2,Qt ..,hrd,vz,hn⟩
  |succ b=>cases hb
 .left;rw[hh b v hv];exact VM 0
 .rw[QI.1 hp];rfl
theorem D0{P:QE}{s:bA}{fr:Fr}{b:Bool}{w0:QL}{M:Mem}{vs:List Qw}(hM:yT M)(h:HJ P s fr [[.v (.bool b)]])(hlen:vs.length=s.ins.sl.length)(hp:Plain M fr.sl vs)(hob:∀b,fr.ob b=none)
  (ho:s.out=.c .bo) (hoo:s.jl=[]):jk P w0 M [] s.f vs.toArray (λu M' Γ'=>u=.bool b/\M'=M/\Γ'=[]):=by
 intro w hst;refine(h w0 [] ρ0 M [] vs w hlen (λi hi=>by cases hi) ⟨hp,(λb o ho=>by grind),(λb v hv=>by cases hv),(λp hp=>by cases hp),Ur,hst,hM⟩).mono ?_;rintro e w' ⟨v,us,ρ',M',lst',fr',rfl,h1,h2,h3,h4,h5,h6,h7⟩;have hst':St w0 M' (lst'.map Ra++[]) w':=h7.st;unfold jB at h6;rw[hoo,ho]at h6;rw[ho]at h1;obtain rfl:us=[v]:=h1;have hv:v=.bool b:=by
  subst h6;obtain h8|⟨u,h8,h9⟩:=h7.sl 0
  .cases h8
  .obtain rfl:v=u:=Sw h8;have h10:Rd M' (.v (.bool b)) v:=h9;unfold Rd at h10;exact h10.1
 exact⟨v,M,[],rfl,⟨hv,rfl,rfl⟩,hst'.os,hst'.tape,hst'.output,hst'.size,(λb o hb=>hst'.mem b o (h2 b o hb)),(λx hx=>by cases hx),Ur⟩
section
variable {J:Cx} {P:QE} {tb:Tb} {n:Nat} {H:p9} {kp:List Nat}
theorem slcK_at{sz m:Nat}{cs:List D}{k:Nat->List D->Prop}(h:k m cs):aH sz (.sl m sz cs) k:=by rw[wW];exact h
theorem gG{fr:Fr}:∀(p:bj) {fs fo:List Nat} {K:Option S->List (Nat×O)->List Nat->List Nat->Prop},run J fr p fs fo K->∃v ob fs' fo',K v ob fs' fo'/\∀K':Option S->List (Nat×O)->List Nat->List Nat->Prop,K' v ob fs' fo'->run J fr p fs fo K'
 |.no,_,_,_,h=>h.elim
 |.ret v ob,fs,fo,_,h=>⟨v,ob,fs,fo,h,λ_ h=>h⟩
 |.Kz t k,_,_,_,h=>gG (k (fr.sl t)) h
 |.lU b k,_,_,_,h=>gG (k (fr.ob b)) h
 |.KA b k,_,_,_,h=>gG (k (bI (fr.ob b))) h
 |.i _ k,_,_,_,h=>by obtain⟨z,rfl,h2⟩:=oL h;obtain⟨v,ob,f1,f2,h3,h4⟩:=gG (k z) h2;exact⟨v,ob,f1,f2,h3,λK' hk=>h4 K' hk⟩
 |.bo _ k,_,_,_,h=>by obtain⟨z,rfl,h2⟩:=kW h;obtain⟨v,ob,f1,f2,h3,h4⟩:=gG (k z) h2;exact⟨v,ob,f1,f2,h3,λK' hk=>h4 K' hk⟩
 |.st _ k,_,_,_,h=>by obtain⟨z,rfl,h2⟩:=C5 h;obtain⟨v,ob,f1,f2,h3,h4⟩:=gG (k z) h2;exact⟨v,ob,f1,f2,h3,λK' hk=>h4 K' hk⟩
 |.ik kd _ k,_,_,_,h=>by obtain⟨z,rfl,h2⟩:=Jg h;obtain⟨v,ob,f1,f2,h3,h4⟩:=gG (k z) h2;exact⟨v,ob,f1,f2,h3,λK' hk=>⟨rfl,h4 K' hk⟩⟩
 |.FJ kd cs k,_,_,_,h=>by
  obtain⟨z,hz,h2⟩:=JG h;obtain⟨v,ob,f1,f2,h3,h4⟩:=gG (k z) h2;refine⟨v,ob,f1,f2,h3,λK' hk=>?_⟩;show PT kd cs _;unfold PT
  grind
 |.sc sz _ k,_,_,_,h=>by obtain⟨m,cs,rfl,h2⟩:=iz h;obtain⟨v,ob,f1,f2,h3,h4⟩:=gG (k m cs) h2;exact⟨v,ob,f1,f2,h3,λK' hk=>slcK_at (h4 K' hk)⟩
 |.we true p _,_,_,_,h=>gG p h
 |.we false _ q,_,_,_,h=>gG q h
 |.ck _ _ k,_,_,_,h=>by obtain⟨v,ob,f1,f2,h3,h4⟩:=gG k h.2;exact⟨v,ob,f1,f2,h3,λK' hk=>⟨h.1,h4 K' hk⟩⟩
 |.inl _ _ _ _ k,_,_,_,⟨u,os,h1,h2⟩=>by obtain⟨v,ob,f1,f2,h3,h4⟩:=gG (k u os) h2;exact⟨v,ob,f1,f2,h3,λK' hk=>⟨u,os,h1,h4 K' hk⟩⟩
 |.ca _ _ k,_,_,_,⟨r,h1,h2⟩=>by obtain⟨v,ob,f1,f2,h3,h4⟩:=gG (k r) h2;exact⟨v,ob,f1,f2,h3,λK' hk=>⟨r,h1,h4 K' hk⟩⟩
theorem It{ops:Array Oper}{gs:List Nat}:∀(l:List Oper) (i:Nat) (fr:Fr) (fps:List (Nat×Fp)) {K:Fr->List (Nat×Fp)->Prop},xc J P tb n ops gs l i fr fps K->∃fr' l',K fr' l'/\∀K':Fr->List (Nat×Fp)->Prop,K' fr' l'->xc J P tb n ops gs l i fr fps K'
 |[],_,fr,fps,_,h=>⟨fr,fps,h,λ_ h=>h⟩
 |o::os,i,fr,fps,K,h=>by
  unfold xc at h;obtain⟨v,ob,f1,f2,h3,h4⟩:=gG _ h;cases hf:Cg n o.dst v with
  |false=>rw[hf]at h3;exact h3.elim
  |true=>rw[hf]at h3;simp only[pH,kR]at h3;obtain⟨fr',l',h5,h6⟩:=It os _ _ _ h3;refine⟨fr',l',h5,λK' hk=>?_⟩;unfold xc;refine h4 _ ?_;rw[hf];simp only[pH,kR];exact h6 K' hk
inductive Ot where
 |n (fr:Fr)
 |x (i:Nat) (fr:Fr)
 |r (fr:Fr)
def Kt.at(K:Kt):Ot->Prop
 |.n fr=>K.n fr
 |.x i fr=>K.x i fr
 |.r fr=>K.r fr
theorem xy{sh:Sh}{fr:Fr}{k:bR->Prop}(h:nH kp sh fr k):∃st,k st/\∀k':bR->Prop,k' st->nH kp sh fr k':=by
 unfold nH at h;split at h
 .rename_i st x hp;split at h
  .rename_i hb;refine⟨st,h,λk' hk=>?_⟩;unfold nH
   grind
  .exact h.elim
 .exact h.elim
theorem MI{B:Fr->Kt->Prop}(hB:∀{fr K},B fr K->∃o:Ot,K.at o/\∀K':Kt,K'.at o->B fr K'):∀(k:Nat) {fr:Fr} {K:Kt},unr (λfr next=>B fr ⟨next,K.x,K.r⟩) k fr->∃o:Ot,K.at o/\∀K':Kt,K'.at o->unr (λfr next=>B fr ⟨next,K'.x,K'.r⟩) k fr
 |0,_,_,h=>h.elim
 |k+1,fr,K,h=>by
  obtain⟨o,h1,h2⟩:=hB h;cases o with
  |n fr'=>obtain⟨o',h3,h4⟩:=MI (B:=B) hB k (fr:=fr') (K:=K) h1;exact⟨o',h3,λK' hk=>h2 ⟨_,K'.x,K'.r⟩ (show unr _ k fr' from h4 K' hk)⟩
  |x i fr'=>exact⟨.x i fr',h1,λK' hk=>h2 ⟨_,K'.x,K'.r⟩ hk⟩
  |r fr'=>exact⟨.r fr',h1,λK' hk=>h2 ⟨_,K'.x,K'.r⟩ hk⟩
theorem lp_un{B:bR->Kt->(bR->Prop)->Prop}(hB:∀{st:bR} {K:Kt} {next:bR->Prop},B st K next->(∃st',next st'/\∀(K':Kt) (next':bR->Prop),next' st'->B st K' next')\/∃o:Ot,K.at o/\∀(K':Kt) (next':bR->Prop),K'.at o->B st K' next'){K:Kt}{I:Nat->bR->Prop}
  (hI:∀m s,I m s->B s K (λs'=>∃m',m'<m/\I m' s')):∀(m:Nat) (s:bR),I m s->∃o:Ot,K.at o/\∀K':Kt,K'.at o->∃I':Nat->bR->Prop,I' m s/\∀m s,I' m s->B s K' (λs'=>∃m',m'<m/\I' m' s'):=by
 intro m;induction m using Nat.strongRecOn with
 |_ m ih =>
  intro s hs;rcases hB (hI m s hs) with⟨st',⟨m',hlt,h1⟩,h2⟩|⟨o,h1,h2⟩
  .obtain⟨o,h3,h4⟩:=ih m' hlt st' h1;refine⟨o,h3,λK' hk=>?_⟩;obtain⟨I',h5,h6⟩:=h4 K' hk;refine⟨λk t=>(k=m/\t=s)\/(k<m/\I' k t),.inl ⟨rfl,rfl⟩,?_⟩;rintro k t (⟨rfl,rfl⟩|⟨hk1,hk2⟩)
   .exact h2 K' _ ⟨m',hlt,.inr ⟨hlt,h5⟩⟩
   .rcases hB (h6 k t hk2) with⟨st2,⟨m2,hlt2,h7⟩,h8⟩|⟨o2,h7,h8⟩
    .exact h8 K' _ ⟨m2,hlt2,.inr ⟨Q0,h7⟩⟩
    .exact h8 K' _ h7
  .refine⟨o,h1,λK' hk=>⟨λk t=>k=m/\t=s,⟨rfl,rfl⟩,?_⟩⟩;rintro k t ⟨rfl,rfl⟩;exact h2 K' _ hk
theorem qM(hnd:tb.nd=false){iM:Bool}{ops:List Oper}:Ah tb n iM ops=none:=by
 unfold Ah
 grind
theorem mD(hnd:tb.nd=false):∀(c:Code) {fr:Fr} {K:Kt},ex J P tb n H kp c fr K->∃o:Ot,K.at o/\∀K':Kt,K'.at o->ex J P tb n H kp c fr K'
 |.skip,fr,K,h=>⟨.n fr,h,λ_ h=>h⟩
 |.label l,fr,K,h=>⟨.n fr,h,λ_ h=>h⟩
 |.exit i,fr,K,h=>⟨.x i fr,h,λ_ h=>h⟩
 |.ret,fr,K,h=>⟨.r fr,h,λ_ h=>h⟩
 |.region id ops iM,fr,K,h=>by
  unfold ex at h;rw[qM hnd]at h;dsimp only at h;obtain⟨fr',l',h1,h2⟩:=It _ _ _ _ h;cases iM with
  |false=>exact⟨.n fr'.ou,h1,λK' hk=>by unfold ex;rw[qM hnd];exact h2 _ hk⟩
  |true =>
   dsimp only at h1;split at h1
   .rename_i hb;refine⟨.n fr'.ou,h1,λK' hk=>?_⟩;unfold ex;rw[qM hnd];refine h2 _ ?_;dsimp only;rw[hb];exact hk
   .exact h1.elim
 |.seq x y,fr,K,h=>by
  unfold ex at h;cases hg:getH H.jn (gO y) with
  |none =>
   rw[hg]at h;obtain⟨o,h1,h2⟩:=mD hnd x h;cases o with
   |n fr'=>obtain⟨o',h3,h4⟩:=mD hnd y h1;refine⟨o',h3,λK' hk=>?_⟩;unfold ex;rw[hg];exact h2 ⟨_,K'.x,K'.r⟩ (h4 K' hk)
   |x i fr'=>exact⟨.x i fr',h1,λK' hk=>by unfold ex;rw[hg];exact h2 ⟨_,K'.x,K'.r⟩ hk⟩
   |r fr'=>exact⟨.r fr',h1,λK' hk=>by unfold ex;rw[hg];exact h2 ⟨_,K'.x,K'.r⟩ hk⟩
  |some sh =>
   rw[hg]at h;obtain⟨I,h1,h2⟩:=h;obtain⟨o,h3,h4⟩:=mD hnd x h1;cases o with
   |n fr'=>obtain⟨st,h5,h6⟩:=xy h3;obtain⟨fr2,h7,h8⟩:=j9 (h2 st h5);obtain⟨o',h9,h10⟩:=mD hnd y h7;refine⟨o',h9,λK' hk=>?_⟩;unfold ex;rw[hg];refine⟨λs=>s=st,h4 ⟨_,K'.x,K'.r⟩ (h6 _ rfl),λs hs=>?_⟩;rw[hs];exact h8 _ (h10 K' hk)
   |x i fr'=>exact⟨.x i fr',h3,λK' hk=>by unfold ex;rw[hg];exact⟨λ_=>False,h4 ⟨_,K'.x,K'.r⟩ hk,λs hs=>hs.elim⟩⟩
   |r fr'=>exact⟨.r fr',h3,λK' hk=>by unfold ex;rw[hg];exact⟨λ_=>False,h4 ⟨_,K'.x,K'.r⟩ hk,λs hs=>hs.elim⟩⟩
 |.cond t x y,fr,K,h=>by
  unfold ex evB at h;split at h
  .rename_i t;split at h
   .rename_i v hv;obtain⟨z,rfl,h⟩:=kW h;cases z with
    |true=>obtain⟨o,h1,h2⟩:=mD hnd x h;refine⟨o,h1,λK' hk=>?_⟩;unfold ex evB;simp only[hv];exact h2 K' hk
    |false=>obtain⟨o,h1,h2⟩:=mD hnd y h;refine⟨o,h1,λK' hk=>?_⟩;unfold ex evB;simp only[hv];exact h2 K' hk
   .exact h.elim
  .split at h
   .rename_i z;cases z with
    |true=>obtain⟨o,h1,h2⟩:=mD hnd x h;exact⟨o,h1,λK' hk=>h2 K' hk⟩
    |false=>obtain⟨o,h1,h2⟩:=mD hnd y h;exact⟨o,h1,λK' hk=>h2 K' hk⟩
   .exact h.elim
  .exact h.elim
 |.block i c,fr,K,h=>by
  unfold ex at h;obtain⟨o,h1,h2⟩:=mD hnd c h;cases o with
  |n fr'=>exact⟨.n fr',h1,λK' hk=>by unfold ex;exact h2 ⟨K'.n,_,K'.r⟩ hk⟩
  |r fr'=>exact⟨.r fr',h1,λK' hk=>by unfold ex;exact h2 ⟨K'.n,_,K'.r⟩ hk⟩
  |x j fr' =>
   have h1:(match Qy j i with|true=>K.n fr'|false=>K.x j fr'):=h1;cases hb:Qy j i with
   |true=>rw[hb]at h1;refine⟨.n fr',h1,λK' hk=>?_⟩;unfold ex;refine h2 ⟨K'.n,_,K'.r⟩ ?_;show(match Qy j i with|true=>K'.n fr'|false=>K'.x j fr');rw[hb];exact hk
   |false=>rw[hb]at h1;refine⟨.x j fr',h1,λK' hk=>?_⟩;unfold ex;refine h2 ⟨K'.n,_,K'.r⟩ ?_;show(match Qy j i with|true=>K'.n fr'|false=>K'.x j fr');rw[hb];exact hk
 |.scope c,fr,K,h=>by unfold ex at h;obtain⟨o,h1,h2⟩:=mD hnd c h;exact⟨o,h1,λK' hk=>by unfold ex;exact h2 K' hk⟩
 |.loop c,fr,K,h=>by
  unfold ex at h;cases hg:getU H.un (gO c) with
  |some k=>rw[hg]at h;obtain⟨o,h1,h2⟩:=MI (B:=λfr K=>ex J P tb n H kp c fr K) (λh=>mD hnd c h) k h;refine⟨o,h1,λK' hk=>?_⟩;unfold ex;rw[hg];exact h2 K' hk
  |none =>
   rw[hg]at h;dsimp only at h;cases hp:BL fr (EF H.lp (gO c)) with
   |none=>rw[hp]at h;exact h.elim
   |some sh =>
    rw[hp]at h;obtain⟨st,⟨I,⟨m,hm⟩,hI⟩,h3⟩:=xy h
    obtain⟨o,h4,h5⟩:=lp_un (B:=λst K next=>ct bc sh st λfr=>ex J P tb n H kp c fr ⟨λfr=>nH kp sh fr next,K.x,K.r⟩) (fun{st K next} h=>by
     obtain⟨fr2,h6,h7⟩:=j9 h;obtain⟨o,h8,h9⟩:=mD hnd c h6;cases o with
     |n fr3=>obtain⟨st2,h10,h11⟩:=xy h8;exact .inl ⟨st2,h10,λK' next' hn=>h7 _ (h9 ⟨_,K'.x,K'.r⟩ (h11 _ hn))⟩
     |x i fr3=>exact .inr ⟨.x i fr3,h8,λK' next' hk=>h7 _ (h9 ⟨_,K'.x,K'.r⟩ hk)⟩
     |r fr3=>exact .inr ⟨.r fr3,h8,λK' next' hk=>h7 _ (h9 ⟨_,K'.x,K'.r⟩ hk)⟩) hI m st hm
    refine⟨o,h4,λK' hk=>?_⟩;obtain⟨I',h6,h7⟩:=h5 K' hk;unfold ex;rw[hg];dsimp only;rw[hp];exact h3 _ ⟨I',⟨m,h6⟩,h7⟩
theorem Ix{s:bA}{rs:List WO}{fr:Fr}{K:bR->Prop}(h:F7 P s rs fr K):∃r,K r/\F7 P s rs fr λst=>st=r:=by
 unfold F7 at h ⊢
 grind
theorem fnX_un(hnd:tb.nd=false){s:bA}{a:bR}{K:bR->Prop}(h:fnX J P tb H s a K):∃r,K r/\fnX J P tb H s a λst=>st=r:=by
 unfold fnX at h ⊢;split at h
 .exact h.elim
 .rename_i fn hf;split at h
  .exact h.elim
  .rename_i c hb;split at h
   .rename_i hfb;obtain⟨fr,h1,h2⟩:=j9 h;obtain⟨o,h3,h4⟩:=mD hnd c h1;cases o with
    |n fr'=>obtain⟨r,h5,h6⟩:=Ix h3;exact⟨r,h5,h2 _ (h4 _ h6)⟩
    |x i fr'=>exact h3.elim
    |r fr'=>obtain⟨r,h5,h6⟩:=Ix h3;exact⟨r,h5,h2 _ (h4 _ h6)⟩
   .exact h.elim
end
theorem Jn{P:QE}{tb:Tb}(hnd:tb.nd=false)(hT:lS P tb)(hm:P.follows .mixedOrders=true){H:p9}{s:bA}{a:bR}{K:bR->Prop}(h:fnX (la P) P tb H s a K)(hu:∀r,K r->ct bc (jB s) r λ_=>True):∃r,K r/\Is P s a r:=by obtain⟨r,h1,h2⟩:=fnX_un hnd h;exact⟨r,h1,Pg hT hm h2 (hu r h1)⟩
structure Co where
 is:bA->bR->Option bR
 inl:Nat->Nat->List S->List (Nat×O)->Option (S×List (Nat×O))
structure CoOk(ca:Co)(Is:Cx):Prop where
 is:∀s a r,ca.is s a=some r->Is.is s a r
 inl:∀id f xs ob v os,ca.inl id f xs ob=some (v,os)->Is.inl f xs ob v os
section
variable {β:Type}
def intO(x:D)(k:Int->Option β):Option β:=match x with
 |.v (.int .i64 z)=>k z
 |_=>none
def PY(x:D)(k:Bool->Option β):Option β:=match x with
 |.v (.bool z)=>k z
 |_=>none
def strO(x:D)(k:ByteArray->Option β):Option β:=match x with
 |.v (.string z)=>k z
 |_=>none
def ikO(kd:R6)(x:D)(k:Int->Option β):Option β:=match x with
 |.v (.int kd' z)=>(match decEq kd' kd with
   |.isTrue _=>k z
   |.isFalse _=>none)
 |_=>none
def byO(kd:R6)(cs:List D)(k:List Int->Option β):Option β:=match nu kd cs with
 |some b=>k b
 |none=>none
def slcO(sz:Nat)(x:D)(k:Nat->List D->Option β):Option β:=match x with
 |.sl n s cs=>(match Qy s sz with
   |true=>k n cs
   |false=>none)
 |_=>none
def ifO(b:Bool)(k h:Option β):Option β:=match b with
 |true=>k
 |false=>h
def vv:Qs (Option β):=⟨intO,PY,slcO⟩
def fC:C->(C->Option β)->Option β
 |.d x,k=>k (.d x)
 |.n,k=>k .n
 |.l sz,k=>k (.l sz)
 |.p b o,k=>k (.p b o)
 |.q b sz i j,k=>k (.q b sz i j)
 |.w b,k=>k (.w b)
 |.m b,k=>k (.m b)
 |.f g cs,k=>k (.f g cs)
 |.z,k=>k .z
 |.u,k=>k .u
 |.e b i,k=>k (.e b i)
 |.y b q sz l n,k=>k (.y b q sz l n)
 |.k g,k=>k (.k g)
def fCs:List C->(List C->Option β)->Option β
 |[],k=>k []
 |c::cs,k=>fC c λc=>fCs cs λcs=>k (c::cs)
def fS:S->(S->Option β)->Option β
 |.c x,k=>fC x λx=>k (.c x)
 |.a n ds,k=>k (.a n ds)
 |.g cs,k=>fCs cs λcs=>k (.g cs)
 |.r n ds o,k=>k (.r n ds o)
 |.t l,k=>k (.t l)
def fV:Option S->(Option S->Option β)->Option β
 |none,k=>k none
 |some v,k=>fS v λv=>k (some v)
def fO:O->(O->Option β)->Option β
 |.b e cs,k=>fCs cs λcs=>k (.b e cs)
 |.a e n ds,k=>k (.a e n ds)
 |.w e sz n ds,k=>k (.w e sz n ds)
 |.v e sz n cs,k=>fCs cs λcs=>k (.v e sz n cs)
 |.s sz n ds,k=>k (.s sz n ds)
 |.m t ag vs n ds,k=>k (.m t ag vs n ds)
 |.ms t ag vs n ds,k=>k (.ms t ag vs n ds)
 |.it ag vs c n ds,k=>k (.it ag vs c n ds)
 |.x e sz n ds,k=>k (.x e sz n ds)
 |.bW,k=>k .bW
def fOs:List (Nat×O)->(List (Nat×O)->Option β)->Option β
 |[],k=>k []
 |(b,o)::l,k=>fO o λo=>fOs l λl=>k ((b,o)::l)
def mX(ca:Co)(fr:Fr):bj->List Nat->List Nat->(Option S->List (Nat×O)->List Nat->List Nat->Option β)->Option β
 |.no,_,_,_=>none
 |.ret v ob,fs,fo,K=>K v ob fs fo
 |.Kz t k,fs,fo,K=>mX ca fr (k (fr.sl t)) (t::fs) fo K
 |.lU b k,fs,fo,K=>mX ca fr (k (fr.ob b)) fs ((2*b)::fo) K
 |.KA b k,fs,fo,K=>mX ca fr (k (bI (fr.ob b))) fs ((2*b+1)::fo) K
 |.i x k,fs,fo,K=>intO x λz=>mX ca fr (k z) fs fo K
 |.bo x k,fs,fo,K=>PY x λz=>mX ca fr (k z) fs fo K
 |.st x k,fs,fo,K=>strO x λz=>mX ca fr (k z) fs fo K
 |.ik kd x k,fs,fo,K=>ikO kd x λz=>mX ca fr (k z) fs fo K
 |.FJ kd cs k,fs,fo,K=>byO kd cs λz=>mX ca fr (k z) fs fo K
 |.sc sz x k,fs,fo,K=>slcO sz x λn cs=>mX ca fr (k n cs) fs fo K
 |.we b p q,fs,fo,K=>ifO b (mX ca fr p fs fo K) (mX ca fr q fs fo K)
 |.ck _ d k,fs,fo,K=>match d with
   |.isTrue _=>mX ca fr k fs fo K
   |.isFalse _=>none
 |.inl id f xs ob k,fs,fo,K=>match ca.inl id f xs ob with
   |some (v,os)=>fS v λv=>fOs os λos=>mX ca fr (k v os) fs fo K
   |none=>none
 |.ca s a k,fs,fo,K=>match ca.is s a with
   |some r=>mX ca fr (k r) fs fo K
   |none=>none
def Iu(ca:Co)(P:QE)(tb:Tb)(n:Nat)(ops:Array Oper)(gs:List Nat):List Oper->Nat->Fr->List (Nat×Fp)->(Fr->List (Nat×Fp)->Option β)->Option β
 |[],_,fr,l,K=>K fr l
 |o::os,i,fr,l,K=>mX ca fr (nI P tb fr.aQ ops gs o) [] [] λv ob fs fo=>match Cg n o.dst v with
   |true=>fV v λv=>fOs ob λob=>Iu ca P tb n ops gs os (i+1) ((fr.bl o.dst v).aJ ob) ((i,⟨o.dst,fs,fo,ob.map QZ,uj o ob⟩)::l) K
   |false=>none
structure KtO(β:Type) where
 n:Fr->Option β
 x:Nat->Fr->Option β
 r:Fr->Option β
def xA(kp:List Nat)(sh:Sh)(fr:Fr)(k:bR->Option β):Option β:=match Gn sh fr with
 |some (st,x)=>(match Ew x.mp kp with
   |true=>k st
   |false=>none)
 |none=>none
def unrO(B:Fr->(Fr->Option β)->Option β):Nat->Fr->Option β
 |0,_=>none
 |n+1,fr=>B fr λfr'=>unrO B n fr'
def evO(fr:Fr)(t:QM)(k:Bool->Option β):Option β:=match t with
 |.tmp t=>(match fr.sl t with
   |.c (.d x)=>PY x k
   |_=>none)
 |.const v=>(match v with
   |.bool b=>k b
   |_=>none)
 |_=>none
def Oy(kp:List Nat)(sh:Sh)(B:Fr->(Fr->Option β)->Option β):Nat->bR->Option β
 |0,_=>none
 |m+1,st=>ct vv sh st λfr=>B fr λfr'=>xA kp sh fr' (Oy kp sh B m)
def N9(fr:Fr)(d t e:Nat)(K:Fr->Option β):Option β:=match fr.sl t with
 |.c (.p b 0)=>(match fr.ob b with
   |some (.it _ _ _ 0 _)=>K ((fr.put d (.t [vb false])).put e (vb false))
   |some (.it ag vs _ 1 ds)=>K (((fr.set b (.it ag vs (some (el ds (3+vs) 0)) 0 (mF ds (3+vs) 0))).put d (.t [vb true,su,su])).put e (vb true))
   |_=>none)
 |_=>none
def EZ(ca:Co)(N:Nat)(P:QE)(tb:Tb)(n:Nat)(H:p9)(kp:List Nat):Code->Fr->KtO β->Option β
 |.skip,fr,K=>K.n fr
 |.label _,fr,K=>K.n fr
 |.region _ ops iM,fr,K=>(match Ah tb n iM ops.toList with
  |some (d,t,e)=>N9 fr d t e λfr=>K.n fr.ou
  |none=>Iu ca P tb n ops (sL ops ops.toList) ops.toList 0 fr [] λfr l=>(match iM with
   |true=>(match Mm (TG ops) l && oV ops.toList 0 with
     |true=>K.n fr.ou
     |false=>none)
   |false=>K.n fr.ou))
 |.seq a b,fr,K=>(match getH H.jn (gO b) with
   |none=>EZ ca N P tb n H kp a fr ⟨λfr=>EZ ca N P tb n H kp b fr K,K.x,K.r⟩
   |some sh=>EZ ca N P tb n H kp a fr ⟨λfr=>xA kp sh fr λst=>ct vv sh st λfr=>EZ ca N P tb n H kp b fr K,K.x,K.r⟩)
 |.cond t a b,fr,K=>evO fr t λz=>ifO z (EZ ca N P tb n H kp a fr K) (EZ ca N P tb n H kp b fr K)
 |.block i c,fr,K=>EZ ca N P tb n H kp c fr ⟨K.n,λj fr=>(match Qy j i with
   |true=>K.n fr
   |false=>K.x j fr),K.r⟩
 |.loop c,fr,K=>(match getU H.un (gO c) with
  |some k=>unrO (λfr next=>EZ ca N P tb n H kp c fr ⟨next,K.x,K.r⟩) k fr
  |none=>match BL fr (EF H.lp (gO c)) with
   |none=>none
   |some sh=>xA kp sh fr (Oy kp sh (λfr next=>EZ ca N P tb n H kp c fr ⟨next,K.x,K.r⟩) N))
 |.exit i,fr,K=>K.x i fr
 |.scope c,fr,K=>EZ ca N P tb n H kp c fr K
 |.ret,fr,K=>K.r fr
 |_,_,_=>none
end
section
variable {β:Type} {x:β}
theorem wc{d:D}{k:Int->Option β}{k':Int->Prop}(hk:∀z,k z=some x->k' z)(h:intO d k=some x):aw d k':=by
 unfold intO at h;unfold aw
 grind
theorem Cy{d:D}{k:Bool->Option β}{k':Bool->Prop}(hk:∀z,k z=some x->k' z)(h:PY d k=some x):oX d k':=by
 unfold PY at h;unfold oX
 grind
theorem strO_ok{d:D}{k:ByteArray->Option β}{k':ByteArray->Prop}(hk:∀z,k z=some x->k' z)(h:strO d k=some x):rA d k':=by
 unfold strO at h;unfold rA
 grind
theorem ikO_ok{kd:R6}{d:D}{k:Int->Option β}{k':Int->Prop}(hk:∀z,k z=some x->k' z)(h:ikO kd d k=some x):qk kd d k':=by
 unfold ikO at h;unfold qk;split at h
 . split at h
   all_goals grind
 . cases h
theorem byO_ok{kd:R6}{cs:List D}{k:List Int->Option β}{k':List Int->Prop}(hk:∀z,k z=some x->k' z)(h:byO kd cs k=some x):PT kd cs k':=by
 unfold byO at h;unfold PT
 grind
theorem pj{sz:Nat}{d:D}{k:Nat->List D->Option β}{k':Nat->List D->Prop}(hk:∀n cs,k n cs=some x->k' n cs)(h:slcO sz d k=some x):aH sz d k':=by
 unfold slcO at h;unfold aH
 grind
theorem O0{b:Bool}{k g:Option β}{k' g':Prop}(hk:k=some x->k')(hg:g=some x->g')(h:ifO b k g=some x):aB b k' g':=by
 cases b
 . exact hg h
 . exact hk h
theorem fC_eq(c:C)(k:C->Option β):fC c k=k c:=by cases c <;> rfl
theorem Ck:∀(l:List C) (k:List C->Option β),fCs l k=k l
 |[],_=>rfl
 |c::l,k=>by rw[fCs,fC_eq,Ck l]
theorem fS_eq(s:S)(k:S->Option β):fS s k=k s:=by
 cases s with
 |c x=>exact fC_eq x _
 |g cs=>exact Ck cs _
 |_=>rfl
theorem fV_eq(v:Option S)(k:Option S->Option β):fV v k=k v:=by
 cases v with
 |none=>rfl
 |some v=>exact fS_eq v _
theorem fO_eq(o:O)(k:O->Option β):fO o k=k o:=by
 cases o with
 |b e cs=>exact Ck cs _
 |v e sz n cs=>exact Ck cs _
 |_=>rfl
theorem Hd:∀(l:List (Nat×O)) (k:List (Nat×O)->Option β),fOs l k=k l
 |[],_=>rfl
 |(b,o)::l,k=>by rw[fOs,fO_eq,Hd l]
theorem nZ{ds:List D}{j:Nat}{s:jt}{k:C->Nat->Option β}{k':C->Nat->Prop}(hk:∀c i,k c i=some x->k' c i)(h:unB vv ds j s k=some x):unB bc ds j s k':=by
 cases s with
 |i=>exact wc (λz h=>hk _ _ h) h
 |bo=>exact Cy (λz h=>hk _ _ h) h
 |y b sz=>exact wc (λl h=>wc (λn h=>hk _ _ h) h) h
 |_=>exact hk _ _ h
theorem H0{ds:List D}:∀{l:List jt} {j:Nat} {k:List C->Nat->Option β} {k':List C->Nat->Prop},(∀c i,k c i=some x->k' c i)->Bp vv ds j l k=some x->Bp bc ds j l k'
 |[],_,_,_,hk,h=>hk _ _ h
 |_::_,_,_,_,hk,h=>nZ (λ_ _ h=>H0 (λ_ _ h=>hk _ _ h) h) h
theorem MK{ds:List D}{j:Nat}{s:jt}{k:C->Nat->Option β}{k':C->Nat->Prop}(hk:∀c i,k c i=some x->k' c i)(h:unC vv ds j s k=some x):unC bc ds j s k':=by
 cases s with
 |f g cs=>exact H0 (λ_ _ h=>hk _ _ h) h
 |d=>exact nZ (ds:=ds) (j:=j) (s:=.d) hk h
 |i=>exact nZ (ds:=ds) (j:=j) (s:=.i) hk h
 |bo=>exact nZ (ds:=ds) (j:=j) (s:=.bo) hk h
 |p b off=>exact nZ (ds:=ds) (j:=j) (s:=.p b off) hk h
 |w b=>exact nZ (ds:=ds) (j:=j) (s:=.w b) hk h
 |m b=>exact nZ (ds:=ds) (j:=j) (s:=.m b) hk h
 |y b sz=>exact nZ (ds:=ds) (j:=j) (s:=.y b sz) hk h
theorem vL{ds:List D}:∀{l:List jt} {j:Nat} {k:List C->Nat->Option β} {k':List C->Nat->Prop},(∀c i,k c i=some x->k' c i)->wH vv ds j l k=some x->wH bc ds j l k'
 |[],_,_,_,hk,h=>hk _ _ h
 |_::_,_,_,_,hk,h=>MK (λ_ _ h=>vL (λ_ _ h=>hk _ _ h) h) h
theorem unS_ok{ds:List D}{s:lL}{k:S->Option β}{k':S->Prop}(hk:∀c,k c=some x->k' c)(h:Mv vv ds s k=some x):Mv bc ds s k':=by
 cases s with
 |c s=>exact MK (ds:=ds) (j:=0) (s:=s) (k:=λc _=>k (.c c)) (λ_ _ h=>hk _ h) h
 |a n=>exact hk _ h
 |g cs=>exact vL (ds:=ds) (j:=0) (l:=cs) (k:=λcs _=>k (.g cs)) (λ_ _ h=>hk _ h) h
 |t l=>exact hk _ h
theorem HS{r:bR}:∀{l:List (Nat×lL)} {j:Nat} {f:Nat->S} {k:(Nat->S)->Nat->Option β} {k':(Nat->S)->Nat->Prop},(∀c i,k c i=some x->k' c i)->qq vv r j l f k=some x->qq bc r j l f k'
 |[],_,_,_,_,hk,h=>hk _ _ h
 |(_,_)::_,_,_,_,_,hk,h=>unS_ok (λ_ h=>HS hk h) h
theorem unO_ok{ds:List D}{o:lV}{k:O->Option β}{k':O->Prop}(hk:∀c,k c=some x->k' c)(h:unO vv ds o k=some x):unO bc ds o k':=by
 cases o with
 |b e cs=>exact vL (λ_ _ h=>hk _ h) h
 |v e sz n cs=>exact vL (λ_ _ h=>hk _ h) h
 |a e n=>exact hk _ h
 |w e sz=>exact pj (λ_ _ h=>hk _ h) h
 |m t ag vs=>exact pj (λ_ _ h=>hk _ h) h
 |ms t ag vs=>exact pj (λ_ _ h=>hk _ h) h
 |it ag vs=>exact pj (λ_ _ h=>hk _ h) h
 |x e sz=>exact pj (λ_ _ h=>hk _ h) h
theorem HW{r:bR}:∀{l:List (Nat×lV)} {j:Nat} {f:Ob} {k:Ob->Option β} {k':Ob->Prop},(∀c,k c=some x->k' c)->vu vv r j l f k=some x->vu bc r j l f k'
 |[],_,_,_,_,hk,h=>hk _ h
 |(_,_)::_,_,_,_,_,hk,h=>unO_ok (λ_ h=>HW hk h) h
theorem wG{sh:Sh}{r:bR}{k:Fr->Option β}{k':Fr->Prop}(hk:∀fr,k fr=some x->k' fr)(h:ct vv sh r k=some x):ct bc sh r k' :=
 HS (λ_ _ h=>HW (λ_ h=>hk _ h) h) h
theorem tU{kp:List Nat}{sh:Sh}{fr:Fr}{k:bR->Option β}{k':bR->Prop}(hk:∀st,k st=some x->k' st)(h:xA kp sh fr k=some x):nH kp sh fr k':=by
 unfold xA at h;unfold nH
 grind
variable {Is:Cx} {ca:Co} (hca:CoOk ca Is)
theorem eO(hca:CoOk ca Is){fr:Fr}{K:Option S->List (Nat×O)->List Nat->List Nat->Option β}{K':Option S->List (Nat×O)->List Nat->List Nat->Prop}(hK:∀v ob fs fo,K v ob fs fo=some x->K' v ob fs fo):∀(p:bj) (fs fo:List Nat),mX ca fr p fs fo K=some x->run Is fr p fs fo K'
 |.no,_,_,h=>by cases h
 |.ret _ _,_,_,h=>hK _ _ _ _ h
 |.Kz t k,_,_,h=>eO hca hK (k (fr.sl t)) _ _ h
 |.lU b k,_,_,h=>eO hca hK (k (fr.ob b)) _ _ h
 |.KA b k,_,_,h=>eO hca hK (k (bI (fr.ob b))) _ _ h
 |.i _ k,_,_,h=>wc (λz h=>eO hca hK (k z) _ _ h) h
 |.bo _ k,_,_,h=>Cy (λz h=>eO hca hK (k z) _ _ h) h
 |.st _ k,_,_,h=>strO_ok (λz h=>eO hca hK (k z) _ _ h) h
 |.ik _ _ k,_,_,h=>ikO_ok (λz h=>eO hca hK (k z) _ _ h) h
 |.FJ _ _ k,_,_,h=>byO_ok (λz h=>eO hca hK (k z) _ _ h) h
 |.sc _ _ k,_,_,h=>pj (λn cs h=>eO hca hK (k n cs) _ _ h) h
 |.we _ p q,_,_,h=>O0 (λh=>eO hca hK p _ _ h) (λh=>eO hca hK q _ _ h) h
 |.ck _ d k,_,_,h=>by
   unfold mX at h;split at h
   . rename_i hp
     exact⟨hp,eO hca hK k _ _ h⟩
   . cases h
 |.ca s a k,_,_,h=>by
   unfold mX at h;split at h
   . rename_i r hr
     exact⟨r,hca.is _ _ _ hr,eO hca hK (k r) _ _ h⟩
   . cases h
 |.inl id f xs ob k,_,_,h=>by
   unfold mX at h;split at h
   . rename_i v os hr
     rw[fS_eq,Hd]at h;exact⟨v,os,hca.inl _ _ _ _ _ _ hr,eO hca hK (k v os) _ _ h⟩
   . cases h
theorem DF(hca:CoOk ca Is){P:QE}{tb:Tb}{n:Nat}{ops:Array Oper}{gs:List Nat}{K:Fr->List (Nat×Fp)->Option β}{K':Fr->List (Nat×Fp)->Prop}(hK:∀fr l,K fr l=some x->K' fr l):∀(os:List Oper) (i:Nat) (fr:Fr) (l:List (Nat×Fp)),Iu ca P tb n ops gs os i fr l K=some x->xc Is P tb n ops gs os i fr l K'
 |[],_,_,_,h=>hK _ _ h
 |o::os,i,fr,l,h=>by
   unfold Iu at h;unfold xc;refine eO hca (λv ob fs fo h=>?_) _ _ _ h;cases hf:Cg n o.dst v with
   |false=>rw[hf]at h;cases h
   |true=>rw[hf]at h;dsimp only at h ⊢;rw[fV_eq,Hd]at h;rw[pH,kR];exact DF hca hK os _ _ _ h
theorem evO_ok{fr:Fr}{t:QM}{k:Bool->Option β}{k':Bool->Prop}(hk:∀z,k z=some x->k' z)(h:evO fr t k=some x):evB fr t k':=by
 cases t with
 |tmp t =>
   unfold evO at h;unfold evB;dsimp only at h ⊢;cases hs:fr.sl t with
   |c c =>
     rw[hs]at h;cases c with
     |d y=>exact Cy hk h
     |_=>cases h
   |_=>rw[hs]at h;cases h
 |const v =>
   cases v with
   |bool b=>exact hk b h
   |_=>cases h
 |_=>cases h
theorem N8{fr:Fr}{d t e:Nat}{K:Fr->Prop}{K':Fr->Option β}(hk:∀fr,K' fr=some x->K fr)(h:N9 fr d t e K'=some x):Ea fr d t e K:=by
 unfold N9 at h;unfold Ea
 grind
theorem HQ{B:Fr->(Fr->Option β)->Option β}{B':Fr->(Fr->Prop)->Prop}(hB:∀fr k k',(∀fr,k fr=some x->k' fr)->B fr k=some x->B' fr k'):∀(n:Nat) (fr:Fr),unrO B n fr=some x->unr B' n fr
 |0,_,h=>by cases h
 |n+1,fr,h=>hB fr _ _ (λfr h=>HQ hB n fr h) h
theorem kU(hca:CoOk ca Is){N:Nat}{P:QE}{tb:Tb}{n:Nat}{H:p9}{kp:List Nat}:∀(c:Code) (fr:Fr) (K:Kt) (K':KtO β),(∀fr,K'.n fr=some x->K.n fr)->(∀i fr,K'.x i fr=some x->K.x i fr)->(∀fr,K'.r fr=some x->K.r fr)->EZ ca N P tb n H kp c fr K'=some x->ex Is P tb n H kp c fr K
 |.skip,fr,K,K',hn,_,_,h=>hn _ h
 |.label _,fr,K,K',hn,_,_,h=>hn _ h
 |.region _ ops iM,fr,K,K',hn,_,_,h=>by
   unfold EZ at h;unfold ex;split at h
   . rename_i d t e hb
     rw[hb];exact N8 (λfr h=>hn _ h) h
   rename_i hb;rw[hb];refine DF hca (λfr l h=>?_) _ _ _ _ h
   grind
 |.seq a b,fr,K,K',hn,hx,hr,h=>by
   unfold EZ at h;unfold ex;split at h
   . rename_i hg
     rw[hg];exact kU hca a fr ⟨_,K.x,K.r⟩ ⟨_,K'.x,K'.r⟩ (λfr h=>kU hca b _ _ _ hn hx hr h) hx hr h
   . rename_i sh hg
     rw[hg];refine⟨λst=>ct vv sh st (λfr=>EZ ca N P tb n H kp b fr K')=some x,?_,λst h=>wG (λfr h=>kU hca b _ _ _ hn hx hr h) h⟩;exact kU hca a fr ⟨_,K.x,K.r⟩ ⟨_,K'.x,K'.r⟩ (λfr h=>tU (λst h=>h) h) hx hr h
 |.cond t a b,fr,K,K',hn,hx,hr,h=>by exact evO_ok (λz h=>O0 (λh=>kU hca a _ _ _ hn hx hr h) (λh=>kU hca b _ _ _ hn hx hr h) h) h
 |.block i c,fr,K,K',hn,hx,hr,h=>by
   refine kU hca c fr ⟨K.n,_,K.r⟩ ⟨K'.n,λj fr=>(match Qy j i with
   |true=>K'.n fr
   |false=>K'.x j fr),K'.r⟩ hn (λj fr h=>?_) hr h
   grind
 |.loop c,fr,K,K',hn,hx,hr,h=>by
   unfold EZ at h;unfold ex;split at h
   . rename_i k hg
     rw[hg];exact HQ (λfr k k' hk h=>kU hca c fr ⟨k',K.x,K.r⟩ ⟨k,K'.x,K'.r⟩ hk hx hr h) _ _ h
   . rename_i hg
     rw[hg];dsimp only;split at h
     . cases h
     . rename_i sh hp
       rw[hp];dsimp only;refine tU (λst h=>?_) h;refine⟨λm st=>Oy kp sh (λfr next=>EZ ca N P tb n H kp c fr ⟨next,K'.x,K'.r⟩) m st=some x,⟨_,h⟩,λm st h=>?_⟩;cases m with
       |zero=>cases h
       |succ m=>exact wG (λfr h=>kU hca c fr ⟨_,K.x,K.r⟩ ⟨_,K'.x,K'.r⟩ (λfr h=>tU (λst h=>⟨m,VM m,h⟩) h) hx hr h) h
 |.exit i,fr,K,K',_,hx,_,h=>hx _ _ h
 |.scope c,fr,K,K',hn,hx,hr,h=>kU hca c _ _ _ hn hx hr h
 |.ret,fr,K,K',_,_,hr,h=>hr _ h
 |.goto _,_,_,_,_,_,_,h=>by cases h
end
def nq(N:Nat):Code->List (Nat×Nat)
 |.seq a b=>nq N a++nq N b
 |.cond _ a b=>nq N a++nq N b
 |.block _ c=>nq N c
 |.scope c=>nq N c
 |.loop c=>(match gO c with
  |some i=>(i,N)::nq N c
  |none=>nq N c)
 |_=>[]
def hintH(N:Nat)(c:Code):p9:=⟨[],[],nq N c⟩
def KV:List S->S
 |[x]=>x
 |l=>.t l
def collect(ob:Ob):Nat->List Nat->List (Nat×O)->Option (List (Nat×O))
 |0,_,_=>none
 |_+1,[],acc=>some acc
 |n+1,b::l,acc=>match cM acc b with
  |true=>collect ob n l acc
  |false=>match ob b with
   |some o=>collect ob n (Ns o++l) ((b,o)::acc)
   |none=>none
def Pj:List S->Bool
 |[]=>true
 |.t _::_=>false
 |_::l=>Pj l
def F8(P:QE)(rs:List WO)(aK:List Nat)(fr:Fr):Option (S×List (Nat×O)):=match BB P fr rs with
 |none=>none
 |some xs=>match collect fr.ob 100000 (pY (KV xs)++aK) []with
  |none=>none
  |some os=>match Pj xs && (Qy xs.length rs.length && (wL os (pY (KV xs)) && (uO os os && (uT os && wL os aK)))) with
   |true=>some (KV xs,os)
   |false=>none
def evH(N:Nat)(P:QE)(tb:Tb)(ext:Nat->Nat->List S->List (Nat×O)->Option (S×List (Nat×O))):Nat->Nat->Nat->List S->List (Nat×O)->Option (S×List (Nat×O))
 |0,_,_,_,_=>none
 |m+1,id,f,xs,ob=>match ext id f xs ob with
  |some r=>some r
  |none=>match P.funcs[f]? with
   |none=>none
   |some fn=>match fn.body with
    |none=>none
    |some c=>match SI xs.length fn.ntmps with
     |true=>EZ ⟨λ_ _=>none,evH N P tb ext m⟩ N P tb fn.ntmps (hintH N c) (ob.map QZ) c ⟨cB 0 xs,nv ob,(id+1)*1000000000000⟩
       ⟨F8 P fn.results.toList (ob.map QZ),λ_ _=>none,F8 P fn.results.toList (ob.map QZ)⟩
     |false=>none
theorem re{ob:Ob}:∀(n:Nat) {l:List Nat} {acc os:List (Nat×O)},(∀p∈acc,ob p.1=some p.2)->collect ob n l acc=some os->∀p∈os,ob p.1=some p.2
 |0,_,_,_,_,h=>by cases h
 |_+1,[],acc,os,ha,h=>by
  have:acc=os:=by simpa[collect]using h
  subst this;exact ha
 |n+1,b::l,acc,os,ha,h=>by
  unfold collect at h;split at h
  .exact re n ha h
  .split at h
   .rename_i o ho
    exact re n (λp hp=>by
     rcases Qz.1 hp with rfl|hp
     .exact ho
     .exact ha p hp) h
   .cases h
theorem oR:∀{xs:List S},Pj xs=true->∀x∈xs,∀l,x≠S.t l
 |.t _::_,h,_,_,_=>by cases h
 |.c _::xs,h,x,hx,l=>by
  rcases Qz.1 hx with rfl|hx
  .simp
  .exact oR (xs:=xs) h x hx l
 |.a _ _::xs,h,x,hx,l=>by
  rcases Qz.1 hx with rfl|hx
  .simp
  .exact oR (xs:=xs) h x hx l
 |.g _::xs,h,x,hx,l=>by
  rcases Qz.1 hx with rfl|hx
  .simp
  .exact oR (xs:=xs) h x hx l
 |.r _ _ _::xs,h,x,hx,l=>by
  rcases Qz.1 hx with rfl|hx
  .simp
  .exact oR (xs:=xs) h x hx l
theorem SR.toSBh{M:Mem}{ρ:Nat->Option Qw}{s:S}{v:Qw}(h:SR M ρ s v)(hs:∀l,s≠S.t l):SB M ρ s v:=by
 cases s with
 |t l=>exact J3 rfl (hs l)
 |_=>exact h
theorem Dh{M:Mem}{ρ:Nat->Option Qw}:∀{xs:List S} {vs:List Qw},xs.length=vs.length->(∀x∈xs,∀l,x≠S.t l)->Mu ρ M xs vs->wx M ρ xs vs
 |[],[],_,_,_=>trivial
 |x::xs,v::vs,hl,hn,h=>by
  refine⟨?_,Dh (by grind) (λy hy=>hn y (Qx _ hy)) λi=>h (i+1)⟩;rcases h 0 with e|⟨u,e1,e2⟩
  .have e:x=su:=e;rw[e];exact trivial
  .have e1:v=u:=by grind
   rw[e1];exact SR.toSBh e2 (hn x (Qt ..))
 |[],_::_,hl,_,_=>by simp at hl
 |_::_,[],hl,_,_=>by simp at hl
theorem one_SR{M:Mem}{ρ:Nat->Option Qw}{xs:List S}{vs:List Qw}(hl:xs.length=vs.length)(hn:∀x∈xs,∀l,x≠S.t l)(h:Mu ρ M xs vs):SR M ρ (KV xs) (Gq vs):=by
 have hb:=Dh hl hn h;unfold Gq
 match xs,vs,hl with
 |[x],[v],_ =>
  have h1:SB M ρ x v:=hb.1;have e:SR M ρ x v:=by
   cases x with
   |t l=>exact J3 rfl (hn _ (Qt ..) l)
   |c c=>exact h1
   |a n ds=>exact h1
   |g cs=>exact h1
   |r n ds o=>exact h1
  exact e
 |[],[],_=>exact⟨[],rfl,trivial⟩
 |x::y::xs,v::u::vs,_=>rw[dif_neg Q2];exact⟨_,rfl,hb⟩
 |[_],_::_::_,hl=>simp at hl
 |_::_::_,[_],hl=>simp at hl
theorem retH_ok{P:QE}{rs:List WO}{aK:List Nat}{fr:Fr}{v:S}{os:List (Nat×O)}(h:F8 P rs aK fr=some (v,os)) :
  ∃xs,BB P fr rs=some xs/\v=KV xs/\(∀x∈xs,∀l,x≠S.t l)/\xs.length=rs.length/\(∀p∈os,fr.ob p.1=some p.2)/\wL os (pY v)=true/\uO os os=true/\uT os=true/\wL os aK=true:=by
 unfold F8 at h;split at h
 .cases h
 .rename_i xs hx;split at h
  .cases h
  .rename_i os' ho;split at h
   .rename_i hb;simp only[Qq,QR]at h;obtain⟨rfl,rfl⟩:=h;simp only[QA]at hb;exact⟨xs,hx,rfl,oR hb.1,Qp hb.2.1,re _ (λp hp=>by cases hp) ho,hb.2.2.1,hb.2.2.2.1,hb.2.2.2.2.1,hb.2.2.2.2.2⟩
   .cases h
theorem Pu{N:Nat}{P:QE}{tb:Tb}{ext:Nat->Nat->List S->List (Nat×O)->Option (S×List (Nat×O))}(hT:lS P tb)(hE:∀id f xs ob v os,ext id f xs ob=some (v,os)->FD P f xs ob v os)(hm:P.follows .mixedOrders=true) :
  ∀(m id f:Nat) (xs:List S) (ob:List (Nat×O)) (v:S) (os:List (Nat×O)),evH N P tb ext m id f xs ob=some (v,os)->FD P f xs ob v os
 |0,_,_,_,_,_,_,h=>by cases h
 |m+1,id,f,xs,ob,v,os,h=>by
  unfold evH at h;split at h
  .grind
  split at h
  .cases h
  rename_i fn hf;split at h
  .cases h
  rename_i c hb;split at h
  rotate_left
  .cases h
  rename_i hlen;intro w0 Γ0 ρ M lst us w hxs hR;refine calls_of_wp hf hb ?_;have hlt:SI us.length fn.ntmps=true:=by rw[hxs.len];exact hlen
  obtain⟨s1,s2,s3⟩:=tG fn.ntmps us hlt;have hx:=kU (Is:=la P) (x:=(v,os)) ⟨(λ_ _ _ h=>(by cases h)),λid f xs ob v os h=>Pu hT hE hm m id f xs ob v os h⟩ c _
   ⟨λfr=>F8 P fn.results.toList (ob.map QZ) fr=some (v,os),λ_ _=>False,λfr=>F8 P fn.results.toList (ob.map QZ) fr=some (v,os)⟩ _ (λfr h=>h) (λ_ _ h=>by cases h) (λfr h=>h) h
  have fin:∀(fr:Fr) (a:Act) (w:QL),F8 P fn.results.toList (ob.map QZ) fr=some (v,os)->vC fn.ntmps w0 Γ0 (ob.map QZ) ρ M fr a w->a.defers=[]/\∃u,(results fn a.tmps).run P w=.ok u w/\Qo w0 Γ0 ρ M v os (.returned u) w:=by
   intro fr a w hk ⟨h1,h2,ρ',M',lst',hM,hkp,hR'⟩;obtain⟨ys,g1,rfl,g2,g3,g4,g5,g6,g7,g8⟩:=retH_ok hk;obtain⟨vs',r1,r2,r3⟩:=vQ h1 h2 hR' g1;have hc:=hR'.cut g4 g6;have hs:SR M' ρ' (KV ys) (Gq vs'):=one_SR (by rw[g3,r2]) g2 r3;refine⟨h2,_,xg r1,_,p8 (cM os) ρ',M',_,rfl,hM,λb u hu=>?_,hs.cut λb hb=>pe g5 b hb,⟨hc.sl,hc.ob,hc.vP,hc.gg,hc.nd,?_,hc.gr⟩⟩
   .rcases hR.vP b u hu with e|e
    .grind
    .have hin:b∈ob.map QZ:=oO.1 (kO.2 e);rw[cZ (pe g8 b hin)];exact hkp b hin u hu
   .refine hc.st.sub ?_
    grind
  refine lC hT hm c (n:=fn.ntmps) (w0:=w0) (Γ0:=Γ0) (ρ:=ρ) (M:=M) hx ?_ ⟨s1,s2,ρ,M,lst,Sub.refl M,λ_ _ _ h=>h,⟨λt=>?_,hR.ob,λb u hu=>?_,hR.gg,hR.nd,hR.st,hR.gr⟩⟩
  .exact⟨λfr a w hk hh=>fin fr a w hk hh,λ_ _ _ _ h=>h.elim,λfr a w hk hh=>fin fr a w hk hh⟩
  .rcases oA 0 t hxs with h1|⟨u,e,h1,h2⟩
   .exact .inl h1
   .refine .inr ⟨u,s3 t u ?_,h2⟩;have:=mT us 0 t
    grind
  .rcases hR.vP b u hu with e|e
   all_goals grind
end Pm
namespace Go.Proofs.YtmbboaapillefaaGreatDoor
open Go Xe Pm
theorem Oj:Qu.follows .mixedOrders=true:=by kernel_rfl
theorem eq42:Eq3 Qu 42:=λw0 L M Γ d ty pos af g x y a b c a' b' c' hx hy=>by
 constructor <;> intro n ac w ha _
 .simp only[Rc,ha.ev hx,ha.ev hy];simp[go_sem,run_eql_struct,US];by_cases h1:a=a' <;> by_cases h2:b=b' <;> by_cases h3:c=c' <;> simp[h1,h2,h3]
 .simp only[Rc,ha.ev hx,ha.ev hy];simp[go_sem,run_neq_struct,US];by_cases h1:a=a' <;> by_cases h2:b=b' <;> by_cases h3:c=c' <;> simp[h1,h2,h3]
theorem key42:ql Qu 42 jH:=by
 refine⟨⟨_,Vp⟩,λk b w=>?_,λk k' w=>?_⟩
 .obtain⟨x,y,z⟩:=k;have hint:∀(d:Nat) (n:Int) w,(TT b (d+1) 3 (.int .i64 n)).run Qu w=.ok () w:=by intro d n w;simp[TT,QN Sc]
  show(TT b (9998+1+1) 42 (.agg #[.int .i64 x,.int .i64 y,.int .i64 z])).run Qu w=.ok () w;unfold TT;simp only[SD,QN Vp,Result.andThen_ok];simp[go_sem,hint]
 .obtain⟨a,b,c⟩:=k;obtain⟨a',b',c'⟩:=k';show(Op.equalIn 10000 42 (.agg #[.int .i64 a,.int .i64 b,.int .i64 c]) (.agg #[.int .i64 a',.int .i64 b',.int .i64 c'])).run Qu w=_;simp[go_sem];by_cases h1:a=a' <;> by_cases h2:b=b' <;> by_cases h3:c=c' <;> simp[h1,h2,h3]
theorem four{a:List Int}(h:a.length=4):∃x y z t,a=[x,y,z,t]:=by
 match a,h with
 |[x,y,z,t],_=>exact⟨x,y,z,t,rfl⟩
theorem eqs197:EqA Qu 197 4 .i64:=λw0 L M Γ d ty pos af g x y a b ha hb hx hy=>by
 obtain⟨a1,a2,a3,a4,rfl⟩:=four ha;obtain⟨b1,b2,b3,b4,rfl⟩:=four hb;constructor <;> intro n ac w ha' _
 .simp only[Rc,ha'.ev hx,ha'.ev hy];simp[go_sem,run_eql_struct,US];by_cases h1:a1=b1 <;> by_cases h2:a2=b2 <;> by_cases h3:a3=b3 <;> by_cases h4:a4=b4 <;> simp[h1,h2,h3,h4]
 .simp only[Rc,ha'.ev hx,ha'.ev hy];simp[go_sem,run_neq_struct,US];by_cases h1:a1=b1 <;> by_cases h2:a2=b2 <;> by_cases h3:a3=b3 <;> by_cases h4:a4=b4 <;> simp[h1,h2,h3,h4]
abbrev kidsD:List D:=OL.map D.v
def mB:List (Nat×List D):=Jl.map λp=>(p.1,p.2.map D.v)
def mA:List (Nat×List (Int×Int)):=[(0,iI)]
def ie:List (Nat×Nat):=[(197,4)]
abbrev hP(t b:Nat):Nat×lL:=(t,.c (.p b 0))
abbrev hW(t b:Nat):Nat×lL:=(t,.c (.w b))
abbrev hI(t:Nat):Nat×lL:=(t,.c .i)
abbrev hD(t:Nat):Nat×lL:=(t,.c .d)
abbrev hB(t:Nat):Nat×lL:=(t,.c .bo)
abbrev hA(i e n:Nat):Nat×lV:=(i,.a e n)
abbrev hR(i e n:Nat):Nat×lV:=(i,.w e n)
abbrev hZ:p9:=⟨[],[],[]⟩
abbrev cD(l:List bA):Tb:=⟨l,[42],[],[],mB,mA,false,ie,false,false,[]⟩
theorem Ay{v:Nat}{ds:List D}:∀{l:List (Nat×List Qw)},ye v (l.map λp=>(p.1,p.2.map D.v))=some ds->∃us,(v,us)∈l/\ds=us.map D.v
 |[],h=>by cases h
 |p::l,h=>by
  rw[QT]at h;unfold ye at h;split at h
  .rename_i hv;obtain rfl:=Qp hv;simp only[Qq]at h;exact⟨p.2,Qt ..,h.symm⟩
  .obtain⟨us,h1,h2⟩:=Ay h;exact⟨us,Qx _ h1,h2⟩
theorem one22:∀p∈Jl,∀u∈p.2,Value.oneCell' u=true:=Q1
theorem one_gm{v:Nat}{l:List (Int×Int)}(h:Ax v [(0,iI)]=some l):v=0/\l=iI:=by
 simp only[Ax]at h;split at h
 .rename_i hv;exact⟨Qp hv,by simpa using h.symm⟩
 .cases h
theorem one_eqs{t n:Nat}(h:ES t [(197,4)]=some n):t=197/\n=4:=by
 simp only[ES]at h;split at h
 .rename_i hv;exact⟨Qp hv,by simpa using h.symm⟩
 .cases h
theorem MO(l:List bA)(dp:List Nat)(hp nd ic:Bool)(cs:List Nat):lS Qu ⟨l,[42],dp,[],mB,mA,hp,ie,nd,ic,cs⟩:=⟨λt h=>by
 simp only[Xh,YN,Xj]at h;rw[Qp h];exact eq42,λt h=>by
 simp only[Xh,YN,Xj]at h;rw[Qp h];exact key42,λt n e kd h hn he=>by simp at h,λv ds h M hM=>by
 obtain⟨us,h1,rfl⟩:=Ay h;refine⟨us,⟨Q2,λk d u hd hu=>?_⟩,λi u hu=>hM.gl _ h1 i u hu⟩;rw[List.getElem?_map,hu]at hd;simp only[TK,Qq]at hd;subst hd;unfold Rd;exact⟨rfl,one22 _ h1 u (List.mem_of_getElem? hu)⟩,λv l h M hM=>by
 obtain⟨hv,rfl⟩:=one_gm h;subst hv;obtain⟨m,es,c,l',e1,e2,e3,e4⟩:=hM.gm;exact⟨m,es,c,l',e1,e2,e3,e4,Q1⟩,λt n h=>by
 obtain⟨ht,rfl⟩:=one_eqs h;subst ht
 exact eqs197⟩
abbrev vK(k:R6)(z:Int):D:=.v (.int k z)
abbrev ds(n:Nat):List jt:=QY n .d
abbrev Tx:=Cx->bR->(bR->Prop)->Prop
def Wd(tb:Tb)(H:p9)(s:bA)(g:Tx):Prop:=∀Is a K,fnX Is Qu tb H s a K=g Is a K
theorem Wk{tb:Tb}{H:p9}{s:bA}{g:Tx}(h:∀Is a K,fnX Is Qu tb H s a K=g Is a K:=by intro _ _ _;kernel_rfl):Wd tb H s g:=h
theorem Wd.is{l:List bA}{dp:List Nat}{nd:Bool}{H:p9}{s:bA}{g:Tx}(w:Wd ⟨l,[42],dp,[],mB,mA,false,ie,nd,false,[]⟩ H s g){a r:bR}(h:g (la Qu) a λst=>st=r)(hu:ct bc (jB s) r (λ_=>True):=by exact trivial):Pm.Is Qu s a r:=Pg (MO ..) Oj (H:=H) (by rw[w];exact h) hu
theorem Wd.some{l:List bA}{dp:List Nat}{H:p9}{s:bA}{g:Tx}(w:Wd ⟨l,[42],dp,[],mB,mA,false,ie,false,false,[]⟩ H s g){a:bR}{K:bR->Prop}(h:g (la Qu) a K)(hu:∀r,K r->ct bc (jB s) r λ_=>True):∃r,K r/\Pm.Is Qu s a r:=Jn rfl (MO ..) Oj (H:=H) (by rw[w];exact h) hu
set_option maxRecDepth 100000
abbrev s8:bA:=⟨8,⟨[hD 0],[]⟩,.a 2,[],false⟩
abbrev rk:bA:=⟨29,⟨[hD 0,hI 1,hI 2],[]⟩,.c .i,[],true⟩
abbrev s22:bA:=⟨22,⟨[hI 0,hI 1],[]⟩,.c .i,[],true⟩
abbrev nG:bA:=⟨30,⟨[hI 0],[]⟩,.a 3,[],false⟩
abbrev s31:bA:=⟨31,⟨[hD 0,hI 1],[]⟩,.c (.w 0),[hR 0 85 11],false⟩
abbrev w5:bA:=⟨112,⟨[(0,.a 3)],[]⟩,.a 5,[],false⟩
abbrev tI:bA:=⟨113,⟨[hI 0,(1,.a 5),(2,.a 5)],[]⟩,.a 5,[],false⟩
abbrev tH:bA:=⟨114,⟨[(0,.a 5)],[]⟩,.g [.d,.d,.d,.d,.w 0],[hR 0 46 5],false⟩
abbrev s115:bA:=⟨115,⟨[hD 0,hI 1,(2,.a 5)],[]⟩,.t [.c (.w 0),.c (.w 1)],[hR 0 46 5,hR 1 3 1],false⟩
abbrev lf:bA:=⟨32,⟨[hP 0 0,(1,.a 5),hD 2,hI 3],[(0,.b 88 (.d::.w 1::ds 9)),hR 1 52 31]⟩,.g (ds 14++[.w 2]),[hR 2 9 1,(0,.b 88 (.d::.w 1::ds 9)),hR 1 52 31],false⟩
abbrev s116:bA:=⟨116,⟨[hP 0 0,hI 1],[(0,.b 88 (.d::.w 1::ds 9)),hR 1 52 31]⟩,.c .i,[(0,.b 88 (.d::.w 1::ds 9)),hR 1 52 31],false⟩
abbrev s117:bA:=⟨117,⟨[hD 0,(1,.a 5)],[]⟩,.c (.w 0),[hR 0 90 9],false⟩
abbrev y9:bA:=⟨186,⟨[(0,.a 5),(1,.a 5)],[]⟩,.c .bo,[],true⟩
abbrev Kr:bA:=⟨118,⟨[hP 0 0,(1,.a 9)],[(0,.b 88 (.d::.w 1::ds 9)),hR 1 52 31]⟩,.g (ds 14++[.w 2]),[hR 2 9 1,(0,.b 88 (.d::.w 1::ds 9)),hR 1 52 31],false⟩
abbrev il:bA:=⟨120,⟨[hP 0 0,hI 1,hI 2,hD 3],[(0,.b 88 (.d::.w 1::ds 9)),hR 1 52 31]⟩,.g (ds 14++[.w 2]),[hR 2 9 1,(0,.b 88 (.d::.w 1::ds 9)),hR 1 52 31],false⟩
abbrev Kq:bA:=⟨119,⟨[hP 0 0,(1,.a 5),hD 2,hI 3,hI 4],[(0,.b 88 (.d::.w 1::ds 9)),hR 1 52 31]⟩,.g (ds 14++[.w 2]),[hR 2 9 1,(0,.b 88 (.d::.w 1::ds 9)),hR 1 52 31],false⟩
abbrev s23:bA:=⟨23,⟨[(0,.g [.d,.w 0]),(1,.a 3)],[hR 0 52 31]⟩,.t [.a 31,.c .bo],[hR 0 52 31],false⟩
abbrev Nk:bA:=⟨123,⟨[hP 0 0,(1,.a 5),hD 2,hI 3,hI 4],[(0,.b 88 (.d::.w 1::ds 9)),hR 1 52 31]⟩,.g (ds 14++[.w 2]),[hR 2 9 1,(0,.b 88 (.d::.w 1::ds 9)),hR 1 52 31],false⟩
abbrev s187:bA:=⟨187,⟨[hP 0 0,hI 1,hI 2],[(0,.b 88 (.d::.w 1::ds 9)),hR 1 52 31]⟩,.c .i,[(0,.b 88 (.d::.w 1::ds 9)),hR 1 52 31],false⟩
abbrev Dx:bA:=⟨188,⟨[hP 0 0,hI 1],[(0,.b 88 (.d::.w 1::ds 9)),hR 1 52 31]⟩,.c .bo,[(0,.b 88 (.d::.w 1::ds 9)),hR 1 52 31],false⟩
abbrev zd:bA:=⟨126,⟨[hP 0 0,(1,.a 5),hD 2,hI 3,hI 4],[(0,.b 88 (.d::.w 1::ds 9)),hR 1 52 31]⟩,.g (ds 14++[.w 2]),[hR 2 9 1,(0,.b 88 (.d::.w 1::ds 9)),hR 1 52 31],false⟩
abbrev s124:bA:=⟨124,⟨[hP 0 0,(1,.a 5),hD 2,hI 3,hI 4],[(0,.b 88 (.d::.w 1::ds 9)),hR 1 52 31]⟩,.g (ds 14++[.w 2]),[hR 2 9 1,(0,.b 88 (.d::.w 1::ds 9)),hR 1 52 31],false⟩
abbrev Nj:bA:=⟨125,⟨[hP 0 0,(1,.a 5),hD 2,hI 3,hI 4],[(0,.b 88 (.d::.w 1::ds 9)),hR 1 52 31]⟩,.g (ds 14++[.w 2]),[hR 2 9 1,(0,.b 88 (.d::.w 1::ds 9)),hR 1 52 31],false⟩
abbrev DA:bA:=⟨121,⟨[hP 0 0],[(0,.b 88 (.d::.w 1::ds 9)),hR 1 52 31]⟩,.c .d,[(0,.b 88 (.d::.w 1::ds 9)),hR 1 52 31],false⟩
abbrev Dz:bA:=⟨122,⟨[hD 0,(1,.a 9)],[]⟩,.c (.w 0),[hR 0 90 9],false⟩
abbrev s33:bA:=⟨33,⟨[(0,.a 15)],[]⟩,.c .i,[],true⟩
abbrev s34:bA:=⟨34,⟨[(0,.a 15),hW 1 0],[hR 0 3 1]⟩,.c (.w 1),[hR 1 3 1],false⟩
abbrev s35:bA:=⟨35,⟨[(0,.a 15),hW 1 0],[hR 0 42 3]⟩,.g (ds 13++[.w 1,.d]),[hR 1 50 15,hR 0 42 3],false⟩
def g8:Tx:=λIs a K=>aA Is rk [[Cz a 0],[vI 0],[vI 2]] λr1=>iK r1 0 λz2=>(λV1=>(λV14=>(λV15=>(λV18=>az (bt (1+z2)) (aB (decide ((0:Int)<(1+z2))) (aA Is nG [[vI 0]] λr3=>(λV2=>az (0<=(0:Int)/\(0:Int)<(2:Int)) (az (aO (0+1) 89) (az (bt (0+1:Int)) (aB (decide ((1:Int)<(1+z2))) (aA Is nG [[vI 1]] λr4=>az (0<=(1:Int)/\(1:Int)<(2:Int)) (aA Is nG [[vI 0]] λr5=>az (aO (1+1) 89) (az (bt (1+1:Int)) (aB (decide ((2:Int)<(1+z2))) (aA Is nG [[vI 2]] λ_=>az (0<=(2:Int)/\(2:Int)<(2:Int)) (az (aO (2+1) 89) (az (bt (2+1:Int)) (False)))) (aA Is s31 V14 λr7=>sK 11 r7 0 λn8 c9=>az (bt ((1+z2)+n8)) (Lp (λsq g=>iK g 1 λz186=>iK g 2 λz187=>iK g 3 λD=>sK 11 g 5 λn189 c190=>sK 31 g 7 λn191 c192=>sK 3 g 8 λn193 c194=>sK 3 g 9 λn195 c196=>sK 3 g 10 λn197 c198=>(λV7=>lK D n189 (az (bt (z186+D)) (aA Is nG [[vI (z186+D)]] λr199=>kI D n189 (kI D n189 (aA Is nG [[cell (eT c190 11 D) 10]] λr200=>kI D n189 (kI D n189 (Lp (λso b=>iK b 1 λz203=>iK b 2 λz204=>iK b 3 λm=>iK b 4 λq=>sK 11 b 6 λL J=>sK 31 b 9 λn209 c210=>sK 11 b 10 λn211 c212=>sK 3 b 11 λn213 c214=>sK 3 b 12 λn215 c216=>sK 3 b 13 λn217 c218=>kI m L (aH 5 (cell (eT J 11 m) 2) λn219 _=>(λV16=>(λV22=>(λV23=>lK q n219 (aA Is nG [[vI z204]] λr221=>kI m L (aH 1 (cell (eT J 11 m) 3) λn222 c223=>kI q n222 (kI m L (aH 5 (cell (eT J 11 m) 2) λn224 c225=>kI q n224 (aw (cell (ab b 7) 3) λz226=>aB (decide (z226=(4:Int))) (kI m L (aH 1 (cell (eT J 11 m) 4) λn227 c228=>kI q n227 (az (aO (n211+1) 113) (oK z204 (oK q (so [[Cz b 0],[vI z203],[vI (z204+1)],[vI m],[vI (q+1)],ab b 5,[.sl L 11 J],cls (ab b 7) 0 30 [],cls (ab b 8) 0 9 [],[.sl n209 31 c210],[.sl (n211+1) 11 (c212++(cls (ab r221 0) 0 3 (cell (eT c223 1 q) 0::cls (eT c225 5 q) 0 5 [cell (eT c228 1 q) 0,vI q])))],V23,V16,V22])))))) (az (aO (n211+1) 113) (oK z204 (oK q (so [[Cz b 0],[vI z203],[vI (z204+1)],[vI m],[vI (q+1)],ab b 5,[.sl L 11 J],cls (ab b 7) 0 30 [],cls (ab b 8) 0 9 [],[.sl n209 31 c210],[.sl (n211+1) 11 (c212++(cls (ab r221 0) 0 3 (cell (eT c223 1 q) 0::cls (eT c225 5 q) 0 5 [vI 0,vI q])))],V23,V16,V22]))))))))) (az (aO (n209+1) 353) (kI m L (kI m L (aw (cell (eT J 11 m) 10) λz229=>(λV6=>az (0<=z229/\z229<((2:Nat):Int)) (aB (decide (z229=((0:Nat):Int))) (az (aO (n213+1) 25) (aw (cell (eT J 11 m) 10) λz230=>az (0<=z230/\z230<((2:Nat):Int)) (aB (decide (z230=((0:Nat):Int))) (oK m (sq [[Cz b 0],[vI z203],[vI z204],[vI (m+1)],ab b 5,[.sl L 11 J],cls (ab b 8) 0 9 [],V6,[.sl (n213+1) 3 (c214++(cls (ab b 7) 0 3 []))],V16,V22])) (aB (decide (z230=((1:Nat):Int))) (oK m (False)) (False))))) (aB (decide (z229=((1:Nat):Int))) (az (aO (n217+1) 25) (aw (cell (eT J 11 m) 10) λz231=>az (0<=z231/\z231<((2:Nat):Int)) (aB (decide (z231=((0:Nat):Int))) (oK m (False)) (aB (decide (z231=((1:Nat):Int))) (oK m (sq [[Cz b 0],[vI z203],[vI z204],[vI (m+1)],ab b 5,[.sl L 11 J],cls (ab b 8) 0 9 [],V6,V23,V16,[.sl (n217+1) 3 (c218++(cls (ab b 7) 0 3 []))]])) (False))))) (False)))) [.sl (n209+1) 31 (c210++(cls (ab b 7) 0 8 (.sl n211 11 c212::cls (ab b 7) 8 22 [])))]))))) [.sl n213 3 c214]) [.sl n217 3 c218]) [.sl n215 3 c216])) [[Cz g 0],[vI z186],[vI z187],[vI D],[vI 0],ab g 4,[.sl n189 11 c190],cls (ab r199 0) 0 3 (cell (eT c190 11 D) 0::cls (ab r200 0) 0 3 (cell (eT c190 11 D) 1::cls (sub (eT c190 11 D) 5 5) 0 5 (V1))),cls (ab g 6) 0 9 [],[.sl n191 31 c192],[.sl 0 11 []],[.sl n193 3 c194],[.sl n195 3 c196],[.sl n197 3 c198]])))))) (Lp (λP i=>iK i 0 λz234=>iK i 1 λM=>sK 31 i 5 λn236 c237=>(λV21=>lK M n236 (kI M n236 (aw (cell (eT c237 31 M) 3) λz238=>(λV10=>aB (decide (z238=(0:Int))) (oK M (P V10)) (aw (cell (eT c237 31 M) 3) λz239=>aB (decide (z239=(1:Int))) (oK M (P V10)) (Lp (λB1 d=>iK d 0 λz242=>iK d 1 λw=>iK d 2 λz244=>sK 9 d 7 λn245 c246=>sK 31 d 8 λn247 c248=>aH 11 (cell (ab d 6) 8) λn249 _=>lK z244 n249 (aH 11 (cell (ab d 6) 8) λn251 c252=>kI z244 n251 (aH 11 (cell (ab d 6) 8) λn253 c254=>kI z244 n253 (az (aO (n245+1) 89) (oK z244 (B1 [[vI z242],[vI w],[vI (z244+1)],ab d 3,[Cz d 4],cls (ab d 5) 0 10 [],ab d 6,[.sl (n245+1) 9 (c246++(cls (sub (eT c252 11 z244) 0 3) 0 3 (vI 0::cls (sub (eT c254 11 z244) 4 5) 0 5 [])))],[.sl n247 31 c248]]))))) (aA Is lf [sub (ab d 6) 9 5,[.sl n245 9 c246],[vI 4],cls (ab d 5) 0 4 (vI 14::vI w::cls (sub (ab d 6) 4 3) 0 3 [vI 0]),[.sl n247 31 c248]] λU=>sK 1 U 1 λn256 c257=>sK 31 U 3 λn258 c259=>(λV5=>kI w n258 (kI w n258 (aA Is s33 [sub (el V5 31 (Qr w)) 14 15] λr260=>iK r260 0 λz261=>aB (decide ((30:Int)<z261)) (aA Is lf [sub (ab d 6) 9 5,[.sl n245 9 c246],[vI 0],cls (ab U 2) 0 4 (vI 0::cls (ab U 2) 5 5 []),[.sl n258 31 V5]] λr262=>sK 1 r262 1 λn263 c264=>sK 31 r262 3 λn265 c266=>kI w n265 (oK w (P [[vI z242],[vI (w+1)],ab d 3,[Cz d 4],cls (ab r262 2) 0 10 [],[.sl n265 31 (cQ c266 ((Qr w)*31+14) (cls (ab r262 0) 0 14 [.sl n263 1 c264]))]]))) (oK w (P [[vI z242],[vI (w+1)],ab d 3,[Cz d 4],cls (ab U 2) 0 10 [],[.sl n258 31 V5]]))))) (cQ c259 ((Qr w)*31+14) (cls (ab U 0) 0 14 [.sl n256 1 c257])))) [[vI z234],[vI M],[vI 0],ab i 2,[Cz i 3],cls (ab i 4) 0 10 [],eT c237 31 M,[.sl 0 9 []],V21]))) [[vI z234],[vI (M+1)],ab i 2,[Cz i 3],cls (ab i 4) 0 10 [],V21])) (aw (cell (ab i 4) 3) λz267=>aw (cell (ab i 4) 3) λz268=>az (0<=z267/\z267=z268/\aO (Qr z267) 25) (Lp (λj2 r=>iK r 0 λz271=>iK r 1 λE=>sK 3 r 4 λn273 c274=>sK 31 r 5 λV c276=>lK E V (kI E V (aw (cell (eT c276 31 E) 3) λz277=>(λV13=>aB (decide (z277=(0:Int))) (oK E (j2 V13)) (kI E V (aw (cell (eT c276 31 E) 3) λz278=>aB (decide (z278=(1:Int))) (oK E (j2 V13)) (kI E V (aA Is s34 [sub (eT c276 31 E) 14 15,[.sl 0 1 []]] λr279=>sK 1 r279 0 λn280 c281=>Lp (λB0 z=>iK z 0 λz284=>iK z 1 λz285=>iK z 2 λz286=>sK 3 z 5 λn287 c288=>sK 1 z 6 λn289 c290=>sK 31 z 7 λn291 c292=>lK z286 n289 (kI z286 n289 (aA Is nG [[vI z284]] λr293=>aw (cell (eT c290 1 z286) 0) λz294=>kI z294 n287 (oK z284 (oK z286 (B0 [[vI (z284+1)],[vI z285],[vI (z286+1)],ab z 3,[Cz z 4],[.sl n287 3 (cQ c288 ((Qr z294)*3+0) (ab r293 0))],[.sl n289 1 c290],[.sl n291 31 c292]]))))) (kI z285 n291 (aA Is s35 [sub (eT c292 31 z285) 14 15,[.sl n287 3 c288]] λr295=>sK 15 r295 1 λn296 c297=>sK 3 r295 2 λn298 c299=>kI z285 n291 (oK z285 (j2 [[vI z284],[vI (z285+1)],ab z 3,[Cz z 4],[.sl n298 3 c299],[.sl n291 31 (cQ c292 ((Qr z285)*31+14) (cls (ab r295 0) 0 13 [.sl n296 15 c297,cell (ab r295 0) 13]))]]))))) [[vI z271],[vI E],[vI 0],ab r 2,[Cz r 3],[.sl n273 3 c274],[.sl n280 1 c281],[.sl V 31 c276]]))))) [[vI z271],[vI (E+1)],ab r 2,[Cz r 3],[.sl n273 3 c274],[.sl V 31 c276]])) (K [[Cz r 3,.sl V 31 c276]])) [[vI z234],[vI 0],ab i 2,[Cz i 3],[.sl (Qr z267) 3 (S5 (QY (Qr z267) V18))],V21]))) [.sl n236 31 c237]) [[vI z187],[vI 0],ab g 4,[.sl 2 6 V7],[.sl 2 6 V7,Cz g 0,vI 24,vI 0,vI 0,vI 0,vI 0,vI 0,vI 0,vI 0],[.sl n191 31 c192]])) (cls (ab g 6) 0 5 (.sl n193 3 c194::cls (ab g 6) 5 4 [.sl n195 3 c196,.sl n197 3 c198]))) [[Cz a 0],[vI (1+z2)],[vI ((1+z2)+n8)],[vI 0],V15,[.sl n8 11 c9],cls (ab r3 0) 0 3 (cell (el (V2) 1 0) 0::.sl 0 3 []::cls (ab r4 0) 0 3 ([cell (el (V2) 1 1) 0])),[.sl 0 31 []],[.sl 0 3 []],[.sl 1 3 ((ab r5 0)++[])],[.sl 0 3 []]])))))) (aA Is s31 V14 λr300=>sK 11 r300 0 λn301 c302=>az (bt ((1+z2)+n301)) (Lp (λBZ n=>iK n 1 λz438=>iK n 2 λz439=>iK n 3 λF=>sK 11 n 5 λn441 c442=>sK 31 n 7 λn443 c444=>sK 3 n 8 λn445 c446=>(λV17=>lK F n441 (az (bt (z438+F)) (aA Is nG [[vI (z438+F)]] λr447=>kI F n441 (kI F n441 (aA Is nG [[cell (eT c442 11 F) 10]] λr448=>kI F n441 (kI F n441 (Lp (λsm c=>iK c 1 λz451=>iK c 2 λz452=>iK c 3 λp=>iK c 4 λs=>sK 11 c 6 λQ R=>sK 31 c 9 λn457 c458=>sK 11 c 10 λn459 c460=>sK 3 c 11 λn461 c462=>kI p Q (aH 5 (cell (eT R 11 p) 2) λn463 _=>lK s n463 (aA Is nG [[vI z452]] λr465=>kI p Q (aH 1 (cell (eT R 11 p) 3) λn466 c467=>kI s n466 (kI p Q (aH 5 (cell (eT R 11 p) 2) λn468 c469=>kI s n468 (aw (cell (ab c 7) 3) λz470=>aB (decide (z470=(4:Int))) (kI p Q (aH 1 (cell (eT R 11 p) 4) λn471 c472=>kI s n471 (az (aO (n459+1) 113) (oK z452 (oK s (sm [[Cz c 0],[vI z451],[vI (z452+1)],[vI p],[vI (s+1)],ab c 5,[.sl Q 11 R],cls (ab c 7) 0 30 [],cls (ab c 8) 0 5 [],[.sl n457 31 c458],[.sl (n459+1) 11 (c460++(cls (ab r465 0) 0 3 (cell (eT c467 1 s) 0::cls (eT c469 5 s) 0 5 [cell (eT c472 1 s) 0,vI s])))],[.sl n461 3 c462]])))))) (az (aO (n459+1) 113) (oK z452 (oK s (sm [[Cz c 0],[vI z451],[vI (z452+1)],[vI p],[vI (s+1)],ab c 5,[.sl Q 11 R],cls (ab c 7) 0 30 [],cls (ab c 8) 0 5 [],[.sl n457 31 c458],[.sl (n459+1) 11 (c460++(cls (ab r465 0) 0 3 (cell (eT c467 1 s) 0::cls (eT c469 5 s) 0 5 [vI 0,vI s])))],[.sl n461 3 c462]]))))))))) (az (aO (n457+1) 353) (kI p Q (kI p Q (aw (cell (eT R 11 p) 10) λz473=>az (0<=z473/\z473<((1:Nat):Int)) (aB (decide (z473=((0:Nat):Int))) (az (aO (n461+1) 25) (aw (cell (eT R 11 p) 10) λz474=>az (0<=z474/\z474<((1:Nat):Int)) (aB (decide (z474=((0:Nat):Int))) (oK p (BZ [[Cz c 0],[vI z451],[vI z452],[vI (p+1)],ab c 5,[.sl Q 11 R],cls (ab c 8) 0 5 [],[.sl (n457+1) 31 (c458++(cls (ab c 7) 0 8 (.sl n459 11 c460::cls (ab c 7) 8 22 [])))],[.sl (n461+1) 3 (c462++(cls (ab c 7) 0 3 []))]])) (False)))) (False)))))))) [[Cz n 0],[vI z438],[vI z439],[vI F],[vI 0],ab n 4,[.sl n441 11 c442],cls (ab r447 0) 0 3 (cell (eT c442 11 F) 0::cls (ab r448 0) 0 3 (cell (eT c442 11 F) 1::cls (sub (eT c442 11 F) 5 5) 0 5 (V1))),cls (ab n 6) 0 5 [],[.sl n443 31 c444],[.sl 0 11 []],[.sl n445 3 c446]])))))) (Lp (λS j=>iK j 0 λz477=>iK j 1 λN=>sK 31 j 5 λn479 c480=>(λV20=>lK N n479 (kI N n479 (aw (cell (eT c480 31 N) 3) λz481=>(λV9=>aB (decide (z481=(0:Int))) (oK N (S V9)) (aw (cell (eT c480 31 N) 3) λz482=>aB (decide (z482=(1:Int))) (oK N (S V9)) (Lp (λnext483 e=>iK e 0 λz485=>iK e 1 λx=>iK e 2 λz487=>sK 9 e 7 λn488 c489=>sK 31 e 8 λn490 c491=>aH 11 (cell (ab e 6) 8) λn492 _=>lK z487 n492 (aH 11 (cell (ab e 6) 8) λn494 c495=>kI z487 n494 (aH 11 (cell (ab e 6) 8) λn496 c497=>kI z487 n496 (az (aO (n488+1) 89) (oK z487 (next483 [[vI z485],[vI x],[vI (z487+1)],ab e 3,[Cz e 4],cls (ab e 5) 0 10 [],ab e 6,[.sl (n488+1) 9 (c489++(cls (sub (eT c495 11 z487) 0 3) 0 3 (vI 0::cls (sub (eT c497 11 z487) 4 5) 0 5 [])))],[.sl n490 31 c491]]))))) (aA Is lf [sub (ab e 6) 9 5,[.sl n488 9 c489],[vI 4],cls (ab e 5) 0 4 (vI 14::vI x::cls (sub (ab e 6) 4 3) 0 3 [vI 0]),[.sl n490 31 c491]] λW=>sK 1 W 1 λn499 c500=>sK 31 W 3 λn501 c502=>(λV4=>kI x n501 (kI x n501 (aA Is s33 [sub (el V4 31 (Qr x)) 14 15] λr503=>iK r503 0 λz504=>aB (decide ((30:Int)<z504)) (aA Is lf [sub (ab e 6) 9 5,[.sl n488 9 c489],[vI 0],cls (ab W 2) 0 4 (vI 0::cls (ab W 2) 5 5 []),[.sl n501 31 V4]] λr505=>sK 1 r505 1 λn506 c507=>sK 31 r505 3 λn508 c509=>kI x n508 (oK x (S [[vI z485],[vI (x+1)],ab e 3,[Cz e 4],cls (ab r505 2) 0 10 [],[.sl n508 31 (cQ c509 ((Qr x)*31+14) (cls (ab r505 0) 0 14 [.sl n506 1 c507]))]]))) (oK x (S [[vI z485],[vI (x+1)],ab e 3,[Cz e 4],cls (ab W 2) 0 10 [],[.sl n501 31 V4]]))))) (cQ c502 ((Qr x)*31+14) (cls (ab W 0) 0 14 [.sl n499 1 c500])))) [[vI z477],[vI N],[vI 0],ab j 2,[Cz j 3],cls (ab j 4) 0 10 [],eT c480 31 N,[.sl 0 9 []],V20]))) [[vI z477],[vI (N+1)],ab j 2,[Cz j 3],cls (ab j 4) 0 10 [],V20])) (aw (cell (ab j 4) 3) λz510=>aw (cell (ab j 4) 3) λz511=>az (0<=z510/\z510=z511/\aO (Qr z510) 25) (Lp (λBY t=>iK t 0 λz514=>iK t 1 λG=>sK 3 t 4 λn516 c517=>sK 31 t 5 λX c519=>lK G X (kI G X (aw (cell (eT c519 31 G) 3) λz520=>(λV12=>aB (decide (z520=(0:Int))) (oK G (BY V12)) (kI G X (aw (cell (eT c519 31 G) 3) λz521=>aB (decide (z521=(1:Int))) (oK G (BY V12)) (kI G X (aA Is s34 [sub (eT c519 31 G) 14 15,[.sl 0 1 []]] λr522=>sK 1 r522 0 λn523 c524=>Lp (λnext525 A=>iK A 0 λz527=>iK A 1 λz528=>iK A 2 λz529=>sK 3 A 5 λn530 c531=>sK 1 A 6 λn532 c533=>sK 31 A 7 λn534 c535=>lK z529 n532 (kI z529 n532 (aA Is nG [[vI z527]] λr536=>aw (cell (eT c533 1 z529) 0) λz537=>kI z537 n530 (oK z527 (oK z529 (next525 [[vI (z527+1)],[vI z528],[vI (z529+1)],ab A 3,[Cz A 4],[.sl n530 3 (cQ c531 ((Qr z537)*3+0) (ab r536 0))],[.sl n532 1 c533],[.sl n534 31 c535]]))))) (kI z528 n534 (aA Is s35 [sub (eT c535 31 z528) 14 15,[.sl n530 3 c531]] λr538=>sK 15 r538 1 λn539 c540=>sK 3 r538 2 λn541 c542=>kI z528 n534 (oK z528 (BY [[vI z527],[vI (z528+1)],ab A 3,[Cz A 4],[.sl n541 3 c542],[.sl n534 31 (cQ c535 ((Qr z528)*31+14) (cls (ab r538 0) 0 13 [.sl n539 15 c540,cell (ab r538 0) 13]))]]))))) [[vI z514],[vI G],[vI 0],ab t 2,[Cz t 3],[.sl n516 3 c517],[.sl n523 1 c524],[.sl X 31 c519]]))))) [[vI z514],[vI (G+1)],ab t 2,[Cz t 3],[.sl n516 3 c517],[.sl X 31 c519]])) (K [[Cz t 3,.sl X 31 c519]])) [[vI z477],[vI 0],ab j 2,[Cz j 3],[.sl (Qr z510) 3 (S5 (QY (Qr z510) V18))],V20]))) [.sl n479 31 c480]) [[vI z439],[vI 0],ab n 4,[.sl 1 6 V17],[.sl 1 6 V17,Cz n 0,vI 24,vI 0,vI 0,vI 0,vI 0,vI 0,vI 0,vI 0],[.sl n443 31 c444]])) (cls (ab n 6) 0 5 [.sl n445 3 c446])) [[Cz a 0],[vI (1+z2)],[vI ((1+z2)+n301)],[vI 0],V15,[.sl n301 11 c302],cls (ab r3 0) 0 3 ([cell (el (V2) 1 0) 0,.sl 0 3 []]),[.sl 0 31 []],[.sl 0 3 []]])))))) [vS (QX #[99,111,114,101]),vS (QX #[109,105,108,108])]) (aA Is s31 V14 λr543=>sK 11 r543 0 λn544 c545=>az (bt ((1+z2)+n544)) (Lp (λ_ o=>iK o 1 λz548=>iK o 2 λz549=>iK o 3 λH=>sK 11 o 6 λn551 c552=>sK 31 o 7 λn553 c554=>lK H n551 (az (bt (z548+H)) (aA Is nG [[vI (z548+H)]] λr555=>kI H n551 (kI H n551 (aA Is nG [[cell (eT c552 11 H) 10]] λr556=>kI H n551 (kI H n551 (Lp (λsj h=>iK h 1 λz584=>iK h 2 λz585=>iK h 3 λC=>iK h 4 λu=>sK 11 h 7 λY c589=>sK 31 h 9 λn590 c591=>sK 11 h 10 λn592 c593=>kI C Y (aH 5 (cell (eT c589 11 C) 2) λn594 _=>lK u n594 (aA Is nG [[vI z585]] λr596=>kI C Y (aH 1 (cell (eT c589 11 C) 3) λn597 c598=>kI u n597 (kI C Y (aH 5 (cell (eT c589 11 C) 2) λn599 c600=>kI u n599 (aw (cell (ab h 8) 3) λz601=>aB (decide (z601=(4:Int))) (kI C Y (aH 1 (cell (eT c589 11 C) 4) λn602 c603=>kI u n602 (az (aO (n592+1) 113) (oK z585 (oK u (sj [[Cz h 0],[vI z584],[vI (z585+1)],[vI C],[vI (u+1)],ab h 5,[Cz h 6],[.sl Y 11 c589],cls (ab h 8) 0 30 [],[.sl n590 31 c591],[.sl (n592+1) 11 (c593++(cls (ab r596 0) 0 3 (cell (eT c598 1 u) 0::cls (eT c600 5 u) 0 5 [cell (eT c603 1 u) 0,vI u])))]])))))) (az (aO (n592+1) 113) (oK z585 (oK u (sj [[Cz h 0],[vI z584],[vI (z585+1)],[vI C],[vI (u+1)],ab h 5,[Cz h 6],[.sl Y 11 c589],cls (ab h 8) 0 30 [],[.sl n590 31 c591],[.sl (n592+1) 11 (c593++(cls (ab r596 0) 0 3 (cell (eT c598 1 u) 0::cls (eT c600 5 u) 0 5 [vI 0,vI u])))]]))))))))) (az (aO (n590+1) 353) (kI C Y (kI C Y (aw (cell (eT c589 11 C) 10) λz604=>sK 6 h 6 λn605 _=>kI z604 n605 (False))))))) [[Cz o 0],[vI z548],[vI z549],[vI H],[vI 0],ab o 4,[Cz o 5],[.sl n551 11 c552],cls (ab r555 0) 0 3 (cell (eT c552 11 H) 0::cls (ab r556 0) 0 3 (cell (eT c552 11 H) 1::cls (sub (eT c552 11 H) 5 5) 0 5 (V1))),[.sl n553 31 c554],[.sl 0 11 []]])))))) (Lp (λT l=>iK l 0 λz609=>iK l 1 λO=>sK 31 l 5 λn611 c612=>(λV19=>lK O n611 (kI O n611 (aw (cell (eT c612 31 O) 3) λz613=>(λV8=>aB (decide (z613=(0:Int))) (oK O (T V8)) (aw (cell (eT c612 31 O) 3) λz614=>aB (decide (z614=(1:Int))) (oK O (T V8)) (Lp (λnext615 f=>iK f 0 λz617=>iK f 1 λy=>iK f 2 λz619=>sK 9 f 7 λn620 c621=>sK 31 f 8 λn622 c623=>aH 11 (cell (ab f 6) 8) λn624 _=>lK z619 n624 (aH 11 (cell (ab f 6) 8) λn626 c627=>kI z619 n626 (aH 11 (cell (ab f 6) 8) λn628 c629=>kI z619 n628 (az (aO (n620+1) 89) (oK z619 (next615 [[vI z617],[vI y],[vI (z619+1)],ab f 3,[Cz f 4],cls (ab f 5) 0 10 [],ab f 6,[.sl (n620+1) 9 (c621++(cls (sub (eT c627 11 z619) 0 3) 0 3 (vI 0::cls (sub (eT c629 11 z619) 4 5) 0 5 [])))],[.sl n622 31 c623]]))))) (aA Is lf [sub (ab f 6) 9 5,[.sl n620 9 c621],[vI 4],cls (ab f 5) 0 4 (vI 14::vI y::cls (sub (ab f 6) 4 3) 0 3 [vI 0]),[.sl n622 31 c623]] λZ=>sK 1 Z 1 λn631 c632=>sK 31 Z 3 λn633 c634=>(λV3=>kI y n633 (kI y n633 (aA Is s33 [sub (el V3 31 (Qr y)) 14 15] λr635=>iK r635 0 λz636=>aB (decide ((30:Int)<z636)) (aA Is lf [sub (ab f 6) 9 5,[.sl n620 9 c621],[vI 0],cls (ab Z 2) 0 4 (vI 0::cls (ab Z 2) 5 5 []),[.sl n633 31 V3]] λr637=>sK 1 r637 1 λn638 c639=>sK 31 r637 3 λn640 c641=>kI y n640 (oK y (T [[vI z617],[vI (y+1)],ab f 3,[Cz f 4],cls (ab r637 2) 0 10 [],[.sl n640 31 (cQ c641 ((Qr y)*31+14) (cls (ab r637 0) 0 14 [.sl n638 1 c639]))]]))) (oK y (T [[vI z617],[vI (y+1)],ab f 3,[Cz f 4],cls (ab Z 2) 0 10 [],[.sl n633 31 V3]]))))) (cQ c634 ((Qr y)*31+14) (cls (ab Z 0) 0 14 [.sl n631 1 c632])))) [[vI z609],[vI O],[vI 0],ab l 2,[Cz l 3],cls (ab l 4) 0 10 [],eT c612 31 O,[.sl 0 9 []],V19]))) [[vI z609],[vI (O+1)],ab l 2,[Cz l 3],cls (ab l 4) 0 10 [],V19])) (aw (cell (ab l 4) 3) λz642=>aw (cell (ab l 4) 3) λz643=>az (0<=z642/\z642=z643/\aO (Qr z642) 25) (Lp (λBX v=>iK v 0 λz646=>iK v 1 λI=>sK 3 v 4 λn648 c649=>sK 31 v 5 λn650 c651=>lK I n650 (kI I n650 (aw (cell (eT c651 31 I) 3) λz652=>(λV11=>aB (decide (z652=(0:Int))) (oK I (BX V11)) (kI I n650 (aw (cell (eT c651 31 I) 3) λz653=>aB (decide (z653=(1:Int))) (oK I (BX V11)) (kI I n650 (aA Is s34 [sub (eT c651 31 I) 14 15,[.sl 0 1 []]] λr654=>sK 1 r654 0 λn655 c656=>Lp (λnext657 B=>iK B 0 λz659=>iK B 1 λz660=>iK B 2 λz661=>sK 3 B 5 λn662 c663=>sK 1 B 6 λn664 c665=>sK 31 B 7 λn666 c667=>lK z661 n664 (kI z661 n664 (aA Is nG [[vI z659]] λr668=>aw (cell (eT c665 1 z661) 0) λz669=>kI z669 n662 (oK z659 (oK z661 (next657 [[vI (z659+1)],[vI z660],[vI (z661+1)],ab B 3,[Cz B 4],[.sl n662 3 (cQ c663 ((Qr z669)*3+0) (ab r668 0))],[.sl n664 1 c665],[.sl n666 31 c667]]))))) (kI z660 n666 (aA Is s35 [sub (eT c667 31 z660) 14 15,[.sl n662 3 c663]] λr670=>sK 15 r670 1 λn671 c672=>sK 3 r670 2 λn673 c674=>kI z660 n666 (oK z660 (BX [[vI z659],[vI (z660+1)],ab B 3,[Cz B 4],[.sl n673 3 c674],[.sl n666 31 (cQ c667 ((Qr z660)*31+14) (cls (ab r670 0) 0 13 [.sl n671 15 c672,cell (ab r670 0) 13]))]]))))) [[vI z646],[vI I],[vI 0],ab v 2,[Cz v 3],[.sl n648 3 c649],[.sl n655 1 c656],[.sl n650 31 c651]]))))) [[vI z646],[vI (I+1)],ab v 2,[Cz v 3],[.sl n648 3 c649],[.sl n650 31 c651]])) (K [[Cz v 3,.sl n650 31 c651]])) [[vI z609],[vI 0],ab l 2,[Cz l 3],[.sl (Qr z642) 3 (S5 (QY (Qr z642) V18))],V19]))) [.sl n611 31 c612]) [[vI z549],[vI 0],ab o 4,[Cz o 5],[Cz o 5,Cz o 0,vI 24,vI 0,vI 0,vI 0,vI 0,vI 0,vI 0,vI 0],[.sl n553 31 c554]])) [[Cz a 0],[vI (1+z2)],[vI ((1+z2)+n544)],[vI 0],V15,[.sl 0 6 []],[.sl n544 11 c545],[.sl 0 31 []]])))) [vI 0,vI 0,vI 0]) [.sl 0 6 [],.sl 0 31 []]) [[Cz a 0],[vI (1+z2)]]) [vI 0,vI 0,vI 0,vI 0,vI 0,vI 0,vI 0,vI 0,vI 0,vI 0,vI 0,vI 0,.sl 0 5 [],.sl 0 15 [],.sl 0 1 [],vI 0,.sl 0 1 []]
theorem w8:Wd ⟨[rk,nG,s31,lf,s33,s34,s35],[42],[23],[],mB,mA,false,ie,false,false,[]⟩ ⟨[(13,⟨[hD 0,hP 2 0,hI 3,hP 4 1,hW 7 2,hI 8,hI 9],[hA 0 26 2,(1,.b 26 [.w 3,.w 4]),hR 2 85 11,(3,.v 60 6 1 (ds 5++[.w 5])),hR 4 52 31,hR 5 42 3]⟩),(13,⟨[hD 0,hP 2 0,hI 3,hP 4 1,hW 7 2,hI 8,hI 9],[hA 0 26 2,(1,.b 26 [.w 3,.w 4]),hR 2 85 11,(3,.v 60 6 2 (ds 5++[.w 5,.d,.d,.d,.d,.w 6,.w 7])),hR 4 52 31,hR 5 42 3,hR 6 42 3,hR 7 42 3]⟩),(13,⟨[hD 0,hP 2 0,hI 3,hP 4 1,hW 7 2,hI 8,hI 9],[hA 0 26 2,(1,.b 26 [.d,.w 3]),hR 2 85 11,hR 3 52 31]⟩),(17,⟨[hD 0,hP 2 0,hI 3,hP 4 1,hW 7 2,hI 8,hI 9,hP 10 3,hI 11],[hA 0 26 2,(1,.b 26 [.w 4,.w 5]),hR 2 85 11,(3,.b 52 (.d::.d::.d::.d::.d::.d::.d::.d::.w 6::ds 22)),(4,.v 60 6 1 (ds 5++[.w 7])),hR 5 52 31,hR 6 75 11,hR 7 42 3]⟩),(17,⟨[hD 0,hP 2 0,hI 3,hP 4 1,hW 7 2,hI 8,hI 9,hP 10 3,hI 11],[hA 0 26 2,(1,.b 26 [.w 4,.w 5]),hR 2 85 11,(3,.b 52 (.d::.d::.d::.d::.d::.d::.d::.d::.w 6::ds 22)),(4,.v 60 6 2 (ds 5++[.w 7,.d,.d,.d,.d,.w 8,.w 9])),hR 5 52 31,hR 6 75 11,hR 7 42 3,hR 8 42 3,hR 9 42 3]⟩),(17,⟨[hD 0,hP 2 0,hI 3,hP 4 1,hW 7 2,hI 8,hI 9,hP 10 3,hI 11],[hA 0 26 2,(1,.b 26 [.d,.w 4]),hR 2 85 11,(3,.b 52 (.d::.d::.d::.d::.d::.d::.d::.d::.w 5::ds 22)),hR 4 52 31,hR 5 75 11]⟩),(28,⟨[hP 2 0,hP 4 1,hI 8,hP 13 2,hI 14],[hA 0 26 2,(1,.b 26 [.d,.w 3]),(2,.b 88 (.d::.w 3::ds 9)),hR 3 52 31]⟩),(34,⟨[hP 2 0,hP 4 1,hI 8,hP 13 2,hI 14,hP 15 3,hW 16 4,hI 17],[hA 0 26 2,(1,.b 26 [.d,.w 5]),(2,.b 88 (.d::.w 5::ds 9)),hA 3 52 31,hR 4 90 9,hR 5 52 31]⟩),(47,⟨[hP 2 0,hP 4 1,hI 8,hW 18 2,hI 19],[hA 0 26 2,(1,.b 26 [.d,.w 3]),hR 2 42 3,hR 3 52 31]⟩),(52,⟨[hP 2 0,hP 4 1,hI 8,hW 18 2,hI 19,hW 20 3,hI 21],[hA 0 26 2,(1,.b 26 [.d,.w 4]),hR 2 42 3,hR 3 3 1,hR 4 52 31]⟩)],[],[(4,3)]⟩ s8 g8:=Wk
def g29:Tx:=λIs a K=>iK a 1 λb=>iK a 2 λc=>aB (decide (b<(0:Int))) (K [[vI 0]]) (sK 1 a 0 λd _=>aB (decide ((d:Int)<=b)) (K [[vI 0]]) (sK 1 a 0 λe f=>kI b e (aA Is s22 [[cell (eT f 1 b) 0],[vI c]] λg=>iK g 0 λh=>K [[vI h]])))
theorem w29:Wd (cD [s22]) hZ rk g29:=Wk
def g22:Tx:=λ_ a K=>iK a 0 λb=>iK a 1 λd=>jn (λe=>aB (decide (b<(0:Int))) (oK b (az (bt (-(b+1))) (e [[vI (-(b+1))],[vI d]]))) (e [[vI b],[vI d]])) (λc=>iK c 0 λg=>iK c 1 λf=>az (f≠0) (K [[vI (Rt g f)]]))
theorem w22:Wd (cD []) ⟨[],[(3,⟨[hI 0,hI 1],[]⟩)],[]⟩ s22 g22:=Wk
def g30:Tx:=λ_ a K=>iK a 0 λb=>az ((32:Int)≠0/\bt (RE b 32)) (az (bt (1+(RE b 32))) (az ((32:Int)≠0) (K [[vI 0,vI (1+(RE b 32)),vI (Rt b 32)]])))
theorem w30:Wd (cD []) hZ nG g30:=Wk
def g31:Tx:=λIs a K=>iK a 1 λz1=>aA Is rk [[Cz a 0],[vI 1],[vI 4]] λr2=>iK r2 0 λz3=>aA Is nG [[vI z1]] λr4=>aA Is w5 [ab r4 0] λr5=>oK z1 (aA Is nG [[vI (z1+1)]] λr6=>aA Is w5 [ab r6 0] λr7=>jn (λk8=>Lp (λo f=>iK f 1 λL=>bK f 2 λM=>iK f 3 λj=>sK 5 f 6 λE N=>aA Is rk [[Cz f 0],[vI 2],[vI 3]] λr17=>iK r17 0 λO=>az (bt (1+O)) (aB (decide (j<(1+O))) (az (bt (3+j)) (aA Is rk [[Cz f 0],[vI (3+j)],[vI 3]] λr19=>iK r19 0 λz20=>aA Is tI [[vI z20],ab f 4,ab f 4] λr21=>az (aO (E+1) 57) (oK j (o [[Cz f 0],[vI L],[vB M],[vI (j+1)],ab f 4,ab f 5,[.sl (E+1) 5 (N++((ab r21 0)++[]))]])))) (k8 [[Cz f 0],[vI L],[vB M],ab f 4,ab f 5,[.sl E 5 N]]))) [[Cz a 0],[vI z1],[vB (decide ((0:Int)<z3))],[vI 0],ab r5 0,ab r7 0,[.sl 0 5 []]]) (λh=>iK h 1 λz22=>bK h 2 λb23=>sK 5 h 5 λn24 c25=>(λV3=>Lp (λp c=>iK c 1 λi=>bK c 2 λq=>iK c 3 λl=>sK 5 c 6 λr F=>sK 11 c 7 λs G=>aA Is rk [[Cz c 0],[vI 6],[vI 2]] λr35=>iK r35 0 λP=>az (bt (1+P)) (aB (decide (l<(1+P))) (az (bt (7+l)) (aA Is rk [[Cz c 0],[vI (7+l)],[vI 4]] λr37=>iK r37 0 λz38=>aA Is tI [[vI z38],ab c 4,ab c 4] λr39=>az (aO (r+1) 57) (oK l (p [[Cz c 0],[vI i],[vB q],[vI (l+1)],ab c 4,ab c 5,[.sl (r+1) 5 (F++((ab r39 0)++[]))],[.sl s 11 G]])))) (az (aO (s+1) 161) (az (bt (i-1)) (jn (λQ=>(λV1=>aB q (Lp (λt e=>iK e 1 λu=>bK e 2 λR=>iK e 3 λS=>iK e 4 λm=>sK 5 e 7 λH T=>sK 11 e 8 λv U=>aA Is rk [[Cz e 0],[vI 9],[vI 3]] λr52=>iK r52 0 λz53=>aB (decide (m<z53)) (az (bt (10+m)) (aA Is rk [[Cz e 0],[vI (10+m)],[vI 4]] λr54=>iK r54 0 λz55=>aA Is tI [[vI z55],ab e 5,ab e 5] λr56=>az (aO (H+1) 57) (oK m (t [[Cz e 0],[vI u],[vB R],[vI S],[vI (m+1)],ab e 5,ab e 6,[.sl (H+1) 5 (T++((ab r56 0)++[]))],[.sl v 11 U],ab e 9])))) (az (bt (u+2)) (aA Is nG [[vI (u+2)]] λr57=>aA Is w5 [ab r57 0] λV=>az (aO (v+1) 161) (aA Is tH [V3] λW=>sK 5 W 1 λn60 c61=>az (aO (v+1+1) 161) (Q [[Cz e 0],[vI u],[vB R],[vI S],ab e 5,ab e 6,[.sl (v+1+1) 11 ((U++([vI 0,vS (QX #[83,116,97,116,101]),.sl H 5 T,.sl 3 1 ([vS (QX #[99,111,117,110,116]),vS (QX #[108,111,103]),vS (QX #[109,111,114,101])]),.sl 0 1 [],vI 0,vI 0,vI 0,vI 0,.sl 0 5 [],vI 0]))++([vI 0,vS (QX #[79,117,116]),.sl 3 5 ((ab V 0)++(cls (ab W 0) 0 4 ([.sl n60 5 c61,vI 0,vI 0,vI 0,vI 0,.sl 0 5 []]))),.sl 3 1 ([vS (QX #[115,116,97,116,101]),vS (QX #[115,105,103,110,97,108,115]),vS (QX #[110,101,120,116])]),.sl 0 1 [],vI 0,vI 0,vI 0,vI 0,.sl 0 5 [],vI 0]))],ab V 0]))))) [[Cz c 0],[vI i],[vB q],[vI (i-1)],[vI 0],ab c 4,ab c 5,[.sl 1 5 (V3)],V1,ab c 4]) (Q [[Cz c 0],[vI i],[vB q],[vI (i-1)],ab c 4,ab c 5,V1,ab c 4])) [.sl (s+1) 11 (G++([vI 1,vS (QX #[69,118,101,110,116]),.sl r 5 F,.sl 3 1 ([vS (QX #[84,105,99,107]),vS (QX #[80,117,115,104]),vS (QX #[83,101,116])]),.sl 0 1 [],vI 0,vI 0,vI 0,vI 0,.sl 0 5 [],vI 0]))]) (λd=>iK d 1 λX=>bK d 2 λY=>iK d 3 λZ=>sK 11 d 6 λn65 c66=>aA Is rk [[Cz d 0],[vI 12],[vI 6]] λr67=>iK r67 0 λz68=>aA Is tI [[vI z68],ab d 4,ab d 5] λr69=>jn (λk70=>aA Is rk [[Cz d 0],[vI 13],[vI 2]] λr72=>iK r72 0 λz73=>aB (decide (z73=(1:Int))) (aA Is rk [[Cz d 0],[vI 14],[vI 6]] λr74=>iK r74 0 λz75=>aA Is tI [[vI z75],ab d 4,ab d 5] λr76=>az (aO (1+1) 57) (k70 [[Cz d 0],[vI X],[vB Y],[vI Z],ab d 4,ab d 5,[.sl (1+1) 5 (((ab r69 0)++[])++((ab r76 0)++[]))],[.sl n65 11 c66],ab d 7])) (k70 [[Cz d 0],[vI X],[vB Y],[vI Z],ab d 4,ab d 5,[.sl 1 5 ((ab r69 0)++[])],[.sl n65 11 c66],ab d 7])) (λb=>iK b 1 λI=>bK b 2 λb78=>iK b 3 λw=>sK 5 b 6 λn80 c81=>sK 11 b 7 λn c83=>aA Is rk [[Cz b 0],[vI 15],[vI I]] λr84=>iK r84 0 λz85=>aA Is rk [[Cz b 0],[vI 16],[vI 6]] λr86=>iK r86 0 λz87=>aA Is tI [[vI z87],ab b 4,ab b 4] λx=>(λV2=>az (aO (n+1) 161) (jn (λk89=>aB b78 (az (bt (I+3)) (aA Is nG [[vI (I+3)]] λr91=>aA Is w5 [ab r91 0] λr92=>az (aO (n+1+1) 161) (k89 [[Cz b 0],[vI w],ab b 4,[.sl (n+1+1) 11 ((c83++(vI 2::vS (QX #[102])::.sl n80 5 c81::.sl 2 1 (V2)::.sl 0 1 []::cls (ab x 0) 0 5 [vI z85]))++(vI 3::vS (QX #[115,116,101,112])::.sl 2 5 ((ab b 8)++((ab b 5)++[]))::.sl 2 1 ([vS (QX #[115]),vS (QX #[101])])::.sl 0 1 []::cls (ab r92 0) 0 5 [vI w]))],ab b 8,ab x 0]))) (aA Is rk [[Cz b 0],[vI 17],[vI 6]] λr93=>iK r93 0 λz94=>aA Is tI [[vI z94],ab b 4,ab b 5] λr95=>az (aO (n+1+1) 161) (k89 [[Cz b 0],[vI w],ab b 4,[.sl (n+1+1) 11 ((c83++(vI 2::vS (QX #[102])::.sl n80 5 c81::.sl 2 1 (V2)::.sl 0 1 []::cls (ab x 0) 0 5 [vI z85]))++(vI 2::vS (QX #[103])::.sl 1 5 ((ab b 5)++[])::.sl 1 1 ([vS (QX #[101])])::.sl 0 1 []::cls (ab r95 0) 0 5 [vI w]))],ab b 8,ab x 0]))) (λg=>iK g 1 λJ=>sK 11 g 3 λy c98=>aA Is s115 [[Cz g 0],[vI 18],ab g 2] λr99=>sK 5 r99 0 λz A=>sK 1 r99 1 λB C=>aA Is rk [[Cz g 0],[vI 21],[vI 6]] λr104=>iK r104 0 λz105=>aA Is tI [[vI z105],ab g 2,ab g 5] λD=>az (aO (y+1) 161) (aA Is rk [[Cz g 0],[vI 22],[vI 4]] λr107=>iK r107 0 λz108=>aB (decide ((0:Int)<z108)) (aA Is rk [[Cz g 0],[vI 23],[vI 6]] λr109=>iK r109 0 λz110=>aA Is tI [[vI z110],ab g 2,ab g 4] λr111=>az (aO (y+1+1) 161) (K [[.sl (y+1+1) 11 ((c98++(vI 4::vS (QX #[116])::.sl z 5 A::.sl 2 1 (V2)::.sl B 1 C::cls (ab D 0) 0 5 [vI J]))++(vI 5::vS (QX #[99])::.sl 1 5 ((ab g 4)++[])::.sl 1 1 ([vS (QX #[111,108,100])])::.sl 0 1 []::cls (ab r111 0) 0 5 [vI J]))]])) (K [[.sl (y+1) 11 (c98++(vI 4::vS (QX #[116])::.sl z 5 A::.sl 2 1 (V2)::.sl B 1 C::cls (ab D 0) 0 5 [vI J]))]]))))) [vS (QX #[97]),vS (QX #[98])]))))))) [[Cz h 0],[vI z22],[vB b23],[vI 0],ab h 3,ab h 4,[.sl 1 5 (V3)],[.sl 1 11 ([vI 0,vS (QX #[80,111,105,110,116]),.sl n24 5 c25,.sl 3 1 ([vS (QX #[120]),vS (QX #[121]),vS (QX #[122])]),.sl 0 1 [],vI 0,vI 0,vI 0,vI 0,.sl 0 5 [],vI 0])]]) [vI 0,vI 0,vI 0,vI 0,.sl 0 5 []]))
theorem w31:Wd (cD [rk,nG,w5,tI,tH,s115]) ⟨[(6,⟨[hD 0,hI 1,hB 5,hP 6 0,hP 7 1,hW 8 2,hI 9],[hA 0 46 5,hA 1 46 5,hR 2 46 5]⟩),(12,⟨[hD 0,hI 1,hB 5,hP 6 0,hP 7 1,hW 8 2,hW 10 3,hI 11],[hA 0 46 5,hA 1 46 5,hR 2 46 5,hR 3 85 11]⟩),(21,⟨[hD 0,hI 1,hB 5,hP 6 0,hP 7 1,hW 8 2,hW 10 3,hI 12,hP 13 4,hI 14],[hA 0 46 5,hA 1 46 5,hR 2 46 5,hR 3 85 11,hA 4 46 5]⟩)],[(9,⟨[hD 0,hI 1,hB 5,hP 6 0,hP 7 1,hW 8 2],[hA 0 46 5,hA 1 46 5,hR 2 46 5]⟩),(27,⟨[hD 0,hI 1,hB 5,hP 6 0,hP 7 1,hW 10 2,hI 12,hP 13 3],[hA 0 46 5,hA 1 46 5,hR 2 85 11,hA 3 46 5]⟩),(30,⟨[hD 0,hI 1,hB 5,hP 6 0,hP 7 1,hW 8 2,hW 10 3,hI 12,hP 13 4],[hA 0 46 5,hA 1 46 5,hR 2 46 5,hR 3 85 11,hA 4 46 5]⟩),(36,⟨[hD 0,hP 6 0,hW 10 1,hI 12,hP 13 2,hP 16 3],[hA 0 46 5,hR 1 85 11,hA 2 46 5,hA 3 46 5]⟩)],[]⟩ s31 g31:=Wk
def g112:Tx:=λ_ a K=>K [vI 3::cls (ab a 0) 0 3 ([.sl 0 5 []])]
theorem w112:Wd (cD []) hZ w5 g112:=Wk
def g113:Tx:=λIs a K=>iK a 0 λd=>(λV1=>aA Is tH [V1] λc=>sK 5 c 1 λe f=>aA Is s22 [[vI d],[vI 6]] λg=>iK g 0 λb=>az (0<=b/\b<(6:Int)) (K [el ((V1)++(([vI 1,vI 0,vI 0,vI 0,.sl 0 5 []])++((cls (ab c 0) 0 4 [.sl e 5 f])++((ab a 1)++((ab a 2)++(V1)))))) 5 (Qr b)])) [vI 0,vI 0,vI 0,vI 0,.sl 0 5 []]
theorem w113:Wd (cD [s22,tH]) hZ tI g113:=Wk
def g114:Tx:=λ_ a K=>K [[vI 2,vI 0,vI 0,vI 0],[.sl 1 5 ((ab a 0)++[])]]
theorem w114:Wd (cD []) hZ tH g114:=Wk
def g115:Tx:=λIs a K=>iK a 1 λq=>aA Is rk [[Cz a 0],[vI q],[vI 5]] λX=>iK X 0 λI=>oK q (aA Is rk [[Cz a 0],[vI (q+1)],[vI 3]] λY=>iK Y 0 λJ=>(λV1=>(λV2=>az (bt (1+J)) (jn (λW=>aB (decide (I=(1:Int))) (az (0<=(0:Int)/\(0:Int)<(1:Int)) (az (0<=(0:Int)/\(0:Int)<(1:Int)) (W [[Cz a 0],[vI q],[vI I],ab a 2,[.sl 1 5 (cQ (V1) (0*5+0) (V2))],[.sl 1 1 (cQ [vI (1+J)] (0*1+0) [vI 0])]]))) (W [[Cz a 0],[vI q],[vI I],ab a 2,[.sl 1 5 (V1)],[.sl 1 1 [vI (1+J)]]])) (λc=>iK c 1 λH=>iK c 2 λL=>sK 5 c 4 λg r=>sK 1 c 5 λh s=>jn (λt=>aB (decide (L=(2:Int))) (aA Is tH [V1] λu=>sK 5 u 1 λM N=>az (0<=(0:Int)/\(0:Int)<(g:Int)) (oK H (aA Is rk [[Cz c 0],[vI (H+1)],[vI 2]] λO=>iK O 0 λv=>az (bt (1+v)) (az (0<=(0:Int)/\(0:Int)<(h:Int)) (t [[Cz c 0],[vI H],[vI L],ab c 3,[.sl g 5 (cQ r (0*5+0) (cls (ab u 0) 0 4 [.sl M 5 N]))],[.sl h 1 (cQ s (0*1+0) [vI (1+v)])]]))))) (t [[Cz c 0],[vI H],[vI L],ab c 3,[.sl g 5 r],[.sl h 1 s]])) (λb=>iK b 1 λw=>iK b 2 λP=>sK 5 b 4 λi x=>sK 1 b 5 λj y=>jn (λz=>aB (decide (P=(3:Int))) (az (0<=(0:Int)/\(0:Int)<(i:Int)) (az (0<=(0:Int)/\(0:Int)<(j:Int)) (z [[Cz b 0],[vI w],[.sl i 5 (cQ x (0*5+0) (ab b 3))],[.sl j 1 (cQ y (0*1+0) [vI 1])]]))) (z [[Cz b 0],[vI w],[.sl i 5 x],[.sl j 1 y]])) (λd=>iK d 1 λA=>sK 5 d 2 λl B=>sK 1 d 3 λm C=>az (bt (A+2)) (aA Is rk [[Cz d 0],[vI (A+2)],[vI 3]] λQ=>iK Q 0 λn=>jn (λD=>aB (decide (n=(1:Int))) (az (aO (l+1) 57) (az (aO (m+1) 9) (D [[vI n],[.sl (l+1) 5 (B++(V1))],[.sl (m+1) 1 (C++[vI 1])]]))) (D [[vI n],[.sl l 5 B],[.sl m 1 C]])) (λe=>iK e 0 λR=>sK 5 e 1 λo E=>sK 1 e 2 λp F=>jn (λG=>aB (decide (R=(2:Int))) (az (aO (o+1) 57) (az (aO (p+1) 9) (G [[.sl (o+1) 5 (E++(V2))],[.sl (p+1) 1 (F++[vI 0])]]))) (G [[.sl o 5 E],[.sl p 1 F]])) (λf=>sK 5 f 0 λS T=>sK 1 f 1 λU V=>K [[.sl S 5 T],[.sl U 1 V]])))))))) [vI 1,vI 0,vI 0,vI 0,.sl 0 5 []]) [vI 0,vI 0,vI 0,vI 0,.sl 0 5 []])
theorem w115:Wd (cD [rk,tH]) ⟨[],[(7,⟨[hD 0,hI 1,hP 5 0,hI 8,hW 9 1,hW 10 2],[hA 0 46 5,hR 1 46 5,hR 2 3 1]⟩),(10,⟨[hD 0,hI 1,hP 5 0,hI 8,hW 9 1,hW 10 2],[hA 0 46 5,hR 1 46 5,hR 2 3 1]⟩),(13,⟨[hD 0,hI 1,hW 9 0,hW 10 1],[hR 0 46 5,hR 1 3 1]⟩),(17,⟨[hW 9 0,hW 10 1,hI 11],[hR 0 46 5,hR 1 3 1]⟩),(20,⟨[hW 9 0,hW 10 1],[hR 0 46 5,hR 1 3 1]⟩)],[]⟩ s115 g115:=Wk
def g32:Tx:=λIs a K=>iK a 2 λz1=>sK 31 a 4 λn2 c3=>aA Is s116 [[vI 65536],cls (ab a 3) 0 10 [],[.sl n2 31 c3]] λR=>iK R 0 λz5=>sK 31 R 2 λn6 c7=>aA Is s117 [[Cz a 1],ab a 0] λr8=>sK 9 r8 0 λn9 S=>jn (λT=>aw (cell (ab R 1) 4) λz13=>(λV2=>aB (decide (z13<=(0:Int))) (T [[Cz a 1],[vI (min z1 0)],[vI z5],cls (ab R 1) 0 10 [],ab a 0,V2,[.sl n9 9 S],[.sl n6 31 c7]]) (T [[Cz a 1],[vI z1],[vI z5],cls (ab R 1) 0 10 [],ab a 0,V2,[.sl n9 9 S],[.sl n6 31 c7]])) [vI 0,vI 0,vI 0,vI 0,vI 0,vI 0,vI 0,vI 0,vI 0,vI 0,vI 0,vI 0,.sl 0 5 [],.sl 0 15 [],.sl 0 1 []]) (λe=>iK e 1 λP=>iK e 2 λf=>sK 9 e 6 λg U=>sK 31 e 7 λz A=>jn (λV=>(λV4=>aB (decide ((0:Int)<(g:Int))) (aB (decide (P<=(0:Int))) (az ((3:Int)≠0/\bt (RE f 3)) (az ((g:Int)≠0) (az (0<=(Rt (RE f 3) (g:Int))/\(Rt (RE f 3) (g:Int))<(g:Int)) (aA Is Kr [el U 9 (Qr (Rt (RE f 3) (g:Int))),cls (ab e 3) 0 10 [],[.sl z 31 A]] λB=>sK 1 B 1 λn23 c24=>sK 31 B 3 λn25 c26=>K [cls (ab B 0) 0 14 [],[.sl n23 1 c24],cls (ab B 2) 0 10 [],[.sl n25 31 c26]])))) (az ((3:Int)≠0) (aB (decide ((Rt f 3)=(0:Int))) (az ((3:Int)≠0/\bt (RE f 3)) (az ((g:Int)≠0) (az (0<=(Rt (RE f 3) (g:Int))/\(Rt (RE f 3) (g:Int))<(g:Int)) (aA Is Kr [el U 9 (Qr (Rt (RE f 3) (g:Int))),cls (ab e 3) 0 10 [],[.sl z 31 A]] λC=>sK 1 C 1 λn28 c29=>sK 31 C 3 λn30 c31=>K [cls (ab C 0) 0 14 [],[.sl n28 1 c29],cls (ab C 2) 0 10 [],[.sl n30 31 c31]])))) (V V4)))) (V V4)) [[Cz e 0],[vI P],[vI f],cls (ab e 3) 0 10 [],ab e 4,ab e 5,[.sl z 31 A]]) (λb=>iK b 1 λc=>iK b 2 λd=>sK 31 b 6 λh i=>(λV1=>(λV3=>aB (decide (c<=(0:Int))) (az ((3:Int)≠0/\bt (RE d 3)) (aA Is Kq [ab b 4,[Cz b 0],[vI (RE d 3)],[vI c],cls (ab b 3) 0 10 [],[.sl h 31 i]] λD=>sK 1 D 1 λn37 c38=>sK 31 D 3 λn39 c40=>K [cls (ab D 0) 0 14 [],[.sl n37 1 c38],cls (ab D 2) 0 10 [],[.sl n39 31 c40]])) (az ((3:Int)≠0/\bt (RE d 3)) (az ((12:Int)≠0) (az ((36:Int)≠0/\bt (RE d 36)) (aB (decide ((Rt (RE d 3) 12)=(0:Int))) (az (bt (c-1)) (aA Is lf V3 λE=>sK 1 E 1 λn42 c43=>sK 31 E 3 λn44 c45=>az (bt (c-1)) (aA Is lf [ab b 4,[Cz b 0],[vI (c-1)],cls (ab E 2) 0 10 [],[.sl n44 31 c45]] λF=>sK 1 F 1 λn47 c48=>sK 31 F 3 λn49 c50=>az (bt (c-1)) (aA Is lf [ab b 4,[Cz b 0],[vI (c-1)],cls (ab F 2) 0 10 [],[.sl n49 31 c50]] λG=>sK 1 G 1 λn52 c53=>sK 31 G 3 λn54 c55=>aA Is il [[vI 5],[vI 0],[.sl 3 15 (cls (ab E 0) 0 14 (.sl n42 1 c43::cls (ab F 0) 0 14 (.sl n47 1 c48::cls (ab G 0) 0 14 [.sl n52 1 c53])))],cls (ab G 2) 0 10 [],[.sl n54 31 c55]] λH=>sK 1 H 1 λn57 c58=>sK 31 H 3 λn59 c60=>K [cls (ab H 0) 0 14 [],[.sl n57 1 c58],cls (ab H 2) 0 10 [],[.sl n59 31 c60]])))) (aB (decide ((Rt (RE d 3) 12)=(1:Int))) (az (bt (c-1)) (aA Is lf V3 λI=>sK 1 I 1 λn62 c63=>sK 31 I 3 λn64 c65=>az (bt (c-1)) (aA Is lf [ab b 4,[Cz b 0],[vI (c-1)],cls (ab I 2) 0 10 [],[.sl n64 31 c65]] λJ=>sK 1 J 1 λn67 c68=>sK 31 J 3 λn69 c70=>az (bt (c-1)) (aA Is lf [ab b 4,[Cz b 0],[vI (c-1)],cls (ab J 2) 0 10 [],[.sl n69 31 c70]] λL=>sK 1 L 1 λn72 c73=>sK 31 L 3 λn74 c75=>aA Is il [[vI 5],[vI 0],[.sl 3 15 (cls (ab I 0) 0 14 (.sl n62 1 c63::cls (ab J 0) 0 14 (.sl n67 1 c68::cls (ab L 0) 0 14 [.sl n72 1 c73])))],cls (ab L 2) 0 10 [],[.sl n74 31 c75]] λM=>sK 1 M 1 λn77 c78=>sK 31 M 3 λn79 c80=>K [cls (ab M 0) 0 14 [],[.sl n77 1 c78],cls (ab M 2) 0 10 [],[.sl n79 31 c80]])))) (aB (decide ((Rt (RE d 3) 12)=(2:Int))) (sK 9 b 0 λv _=>az ((v:Int)≠0) (sK 9 b 0 λn83 W=>az (0<=(Rt (RE d 36) (v:Int))/\(Rt (RE d 36) (v:Int))<(n83:Int)) (az (bt (c-1)) (aA Is lf [sub (el W 9 (Qr (Rt (RE d 36) (v:Int)))) 4 5,[Cz b 0],[vI (c-1)],cls (ab b 3) 0 10 [],[.sl h 31 i]] λN=>sK 1 N 1 λn86 c87=>sK 31 N 3 λn88 c89=>aA Is il [[vI 6],[vI 0],[.sl 0 15 []],cls (ab N 2) 0 10 [],[.sl n88 31 c89]] λw=>sK 1 w 1 λ_ _=>sK 31 w 3 λn93 c94=>aA Is DA [cls (ab w 2) 0 10 [],[.sl n93 31 c94]] λQ=>sK 31 Q 2 λn96 c97=>aA Is Dz [[Cz b 0],cls (ab w 0) 0 3 (vI 0::cls (sub (el W 9 (Qr (Rt (RE d 36) (v:Int)))) 4 5) 0 5 [])] λr98=>sK 9 r98 0 λn99 X=>az (bt (c-1)) (aA Is lf [ab b 4,[.sl n99 9 X],[vI (c-1)],cls (ab Q 1) 0 10 [],[.sl n96 31 c97]] λl=>sK 1 l 1 λY Z=>sK 31 l 3 λn104 c105=>K [cls (ab w 0) 0 13 ([.sl 2 15 (cls (ab N 0) 0 14 (.sl n86 1 c87::cls (ab l 0) 0 14 [.sl Y 1 Z]))]),[.sl 1 1 [Cz Q 0]],cls (ab l 2) 0 10 [],[.sl n104 31 c105]]))))) (aB (decide ((Rt (RE d 3) 12)=(3:Int))) (aA Is Nk V1 λm=>sK 1 m 1 λn107 c108=>sK 31 m 3 λn109 c110=>K [cls (ab m 0) 0 14 [],[.sl n107 1 c108],cls (ab m 2) 0 10 [],[.sl n109 31 c110]]) (aB (decide ((Rt (RE d 3) 12)=(4:Int))) (aA Is Nk V1 λn=>sK 1 n 1 λn112 c113=>sK 31 n 3 λn114 c115=>K [cls (ab n 0) 0 14 [],[.sl n112 1 c113],cls (ab n 2) 0 10 [],[.sl n114 31 c115]]) (aB (decide ((Rt (RE d 3) 12)=(5:Int))) (aA Is s124 V1 λo=>sK 1 o 1 λn117 c118=>sK 31 o 3 λn119 c120=>K [cls (ab o 0) 0 14 [],[.sl n117 1 c118],cls (ab o 2) 0 10 [],[.sl n119 31 c120]]) (aB (decide ((Rt (RE d 3) 12)=(6:Int))) (aA Is Nj V1 λp=>sK 1 p 1 λn122 c123=>sK 31 p 3 λn124 c125=>K [cls (ab p 0) 0 14 [],[.sl n122 1 c123],cls (ab p 2) 0 10 [],[.sl n124 31 c125]]) (aB (decide ((Rt (RE d 3) 12)=(7:Int))) (aA Is Nj V1 λq=>sK 1 q 1 λn127 c128=>sK 31 q 3 λn129 c130=>K [cls (ab q 0) 0 14 [],[.sl n127 1 c128],cls (ab q 2) 0 10 [],[.sl n129 31 c130]]) (aB (decide ((Rt (RE d 3) 12)=(8:Int))) (aA Is tH [[vI 0,vI 0,vI 0,vI 0,.sl 0 5 []]] λO=>sK 5 O 1 λn132 c133=>az (bt (c-1)) (aA Is lf [cls (ab O 0) 0 4 [.sl n132 5 c133],[Cz b 0],[vI (c-1)],cls (ab b 3) 0 10 [],[.sl h 31 i]] λr=>sK 1 r 1 λn135 c136=>sK 31 r 3 λn137 c138=>az (bt (c-1)) (aA Is lf [ab b 4,[Cz b 0],[vI (c-1)],cls (ab r 2) 0 10 [],[.sl n137 31 c138]] λs=>sK 1 s 1 λn140 c141=>sK 31 s 3 λn142 c143=>aA Is il [[vI 12],[vI 0],[.sl 0 15 []],cls (ab s 2) 0 10 [],[.sl n142 31 c143]] λj=>sK 1 j 1 λ_ _=>sK 31 j 3 λn147 c148=>aA Is DA [cls (ab j 2) 0 10 [],[.sl n147 31 c148]] λx=>sK 31 x 2 λn150 c151=>aA Is DA [cls (ab x 1) 0 10 [],[.sl n150 31 c151]] λy=>sK 31 y 2 λn153 c154=>aA Is Dz [[Cz b 0],cls (ab j 0) 0 3 ([vI 0,vI 0,vI 0,vI 0,vI 0,.sl 0 5 []])] λr155=>sK 9 r155 0 λn156 c157=>aA Is Dz [[.sl n156 9 c157],cls (ab j 0) 0 3 (vI 1::cls (ab b 4) 0 5 [])] λr158=>sK 9 r158 0 λn159 c160=>az (bt (c-1)) (aA Is lf [ab b 4,[.sl n159 9 c160],[vI (c-1)],cls (ab y 1) 0 10 [],[.sl n153 31 c154]] λt=>sK 1 t 1 λn162 c163=>sK 31 t 3 λn164 c165=>K [cls (ab j 0) 0 13 ([.sl 3 15 (cls (ab r 0) 0 14 (.sl n135 1 c136::cls (ab s 0) 0 14 (.sl n140 1 c141::cls (ab t 0) 0 14 [.sl n162 1 c163])))]),[.sl 2 1 [Cz x 0,Cz y 0]],cls (ab t 2) 0 10 [],[.sl n164 31 c165]])))) (aA Is zd V1 λu=>sK 1 u 1 λn167 c168=>sK 31 u 3 λn169 c170=>K [cls (ab u 0) 0 14 [],[.sl n167 1 c168],cls (ab u 2) 0 10 [],[.sl n169 31 c170]])))))))))))))) [[vI 1,vI 0,vI 0,vI 0,.sl 0 5 []],[Cz b 0],[vI (c-1)],cls (ab b 3) 0 10 [],[.sl h 31 i]]) [ab b 4,[Cz b 0],[vI (RE d 36)],[vI c],cls (ab b 3) 0 10 [],[.sl h 31 i]]))
theorem w32:Wd (cD [lf,tH,s116,s117,Kr,Kq,il,DA,Dz,Nk,s124,Nj,zd]) ⟨[],[(5,⟨[hP 0 0,hD 2,hI 3,hP 5 2,hP 8 3,hI 9,hW 10 4],[(0,.b 88 (.d::.w 1::ds 9)),hA 2 46 5,hA 3 50 15,hR 4 90 9,hR 1 52 31]⟩),(7,⟨[hP 0 0,hD 2,hI 3,hP 5 2,hP 8 3,hI 9],[(0,.b 88 (.d::.w 1::ds 9)),hA 2 46 5,hA 3 50 15,hR 1 52 31]⟩)],[]⟩ lf g32:=Wk
def g116:Tx:=λIs a K=>iK a 0 λc=>sK 31 a 2 λd e=>aw (cell (ab a 1) 2) λb=>oK b (az (bt ((b+1)-1)) (aA Is rk [[cell (ab a 1) 1],[vI ((b+1)-1)],[vI c]] λf=>iK f 0 λg=>K [[vI g],Cz a 1::cell (ab a 1) 1::vI (b+1)::cls (ab a 1) 3 7 [],[.sl d 31 e]]))
theorem w116:Wd (cD [rk]) hZ s116 g116:=Wk
def g117:Tx:=λIs a K=>Lp (λd b=>iK b 1 λe=>sK 9 b 3 λg h=>sK 9 b 0 λs _=>lK e s (jn (λr=>sK 9 b 0 λi j=>kI e i (aA Is y9 [sub (eT j 9 e) 4 5,ab b 2] λl=>bK l 0 λm=>aB m (sK 9 b 0 λn o=>kI e n (az (aO (g+1) 89) (r [[Cz b 0],[vI e],ab b 2,[.sl (g+1) 9 (h++((eT o 9 e)++[]))]]))) (r [[Cz b 0],[vI e],ab b 2,[.sl g 9 h]]))) (λc=>iK c 1 λf=>sK 9 c 3 λp q=>oK f (d [[Cz c 0],[vI (f+1)],ab c 2,[.sl p 9 q]]))) (K [[.sl g 9 h]])) [[Cz a 0],[vI 0],ab a 1,[.sl 0 9 []]]
theorem w117:Wd (cD [y9]) ⟨[(3,⟨[hD 0,hP 3 0,hW 5 1,hI 6],[hA 0 46 5,hR 1 90 9]⟩)],[(4,⟨[hD 0,hP 3 0,hW 5 1,hI 6],[hA 0 46 5,hR 1 90 9]⟩)],[]⟩ s117 g117:=Wk
def g186:Tx:=λIs a K=>iK a 0 λn=>iK a 1 λo=>aB (!(decide (n=o))) (K [[vB false]]) (tK (sub (ab a 0) 1 3) λp q r=>tK (sub (ab a 1) 1 3) λs t u=>aB (!(decide (p=s/\q=t/\r=u))) (K [[vB false]]) (aH 5 (cell (ab a 0) 4) λv _=>aH 5 (cell (ab a 1) 4) λe _=>aB (!(decide ((v:Int)=(e:Int)))) (K [[vB false]]) (Lp (λd b=>iK b 0 λc=>aH 5 (cell (ab b 1) 4) λf _=>lK c f (aH 5 (cell (ab b 1) 4) λg h=>kI c g (aH 5 (cell (ab b 2) 4) λi j=>kI c i (aA Is y9 [eT h 5 c,eT j 5 c] λl=>bK l 0 λm=>aB (!m) (K [[vB false]]) (oK c (d [[vI (c+1)],ab b 1,ab b 2]))))) (K [[vB true]])) [[vI 0],ab a 0,ab a 1])))
theorem w186:Wd (cD [y9]) ⟨[(4,⟨[hP 2 0,hP 3 1,hI 5],[hA 0 46 5,hA 1 46 5]⟩)],[],[]⟩ y9 g186:=Wk
def g118:Tx:=λIs a K=>sK 31 a 2 λc d=>aA Is il [[vI 2],[cell (ab a 0) 3],[.sl 0 15 []],cls (ab a 1) 0 10 [],[.sl c 31 d]] λb=>sK 1 b 1 λe f=>sK 31 b 3 λg h=>K [cls (ab b 0) 0 5 (cls (sub (ab a 0) 0 3) 0 3 (cls (ab b 0) 8 6 [])),[.sl e 1 f],cls (ab b 2) 0 10 [],[.sl g 31 h]]
theorem w118:Wd (cD [il]) hZ Kr g118:=Wk
def g120:Tx:=λ_ a K=>iK a 0 λd=>iK a 1 λe=>sK 31 a 4 λf g=>aw (cell (ab a 3) 3) λb=>oK b (aw (cell (ab a 3) 4) λc=>az (bt (c-1)) (az (bt ((b+1)-1)) (K [[vI 0,vI 0,vI ((b+1)-1),vI d,vI e,vI 0,vI 0,vI 0,vI 0,vI 0,vI 0,vI 0,.sl 0 5 [],Cz a 2],[.sl 0 1 []],cls (ab a 3) 0 3 (vI (b+1)::vI (c-1)::cls (ab a 3) 5 5 []),[.sl f 31 g]])))
theorem w120:Wd (cD []) hZ il g120:=Wk
def g119:Tx:=λIs a K=>iK a 2 λy=>iK a 3 λH=>sK 31 a 5 λI J=>iK a 0 λz5=>(λV1=>aB (decide (z5=(0:Int))) (az ((9:Int)≠0) (az (bt ((Rt y 9)-2)) (jn (λk6=>az ((29:Int)≠0) (aB (decide ((Rt y 29)=(3:Int))) (az ((2:Int)≠0) (az (bt (1099511627776-(Rt y 2))) (k6 [[vI (1099511627776-(Rt y 2))],cls (ab a 4) 0 10 [],V1,[.sl I 31 J]]))) (k6 [[vI ((Rt y 9)-2)],cls (ab a 4) 0 10 [],V1,[.sl I 31 J]]))) (λz=>iK z 0 λz8=>sK 31 z 3 λn9 X=>aA Is il [[vI 0],[vI z8],[.sl 0 15 []],cls (ab z 1) 0 10 [],[.sl n9 31 X]] λn=>sK 1 n 1 λY Z=>sK 31 n 3 λn14 c15=>K [cls (ab n 0) 0 14 [],[.sl Y 1 Z],cls (ab n 2) 0 10 [],[.sl n14 31 c15]])))) (iK a 0 λz16=>aB (decide (z16=(1:Int))) (az ((2:Int)≠0) (aA Is il [[vI 1],[vI (Rt y 2)],[.sl 0 15 []],cls (ab a 4) 0 10 [],[.sl I 31 J]] λo=>sK 1 o 1 λn18 c19=>sK 31 o 3 λn20 c21=>K [cls (ab o 0) 0 14 [],[.sl n18 1 c19],cls (ab o 2) 0 10 [],[.sl n20 31 c21]])) (iK a 0 λz22=>aB (decide (z22=(2:Int))) (jn (λA=>Lp (λp b=>iK b 1 λL=>iK b 2 λq=>iK b 3 λB=>sK 15 b 7 λi r=>sK 31 b 8 λs t=>(λV2=>az ((3:Int)≠0) (aB (decide (B<(Rt L 3))) (aB (decide ((0:Int)<=q)) (aw (cell (ab b 4) 4) λz34=>aB (decide ((0:Int)<z34)) (aH 5 (cell (ab b 5) 4) λn35 c36=>az (0<=(0:Int)/\(0:Int)<(n35:Int)) (az (bt (q-1)) (aA Is lf [el c36 5 0,[Cz b 0],[vI (q-1)],cls (ab b 4) 0 10 [],[.sl s 31 t]] λu=>sK 1 u 1 λn38 c39=>sK 31 u 3 λn40 c41=>az (aO (i+1) 169) (oK B (p [[Cz b 0],[vI L],[vI q],[vI (B+1)],cls (ab u 2) 0 10 [],ab b 5,ab b 6,[.sl (i+1) 15 (r++(cls (ab u 0) 0 14 [.sl n38 1 c39]))],[.sl n40 31 c41]]))))) (A V2)) (A V2)) (A V2))) [cls (ab b 4) 0 10 [],ab b 5,ab b 6,[.sl i 15 r],[.sl s 31 t]]) [[Cz a 1],[vI y],[vI H],[vI 0],cls (ab a 4) 0 10 [],ab a 0,V1,[.sl 0 15 []],[.sl I 31 J]]) (λg=>sK 15 g 3 λn42 c43=>sK 31 g 4 λn44 c45=>aA Is il [[vI 11],[vI 0],[.sl n42 15 c43],cls (ab g 0) 0 10 [],[.sl n44 31 c45]] λj=>sK 1 j 1 λn47 c48=>sK 31 j 3 λn49 c50=>aH 5 (cell (ab g 1) 4) λn51 c52=>az (0<=(0:Int)/\(0:Int)<(n51:Int)) (K [cls (ab j 0) 0 8 (cls (el c52 5 0) 0 5 [cell (ab j 0) 13]),[.sl n47 1 c48],cls (ab j 2) 0 10 [],[.sl n49 31 c50]]))) (aA Is s23 [[Cz a 4],sub (ab a 0) 1 3,[.sl I 31 J]] λf=>bK f 1 λ_=>sK 31 f 2 λC D=>aw (cell (ab f 0) 3) λz57=>aB (decide (z57=(1:Int))) (aH 11 (cell (ab f 0) 8) λM _=>az ((M:Int)≠0) (jn (λN=>aB (decide (H<(0:Int))) (N [[Cz a 1],[vI H],[vI 0],cls (ab a 4) 0 10 [],V1,ab f 0,[.sl C 31 D]]) (N [[Cz a 1],[vI H],[vI (Rt y (M:Int))],cls (ab a 4) 0 10 [],V1,ab f 0,[.sl C 31 D]])) (λd=>iK d 1 λO=>iK d 2 λE=>sK 31 d 6 λn64 c65=>aH 11 (cell (ab d 5) 8) λn66 c67=>kI E n66 (az (bt (O-1)) (aA Is lf [sub (eT c67 11 E) 4 5,[Cz d 0],[vI (O-1)],cls (ab d 3) 0 10 [],[.sl n64 31 c65]] λv=>sK 1 v 1 λn69 c70=>sK 31 v 3 λn71 c72=>aA Is il [[vI 9],[vI E],[.sl 1 15 (cls (ab v 0) 0 14 [.sl n69 1 c70])],cls (ab v 2) 0 10 [],[.sl n71 31 c72]] λl=>sK 1 l 1 λn74 c75=>sK 31 l 3 λn76 c77=>K [cls (ab l 0) 0 5 (cls (sub (ab d 5) 0 3) 0 3 (cls (ab l 0) 8 6 [])),[.sl n74 1 c75],cls (ab l 2) 0 10 [],[.sl n76 31 c77]]))))) (jn (λk78=>Lp (λw c=>iK c 1 λF=>iK c 2 λm=>sK 15 c 6 λG P=>sK 31 c 7 λQ R=>aH 11 (cell (ab c 5) 8) λn88 _=>lK m n88 (aH 11 (cell (ab c 5) 8) λn90 c91=>kI m n90 (az (bt (F-1)) (aA Is lf [sub (eT c91 11 m) 4 5,[Cz c 0],[vI (F-1)],cls (ab c 3) 0 10 [],[.sl Q 31 R]] λx=>sK 1 x 1 λn93 c94=>sK 31 x 3 λn95 c96=>az (aO (G+1) 169) (oK m (w [[Cz c 0],[vI F],[vI (m+1)],cls (ab x 2) 0 10 [],ab c 4,ab c 5,[.sl (G+1) 15 (P++(cls (ab x 0) 0 14 [.sl n93 1 c94]))],[.sl n95 31 c96]]))))) (k78 [cls (ab c 3) 0 10 [],ab c 4,ab c 5,[.sl G 15 P],[.sl Q 31 R]])) [[Cz a 1],[vI H],[vI 0],cls (ab a 4) 0 10 [],V1,ab f 0,[.sl 0 15 []],[.sl C 31 D]]) (λh=>sK 15 h 3 λn97 c98=>sK 31 h 4 λn99 S=>aA Is il [[vI 7],[vI 0],[.sl n97 15 c98],cls (ab h 0) 0 10 [],[.sl n99 31 S]] λe=>sK 1 e 1 λT U=>sK 31 e 3 λV W=>K [cls (ab e 0) 0 5 (cls (sub (ab h 2) 0 3) 0 3 (cls (ab e 0) 8 6 [])),[.sl T 1 U],cls (ab e 2) 0 10 [],[.sl V 31 W]])))))) [vI 0,vI 0,vI 0,vI 0,vI 0,vI 0,vI 0,vI 0,vI 0,vI 0,vI 0,vI 0,.sl 0 5 [],.sl 0 15 [],.sl 0 1 []]
theorem w119:Wd (cD [s23,lf,il]) ⟨[(11,⟨[hP 0 0,hD 2,hI 3,hI 4,hP 6 2,hP 10 3,hW 12 4,hI 13],[(0,.b 88 (.d::.w 1::ds 9)),hA 2 46 5,hA 3 50 15,hR 4 50 15,hR 1 52 31]⟩),(28,⟨[hP 0 0,hD 2,hI 4,hP 10 2,hP 15 3,hW 20 4,hI 21],[(0,.b 88 (.d::.w 1::ds 9)),hA 2 50 15,hA 3 52 31,hR 4 50 15,hR 1 52 31]⟩)],[(5,⟨[hP 0 0,hP 10 2,hI 11],[(0,.b 88 (.d::.w 1::ds 9)),hA 2 50 15,hR 1 52 31]⟩),(14,⟨[hP 0 0,hP 6 2,hP 10 3,hW 12 4],[(0,.b 88 (.d::.w 1::ds 9)),hA 2 46 5,hA 3 50 15,hR 4 50 15,hR 1 52 31]⟩),(22,⟨[hP 0 0,hD 2,hI 4,hP 10 2,hP 15 3,hI 17],[(0,.b 88 (.d::.w 1::ds 9)),hA 2 50 15,hA 3 52 31,hR 1 52 31]⟩),(31,⟨[hP 0 0,hP 10 2,hP 15 3,hW 20 4],[(0,.b 88 (.d::.w 1::ds 9)),hA 2 50 15,hA 3 52 31,hR 4 50 15,hR 1 52 31]⟩)],[]⟩ Kq g119:=Wk
def g23:Tx:=λ_ a K=>sK 31 a 2 λq r=>(λV1=>jn (λs=>Lp (λc b=>iK b 1 λd=>sK 31 b 2 λe f=>lK d e (kI d e (tK (sub (eT f 31 d) 0 3) λg h i=>iK b 4 λj=>aw (cell (ab b 4) 1) λl=>aw (cell (ab b 4) 2) λm=>aB (decide (g=j/\h=l/\i=m)) (kI d e (K [eT f 31 d,[vB true],[.sl e 31 f]])) (oK d (c [[Cz b 0],[vI (d+1)],[.sl e 31 f],[Cz b 3],ab b 4,ab b 5])))) (s [[Cz b 0],[.sl e 31 f],ab b 5])) [[Cz a 0],[vI 0],[.sl q 31 r],[Cz a 0],ab a 1,V1]) (λn=>sK 31 n 1 λo p=>K [V1,[vB false],[.sl o 31 p]])) [vI 0,vI 0,vI 0,vI 0,vI 0,vI 0,vI 0,.v (.string (QX #[])),.sl 0 11 [],vI 0,vI 0,vI 0,vI 0,.sl 0 5 [],vI 0,vI 0,vI 0,vI 0,vI 0,vI 0,vI 0,vI 0,vI 0,vI 0,vI 0,vI 0,.sl 0 5 [],.sl 0 15 [],.sl 0 1 [],vI 0,.sl 0 1 []]
theorem w23:Wd (cD []) ⟨[(2,⟨[(0,.g [.d,.w 0]),hP 2 1,hP 3 2,hP 4 3,hI 6],[hR 0 52 31,(1,.b 26 [.d,.w 0]),hA 2 42 3,hA 3 52 31]⟩)],[(6,⟨[(0,.g [.d,.w 0]),hP 4 1],[hR 0 52 31,hA 1 52 31]⟩)],[]⟩ s23 g23:=Wk
def g123:Tx:=λIs a K=>iK a 2 λz1=>iK a 3 λt=>sK 31 a 5 λn3 c4=>aA Is s187 [[vI 1],[vI z1],cls (ab a 4) 0 10 [],[.sl n3 31 c4]] λu=>iK u 0 λn=>sK 31 u 2 λw o=>aB (decide (n<(0:Int))) (aA Is zd [ab a 0,[Cz a 1],[vI z1],[vI t],cls (ab u 1) 0 10 [],[.sl w 31 o]] λv=>sK 1 v 1 λx y=>sK 31 v 3 λz A=>K [cls (ab v 0) 0 14 [],[.sl x 1 y],cls (ab v 2) 0 10 [],[.sl z 31 A]]) (kI n w (aA Is w5 [sub (eT o 31 n) 0 3] λB=>az (bt (t-2)) (aA Is lf [ab B 0,[Cz a 1],[vI (t-2)],cls (ab u 1) 0 10 [],[.sl w 31 o]] λf=>sK 1 f 1 λC D=>sK 31 f 3 λE F=>aA Is il [[vI 10],[vI 0],[.sl 0 15 []],cls (ab f 2) 0 10 [],[.sl E 31 F]] λe=>sK 1 e 1 λG H=>sK 31 e 3 λI J=>jn (λL=>Lp (λg b=>iK b 1 λi=>iK b 2 λd=>sK 15 b 7 λj p=>sK 31 b 9 λq r=>sK 1 b 10 λl s=>aH 11 (cell (ab b 6) 8) λM _=>lK d M (aH 11 (cell (ab b 6) 8) λN O=>kI d N (aA Is Dz [[Cz b 0],cls (ab b 8) 0 3 (vI d::cls (sub (eT O 11 d) 4 5) 0 5 [])] λP=>sK 9 P 0 λQ R=>az (bt (i-1)) (aA Is lf [ab b 4,[.sl Q 9 R],[vI (i-1)],cls (ab b 3) 0 10 [],[.sl q 31 r]] λh=>sK 1 h 1 λS T=>sK 31 h 3 λU V=>az (aO (j+1) 169) (aA Is DA [cls (ab h 2) 0 10 [],[.sl U 31 V]] λm=>sK 31 m 2 λW X=>az (aO (l+1) 17) (oK d (g [[Cz b 0],[vI i],[vI (d+1)],cls (ab m 1) 0 10 [],ab b 4,ab b 5,ab b 6,[.sl (j+1) 15 (p++(cls (ab h 0) 0 14 [.sl S 1 T]))],cls (ab b 8) 0 14 [],[.sl W 31 X],[.sl (l+1) 1 (s++[Cz m 0])]])))))) (L [cls (ab b 3) 0 10 [],ab b 5,[.sl j 15 p],cls (ab b 8) 0 14 [],[.sl q 31 r],[.sl l 1 s]])) [[Cz a 1],[vI t],[vI 0],cls (ab e 2) 0 10 [],ab a 0,[vI 0,vI 0,vI 0,vI 0,vI 0,vI 0,vI 0,vI 0,vI 0,vI 0,vI 0,vI 0,.sl 0 5 [],.sl 0 15 [],.sl 0 1 []],eT o 31 n,[.sl 1 15 (cls (ab f 0) 0 14 [.sl C 1 D])],cls (ab e 0) 0 5 (cls (sub (eT o 31 n) 0 3) 0 3 (cls (ab e 0) 8 6 [])),[.sl I 31 J],[.sl G 1 H]]) (λc=>sK 15 c 2 λY Z=>sK 31 c 4 λn54 c55=>sK 1 c 5 λn56 c57=>K [cls (ab c 3) 0 13 [.sl Y 15 Z],[.sl n56 1 c57],cls (ab c 0) 0 10 [],[.sl n54 31 c55]]))))
theorem w123:Wd (cD [lf,w5,il,DA,Dz,zd,s187]) ⟨[(9,⟨[hP 0 0,hD 2,hI 4,hP 6 2,hP 10 3,hP 12 4,hW 13 5,hP 14 6,hI 15],[(0,.b 88 (.d::.w 1::ds 9)),hA 2 46 5,hA 3 50 15,hA 4 52 31,hR 5 50 15,(6,.b 50 (ds 14++[.w 7])),hR 1 52 31,hR 7 9 1]⟩)],[(13,⟨[hP 0 0,hP 10 2,hW 13 3,hP 14 4],[(0,.b 88 (.d::.w 1::ds 9)),hA 2 50 15,hR 3 50 15,(4,.b 50 (ds 14++[.w 5])),hR 1 52 31,hR 5 9 1]⟩)],[]⟩ Nk g123:=Wk
def g187:Tx:=λIs a K=>iK a 0 λy=>iK a 1 λz=>sK 31 a 3 λx A=>Lp (λj d=>iK d 0 λp=>iK d 1 λi=>iK d 2 λe=>iK d 3 λc=>sK 31 d 5 λf g=>aB (decide (c<e)) (jn (λl=>az (bt (i+c)) (az (e≠0) (az (0<=(Rt (i+c) e)/\(Rt (i+c) e)<(f:Int)) (aw (cell (el g 31 (Qr (Rt (i+c) e))) 3) λq=>(λV1=>aB (decide (q=p)) (aA Is Dx [V1,cls (ab d 4) 0 10 [],[.sl f 31 g]] λh=>bK h 0 λr=>sK 31 h 2 λm n=>aB r (K [V1,cls (ab h 1) 0 10 [],[.sl m 31 n]]) (l [[vI p],[vI i],[vI e],[vI c],cls (ab h 1) 0 10 [],[.sl m 31 n]])) (l [[vI p],[vI i],[vI e],[vI c],cls (ab d 4) 0 10 [],[.sl f 31 g]])) [vI (Rt (i+c) e)])))) (λb=>iK b 0 λs=>iK b 1 λt=>iK b 2 λu=>iK b 3 λo=>sK 31 b 5 λv w=>oK o (j [[vI s],[vI t],[vI u],[vI (o+1)],cls (ab b 4) 0 10 [],[.sl v 31 w]]))) (K [[vI (-1)],cls (ab d 4) 0 10 [],[.sl f 31 g]])) [[vI y],[vI z],[vI x],[vI 0],cls (ab a 2) 0 10 [],[.sl x 31 A]]
theorem w187:Wd (cD [Dx]) ⟨[(3,⟨[hP 0 0,hI 1,hI 2,hI 7,hI 8],[(0,.b 88 (.d::.w 1::ds 9)),hR 1 52 31]⟩)],[(4,⟨[hP 0 0,hI 1,hI 2,hI 7,hI 8],[(0,.b 88 (.d::.w 1::ds 9)),hR 1 52 31]⟩)],[]⟩ s187 g187:=Wk
def g188:Tx:=λ_ a K=>iK a 0 λc=>sK 31 a 2 λd b=>kI c d (aw (cell (ab a 1) 5) λo=>aB (decide (c<o)) (tK (sub (eT b 31 c) 4 3) λp q r=>aw (cell (ab a 1) 6) λs=>aw (cell (ab a 1) 7) λt=>aw (cell (ab a 1) 8) λe=>aB (decide (p=s/\q=t/\r=e)) (K [[vB true],cls (ab a 1) 0 10 [],[.sl d 31 b]]) (sK 6 a 1 λf g=>az (0<=(0:Int)/\(0:Int)<(f:Int)) (tK (sub (eT b 31 c) 4 3) λh i j=>tK (sub (el g 6 0) 0 3) λl m n=>K [[vB (decide (h=l/\i=m/\j=n))],cls (ab a 1) 0 10 [],[.sl d 31 b]]))) (K [[vB false],cls (ab a 1) 0 10 [],[.sl d 31 b]]))
theorem w188:Wd (cD []) hZ Dx g188:=Wk
def g126:Tx:=λIs a K=>iK a 2 λi=>iK a 3 λf=>sK 31 a 5 λz A=>iK a 0 λz5=>(λV2=>(λV4=>aB (decide (z5=(0:Int))) (az ((6:Int)≠0) (aB (decide ((Rt i 6)=(5:Int))) (aA Is tH [V4] λr6=>sK 5 r6 1 λn7 c8=>az (bt (f-1)) (aA Is lf [cls (ab r6 0) 0 4 [.sl n7 5 c8],[Cz a 1],[vI (f-1)],cls (ab a 4) 0 10 [],[.sl z 31 A]] λW=>sK 1 W 1 λX Y=>sK 31 W 3 λZ c13=>aA Is il [[vI 4],[vI 11],[.sl 1 15 (cls (ab W 0) 0 14 [.sl X 1 Y])],cls (ab W 2) 0 10 [],[.sl Z 31 c13]] λl=>sK 1 l 1 λn15 c16=>sK 31 l 3 λn17 c18=>K [cls (ab l 0) 0 14 [],[.sl n15 1 c16],cls (ab l 2) 0 10 [],[.sl n17 31 c18]])) (az (bt (f-1)) (aA Is lf V2 λm=>sK 1 m 1 λn20 c21=>sK 31 m 3 λn22 c23=>az ((5:Int)≠0) (az (0<=(Rt i 5)/\(Rt i 5)<(5:Int)) (az (bt (f-1)) (aA Is lf [ab a 0,[Cz a 1],[vI (f-1)],cls (ab m 2) 0 10 [],[.sl n22 31 c23]] λn=>sK 1 n 1 λn25 c26=>sK 31 n 3 λn27 c28=>aA Is il [[vI 4],[cell (el [vI 0,vI 1,vI 2,vI 3,vI 4] 1 (Qr (Rt i 5))) 0],[.sl 2 15 (cls (ab m 0) 0 14 (.sl n20 1 c21::cls (ab n 0) 0 14 [.sl n25 1 c26]))],cls (ab n 2) 0 10 [],[.sl n27 31 c28]] λo=>sK 1 o 1 λn30 c31=>sK 31 o 3 λn32 c33=>K [cls (ab o 0) 0 14 [],[.sl n30 1 c31],cls (ab o 2) 0 10 [],[.sl n32 31 c33]]))))))) (iK a 0 λz34=>(λV1=>aB (decide (z34=(1:Int))) (az ((6:Int)≠0) (aB (decide ((Rt i 6)=(0:Int))) (az (bt (f-1)) (aA Is lf V2 λp=>sK 1 p 1 λn36 c37=>sK 31 p 3 λn38 c39=>aA Is il [[vI 4],[vI 9],[.sl 1 15 (cls (ab p 0) 0 14 [.sl n36 1 c37])],cls (ab p 2) 0 10 [],[.sl n38 31 c39]] λq=>sK 1 q 1 λn41 c42=>sK 31 q 3 λn43 c44=>K [cls (ab q 0) 0 14 [],[.sl n41 1 c42],cls (ab q 2) 0 10 [],[.sl n43 31 c44]])) (jn (λC=>az ((6:Int)≠0) (aB (decide ((Rt i 6)=(2:Int))) (C [[Cz a 1],[vI i],[vI f],[vI 6],cls (ab a 4) 0 10 [],ab a 0,V1,V4,[.sl z 31 A]]) (C [[Cz a 1],[vI i],[vI f],[vI 5],cls (ab a 4) 0 10 [],ab a 0,V1,V4,[.sl z 31 A]]))) (λb=>iK b 1 λg=>iK b 2 λD=>iK b 3 λz49=>sK 31 b 8 λE F=>jn (λG=>az ((6:Int)≠0) (aB (decide ((Rt g 6)=(3:Int))) (az ((6:Int)≠0/\bt (RE g 6)) (sK 9 b 0 λr _=>az ((r:Int)≠0) (sK 9 b 0 λn56 c57=>az (0<=(Rt (RE g 6) (r:Int))/\(Rt (RE g 6) (r:Int))<(n56:Int)) (G [[Cz b 0],[vI g],[vI D],[vI 6],cls (ab b 4) 0 10 [],ab b 5,ab b 6,sub (el c57 9 (Qr (Rt (RE g 6) (r:Int)))) 4 5,[.sl E 31 F]])))) (G [[Cz b 0],[vI g],[vI D],[vI z49],cls (ab b 4) 0 10 [],ab b 5,ab b 6,ab b 7,[.sl E 31 F]]))) (λc=>iK c 1 λj=>iK c 2 λH=>iK c 3 λz60=>sK 31 c 8 λI J=>jn (λL=>az ((6:Int)≠0) (aB (decide ((4:Int)<=(Rt j 6))) (az ((6:Int)≠0) (az (bt ((Rt j 6)-4)) (az (0<=((Rt j 6)-4)/\((Rt j 6)-4)<(2:Int)) (L [[Cz c 0],[vI H],[cell (el [vI 7,vI 8] 1 (Qr ((Rt j 6)-4))) 0],cls (ab c 4) 0 10 [],ab c 6,ab c 5,[.sl I 31 J]])))) (L [[Cz c 0],[vI H],[vI z60],cls (ab c 4) 0 10 [],ab c 6,ab c 7,[.sl I 31 J]]))) (λd=>iK d 1 λs=>iK d 2 λz66=>sK 31 d 6 λn67 c68=>az (bt (s-1)) (aA Is lf [ab d 5,[Cz d 0],[vI (s-1)],cls (ab d 3) 0 10 [],[.sl n67 31 c68]] λt=>sK 1 t 1 λn70 c71=>sK 31 t 3 λn72 c73=>az (bt (s-1)) (aA Is lf [ab d 5,[Cz d 0],[vI (s-1)],cls (ab t 2) 0 10 [],[.sl n72 31 c73]] λu=>sK 1 u 1 λn75 c76=>sK 31 u 3 λn77 c78=>aA Is il [[vI 4],[vI z66],[.sl 2 15 (cls (ab t 0) 0 14 (.sl n70 1 c71::cls (ab u 0) 0 14 [.sl n75 1 c76]))],cls (ab u 2) 0 10 [],[.sl n77 31 c78]] λv=>sK 1 v 1 λn80 c81=>sK 31 v 3 λn82 c83=>K [cls (ab v 0) 0 14 [],[.sl n80 1 c81],cls (ab v 2) 0 10 [],[.sl n82 31 c83]])))))))) (jn (λM=>iK a 0 λz86=>(λV3=>aB (decide (z86=(2:Int))) (az ((2:Int)≠0) (aB (decide ((Rt i 2)=(0:Int))) (az (bt (f-1)) (aA Is lf V2 λw=>sK 1 w 1 λn88 c89=>sK 31 w 3 λn90 c91=>az (bt (f-1)) (aA Is lf [ab a 0,[Cz a 1],[vI (f-1)],cls (ab w 2) 0 10 [],[.sl n90 31 c91]] λx=>sK 1 x 1 λn93 c94=>sK 31 x 3 λn95 c96=>aA Is il [[vI 4],[vI 10],[.sl 2 15 (cls (ab w 0) 0 14 (.sl n88 1 c89::cls (ab x 0) 0 14 [.sl n93 1 c94]))],cls (ab x 2) 0 10 [],[.sl n95 31 c96]] λy=>sK 1 y 1 λn98 c99=>sK 31 y 3 λN O=>K [cls (ab y 0) 0 14 [],[.sl n98 1 c99],cls (ab y 2) 0 10 [],[.sl N 31 O]]))) (M V3))) (M V3)) [[Cz a 1],[vI i],[vI f],cls (ab a 4) 0 10 [],ab a 0,V1,[.sl z 31 A]]) (λe=>iK e 1 λB=>iK e 2 λP=>sK 31 e 6 λQ R=>az ((2:Int)≠0/\bt (RE B 2)) (aA Is Kq [ab e 4,[Cz e 0],[vI (RE B 2)],[vI P],cls (ab e 3) 0 10 [],[.sl Q 31 R]] λh=>sK 1 h 1 λS T=>sK 31 h 3 λU V=>K [cls (ab h 0) 0 14 [],[.sl S 1 T],cls (ab h 2) 0 10 [],[.sl U 31 V]])))) [vI 0,vI 0,vI 0,vI 0,vI 0,vI 0,vI 0,vI 0,vI 0,vI 0,vI 0,vI 0,.sl 0 5 [],.sl 0 15 [],.sl 0 1 []])) [vI 0,vI 0,vI 0,vI 0,.sl 0 5 []]) [ab a 0,[Cz a 1],[vI (f-1)],cls (ab a 4) 0 10 [],[.sl z 31 A]]
theorem w126:Wd (cD [lf,tH,Kq,il]) ⟨[],[(13,⟨[hP 0 0,hD 2,hI 3,hI 4,hP 6 2,hP 10 3,hP 12 4,hI 13],[(0,.b 88 (.d::.w 1::ds 9)),hA 2 46 5,hA 3 50 15,hA 4 46 5,hR 1 52 31]⟩),(16,⟨[hP 0 0,hD 2,hI 3,hI 4,hP 6 2,hP 10 3,hP 12 4,hI 13],[(0,.b 88 (.d::.w 1::ds 9)),hA 2 46 5,hA 3 50 15,hA 4 46 5,hR 1 52 31]⟩),(19,⟨[hP 0 0,hD 2,hI 4,hP 10 2,hP 12 3,hI 13],[(0,.b 88 (.d::.w 1::ds 9)),hA 2 50 15,hA 3 46 5,hR 1 52 31]⟩),(24,⟨[hP 0 0,hD 2,hI 3,hI 4,hP 6 2,hP 10 3],[(0,.b 88 (.d::.w 1::ds 9)),hA 2 46 5,hA 3 50 15,hR 1 52 31]⟩)],[]⟩ zd g126:=Wk
def g124:Tx:=λIs a K=>iK a 2 λz1=>iK a 3 λz2=>sK 31 a 5 λn3 c4=>jn (λk5=>Lp (λr d=>iK d 1 λs=>iK d 2 λz=>iK d 3 λf=>sK 31 d 7 λe t=>lK f e (jn (λu=>az (bt (s+f)) (az ((e:Int)≠0) (az (0<=(Rt (s+f) (e:Int))/\(Rt (s+f) (e:Int))<(e:Int)) (Lp (λm b=>iK b 1 λn=>iK b 2 λg=>iK b 3 λo=>iK b 4 λA=>iK b 5 λh=>sK 31 b 10 λv w=>aH 11 (cell (ab b 9) 8) λC _=>(λV1=>lK h C (aw (cell (ab b 9) 3) λD=>aB (decide (D=(0:Int))) (aA Is Dx [[vI A],cls (ab b 6) 0 10 [],[.sl v 31 w]] λj=>bK j 0 λE=>sK 31 j 2 λx y=>aB E (aH 11 (cell (ab b 9) 8) λF G=>kI h F (aA Is y9 [sub (eT G 11 h) 4 5,ab b 7] λH=>bK H 0 λI=>aB I (aA Is w5 [sub (ab b 9) 0 3] λJ=>az (bt (g-1)) (aA Is lf [ab J 0,[Cz b 0],[vI (g-1)],cls (ab j 1) 0 10 [],[.sl x 31 y]] λp=>sK 1 p 1 λL M=>sK 31 p 3 λN O=>aA Is il [[vI 8],[vI h],[.sl 1 15 (cls (ab p 0) 0 14 [.sl L 1 M])],cls (ab p 2) 0 10 [],[.sl N 31 O]] λl=>sK 1 l 1 λP Q=>sK 31 l 3 λR S=>K [cls (ab l 0) 0 5 (cls (sub (ab b 9) 0 3) 0 3 (cls (ab l 0) 8 6 [])),[.sl P 1 Q],cls (ab l 2) 0 10 [],[.sl R 31 S]])) (oK h (m [[Cz b 0],[vI n],[vI g],[vI o],[vI A],[vI (h+1)],cls (ab j 1) 0 10 [],ab b 7,ab b 8,ab b 9,[.sl x 31 y]])))) (u [[Cz b 0],[vI n],[vI g],[vI o],cls (ab j 1) 0 10 [],ab b 7,ab b 8,[.sl x 31 y]])) (u V1)) (u V1)) [[Cz b 0],[vI n],[vI g],[vI o],cls (ab b 6) 0 10 [],ab b 7,ab b 8,[.sl v 31 w]]) [[Cz d 0],[vI s],[vI z],[vI f],[vI (Rt (s+f) (e:Int))],[vI 0],cls (ab d 4) 0 10 [],ab d 5,ab d 6,el t 31 (Qr (Rt (s+f) (e:Int))),[.sl e 31 t]])))) (λc=>iK c 1 λT=>iK c 2 λU=>iK c 3 λB=>sK 31 c 7 λV W=>oK B (r [[Cz c 0],[vI T],[vI U],[vI (B+1)],cls (ab c 4) 0 10 [],ab c 5,ab c 6,[.sl V 31 W]]))) (k5 [[Cz d 0],[vI s],[vI z],cls (ab d 4) 0 10 [],ab d 5,ab d 6,[.sl e 31 t]])) [[Cz a 1],[vI z1],[vI z2],[vI 0],cls (ab a 4) 0 10 [],ab a 0,[vI 0,vI 0,vI 0,vI 0,vI 0,vI 0,vI 0,vI 0,vI 0,vI 0,vI 0,vI 0,.sl 0 5 [],.sl 0 15 [],.sl 0 1 []],[.sl n3 31 c4]]) (λi=>iK i 1 λX=>iK i 2 λY=>sK 31 i 6 λZ c55=>aA Is zd [ab i 4,[Cz i 0],[vI X],[vI Y],cls (ab i 3) 0 10 [],[.sl Z 31 c55]] λq=>sK 1 q 1 λn57 c58=>sK 31 q 3 λn59 c60=>K [cls (ab q 0) 0 14 [],[.sl n57 1 c58],cls (ab q 2) 0 10 [],[.sl n59 31 c60]])
theorem w124:Wd (cD [lf,w5,il,zd,y9,Dx]) ⟨[(2,⟨[hP 0 0,hD 2,hI 3,hI 4,hP 6 2,hP 10 3,hI 11],[(0,.b 88 (.d::.w 1::ds 9)),hA 2 46 5,hA 3 50 15,hR 1 52 31]⟩),(7,⟨[hP 0 0,hD 2,hI 3,hI 4,hP 6 2,hP 10 3,hI 11,hI 12,hP 13 4,hI 14],[(0,.b 88 (.d::.w 1::ds 9)),hA 2 46 5,hA 3 50 15,hA 4 52 31,hR 1 52 31]⟩)],[(3,⟨[hP 0 0,hD 2,hI 3,hI 4,hP 6 2,hP 10 3,hI 11],[(0,.b 88 (.d::.w 1::ds 9)),hA 2 46 5,hA 3 50 15,hR 1 52 31]⟩),(13,⟨[hP 0 0,hD 2,hI 3,hI 4,hP 6 2,hP 10 3],[(0,.b 88 (.d::.w 1::ds 9)),hA 2 46 5,hA 3 50 15,hR 1 52 31]⟩)],[]⟩ s124 g124:=Wk
def g125:Tx:=λIs a K=>iK a 2 λz1=>iK a 3 λz2=>sK 31 a 5 λn3 c4=>jn (λk5=>Lp (λr b=>iK b 1 λB=>iK b 2 λi=>iK b 3 λe=>sK 31 b 7 λj g=>lK e j (jn (λs=>kI e j (aw (cell (eT g 31 e) 3) λC=>aB (decide (C=(2:Int))) (aA Is Dx [[vI e],cls (ab b 4) 0 10 [],[.sl j 31 g]] λl=>bK l 0 λD=>sK 31 l 2 λt u=>(λV1=>aB D (aA Is y9 [sub (eT g 31 e) 9 5,ab b 5] λE=>bK E 0 λF=>aB F (jn (λG=>Lp (λo c=>iK c 1 λv=>iK c 2 λm=>sK 15 c 6 λw x=>sK 31 c 7 λy z=>aH 11 (cell (ab c 5) 8) λH _=>lK m H (aH 11 (cell (ab c 5) 8) λI J=>kI m I (az (bt (v-1)) (aA Is lf [sub (eT J 11 m) 4 5,[Cz c 0],[vI (v-1)],cls (ab c 3) 0 10 [],[.sl y 31 z]] λp=>sK 1 p 1 λL M=>sK 31 p 3 λN O=>az (aO (w+1) 169) (oK m (o [[Cz c 0],[vI v],[vI (m+1)],cls (ab p 2) 0 10 [],ab c 4,ab c 5,[.sl (w+1) 15 (x++(cls (ab p 0) 0 14 [.sl L 1 M]))],[.sl N 31 O]]))))) (G [cls (ab c 3) 0 10 [],ab c 4,ab c 5,[.sl w 15 x],[.sl y 31 z]])) [[Cz b 0],[vI i],[vI 0],cls (ab l 1) 0 10 [],ab b 6,eT g 31 e,[.sl 0 15 []],[.sl t 31 u]]) (λf=>sK 15 f 3 λP Q=>sK 31 f 4 λR S=>aA Is il [[vI 3],[vI 0],[.sl P 15 Q],cls (ab f 0) 0 10 [],[.sl R 31 S]] λn=>sK 1 n 1 λT U=>sK 31 n 3 λV W=>K [cls (ab n 0) 0 5 (cls (sub (ab f 2) 0 3) 0 3 (cls (ab n 0) 8 6 [])),[.sl T 1 U],cls (ab n 2) 0 10 [],[.sl V 31 W]])) (s V1)) (s V1)) [[Cz b 0],[vI B],[vI i],[vI e],cls (ab l 1) 0 10 [],ab b 5,ab b 6,[.sl t 31 u]]) (s [[Cz b 0],[vI B],[vI i],[vI e],cls (ab b 4) 0 10 [],ab b 5,ab b 6,[.sl j 31 g]]))) (λd=>iK d 1 λX=>iK d 2 λY=>iK d 3 λA=>sK 31 d 7 λZ c55=>oK A (r [[Cz d 0],[vI X],[vI Y],[vI (A+1)],cls (ab d 4) 0 10 [],ab d 5,ab d 6,[.sl Z 31 c55]]))) (k5 [[Cz b 0],[vI B],[vI i],cls (ab b 4) 0 10 [],ab b 5,ab b 6,[.sl j 31 g]])) [[Cz a 1],[vI z1],[vI z2],[vI 0],cls (ab a 4) 0 10 [],ab a 0,[vI 0,vI 0,vI 0,vI 0,vI 0,vI 0,vI 0,vI 0,vI 0,vI 0,vI 0,vI 0,.sl 0 5 [],.sl 0 15 [],.sl 0 1 []],[.sl n3 31 c4]]) (λh=>iK h 1 λz56=>iK h 2 λz57=>sK 31 h 6 λn58 c59=>aA Is zd [ab h 4,[Cz h 0],[vI z56],[vI z57],cls (ab h 3) 0 10 [],[.sl n58 31 c59]] λq=>sK 1 q 1 λn61 c62=>sK 31 q 3 λn63 c64=>K [cls (ab q 0) 0 14 [],[.sl n61 1 c62],cls (ab q 2) 0 10 [],[.sl n63 31 c64]])
theorem w125:Wd (cD [lf,il,zd,y9,Dx]) ⟨[(2,⟨[hP 0 0,hD 2,hI 3,hI 4,hP 6 2,hP 10 3,hI 11],[(0,.b 88 (.d::.w 1::ds 9)),hA 2 46 5,hA 3 50 15,hR 1 52 31]⟩),(8,⟨[hP 0 0,hD 2,hI 4,hP 10 2,hP 12 3,hW 13 4,hI 14],[(0,.b 88 (.d::.w 1::ds 9)),hA 2 50 15,hA 3 52 31,hR 4 50 15,hR 1 52 31]⟩)],[(3,⟨[hP 0 0,hD 2,hI 3,hI 4,hP 6 2,hP 10 3,hI 11],[(0,.b 88 (.d::.w 1::ds 9)),hA 2 46 5,hA 3 50 15,hR 1 52 31]⟩),(11,⟨[hP 0 0,hP 10 2,hP 12 3,hW 13 4],[(0,.b 88 (.d::.w 1::ds 9)),hA 2 50 15,hA 3 52 31,hR 4 50 15,hR 1 52 31]⟩),(14,⟨[hP 0 0,hD 2,hI 3,hI 4,hP 6 2,hP 10 3],[(0,.b 88 (.d::.w 1::ds 9)),hA 2 46 5,hA 3 50 15,hR 1 52 31]⟩)],[]⟩ Nj g125:=Wk
def g121:Tx:=λ_ a K=>sK 31 a 1 λe f=>aw (cell (ab a 0) 9) λb=>oK b (az ((3:Int)≠0) (az (0<=(Rt (b+1) 3)/\(Rt (b+1) 3)<(3:Int)) (az ((3:Int)≠0/\bt (RE (b+1) 3)) (az ((8:Int)≠0) (az (0<=(Rt (RE (b+1) 3) 8)/\(Rt (RE (b+1) 3) 8)<(8:Int)) (rA (cell (el ([vS (QX #[117]),vS (QX #[118]),vS (QX #[119])]) 1 (Qr (Rt (b+1) 3))) 0) λc=>rA (cell (el ([vS (QX #[]),vS (QX #[49]),vS (QX #[50]),vS (QX #[51]),vS (QX #[52]),vS (QX #[53]),vS (QX #[54]),vS (QX #[55])]) 1 (Qr (Rt (RE (b+1) 3) 8))) 0) λd=>az (XA c+XA d<=1000000) (K [[vS (c++d)],cls (ab a 0) 0 9 [vI (b+1)],[.sl e 31 f]])))))))
theorem w121:Wd (cD []) hZ DA g121:=Wk
def g122:Tx:=λ_ a K=>sK 9 a 0 λb c=>az (aO (0+b) 89) (az (aO (0+b+1) 89) (K [[.sl (0+b+1) 9 (c++((ab a 1)++[]))]]))
theorem w122:Wd (cD []) hZ Dz g122:=Wk
def g33:Tx:=λIs a K=>Lp (λc b=>iK b 0 λf=>iK b 1 λd=>aH 15 (cell (ab b 2) 13) λg _=>lK d g (aH 15 (cell (ab b 2) 13) λh i=>kI d h (aA Is s33 [eT i 15 d] λj=>iK j 0 λe=>az (bt (f+e)) (oK d (c [[vI (f+e)],[vI (d+1)],ab b 2])))) (K [[vI f]])) [[vI 1],[vI 0],ab a 0]
theorem w33:Wd (cD [s33]) ⟨[(3,⟨[hP 1 0,hI 3,hI 4],[hA 0 50 15]⟩)],[],[]⟩ s33 g33:=Wk
def g34:Tx:=λIs a K=>sK 1 a 1 λm n=>Lp (λc b=>iK b 0 λd=>sK 1 b 1 λe l=>aH 15 (cell (ab b 2) 13) λo _=>lK d o (aH 15 (cell (ab b 2) 13) λf g=>kI d f (aA Is s34 [eT g 15 d,[.sl e 1 l]] λh=>sK 1 h 0 λi j=>oK d (c [[vI (d+1)],[.sl i 1 j],ab b 2]))) (az (aO (e+1) 9) (K [[.sl (e+1) 1 (l++[cell (ab b 2) 2])]]))) [[vI 0],[.sl m 1 n],ab a 0]
theorem w34:Wd (cD [s34]) ⟨[(2,⟨[hW 1 0,hP 2 1,hI 5],[hR 0 3 1,hA 1 50 15]⟩)],[],[]⟩ s34 g34:=Wk
def g35:Tx:=λIs a K=>sK 3 a 1 λi g=>aw (cell (ab a 0) 2) λn=>kI n i (jn (λo=>aw (cell (ab a 0) 3) λy=>(λV1=>(λV2=>aB (decide (y=(2:Int))) (aw (cell (ab a 0) 6) λz=>aB (decide (z=(0:Int))) (aw (cell (ab a 0) 7) λx=>kI x i (o [[.sl i 3 g],ab a 0,V1,cls (eT g 3 n) 0 3 (cell (ab a 0) 3::cell (ab a 0) 4::cls (eT g 3 x) 0 3 (cls (ab a 0) 8 7 []))])) (o V2)) (o V2)) [[.sl i 3 g],ab a 0,V1,cls (eT g 3 n) 0 3 (cls (ab a 0) 3 12 [])]) [vI 0,vI 0,vI 0,vI 0,vI 0,vI 0,vI 0,vI 0,vI 0,vI 0,vI 0,vI 0,.sl 0 5 [],.sl 0 15 [],.sl 0 1 []]) (λc=>sK 3 c 0 λA p=>Lp (λe b=>iK b 0 λd=>sK 3 b 1 λj l=>sK 15 b 5 λh m=>aH 15 (cell (ab b 2) 13) λq _=>lK d q (aH 15 (cell (ab b 2) 13) λr s=>kI d r (aA Is s35 [eT s 15 d,[.sl j 3 l]] λf=>sK 15 f 1 λt u=>sK 3 f 2 λv w=>az (aO (h+1) 169) (oK d (e [[vI (d+1)],[.sl v 3 w],ab b 2,ab b 3,cls (ab b 4) 0 14 [],[.sl (h+1) 15 (m++(cls (ab f 0) 0 13 [.sl t 15 u,cell (ab f 0) 13]))]])))) (K [cls (ab b 4) 0 14 [],[.sl h 15 m],[.sl j 3 l]])) [[vI 0],[.sl A 3 p],ab c 1,ab c 2,cls (ab c 3) 0 13 [cell (ab c 3) 14],[.sl 0 15 []]]))
theorem w35:Wd (cD [s35]) ⟨[(7,⟨[hW 1 0,hP 2 1,hP 4 2,hP 5 3,hI 6],[hR 0 42 3,hA 1 50 15,hA 2 50 15,(3,.b 50 (ds 13++[.w 4,.d])),hR 4 50 15]⟩)],[(5,⟨[hW 1 0,hP 2 1,hP 4 2,hP 5 3],[hR 0 42 3,hA 1 50 15,hA 2 50 15,hA 3 50 15]⟩)],[]⟩ s35 g35:=Wk
end Go.Proofs.YtmbboaapillefaaGreatDoor
namespace Xe
open Go
def kJ(dn:List Ex)(r:List Ex×bY):List Ex×bY:=(dn++r.1,r.2)
theorem OO(r:List Ex×bY):r=kJ [] r:=by unfold kJ;rw[Rk]
theorem GR{g:GX}{t:Ty}{env:List cd}{d:Int}{m:Nat}{s:bY}{dn:List Ex}{z:List Ex×bY}(hz:z=kJ dn (dh g t env d (m+1) s))(h:0<s.left):z=kJ (dn++[(g t env d s).1]) (dh g t env d m (g t env d s).2):=by rw[hz,dh,J2 h];simp[kJ]
theorem GQ{g:GX}{t:Ty}{env:List cd}{d:Int}{m:Nat}{s:bY}{dn:List Ex}{z:List Ex×bY}(hz:z=kJ dn (dh g t env d m s))(h:m=0\/¬0<s.left):z=(dn,s):=by
 rw[hz];cases m with
 |zero=>rw[dh];simp[kJ]
 |succ m=>rw[dh,J1 Q0];simp[kJ]
theorem GP{g:GX}{env:List cd}{d:Int}{ts:List Ty}{k:Nat}{s:bY}{dn:List Ex}{z:List Ex×bY}(hk:k<ts.length)(hz:z=kJ dn (dg g env d (ts.drop k) s)):z=kJ (dn++[(g ts[k] env d s).1]) (dg g env d (ts.drop (k+1)) (g ts[k] env d s).2):=by rw[hz,S1 hk,dg];simp[kJ]
theorem LF{g:GX}{env:List cd}{d:Int}{ts:List Ty}{k:Nat}{s:bY}{dn:List Ex}{z:List Ex×bY}(hk:k=ts.length)(hz:z=kJ dn (dg g env d (ts.drop k) s)):z=(dn,s):=by rw[hz,hk,X8,dg];simp[kJ]
def bJ(dn:List Ex)(ns:List ByteArray)(r:(List Ex×List ByteArray)×bY):(List Ex×List ByteArray)×bY:=((dn++r.1.1,ns++r.1.2),r.2)
theorem bJ_nil(r:(List Ex×List ByteArray)×bY):r=bJ [] [] r:=by unfold bJ;rw[Rk,Rk]
theorem zm{g:GX}{t:Ty}{env:List cd}{d:Int}{id:ar}{sl:List aC}{k:Nat}{s:bY}{dn:List Ex}{ns:List ByteArray}{z:(List Ex×List ByteArray)×bY}(hk:k<sl.length)(hz:z=bJ dn ns (bk g t env d id (sl.drop k) k s)) :
  z=bJ (dn++[(g t (env++[⟨id,k,sl[k].ty⟩]) d s).1]) (ns++[(cI (g t (env++[⟨id,k,sl[k].ty⟩]) d s).2).1]) (bk g t env d id (sl.drop (k+1)) (k+1) (cI (g t (env++[⟨id,k,sl[k].ty⟩]) d s).2).2):=by
 rw[hz,S1 hk,bk];simp[bJ]
theorem Cw{g:GX}{t:Ty}{env:List cd}{d:Int}{id:ar}{sl:List aC}{k:Nat}{s:bY}{dn:List Ex}{ns:List ByteArray}{z:(List Ex×List ByteArray)×bY}(hk:k=sl.length)(hz:z=bJ dn ns (bk g t env d id (sl.drop k) k s)):z=((dn,ns),s):=by rw[hz,hk,X8,bk];simp[bJ]
def HH(q:Int)(g:GX):Prop:=∀(t:Ty) (env:List cd) (d:Int) (s:bY) (B:Int),0<=B->Bd (q+B) s->Bd B (g t env d s).2
theorem x7{q:Int}{g:GX}(hg:HH q g)(hq:1<=q){t:Ty}{env:List cd}{d B:Int}(hB:0<=B):∀(k:Nat) (s:bY),Bd (k*q+B) s->Bd B (dh g t env d k s).2
 |0,s,h=>by rw[dh];exact h.mono Q2
 |k+1,s,h=>by
  rw[dh];have e:((k+1:Nat):Int)*q=k*q+q:=by grind
  have h0:0<=(k:Int)*q:=SX Q0 Q0;split
  .exact x7 hg hq hB k _ (hg t env d s _ Q0 (h.mono Q0))
  .exact h.mono Q0
theorem oI{q:Int}{g:GX}(hg:HH q g)(hq:1<=q){env:List cd}{d B:Int}(hB:0<=B):∀(ts:List Ty) (s:bY),Bd (ts.length*q+B) s->Bd B (dg g env d ts s).2
 |[],s,h=>by rw[dg];exact h.mono Q2
 |t::ts,s,h=>by
  rw[dg];have e:((t::ts).length:Int)*q=ts.length*q+q:=by rw[QG,Wl,XB];simp
  have h0:0<=(ts.length:Int)*q:=SX Q0 Q0;exact oI hg hq hB ts _ (hg t env d s _ Q0 (h.mono Q0))
theorem vm{q:Int}{g:GX}(hg:HH q g)(hq:1<=q){t:Ty}{env:List cd}{d B:Int}{id:ar}(hB:0<=B):∀(sl:List aC) (k:Nat) (s:bY),Bd (sl.length*(q+1)+B) s->Bd B (bk g t env d id sl k s).2
 |[],k,s,h=>by rw[bk];exact h.mono Q2
 |x::xs,k,s,h=>by
  rw[bk];have e:((x::xs).length:Int)*(q+1)=xs.length*(q+1)+(q+1):=by rw[QG,Wl,XB];simp
  have h0:0<=(xs.length:Int)*(q+1):=SX Q0 Q0;refine vm hg hq hB xs (k+1) _ (Bd.uY (A:=xs.length*(q+1)+B+1) (hg t _ d s _ Q0 (h.mono Q0)) Q0)
theorem mP(p:av)(id:ar):an p id=lj\/an p id∈p.ae:=by
 unfold an;cases h:p.ae.find? λd=>decide (d.id=id) with
 |none=>exact .inl rfl
 |some d=>exact .inr (List.mem_of_find?_eq_some h)
def fY(p:av):Prop:=∀d∈p.ae,d.ah.length<=3
theorem fY.qt{p:av}(h:fY p)(id:ar):(an p id).ah.length<=3:=by
 rcases mP p id with e|e
 .rw[e];exact Rr _
 .exact h _ e
theorem fY.at{c:fB}(h:fY c.p)(k:Nat):(bN c k).ah.length<=3:=by
 unfold bN;rcases U0 k c.p.ae.length with hk|hk
 .rw[RX,QQ hk];exact h _ (QB hk)
 .rw[RX,List.getElem?_eq_none hk];exact Rr _
theorem le3{n:Nat}{q:Int}(h:n<=3)(hq:0<=q):(n:Int)*q<=3*q:=Int.mul_le_mul_of_nonneg_right Q0 hq
theorem I7{q:Int}{g:GX}{c:fB}(hg:HH q g)(hq:1<=q)(hs:fY c.p){t:Ty}{env:List cd}{x d B:Int}{s:bY}(hB:0<=B)(h:Bd (3*q+1+B) s):Bd B (kM c g t env x d s).2:=by
 unfold kM;split
 .exact h.node Q0
 split
 .exact h.node Q0
 split
 .have h3:(if 0<=d then(x.tmod 3).toNat else 0)<=3:=by
   grind
  dsimp only;exact Bd.node (x7 hg hq (B:=B+1) Q0 _ s (h.mono (by have:=le3 h3 (show 0<=q by omega);omega))) Q0
 split
 .dsimp only;exact Bd.node (hg _ _ _ s (B+1) Q0 (h.mono Q0)) Q0
 .have h3:=hs.qt t.df;dsimp only;exact Bd.node (oI hg hq (B:=B+1) Q0 _ s (h.mono (by have:=le3 h3 (show 0<=q by omega);rw[QS];omega))) Q0
theorem yF{q:Int}{g:GX}(hg:HH q g)(hq:1<=q){n:Int}{u:Ty}{env:List cd}{d B:Int}{s:bY}(hB:0<=B)(h:Bd (2*q+1+B) s):Bd B (lE g n u env d s).2:=by unfold lE;exact Bd.node (hg _ _ _ _ (B+1) Q0 (hg _ _ _ s (q+(B+1)) Q0 (h.mono Q0))) Q0
theorem IP{q:Int}{g:GX}(hg:HH q g){n:Int}{u:Ty}{env:List cd}{d B:Int}{s:bY}(hB:0<=B)(h:Bd (q+1+B) s):Bd B (Gs g n u env d s).2:=by unfold Gs;exact Bd.node (hg _ _ _ s (B+1) Q0 (h.mono Q0)) Q0
theorem BS{q:Int}{g:GX}{c:fB}(hg:HH q g)(hq:1<=q)(hs:fY c.p){t:Ty}{env:List cd}{x d B:Int}{s:bY}(hB:0<=B)(h:Bd (3*q+1+B) s):Bd B (nI c g t env x d s).2:=by
 unfold nI;split
 .split
  .exact IP hg hB (h.mono Q0)
  .exact yF hg hq hB (h.mono Q0)
 split
 .split
  .exact IP hg hB (h.mono Q0)
  .exact yF hg hq hB (h.mono Q0)
 split
 .exact yF hg hq hB (h.mono Q0)
 .exact I7 hg hq hs hB h
theorem Lx{q:Int}{g:GX}{c:fB}(hg:HH q g)(hq:1<=q)(hs:fY c.p){t:Ty}{env:List cd}{x d B:Int}{s:bY}(hB:0<=B)(h:Bd (4*q+4+B) s):Bd B (jS c g t env x d s).2:=by
 unfold jS;split
 .exact BS hg hq hs hB (h.mono Q0)
 .have h3:=le3 (hs.at (c:=c) (My c 1 x.toNat).toNat) (show 0<=q+1 by omega);dsimp only;exact vm hg hq hB _ _ _ (Bd.node (A:=3*(q+1)+B+1) (hg _ _ _ s _ Q0 (h.mono Q0)) Q0)
theorem L6{q:Int}{g:GX}{c:fB}(hg:HH q g)(hq:1<=q)(hs:fY c.p){t:Ty}{env:List cd}{x d B:Int}{s:bY}(hB:0<=B)(h:Bd (4*q+4+B) s):Bd B (jT c g t env x d s).2:=by
 unfold jT;split
 .dsimp only;exact Bd.node (hg _ _ _ s (B+1) Q0 (h.mono Q0)) Q0
 .exact BS hg hq hs hB (h.mono Q0)
theorem PS{q:Int}{g:GX}{c:fB}(hg:HH q g)(hq:1<=q)(hs:fY c.p){t:Ty}{env:List cd}{x d B:Int}{s:bY}(hB:0<=B)(h:Bd (4*q+4+B) s):Bd B (nM c g t env x d s).2:=by
 unfold nM;split
 .rename_i k _;have h3:=le3 (hs.at (c:=c) k) (show 0<=q by omega);dsimp only;exact Bd.node (oI hg hq (B:=B+1) Q0 _ s (h.mono (by grind))) Q0
 .exact BS hg hq hs hB (h.mono Q0)
theorem Np{q:Int}{g:GX}{c:fB}(hg:HH q g)(hq:1<=q)(hs:fY c.p){t:Ty}{env:List cd}{k x d B:Int}{s:bY}(hB:0<=B)(h:Bd (4*q+4+B) s):Bd B (oo c g t env k x d s).2:=by
 unfold oo;split
 .dsimp only[ifG];exact Bd.node (hg _ _ _ _ (B+1) Q0 (hg _ _ _ _ (q+(B+1)) Q0 (hg _ _ _ s (q+(q+(B+1))) Q0 (h.mono Q0)))) Q0
 split
 .dsimp only[LC];exact hg _ _ _ _ B Q0 (Bd.uY (A:=q+B+1) (Bd.node (A:=q+B+2) (hg _ _ _ s _ Q0 (h.mono Q0)) Q0) Q0)
 split
 .exact Lx hg hq hs hB h
 split
 .exact L6 hg hq hs hB h
 split
 .exact PS hg hq hs hB h
 split
 .dsimp only[AD];exact hg _ _ _ _ B Q0 (Bd.uY (A:=q+B+1) (Bd.uY (A:=q+B+2) (Bd.node (A:=q+B+3) (hg _ _ _ _ _ Q0 (hg _ _ _ s (q+(q+B+3)) Q0 (h.mono Q0))) Q0) Q0) Q0)
 .exact BS hg hq hs hB (h.mono Q0)
theorem EX{q:Int}{g:GX}{c:fB}(hg:HH q g)(hq:1<=q)(hs:fY c.p):HH (9*q) (kT c g):=by
 intro t env d s B hB h;have h1:Bd (4*q+4+B) (fQ c 65536 s).2:=h.num Q0;unfold kT;dsimp only;generalize(if(fQ c 65536 s).2.left<=0 then min d 0 else d)=dd;split
 .dsimp only[MC];exact Bd.node (A:=4*q+4+B) h1 Q0
 split
 .exact I7 hg hq hs hB (h1.mono Q0)
 .exact Np hg hq hs hB h1
theorem dz{c:fB}(hs:fY c.p):∀n:Nat,HH (9 ^ n) (ay c n)
 |0=>λt env d s B hB h=>h.mono Q0
 |n+1=>by have h:=EX (dz hs n) (Y2 Q1) hs;rw[show(9:Int) ^ (n+1)=9*9 ^ n by omega];exact h
structure Qj(p:av)(R:Nat):Prop where
 fE:fY p
 oJ:∀d∈p.ae,d.kind=1->0<d.ah.length
 Dk:∀d∈p.ae,∀s∈d.ah,eN p R s.ty
 res:∀d∈p.ae,d.kind=2->eN p R d.au
 own:∀d∈p.ae,d.kind=0\/d.kind=1->eN p R (mm d.id)
 R2:2<=R
def rW(p:av)(R n:Nat)(t:Ty)(depth:Int):Prop:=(depth<=0/\eN p n t)\/(0<depth/\eN p R t/\(R:Int)+depth<=n)
theorem rW.wf{p:av}{R n:Nat}{t:Ty}{depth:Int}(h:rW p R n t depth):eN p n t:=by
 rcases h with h|h
 .exact h.2
 .exact b7 Q0 h.2.1
theorem rW.pos{p:av}{R n:Nat}{t:Ty}{depth:Int}(h:rW p R n t depth):0<n:=by
 have:=h.wf;cases n with
 |zero=>exact this.elim
 |succ n=>omega
theorem rW.any{p:av}{R n:Nat}{t u:Ty}{depth:Int}(h:rW p R (n+1) t depth)(h0:0<depth)(hu:eN p R u){j:Int}(hj:1<=j):rW p R n u (depth-j):=by
 rcases h with h|h
 .omega
 .by_cases h1:depth-j<=0
  .exact .inl ⟨h1,b7 Q0 hu⟩
  .exact .inr ⟨Q0,hu,Q0⟩
theorem rW.part{p:av}{R n:Nat}{t u:Ty}{depth:Int}(h:rW p R (n+1) t depth)(hu:∀m,eN p (m+1) t->eN p m u):rW p R n u (depth-1):=by
 by_cases h0:0<depth
 .rcases h with h1|h1
  .omega
  .exact rW.any (.inr h1) h0 (hu R (b7 Q0 h1.2.1)) Q0
 .rcases h with h1|h1
  .exact .inl ⟨Q0,hu n h1.2⟩
  .omega
theorem rW.low{p:av}{R n:Nat}{t:Ty}{depth:Int}(h:rW p R n t depth):rW p R n t (min depth 0):=.inl ⟨Q0,h.wf⟩
abbrev cf(env:List cd):D:=.sl env.length 9 (env.flatMap cd.enc)
theorem nW{p:av}{R:Nat}(h:2<=R):eN p R (b8 bS):=b7 h (JV (Bm p 0))
theorem fit_mem{env:List cd}{t:Ty}{b:cd}(h:b∈eX env t):b∈env:=(Rq.1 h).1
def Py(s1:bY)(depth:Int):Int:=if s1.left<=0 then min depth 0 else depth
theorem Px{p:av}{R n:Nat}{t:Ty}{s1:bY}{depth:Int}(h:rW p R n t depth):rW p R n t (Py s1 depth):=by
 unfold Py;split
 .exact h.low
 .exact h
theorem yr(c:fB)(n:Nat)(t:Ty)(env:List cd)(depth:Int)(s:bY):ay c (n+1) t env depth s =
  if 0<(eX env t).length/\(Py (fQ c 65536 s).2 depth<=0\/(fQ c 65536 s).1.tmod 3=0) then MC ((eX env t).getD (((fQ c 65536 s).1.tdiv 3).tmod (eX env t).length).toNat default) (fQ c 65536 s).2
  else if Py (fQ c 65536 s).2 depth<=0 then kM c (ay c n) t env ((fQ c 65536 s).1.tdiv 3) (Py (fQ c 65536 s).2 depth) (fQ c 65536 s).2
  else oo c (ay c n) t env (((fQ c 65536 s).1.tdiv 3).tmod 12) ((fQ c 65536 s).1.tdiv 36) (Py (fQ c 65536 s).2 depth) (fQ c 65536 s).2:=rfl
mutual
def Ex.post:Ex->List Int
 |.mk i _ _ _ _ l _=>Ex.cP l++[i.index]
def Ex.cP:List Ex->List Int
 |[]=>[]
 |e::es=>e.post++Ex.cP es
end
theorem Ex.eP(e:Ex):e.post=Ex.cP e.kids++[e.id.index]:=by cases e;rw[Ex.post];rfl
theorem Ex.rQ:∀(l m:List Ex),Ex.cP (l++m)=Ex.cP l++Ex.cP m
 |[],m=>by simp[Ex.cP]
 |x::xs,m=>by rw[Rm,Ex.cP,Ex.cP,Ex.rQ xs m,QU]
theorem Ex.Gi(l:List Ex)(k:Nat)(h:k<l.length):Ex.cP (l.take (k+1))=Ex.cP (l.take k)++l[k].post:=by rw[Qv h,Ex.rQ];simp[Ex.cP]
mutual
theorem Ex.rR:∀e:Ex,e.post.length=e.size
 |.mk i k n r t l s=>by rw[Ex.post,Ex.size,QC,Ex.tT l];simp;omega
theorem Ex.tT:∀l:List Ex,(Ex.cP l).length=Ex.aW l
 |[]=>by simp[Ex.cP,Ex.aW]
 |e::es=>by rw[Ex.cP,Ex.aW,QC,Ex.rR e,Ex.tT es]
end
def iH(ids:List ar)(z:Int):ar:=ids.getD z.toNat default
def jY(ids:List ar)(k:Int)(r:ar):ar:=if k=2/\r.seq=0 then iH ids r.index else r
mutual
def bZ(ids:List ar):Ex->Ex
 |.mk i k n r t l s=>.mk (iH ids i.index) k n (jY ids k r) t (iq ids l) s
def iq(ids:List ar):List Ex->List Ex
 |[]=>[]
 |e::es=>bZ ids e::iq ids es
end
theorem renE_eq(ids:List ar)(e:Ex):bZ ids e=.mk (iH ids e.id.index) e.kind e.n (jY ids e.kind e.ref) e.ty (iq ids e.kids) e.aK:=by cases e;rw[bZ];rfl
theorem rJ(ids:List ar):∀l:List Ex,iq ids l=l.map (bZ ids)
 |[]=>by simp[iq]
 |e::es=>by rw[iq,rJ ids es,QT]
mutual
def Av(m:Int):Ex->Prop
 |.mk i k _ r _ l _=>(0<=i.index/\i.index<m)/\(k=2/\r.seq=0->0<=r.index/\r.index<m)/\sH m l
def sH(m:Int):List Ex->Prop
 |[]=>True
 |e::es=>Av m e/\sH m es
end
theorem inB_eq(m:Int)(e:Ex):Av m e↔(0<=e.id.index/\e.id.index<m)/\(e.kind=2/\e.ref.seq=0->0<=e.ref.index/\e.ref.index<m)/\sH m e.kids:=by cases e;rw[Av];rfl
theorem EA{m:Int}:∀{l:List Ex} {e:Ex},sH m l->e∈l->Av m e
 |x::xs,e,h,he=>by
  rw[sH]at h;rcases Qz.1 he with rfl|he
  .exact h.1
  .exact EA h.2 he
theorem idAt_eq{ids:List ar}{k:Nat}{z:Int}(h:z=(k:Int))(hk:k<ids.length):iH ids z=ids[k]:=by
 unfold iH
 grind
def Kj(a b:Ty):List Ty:=[bS,.mk 1 ki [],b8 bS,a,b,bS]
def cq(n:Int)(a b:Ty):Ty:=(Kj a b).getD (gi n 6).toNat bS
abbrev qs:Ty:=.mk 1 ki []
def inT1(a:Int):Ty:=if a=1 then qs else bS
def inT2(a:Int):Ty:=if a=2 then b8 bS else inT1 a
def inT(a:Int)(T:Ty):Ty:=if a=3 then T else inT2 a
def inZ1(l:List Int)(i a:Int):Int:=if a=1 then 0 else 1+er l (i+1) 3
def inZ2(l:List Int)(i a:Int):Int:=if a=2 then 1+er l (i+1) 2 else inZ1 l i a
def inZ(l:List Int)(i a:Int):Int:=if a=3 then 1 else inZ2 l i a
def OZ(c:Int):List Ty:=if c=1 then[bS] else[]
def EC(c:Int):List Int:=if c=1 then[1] else[]
def in2(c:Int):List Ty:=if c=2 then[qs] else OZ c
def OY(c:Int):List Int:=if c=2 then[0] else EC c
def Cd(l:List Int)(i:Int)(T:Ty):List Ty:=inT (er l i 5) T::in2 (er l (i+2) 3)
def LQ(l:List Int)(i:Int):List Int:=inZ l i (er l i 5)::OY (er l (i+2) 3)
theorem inZ_rng(l:List Int)(i a:Int):0<=inZ l i a/\inZ l i a<=3:=by have h2:=eD l (i+1) 2 Q0;have h3:=eD l (i+1) 3 Q0;unfold inZ inZ2 inZ1;omega
theorem in2_len(c:Int):(in2 c).length=(OY c).length:=by
 unfold in2 OY OZ EC
 grind
theorem OX(c:Int):(in2 c).length<=1:=by
 unfold in2 OZ
 grind
structure aN where
 kind:Int
 name:ByteArray
 types:List Ty
 aK:List ByteArray
 kX:List Int
 au:Ty
 mod:Int
def aN.enc(p:aN):List D:=[ai p.kind,bM p.name,.sl p.types.length 5 (p.types.flatMap Ty.enc),Jy p.aK,bU p.kX]++p.au.enc++[ai p.mod]
theorem aN.aP(p:aN):p.enc.length=11:=by rw[aN.enc,Ty.aF];rfl
abbrev xU:ByteArray:=⟨#[80,111,105,110,116]⟩
abbrev qN:ByteArray:=⟨#[69,118,101,110,116]⟩
abbrev B5:ByteArray:=⟨#[83,116,97,116,101]⟩
abbrev nOut:ByteArray:=⟨#[79,117,116]⟩
abbrev n_a:ByteArray:=⟨#[97]⟩
abbrev n_b:ByteArray:=⟨#[98]⟩
abbrev n_c:ByteArray:=⟨#[99]⟩
abbrev n_e:ByteArray:=⟨#[101]⟩
abbrev n_f:ByteArray:=⟨#[102]⟩
abbrev n_g:ByteArray:=⟨#[103]⟩
abbrev n_s:ByteArray:=⟨#[115]⟩
abbrev n_t:ByteArray:=⟨#[116]⟩
abbrev n_x:ByteArray:=⟨#[120]⟩
abbrev n_y:ByteArray:=⟨#[121]⟩
abbrev n_z:ByteArray:=⟨#[122]⟩
abbrev Oe:ByteArray:=⟨#[84,105,99,107]⟩
abbrev Of:ByteArray:=⟨#[80,117,115,104]⟩
abbrev nSet:ByteArray:=⟨#[83,101,116]⟩
abbrev Og:ByteArray:=⟨#[99,111,117,110,116]⟩
abbrev nLog:ByteArray:=⟨#[108,111,103]⟩
abbrev nMore:ByteArray:=⟨#[109,111,114,101]⟩
abbrev N3:ByteArray:=⟨#[115,116,97,116,101]⟩
abbrev Ee:ByteArray:=⟨#[115,105,103,110,97,108,115]⟩
abbrev nNext:ByteArray:=⟨#[110,101,120,116]⟩
abbrev IY:ByteArray:=⟨#[115,116,101,112]⟩
abbrev nOld:ByteArray:=⟨#[111,108,100]⟩
def cj(l:List Int):Bool:=decide (0<er l 1 4)
abbrev cp(n:Int):Ty:=mm (fw n)
def iA(l:List Int)(q:Int)(m:Int)(T:Ty)(k:Nat):List Ty:=(UQ k).map fun(i:Nat)=>cq (er l (q+(i:Int)) m) T T
theorem qA(l:List Int)(q m:Int)(T:Ty)(k:Nat):iA l q m T (k+1)=iA l q m T k++[cq (er l (q+(k:Int)) m) T T]:=by simp[iA,List.range_succ]
theorem kf(l:List Int)(q m:Int)(T:Ty)(k:Nat):(iA l q m T k).length=k:=by simp[iA]
def gK(l:List Int)(n:Int):aN:=⟨0,xU,iA l 3 3 (cp n) (1+(er l 2 3).toNat),[n_x,n_y,n_z],[],bS,0⟩
def iC(l:List Int)(n:Int):aN:=⟨1,qN,bS::iA l 7 4 (cp n) (1+(er l 6 2).toNat),[Oe,Of,nSet],[],bS,0⟩
def fG(l:List Int)(n:Int):aN:=⟨0,B5,bS::iA l 10 4 (cp n) (er l 9 3).toNat,[Og,nLog,nMore],[],bS,0⟩
def lh(n:Int):aN:=⟨0,nOut,[cp (n+2),b8 bS,bS],[N3,Ee,nNext],[],bS,0⟩
def Bq(l:List Int)(n:Int):Ty:=if cj l then cp (n+2) else cp n
def EU(l:List Int)(n:Int):List Ty:=cq (er l 12 6) (cp n) (cp (n+1))::(if er l 13 2=1 then[cq (er l 14 6) (cp n) (cp (n+1))] else[])
def nR(l:List Int)(n:Int):Ty:=cq (er l 16 6) (cp n) (cp n)
def pF(l:List Int)(n:Int):aN:=⟨2,n_f,EU l n,[n_a,n_b],[],nR l n,er l 15 n⟩
def ly(n:Int):aN:=⟨3,IY,[cp (n+2),cp (n+1)],[n_s,n_e],[],cp (n+3),n-1⟩
def pG(l:List Int)(n:Int):aN:=⟨2,n_g,[cp (n+1)],[n_e],[],cq (er l 17 6) (cp n) (cp (n+1)),n-1⟩
def pT(l:List Int)(n:Int):aN:=⟨4,n_t,Cd l 18 (cp n),[n_a,n_b],LQ l 18,cq (er l 21 6) (cp n) (nR l n),n-1⟩
def pC(l:List Int)(n:Int):aN:=⟨5,n_c,[Bq l n],[nOld],[],cq (er l 23 6) (cp n) (Bq l n),n-1⟩
def kG(l:List Int)(n:Int):List aN:=[gK l n,iC l n]
def eQ(l:List Int)(n:Int):List aN:=kG l n++(if cj l then[fG l n,lh n] else[])
def fq(l:List Int)(n:Int):List aN:=eQ l n++[pF l n]++[if cj l then ly n else pG l n]
def bw(l:List Int)(n:Int):List aN:=fq l n++[pT l n]++(if 0<er l 22 4 then[pC l n] else[])
def ax(l:List Int):Int:=1+er l 0 2
def cH(p:aN)(next:Int):List aC :=
 (UQ p.types.length).map fun(j:Nat)=>⟨fw (next+(j:Int)),p.aK.getD j Xr,p.types.getD j bS,if p.kind=4 then p.kX.getD j 0 else 0,(j:Int)⟩
def jP(p:aN)(i next:Int):aq:=⟨fw i,p.kind,fw p.mod,p.name,cH p next,p.au,oT,0,[]⟩
def br:List aN->Int->Int->List aq
 |[],_,_=>[]
 |p::ps,i,next=>jP p i next::br ps (i+1) (next+p.types.length)
theorem cE:∀(ps:List aN) (i next:Int),(br ps i next).length=ps.length
 |[],_,_=>rfl
 |_::ps,_,_=>by rw[br,QG,cE ps,QG]
end Xe
namespace Pm
open Go Xe
theorem gw(xs:List aq){k:Nat}(hk:k<xs.length):el (xs.flatMap aq.enc) 31 k=xs[k].enc:=dE aq.aP xs hk
theorem oU(xs:List aC){k:Nat}(hk:k<xs.length):el (xs.flatMap aC.enc) 11 k=xs[k].enc:=dE aC.aP xs hk
theorem Jx(xs:List cd){k:Nat}(hk:k<xs.length):el (xs.flatMap cd.enc) 9 k=xs[k].enc:=dE cd.aP xs hk
theorem yw(xs:List aI){k:Nat}(hk:k<xs.length):el (xs.flatMap aI.enc) 6 k=xs[k].enc:=dE aI.aP xs hk
theorem eK(xs:List ar){k:Nat}(hk:k<xs.length):el (xs.flatMap ar.enc) 3 k=xs[k].enc:=dE (enc:=ar.enc) (λ_=>rfl) xs hk
theorem el_Pl(xs:List aN){k:Nat}(hk:k<xs.length):el (xs.flatMap aN.enc) 11 k=xs[k].enc:=dE aN.aP xs hk
theorem id_eq(a b:ar):(a.aD=b.aD/\a.seq=b.seq/\a.index=b.index)=(a=b):=propext ⟨λh=>ar.ext' h.1 h.2.1 h.2.2,λh=>by grind⟩
theorem ifK_nd(p:Prop)(_:Decidable p)(k h:Prop):aB (!decide p) k h=((p->h)/\(¬p->k)):=by by_cases hp:p <;> simp[aB,hp]
theorem aG:(∀(d:D) (ds:List D) (o n:Nat),sub (d::ds) (o+1) n=sub ds o n)/\(∀(d:D) (ds:List D) (n:Nat),sub (d::ds) 0 (n+1)=d::sub ds 0 n)/\(∀(ds:List D),sub ds 0 0=[]) /\
  (∀(p:Prop) (_:Decidable p) (k h:Prop),aB (!decide p) k h=((p->h)/\(¬p->k))) /\
  (∀(t:Ty) (o n:Nat),sub t.enc o n=sub [ai t.kind,ai t.df.aD,ai t.df.seq,ai t.df.index,.sl t.kids.length 5 (t.kids.flatMap Ty.enc)] o n) /\
  (∀(b:cd) (i:Nat),cell b.enc i=cell [ai b.id.aD,ai b.id.seq,ai b.id.index,ai b.n,ai b.ty.kind,ai b.ty.df.aD,ai b.ty.df.seq,ai b.ty.df.index,.sl b.ty.kids.length 5 (b.ty.kids.flatMap Ty.enc)] i) /\
  (∀(b:cd),sub b.enc 4 5=b.ty.enc)/\(∀(b:cd),sub b.enc 0 3=b.id.enc) /\
  (∀(x:aC),sub x.enc 4 5=x.ty.enc)/\(∀(x:aC),sub x.enc 0 3=x.id.enc) /\
  (∀(x:aq),sub x.enc 0 3=x.id.enc)/\(∀(x:aq),sub x.enc 4 3=x.mod.enc)/\(∀(x:aq),sub x.enc 9 5=x.au.enc)/\(∀(x:aq),sub x.enc 14 15=x.body.enc) /\
  (∀(x:aq),cell x.enc 3=ai x.kind)/\(∀(x:aq),cell x.enc 8=.sl x.ah.length 11 (x.ah.flatMap aC.enc))/\(∀(x:aI),sub x.enc 0 3=x.id.enc) /\
  (∀(x:ar) (i:Nat),cell x.enc i=cell [ai x.aD,ai x.seq,ai x.index] i)/\(∀a b:ar,(a.aD=b.aD/\a.seq=b.seq/\a.index=b.index)=(a=b))/\(∀e:Ex,sub e.enc 5 3=e.ref.enc)/\(∀e:Ex,sub e.enc 0 3=e.id.enc)/\(∀e:Ex,sub e.enc 8 5=e.ty.enc):=by
 refine⟨λ_ _ _ _=>rfl,λ_ _ _=>rfl,λ_=>rfl,λ_ _ _ _=>ifK_nd _ _ _ _,λt o n=>by rw[Ty.aF],λ_ _=>rfl,λb=>by rw[Ty.aF];rfl,λ_=>rfl,λb=>by rw[Ty.aF];rfl,λ_=>rfl,λ_=>rfl,λ_=>rfl,λb=>by rw[Ty.aF];rfl,λb=>by rw[Ex.aF];rfl,λ_=>rfl,λ_=>rfl,λ_=>rfl,λ_ _=>rfl,id_eq,λe=>by rw[Ex.aF];rfl,λe=>by rw[Ex.aF];rfl,λe=>by rw[Ex.aF,Ty.aF];rfl⟩
def gp(c:fB)(s:bY):List D:=[.sl c.p.al.length 6 (c.p.al.flatMap aI.enc),bU c.l,vI s.pos,vI s.be,vI s.left,vI c.own,vI c.j3.aD,vI c.j3.seq,vI c.j3.index,vI s.name]
def iN(c:fB):List D:=[.sl c.p.ae.length 31 (c.p.ae.flatMap aq.enc)]
def exL(e:Ex):List D:=[ai e.id.aD,ai e.id.seq,ai e.id.index,ai e.kind,ai e.n,ai e.ref.aD,ai e.ref.seq,ai e.ref.index,ai e.ty.kind,ai e.ty.df.aD,ai e.ty.df.seq,ai e.ty.df.index,
  .sl e.ty.kids.length 5 (e.ty.kids.flatMap Ty.enc),.sl e.kids.length 15 (e.kids.flatMap Ex.enc)]
def nmL(e:Ex):List D:=[Jy e.aK]
theorem bC{X:(bR->Prop)->Prop}{k:bR->Prop}(r:bR)(h:X λst=>st=r)(hk:k r):jn X k:=⟨_,h,λ_ e=>e▸hk⟩
def FI(c:fB)(r:Ex×bY):bR:=[exL r.1,nmL r.1,gp c r.2,iN c]
theorem cV:(∀c s,gp c s=[.sl c.p.al.length 6 (c.p.al.flatMap aI.enc),bU c.l,vI s.pos,vI s.be,vI s.left,vI c.own,vI c.j3.aD,vI c.j3.seq,vI c.j3.index,vI s.name]) /\
  (∀c,iN c=[.sl c.p.ae.length 31 (c.p.ae.flatMap aq.enc)])/\(∀e,nmL e=[.sl e.aK.length 1 (e.aK.map bM)]) /\
  (∀e,exL e=[ai e.id.aD,ai e.id.seq,ai e.id.index,ai e.kind,ai e.n,ai e.ref.aD,ai e.ref.seq,ai e.ref.index,ai e.ty.kind,ai e.ty.df.aD,ai e.ty.df.seq,ai e.ty.df.index,.sl e.ty.kids.length 5 (e.ty.kids.flatMap Ty.enc),.sl e.kids.length 15 (e.kids.flatMap Ex.enc)]) /\
  (∀c r,FI c r=[exL r.1,nmL r.1,gp c r.2,iN c]):=⟨λ_ _=>rfl,λ_=>rfl,λ_=>rfl,λ_=>rfl,λ_ _=>rfl⟩
structure Ctx(c:fB)(R:Nat):Prop where
 gen:Qj c.p R
 li:∀x∈c.l,lM x
 m0:0<c.p.al.length
 d0:0<c.p.ae.length
 d1:c.p.ae.length<=100
 sty:∀d∈c.p.ae,∀x∈d.ah,x.ty.size<=1000
 rty:∀d∈c.p.ae,d.au.size<=1000
structure Fit(c:fB)(R n:Nat)(t:Ty)(env:List cd)(depth:Int):Prop where
 e0:0<env.length
 e1:env.length+2*n<=1000
 ew:∀b∈env,eN c.p R b.ty
 es:∀b∈env,b.ty.size<=1000
 ts:t.size<=1000
 ok:rW c.p R n t depth
 dp:(n:Int)-1000<=depth/\depth<=1000
theorem Fit.x8{c:fB}{R n:Nat}{t:Ty}{env:List cd}{depth:Int}(h:Fit c R (n+1) t env depth){u:Ty}(hu:∀m,eN c.p (m+1) t->eN c.p m u)(hs:u.size<=1000):Fit c R n u env (depth-1) :=
 ⟨h.e0,by have:=h.e1;omega,h.ew,h.es,hs,h.ok.part hu,by have:=h.dp;omega⟩
theorem Fit.any{c:fB}{R n:Nat}{t:Ty}{env:List cd}{depth:Int}(h:Fit c R (n+1) t env depth)(h0:0<depth){u:Ty}(hu:eN c.p R u)(hs:u.size<=1000){j:Int}(hj:1<=j)(hj2:j<=2):Fit c R n u env (depth-j) :=
 ⟨h.e0,by have:=h.e1;omega,h.ew,h.es,hs,h.ok.any h0 hu hj,by have:=h.dp;have:=h.e1;omega⟩
theorem Fit.wt{c:fB}{R n:Nat}{t:Ty}{env:List cd}{depth:Int}(h:Fit c R n t env depth)(h0:0<depth):eN c.p R t:=by
 rcases h.ok with h1|h1
 .omega
 .exact h1.2.1
theorem Fit.more{c:fB}{R n:Nat}{t:Ty}{env:List cd}{depth:Int}(h:Fit c R n t env depth){b:cd}(hw:eN c.p R b.ty)(hs:b.ty.size<=1000)(hl:env.length+1+2*n<=1000):Fit c R n t (env++[b]) depth :=
 ⟨Q2,Qc,λx hx=>by
  rcases QK.1 hx with hx|hx
  .exact h.ew x hx
  .rw[QI.1 hx];exact hw,λx hx=>by
  rcases QK.1 hx with hx|hx
  .exact h.es x hx
  .rw[QI.1 hx];exact hs,h.ts,h.ok,h.dp⟩
theorem o8{p:av}{R:Nat}(hR:2<=R){t:Ty}(h:t.kind=0\/t.kind=1):eN p R t:=by obtain⟨m,rfl⟩:∃m,R=m+1:=⟨R-1,Q0⟩;rw[eN];omega
theorem iv:bS.enc=[vI 0,vI 0,vI 0,vI 0,.sl 0 5 []]:=by rw[Ty.aF];rfl
theorem vZ:(b8 bS).enc=[vI 2,vI 0,vI 0,vI 0,.sl 1 5 [vI 0,vI 0,vI 0,vI 0,.sl 0 5 []]]:=by rw[Ty.aF];show[ai 2,ai 0,ai 0,ai 0,.sl 1 5 ([bS].flatMap Ty.enc)]=_;simp[iv]
theorem vM:(Ty.mk 1 ki []).enc=[vI 1,vI 0,vI 0,vI 0,.sl 0 5 []]:=by rw[Ty.aF];rfl
theorem O7{α:Type}{l:List α}{d:α}(h:0<l.length):l.headD d=l[0]:=by
 cases l with
 |nil=>cases h
 |cons a l=>rfl
theorem fc{z n:Int}(hz:0<=z):z.tmod n=z % n:=RB hz
theorem lY{z n:Int}(hz:0<=z):z.tdiv n=z / n:=SL hz
end Pm
namespace Go.Proofs.YtmbboaapillefaaGreatDoor
open Xe Pm
abbrev IS:=Pm.Is Qu
theorem pV{z n:Int}(hn:1<=n)(hz:lM z):IS s22 [[vI z],[vI n]] [[vI (gi z n)]]:=by
 refine w22.is ?_;unfold g22;simp only[aj];refine hY ?_;simp only[aj];rw[Mt z n hn];unfold bt lM at *
 grind
theorem lN{z:Int}(h0:0<=z)(hz:lM z):IS nG [[vI z]] [(fw z).enc]:=by refine w30.is ?_;unfold g30;simp only[aj];unfold bt lM at *;have e:=lY (n:=32) h0;refine⟨⟨Q1,Q0,Q0⟩,Q0,Q1,?_⟩;rfl
theorem Qn{l:List Int}{i n:Int}(hn:1<=n)(hl:∀x∈l,lM x):IS rk [[bU l],[vI i],[vI n]] [[vI (er l i n)]]:=by
 refine w29.is ?_;unfold g29 bU er;simp only[aj];refine⟨λh=>by grind,λh=>⟨λh1=>by grind,λh1=>⟨Q0,?_⟩⟩⟩;have hk:i.toNat<l.length:=Q0;rw[ux l hk];simp only[aj];refine aa (pV hn (hl _ (QB hk))) ?_;simp only[aj]
 grind
section
variable {c:fB} {s:bY}
theorem num_is{n:Int}(hn:1<=n)(hl:∀x∈c.l,lM x)(hb:Bd 1 s):IS s116 [[vI n],gp c s,iN c] [[vI (fQ c n s).1],gp c (fQ c n s).2,iN c]:=by refine w116.is ?_;unfold g116 gp iN;simp only[aj];unfold bt Bd at *;refine⟨Q0,Q0,?_⟩;refine aa (Qn hn hl) ?_;simp only[aj,fQ,X0]
theorem gD{k n:Int}{kids:List Ex}(hb:Bd 1 s):IS il [[vI k],[vI n],[.sl kids.length 15 (kids.flatMap Ex.enc)],gp c s,iN c] (FI c (bb k n kids s)):=by refine w120.is ?_;unfold g120 gp iN;simp only[aj];unfold bt Bd at *;refine⟨Q0,Q0,Q0,?_⟩;simp only[bb,X0];rfl
theorem vU(hb:Bd 1 s):IS DA [gp c s,iN c] [[vS (cI s).1],gp c (cI s).2,iN c]:=by
 refine w121.is ?_;unfold g121 gp iN;simp only[aj];unfold bt Bd at *;obtain⟨i,j,h1,h2,h3,h4,h5⟩:=nm_rng (k:=s.name+1) Q0;have e2:(s.name+1).tdiv 3=(s.name+1) / 3:=lY Q0;refine⟨Q0,Q1,Q0,⟨Q1,Q0⟩,Q1,Q0,?_⟩;rw[h1,h3,Rx,Rx];have e1:cell (el [vS ⟨#[117]⟩,vS ⟨#[118]⟩,vS ⟨#[119]⟩] 1 i) 0=vS (nm1.getD i ⟨#[]⟩):=by rcases i with _|_|_|i <;> first|rfl|omega
 have e3:cell (el [vS ⟨#[]⟩,vS ⟨#[49]⟩,vS ⟨#[50]⟩,vS ⟨#[51]⟩,vS ⟨#[52]⟩,vS ⟨#[53]⟩,vS ⟨#[54]⟩,vS ⟨#[55]⟩] 1 j) 0=vS (nm2.getD j ⟨#[]⟩):=by rcases j with _|_|_|_|_|_|_|_|j <;> first|rfl|omega
 rw[e1,e3];simp only[aj];have:=nm1_rng i h2;have:=nm2_rng j h4;refine⟨Q0,?_⟩;unfold cI;rw[h5]
end
theorem JS(t:Ty):IS tH [t.enc] [[vI 2,vI 0,vI 0,vI 0],[.sl 1 5 t.enc]]:=by refine w114.is ?_;unfold g114;simp only[aj,QF]
theorem Bi(i:ar):IS w5 [i.enc] [(mm i).enc]:=by refine w112.is ?_;unfold g112;rw[Ty.aF];rfl
theorem Ty.all_eq{a b:Ty}(h1:a.kind=b.kind)(h2:a.df=b.df)(h3:a.kids=b.kids):a=b:=by cases a;cases b;simp only[Ty.kind,Ty.df,Ty.kids]at h1 h2 h3;rw[h1,h2,h3]
theorem Ty.l8:∀l:List Ty,l.length<=Ty.aW l
 |[]=>Rr _
 |t::l=>by
  have:=Ty.l8 l;have:1<=t.size:=by cases t;simp[Ty.size]
  simp only[QG,Ty.aW];omega
theorem Ty.kids_lt(a:Ty):a.kids.length<a.size:=by have:=Ty.l8 a.kids;cases a;simp only[Ty.size,Ty.kids]at *;omega
theorem wv(a b:Ty)(hs:a.size<=1000000000000):IS y9 [a.enc,b.enc] [[vB (decide (a=b))]]:=by
 refine w186.is ?_;unfold g186;simp only[aj,aG];refine⟨λh1=>⟨λh2'=>?_,λh2=>?_⟩,λh1=>by rw[J6 (λe=>h1 (by rw[e]))]⟩
 .refine⟨λh3=>?_,λh3=>by rw[J6 (λe=>h3 (by rw[e]))]⟩;have h3':a.kids.length=b.kids.length:=Q0;refine aZ a.kids.length (λi=>[[vI (i:Int)],a.enc,b.enc]) (λi=>a.kids.take i=b.kids.take i) Q2 rfl λi next hi hI hn=>?_
  simp only[aj];refine⟨λh=>?_,λh=>?_⟩
  .have hk:i<a.kids.length:=Q0;have hk':i<b.kids.length:=Q0;rw[yv _ hk,yv _ hk'];have:=Ty.mc (QB hk);have hl:=Ty.kids_lt a;refine⟨Q0,Q0,aa (wv _ _ Q0) ?_⟩;simp only[aj,aG];refine⟨λe=>⟨Q4,hn hk ?_⟩,λe=>?_⟩
   .rw[Qv hk,Qv hk',hI,e]
   .rw[J6 (λe'=>e (by grind))]
  .obtain rfl:i=a.kids.length:=Q0;have e:a.kids=b.kids:=by
    grind
   rw[J5 (Ty.all_eq h1 h2' e)]
 .rw[J6 (λe=>h2 (by rw[e]))]
 termination_by a.size
theorem Def_is(p:av)(i:ar)(hs:p.ae.length<=1000000000000)(md:D):IS s23 [[md],i.enc,[.sl p.ae.length 31 (p.ae.flatMap aq.enc)]] [(an p i).enc,[vB (decide (dy p i))],[.sl p.ae.length 31 (p.ae.flatMap aq.enc)]]:=by
 refine w23.is ?_;unfold g23;simp only[aj];refine hY ?_;refine aZ p.ae.length (λk=>[[md],[vI (k:Int)],[.sl p.ae.length 31 (p.ae.flatMap aq.enc)],[md],i.enc,lj.enc]) (λk=>∀j (hj:j<p.ae.length),j<k->p.ae[j].id≠i) (λ_ _ h=>J3 h (RP _)) rfl λk next hi hI hn=>?_
 simp only[aj,aG];refine⟨λh=>?_,λh=>?_⟩
 .have hk:k<p.ae.length:=Q0;rw[gw _ hk];simp only[aj,aG];refine⟨Q0,λe=>⟨Q0,?_⟩,λe=>⟨Q4,hn hk λj hj h=>?_⟩⟩
  .obtain⟨h1,h2⟩:=iX hk hI e
   grind
  all_goals grind
 .obtain rfl:k=p.ae.length:=Q0;obtain⟨h1,h2⟩:=oa λj hj=>hI j hj hj;rw[h2,J6 h1];rfl
section
variable {c:fB} {s:bY}
theorem qp{k:Nat}(hk:k<c.p.ae.length)(hm:0<c.p.al.length):IS Dx [[vI k],gp c s,iN c] [[vB (decide (kr c k))],gp c s,iN c]:=by
 refine w188.is ?_;unfold g188 gp iN;simp only[aj];rw[gw _ hk,yw _ hm];simp only[aj,aG];have e1:=jr hk;have e2:=modA_eq hm;refine⟨Q0,λh=>⟨λh1=>?_,λh1=>⟨Q0,?_⟩⟩,λh=>?_⟩
 .rw[J5 (show kr c k from⟨h,.inl (by grind)⟩)]
 .refine J4 (λb=>[[vB b],gp c s,iN c]) (decide_eq_decide.2 ?_);unfold kr
  grind
 .rw[J6 (λhv=>h hv.1)]
theorem of_is{kind:Int}{frm:Nat}(hm:0<c.p.al.length)(hd:0<c.p.ae.length)(hl:c.p.ae.length<=1000)(hf:frm<=1000000000000):IS s187 [[vI kind],[vI frm],gp c s,iN c] [[vI (My c kind frm)],gp c s,iN c]:=by
 refine w187.is ?_;unfold g187 gp iN;simp only[aj];refine aZ c.p.ae.length (λi=>[[vI kind],[vI frm],[vI (c.p.ae.length:Int)],[vI (i:Int)],gp c s,iN c]) (λi=>My c kind frm=gL c kind frm i (c.p.ae.length-i)) rfl rfl λi next hi hI hn=>?_
 unfold gp iN;simp only[aj];refine⟨λh=>?_,λh=>?_⟩
 .have hk:i<c.p.ae.length:=Q0;have ht:(((frm:Int)+i).tmod (c.p.ae.length:Int))=((frm+i) % c.p.ae.length:Nat):=by
   grind
  have hlt:(frm+i) % c.p.ae.length<c.p.ae.length:=U2 _ hd;rw[D3 hk]at hI;refine hY ?_;rw[ht,Rx,gw _ hlt];simp only[aj,aG];rw[jr hlt]at hI;have fin:My c kind frm=gL c kind frm (i+1) (c.p.ae.length-(i+1))->bt ((i:Int)+1)/\next [[vI kind],[vI frm],[vI (c.p.ae.length:Int)],[vI ((i:Int)+1)],gp c s,iN c]:=λe=>⟨Q4,hn hk e⟩
  refine⟨Q4,Q0,Q0,λh1=>aa (qp hlt hm) ?_,λh1=>?_⟩
  .unfold gp iN;simp only[aj];refine⟨λh2=>?_,λh2=>fin ?_⟩
   all_goals grind
  .refine fin ?_;omega
 .obtain rfl:i=c.p.ae.length:=Q0;rw[hI,UO];rfl
theorem G9{env:List cd}{t:Ty}(ht:∀b∈env,b.ty.size<=1000000000000)(hl:env.length<=1000000):IS s117 [[cf env],t.enc] [[cf (eX env t)]]:=by
 refine w117.is ?_;unfold g117 cf;simp only[aj];refine aZ env.length (λi=>[[.sl env.length 9 (env.flatMap cd.enc)],[vI (i:Int)],t.enc,[cf (eX (env.take i) t)]]) (λ_=>True) trivial rfl λi next hi _ hn=>?_
 unfold cf;simp only[aj];refine⟨λh=>?_,λh=>?_⟩
 .have hk:i<env.length:=Q0;refine hY ?_;rw[Jx _ hk];simp only[aj,aG];have hf:=yl (t:=t) hk;have:=EK (l:=env) (t:=t) i;have hn':=hn hk trivial;rw[hf]at hn';refine⟨Q0,aa (wv _ _ (ht _ (QB hk))) ?_⟩;simp only[aj];refine⟨λh1=>?_,λh1=>?_⟩
  .rw[J2 h1]at hn';refine⟨Q0,Qa,Q4,?_⟩;simpa[cf]using hn'
  .rw[J1 h1]at hn';exact⟨Q4,hn'⟩
 all_goals grind
theorem var_is{b:cd}(hb:Bd 1 s):IS Kr [b.enc,gp c s,iN c] (FI c (MC b s)):=by refine w118.is ?_;unfold g118 gp iN;simp only[aj,aG];refine aa (gD (kids:=[]) hb) ?_;simp only[cV,aj];rfl
theorem vG{env:List cd}{b:cd}(hl:env.length<=1000000):IS Dz [[cf env],b.enc] [[cf (env++[b])]]:=by refine w122.is ?_;unfold g122 cf;simp only[aj];refine⟨Qa,Qa,?_⟩;simp
end
def uI(c:fB)(R n:Nat):Prop:=∀(t:Ty) (env:List cd) (depth:Int) (s:bY),Fit c R n t env depth->Bd (9 ^ n) s->IS lf [t.enc,[cf env],[vI depth],gp c s,iN c] (FI c (ay c n t env depth s))
theorem q1(n:Nat):(1:Int)<=9 ^ n:=Y2 Q1
theorem sI(e:Ex):[ai e.id.aD,ai e.id.seq,ai e.id.index,ai e.kind,ai e.n,ai e.ref.aD,ai e.ref.seq,ai e.ref.index,ai e.ty.kind,ai e.ty.df.aD,ai e.ty.df.seq,ai e.ty.df.index,
  .sl e.ty.kids.length 5 (e.ty.kids.flatMap Ty.enc),.sl e.kids.length 15 (e.kids.flatMap Ex.enc),.sl e.aK.length 1 (e.aK.map bM)]=e.enc:=(Ex.aF e).symm
theorem wj(l:List Ex)(e:Ex):l.flatMap Ex.enc++[ai e.id.aD,ai e.id.seq,ai e.id.index,ai e.kind,ai e.n,ai e.ref.aD,ai e.ref.seq,ai e.ref.index,ai e.ty.kind,ai e.ty.df.aD,ai e.ty.df.seq,ai e.ty.df.index,
  .sl e.ty.kids.length 5 (e.ty.kids.flatMap Ty.enc),.sl e.kids.length 15 (e.kids.flatMap Ex.enc),.sl e.aK.length 1 (e.aK.map bM)]=(l++[e]).flatMap Ex.enc:=by rw[sI];simp
def exC(e:Ex):List D:=[ai e.id.aD,ai e.id.seq,ai e.id.index,ai e.kind,ai e.n,ai e.ref.aD,ai e.ref.seq,ai e.ref.index,ai e.ty.kind,ai e.ty.df.aD,ai e.ty.df.seq,ai e.ty.df.index,
  .sl e.ty.kids.length 5 (e.ty.kids.flatMap Ty.enc),.sl e.kids.length 15 (e.kids.flatMap Ex.enc),.sl e.aK.length 1 (e.aK.map bM)]
theorem nB(e:Ex):exC e=e.enc:=(Ex.aF e).symm
section
variable {c:fB} {s:bY} {k n:Int}
theorem sd(e:Ex)(hb:Bd 1 s):IS il [[vI k],[vI n],[.sl 1 15 (exC e)],gp c s,iN c] (FI c (bb k n [e] s)):=by have:=gD (c:=c) (k:=k) (n:=n) (kids:=[e]) hb;rw[nB];simpa using this
theorem xN(e f:Ex)(hb:Bd 1 s):IS il [[vI k],[vI n],[.sl 2 15 (exC e++exC f)],gp c s,iN c] (FI c (bb k n [e,f] s)):=by have:=gD (c:=c) (k:=k) (n:=n) (kids:=[e,f]) hb;rw[nB,nB];simpa using this
theorem D8(e f g:Ex)(hb:Bd 1 s):IS il [[vI k],[vI n],[.sl 3 15 (exC e++(exC f++exC g))],gp c s,iN c] (FI c (bb k n [e,f,g] s)):=by have:=gD (c:=c) (k:=k) (n:=n) (kids:=[e,f,g]) hb;rw[nB,nB,nB];simpa using this
end
section
variable {c:fB} {R n:Nat} {t:Ty} {env:List cd} {x depth:Int} {s:bY}
theorem LG(h:t.size<=1000):(t.kids.headD bS).size<=1000:=by
 cases hk:t.kids with
 |nil=>simp[bS,Ty.size,Ty.aW]
 |cons a l=>have:=Ty.mc (t:=t) (k:=a) (by grind);show a.size<=1000;omega
theorem H3(hc:Ctx c R)(i:ar){z:aC}(hz:z∈(an c.p i).ah):z.ty.size<=1000:=by
 rcases mP c.p i with e|e
 .rw[e]at hz;cases hz
 .exact hc.sty _ e _ hz
theorem x6(hc:Ctx c R)(hg:uI c R n){d:Int}{ts:List Ty}(st:Nat->List Ex->bY->bR)(z:List Ex×bY)(hz:dg (ay c n) env d ts s=z)(hb:Bd (ts.length*9 ^ n+1) s)(hk:∀u∈ts,Fit c R n u env d){B:(bR->Prop)->bR->Prop}{s0:bR}(e0:s0=st 0 [] s)
  (h:∀(i:Nat) (dn:List Ex) (s1:bY) (next:bR->Prop),i<=ts.length->dn.length=i ->
   (∀hk:i<ts.length,IS lf [ts[i].enc,[cf env],[vI d],gp c s1,iN c] (FI c (ay c n ts[i] env d s1))/\next (st (i+1) (dn++[(ay c n ts[i] env d s1).1]) (ay c n ts[i] env d s1).2)) ->
   (i=ts.length->z.1=dn/\z.2=s1)->B next (st i dn s1)):Lp B s0:=by
 have hq:=q1 n;refine dG (σ:=Nat×List Ex×bY) (λy=>st y.1 y.2.1 y.2.2) (λy=>ts.length-y.1)
  (λy=>y.1<=ts.length/\y.2.1.length=y.1/\z=kJ y.2.1 (dg (ay c n) env d (ts.drop y.1) y.2.2)/\Bd ((ts.length-y.1:Nat)*9 ^ n+1) y.2.2) (0,[],s) ⟨Rr _,rfl,by rw[RR,hz];exact OO z,hb⟩ e0 ?_
 rintro⟨i,dn,s1⟩ next ⟨hi,hlen,hI,hB⟩ hn
 dsimp only at hi hlen hI hB hn ⊢;refine h i dn s1 next hi hlen (λhk1=>?_) (λhe=>?_)
 .obtain⟨m,hm⟩:∃m,ts.length-i=m+1:=⟨ts.length-i-1,Q0⟩;rw[hm]at hB;have e1:((m+1:Nat):Int)*9 ^ n=m*9 ^ n+9 ^ n:=by grind
  have h5:(0:Int)<=m*9 ^ n:=SX Q0 Q0;refine⟨hg _ env d s1 (hk _ (QB hk1)) (hB.mono Q0),?_⟩;have hI':=GP hk1 hI;have hB':=dz hc.gen.fE n ts[i] env d s1 (m*9 ^ n+1) Q0 (hB.mono Q0);exact hn (i+1,_,_) Q0 ⟨Q0,by simp[hlen],hI',by grind⟩
 .have:=LF he hI;rw[this];exact⟨rfl,rfl⟩
theorem OC(hc:Ctx c R)(hg:uI c R n)(hf:Fit c R (n+1) t env depth)(hx:0<=x/\x<=1000000)(hb:Bd (3*9 ^ n+1) s):IS Kq [t.enc,[cf env],[vI x],[vI depth],gp c s,iN c] (FI c (kM c (ay c n) t env x depth s)):=by
 refine w119.is ?_;unfold g119;have hq:=q1 n;have e29:x.tmod 29=x % 29:=fc hx.1;have e9:x.tmod 9=x % 9:=fc hx.1;have e2:x.tmod 2=x % 2:=fc hx.1;have e3:x.tmod 3=x % 3:=fc hx.1;simp only[aj,aG,cV,cf];refine⟨λh0=>?_,λh0=>⟨λh1=>?_,λh1=>⟨λh2=>?_,λh2=>?_⟩⟩⟩
 .refine⟨Q1,Q4,bC [[vI (OE x)],gp c s,oT.enc,iN c] ?_ ?_⟩
  .simp only[cV];refine⟨Q1,λh=>⟨Q1,Q4,?_⟩,λh=>?_⟩
   .unfold OE;rw[J2 h];rfl
   .unfold OE;rw[J1 h];rfl
  .simp only[aj,cV];refine aa (gD (kids:=[]) (hb.mono Q0)) ?_;simp only[aj,cV];unfold kM;rw[J2 h0]
 .refine⟨Q1,aa (gD (kids:=[]) (hb.mono Q0)) ?_⟩;simp only[aj,cV];unfold kM;rw[J1 h0,J2 h1]
 .have hw:=hf.ok.wf;obtain⟨hk0,_⟩:=wD hw h2;have hd:t.kids.headD bS=t.kids[0]:=O7 hk0;have hs0:=LG hf.ts;have el0:=yv t.kids hk0;generalize hM:(if 0<=depth then(x.tmod 3).toNat else 0)=M;have hM3:M<=3:=by grind
  generalize hz:dh (ay c n) (t.kids.headD bS) env (depth-1) M s=z;have hr:kM c (ay c n) t env x depth s=((bb 11 0 z.1 z.2).1.Ie (t.kids.headD bS),(bb 11 0 z.1 z.2).2):=by
   unfold kM
   grind
  rw[hr];have hzb:Bd 1 z.2:=by rw[<-hz];have:=le3 hM3 (show(0:Int)<=9 ^ n by omega);exact x7 (dz hc.gen.fE n) hq Q0 M s (hb.mono Q0)
  refine bC [gp c z.2,t.enc,oT.enc,[.sl z.1.length 15 (z.1.flatMap Ex.enc)],iN c] ?_ ?_
  .refine dG (σ:=Nat×List Ex×bY) (λy=>[[cf env],[vI x],[vI depth],[vI (y.1:Int)],gp c y.2.2,t.enc,oT.enc,[.sl y.2.1.length 15 (y.2.1.flatMap Ex.enc)],iN c]) (λy=>M-y.1)
    (λy=>y.1<=M/\y.2.1.length=y.1/\z=kJ y.2.1 (dh (ay c n) (t.kids.headD bS) env (depth-1) (M-y.1) y.2.2)/\Bd ((M-y.1:Nat)*9 ^ n+1) y.2.2) (0,[],s) ⟨Rr _,rfl,by rw[Nat.sub_zero,hz];exact OO z,by
     have:=le3 hM3 (show(0:Int)<=9 ^ n by omega);exact hb.mono (by grind)⟩ rfl ?_
   rintro⟨i,dn,s1⟩ next ⟨hi,hlen,hI,hB⟩ hn
   dsimp only at hi hlen hI hB hn ⊢;simp only[aj,cV,cf];have stop:(M-i=0\/¬0<s1.left)->[[.sl c.p.al.length 6 (c.p.al.flatMap aI.enc),bU c.l,vI s1.pos,vI s1.be,vI s1.left,vI c.own,vI c.j3.aD,vI c.j3.seq,vI c.j3.index,vI s1.name],t.enc,oT.enc,[.sl dn.length 15 (dn.flatMap Ex.enc)],[.sl c.p.ae.length 31 (c.p.ae.flatMap aq.enc)]]=[gp c z.2,t.enc,oT.enc,[.sl z.1.length 15 (z.1.flatMap Ex.enc)],iN c]:=λh=>by rw[GQ hI h];rfl
   refine⟨Q1,λh=>⟨λh3=>⟨λh4=>?_,λh4=>stop (.inr h4)⟩,λh3=>stop (.inl ?_)⟩,λh=>stop (.inl ?_)⟩
   .rw[J2 h3]at hM;have hiM:i<M:=Q0;obtain⟨m,hm⟩:∃m,M-i=m+1:=⟨M-i-1,Q0⟩;rw[hm]at hI hB;have e1:((m+1:Nat):Int)*9 ^ n=m*9 ^ n+9 ^ n:=by grind
    have h5:(0:Int)<=m*9 ^ n:=SX Q0 Q0;rw[el0,<-hd];have hdp:=hf.dp;refine⟨Q0,Q4,aa (hg _ env (depth-1) s1 (hf.x8 (λm hm=>(wD hm h2).2) hs0) (hB.mono Q0)) ?_⟩;simp only[aj,cV];have hI':=GR hI h4;have hB':=dz hc.gen.fE n (t.kids.headD bS) env (depth-1) s1 (m*9 ^ n+1) Q0 (hB.mono Q0);generalize ay c n (t.kids.headD bS) env (depth-1) s1=r at hI' hB' ⊢;refine⟨Qa,Q4,?_⟩;have:=hn (i+1,dn++[r.1],r.2) Q0 ⟨Q0,by simp[hlen],by dsimp only;rw[show M-(i+1)=m by omega];exact hI',by dsimp only;rw[show M-(i+1)=m by omega];exact hB'⟩;rw[wj];simpa[cV,cf]using this
   .grind
   .split at hM <;> omega
  .simp only[aj,cV];refine aa (gD hzb) ?_;simp only[aj,cV];refine⟨Q0,?_⟩;rw[el0,<-hd];simp only[aj];rfl
 .have hw:=hf.ok.wf;obtain⟨hw1,hw2,hw3⟩:=mN hw h0 h1 h2;have hdp:=hf.dp;have hs3:=hc.gen.fE.qt t.df;have hdl:=hc.d1;refine aa (Def_is c.p t.df Q0 _) ?_;simp only[aj,aG];refine⟨λh3=>?_,λh3=>?_⟩
  .have hs0:=hw2 h3;have hk:fX (an c.p t.df) x depth=((fX (an c.p t.df) x depth).toNat:Int)/\(fX (an c.p t.df) x depth).toNat<(an c.p t.df).ah.length:=by have e:x.tmod ((an c.p t.df).ah.length:Int)=x % ((an c.p t.df).ah.length:Int):=fc hx.1;have h1:=Tp x (show((an c.p t.df).ah.length:Int)≠0 by omega);have h2:=SM x (show(0:Int)<(an c.p t.df).ah.length by omega);unfold fX;split <;> omega
   have hr:kM c (ay c n) t env x depth s=(((bb 9 (fX (an c.p t.df) x depth) [(ay c n ((((an c.p t.df).ah.map aC.ty).getD (fX (an c.p t.df) x depth).toNat bS)) env (depth-1) s).1] (ay c n ((((an c.p t.df).ah.map aC.ty).getD (fX (an c.p t.df) x depth).toNat bS)) env (depth-1) s).2).1.dH (an c.p t.df).id),(bb 9 (fX (an c.p t.df) x depth) [(ay c n ((((an c.p t.df).ah.map aC.ty).getD (fX (an c.p t.df) x depth).toNat bS)) env (depth-1) s).1] (ay c n ((((an c.p t.df).ah.map aC.ty).getD (fX (an c.p t.df) x depth).toNat bS)) env (depth-1) s).2).2):=by
    unfold kM
    grind
   rw[hr];refine⟨Q0,bC [[cf env],[vI depth],[vI (fX (an c.p t.df) x depth)],gp c s,oT.enc,(an c.p t.df).enc,iN c] ?_ ?_⟩
   .simp only[cV,cf];unfold fX;exact⟨λh=>by rw[J2 h];rfl,λh=>by rw[J1 h];rfl⟩
   .generalize fX (an c.p t.df) x depth=kk at hk ⊢;obtain⟨k,rfl⟩:∃k:Nat,kk=k:=⟨_,hk.1⟩;rw[Rx]at hk ⊢;have hk2:=hk.2;have eg:((an c.p t.df).ah.map aC.ty).getD k bS=(an c.p t.df).ah[k].ty:=by grind
    rw[eg];simp only[aj,aG,cV,cf];rw[oU _ hk2];simp only[aG];have hm:=QB hk2;refine⟨Q0,Q4,aa (hg _ env (depth-1) s (hf.x8 (λm hm'=>(mN hm' h0 h1 h2).2.2 _ hm) (H3 hc _ hm)) (hb.mono Q0)) ?_⟩;have hB':=dz hc.gen.fE n (an c.p t.df).ah[k].ty env (depth-1) s 1 Q0 (hb.mono Q0);generalize ay c n (an c.p t.df).ah[k].ty env (depth-1) s=r at hB' ⊢;simp only[aj,cV];refine aa (sd r.1 hB') ?_;simp only[aj,cV];rfl
  .generalize hz:dg (ay c n) env (depth-1) ((an c.p t.df).ah.map aC.ty) s=z;have hr:kM c (ay c n) t env x depth s=((bb 7 0 z.1 z.2).1.dH (an c.p t.df).id,(bb 7 0 z.1 z.2).2):=by
    unfold kM
    grind
   rw[hr];have h3q:=le3 hs3 (show(0:Int)<=9 ^ n by omega);have hzb:Bd 1 z.2:=by rw[<-hz];exact oI (dz hc.gen.fE n) hq Q0 _ s (hb.mono (by grind))
   refine bC [gp c z.2,oT.enc,(an c.p t.df).enc,[.sl z.1.length 15 (z.1.flatMap Ex.enc)],iN c] ?_ ?_
   .refine x6 hc hg (d:=depth-1) (ts:=(an c.p t.df).ah.map aC.ty) (s:=s) (λi dn s1=>[[cf env],[vI depth],[vI (i:Int)],gp c s1,oT.enc,(an c.p t.df).enc,[.sl dn.length 15 (dn.flatMap Ex.enc)],iN c]) z hz (hb.mono (by grind)) (λu hu=>?_) rfl (λi dn s1 next hi hlen hgo hend=>?_)
    .obtain⟨y,hy,rfl⟩:=QP.1 hu;exact hf.x8 (λm hm'=>(mN hm' h0 h1 h2).2.2 _ hy) (H3 hc _ hy)
    .simp only[aj,aG,cV,cf];have hlm:((an c.p t.df).ah.map aC.ty).length=(an c.p t.df).ah.length:=QS ..;refine⟨λh=>?_,λh=>?_⟩
     .have hk:i<(an c.p t.df).ah.length:=Q0;obtain⟨hi1,hi2⟩:=hgo Q0;rw[oU _ hk];simp only[aG];rw[RG]at hi1 hi2;refine⟨Q0,Q4,aa hi1 ?_⟩;generalize ay c n (an c.p t.df).ah[i].ty env (depth-1) s1=r at hi2 ⊢;simp only[aj,cV];rw[wj];refine⟨Qa,Q4,?_⟩;simpa[cV,cf]using hi2
     all_goals grind
   .simp only[aj,cV];refine aa (gD hzb) ?_;simp only[aj,cV,aG];rfl
end
theorem sB:IS tH [[vI 0,vI 0,vI 0,vI 0,.sl 0 5 []]] [[vI 2,vI 0,vI 0,vI 0],[.sl 1 5 [vI 0,vI 0,vI 0,vI 0,.sl 0 5 []]]]:=by have:=JS bS;rwa [iv]at this
section
variable {c:fB} {R n:Nat} {t:Ty} {env:List cd} {x depth:Int} {s:bY}
theorem uI.list0(hg:uI c R n){d:Int}(hf:Fit c R n (b8 bS) env d)(hb:Bd (9 ^ n) s):IS lf [[vI 2,vI 0,vI 0,vI 0,.sl 1 5 [vI 0,vI 0,vI 0,vI 0,.sl 0 5 []]],[cf env],[vI d],gp c s,iN c] (FI c (ay c n (b8 bS) env d s)):=by have:=hg _ env d s hf hb;rwa [vZ]at this
theorem PW(g:GX)(u:Ty)(d:Int)(k:Int):lE g k u env d s=bb 4 k [(g u env d s).1,(g u env d (g u env d s).2).1] (g u env d (g u env d s).2).2:=rfl
theorem AN(h:0<env.length)(hx:0<=x):∃k:Nat,x.tmod (env.length:Int)=k/\∃hk:k<env.length,jJ env x=env[k]:=by
 have e:x.tmod (env.length:Int)=x % (env.length:Int):=fc hx;have h1:=Tp x (show(env.length:Int)≠0 by omega);have h2:=SM x (show(0:Int)<env.length by omega);refine⟨(x % (env.length:Int)).toNat,Q0,Q0,?_⟩;unfold jJ
 grind
theorem IN(hc:Ctx c R)(hg:uI c R n)(hf:Fit c R (n+1) t env depth)(h0:0<depth)(hx:0<=x/\x<=1000000)(hb:Bd (3*9 ^ n+1) s):IS zd [t.enc,[cf env],[vI x],[vI depth],gp c s,iN c] (FI c (Xe.nI c (ay c n) t env x depth s)):=by
 refine w126.is ?_;unfold g126;have hq:=q1 n;have e6:x.tmod 6=x % 6:=fc hx.1;have e5:x.tmod 5=x % 5:=fc hx.1;have e2:x.tmod 2=x % 2:=fc hx.1;have d6:x.tdiv 6=x / 6:=lY hx.1;have d2:x.tdiv 2=x / 2:=lY hx.1;have hdp:=hf.dp;have hR2:=hc.gen.R2;have bd:=dz hc.gen.fE n;simp only[aj,cV,cf];refine⟨λk0=>?_,λk0=>⟨λk1=>?_,λk1=>?_⟩⟩
 .refine⟨Q1,λh=>?_,λh=>?_⟩
  .refine aa sB ?_;simp only[aj];have hf1:=hf.any h0 (nW (p:=c.p) hR2) (u:=b8 bS) Q1 (j:=1) Q0 Q0;refine⟨Q4,aa (hg.list0 hf1 (hb.mono Q0)) ?_⟩;have hB:=bd (b8 bS) env (depth-1) s 1 Q0 (hb.mono Q0);rw[show Xe.nI c (ay c n) t env x depth s=bb 4 11 [(ay c n (b8 bS) env (depth-1) s).1] (ay c n (b8 bS) env (depth-1) s).2 by unfold Xe.nI;rw[J2 k0,J2 h];rfl];generalize ay c n (b8 bS) env (depth-1) s=r at hB ⊢;simp only[aj,cV];refine aa (sd r.1 hB) ?_;simp only[aj,cV]
  .have hf1:=hf.any h0 (hf.wt h0) hf.ts (j:=1) Q0 Q0;refine⟨Q4,aa (hg _ env _ s hf1 (hb.mono Q0)) ?_⟩;have hB:=bd t env (depth-1) s (9 ^ n+1) Q0 (hb.mono Q0);rw[show Xe.nI c (ay c n) t env x depth s=lE (ay c n) (x.tmod 5) t env (depth-1) s by unfold Xe.nI;rw[J2 k0,J1 h],PW];generalize ay c n t env (depth-1) s=r at hB ⊢;simp only[aj,cV];refine⟨Q1,Q0,Q4,aa (hg _ env _ r.2 hf1 (hB.mono Q0)) ?_⟩;have hB2:=bd t env (depth-1) r.2 1 Q0 (hB.mono Q0);generalize ay c n t env (depth-1) r.2=r2 at hB2 ⊢;simp only[aj,cV];have ec:cell (el [vI 0,vI 1,vI 2,vI 3,vI 4] 1 (x.tmod 5).toNat) 0=vI (x.tmod 5):=by have:x.tmod 5=0\/x.tmod 5=1\/x.tmod 5=2\/x.tmod 5=3\/x.tmod 5=4:=Q0;rcases this with e|e|e|e|e <;> rw[e] <;> rfl
   rw[ec];refine aa (xN r.1 r2.1 hB2) ?_;simp only[aj,cV]
 .refine⟨Q1,λh=>?_,λh=>?_⟩
  .have hf1:=hf.any h0 (hf.wt h0) hf.ts (j:=1) Q0 Q0;refine⟨Q4,aa (hg _ env _ s hf1 (hb.mono Q0)) ?_⟩;have hB:=bd t env (depth-1) s 1 Q0 (hb.mono Q0);rw[show Xe.nI c (ay c n) t env x depth s=bb 4 9 [(ay c n t env (depth-1) s).1] (ay c n t env (depth-1) s).2 by unfold Xe.nI;rw[J1 k0,J2 k1,J2 h];rfl];generalize ay c n t env (depth-1) s=r at hB ⊢;simp only[aj,cV];refine aa (sd r.1 hB) ?_;simp only[aj,cV]
  .obtain⟨ke,he1,he2,he3⟩:=AN (env:=env) hf.e0 (show 0<=x.tdiv 6 by omega);refine bC [[cf env],[vI x],[vI depth],[vI (if x.tmod 6=2 then 6 else 5)],gp c s,t.enc,oT.enc,bS.enc,iN c] ?_ ?_
   .rw[iv];refine⟨Q1,?_⟩;simp only;exact⟨λh=>by rw[J2 h];rfl,λh=>by rw[J1 h];rfl⟩
   simp only[aj,cV,cf];refine bC [[cf env],[vI x],[vI depth],[vI (if x.tmod 6=3 then 6 else if x.tmod 6=2 then 6 else 5)],gp c s,t.enc,oT.enc,(if x.tmod 6=3 then(jJ env (x.tdiv 6)).ty else bS).enc,iN c] ?_ ?_
   .refine⟨Q1,?_⟩;simp only;refine⟨λh=>⟨⟨Q1,Q4⟩,Q0,Q0,?_⟩,λh=>by rw[J1 h,J1 h];rfl⟩;rw[J2 h,J2 h,he1,Rx,Jx _ he2,he3];simp only[aG];rfl
   simp only[aj,cV,cf];refine bC [[cf env],[vI depth],[vI (yG x)],gp c s,oT.enc,(jU t env x).enc,iN c] ?_ ?_
   .refine⟨Q1,?_⟩;simp only;unfold yG jU;refine⟨λh=>⟨Q1,Q4,Q0,?_⟩,λh=>by rw[J1 h,J1 h];rfl⟩;have ec:cell (el [vI 7,vI 8] 1 (x.tmod 6-4).toNat) 0=vI (7+(x.tmod 6-4)):=by have:x.tmod 6-4=0\/x.tmod 6-4=1:=Q0;rcases this with e|e <;> rw[e] <;> rfl
    rw[ec,J2 h,J2 h];rfl
   simp only[aj,cV,cf];have hu:eN c.p R (jU t env x)/\(jU t env x).size<=1000:=by
    unfold jU;split
    .exact⟨hf.wt h0,hf.ts⟩
    split
    .rw[he3];exact⟨hf.ew _ (QB he2),hf.es _ (QB he2)⟩
    .exact⟨o8 hR2 (.inl rfl),Q1⟩
   rw[show Xe.nI c (ay c n) t env x depth s=lE (ay c n) (yG x) (jU t env x) env (depth-1) s by unfold Xe.nI;rw[J1 k0,J2 k1,J1 h],PW];generalize jU t env x=u at hu ⊢;have hf1:=hf.any h0 hu.1 hu.2 (j:=1) Q0 Q0;refine⟨Q4,aa (hg _ env _ s hf1 (hb.mono Q0)) ?_⟩;have hB:=bd u env (depth-1) s (9 ^ n+1) Q0 (hb.mono Q0);generalize ay c n u env (depth-1) s=r at hB ⊢;simp only[aj,cV];refine⟨Q4,aa (hg _ env _ r.2 hf1 (hB.mono Q0)) ?_⟩;have hB2:=bd u env (depth-1) r.2 1 Q0 (hB.mono Q0);generalize ay c n u env (depth-1) r.2=r2 at hB2 ⊢;simp only[aj,cV];refine aa (xN r.1 r2.1 hB2) ?_;simp only[aj,cV]
 .by_cases h:t.kind=2/\x.tmod 2=0
  .refine hY ?_;refine⟨λ_=>⟨Q1,λ_=>?_,λh'=>J3 h.2 h'⟩,λh'=>J3 h.1 h'⟩;have hf1:=hf.any h0 (hf.wt h0) hf.ts (j:=1) Q0 Q0;refine⟨Q4,aa (hg _ env _ s hf1 (hb.mono Q0)) ?_⟩;have hB:=bd t env (depth-1) s (9 ^ n+1) Q0 (hb.mono Q0);rw[show Xe.nI c (ay c n) t env x depth s=lE (ay c n) 10 t env (depth-1) s by unfold Xe.nI;rw[J1 k0,J1 k1,J2 h],PW];generalize ay c n t env (depth-1) s=r at hB ⊢;simp only[aj,cV];refine⟨Q4,aa (hg _ env _ r.2 hf1 (hB.mono Q0)) ?_⟩;have hB2:=bd t env (depth-1) r.2 1 Q0 (hB.mono Q0);generalize ay c n t env (depth-1) r.2=r2 at hB2 ⊢;simp only[aj,cV];refine aa (xN r.1 r2.1 hB2) ?_;simp only[aj,cV]
  .refine bC [[cf env],[vI x],[vI depth],gp c s,t.enc,oT.enc,iN c] ?_ ?_
   .refine⟨λh1=>⟨Q1,?_⟩,λ_=>rfl⟩;exact⟨λh2=>J3 ⟨h1,h2⟩ h,λ_=>rfl⟩
   simp only[aj,cV,cf];refine⟨⟨Q1,Q4⟩,aa (OC hc hg hf (x:=x.tdiv 2) Q0 hb) ?_⟩;rw[show Xe.nI c (ay c n) t env x depth s=kM c (ay c n) t env (x.tdiv 2) depth s by unfold Xe.nI;rw[J1 k0,J1 k1,J1 h]];simp only[aj,cV]
end
section
variable {c:fB} {R n:Nat} {t:Ty} {env:List cd} {x depth:Int} {s:bY}
theorem zl{i:Nat}(h:i<c.p.ae.length):gx c t i (c.p.ae.length-i)=if((bN c i).kind=2/\kr c i)/\(bN c i).au=t then some i else gx c t (i+1) (c.p.ae.length-(i+1)):=by obtain⟨m,hm⟩:∃m,c.p.ae.length-i=m+1:=⟨c.p.ae.length-i-1,Q0⟩;rw[hm,gx,show c.p.ae.length-(i+1)=m by omega]
theorem M4(_:Ctx c R)(hb:Bd (4*9 ^ n+4) s){l:List aC}(hl:l.length<=3):Bd ((l.map aC.ty).length*9 ^ n+1) s:=by have hq:=q1 n;have:=le3 hl (show(0:Int)<=9 ^ n by omega);exact hb.mono (by grind)
theorem JE(hc:Ctx c R)(hg:uI c R n)(hf:Fit c R (n+1) t env depth)(h0:0<depth)(hx:0<=x/\x<=1000000)(hb:Bd (4*9 ^ n+4) s):IS Nj [t.enc,[cf env],[vI x],[vI depth],gp c s,iN c] (FI c (nM c (ay c n) t env x depth s)):=by
 refine w125.is ?_;unfold g125;have hq:=q1 n;have hdp:=hf.dp;have hdl:=hc.d1;simp only[aj,cV,cf];refine hY ?_;refine aZ c.p.ae.length (λi=>[[cf env],[vI x],[vI depth],[vI (i:Int)],gp c s,t.enc,oT.enc,iN c]) (λi=>gx c t 0 c.p.ae.length=gx c t i (c.p.ae.length-i)) rfl rfl λi next hi hI hn=>?_
 simp only[aj,cV,cf];refine⟨λh=>?_,λh=>?_⟩
 .have hk:i<c.p.ae.length:=Q0;rw[zl hk]at hI;have fin:¬(((bN c i).kind=2/\kr c i)/\(bN c i).au=t)->bt ((i:Int)+1)/\next [[cf env],[vI x],[vI depth],[vI ((i:Int)+1)],gp c s,t.enc,oT.enc,iN c]:=λe=>⟨Q4,hn hk (by grind)⟩
  refine hY ?_;rw[gw _ hk];have ed:=jr hk;rw[<-ed];simp only[aj,aG];refine⟨Q0,λh1=>aa (qp hk hc.m0) ?_,λh1=>fin λe=>h1 e.1.1⟩;simp only[aj,cV];refine⟨λh2=>?_,λh2=>fin λe=>h2 e.1.2⟩;have hm:bN c i∈c.p.ae:=by grind
  refine aa (wv _ _ (by have:=hc.rty _ hm;omega)) ?_;simp only[aj];refine⟨λh3=>?_,λh3=>fin λe=>h3 e.2⟩;rw[J2 ⟨⟨h1,h2⟩,h3⟩]at hI;have hs3:=hc.gen.fE.at (c:=c) i;generalize hz:dg (ay c n) env (depth-1) ((bN c i).ah.map aC.ty) s=z;have hr:nM c (ay c n) t env x depth s=((bb 3 0 z.1 z.2).1.dH (bN c i).id,(bb 3 0 z.1 z.2).2):=by
   unfold nM
   grind
  rw[hr];have hb1:=M4 hc hb hs3;have hzb:Bd 1 z.2:=by rw[<-hz];exact oI (dz hc.gen.fE n) hq Q0 _ s hb1
  refine bC [gp c z.2,oT.enc,(bN c i).enc,[.sl z.1.length 15 (z.1.flatMap Ex.enc)],iN c] ?_ ?_
  .refine x6 hc hg (d:=depth-1) (ts:=(bN c i).ah.map aC.ty) (s:=s) (λi' dn s1=>[[cf env],[vI depth],[vI (i':Int)],gp c s1,oT.enc,(bN c i).enc,[.sl dn.length 15 (dn.flatMap Ex.enc)],iN c]) z hz hb1 (λu hu=>?_) rfl (λj dn s1 next hi hlen hgo hend=>?_)
   .obtain⟨y,hy,rfl⟩:=QP.1 hu;exact hf.any h0 (hc.gen.Dk _ hm _ hy) (hc.sty _ hm _ hy) Q0 Q0
   .simp only[aj,aG,cV,cf];have hlm:((bN c i).ah.map aC.ty).length=(bN c i).ah.length:=QS ..;refine⟨λh=>?_,λh=>?_⟩
    .have hk:j<(bN c i).ah.length:=Q0;obtain⟨hi1,hi2⟩:=hgo Q0;rw[oU _ hk];simp only[aG];rw[RG]at hi1 hi2;refine⟨Q0,Q4,aa hi1 ?_⟩;generalize ay c n (bN c i).ah[j].ty env (depth-1) s1=r at hi2 ⊢;simp only[aj,cV];rw[wj];refine⟨Qa,Q4,?_⟩;simpa[cV,cf]using hi2
    all_goals grind
  .simp only[aj,cV];refine aa (gD hzb) ?_;simp only[aj,cV,aG];rfl
 .obtain rfl:i=c.p.ae.length:=Q0;refine aa (IN hc hg hf h0 hx (hb.mono Q0)) ?_;rw[show nM c (ay c n) t env x depth s=Xe.nI c (ay c n) t env x depth s by unfold nM;rw[hI,UO];rfl];simp only[aj,cV]
theorem yo{xn i:Nat}(h:i<c.p.ae.length):fp c t xn i (c.p.ae.length-i)=match(if(bN c ((xn+i) % c.p.ae.length)).kind=0/\kr c ((xn+i) % c.p.ae.length) then mU (bN c ((xn+i) % c.p.ae.length)).ah t else none) with
  |some j=>some ((xn+i) % c.p.ae.length,j)
  |none=>fp c t xn (i+1) (c.p.ae.length-(i+1)):=by
 obtain⟨m,hm⟩:∃m,c.p.ae.length-i=m+1:=⟨c.p.ae.length-i-1,Q0⟩;rw[hm,fp,show c.p.ae.length-(i+1)=m by omega];rfl
theorem F0{l:List aC}{j:Nat}(hj:j<l.length)(h1:∀k (hk:k<l.length),k<j->l[k].ty≠t)(h2:l[j].ty=t):mU l t=some j:=by
 unfold mU;rw[TU]
 grind
theorem Dj{l:List aC}(h1:∀k (hk:k<l.length),l[k].ty≠t):mU l t=none:=by unfold mU;rw[List.findIdx?_eq_none_iff];intro y hy;obtain⟨k,hk,rfl⟩:=QO.1 hy;simpa using h1 k hk
theorem Pr(hc:Ctx c R)(hg:uI c R n)(hf:Fit c R (n+1) t env depth)(h0:0<depth)(hx:0<=x/\x<=1000000)(hb:Bd (4*9 ^ n+4) s):IS s124 [t.enc,[cf env],[vI x],[vI depth],gp c s,iN c] (FI c (jT c (ay c n) t env x depth s)):=by
 refine w124.is ?_;unfold g124;have hq:=q1 n;have hdp:=hf.dp;have hdl:=hc.d1;have hd0:=hc.d0;simp only[aj,cV,cf];obtain⟨xn,rfl⟩:∃k:Nat,x=k:=⟨x.toNat,Q0⟩;refine hY ?_;refine aZ c.p.ae.length (λi=>[[cf env],[vI xn],[vI depth],[vI (i:Int)],gp c s,t.enc,oT.enc,iN c]) (λi=>fp c t xn 0 c.p.ae.length=fp c t xn i (c.p.ae.length-i)) rfl rfl λi next hi hI hn=>?_
 simp only[aj,cV,cf];refine⟨λh=>?_,λh=>?_⟩
 .have hk:i<c.p.ae.length:=Q0;have ht:(((xn:Int)+i).tmod (c.p.ae.length:Int))=((xn+i) % c.p.ae.length:Nat):=by
   grind
  have hlt:(xn+i) % c.p.ae.length<c.p.ae.length:=U2 _ hd0;rw[yo hk]at hI;rw[ht,Rx,gw _ hlt,<-jr hlt];have hm:bN c ((xn+i) % c.p.ae.length)∈c.p.ae:=by rw[jr hlt];exact QB hlt
  generalize(xn+i) % c.p.ae.length=k at hI hlt hm ⊢
  have fin:(¬((bN c k).kind=0/\kr c k)\/mU (bN c k).ah t=none)->bt ((i:Int)+1)/\next [[cf env],[vI xn],[vI depth],[vI ((i:Int)+1)],gp c s,t.enc,oT.enc,iN c]:=λe=>⟨Q4,hn hk (by
   rcases e with e|e
   .rwa [J1 e]at hI
   .rw[e,ite_self]at hI;exact hI)⟩
  refine hY ?_;refine⟨Q4,Q0,Q0,?_⟩;refine aZ (bN c k).ah.length (λj=>[[cf env],[vI xn],[vI depth],[vI (i:Int)],[vI (k:Int)],[vI (j:Int)],gp c s,t.enc,oT.enc,(bN c k).enc,iN c]) (λj=>∀q (hq:q<(bN c k).ah.length),q<j->(bN c k).ah[q].ty≠t) (λ_ _ h=>J3 h (RP _)) rfl λj kH hj hJ hn2=>?_;simp only[aj,cV,aG,cf];have hs3:=hc.gen.fE.at (c:=c) k;refine⟨λh2=>⟨λh3=>aa (qp hlt hc.m0) ?_,λh3=>fin (.inl λe=>h3 e.1)⟩,λh2=>?_⟩
  .have hjk:j<(bN c k).ah.length:=Q0;simp only[aj,cV];refine⟨λh4=>?_,λh4=>fin (.inl λe=>h4 e.2)⟩;have hmem:=QB hjk;rw[oU _ hjk];simp only[aG];refine⟨Q0,aa (wv _ _ (by have:=hc.sty _ hm _ hmem;omega)) ?_⟩;simp only[aj];refine⟨λh5=>?_,λh5=>⟨Q4,hn2 hjk λq hq hlt=>?_⟩⟩
   .rw[J2 ⟨h3,h4⟩,F0 hjk hJ h5]at hI;dsimp only at hI;have hr:jT c (ay c n) t env xn depth s=((bb 8 j [(ay c n (mm (bN c k).id) env (depth-1) s).1] (ay c n (mm (bN c k).id) env (depth-1) s).2).1.dH (bN c k).id,(bb 8 j [(ay c n (mm (bN c k).id) env (depth-1) s).1] (ay c n (mm (bN c k).id) env (depth-1) s).2).2):=by
     unfold jT
     grind
    rw[hr];refine aa (Bi _) ?_;simp only[aj];have hf1:Fit c R n (mm (bN c k).id) env (depth-1):=hf.any h0 (hc.gen.own _ hm (.inl h3)) (show(mm (bN c k).id).size<=1000 by simp[mm,Ty.size,Ty.aW]) Q0 Q0;refine⟨Q4,aa (hg _ env _ s hf1 (hb.mono Q0)) ?_⟩;have hB:=dz hc.gen.fE n (mm (bN c k).id) env (depth-1) s 1 Q0 (hb.mono Q0);generalize ay c n (mm (bN c k).id) env (depth-1) s=r at hB ⊢;simp only[aj,cV];refine aa (sd r.1 hB) ?_;simp only[aj,cV];rfl
   all_goals grind
  .obtain rfl:j=(bN c k).ah.length:=Q0;exact fin (.inr (Dj λq hq=>hJ q hq hq))
 .obtain rfl:i=c.p.ae.length:=Q0;refine aa (IN hc hg hf h0 hx (hb.mono Q0)) ?_;rw[show jT c (ay c n) t env xn depth s=Xe.nI c (ay c n) t env xn depth s by unfold jT;rw[Rx,hI,UO];rfl];simp only[aj,cV]
end
section
variable {c:fB} {R n:Nat} {t:Ty} {env:List cd} {x depth:Int} {s:bY}
theorem xK{kind:Int}{frm:Nat}(hd:0<c.p.ae.length):∀m i,gL c kind frm i m=-1\/∃k:Nat,gL c kind frm i m=k/\k<c.p.ae.length/\(bN c k).kind=kind/\kr c k
 |0,i=>.inl rfl
 |m+1,i=>by
   rw[gL];split
   . rename_i h
     exact .inr ⟨_,rfl,U2 _ hd,h⟩
   . exact xK hd m (i+1)
theorem Lk(l:List ByteArray)(e:ByteArray):l.map bM++[vS e]=(l++[e]).map bM:=by simp[bM]
theorem Ej(hc:Ctx c R)(hg:uI c R n)(hf:Fit c R (n+1) t env depth)(h0:0<depth)(hx:0<=x/\x<=1000000)(hb:Bd (4*9 ^ n+4) s):IS Nk [t.enc,[cf env],[vI x],[vI depth],gp c s,iN c] (FI c (jS c (ay c n) t env x depth s)):=by
 refine w123.is ?_;unfold g123;have hq:=q1 n;have hdp:=hf.dp;have hdl:=hc.d1;have hd0:=hc.d0;simp only[aj,cV,cf];obtain⟨xn,rfl⟩:∃k:Nat,x=k:=⟨x.toNat,Q0⟩;refine aa (of_is hc.m0 hc.d0 Q0 Q0) ?_;simp only[aj,cV];refine⟨λh=>?_,λh=>?_⟩
 . refine aa (IN hc hg hf h0 hx (hb.mono Q0)) ?_
   rw[show jS c (ay c n) t env xn depth s=Xe.nI c (ay c n) t env xn depth s by unfold jS;rw[Rx,J2 h]];simp only[aj,cV]
 . obtain⟨k,hk,hlt,hkind,hvis⟩:∃k:Nat,My c 1 xn=k/\k<c.p.ae.length/\(bN c k).kind=1/\kr c k:=by
     rcases xK (kind:=1) (frm:=xn) hd0 c.p.ae.length 0 with e|e
     . exact J3 e (by intro e;apply h;unfold My;omega)
     . exact e
   have hm:bN c k∈c.p.ae:=by rw[jr hlt];exact QB hlt
   have hs3:=hc.gen.fE.at (c:=c) k
   rw[show jS c (ay c n) t env xn depth s=(let d:=bN c k
    let r:=ay c n (mm d.id) env (depth-2) s;let q:=bb 10 0 [] r.2;let z:=bk (ay c n) t env (depth-1) q.1.id d.ah 0 q.2
    ((q.1.dH d.id).dD (r.1::z.1.1) z.1.2,z.2)) by unfold jS;rw[Rx,J1 h,hk,Rx]]
   rw[hk,Rx,gw _ hlt,<-jr hlt];generalize bN c k=d at hm hs3 hkind ⊢;dsimp only;simp only[aG];refine⟨Q0,aa (Bi _) ?_⟩;simp only[aj];have hf1:Fit c R n (mm d.id) env (depth-2):=hf.any h0 (hc.gen.own _ hm (.inr hkind)) (show(mm d.id).size<=1000 by simp[mm,Ty.size,Ty.aW]) Q0 Q0;refine⟨Q4,aa (hg _ env _ s hf1 (hb.mono Q0)) ?_⟩;have h3q:=le3 hs3 (show(0:Int)<=9 ^ n+1 by omega);have hB:=dz hc.gen.fE n (mm d.id) env (depth-2) s (3*(9 ^ n+1)+1) Q0 (hb.mono Q0);generalize ay c n (mm d.id) env (depth-2) s=r at hB ⊢;simp only[aj,cV];refine aa (gD (kids:=[]) (hB.mono Q0)) ?_;have hB2:Bd (3*(9 ^ n+1)) (bb 10 0 [] r.2).2:=hB.node Q0;have hfl:(bb 10 0 [] r.2).1.kids=[]/\(bb 10 0 [] r.2).1.aK=[]:=⟨rfl,rfl⟩;generalize bb 10 0 [] r.2=q at hB2 hfl ⊢;simp only[aj,cV];generalize hz:bk (ay c n) t env (depth-1) q.1.id d.ah 0 q.2=z;refine bC [gp c z.2,oT.enc,[.sl (r.1::z.1.1).length 15 ((r.1::z.1.1).flatMap Ex.enc)],exL (q.1.dH d.id),iN c,[.sl z.1.2.length 1 (z.1.2.map bM)]] ?_ ?_
   . refine dG (σ:=Nat×List Ex×List ByteArray×bY) (λy=>[[cf env],[vI depth],[vI (y.1:Int)],gp c y.2.2.2,t.enc,oT.enc,d.enc,[.sl (r.1::y.2.1).length 15 ((r.1::y.2.1).flatMap Ex.enc)],exL (q.1.dH d.id),iN c,[.sl y.2.2.1.length 1 (y.2.2.1.map bM)]]) (λy=>d.ah.length-y.1)
       (λy=>y.1<=d.ah.length/\y.2.1.length=y.1/\y.2.2.1.length=y.1/\z=bJ y.2.1 y.2.2.1 (bk (ay c n) t env (depth-1) q.1.id (d.ah.drop y.1) y.1 y.2.2.2)/\Bd ((d.ah.length-y.1:Nat)*(9 ^ n+1)) y.2.2.2) (0,[],[],q.2) ⟨Rr _,rfl,rfl,by rw[RR,hz];exact bJ_nil z,hB2.mono Q0⟩ ?_ ?_
     . simp only[QD,Ro,QF,<-nB]
       rw[hfl.2];rfl
     rintro⟨i,dn,ns,s1⟩ next ⟨hi,hlen,hlen2,hI,hB3⟩ hn
     dsimp only at hi hlen hlen2 hI hB3 hn ⊢;simp only[aj,cV,aG,cf];refine⟨λh5=>?_,λh5=>?_⟩
     . have hkk:i<d.ah.length:=Q0
       obtain⟨m,hm1⟩:∃m,d.ah.length-i=m+1:=⟨d.ah.length-i-1,Q0⟩;rw[hm1]at hB3;have e1:((m+1:Nat):Int)*(9 ^ n+1)=m*(9 ^ n+1)+(9 ^ n+1):=by rw[Wl,XB];simp
       have h6:(0:Int)<=m*(9 ^ n+1):=SX Q0 Q0;have hmem:=QB hkk;rw[oU _ hkk];simp only[aj,aG];have hel:=hf.e1;refine⟨Q0,aa (vG (env:=env) (b:=⟨q.1.id,i,d.ah[i].ty⟩) Q0) ?_⟩;simp only[aj,cf];have hf2:Fit c R n t (env++[⟨q.1.id,i,d.ah[i].ty⟩]) (depth-1):=(hf.any h0 (hf.wt h0) hf.ts Q0 Q0).more (hc.gen.Dk _ hm _ hmem) (hc.sty _ hm _ hmem) Q0;refine⟨Q4,aa (hg _ _ _ s1 hf2 (hB3.mono Q0)) ?_⟩;have hB':=dz hc.gen.fE n t (env++[⟨q.1.id,i,d.ah[i].ty⟩]) (depth-1) s1 (m*(9 ^ n+1)+1) Q0 (hB3.mono Q0);have hI':=zm hkk hI;generalize ay c n t (env++[⟨q.1.id,i,d.ah[i].ty⟩]) (depth-1) s1=r2 at hI' hB' ⊢;simp only[aj,cV];refine⟨by unfold aO;simp;omega,aa (vU (hB'.mono Q0)) ?_⟩;simp only[aj,cV];refine⟨Qa,Q4,?_⟩;have:=hn (i+1,dn++[r2.1],ns++[(cI r2.2).1],(cI r2.2).2) Q0 ⟨Q0,by simp[hlen],by simp[hlen2],hI',by dsimp only;rw[show d.ah.length-(i+1)=m by omega];exact hB'.uY Q0⟩;rw[wj,Lk];simpa[cV,cf]using this
     . have:=Cw Q0 hI
       rw[this]
   . simp only[aj,cV]
     rfl
theorem dptF(h:Fit c R n t env depth)(s1:bY):Fit c R n t env (Py s1 depth) :=
 ⟨h.e0,h.e1,h.ew,h.es,h.ts,Px h.ok,by have:=h.dp;have:=h.e1;unfold Py;split <;> omega⟩
end
section
variable {c:fB} {R n:Nat} {t:Ty} {env:List cd} {x depth:Int} {s:bY}
theorem uI.bool(hg:uI c R n){d:Int}(hf:Fit c R n (Ty.mk 1 ki []) env d)(hb:Bd (9 ^ n) s):IS lf [[vI 1,vI 0,vI 0,vI 0,.sl 0 5 []],[cf env],[vI d],gp c s,iN c] (FI c (ay c n (Ty.mk 1 ki []) env d s)):=by have:=hg _ env d s hf hb;rwa [vM]at this
theorem L7(hc:Ctx c R)(hg:uI c R n):uI c R (n+1):=by
 intro t env depth s hf hb;refine w32.is ?_;unfold g32;have hq:=q1 n;have bd:=dz hc.gen.fE n;have h9:(9:Int) ^ (n+1)=9*9 ^ n:=Q0;rw[h9]at hb;have hel:=hf.e1;simp only[aj,cV,cf];refine aa (num_is Q1 hc.li (hb.mono Q0)) ?_;rw[yr];have hb1:Bd (4*9 ^ n+4) (fQ c 65536 s).2:=hb.num Q0;have hx:0<=(fQ c 65536 s).1/\(fQ c 65536 s).1<65536:=eD c.l s.pos 65536 Q0;generalize fQ c 65536 s=y at hb1 hx ⊢;obtain⟨x,s1⟩:=y;dsimp only at hb1 hx ⊢;simp only[aj,cV];have hfl:(eX env t).length<=env.length:=by have:=EK (l:=env) (t:=t) env.length;rwa [Re]at this
 refine aa (G9 (t:=t) (λb hb=>by have:=hf.es b hb;omega) Q0) ?_;simp only[aj,cf];have hf1:=dptF hf s1;refine bC [[cf env],[vI (Py s1 depth)],[vI x],gp c s1,t.enc,oT.enc,[cf (eX env t)],iN c] ?_ ?_
 .unfold Py;exact⟨λh=>by rw[J2 h];rfl,λh=>by rw[J1 h];rfl⟩
 generalize Py s1 depth=d at hf1 ⊢;have hdp:=hf1.dp;simp only[aj,cV,cf];have d3:x.tdiv 3=x / 3:=lY hx.1;have m3:x.tmod 3=x % 3:=fc hx.1;by_cases hv:0<(eX env t).length/\(d<=0\/x.tmod 3=0)
 .rw[J2 hv];refine hY ?_;obtain⟨k,hk1,hk2⟩:∃k:Nat,(x.tdiv 3).tmod ((eX env t).length:Int)=k/\k<(eX env t).length:=by have e:(x.tdiv 3).tmod ((eX env t).length:Int)=x.tdiv 3 % ((eX env t).length:Int):=fc Q0;have h1:=Tp (x.tdiv 3) (show((eX env t).length:Int)≠0 by omega);have h2:=SM (x.tdiv 3) (show(0:Int)<(eX env t).length by omega);exact⟨(x.tdiv 3 % ((eX env t).length:Int)).toNat,Q0,Q0⟩
  have fin:((3:Int)≠0/\bt (x.tdiv 3))/\((eX env t).length:Int)≠0/\(0<=(x.tdiv 3).tmod ((eX env t).length:Int)/\(x.tdiv 3).tmod ((eX env t).length:Int)<((eX env t).length:Int))/\IS Kr [el ((eX env t).flatMap cd.enc) 9 ((x.tdiv 3).tmod ((eX env t).length:Int)).toNat,gp c s1,iN c] (FI c (MC ((eX env t).getD (((x.tdiv 3).tmod ((eX env t).length:Int)).toNat) default) s1)):=by refine⟨⟨Q1,Q4⟩,Q0,Q0,?_⟩;rw[hk1,Rx,Jx _ hk2,RX,QQ hk2];exact var_is (hb1.mono Q0)
  obtain⟨f1,f2,f3,f4⟩:=fin;refine⟨λ_=>⟨λh1=>⟨f1,f2,f3,aa f4 ?_⟩,λh1=>⟨Q1,λh2=>⟨f1,f2,f3,aa f4 ?_⟩,λh2=>?_⟩⟩,λh=>J3 hv.1 Q0⟩
  .simp only[aj,cV]
  .simp only[aj,cV]
  all_goals omega
 .rw[J1 hv];refine bC [[cf env],[vI d],[vI x],gp c s1,t.enc,oT.enc,iN c] ?_ ?_
  .refine⟨λh=>⟨λh1=>J3 ⟨Q0,.inl h1⟩ hv,λh1=>⟨Q1,?_⟩⟩,λ_=>rfl⟩;exact⟨λh2=>J3 ⟨Q0,.inr h2⟩ hv,λ_=>rfl⟩
  simp only[aj,cV,cf];refine⟨λh0=>?_,λh0=>?_⟩
  .rw[J2 h0];refine⟨⟨Q1,Q4⟩,aa (OC hc hg hf1 (x:=x.tdiv 3) Q0 (hb1.mono Q0)) ?_⟩;simp only[aj,cV]
  .rw[J1 h0];have h0':0<d:=Q0;have d36:x.tdiv 36=x / 36:=lY hx.1;have m12:(x.tdiv 3).tmod 12=x.tdiv 3 % 12:=fc Q0;refine⟨⟨Q1,Q4⟩,Q1,⟨Q1,Q4⟩,?_⟩;have hx36:0<=x.tdiv 36/\x.tdiv 36<=1000000:=Q0;generalize x.tdiv 36=xx at hx36 ⊢;generalize(x.tdiv 3).tmod 12=k;have hkid:∀u,eN c.p R u->u.size<=1000->Fit c R n u env (d-1):=λu h1 h2=>hf1.any h0' h1 h2 Q0 Q0;have ht:eN c.p R t/\t.size<=1000:=⟨hf1.wt h0',hf1.ts⟩;have hdm:bt (d-1):=by unfold bt;omega
   unfold oo;refine⟨λk0=>?_,λk0=>⟨λk1=>?_,λk1=>⟨λk2=>?_,λk2=>⟨λk3=>?_,λk3=>⟨λk4=>?_,λk4=>⟨λk5=>?_,λk5=>⟨λk6=>?_,λk6=>⟨λk7=>?_,λk7=>⟨λk8=>?_,λk8=>?_⟩⟩⟩⟩⟩⟩⟩⟩⟩
   .rw[J2 Q0];unfold ifG;dsimp only;have hf0:=hkid (Ty.mk 1 ki []) (o8 hc.gen.R2 (.inr rfl)) Q1;have hft:=hkid t ht.1 ht.2;refine⟨hdm,aa (hg.bool hf0 (hb1.mono Q0)) ?_⟩;have hB:=bd (Ty.mk 1 ki []) env (d-1) s1 (2*9 ^ n+1) Q0 (hb1.mono Q0);generalize ay c n (Ty.mk 1 ki []) env (d-1) s1=r at hB ⊢;simp only[aj,cV];refine⟨hdm,aa (hg _ env _ r.2 hft (hB.mono Q0)) ?_⟩;have hB2:=bd t env (d-1) r.2 (9 ^ n+1) Q0 (hB.mono Q0);generalize ay c n t env (d-1) r.2=r2 at hB2 ⊢;simp only[aj,cV];refine⟨hdm,aa (hg _ env _ r2.2 hft (hB2.mono Q0)) ?_⟩;have hB3:=bd t env (d-1) r2.2 1 Q0 (hB2.mono Q0);generalize ay c n t env (d-1) r2.2=r3 at hB3 ⊢;simp only[aj,cV];refine aa (D8 r.1 r2.1 r3.1 hB3) ?_;simp only[aj,cV]
   .rw[J2 Q0];unfold ifG;dsimp only;have hf0:=hkid (Ty.mk 1 ki []) (o8 hc.gen.R2 (.inr rfl)) Q1;have hft:=hkid t ht.1 ht.2;refine⟨hdm,aa (hg.bool hf0 (hb1.mono Q0)) ?_⟩;have hB:=bd (Ty.mk 1 ki []) env (d-1) s1 (2*9 ^ n+1) Q0 (hb1.mono Q0);generalize ay c n (Ty.mk 1 ki []) env (d-1) s1=r at hB ⊢;simp only[aj,cV];refine⟨hdm,aa (hg _ env _ r.2 hft (hB.mono Q0)) ?_⟩;have hB2:=bd t env (d-1) r.2 (9 ^ n+1) Q0 (hB.mono Q0);generalize ay c n t env (d-1) r.2=r2 at hB2 ⊢;simp only[aj,cV];refine⟨hdm,aa (hg _ env _ r2.2 hft (hB2.mono Q0)) ?_⟩;have hB3:=bd t env (d-1) r2.2 1 Q0 (hB2.mono Q0);generalize ay c n t env (d-1) r2.2=r3 at hB3 ⊢;simp only[aj,cV];refine aa (D8 r.1 r2.1 r3.1 hB3) ?_;simp only[aj,cV]
   .rw[J1 Q0,J2 k2];obtain⟨ke,he1,he2,he3⟩:=AN (env:=env) hf.e0 hx36.1;unfold LC;dsimp only;rw[he1,Rx,Jx _ he2,he3];simp only[aG];have hm:=QB he2;have hwu:=hf.ew _ hm;have hsu:=hf.es _ hm;generalize env[ke].ty=u at hwu hsu ⊢;have hfu:=hkid u hwu hsu;refine⟨Q0,Q0,hdm,aa (hg _ env _ s1 hfu (hb1.mono Q0)) ?_⟩;have hB:=bd u env (d-1) s1 (9 ^ n+3) Q0 (hb1.mono Q0);generalize ay c n u env (d-1) s1=r at hB ⊢;simp only[aj,cV];refine aa (gD (kids:=[]) (hB.mono Q0)) ?_;have hB2:Bd (9 ^ n+2) (bb 6 0 [] r.2).2:=hB.node Q0;generalize bb 6 0 [] r.2=q at hB2 ⊢;simp only[aj,cV];refine aa (vU (hB2.mono Q0)) ?_;have hB3:Bd (9 ^ n+1) (cI q.2).2:=hB2.uY Q0;generalize cI q.2=m at hB3 ⊢;simp only[aj,cV];refine aa (vG (env:=env) (b:=⟨q.1.id,0,u⟩) Q0) ?_;simp only[aj,cf];have hf2:Fit c R n t (env++[⟨q.1.id,0,u⟩]) (d-1):=(hkid t ht.1 ht.2).more hwu hsu Q0;refine⟨hdm,aa (hg _ _ _ m.2 hf2 (hB3.mono Q0)) ?_⟩;generalize ay c n t (env++[⟨q.1.id,0,u⟩]) (d-1) m.2=r2;simp only[aj,cV];simp only[Ex.dD,Ex.id,Ex.kind,Ex.n,Ex.ref,Ex.ty,Ex.kids,Ex.aK,QD,Ro,Ex.aF,QF,Rm,Rk];rfl
   .rw[J1 Q0,J1 Q0,J2 Q0];refine aa (Ej hc hg hf1 h0' hx36 hb1) ?_;simp only[aj,cV]
   .rw[J1 Q0,J1 Q0,J2 Q0];refine aa (Ej hc hg hf1 h0' hx36 hb1) ?_;simp only[aj,cV]
   .rw[J1 Q0,J1 Q0,J1 Q0,J2 Q0];refine aa (Pr hc hg hf1 h0' hx36 hb1) ?_;simp only[aj,cV]
   .rw[J1 Q0,J1 Q0,J1 Q0,J1 Q0,J2 Q0];refine aa (JE hc hg hf1 h0' hx36 hb1) ?_;simp only[aj,cV]
   .rw[J1 Q0,J1 Q0,J1 Q0,J1 Q0,J2 Q0];refine aa (JE hc hg hf1 h0' hx36 hb1) ?_;simp only[aj,cV]
   .rw[J1 Q0,J1 Q0,J1 Q0,J1 Q0,J1 Q0,J2 k8];unfold AD;dsimp only;refine aa sB ?_;simp only[aj];have hfl0:=hkid (b8 bS) (nW (p:=c.p) hc.gen.R2) Q1;refine⟨hdm,aa (hg.list0 hfl0 (hb1.mono Q0)) ?_⟩;have hB:=bd (b8 bS) env (d-1) s1 (2*9 ^ n+4) Q0 (hb1.mono Q0);generalize ay c n (b8 bS) env (d-1) s1=r at hB ⊢;simp only[aj,cV];refine⟨hdm,aa (hg _ env _ r.2 (hkid t ht.1 ht.2) (hB.mono Q0)) ?_⟩;have hB1:=bd t env (d-1) r.2 (9 ^ n+4) Q0 (hB.mono Q0);generalize ay c n t env (d-1) r.2=r1 at hB1 ⊢;simp only[aj,cV];refine aa (gD (kids:=[]) (hB1.mono Q0)) ?_;have hB2:Bd (9 ^ n+3) (bb 12 0 [] r1.2).2:=hB1.node Q0;generalize bb 12 0 [] r1.2=q at hB2 ⊢;simp only[aj,cV];refine aa (vU (hB2.mono Q0)) ?_;have hB3:Bd (9 ^ n+2) (cI q.2).2:=hB2.uY Q0;generalize cI q.2=m at hB3 ⊢;simp only[aj,cV];refine aa (vU (hB3.mono Q0)) ?_;have hB4:Bd (9 ^ n+1) (cI m.2).2:=hB3.uY Q0;generalize cI m.2=m2 at hB4 ⊢;simp only[aj,cV];have e0:=iv;refine aa (vG (env:=env) (b:=⟨q.1.id,0,bS⟩) Q0) ?_;simp only[aj,cf];have hw:=vG (env:=env++[(⟨q.1.id,0,bS⟩:cd)]) (b:=(⟨q.1.id,1,t⟩:cd)) Qc;refine aa hw ?_;simp only[aj,cf];have hf2:Fit c R n t (env++[⟨q.1.id,0,bS⟩]) (d-1):=(hkid t ht.1 ht.2).more (o8 hc.gen.R2 (.inl rfl)) (show bS.size<=1000 by decide) Q0;have hf3:=hf2.more (b:=⟨q.1.id,1,t⟩) ht.1 ht.2 Qc;refine⟨hdm,aa (hg _ _ _ m2.2 hf3 (hB4.mono Q0)) ?_⟩;generalize ay c n t (env++[⟨q.1.id,0,bS⟩]++[⟨q.1.id,1,t⟩]) (d-1) m2.2=r2;simp only[aj,cV];simp only[Ex.dD,Ex.id,Ex.kind,Ex.n,Ex.ref,Ex.ty,Ex.kids,Ex.aK,QD,Ro,Ex.aF,QF,Rm,Rk];rfl
   .rw[J1 Q0,J1 Q0,J1 Q0,J1 Q0,J1 Q0,J1 Q0];refine aa (IN hc hg hf1 h0' hx36 (hb1.mono Q0)) ?_;simp only[aj,cV]
theorem yq(hc:Ctx c R):∀n,uI c R n
 |0=>λ_ _ _ _ hf _=>J3 hf.ok.pos (YO _)
 |n+1=>L7 hc (yq hc n)
end
theorem rD:∀l:List Ex,l.length<=Ex.aW l
 |[]=>Rr _
 |t::l=>by
  have:=rD l;have:1<=t.size:=by cases t;simp[Ex.size]
  simp only[QG,Ex.aW];omega
theorem D7(e:Ex)(hs:e.size<=1000000000000):IS s33 [e.enc] [[vI e.size]]:=by
 refine w33.is ?_;unfold g33;refine aZ e.kids.length (λi=>[[vI (1+Ex.aW (e.kids.take i):Nat)],[vI (i:Int)],e.enc]) (λ_=>True) trivial rfl λi next hi _ hn=>?_
 simp only[aj];have h3:=Ex.qy e.kids (i+1);have h4:=Ex.cb e;have h5:=rD e.kids;refine⟨λh=>?_,λh=>?_⟩
 .have hk:i<e.kids.length:=Q0;rw[yx _ hk];have:=Ex.mc (QB hk);have h2:=Ex.mV _ _ hk;refine⟨Q0,aa (D7 _ Q0) ?_⟩;simp only[aj];unfold bt
  grind
 all_goals grind
 termination_by e.size
theorem Af(e:Ex)(l:List Int)(hs:e.size+l.length<=1000000000000):IS s34 [e.enc,[bU l]] [[bU (l++e.post)]]:=by
 refine w34.is ?_;unfold g34 bU;simp only[aj];refine aZ e.kids.length (λi=>[[vI (i:Int)],[bU (l++Ex.cP (e.kids.take i))],e.enc]) (λ_=>True) trivial (by simp[Ex.cP,bU]) λi next hi _ hn=>?_
 unfold bU;simp only[aj];have h4:=Ex.cb e;have h5:=Ex.tT (e.kids.take i);have h6:(l++Ex.cP (e.kids.take i)).length=l.length+Ex.aW (e.kids.take i):=by grind
 refine⟨λh=>?_,λh=>?_⟩
 .have hk:i<e.kids.length:=Q0;rw[yx _ hk];have h2:=Ex.mV _ _ hk;have h3:=Ex.qy e.kids (i+1);have:=Ex.mc (QB hk);refine⟨Q0,aa (Af _ _ Q0) ?_⟩;unfold bU;simp only[aj];have:=hn hk trivial;rw[Ex.Gi _ _ hk,<-QU]at this;exact⟨by unfold bt;have:=rD e.kids;omega,this⟩
 .obtain rfl:i=e.kids.length:=Q0;rw[Re]at h6 ⊢;rw[Ex.eP];refine⟨Qa,?_⟩;simp[RW]
 termination_by e.size
def rnR(ids:List ar)(e:Ex):bR:=[[ai e.id.aD,ai e.id.seq,ai e.id.index,ai e.kind,ai e.n,ai e.ref.aD,ai e.ref.seq,ai e.ref.index,ai e.ty.kind,ai e.ty.df.aD,ai e.ty.df.seq,ai e.ty.df.index,
  .sl e.ty.kids.length 5 (e.ty.kids.flatMap Ty.enc),.sl e.aK.length 1 (e.aK.map bM)],[.sl e.kids.length 15 (e.kids.flatMap Ex.enc)],[.sl ids.length 3 (ids.flatMap ar.enc)]]
theorem Jj{ids:List ar}{z:Int}(h:0<=z/\z<ids.length):el (ids.flatMap ar.enc) 3 z.toNat=(iH ids z).enc:=by have hk:z.toNat<ids.length:=Q0;rw[eK _ hk,idAt_eq (k:=z.toNat) Q0 hk]
theorem xh(ids:List ar)(e:Ex)(hi:Av ids.length e)(hs:e.size<=100000000000):IS s35 [e.enc,[.sl ids.length 3 (ids.flatMap ar.enc)]] (rnR ids (bZ ids e)):=by
 refine w35.is ?_;unfold g35;rw[inB_eq]at hi;obtain⟨h1,h2,h3⟩:=hi;simp only[aj];refine⟨h1,?_⟩;rw[Jj h1];refine bC [[.sl ids.length 3 (ids.flatMap ar.enc)],e.enc,oT.enc,exC (.mk (iH ids e.id.index) e.kind e.n (jY ids e.kind e.ref) e.ty e.kids e.aK)] ?_ ?_
 .unfold jY;refine⟨λhk=>⟨λhq=>?_,λhq=>?_⟩,λhk=>?_⟩
  .have h4:=h2 ⟨hk,hq⟩;refine⟨h4,?_⟩;rw[Jj h4,J2 ⟨hk,hq⟩];simp only[aj,aG];rfl
  .rw[J1 (λh=>hq h.2)];rfl
  .rw[J1 (λh=>hk h.1)];rfl
 simp only[aj,exC]
 refine aZ e.kids.length (λi=>[[vI (i:Int)],[.sl ids.length 3 (ids.flatMap ar.enc)],e.enc,oT.enc,[ai (iH ids e.id.index).aD,ai (iH ids e.id.index).seq,ai (iH ids e.id.index).index,ai e.kind,ai e.n,ai (jY ids e.kind e.ref).aD,ai (jY ids e.kind e.ref).seq,ai (jY ids e.kind e.ref).index,ai e.ty.kind,ai e.ty.df.aD,ai e.ty.df.seq,ai e.ty.df.index,
  .sl e.ty.kids.length 5 (e.ty.kids.flatMap Ty.enc),.sl e.aK.length 1 (e.aK.map bM)],[.sl i 15 (((e.kids.take i).map (bZ ids)).flatMap Ex.enc)]]) (λ_=>True) trivial rfl λi next hi _ hn=>?_
 simp only[aj];have h4:=Ex.cb e;have h5:=rD e.kids;refine⟨λh=>?_,λh=>?_⟩
 .have hk:i<e.kids.length:=Q0;rw[yx _ hk];have:=Ex.mc (QB hk);refine⟨Q0,aa (xh ids _ (EA h3 (QB hk)) Q0) ?_⟩;simp only[aj,rnR];have:=hn hk trivial;refine⟨Qa,Q4,?_⟩;rw[Qv hk,Rb,QV]at this;rw[sI];simpa using this
 .obtain rfl:i=e.kids.length:=Q0;rw[Re,renE_eq,rJ];simp only[rnR,Ex.id,Ex.kind,Ex.n,Ex.ref,Ex.ty,Ex.kids,Ex.aK,QS]
 termination_by e.size
theorem Ki{n:Int}(hn:lM n)(a b:Ty):IS tI [[vI n],a.enc,b.enc] [(cq n a b).enc]:=by
 refine w113.is ?_;unfold g113;simp only[aj];have e0:=JS bS;rw[iv]at e0;refine aa e0 ?_;simp only[aj];refine aa (pV Q1 hn) ?_;simp only[aj];have hr:=mJ n 6 Q0;refine⟨hr,?_⟩;have hk:(gi n 6).toNat<(Kj a b).length:=by simp[Kj];omega
 have:=yv (Kj a b) hk;have e1:(Kj a b).flatMap Ty.enc=[vI 0,vI 0,vI 0,vI 0,.sl 0 5 []]++([vI 1,vI 0,vI 0,vI 0,.sl 0 5 []]++([vI 2,vI 0,vI 0,vI 0,.sl 1 5 [vI 0,vI 0,vI 0,vI 0,.sl 0 5 []]]++(a.enc++(b.enc++[vI 0,vI 0,vI 0,vI 0,.sl 0 5 []])))):=by simp only[Kj,QD,Ro,iv,vM,vZ,QF]
 rw[e1]at this;rw[this];unfold cq
 grind
theorem upd5(t u:Ty):cQ t.enc 0 u.enc=u.enc:=by unfold cQ;rw[Sz,Rk,Ty.aP,List.drop_eq_nil_of_le (by rw[Ty.aP];decide),QF]
theorem my{z:Int}(h:0<=z/\z<=1000000000000):lM z:=by unfold lM;omega
theorem aN.iJ(k:Int)(nm:ByteArray)(ts:List Ty)(ns:List ByteArray)(bs:List Int)(r:Ty)(m:Int):(aN.mk k nm ts ns bs r m).enc=[ai k,bM nm,.sl ts.length 5 (ts.flatMap Ty.enc),Jy ns,bU bs,ai r.kind,ai r.df.aD,ai r.df.seq,ai r.df.index,.sl r.kids.length 5 (r.kids.flatMap Ty.enc),ai m]:=by rw[aN.enc,Ty.aF];rfl
section
variable {l:List Int} (hl:∀x∈l,lM x)
theorem A9(hl:∀x∈l,lM x){i n:Int}(hn:1<=n):IS rk [[bU l],[vI i],[vI n]] [[vI (er l i n)]]:=Qn hn hl
theorem Bv(_:∀x∈l,lM x){i n:Int}(a b:Ty)(hn:1<=n)(h6:n<=1000):IS tI [[vI (er l i n)],a.enc,b.enc] [(cq (er l i n) a b).enc]:=by have:=eD l i n hn;exact Ki (my Q0) a b
theorem LL(hl:∀x∈l,lM x){i:Int}(hi:0<=i/\i<=1000)(T:Ty):IS s115 [[bU l],[vI i],T.enc] [[.sl (Cd l i T).length 5 ((Cd l i T).flatMap Ty.enc)],[bU (LQ l i)]]:=by
 refine w115.is ?_;unfold g115;simp only[aj];have r5:=eD l i 5 Q0;have r3:=eD l (i+1) 3 Q0;have r2:=eD l (i+1) 2 Q0;have r23:=eD l (i+2) 3 Q0;refine aa (A9 hl Q1) ?_;simp only[aj];refine⟨Q4,aa (A9 hl Q1) ?_⟩;simp only[aj];have hz:=inZ_rng l i (er l i 5);refine⟨Q4,bC [[bU l],[vI i],[vI (er l i 5)],T.enc,[.sl 1 5 (inT1 (er l i 5)).enc],[.sl 1 1 [vI (inZ1 l i (er l i 5))]]] ?_ ?_⟩
 .unfold inT1 inZ1;refine⟨λh=>⟨Q1,Q1,?_⟩,λh=>?_⟩
  .rw[J2 h,J2 h,vM];rfl
  .rw[J1 h,J1 h,iv]
 simp only[aj];have e0:=sB;refine bC [[bU l],[vI i],[vI (er l i 5)],T.enc,[.sl 1 5 (inT2 (er l i 5)).enc],[.sl 1 1 [vI (inZ2 l i (er l i 5))]]] ?_ ?_
 .unfold inT2 inZ2;refine⟨λh=>aa e0 ?_,λh=>?_⟩
  .simp only[aj];refine⟨Q1,Q4,aa (A9 hl Q1) ?_⟩;simp only[aj];refine⟨Q4,Q1,?_⟩;rw[J2 h,J2 h,<-vZ,upd5];rfl
  .rw[J1 h,J1 h]
 simp only[aj];refine bC [[bU l],[vI i],[.sl 1 5 (inT (er l i 5) T).enc],[.sl 1 1 [vI (inZ l i (er l i 5))]]] ?_ ?_
 .unfold inT inZ;refine⟨λh=>⟨Q1,Q1,?_⟩,λh=>?_⟩
  .rw[J2 h,J2 h,upd5];rfl
  .rw[J1 h,J1 h]
 simp only[aj];refine⟨Q4,aa (A9 hl Q1) ?_⟩;simp only[aj];unfold Cd LQ;generalize inT (er l i 5) T=t0;generalize inZ l i (er l i 5)=z0;generalize er l (i+2) 3=cc;refine bC [[vI cc],[.sl (t0::OZ cc).length 5 ((t0::OZ cc).flatMap Ty.enc)],[bU (z0::EC cc)]] ?_ ?_
 .unfold OZ EC;refine⟨λh=>⟨by unfold aO;decide,by unfold aO;decide,?_⟩,λh=>?_⟩
  .rw[J2 h,J2 h];simp[iv,bU]
  .rw[J1 h,J1 h];simp[bU]
 simp only[aj,bU];have hl1:(t0::OZ cc).length<=2/\(z0::EC cc).length<=2:=by unfold OZ EC;split <;> simp
 refine bC [[.sl (t0::in2 cc).length 5 ((t0::in2 cc).flatMap Ty.enc)],[bU (z0::OY cc)]] ?_ ?_
 .unfold in2 OY;refine⟨λh=>⟨Qa,Qa,?_⟩,λh=>?_⟩
  .have e1:OZ cc=[]:=by unfold OZ;rw[J1 Q0]
   have e2:EC cc=[]:=by unfold EC;rw[J1 Q0]
   rw[J2 h,J2 h,e1,e2];simp[vM,qs,bU]
  .rw[J1 h,J1 h];rfl
 simp only[aj,bU]
theorem DR(hl:∀x∈l,lM x){n:Int}(hn:1<=n/\n<=1000):IS s31 [[bU l],[vI n]] [[.sl (bw l n).length 11 ((bw l n).flatMap aN.enc)]]:=by
 refine w31.is ?_;unfold g31;simp only[aj];have a2:=eD l 2 3 Q0;have a6:=eD l 6 2 Q0;have a9:=eD l 9 3 Q0;have e0:=sB;refine aa (A9 hl Q1) ?_;simp only[aj];refine aa (lN Q0 (my Q0)) ?_;simp only[aj];refine aa (Bi _) ?_;simp only[aj];refine⟨Q4,aa (lN Q0 (my Q0)) ?_⟩;simp only[aj];refine aa (Bi _) ?_;simp only[aj];refine bC [[bU l],[vI n],[vB (cj l)],(cp n).enc,(cp (n+1)).enc,[.sl (1+(er l 2 3).toNat) 5 ((iA l 3 3 (cp n) (1+(er l 2 3).toNat)).flatMap Ty.enc)]] ?_ ?_
 .refine aZ (1+(er l 2 3).toNat) (λi=>[[bU l],[vI n],[vB (cj l)],[vI (i:Int)],(cp n).enc,(cp (n+1)).enc,[.sl i 5 ((iA l 3 3 (cp n) i).flatMap Ty.enc)]]) (λ_=>True) trivial rfl λi next hi _ hgo=>?_
  simp only[aj];refine aa (A9 hl Q1) ?_;simp only[aj];refine⟨Q4,λh=>⟨Q4,aa (A9 hl Q1) ?_⟩,λh=>?_⟩
  .simp only[aj];refine aa (Bv hl (cp n) (cp n) Q1 Q1) ?_;simp only[aj,QF];have:=hgo Q0 trivial;rw[qA,QV,QD,Ro,QF]at this;exact⟨Qa,Q4,this⟩
  all_goals grind
 simp only[aj];refine aZ (1+(er l 6 2).toNat) (λi=>[[bU l],[vI n],[vB (cj l)],[vI (i:Int)],(cp n).enc,(cp (n+1)).enc,[.sl (1+i) 5 ((bS::iA l 7 4 (cp n) i).flatMap Ty.enc)],[.sl 1 11 (gK l n).enc]]) (λ_=>True) trivial ?_ λi next hi _ hgo=>?_
 .unfold gK;rw[aN.iJ,kf,QD,iv];rfl
 simp only[aj];refine aa (A9 hl Q1) ?_;simp only[aj];refine⟨Q4,λh=>⟨Q4,aa (A9 hl Q1) ?_⟩,λh=>?_⟩
 .simp only[aj];refine aa (Bv hl (cp n) (cp n) Q1 Q1) ?_;simp only[aj,QF];have:=hgo Q0 trivial;rw[qA,<-Rm,QV,QD (x:=cq _ _ _),Ro,QF]at this;exact⟨Qa,Q4,this⟩
 obtain rfl:i=1+(er l 6 2).toNat:=Q0;refine⟨Qa,Q4,?_⟩;have p2:(gK l n).enc++[vI 1,vS qN,.sl (1+(1+(er l 6 2).toNat)) 5 ((bS::iA l 7 4 (cp n) (1+(er l 6 2).toNat)).flatMap Ty.enc),.sl 3 1 [vS Oe,vS Of,vS nSet],.sl 0 1 [],vI 0,vI 0,vI 0,vI 0,.sl 0 5 [],vI 0]=(kG l n).flatMap aN.enc:=by
  have e:(iC l n).enc=[vI 1,vS qN,.sl (1+(1+(er l 6 2).toNat)) 5 ((bS::iA l 7 4 (cp n) (1+(er l 6 2).toNat)).flatMap Ty.enc),.sl 3 1 [vS Oe,vS Of,vS nSet],.sl 0 1 [],vI 0,vI 0,vI 0,vI 0,.sl 0 5 [],vI 0]:=by unfold iC;rw[aN.iJ,QG,kf,S9 1 (1+_)];rfl
  rw[<-e];simp[kG]
 rw[p2];have l2:(kG l n).length=2:=rfl;have l3:(eQ l n).length<=4:=by unfold eQ;split <;> simp[kG]
 refine bC [[bU l],[vI n],[vB (cj l)],[vI (n-1)],(cp n).enc,(cp (n+1)).enc,[.sl (eQ l n).length 11 ((eQ l n).flatMap aN.enc)],(Bq l n).enc] ?_ ?_
 .by_cases hf:cj l=true
  .rw[hf];simp only[aj];refine aZ (er l 9 3).toNat (λi=>[[bU l],[vI n],[vB true],[vI (n-1)],[vI (i:Int)],(cp n).enc,(cp (n+1)).enc,[.sl (1+i) 5 ((bS::iA l 10 4 (cp n) i).flatMap Ty.enc)],[.sl 2 11 ((kG l n).flatMap aN.enc)],(cp n).enc]) (λ_=>True) trivial (by rw[QD,iv];rfl) λi next hi _ hgo=>?_
   simp only[aj];refine aa (A9 hl Q1) ?_;simp only[aj];refine⟨λh=>⟨Q4,aa (A9 hl Q1) ?_⟩,λh=>?_⟩
   .simp only[aj];refine aa (Bv hl (cp n) (cp n) Q1 Q1) ?_;simp only[aj,QF];have:=hgo Q0 trivial;rw[qA,<-Rm,QV,QD (x:=cq _ _ _),Ro,QF]at this;exact⟨Qa,Q4,this⟩
   .obtain rfl:i=(er l 9 3).toNat:=Q0;refine⟨Q4,aa (lN Q0 (my Q0)) ?_⟩;simp only[aj];refine aa (Bi _) ?_;simp only[aj];refine⟨Qa,aa e0 ?_⟩;simp only[aj];refine⟨Qa,?_⟩;have e3:(fG l n).enc=[vI 0,vS B5,.sl (1+(er l 9 3).toNat) 5 ((bS::iA l 10 4 (cp n) (er l 9 3).toNat).flatMap Ty.enc),.sl 3 1 [vS Og,vS nLog,vS nMore],.sl 0 1 [],vI 0,vI 0,vI 0,vI 0,.sl 0 5 [],vI 0]:=by unfold fG;rw[aN.iJ,QG,kf,S9 1 _];rfl
    have e4:(lh n).enc=[vI 0,vS nOut,.sl 3 5 ((cp (n+2)).enc++[vI 2,vI 0,vI 0,vI 0,.sl 1 5 [vI 0,vI 0,vI 0,vI 0,.sl 0 5 []],vI 0,vI 0,vI 0,vI 0,.sl 0 5 []]),.sl 3 1 [vS N3,vS Ee,vS nNext],.sl 0 1 [],vI 0,vI 0,vI 0,vI 0,.sl 0 5 [],vI 0]:=by unfold lh;rw[aN.iJ];simp only[QD,Ro,iv,vZ];rfl
    unfold eQ Bq;simp_all
  .rw[X9]at hf;rw[hf];simp only[aj];unfold eQ Bq
   grind
 simp only[aj];refine aa (A9 hl Q1) ?_;simp only[aj];refine aa (Bv hl (cp n) (cp (n+1)) Q1 Q1) ?_;refine bC [[bU l],[vI n],[vB (cj l)],[vI (n-1)],(cp n).enc,(cp (n+1)).enc,[.sl (EU l n).length 5 ((EU l n).flatMap Ty.enc)],[.sl (eQ l n).length 11 ((eQ l n).flatMap aN.enc)],(Bq l n).enc] ?_ ?_
 .simp only[aj];refine aa (A9 hl Q1) ?_;simp only[aj];unfold EU;refine⟨λh=>aa (A9 hl Q1) ?_,λh=>?_⟩
  .simp only[aj];refine aa (Bv hl (cp n) (cp (n+1)) Q1 Q1) ?_;refine⟨by unfold aO;decide,?_⟩;rw[J2 h];simp only[aj,QD,Ro,QF];rfl
  all_goals grind
 simp only[aj];refine aa (A9 hl hn.1) ?_;simp only[aj];refine aa (A9 hl Q1) ?_;simp only[aj];refine aa (Bv hl (cp n) (cp n) Q1 Q1) ?_;have l5:(fq l n).length<=6:=by unfold fq;simp;omega
 have m5:(fq l n).length=(eQ l n).length+1+1:=by unfold fq;simp
 have e5:(pF l n).enc=[vI 2,vS n_f,.sl (EU l n).length 5 ((EU l n).flatMap Ty.enc),.sl 2 1 [vS n_a,vS n_b],.sl 0 1 [],ai (nR l n).kind,ai (nR l n).df.aD,ai (nR l n).df.seq,ai (nR l n).df.index,.sl (nR l n).kids.length 5 ((nR l n).kids.flatMap Ty.enc),vI (er l 15 n)]:=by unfold pF;rw[aN.iJ];rfl
 refine⟨Qa,bC [[bU l],[vI (n-1)],(cp n).enc,[.sl (fq l n).length 11 ((fq l n).flatMap aN.enc)],(Bq l n).enc,(nR l n).enc] ?_ ?_⟩
 .by_cases hf:cj l=true
  .rw[hf];simp only[aj];refine⟨Q4,aa (lN Q0 (my Q0)) ?_⟩;simp only[aj];refine aa (Bi _) ?_;refine⟨Qa,?_⟩;simp only[aj];have e6:(ly n).enc=[vI 3,vS IY,.sl 2 5 ((cp (n+2)).enc++((cp (n+1)).enc++[])),.sl 2 1 [vS n_s,vS n_e],.sl 0 1 [],ai (cp (n+3)).kind,ai (cp (n+3)).df.aD,ai (cp (n+3)).df.seq,ai (cp (n+3)).df.index,.sl (cp (n+3)).kids.length 5 ((cp (n+3)).kids.flatMap Ty.enc),vI (n-1)]:=by unfold ly;rw[aN.iJ];rfl
   have et:Bq l n=cp (n+2):=by unfold Bq;rw[J2 hf]
   have e5':=e5;unfold nR at e5';rw[et,<-e5',<-e6,m5];unfold fq;rw[J2 hf];simp only[QV,QD,Ro,QF];rfl
  .rw[X9]at hf;rw[hf];simp only[aj];refine aa (A9 hl Q1) ?_;simp only[aj];refine aa (Bv hl (cp n) (cp (n+1)) Q1 Q1) ?_;refine⟨Qa,?_⟩;simp only[aj];have e6:(pG l n).enc=[vI 2,vS n_g,.sl 1 5 ((cp (n+1)).enc++[]),.sl 1 1 [vS n_e],.sl 0 1 [],ai (cq (er l 17 6) (cp n) (cp (n+1))).kind,ai (cq (er l 17 6) (cp n) (cp (n+1))).df.aD,ai (cq (er l 17 6) (cp n) (cp (n+1))).df.seq,ai (cq (er l 17 6) (cp n) (cp (n+1))).df.index,.sl (cq (er l 17 6) (cp n) (cp (n+1))).kids.length 5 ((cq (er l 17 6) (cp n) (cp (n+1))).kids.flatMap Ty.enc),vI (n-1)]:=by unfold pG;rw[aN.iJ];rfl
   have e5':=e5;unfold nR at e5';rw[<-e5',<-e6,m5];unfold fq;rw[J1 (by grind)];simp only[QV,QD,Ro,QF];rfl
 simp only[aj];refine aa (LL hl Q1 (cp n)) ?_;simp only[aj,bU];refine aa (A9 hl Q1) ?_;simp only[aj];refine aa (Bv hl (cp n) (nR l n) Q1 Q1) ?_;refine⟨Qa,aa (A9 hl Q1) ?_⟩;simp only[aj];have e7:(pT l n).enc=[vI 4,vS n_t,.sl (Cd l 18 (cp n)).length 5 ((Cd l 18 (cp n)).flatMap Ty.enc),.sl 2 1 [vS n_a,vS n_b],.sl (LQ l 18).length 1 ((LQ l 18).map ai),ai (cq (er l 21 6) (cp n) (nR l n)).kind,ai (cq (er l 21 6) (cp n) (nR l n)).df.aD,ai (cq (er l 21 6) (cp n) (nR l n)).df.seq,ai (cq (er l 21 6) (cp n) (nR l n)).df.index,.sl (cq (er l 21 6) (cp n) (nR l n)).kids.length 5 ((cq (er l 21 6) (cp n) (nR l n)).kids.flatMap Ty.enc),vI (n-1)]:=by unfold pT;rw[aN.iJ];rfl
 have e8:(pC l n).enc=[vI 5,vS n_c,.sl 1 5 ((Bq l n).enc++[]),.sl 1 1 [vS nOld],.sl 0 1 [],ai (cq (er l 23 6) (cp n) (Bq l n)).kind,ai (cq (er l 23 6) (cp n) (Bq l n)).df.aD,ai (cq (er l 23 6) (cp n) (Bq l n)).df.seq,ai (cq (er l 23 6) (cp n) (Bq l n)).df.index,.sl (cq (er l 23 6) (cp n) (Bq l n)).kids.length 5 ((cq (er l 23 6) (cp n) (Bq l n)).kids.flatMap Ty.enc),vI (n-1)]:=by unfold pC;rw[aN.iJ];rfl
 rw[<-e7];unfold bw;refine⟨λh=>aa (A9 hl Q1) ?_,λh=>?_⟩
 .simp only[aj];refine aa (Bv hl (cp n) (Bq l n) Q1 Q1) ?_;refine⟨Qa,?_⟩;simp only[aj]
  grind
 all_goals grind
end
end Go.Proofs.YtmbboaapillefaaGreatDoor
namespace Xe
open Go
def lJ(l:List Int)(n:Int)(t:Ty):Prop:=t=bS\/t=qs\/t=b8 bS\/t=cp n\/t=cp (n+1)\/(cj l=true/\t=cp (n+2))
def mL(l:List Int)(n:Int)(t:Ty):Prop:=t=bS\/t=qs\/t=b8 bS\/t=cp n\/t=cp (n+1)\/(cj l=true/\(t=cp (n+2)\/t=cp (n+3)))
theorem lJ.up{l:List Int}{n:Int}{t:Ty}(h:lJ l n t):mL l n t:=by
 rcases h with h|h|h|h|h|⟨h,k⟩
 .exact .inl h
 .exact .inr (.inl h)
 .exact .inr (.inr (.inl h))
 .exact .inr (.inr (.inr (.inl h)))
 .exact .inr (.inr (.inr (.inr (.inl h))))
 .exact .inr (.inr (.inr (.inr (.inr ⟨h,.inl k⟩))))
theorem tF(z:Int)(a b:Ty):cq z a b=bS\/cq z a b=qs\/cq z a b=b8 bS\/cq z a b=a\/cq z a b=b:=by
 unfold cq;have:=mJ z 6 Q0;obtain⟨k,hk,hk6⟩:∃k:Nat,gi z 6=k/\k<6:=⟨(gi z 6).toNat,Q0,Q0⟩;rw[hk,Rx];rcases k with _|_|_|_|_|_|k
 .exact .inl rfl
 .exact .inr (.inl rfl)
 .exact .inr (.inr (.inl rfl))
 .exact .inr (.inr (.inr (.inl rfl)))
 .exact .inr (.inr (.inr (.inr rfl)))
 .exact .inl rfl
 .omega
theorem zO{z:Int}(h:0<=z/\z<3)(a b:Ty):cq z a b=bS\/cq z a b=qs\/cq z a b=b8 bS:=by
 unfold cq gi;rw[J1 Q0];have:z=0\/z=1\/z=2:=Q0;rcases this with rfl|rfl|rfl
 .exact .inl rfl
 .exact .inr (.inl rfl)
 .exact .inr (.inr rfl)
theorem jz{l:List Int}{n z:Int}{a b:Ty}(ha:lJ l n a)(hb:lJ l n b):lJ l n (cq z a b):=by
 rcases tF z a b with e|e|e|e|e <;> rw[e]
 .exact .inl rfl
 .exact .inr (.inl rfl)
 .exact .inr (.inr (.inl rfl))
 .exact ha
 .exact hb
theorem wX{l:List Int}{n q m:Int}{T:Ty}(hT:lJ l n T){k:Nat}:∀t∈iA l q m T k,lJ l n t:=λt ht=>by obtain⟨i,_,rfl⟩:=QP.1 ht;exact jz hT hT
theorem lJ.ls{l:List Int}{n:Int}:lJ l n (b8 Xe.bS):=.inr (.inr (.inl rfl))
theorem lJ.p{l:List Int}{n:Int}:lJ l n (cp n):=.inr (.inr (.inr (.inl rfl)))
theorem lJ.e{l:List Int}{n:Int}:lJ l n (cp (n+1)):=.inr (.inr (.inr (.inr (.inl rfl))))
theorem lJ.s{l:List Int}{n:Int}:lJ l n (Bq l n):=by
 unfold Bq;split
 .rename_i h;exact .inr (.inr (.inr (.inr (.inr ⟨h,rfl⟩))))
 .exact lJ.p
theorem mL.p{l:List Int}{n:Int}:mL l n (cp n):=lJ.p.up
theorem mL.e{l:List Int}{n:Int}:mL l n (cp (n+1)):=lJ.e.up
theorem inTs_in{l:List Int}{n i:Int}:∀t∈Cd l i (cp n),lJ l n t:=by
 intro t ht;unfold Cd at ht;rcases Qz.1 ht with rfl|ht
 .unfold inT inT2 inT1;split
  .exact lJ.p
  split
  .exact lJ.ls
  split
  .exact .inr (.inl rfl)
  .exact .inl rfl
 .unfold in2 OZ at ht;split at ht
  .rw[QI.1 ht];exact .inr (.inl rfl)
  split at ht
  .rw[QI.1 ht];exact .inl rfl
  .cases ht
structure jj(l:List Int)(n:Int)(p:aN):Prop where
 tys:∀t∈p.types,lJ l n t
 res:mL l n p.au
 mod:0<=p.mod/\p.mod<n
 t1:1<=p.types.length
 t3:p.types.length<=3
 aK:p.types.length<=p.aK.length
 kX:p.kind=4->p.types.length=p.kX.length
 kind:0<=p.kind/\p.kind<=5
theorem Ac{l:List Int}{n:Int}(hn:1<=n):jj l n (gK l n):=by
 have h:=eD l 2 3 Q0;refine⟨wX lJ.p,.inl rfl,⟨RC _,hn⟩,?_,?_,?_,λe=>by simp[gK]at e,by simp[gK]⟩
 all_goals simp only[gK,kf];first|omega|(show _<=3;omega)
theorem Ad{l:List Int}{n:Int}(hn:1<=n):jj l n (iC l n):=by
 have h:=eD l 6 2 Q0;refine⟨λt ht=>?_,.inl rfl,⟨RC _,hn⟩,?_,?_,?_,λe=>by simp[iC]at e,by simp[iC]⟩
 .rcases Qz.1 ht with rfl|ht
  .exact .inl rfl
  .exact wX lJ.p t ht
 all_goals simp only[iC,kf,QG];first|omega|(show _<=3;omega)
theorem Ab{l:List Int}{n:Int}(hn:1<=n):jj l n (fG l n):=by
 have h:=eD l 9 3 Q0;refine⟨λt ht=>?_,.inl rfl,⟨RC _,hn⟩,?_,?_,?_,λe=>by simp[fG]at e,by simp[fG]⟩
 .rcases Qz.1 ht with rfl|ht
  .exact .inl rfl
  .exact wX lJ.p t ht
 all_goals simp only[fG,kf,QG];first|omega|(show _<=3;omega)
theorem IK{l:List Int}{n:Int}(hn:1<=n)(hf:cj l=true):jj l n (lh n):=by
 refine⟨λt ht=>?_,.inl rfl,⟨RC _,hn⟩,by simp[lh],by simp[lh],by simp[lh],λe=>by simp[lh]at e,by simp[lh]⟩;simp only[lh,Qz,Rp,or_false]at ht;rcases ht with rfl|rfl|rfl
 .exact .inr (.inr (.inr (.inr (.inr ⟨hf,rfl⟩))))
 .exact lJ.ls
 .exact .inl rfl
theorem pF_ok{l:List Int}{n:Int}(hn:1<=n):jj l n (pF l n):=by
 have h:=eD l 15 n hn;refine⟨λt ht=>?_,(jz lJ.p lJ.p).up,h,?_,?_,?_,λe=>by simp[pF]at e,by simp[pF]⟩
 .simp only[pF,EU]at ht;rcases Qz.1 ht with rfl|ht
  .exact jz lJ.p lJ.e
  .split at ht
   .rw[QI.1 ht];exact jz lJ.p lJ.e
   .cases ht
 all_goals simp only[pF,EU];split <;> simp
theorem NG{l:List Int}{n:Int}(hn:1<=n)(hf:cj l=true):jj l n (ly n):=by
 refine⟨λt ht=>?_,.inr (.inr (.inr (.inr (.inr ⟨hf,.inr rfl⟩)))),⟨show 0<=n-1 by omega,show n-1<n by omega⟩,by simp[ly],by simp[ly],by simp[ly],λe=>by simp[ly]at e,by simp[ly]⟩;simp only[ly,Qz,Rp,or_false]at ht;rcases ht with rfl|rfl
 .exact .inr (.inr (.inr (.inr (.inr ⟨hf,rfl⟩))))
 .exact lJ.e
theorem pG_ok{l:List Int}{n:Int}(hn:1<=n):jj l n (pG l n):=by refine⟨λt ht=>?_,(jz lJ.p lJ.e).up,⟨show 0<=n-1 by omega,show n-1<n by omega⟩,by show 1<=[_].length;simp,by show[_].length<=3;simp,by show[_].length<=[_].length;simp,λe=>J3 e (show ¬(2:Int)=4 by decide),show(0:Int)<=2/\(2:Int)<=5 by decide⟩;simp only[pG,Qz,Rp,or_false]at ht;rw[ht];exact lJ.e
theorem pT_ok{l:List Int}{n:Int}(hn:1<=n):jj l n (pT l n):=by
 have h1:=in2_len (er l (18+2) 3);have h2:=OX (er l (18+2) 3);refine⟨inTs_in,(jz lJ.p (jz lJ.p lJ.p)).up,⟨show 0<=n-1 by omega,show n-1<n by omega⟩,?_,?_,?_,λ_=>?_,show(0:Int)<=4/\(4:Int)<=5 by decide⟩
 all_goals simp only[pT,Cd,LQ,QG,List.length_nil];omega
theorem pC_ok{l:List Int}{n:Int}(hn:1<=n):jj l n (pC l n):=by refine⟨λt ht=>?_,(jz lJ.p lJ.s).up,⟨show 0<=n-1 by omega,show n-1<n by omega⟩,by show 1<=[_].length;simp,by show[_].length<=3;simp,by show[_].length<=[_].length;simp,λe=>J3 e (show ¬(5:Int)=4 by decide),show(0:Int)<=5/\(5:Int)<=5 by decide⟩;simp only[pC,Qz,Rp,or_false]at ht;rw[ht];exact lJ.s
theorem jA{l:List Int}{n:Int}(hn:1<=n):∀p∈bw l n,jj l n p:=by
 intro p hp;simp only[bw,fq,eQ,kG,QK,Qz,Rp,or_false]at hp;rcases hp with((((hp|hp)|hp)|hp)|hp)|hp
 .rcases hp with rfl|rfl
  .exact Ac hn
  .exact Ad hn
 .split at hp
  .rename_i hf;simp only[Qz,Rp,or_false]at hp;rcases hp with rfl|rfl
   .exact Ab hn
   .exact IK hn hf
  .cases hp
 .rw[hp];exact pF_ok hn
 .rw[hp];split
  .rename_i hf;exact NG hn hf
  .exact pG_ok hn
 .rw[hp];exact pT_ok hn
 .split at hp
  .rw[QI.1 hp];exact pC_ok hn
  .cases hp
theorem eB(l:List Int)(n:Int):5<=(bw l n).length/\(bw l n).length<=8:=by unfold bw fq eQ kG;split <;> split <;> simp
theorem qV{a b:Int}(ha:0<=a)(hb:0<=b)(h:a≠b):fw a≠fw b:=λe=>by
 unfold fw at e
 grind
def dJ(ps:List aN):Nat:=(ps.map λp=>p.types.length).sum
theorem mh(p:aN)(ps:List aN):dJ (p::ps)=p.types.length+dJ ps:=by simp[dJ]
theorem uR(a b:List aN):dJ (a++b)=dJ a+dJ b:=by simp[dJ]
theorem nc:∀(a b:List aN) (i next:Int),br (a++b) i next=br a i next++br b (i+a.length) (next+dJ a)
 |[],b,i,next=>by simp[br,dJ]
 |p::a,b,i,next=>by
  rw[Rm,br,br,nc a b,Rm,mh,QG]
  grind
theorem dK(ps:List aN)(i next:Int){j:Nat}(hj:j<ps.length)(hj':j<(br ps i next).length):(br ps i next)[j]=jP ps[j] (i+j) (next+dJ (ps.take j)):=by
 have e:ps=ps.take j++ps[j]::ps.drop (j+1):=by simp_all
 have hl:(br (ps.take j) i next).length=j:=by rw[cE,Rf];omega
 have h1:br ps i next=br (ps.take j) i next++br (ps[j]::ps.drop (j+1)) (i+j) (next+dJ (ps.take j)):=by
  conv=>lhs;rw[e]
  rw[nc,Rf,Nat.min_eq_left Q0]
 have:(br ps i next)[j]?=some (jP ps[j] (i+j) (next+dJ (ps.take j))):=by rw[h1,List.getElem?_append_right Q0,hl,UO,br];rfl
 grind
theorem KO(p:aN)(next:Int):(cH p next).map aC.ty=p.types:=by
 unfold cH;rw[List.map_map];apply T5
 all_goals grind
theorem cw(p:aN)(next:Int):(cH p next).length=p.types.length:=by simp[cH]
theorem eR{p:aN}{next:Int}{s:aC}(h:s∈cH p next):s.ty∈p.types:=by
 rw[<-KO p next]
 grind
def aq.bE(d:aq)(e:Ex):aq:=⟨d.id,d.kind,d.mod,d.name,d.ah,d.au,e,d.bq,d.cg⟩
def aq.sh(d:aq):aq:=d.bE oT
theorem bV{a b:aq}(h:a.sh=b.sh):a.id=b.id/\a.kind=b.kind/\a.mod=b.mod/\a.name=b.name/\a.ah=b.ah/\a.au=b.au/\a.bq=b.bq/\a.cg=b.cg:=by
 unfold aq.sh aq.bE at h
 grind
def cN(a b:List aq):Prop:=a.map aq.sh=b.map aq.sh
theorem cN.refl(a:List aq):cN a a:=rfl
theorem cN.len{a b:List aq}(h:cN a b):a.length=b.length:=by have:=J4 YY h;simpa using this
theorem cN.get{a b:List aq}(h:cN a b){k:Nat}(ha:k<a.length)(hb:k<b.length):a[k].sh=b[k].sh:=by
 have:(a.map aq.sh)[k]?=(b.map aq.sh)[k]?:=by rw[h]
 grind
theorem cN.set{a b:List aq}(h:cN a b){k:Nat}(ha:k<a.length)(e:Ex):cN (a.set k (a[k].bE e)) b:=by
 unfold cN at *;rw[<-h];apply T5
 .simp
 .intro i h1 h2;simp only[RG,List.getElem_set];split
  .rename_i he;subst he;rfl
  .rfl
theorem cN.qt{ms ns:List aI}{a b:List aq}(h:cN a b)(i:ar):(an ⟨ms,a⟩ i).sh=(an ⟨ns,b⟩ i).sh:=by
 unfold an;dsimp only;induction a generalizing b with
 |nil =>
  cases b with
  |nil=>rfl
  |cons y b=>have:=h.len;simp at this
 |cons x a ih =>
  cases b with
  |nil=>have:=h.len;simp at this
  |cons y b =>
   unfold cN at h;simp only[QT,SA]at h;have hid:=(bV h.1).1;rw[Uh,Uh,hid];cases decide (y.id=i) with
   |true=>exact h.1
   |false=>exact ih h.2
theorem cN.mem{a b:List aq}(h:cN a b){d:aq}(hd:d∈a):∃e∈b,d.sh=e.sh:=by
 obtain⟨k,hk,rfl⟩:=QO.1 hd;have hk':k<b.length:=by rw[<-h.len];exact hk
 exact⟨_,QB hk',h.get hk hk'⟩
theorem cN.wf{ms ns:List aI}{a b:List aq}(h:cN a b):∀(n:Nat) (t:Ty),eN ⟨ns,b⟩ n t->eN ⟨ms,a⟩ n t
 |0,_,w=>w
 |n+1,t,w=>by
  have hp:=bV (h.qt (ms:=ms) (ns:=ns) t.df);rw[eN]at w ⊢;rcases w with w|w|w|w
  .exact .inl w
  .exact .inr (.inl w)
  .exact .inr (.inr (.inl ⟨w.1,w.2.1,h.wf n _ w.2.2⟩))
  .refine .inr (.inr (.inr ⟨w.1,w.2.1,w.2.2.1,?_,?_,?_⟩))
   .grind
   .grind
   .rw[hp.2.2.2.2.1];exact λs hs=>h.wf n _ (w.2.2.2.2.2 s hs)
structure j8(p:av)(R:Nat):Prop where
 gen:Qj p R
 resA:∀d∈p.ae,eN p R d.au
 sty:∀d∈p.ae,∀x∈d.ah,x.ty.size<=1000
 rty:∀d∈p.ae,d.au.size<=1000
 e0:∀d∈p.ae,0<d.ah.length
 d0:0<p.ae.length
 d1:p.ae.length<=100
theorem j8.mv{ms:List aI}{a b:List aq}{R:Nat}(hb:j8 ⟨ms,b⟩ R)(h:cN a b):j8 ⟨ms,a⟩ R:=by
 have get:∀d∈a,∃e∈b,d.id=e.id/\d.kind=e.kind/\d.ah=e.ah/\d.au=e.au:=λd hd=>by
  obtain⟨e,he,hs⟩:=h.mem hd;have:=bV hs
  grind
 refine⟨⟨λd hd=>?_,λd hd hk=>?_,λd hd s hs=>?_,λd hd hk=>?_,λd hd hk=>?_,hb.gen.R2⟩,λd hd=>?_,λd hd x hx=>?_,λd hd=>?_,λd hd=>?_,by rw[h.len];exact hb.d0,by rw[h.len];exact hb.d1⟩
 all_goals obtain⟨e,he,h1,h2,h3,h4⟩:=get d hd
 .rw[h3];exact hb.gen.fE e he
 .rw[h3];exact hb.gen.oJ e he Q0
 .rw[h3]at hs;exact h.wf _ _ (hb.gen.Dk e he s hs)
 .rw[h4];exact h.wf _ _ (hb.gen.res e he Q0)
 .rw[h1];exact h.wf _ _ (hb.gen.own e he Q0)
 .rw[h4];exact h.wf _ _ (hb.resA e he)
 .rw[h3]at hx;exact hb.sty e he x hx
 .rw[h4];exact hb.rty e he
 .rw[h3];exact hb.e0 e he
def qg:ByteArray:=⟨#[99,111,114,101]⟩
def Ak:ByteArray:=⟨#[109,105,108,108]⟩
def bL(m:Int):List aN->Int->List ar
 |[],_=>[]
 |p::ps,i=>(if p.mod=m then[fw i] else[])++bL m ps (i+1)
theorem qh(m:Int):∀(a b:List aN) (i:Int),bL m (a++b) i=bL m a i++bL m b (i+a.length)
 |[],b,i=>by simp[bL]
 |p::a,b,i=>by rw[Rm,bL,bL,qh m a b,QG,QU,show i+1+(a.length:Int)=i+((a.length+1:Nat):Int) by omega]
def bO(l:List Int):List aI :=
 if ax l=1 then[⟨fw 0,qg,[],bL 0 (bw l 1) 1⟩] else[⟨fw 0,qg,[],bL 0 (bw l 2) 2⟩,⟨fw 1,Ak,[fw 0],bL 1 (bw l 2) 2⟩]
def cA(l:List Int):List aN:=bw l (ax l)
def aV(l:List Int):List aq:=br (cA l) (ax l) (ax l+(cA l).length)
def gY(l:List Int):Int:=ax l+(cA l).length+dJ (cA l)
theorem dq(l:List Int):ax l=1\/ax l=2:=by have:=eD l 0 2 Q0;unfold ax;omega
section
variable {l:List Int} {n:Int}
theorem zZ{j:Nat}(hj:j<(bw l n).length)(h:(bw l n)[j].kind=0\/(bw l n)[j].kind=1):j<2\/(cj l=true/\j<4):=by
 have e:(bw l n)[j]?=some (bw l n)[j]:=QQ hj;generalize(bw l n)[j]=p at h e;unfold bw fq eQ kG at e;by_cases hf:cj l=true
 .rw[J2 hf,J2 hf]at e;rcases j with _|_|_|_|j
  .exact .inl Q0
  .exact .inl Q0
  .exact .inr ⟨hf,Q0⟩
  .exact .inr ⟨hf,Q0⟩
  .exfalso;simp only[Rm,Rk,R4]at e;rcases j with _|_|_|j
   .simp only[Ru,Qq]at e;subst e;simp[pF]at h
   .simp only[R4,Ru,Qq]at e;subst e;simp[ly]at h
   .simp only[R4,Ru,Qq]at e;subst e;simp[pT]at h
   .simp only[R4]at e;split at e
    .rcases j with _|j
     .simp only[Ru,Qq]at e;subst e;simp[pC]at h
     .simp at e
    .simp at e
 .rw[J1 hf,J1 hf]at e;rcases j with _|_|j
  .exact .inl Q0
  .exact .inl Q0
  .exfalso;simp only[Rm,Rk,QF,R4]at e;rcases j with _|_|_|j
   .simp only[Ru,Qq]at e;subst e;simp[pF]at h
   .simp only[R4,Ru,Qq]at e;subst e;simp[pG]at h
   .simp only[R4,Ru,Qq]at e;subst e;simp[pT]at h
   .simp only[R4]at e;split at e
    .rcases j with _|j
     .simp only[Ru,Qq]at e;subst e;simp[pC]at h
     .simp at e
    .simp at e
theorem ry{ms:List aI}(hn:0<=n){ps:List aN}{next:Int}{j:Nat}(hj:j<ps.length):dy ⟨ms,br ps n next⟩ (fw (n+j))/\an ⟨ms,br ps n next⟩ (fw (n+j))=jP ps[j] (n+j) (next+dJ (ps.take j)):=by
 have hl:=cE ps n next
 have h:=iX (p:=⟨ms,br ps n next⟩) (id:=fw (n+j)) (k:=j) (by grind) (λi hi hlt=>by
  rw[dK ps n next Q0 hi]
  exact qV Q0 Q0 Q0) (by rw[dK ps n next hj (by rw[hl];exact hj)];rfl)
 rwa [dK ps n next hj Q0]at h
theorem HN{p:av}{k:Nat}{i:ar}{d:aq}(h:an p i=d)(h3:d.ah.length<=3)(h1:0<d.ah.length)(hs:∀s∈d.ah,eN p k s.ty):eN p (k+1) (mm i):=by
 rw[eN];refine .inr (.inr (.inr ⟨show(3:Int)≠0 by decide,show(3:Int)≠1 by decide,show(3:Int)≠2 by decide,?_⟩));rw[show(mm i).df=i from rfl,h]
 grind
theorem wf_s{p:av}{k:Nat}{t:Ty}(h:t=bS\/t=qs\/t=b8 bS):eN p (k+2) t:=by
 rcases h with rfl|rfl|rfl
 .rw[eN];exact .inl rfl
 .rw[eN];exact .inr (.inl rfl)
 .exact nW Q0
end
theorem mL.size{l:List Int}{n:Int}{t:Ty}(h:mL l n t):t.size<=1000:=by rcases h with rfl|rfl|rfl|rfl|rfl|⟨_,rfl|rfl⟩ <;> first|decide|simp[mm,Ty.size,Ty.aW]
theorem base04(l:List Int):j8 ⟨bO l,aV l⟩ 5/\∀d∈aV l,∀s∈d.ah,eN ⟨bO l,aV l⟩ 4 s.ty:=by
 have hn:1<=ax l:=by rcases dq l with h|h <;> omega
 unfold aV;generalize hps:cA l=ps;have hok:∀p∈ps,jj l (ax l) p:=by rw[<-hps];exact jA hn
 have hlen:=eB l (ax l);unfold cA at hps;rw[hps]at hlen;generalize hnx:ax l+(ps.length:Int)=next
 generalize bO l=ms;have hdl:=cE ps (ax l) next
 -- qt types of definitions
 have point:eN ⟨ms,br ps (ax l) next⟩ 3 (cp (ax l)):=by
  have h0:0<ps.length:=Q0;have e:=(ry (ms:=ms) (n:=ax l) Q0 (next:=next) h0).2;have ep:ps[0]=gK l (ax l):=by subst hps;rfl
  rw[ep,show ax l+((0:Nat):Int)=ax l by omega]at e;have ok:=Ac (l:=l) (n:=ax l) hn;refine HN e (by rw[jP,cw];exact ok.t3) (by rw[jP,cw];exact ok.t1) λs hs=>?_;obtain⟨i,_,hi⟩:=QP.1 (show s.ty∈iA l 3 3 (cp (ax l)) _ from eR hs);rw[<-hi];exact wf_s (zO (eD l _ 3 Q0) _ _)
 have mid:∀t,(t=bS\/t=qs\/t=b8 bS\/t=cp (ax l))->eN ⟨ms,br ps (ax l) next⟩ 3 t:=λt h=>by
  rcases h with h|h|h|h
  .exact wf_s (.inl h)
  .exact wf_s (.inr (.inl h))
  .exact wf_s (.inr (.inr h))
  .rw[h];exact point
 have mids:∀q m k,∀t∈bS::iA l q m (cp (ax l)) k,eN ⟨ms,br ps (ax l) next⟩ 3 t:=λq m k t ht=>by
  rcases Qz.1 ht with rfl|ht
  .exact mid _ (.inl rfl)
  .obtain⟨i,_,hi⟩:=QP.1 ht;rw[<-hi];refine mid _ ?_;rcases tF (er l (q+(i:Int)) m) (cp (ax l)) (cp (ax l)) with h|h|h|h|h
   all_goals grind
 have event:eN ⟨ms,br ps (ax l) next⟩ 4 (cp (ax l+1)):=by
  have h0:1<ps.length:=Q0;have e:=(ry (ms:=ms) (n:=ax l) Q0 (next:=next) h0).2;have ep:ps[1]=iC l (ax l):=by subst hps;rfl
  rw[ep,show ax l+((1:Nat):Int)=ax l+1 by omega]at e;have ok:=Ad (l:=l) (n:=ax l) hn;exact HN e (by rw[jP,cw];exact ok.t3) (by rw[jP,cw];exact ok.t1) λs hs=>mids _ _ _ _ (eR hs)
 have five:cj l=true->eN ⟨ms,br ps (ax l) next⟩ 4 (cp (ax l+2))/\eN ⟨ms,br ps (ax l) next⟩ 5 (cp (ax l+3)):=λhf=>by
  have h2:2<ps.length:=Q0;have h3:3<ps.length:=Q0;have e2:=(ry (ms:=ms) (n:=ax l) Q0 (next:=next) h2).2;have e3:=(ry (ms:=ms) (n:=ax l) Q0 (next:=next) h3).2;have ep2:ps[2]=fG l (ax l):=by
   have:ps[2]?=some (fG l (ax l)):=by rw[<-hps];unfold bw fq eQ;rw[J2 hf];rfl
   grind
  have ep3:ps[3]=lh (ax l):=by
   have:ps[3]?=some (lh (ax l)):=by rw[<-hps];unfold bw fq eQ;rw[J2 hf];rfl
   grind
  rw[ep2,show ax l+((2:Nat):Int)=ax l+2 by omega]at e2;rw[ep3,show ax l+((3:Nat):Int)=ax l+3 by omega]at e3;have ok2:=Ab (l:=l) (n:=ax l) hn;have ok3:=IK (l:=l) (n:=ax l) hn hf;have state:=HN e2 (by rw[jP,cw];exact ok2.t3) (by rw[jP,cw];exact ok2.t1) λs hs=>mids _ _ _ _ (eR hs);refine⟨state,HN e3 (by rw[jP,cw];exact ok3.t3) (by rw[jP,cw];exact ok3.t1) λs hs=>?_⟩;have:=eR hs;simp only[lh,Qz,Rp,or_false]at this;rcases this with h|h|h <;> rw[h]
  .exact state
  .exact b7 Q0 (mid _ (.inr (.inr (.inl rfl))))
  .exact b7 Q0 (mid _ (.inl rfl))
 have all:∀t,mL l (ax l) t->eN ⟨ms,br ps (ax l) next⟩ 5 t:=λt h=>by
  rcases h with h|h|h|h|h|⟨hf,h|h⟩
  .exact b7 Q0 (mid _ (.inl h))
  .exact b7 Q0 (mid _ (.inr (.inl h)))
  .exact b7 Q0 (mid _ (.inr (.inr (.inl h))))
  .rw[h];exact b7 Q0 point
  .rw[h];exact b7 Q0 event
  .rw[h];exact b7 Q0 (five hf).1
  all_goals grind
 have four:∀t,lJ l (ax l) t->eN ⟨ms,br ps (ax l) next⟩ 4 t:=λt h=>by
  rcases h with h|h|h|h|h|⟨hf,h⟩
  .exact b7 Q0 (mid _ (.inl h))
  .exact b7 Q0 (mid _ (.inr (.inl h)))
  .exact b7 Q0 (mid _ (.inr (.inr (.inl h))))
  .rw[h];exact b7 Q0 point
  all_goals grind
 have get:∀d∈br ps (ax l) next,∃j,∃hj:j<ps.length,d=jP ps[j] (ax l+j) (next+dJ (ps.take j)):=λd hd=>by obtain⟨j,hj,rfl⟩:=QO.1 hd;exact⟨j,Q0,dK ps _ _ _ _⟩
 refine⟨⟨⟨λd hd=>?_,λd hd hk=>?_,λd hd s hs=>?_,λd hd hk=>?_,λd hd hk=>?_,Q0⟩,λd hd=>?_,λd hd x hx=>?_,λd hd=>?_,λd hd=>?_,by grind,by grind⟩,λd hd s hs=>?_⟩
 all_goals obtain⟨j,hj,rfl⟩:=get d hd
 all_goals have ok:=hok _ (QB hj)
 .rw[jP,cw];exact ok.t3
 .rw[jP,cw];exact ok.t1
 .exact all _ (ok.tys _ (eR hs)).up
 .exact all _ ok.res
 .refine all _ ?_;have hk':ps[j].kind=0\/ps[j].kind=1:=hk;subst hps;rcases zZ hj hk' with h|⟨hf,h⟩
  .rcases j with _|_|j
   .show mL l (ax l) (cp (ax l+((0:Nat):Int)));rw[show ax l+((0:Nat):Int)=ax l by omega];exact mL.p
   .exact mL.e
   .omega
  .rcases j with _|_|_|_|j
   .show mL l (ax l) (cp (ax l+((0:Nat):Int)));rw[show ax l+((0:Nat):Int)=ax l by omega];exact mL.p
   .exact mL.e
   .exact .inr (.inr (.inr (.inr (.inr ⟨hf,.inl rfl⟩))))
   .exact .inr (.inr (.inr (.inr (.inr ⟨hf,.inr rfl⟩))))
   .omega
 .exact all _ ok.res
 .exact(ok.tys _ (eR hx)).up.size
 .exact ok.res.size
 .rw[jP,cw];exact ok.t1
 .exact four _ (ok.tys _ (eR hs))
theorem A3(l:List Int):j8 ⟨bO l,aV l⟩ 5:=(base04 l).1
def dw(k n:Int)(kids:List Ex)(T:Int):Ex:=.mk ⟨0,0,T⟩ k n ki bS kids []
def opTy(n:Int)(u t:Ty):Prop:=(0<=n/\n<=4/\u=bS/\t=bS)\/(n=5/\u=bS/\t=qs)\/(n=6/\t=qs)\/((n=7\/n=8)/\u=qs/\t=qs)\/(n=10/\u=b8 bS/\t=b8 bS)
inductive Mk(c:fB):Ty->List cd->Int->Ex->Int->Prop
 |int {env:List cd} {T n:Int}:-1099511627776<=n/\n<=1099511627776->Mk c bS env T (dw 0 n [] T) (T+1)
 |bool {env:List cd} {T n:Int}:0<=n/\n<=1->Mk c qs env T (dw 1 n [] T) (T+1)
 |var {env:List cd} {T:Int} {b:cd}:b∈env->Mk c b.ty env T ((dw 2 b.n [] T).dH b.id) (T+1)
 |qT {env:List cd} {T:Int} {kids:List Ex} (Ts:Nat->Int) (hl:kids.length<=2):Ts 0=T->(∀i (h:i<kids.length),Mk c bS env (Ts i) kids[i] (Ts (i+1)))->Mk c (b8 bS) env T ((dw 11 0 kids (Ts kids.length)).Ie bS) (Ts kids.length+1)
 |oJ {env:List cd} {T T1:Int} {d:aq} {k:Nat} {e:Ex} (hd:d∈c.p.ae) (hk:d.kind=1) (h:k<d.ah.length):Mk c d.ah[k].ty env T e T1->Mk c (mm d.id) env T ((dw 9 k [e] T1).dH d.id) (T1+1)
 |rM {env:List cd} {T:Int} {d:aq} {kids:List Ex} (hd:d∈c.p.ae) (hk:d.kind=0) (Ts:Nat->Int) (hl:kids.length=d.ah.length):Ts 0=T->(∀i (h:i<kids.length),Mk c (d.ah[i]'Q0).ty env (Ts i) kids[i] (Ts (i+1)))->Mk c (mm d.id) env T ((dw 7 0 kids (Ts kids.length)).dH d.id) (Ts kids.length+1)
 |len {env:List cd} {T T1:Int} {a:Ex}:Mk c (b8 bS) env T a T1->Mk c bS env T (dw 4 11 [a] T1) (T1+1)
 |not {env:List cd} {T T1:Int} {a:Ex}:Mk c qs env T a T1->Mk c qs env T (dw 4 9 [a] T1) (T1+1)
 |tj {t u:Ty} {env:List cd} {T T1 T2 n:Int} {a b:Ex}:opTy n u t->Mk c u env T a T1->Mk c u env T1 b T2->Mk c t env T (dw 4 n [a,b] T2) (T2+1)
 |Jh {t:Ty} {env:List cd} {T T1 T2 T3:Int} {a b e:Ex}:Mk c qs env T a T1->Mk c t env T1 b T2->Mk c t env T2 e T3->Mk c t env T (dw 5 0 [a,b,e] T3) (T3+1)
 |sC {t u:Ty} {env:List cd} {T T1 T2:Int} {a b:Ex} {m:ByteArray}:Mk c u env T a T1->Mk c t (env++[⟨⟨0,0,T1⟩,0,u⟩]) (T1+1) b T2->Mk c t env T ((dw 6 0 [] T1).dD [a,b] [m]) T2
 |sR {t:Ty} {env:List cd} {T T1 T2 T3:Int} {a b e:Ex} {m m2:ByteArray}:Mk c (b8 bS) env T a T1->Mk c t env T1 b T2->Mk c t (env++[⟨⟨0,0,T2⟩,0,bS⟩]++[⟨⟨0,0,T2⟩,1,t⟩]) (T2+1) e T3->Mk c t env T ((dw 12 0 [] T2).dD [a,b,e] [m,m2]) T3
 |I0 {t:Ty} {env:List cd} {T T1:Int} {d:aq} {a:Ex} {kids:List Ex} {ms:List ByteArray} (hd:d∈c.p.ae) (hk:d.kind=1) (Ts:Nat->Int) (hl:kids.length=d.ah.length) (hm:ms.length=d.ah.length):Mk c (mm d.id) env T a T1->Ts 0=T1+1 ->
   (∀i (h:i<kids.length),Mk c t (env++[⟨⟨0,0,T1⟩,i,(d.ah[i]'Q0).ty⟩]) (Ts i) kids[i] (Ts (i+1)))->Mk c t env T (((dw 10 0 [] T1).dH d.id).dD (a::kids) ms) (Ts kids.length)
 |field {env:List cd} {T T1:Int} {d:aq} {j:Nat} {a:Ex} (hd:d∈c.p.ae) (hk:d.kind=0) (h:j<d.ah.length):Mk c (mm d.id) env T a T1->Mk c d.ah[j].ty env T ((dw 8 j [a] T1).dH d.id) (T1+1)
 |call {env:List cd} {T:Int} {k:Nat} {kids:List Ex} (hd:k<c.p.ae.length) (hk:c.p.ae[k].kind=2) (hv:kr c k) (Ts:Nat->Int) (hl:kids.length=c.p.ae[k].ah.length):Ts 0=T->(∀i (h:i<kids.length),Mk c (c.p.ae[k].ah[i]'Q0).ty env (Ts i) kids[i] (Ts (i+1))) ->
   Mk c c.p.ae[k].au env T ((dw 3 0 kids (Ts kids.length)).dH c.p.ae[k].id) (Ts kids.length+1)
def nL(p:av)(t:Ty):Prop:=t=bS\/t=qs\/t=b8 bS\/∃d∈p.ae,(d.kind=0\/d.kind=1)/\t=mm d.id
structure Qk(c:fB)(R:Nat):Prop where
 gen:Qj c.p R
 d0:0<c.p.ae.length
 qt:∀d∈c.p.ae,an c.p d.id=d
 gs:∀d∈c.p.ae,∀s∈d.ah,nL c.p s.ty
 gr:∀d∈c.p.ae,nL c.p d.au
def GMk(c:fB)(R n:Nat)(g:GX):Prop:=∀(t:Ty) (env:List cd) (depth:Int) (s:bY),0<env.length->(∀b∈env,eN c.p R b.ty/\nL c.p b.ty)->rW c.p R n t depth->nL c.p t->Mk c t env s.be (g t env depth s).1 (g t env depth s).2.be
theorem gTy0{p:av}{t:Ty}(h:nL p t)(hk:t.kind=0):t=bS:=by
 rcases h with h|h|h|⟨d,_,_,h⟩ <;> rw[h]at hk ⊢
 all_goals exact J3 hk (show ¬(_:Int)=0 by first|exact(show ¬(1:Int)=0 by decide)|exact(show ¬(2:Int)=0 by decide)|exact(show ¬(3:Int)=0 by decide))
theorem gTy1{p:av}{t:Ty}(h:nL p t)(hk:t.kind=1):t=qs:=by
 rcases h with h|h|h|⟨d,_,_,h⟩ <;> rw[h]at hk ⊢
 .exact J3 hk (show ¬(0:Int)=1 by decide)
 .exact J3 hk (show ¬(2:Int)=1 by decide)
 .exact J3 hk (show ¬(3:Int)=1 by decide)
theorem gTy2{p:av}{t:Ty}(h:nL p t)(hk:t.kind=2):t=b8 bS:=by
 rcases h with h|h|h|⟨d,_,_,h⟩ <;> rw[h]at hk ⊢
 .exact J3 hk (show ¬(0:Int)=2 by decide)
 .exact J3 hk (show ¬(1:Int)=2 by decide)
 .exact J3 hk (show ¬(3:Int)=2 by decide)
theorem gTy3{p:av}{t:Ty}(h:nL p t)(h0:¬t.kind=0)(h1:¬t.kind=1)(h2:¬t.kind=2):∃d∈p.ae,(d.kind=0\/d.kind=1)/\t=mm d.id:=by
 rcases h with h|h|h|h
 .rw[h]at h0;exact J3 rfl h0
 .rw[h]at h1;exact J3 rfl h1
 .rw[h]at h2;exact J3 rfl h2
 .exact h
section
variable {c:fB} {R n:Nat} {g:GX}
theorem Eu(hg:GMk c R n g){t:Ty}{env:List cd}{d:Int}(h0:0<env.length)(he:∀b∈env,eN c.p R b.ty/\nL c.p b.ty)(hk:rW c.p R n t d)(ht:nL c.p t):∀(m:Nat) (s:bY),(dh g t env d m s).1.length<=m/\∃Ts:Nat->Int,Ts 0=s.be/\Ts (dh g t env d m s).1.length=(dh g t env d m s).2.be/\∀i (h:i<(dh g t env d m s).1.length),Mk c t env (Ts i) (dh g t env d m s).1[i] (Ts (i+1))
 |0,s=>⟨QW _,λ_=>s.be,rfl,rfl,λi h=>J3 h (RP _)⟩
 |m+1,s=>by
  by_cases hl:0<s.left
  .obtain⟨h0',Ts,h1,h2,h3⟩:=Eu hg h0 he hk ht m (g t env d s).2;have e:dh g t env d (m+1) s=((g t env d s).1::(dh g t env d m (g t env d s).2).1,(dh g t env d m (g t env d s).2).2):=by rw[dh,J2 hl]
   rw[e];refine⟨Nat.succ_le_succ h0',λi=>match i with|0=>s.be|i+1=>Ts i,rfl,h2,λi h=>?_⟩;cases i with
   |zero=>show Mk c t env s.be _ (Ts 0);rw[h1];exact hg t env d s h0 he hk ht
   |succ i=>exact h3 i (by grind)
  .have e:dh g t env d (m+1) s=([],s):=by rw[dh,J1 hl]
   rw[e];exact⟨Rr _,λ_=>s.be,rfl,rfl,λi h=>J3 h (RP _)⟩
theorem x5(hg:GMk c R n g){env:List cd}{d:Int}(h0:0<env.length)(he:∀b∈env,eN c.p R b.ty/\nL c.p b.ty):∀(ts:List Ty) (s:bY),(∀t∈ts,rW c.p R n t d/\nL c.p t)->∃Ts:Nat->Int,∃hl:(dg g env d ts s).1.length=ts.length,Ts 0=s.be/\Ts (dg g env d ts s).1.length=(dg g env d ts s).2.be/\∀i (h:i<(dg g env d ts s).1.length),Mk c (ts[i]'Q0) env (Ts i) (dg g env d ts s).1[i] (Ts (i+1))
 |[],s,_=>⟨λ_=>s.be,rfl,rfl,rfl,λi h=>J3 h (RP _)⟩
 |t::ts,s,hk=>by
  obtain⟨Ts,hl,h1,h2,h3⟩:=x5 hg h0 he ts (g t env d s).2 λu hu=>hk u (Qx _ hu);refine⟨λi=>match i with|0=>s.be|i+1=>Ts i,by rw[dg];simp[hl],rfl,h2,λi h=>?_⟩;cases i with
  |zero=>show Mk c t env s.be _ (Ts 0);rw[h1];have:=hk t (Qt ..);exact hg t env d s h0 he this.1 this.2
  |succ i=>exact h3 i (by rw[dg]at h;simpa using h)
end
section
variable {c:fB} {R n:Nat} {t:Ty} {env:List cd} {x depth:Int} {s:bY}
theorem JO{α:Type}{l:List α}{b:α}:0<(l++[b]).length:=Q2
theorem Mk.cast{t':Ty}{T T':Int}{e e':Ex}(h:Mk c t env T e T')(ht:t=t')(he:e=e'){S:Int}(hS:T'=S):Mk c t' env T e' S:=ht▸he▸hS▸h
theorem I6(hc:Qk c R)(hg:GMk c R n (ay c n))(h0:0<env.length)(he:∀b∈env,eN c.p R b.ty/\nL c.p b.ty)(hk:rW c.p R (n+1) t depth)(ht:nL c.p t)(hx:0<=x):Mk c t env s.be (kM c (ay c n) t env x depth s).1 (kM c (ay c n) t env x depth s).2.be:=by
 unfold kM;have e29:x.tmod 29=x % 29:=RB hx;have e9:x.tmod 9=x % 9:=RB hx;have e2:x.tmod 2=x % 2:=RB hx;split
 .rename_i k0;rw[gTy0 ht k0];exact Mk.int (by unfold OE;split <;> omega)
 rename_i k0;split
 .rename_i k1;rw[gTy1 ht k1];exact Mk.bool Q0
 rename_i k1;split
 .rename_i k2;obtain rfl:=gTy2 ht k2;dsimp only;obtain⟨hkl,Ts,h1,h2,h3⟩:=Eu hg h0 he (t:=bS) (d:=depth-1) (hk.part λm hm=>(wD hm k2).2) (.inl rfl) (if 0<=depth then(x.tmod 3).toNat else 0) s;refine(Mk.qT Ts (Nat.le_trans hkl (by have:=Int.tmod_lt_of_pos x (show(0:Int)<3 by omega);split <;> omega)) h1 h3).cast rfl ?_ ?_
  .rw[h2];rfl
  .rw[h2];rfl
 rename_i k2;obtain⟨d,hd,hdk,rfl⟩:=gTy3 ht k0 k1 k2;have e:an c.p (mm d.id).df=d:=hc.qt d hd;have hw:=mN hk.wf k0 k1 k2;rw[e]at hw ⊢;split
 .rename_i k3;dsimp only;have hs0:=hc.gen.oJ d hd k3;obtain⟨k,hk1,hk2⟩:∃k:Nat,fX d x depth=k/\k<d.ah.length:=by
   have e:x.tmod (d.ah.length:Int)=x % (d.ah.length:Int):=RB hx;have h1:=Tp x (show(d.ah.length:Int)≠0 by omega);have h2:=SM x (show(0:Int)<d.ah.length by omega);unfold fX;split
   .exact⟨0,rfl,hs0⟩
   .exact⟨(x % (d.ah.length:Int)).toNat,Q0,Q0⟩
  rw[hk1,Rx,show(d.ah.map aC.ty).getD k bS=d.ah[k].ty by grind];have hm:=QB hk2;exact Mk.oJ hd k3 hk2 (hg _ env (depth-1) s h0 he (hk.part λm hm'=>by have:=(mN hm' k0 k1 k2).2.2;rw[e]at this;exact this _ hm) (hc.gs d hd _ hm))
 .rename_i k3;dsimp only;obtain⟨Ts,hl,h1,h2,h3⟩:=x5 hg h0 he (d:=depth-1) (d.ah.map aC.ty) s λu hu=>by obtain⟨y,hy,rfl⟩:=QP.1 hu;exact⟨hk.part λm hm'=>by have:=(mN hm' k0 k1 k2).2.2;rw[e]at this;exact this _ hy,hc.gs d hd _ hy⟩
  rw[QS]at hl;refine(Mk.rM hd (hdk.resolve_right k3) Ts hl h1 λi h=>?_).cast rfl ?_ ?_
  .have:=h3 i h;simp_all
  .rw[h2];rfl
  .rw[h2];rfl
theorem yE(hg:GMk c R n (ay c n))(h0:0<env.length)(he:∀b∈env,eN c.p R b.ty/\nL c.p b.ty){u:Ty}{d k:Int}(hk:rW c.p R n u d)(hu:nL c.p u)(ho:opTy k u t):Mk c t env s.be (lE (ay c n) k u env d s).1 (lE (ay c n) k u env d s).2.be :=
 Mk.tj ho (hg u env d s h0 he hk hu) (hg u env d _ h0 he hk hu)
theorem opG_mk(hc:Qk c R)(hg:GMk c R n (ay c n))(h0:0<env.length)(he:∀b∈env,eN c.p R b.ty/\nL c.p b.ty)(hk:rW c.p R (n+1) t depth)(hd0:0<depth)(ht:nL c.p t)(hx:0<=x):Mk c t env s.be (nI c (ay c n) t env x depth s).1 (nI c (ay c n) t env x depth s).2.be:=by
 unfold nI;have hR2:=hc.gen.R2;have e6:x.tmod 6=x % 6:=RB hx;have e5:x.tmod 5=x % 5:=RB hx;have d2:x.tdiv 2=x / 2:=SL hx;have d6:x.tdiv 6=x / 6:=SL hx;have wt:eN c.p R t:=by
  rcases hk with h|h
  .omega
  .exact h.2.1
 have w0:eN c.p R bS:=b7 hR2 (Bm c.p 1);split
 .rename_i k0;obtain rfl:=gTy0 ht k0;split
  .exact Mk.len (hg _ env (depth-1) s h0 he (hk.any hd0 (nW hR2) Q0) (.inr (.inr (.inl rfl))))
  .exact yE hg h0 he (hk.any hd0 wt Q0) ht (.inl ⟨Q0,Q0,rfl,rfl⟩)
 rename_i k0;split
 .rename_i k1;obtain rfl:=gTy1 ht k1;split
  .exact Mk.not (hg _ env (depth-1) s h0 he (hk.any hd0 wt Q0) ht)
  .rename_i h6;have hu:eN c.p R (jU qs env x)/\nL c.p (jU qs env x):=by
    unfold jU;split
    .exact⟨wt,ht⟩
    split
    .have e:(x.tdiv 6).tmod (env.length:Int)=x.tdiv 6 % (env.length:Int):=RB Q0;have h1:=Tp (x.tdiv 6) (show(env.length:Int)≠0 by omega);have h2:=SM (x.tdiv 6) (show(0:Int)<env.length by omega);unfold jJ
     grind
    .exact⟨w0,.inl rfl⟩
   refine yE hg h0 he (hk.any hd0 hu.1 Q0) hu.2 ?_;unfold yG jU;split
   .exact .inr (.inr (.inr (.inl ⟨Q0,rfl,rfl⟩)))
   split
   .exact .inr (.inr (.inl ⟨rfl,rfl⟩))
   split
   .exact .inr (.inr (.inl ⟨rfl,rfl⟩))
   .exact .inr (.inl ⟨rfl,rfl,rfl⟩)
 rename_i k1;split
 .rename_i h2;obtain rfl:=gTy2 ht h2.1;exact yE hg h0 he (hk.any hd0 wt Q0) ht (.inr (.inr (.inr (.inr ⟨rfl,rfl,rfl⟩))))
 .exact I6 hc hg h0 he hk ht Q0
theorem vl(hg:GMk c R n (ay c n)){d:Int}{id:ar}(ht:rW c.p R n t d)(hgt:nL c.p t)(he:∀b∈env,eN c.p R b.ty/\nL c.p b.ty):∀(sl:List aC) (j:Nat) (s:bY),(∀x∈sl,eN c.p R x.ty/\nL c.p x.ty)->∃Ts:Nat->Int,∃hl:(bk (ay c n) t env d id sl j s).1.1.length=sl.length,(bk (ay c n) t env d id sl j s).1.2.length=sl.length/\Ts 0=s.be/\Ts sl.length=(bk (ay c n) t env d id sl j s).2.be /\
  ∀i (h:i<(bk (ay c n) t env d id sl j s).1.1.length),Mk c t (env++[⟨id,(j+i:Nat),(sl[i]'Q0).ty⟩]) (Ts i) (bk (ay c n) t env d id sl j s).1.1[i] (Ts (i+1))
 |[],j,s,_=>⟨λ_=>s.be,rfl,rfl,rfl,rfl,λi h=>J3 h (RP _)⟩
 |x::xs,j,s,hs=>by
  obtain⟨Ts,hl,hl2,h1,h2,h3⟩:=vl hg (id:=id) ht hgt he xs (j+1) (cI (ay c n t (env++[⟨id,j,x.ty⟩]) d s).2).2 λu hu=>hs u (Qx _ hu);have e:bk (ay c n) t env d id (x::xs) j s=(((ay c n t (env++[⟨id,j,x.ty⟩]) d s).1::(bk (ay c n) t env d id xs (j+1) (cI (ay c n t (env++[⟨id,j,x.ty⟩]) d s).2).2).1.1,(cI (ay c n t (env++[⟨id,j,x.ty⟩]) d s).2).1::(bk (ay c n) t env d id xs (j+1) (cI (ay c n t (env++[⟨id,j,x.ty⟩]) d s).2).2).1.2),(bk (ay c n) t env d id xs (j+1) (cI (ay c n t (env++[⟨id,j,x.ty⟩]) d s).2).2).2):=by rw[bk]
  refine⟨λi=>match i with|0=>s.be|i+1=>Ts i,by grind,by grind,rfl,h2,λi h=>?_⟩;cases i with
  |zero =>
   show Mk c t (env++[⟨id,j,x.ty⟩]) s.be _ (Ts 0);rw[h1];refine hg t _ d s Q2 (λb hb=>?_) ht hgt;rcases QK.1 hb with hb|hb
   .exact he b hb
   .rw[QI.1 hb];exact hs x (Qt ..)
  |succ i=>have:=h3 i (by grind);rw[show j+1+i=j+(i+1) by omega]at this;exact this
theorem ti:∀(m i:Nat) {k:Nat},gx c t i m=some k->i<=k/\k<i+m/\(bN c k).kind=2/\kr c k/\(bN c k).au=t
 |0,i,k,h=>by simp[gx]at h
 |m+1,i,k,h=>by
  rw[gx]at h;split at h
  .grind
  .have:=ti m (i+1) h
   grind
theorem lQ{xn:Nat}(hd:0<c.p.ae.length):∀(m i:Nat) {k j:Nat},fp c t xn i m=some (k,j)->k<c.p.ae.length/\(bN c k).kind=0/\kr c k/\∃h:j<(bN c k).ah.length,(bN c k).ah[j].ty=t
 |0,i,k,j,h=>by simp[fp]at h
 |m+1,i,k,j,h=>by
  rw[fp]at h;by_cases hc:(bN c ((xn+i) % c.p.ae.length)).kind=0/\kr c ((xn+i) % c.p.ae.length)
  .rw[J2 hc]at h;cases hs:mU (bN c ((xn+i) % c.p.ae.length)).ah t with
   |none=>rw[hs]at h;exact lQ hd m (i+1) h
   |some q=>rw[hs]at h;simp only[Qq,QR]at h;obtain⟨rfl,rfl⟩:=h;unfold mU at hs;obtain⟨h1,h2,_⟩:=TU.1 hs;exact⟨U2 _ hd,hc.1,hc.2,h1,by grind⟩
  .rw[J1 hc]at h;exact lQ hd m (i+1) h
theorem xL{kind:Int}{frm:Nat}(hd:0<c.p.ae.length):∀m i,¬gL c kind frm i m<0->∃k:Nat,gL c kind frm i m=k/\k<c.p.ae.length/\(bN c k).kind=kind/\kr c k
 |0,i,h=>J3 (show gL c kind frm i 0<0 by rw[gL];omega) h
 |m+1,i,h=>by
  rw[gL]at h ⊢;split
  .rename_i h1;exact⟨_,rfl,U2 _ hd,h1⟩
  .rename_i h1;rw[J1 h1]at h;exact xL hd m (i+1) h
theorem rest_mk(hc:Qk c R)(hg:GMk c R n (ay c n))(h0:0<env.length)(he:∀b∈env,eN c.p R b.ty/\nL c.p b.ty)(hk:rW c.p R (n+1) t depth)(hd0:0<depth)(ht:nL c.p t){k:Int}(hx:0<=x):Mk c t env s.be (oo c (ay c n) t env k x depth s).1 (oo c (ay c n) t env k x depth s).2.be:=by
 have hR2:=hc.gen.R2;have wt:eN c.p R t:=by
  rcases hk with h|h
  .omega
  .exact h.2.1
 have wb:eN c.p R qs:=by refine b7 hR2 ?_;rw[eN];exact .inr (.inl rfl)
 have w0:eN c.p R bS:=b7 hR2 (Bm c.p 1);have any:∀{u:Ty} {j:Int},eN c.p R u->1<=j->rW c.p R n u (depth-j):=λhu hj=>hk.any hd0 hu hj;have op:=opG_mk (s:=s) hc hg h0 he hk hd0 ht hx;unfold oo;split
 .exact Mk.Jh (hg qs env (depth-1) s h0 he (any wb Q0) (.inr (.inl rfl))) (hg t env (depth-1) _ h0 he (any wt Q0) ht) (hg t env (depth-1) _ h0 he (any wt Q0) ht)
 split
 .have e:x.tmod (env.length:Int)=x % (env.length:Int):=RB Q0;have h1:=Tp x (show(env.length:Int)≠0 by omega);have h2:=SM x (show(0:Int)<env.length by omega);have hu:eN c.p R (jJ env x).ty/\nL c.p (jJ env x).ty:=by
   unfold jJ
   grind
  have hb:=hg t (env++[⟨(bb 6 0 [] (ay c n (jJ env x).ty env (depth-1) s).2).1.id,0,(jJ env x).ty⟩]) (depth-1) (cI (bb 6 0 [] (ay c n (jJ env x).ty env (depth-1) s).2).2).2 JO;refine Mk.sC (u:=(jJ env x).ty) (hg _ env (depth-1) s h0 he (any hu.1 Q0) hu.2) (hb (λb hb=>?_) (any wt Q0) ht)
  grind
 split
 .unfold jS;split
  .exact op
  .rename_i hm;obtain⟨q,hq,hlt,hkind,hvis⟩:=xL (kind:=1) (frm:=x.toNat) hc.d0 c.p.ae.length 0 hm;rw[show My c 1 x.toNat=q from hq,Rx];have hmem:bN c q∈c.p.ae:=by rw[jr hlt];exact QB hlt
   dsimp only;generalize bN c q=d at hkind hmem ⊢;have ha:=hg (mm d.id) env (depth-2) s h0 he (any (hc.gen.own d hmem (.inr hkind)) Q0) (.inr (.inr (.inr ⟨d,hmem,.inr hkind,rfl⟩)));obtain⟨Ts,hl,hl2,h1,h2,h3⟩:=vl hg (id:=(bb 10 0 [] (ay c n (mm d.id) env (depth-2) s).2).1.id) (any wt (show(1:Int)<=1 by omega)) ht he d.ah 0 (bb 10 0 [] (ay c n (mm d.id) env (depth-2) s).2).2 λu hu=>⟨hc.gen.Dk d hmem u hu,hc.gs d hmem u hu⟩;refine(Mk.I0 hmem hkind Ts hl hl2 ha h1 λi h=>?_).cast rfl rfl (by simp_all);have:=h3 i h;rw[Rn]at this;exact this
 split
 .unfold jT;split
  .rename_i q j hf;obtain⟨hlt,hkind,hvis,hj,hty⟩:=lQ hc.d0 _ _ hf;have hmem:bN c q∈c.p.ae:=by rw[jr hlt];exact QB hlt
   dsimp only;rw[<-hty];exact Mk.field hmem hkind hj (hg _ env (depth-1) s h0 he (any (hc.gen.own _ hmem (.inl hkind)) Q0) (.inr (.inr (.inr ⟨_,hmem,.inl hkind,rfl⟩))))
  .exact op
 split
 .unfold nM;split
  .rename_i q hf;obtain⟨_,hlt,hkind,hvis,hty⟩:=ti _ _ hf;rw[Rn]at hlt;have ed:=jr hlt;have hmem:c.p.ae[q]∈c.p.ae:=QB hlt;dsimp only;rw[ed]at hkind hty ⊢;obtain⟨Ts,hl,h1,h2,h3⟩:=x5 hg h0 he (d:=depth-1) (c.p.ae[q].ah.map aC.ty) s λu hu=>by obtain⟨y,hy,rfl⟩:=QP.1 hu;exact⟨any (hc.gen.Dk _ hmem _ hy) Q0,hc.gs _ hmem _ hy⟩
   rw[QS]at hl;refine(Mk.call hlt hkind hvis Ts hl h1 λi h=>?_).cast hty ?_ ?_
   .have:=h3 i h;simp_all
   .rw[h2];rfl
   .rw[h2];rfl
  .exact op
 split
 .have hb:=hg t (env++[⟨(bb 12 0 [] (ay c n t env (depth-1) (ay c n (b8 bS) env (depth-1) s).2).2).1.id,0,bS⟩]++[⟨(bb 12 0 [] (ay c n t env (depth-1) (ay c n (b8 bS) env (depth-1) s).2).2).1.id,1,t⟩]) (depth-1) (cI (cI (bb 12 0 [] (ay c n t env (depth-1) (ay c n (b8 bS) env (depth-1) s).2).2).2).2).2 JO;refine Mk.sR (hg _ env (depth-1) s h0 he (any (nW hR2) Q0) (.inr (.inr (.inl rfl)))) (hg t env (depth-1) _ h0 he (any wt Q0) ht) (hb (λb hb=>?_) (any wt Q0) ht);rcases QK.1 hb with hb|hb
  .rcases QK.1 hb with hb|hb
   .exact he b hb
   .rw[QI.1 hb];exact⟨w0,.inl rfl⟩
  all_goals grind
 .exact op
theorem sU(hc:Qk c R):∀n,GMk c R n (ay c n)
 |0=>λt env depth s h0 he hk ht=>J3 hk.pos (YO _)
 |n+1=>λt env depth s h0 he hk ht=>by
  have hg:=sU hc n;rw[yr];have hx:0<=(fQ c 65536 s).1/\(fQ c 65536 s).1<65536:=eD c.l s.pos 65536 Q0;have hd:=Px (s1:=(fQ c 65536 s).2) hk;show Mk c t env (fQ c 65536 s).2.be _ _;generalize fQ c 65536 s=y at hx hd ⊢;obtain⟨x,s1⟩:=y;dsimp only at hx hd ⊢;have d3:x.tdiv 3=x / 3:=SL hx.1;have d36:x.tdiv 36=x / 36:=SL hx.1;split
  .rename_i hv;have e:(x.tdiv 3).tmod ((eX env t).length:Int)=x.tdiv 3 % ((eX env t).length:Int):=RB Q0;have h1:=Tp (x.tdiv 3) (show((eX env t).length:Int)≠0 by omega);have h2:=SM (x.tdiv 3) (show(0:Int)<(eX env t).length by omega);have hlt:(x.tdiv 3 % ((eX env t).length:Int)).toNat<(eX env t).length:=Q0;rw[e,RX,QQ hlt];have hm:=QB hlt;have hty:(eX env t)[(x.tdiv 3 % ((eX env t).length:Int)).toNat].ty=t:=by have:=(Rq.1 hm).2;simpa using this
   exact(Mk.var (fit_mem hm)).cast hty rfl rfl
  split
  .exact I6 hc hg h0 he hd ht Q0
  .rename_i hd0;exact rest_mk hc hg h0 he hd Q0 ht Q0
end
theorem cn{m m':Int}(h:m<=m'):∀{e:Ex},Av m e->Av m' e
 |.mk i k n r t l s,hb=>by rw[Av]at hb ⊢;refine⟨Q0,λhk=>by omega,?_⟩;exact go l hb.2.2
 where go:∀l:List Ex,sH m l->sH m' l
 |[],_=>by rw[sH];trivial
 |e::es,hb=>by rw[sH]at hb ⊢;exact⟨cn h hb.1,go es hb.2⟩
theorem Jf{m:Int}:∀{l:List Ex},(∀e∈l,Av m e)->sH m l
 |[],_=>by rw[sH];trivial
 |e::es,h=>by rw[sH];exact⟨h e (Qt ..),Jf λx hx=>h x (Qx _ hx)⟩
theorem dQ{Ts:Nat->Int}:∀(n:Nat),(∀i,i<n->Ts i<Ts (i+1))->∀i,i<=n->Ts 0<=Ts i/\Ts i<=Ts n
 |0,_,i,hi=>by
  grind
 |n+1,h,i,hi=>by
  have h1:=h n Q0;by_cases e:i=n+1
  .subst e;have:=dQ n (λj hj=>h j Q0) n Q0;omega
  .have:=dQ n (λj hj=>h j Q0) i Q0;exact⟨this.1,Q0⟩
section
variable {c:fB} {t:Ty} {env:List cd} {T T':Int} {e:Ex}
theorem Mk.lt(h:Mk c t env T e T'):T<T':=by
 induction h with
 |int _=>omega
 |bool _=>omega
 |var _=>omega
 |qT Ts _ h0 _ ih=>have:=(dQ (Ts:=Ts) _ (λi hi=>ih i hi) _ (QW _)).1;omega
 |oJ _ _ _ _ ih=>omega
 |rM _ _ Ts _ h0 _ ih=>have:=(dQ (Ts:=Ts) _ (λi hi=>ih i hi) _ (QW _)).1;omega
 |len _ ih=>omega
 |not _ ih=>omega
 |tj _ _ _ ih1 ih2=>omega
 |Jh _ _ _ ih1 ih2 ih3=>omega
 |sC _ _ ih1 ih2=>omega
 |sR _ _ _ ih1 ih2 ih3=>omega
 |I0 _ _ Ts _ _ _ h0 _ ih1 ih=>have:=(dQ (Ts:=Ts) _ (λi hi=>ih i hi) _ (QW _)).1;omega
 |field _ _ _ _ ih=>omega
 |call _ _ _ Ts _ h0 _ ih=>have:=(dQ (Ts:=Ts) _ (λi hi=>ih i hi) _ (QW _)).1;omega
def Low(env:List cd)(T:Int):Prop:=∀b∈env,b.id.seq=0->0<=b.id.index/\b.id.index<T
theorem Low.mono{T1:Int}(h:Low env T)(hT:T<=T1):Low env T1:=λb hb hs=>by have:=h b hb hs;omega
theorem Low.add{T1:Int}(h:Low env T)(hT:T<=T1)(h0:0<=T1){k:Int}{u:Ty}{S:Int}(hS:T1+1<=S):Low (env++[⟨⟨0,0,T1⟩,k,u⟩]) S:=λb hb hs=>by
 rcases QK.1 hb with hb|hb
 .have:=h b hb hs;omega
 all_goals grind
theorem dx{m k n:Int}{l:List Ex}{T:Int}{r:ar}{u:Ty}{ns:List ByteArray}(hT:0<=T/\T<m)(hr:k=2->r.seq=0->0<=r.index/\r.index<m)(hl:∀e∈l,Av m e):Av m (.mk ⟨0,0,T⟩ k n r u l ns):=by rw[Av];exact⟨hT,λh=>hr h.1 h.2,Jf hl⟩
theorem Mk.Av(h:Mk c t env T e T'):0<=T->Low env T->Av T' e:=by
 induction h with
 |int _=>exact λh0 _=>dx (k:=0) (l:=[]) ⟨h0,Q0⟩ (λh=>J3 h Q1) (λ_ h=>by cases h)
 |bool _=>exact λh0 _=>dx (k:=1) (l:=[]) ⟨h0,Q0⟩ (λh=>J3 h Q1) (λ_ h=>by cases h)
 |var hb=>exact λh0 hl=>dx (k:=2) (l:=[]) ⟨h0,Q0⟩ (λ_ hs=>by have:=hl _ hb hs;omega) (λ_ h=>by cases h)
 |@qT env T kids Ts _ h0 hm ih=>intro h1 hl;have st:=dQ (Ts:=Ts) _ (λi hi=>(hm i hi).lt);have:=(st _ (QW _)).1;refine dx (k:=11) (l:=kids) ⟨Q0,Q0⟩ (λh=>J3 h Q1) λx hx=>?_;obtain⟨i,hi,rfl⟩:=QO.1 hx;have h2:=st i Q0;have h3:=st (i+1) Q0;exact cn Q0 (ih i hi Q0 (hl.mono Q0))
 |@oJ env T T1 d k e _ _ _ hm ih=>intro h1 hl;have:=hm.lt;refine dx (k:=9) (l:=[e]) ⟨Q0,Q0⟩ (λh=>J3 h Q1) λx hx=>?_;rw[QI.1 hx];exact cn Q0 (ih h1 hl)
 |@rM env T d kids _ _ Ts _ h0 hm ih=>intro h1 hl;have st:=dQ (Ts:=Ts) _ (λi hi=>(hm i hi).lt);have:=(st _ (QW _)).1;refine dx (k:=7) (l:=kids) ⟨Q0,Q0⟩ (λh=>J3 h Q1) λx hx=>?_;obtain⟨i,hi,rfl⟩:=QO.1 hx;have h2:=st i Q0;have h3:=st (i+1) Q0;exact cn Q0 (ih i hi Q0 (hl.mono Q0))
 |@len env T T1 a hm ih=>intro h1 hl;have:=hm.lt;refine dx (k:=4) (l:=[a]) ⟨Q0,Q0⟩ (λh=>J3 h Q1) λx hx=>?_;rw[QI.1 hx];exact cn Q0 (ih h1 hl)
 |@not env T T1 a hm ih=>intro h1 hl;have:=hm.lt;refine dx (k:=4) (l:=[a]) ⟨Q0,Q0⟩ (λh=>J3 h Q1) λx hx=>?_;rw[QI.1 hx];exact cn Q0 (ih h1 hl)
 |@tj t u env T T1 T2 n a b _ ha hb ih1 ih2 =>
  intro h1 hl;have:=ha.lt;have:=hb.lt;refine dx (k:=4) (l:=[a,b]) ⟨Q0,Q0⟩ (λh=>J3 h Q1) λx hx=>?_;simp only[Qz,Rp,or_false]at hx;rcases hx with rfl|rfl
  .exact cn Q0 (ih1 h1 hl)
  .exact cn Q0 (ih2 Q0 (hl.mono Q0))
 |@Jh t env T T1 T2 T3 a b e ha hb he ih1 ih2 ih3 =>
  intro h1 hl;have:=ha.lt;have:=hb.lt;have:=he.lt;refine dx (k:=5) (l:=[a,b,e]) ⟨Q0,Q0⟩ (λh=>J3 h Q1) λx hx=>?_;simp only[Qz,Rp,or_false]at hx;rcases hx with rfl|rfl|rfl
  .exact cn Q0 (ih1 h1 hl)
  .exact cn Q0 (ih2 Q0 (hl.mono Q0))
  .exact cn Q0 (ih3 Q0 (hl.mono Q0))
 |@sC t u env T T1 T2 a b m ha hb ih1 ih2 =>
  intro h1 hl;have:=ha.lt;have:=hb.lt;refine dx (k:=6) (l:=[a,b]) ⟨Q0,Q0⟩ (λh=>J3 h Q1) λx hx=>?_;simp only[Qz,Rp,or_false]at hx;rcases hx with rfl|rfl
  .exact cn Q0 (ih1 h1 hl)
  .exact cn Q0 (ih2 Q0 (hl.add Q0 Q0 Q0))
 |@sR t env T T1 T2 T3 a b e m m2 ha hb he ih1 ih2 ih3 =>
  intro h1 hl;have:=ha.lt;have:=hb.lt;have:=he.lt;refine dx (k:=12) (l:=[a,b,e]) ⟨Q0,Q0⟩ (λh=>J3 h Q1) λx hx=>?_;simp only[Qz,Rp,or_false]at hx;rcases hx with rfl|rfl|rfl
  .exact cn Q0 (ih1 h1 hl)
  .exact cn Q0 (ih2 Q0 (hl.mono Q0))
  .refine cn Q0 (ih3 Q0 ?_);refine λb hb hs=>?_;rcases QK.1 hb with hb|hb
   .exact(hl.add Q0 Q0 (RC _)) b hb hs
   .rw[QI.1 hb];exact⟨show 0<=T2 by omega,show T2<T2+1 by omega⟩
 |@I0 t env T T1 d a kids ms _ _ Ts _ _ ha h0 hm ih1 ih =>
  intro h1 hl;have:=ha.lt;have st:=dQ (Ts:=Ts) _ (λi hi=>(hm i hi).lt);have:=(st _ (QW _)).1;refine dx (k:=10) (l:=a::kids) ⟨Q0,Q0⟩ (λh=>J3 h Q1) λx hx=>?_;rcases Qz.1 hx with rfl|hx
  .exact cn Q0 (ih1 h1 hl)
  .obtain⟨i,hi,rfl⟩:=QO.1 hx;have h2:=st i Q0;have h3:=st (i+1) Q0;exact cn Q0 (ih i hi Q0 (hl.add Q0 Q0 Q0))
 |@field env T T1 d j a _ _ _ hm ih=>intro h1 hl;have:=hm.lt;refine dx (k:=8) (l:=[a]) ⟨Q0,Q0⟩ (λh=>J3 h Q1) λx hx=>?_;rw[QI.1 hx];exact cn Q0 (ih h1 hl)
 |@call env T k kids _ _ _ Ts _ h0 hm ih=>intro h1 hl;have st:=dQ (Ts:=Ts) _ (λi hi=>(hm i hi).lt);have:=(st _ (QW _)).1;refine dx (k:=3) (l:=kids) ⟨Q0,Q0⟩ (λh=>J3 h Q1) λx hx=>?_;obtain⟨i,hi,rfl⟩:=QO.1 hx;have h2:=st i Q0;have h3:=st (i+1) Q0;exact cn Q0 (ih i hi Q0 (hl.mono Q0))
end
theorem EB{m:Int}:∀{e:Ex},Av m e->∀x∈e.post,0<=x/\x<m
 |.mk i k n r t l s,h,x,hx=>by
  rw[Av]at h;rw[Ex.post]at hx;rcases QK.1 hx with hx|hx
  .exact go l h.2.2 x hx
  all_goals grind
 where go:∀l:List Ex,sH m l->∀x∈Ex.cP l,0<=x/\x<m
 |[],_,x,hx=>by rw[Ex.cP]at hx;cases hx
 |e::es,h,x,hx=>by
  rw[sH]at h;rw[Ex.cP]at hx;rcases QK.1 hx with hx|hx
  .exact EB h.1 x hx
  .exact go es h.2 x hx
def bQ(d:aq):List cd:=d.ah.map λx=>⟨x.id,0,x.ty⟩
def fB.with(c:fB)(d:aq)(e:Ex):fB:=⟨⟨c.p.al,c.p.ae.set c.own.toNat (d.bE e)⟩,c.l,c.own,c.j3⟩
def fL(c:fB)(d:aq)(s:bY):Ex×bY :=
 if 30<(ay c 9 d.au (bQ d) 4 s).1.size then ay (c.with d (ay c 9 d.au (bQ d) 4 s).1) 9 d.au (bQ d) 0 ⟨(ay c 9 d.au (bQ d) 4 s).2.pos,(ay c 9 d.au (bQ d) 4 s).2.be,0,(ay c 9 d.au (bQ d) 4 s).2.name⟩ else ay c 9 d.au (bQ d) 4 s
def bare(d:aq):Prop:=d.kind=0\/d.kind=1
instance (d:aq):Decidable (bare d):=by unfold bare;exact inferInstance
def bn(ms:List aI)(l:List Int):Nat->Nat->List aq->bY->List aq×bY
 |0,_,ds,s=>(ds,s)
 |m+1,i,ds,s=>if bare (ds.getD i lj) then bn ms l m (i+1) ds s
  else bn ms l m (i+1) (ds.set i ((ds.getD i lj).bE (fL ⟨⟨ms,ds⟩,l,i,(ds.getD i lj).mod⟩ (ds.getD i lj) ⟨s.pos,s.be,14,0⟩).1)) (fL ⟨⟨ms,ds⟩,l,i,(ds.getD i lj).mod⟩ (ds.getD i lj) ⟨s.pos,s.be,14,0⟩).2
def bB:List ar->List Int->Int->List ar
 |ids,[],_=>ids
 |ids,k::ks,nx=>bB (ids.set k.toNat (fw nx)) ks (nx+1)
theorem ja:∀(ids:List ar) (ks:List Int) (nx:Int),(bB ids ks nx).length=ids.length
 |ids,[],_=>rfl
 |ids,k::ks,nx=>by rw[bB,ja,List.length_set]
theorem qe:∀(ids:List ar) (a b:List Int) (nx:Int),bB ids (a++b) nx=bB (bB ids a nx) b (nx+a.length)
 |ids,[],b,nx=>by simp[bB]
 |ids,k::a,b,nx=>by rw[Rm,bB,bB,qe,QG,show nx+1+(a.length:Int)=nx+((a.length+1:Nat):Int) by omega]
def dj:Nat->Nat->List aq->List ar->Int->List aq
 |0,_,ds,_,_=>ds
 |m+1,i,ds,ids,nx=>if bare (ds.getD i lj) then dj m (i+1) ds ids nx
  else dj m (i+1) (ds.set i ((ds.getD i lj).bE (bZ (bB ids (ds.getD i lj).body.post nx) (ds.getD i lj).body))) (bB ids (ds.getD i lj).body.post nx) (nx+(ds.getD i lj).body.post.length)
def eH(l:List Int):List aq×bY:=bn (bO l) l (aV l).length 0 (aV l) ⟨24,0,0,0⟩
def aL(l:List Int):av:=⟨bO l,dj (aV l).length 0 (eH l).1 (QY (eH l).2.be.toNat ki) (gY l)⟩
structure iU(p:av):Prop where
 inj:∀i j (hi:i<p.ae.length) (hj:j<p.ae.length),p.ae[i].id=p.ae[j].id->i=j
 gs:∀d∈p.ae,∀s∈d.ah,nL p s.ty
 gr:∀d∈p.ae,nL p d.au
 kd:∀d∈p.ae,0<=d.kind/\d.kind<=5
theorem iU.qt{p:av}(h:iU p){d:aq}(hd:d∈p.ae):an p d.id=d:=by obtain⟨k,hk,rfl⟩:=QO.1 hd;exact(iX hk (λj hj hlt e=>by have:=h.inj j k hj hk e;omega) rfl).2
theorem sP{ms ns:List aI}{a b:List aq}(h:cN a b){t:Ty}(ht:nL ⟨ns,b⟩ t):nL ⟨ms,a⟩ t:=by
 rcases ht with ht|ht|ht|⟨d,hd,hk,ht⟩
 .exact .inl ht
 .exact .inr (.inl ht)
 .exact .inr (.inr (.inl ht))
 .have h':cN b a:=h.symm;obtain⟨e,he,hs⟩:=h'.mem hd;have:=bV hs;exact .inr (.inr (.inr ⟨e,he,Q0,by grind⟩))
theorem iU.mv{ms ns:List aI}{a b:List aq}(hb:iU ⟨ns,b⟩)(h:cN a b):iU ⟨ms,a⟩:=by
 have get:∀d∈a,∃e∈b,d.id=e.id/\d.kind=e.kind/\d.ah=e.ah/\d.au=e.au:=λd hd=>by
  obtain⟨e,he,hs⟩:=h.mem hd;have:=bV hs
  grind
 have hl:=h.len;refine⟨λi j hi hj e=>?_,λd hd s hs=>?_,λd hd=>?_,λd hd=>?_⟩
 .have hi':i<b.length:=by grind
  have hj':j<b.length:=by grind
  have e1:=(bV (h.get hi hi')).1;have e2:=(bV (h.get hj hj')).1;exact hb.inj i j hi' hj' (by grind)
 all_goals obtain⟨e,he,h1,h2,h3,h4⟩:=get d hd
 .rw[h3]at hs;exact sP h (hb.gs e he s hs)
 .rw[h4];exact sP h (hb.gr e he)
 .rw[h2];exact hb.kd e he
theorem j8.gctx{c:fB}{R:Nat}(hb:j8 c.p R)(hn:iU c.p):Qk c R :=
 ⟨hb.gen,hb.d0,λ_ hd=>hn.qt hd,hn.gs,hn.gr⟩
theorem ue(l:List Int):iU ⟨bO l,aV l⟩:=by
 have hn:1<=ax l:=by rcases dq l with h|h <;> omega
 unfold aV;generalize hps:cA l=ps;have hok:∀p∈ps,jj l (ax l) p:=by rw[<-hps];exact jA hn
 have hlen:=eB l (ax l);unfold cA at hps;rw[hps]at hlen;generalize ax l+(ps.length:Int)=next
 generalize bO l=ms;have hdl:=cE ps (ax l) next
 have own:∀{k:Int} {j:Nat},k=ax l+j->∀hj:j<ps.length,(ps[j].kind=0\/ps[j].kind=1)->nL ⟨ms,br ps (ax l) next⟩ (cp k):=fun{k j} hkj hj hk=>by
  refine .inr (.inr (.inr ⟨(br ps (ax l) next)[j]'Q0,QB _,?_,?_⟩))
  .rw[dK ps _ _ hj];exact hk
  .rw[dK ps _ _ hj,hkj];rfl
 have g0:nL ⟨ms,br ps (ax l) next⟩ (cp (ax l)):=own (j:=0) Q0 Q0 (by subst hps;exact .inl rfl);have g1:nL ⟨ms,br ps (ax l) next⟩ (cp (ax l+1)):=own (j:=1) Q0 Q0 (by subst hps;exact .inr rfl);have g23:cj l=true->nL ⟨ms,br ps (ax l) next⟩ (cp (ax l+2))/\nL ⟨ms,br ps (ax l) next⟩ (cp (ax l+3)):=λhf=>by
  have h2:2<ps.length:=Q0;have h3:3<ps.length:=Q0;have ep2:ps[2]=fG l (ax l):=by
   have:ps[2]?=some (fG l (ax l)):=by rw[<-hps];unfold bw fq eQ;rw[J2 hf];rfl
   grind
  have ep3:ps[3]=lh (ax l):=by
   have:ps[3]?=some (lh (ax l)):=by rw[<-hps];unfold bw fq eQ;rw[J2 hf];rfl
   grind
  exact⟨own (j:=2) Q0 h2 (by rw[ep2];exact .inl rfl),own (j:=3) Q0 h3 (by rw[ep3];exact .inl rfl)⟩
 have all:∀t,mL l (ax l) t->nL ⟨ms,br ps (ax l) next⟩ t:=λt h=>by
  rcases h with h|h|h|h|h|⟨hf,h|h⟩
  .exact .inl h
  .exact .inr (.inl h)
  .exact .inr (.inr (.inl h))
  all_goals grind
 have get:∀d∈br ps (ax l) next,∃j,∃hj:j<ps.length,d=jP ps[j] (ax l+j) (next+dJ (ps.take j)):=λd hd=>by obtain⟨j,hj,rfl⟩:=QO.1 hd;exact⟨j,Q0,dK ps _ _ _ _⟩
 refine⟨λi j hi hj e=>?_,λd hd s hs=>?_,λd hd=>?_,λd hd=>?_⟩
 .have hi':i<ps.length:=by grind
  have hj':j<ps.length:=by grind
  have e':fw (ax l+i)=fw (ax l+j):=by
   have h1:=dK ps (ax l) next hi' hi
   have h2:=dK ps (ax l) next hj' hj
   dsimp only at e;rw[h1,h2]at e;exact e
  rcases Nat.lt_trichotomy i j with h|h|h
  .exact J3 e' (qV Q0 Q0 Q0)
  .exact h
  .exact J3 e' (qV Q0 Q0 Q0)
 all_goals obtain⟨j,hj,rfl⟩:=get d hd
 all_goals have ok:=hok _ (QB hj)
 .exact all _ (ok.tys _ (eR hs)).up
 .exact all _ ok.res
 .exact ok.kind
theorem qx(l:List Int):∀d∈aV l,∀s∈d.ah,s.id.seq≠0:=by
 intro d hd s hs;have hn:1<=ax l:=by rcases dq l with h|h <;> omega
 obtain⟨j,hj,rfl⟩:=QO.1 hd;unfold aV at hs hj;rw[dK _ _ _ (by rw[cE]at hj;exact hj)]at hs;unfold jP cH at hs;dsimp only at hs;obtain⟨k,hk,rfl⟩:=QP.1 hs;unfold fw
 grind
theorem FX{a b:List aq}(h:cN a b)(hb:∀d∈b,∀s∈d.ah,s.id.seq≠0):∀d∈a,∀s∈d.ah,s.id.seq≠0:=λd hd s hs=>by obtain⟨e,he,hse⟩:=h.mem hd;rw[(bV hse).2.2.2.2.1]at hs;exact hb e he s hs
end Xe
