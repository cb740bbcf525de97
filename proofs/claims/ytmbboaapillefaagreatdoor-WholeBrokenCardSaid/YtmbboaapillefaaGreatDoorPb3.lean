/- PmS, PmT, PmU, PmV, PmW, PmX, PmY, PmZ, PmZh, Zrb, Zrp, Ev11, Ev12, Ev13, Ev15, Ev16, Ev17, Gn0, Wgn1, Wgn2, Wgn3, Wgn4, Wgn5, Wgn6, Wgn7, Wgn8, Wgn9, Ev18, Ev19, Ev20, Ev21, Ev22, Ev23, Ev24, put together. -/
import Derived.Test.YtmbboaapillefaaGreatDoorPb2
import Derived.Deep.LoopGhost
import Derived.Test.YtmbboaapillefaaGreatDoorProg
import Derived.KernelRfl
open Array renaming foldl_toList->YA,getD_eq_getD_getElem?->TA,all_eq_true_iff_forall_mem->Xd
open Bool renaming or_eq_false_iff->W9,and_eq_true->RP,or_eq_true->XE,not_eq_true'->UH,or_false->Zy,not_eq_true->Y9
open ByteArray renaming mk->Se,size->YB,empty->Ys
open Go renaming Program->RV,Operand->R4,World->R0,Value->RK,ResultVar->XZ,loadVar->Ya,execOp->Sk,IntKind->Tl,run_eqGuard_agg->W7,run_underlying->R7
open Go.Exit renaming inBlock->ZM
open Go.Instr renaming checkKey->U2
open Go.Next renaming value->Z3
open Go.Oper renaming wp_mono->Xz
open Go.Proofs.Tryz renaming prog->RH,underlying42->Xs,underlying3->Ta
open Go.Region renaming binds->Ud,before->UO,ready->Up
open Go.Result renaming ok->YN,andThen->UY
open Go.Sem renaming run_bind->TP
open Int renaming toNat->RF,toNat_natCast->SF,tmod->SC,tdiv->SN,mul_nonneg->Ue,natCast_add->XM,add_mul->YC,pow_pos->Z4,tmod_eq_emod_of_nonneg->SL,tdiv_eq_ediv_of_nonneg->T4,add_sub_cancel->Y0,emod_nonneg->Uw,emod_lt_of_pos->T5,le_refl->SM
open List renaming range'->ZX,range'_succ->Y7,mem_cons_of_mem->RM,mem_cons_self->RG,getElem?_cons_zero->SE,all_eq_true->Ve,mem_filter->Sp,mem_range->U9,map_cons->Sb,mem_cons->RO,mem_map->R3,mem_map_of_mem->Ss,map_append->Si,length->ZZ,length_cons->RU,range->W6,append_nil->RW,getElem?_eq_getElem->R5,drop_eq_getElem_cons->Ui,take_zero->TB,mem_singleton->RZ,nodup_nil->Wc,any_cons->Yi,any_nil->ZN,replicate->Sj,flatten->T6,nil_append->Sv,drop_length->Y8,getD_eq_getElem?_getD->S9,getElem_mem->RQ,length_map->Sa,cons_append->SA,append_assoc->R9,take_succ_eq_append_getElem->RJ,length_append->RS,mem_append->RY,drop_zero->Te,getElem_map->S0,findIdx?_eq_some_iff_getElem->U3,mem_iff_getElem->R8,flatMap_cons->RT,flatMap_nil->Sw,take_length->Sl,flatMap_append->Sd,not_mem_nil->Sx,length_take->Sn,ext_getElem->Vh,find?_cons->VI,getElem?_cons_succ->Tk,getElem_of_eq->VN
open List.Pairwise renaming nil->TZ,cons->ZY
open List.Sublist renaming append->Xl
open List.cons renaming injEq->Tn
open Nat renaming add_assoc->S8,add_comm->Un,beq->RN,eq_of_beq_eq_true->RD,testBit_or->Zx,lt_or_ge->Xc,zero_add->Sz,lt_succ_self->XB,ble->TX,zero_le->Sy,not_lt_zero->S6,mod_lt->Xf,sub_self->W5,lt_irrefl->ZO,le_refl->Sc
open Option renaming getD_some->UJ,map_some->UT
open Option.some renaming injEq->RE,inj->TW
open Prod renaming fst->Sf,snd->Sg
open Prod.mk renaming injEq->R6
namespace Pm
open Go Xe
def iz(o:Oper)(fr:Fr)(x:Out):Fr:=(fr.bp o.dst x.v).aI x.ob
def qh(o:Oper)(x:Out):Fp:=⟨o.dst,x.fs,x.fo,x.ob.map Sf,uu o x.ob⟩
def qz(J:Cx)(P:RV)(tb:Tb)(n aV:Nat)(ops:Array Oper)(gs:List Nat):List (Nat×Oper×Out)->Fr->Fr->Prop
 |[],fr,fr'=>fr=fr'
 |(i,o,x)::l,fr,fr'=>(ops[i]?=some o/\R1 J fr (nO P tb aV ops gs o) [] [] x/\CO n o.dst x.v=true)/\qz J P tb n aV ops gs l (iz o fr x) fr'
theorem Au(fr:Fr)(d:Option Nat)(v:Option S):(fr.bp d v).aV=fr.aV:=by unfold Fr.bp;split <;> rfl
theorem qH(o:Oper)(fr:Fr)(x:Out):(iz o fr x).aV=fr.aV:=by unfold iz;rw[km,Au]
section
variable {J:Cx} {P:RV} {tb:Tb} {n aV:Nat} {ops:Array Oper} {gs:List Nat}
theorem xz:∀(l:List Oper) (i:Nat) (fr:Fr) (fps:List (Nat×Fp)) {K:Fr->List (Nat×Fp)->Prop},fr.aV=aV->(∀j,l[j]?=ops[i+j]?)->xA J P tb n ops gs l i fr fps K ->
  ∃(c:List (Nat×Oper×Out)) (fr':Fr),qz J P tb n aV ops gs c fr fr'/\K fr' ((c.map λy=>(y.1,qh y.2.1 y.2.2)).reverse++fps)/\c.map Sf=ZX i l.length
 |[],i,fr,fps,K,_,_,h=>⟨[],fr,rfl,h,rfl⟩
 |o::os,i,fr,fps,K,hb,hl,h=>by
  unfold xA at h;obtain⟨x,h1,h2⟩:=gO _ h;split at h2
  .rename_i hf;rw[pU,lg]at h2;obtain⟨c,fr',h3,h4,h5⟩:=xz os (i+1) _ _ (by rw[km,Au];exact hb) (λj=>by have:=hl (j+1);simpa[S8,Un 1 j]using this) h2;refine⟨(i,o,x)::c,fr',⟨⟨by simpa using(hl 0).symm,by grind,hf⟩,h3⟩,?_,by simp[h5,Y7]⟩;simpa[qh]using h4
  .exact h2.elim
theorem jO{fr:Fr}:∀{p:bn} {fs fo:List Nat} {x:Out},R1 J fr p fs fo x->(∀t∈fs,t∈x.fs)/\∀b∈fo,b∈x.fo
 |.no,_,_,_,h=>h.elim
 |.ret v ob,fs,fo,x,h=>by
  have h:x=⟨v,ob,fs,fo⟩:=h
  grind
 |.LF t k,fs,fo,x,h=>let⟨h1,h2⟩:=jO (p:=k (fr.sl t)) h;⟨λs hs=>h1 s (RM _ hs),h2⟩
 |.lZ b k,fs,fo,x,h=>let⟨h1,h2⟩:=jO (p:=k (fr.ob b)) h;⟨h1,λs hs=>h2 s (RM _ hs)⟩
 |.LG b k,fs,fo,x,h=>let⟨h1,h2⟩:=jO (p:=k (bO (fr.ob b))) h;⟨h1,λs hs=>h2 s (RM _ hs)⟩
 |.i _ k,_,_,_,⟨z,_,h⟩=>jO (p:=k z) h
 |.bo _ k,_,_,_,⟨z,_,h⟩=>jO (p:=k z) h
 |.st _ k,_,_,_,⟨z,_,h⟩=>jO (p:=k z) h
 |.ik _ _ k,_,_,_,⟨z,_,h⟩=>jO (p:=k z) h
 |.Gv _ _ k,_,_,_,⟨z,_,h⟩=>jO (p:=k z) h
 |.sc _ _ k,_,_,_,⟨n,cs,_,h⟩=>jO (p:=k n cs) h
 |.wx _ p _,_,_,_,.inl ⟨_,h⟩=>jO (p:=p) h
 |.wx _ _ q,_,_,_,.inr ⟨_,h⟩=>jO (p:=q) h
 |.ck _ _ k,_,_,_,⟨_,h⟩=>jO (p:=k) h
 |.ca _ _ k,_,_,_,⟨r,_,h⟩=>jO (p:=k r) h
 |.inl _ _ _ _ k,_,_,_,⟨v,os,_,h⟩=>jO (p:=k v os) h
theorem dj{fr fr':Fr}:∀{p:bn} {fs fo:List Nat} {x:Out},R1 J fr p fs fo x->(∀t∈x.fs,fr'.sl t=fr.sl t)->(∀b,2*b∈x.fo->fr'.ob b=fr.ob b)->(∀b,2*b+1∈x.fo->bO (fr'.ob b)=bO (fr.ob b))->R1 J fr' p fs fo x
 |.no,_,_,_,h,_,_,_=>h.elim
 |.ret _ _,_,_,_,h,_,_,_=>h
 |.LF t k,fs,fo,x,h,h1,h2,h3=>by show R1 J fr' (k (fr'.sl t)) _ _ _;have hm:t∈x.fs:=(jO (p:=k (fr.sl t)) h).1 t (RG ..);rw[h1 t hm];exact dj (p:=k (fr.sl t)) h h1 h2 h3
 |.lZ b k,fs,fo,x,h,h1,h2,h3=>by show R1 J fr' (k (fr'.ob b)) _ _ _;have hm:2*b∈x.fo:=(jO (p:=k (fr.ob b)) h).2 _ (RG ..);rw[h2 b hm];exact dj (p:=k (fr.ob b)) h h1 h2 h3
 |.LG b k,fs,fo,x,h,h1,h2,h3=>by show R1 J fr' (k (bO (fr'.ob b))) _ _ _;have hm:2*b+1∈x.fo:=(jO (p:=k (bO (fr.ob b))) h).2 _ (RG ..);rw[h3 b hm];exact dj (p:=k (bO (fr.ob b))) h h1 h2 h3
 |.i _ k,_,_,_,⟨z,h0,h⟩,h1,h2,h3=>⟨z,h0,dj (p:=k z) h h1 h2 h3⟩
 |.bo _ k,_,_,_,⟨z,h0,h⟩,h1,h2,h3=>⟨z,h0,dj (p:=k z) h h1 h2 h3⟩
 |.st _ k,_,_,_,⟨z,h0,h⟩,h1,h2,h3=>⟨z,h0,dj (p:=k z) h h1 h2 h3⟩
 |.ik _ _ k,_,_,_,⟨z,h0,h⟩,h1,h2,h3=>⟨z,h0,dj (p:=k z) h h1 h2 h3⟩
 |.Gv _ _ k,_,_,_,⟨z,h0,h⟩,h1,h2,h3=>⟨z,h0,dj (p:=k z) h h1 h2 h3⟩
 |.sc _ _ k,_,_,_,⟨n,cs,h0,h⟩,h1,h2,h3=>⟨n,cs,h0,dj (p:=k n cs) h h1 h2 h3⟩
 |.wx _ p _,_,_,_,.inl ⟨h0,h⟩,h1,h2,h3=>.inl ⟨h0,dj (p:=p) h h1 h2 h3⟩
 |.wx _ _ q,_,_,_,.inr ⟨h0,h⟩,h1,h2,h3=>.inr ⟨h0,dj (p:=q) h h1 h2 h3⟩
 |.ck _ _ k,_,_,_,⟨h0,h⟩,h1,h2,h3=>⟨h0,dj (p:=k) h h1 h2 h3⟩
 |.ca _ _ k,_,_,_,⟨r,h0,h⟩,h1,h2,h3=>⟨r,h0,dj (p:=k r) h h1 h2 h3⟩
 |.inl _ _ _ _ k,_,_,_,⟨v,os,h0,h⟩,h1,h2,h3=>⟨v,os,h0,dj (p:=k v os) h h1 h2 h3⟩
theorem anyB{l:List Nat}{d:Nat}(h:l.any (RN d)=false):d ∉ l:=λhm=>by have:=List.any_eq_false.1 h d hm;simp_all
structure Gq(a b:Fp):Prop where
 d1:∀d,a.wr=some d->d ∉ b.sl
 d2:∀d,b.wr=some d->d ∉ a.sl
 d3:∀d,a.wr=some d->b.wr≠some d
 o1:∀x∈a.wo,2*x ∉ b.ob/\(a.kp=false->2*x+1 ∉ b.ob)/\x ∉ b.wo
 o2:∀x∈b.wo,2*x ∉ a.ob/\(b.kp=false->2*x+1 ∉ a.ob)
theorem F1{a b:Fp}(h:Bo a b=false):Gq a b:=by
 unfold Bo at h;simp only[W9]at h;obtain⟨⟨⟨h1,h2⟩,h3⟩,h4⟩:=h;refine⟨λd hd=>?_,λd hd=>?_,λd hd e=>?_,λx hx=>?_,λx hx=>?_⟩
 .grind [W9,anyB]
 .grind [anyB]
 all_goals simp_all
theorem Jr(fr:Fr)(d:Option Nat)(v:Option S):(fr.bp d v).ob=fr.ob:=by unfold Fr.bp;split <;> rfl
theorem puts_sl(fr:Fr)(d:Option Nat)(v:Option S){t:Nat}(h:d≠some t):(fr.bp d v).sl t=fr.sl t:=by
 unfold Fr.bp
 grind [B8]
theorem GB{l:List (Nat×O)}{fr:Fr}{k:Nat}(h:k ∉ l.map Sf):(fr.aI l).ob k=fr.ob k:=gJ l λp hp e=>h (by grind)
theorem IZ{o:Oper}{fr:Fr}{x:Out}{t:Nat}(h:o.dst≠some t):(iz o fr x).sl t=fr.sl t:=by unfold iz;rw[rH,puts_sl _ _ _ h]
theorem BU{o:Oper}{fr:Fr}{x:Out}{b:Nat}(h:b ∉ x.ob.map Sf):(iz o fr x).ob b=fr.ob b:=by unfold iz;rw[GB h,Jr]
theorem Ad:∀(l k:List (Nat×O)) (fr:Fr),(∀x∈l.map Sf,x ∉ k.map Sf)->(fr.aI l).aI k=(fr.aI k).aI l
 |[],_,_,_=>rfl
 |(b,o)::l,k,fr,h=>by
  have hb:b ∉ k.map Sf:=h b (RG ..);have one:∀(k:List (Nat×O)) (fr:Fr),b ∉ k.map Sf->(fr.set b o).aI k=(fr.aI k).set b o:=by
   intro k;induction k with
   |nil=>intro fr _;rfl
   |cons c k ih =>
    intro fr hk;obtain⟨c,u⟩:=c;have hc:b≠c:=λe=>hk (by grind);rw[Fr.aI,Fr.aI,<-ih (fr.set c u) λhm=>hk (RM _ hm)]
    congr 1
    have:((fr.set b o).set c u).ob=((fr.set c u).set b o).ob:=by
     grind [cI]
    unfold Fr.set at this ⊢;simp only[Fr.mk.injEq,true_and,and_true];exact this
  rw[Fr.aI,Ad l k _ λx hx=>h x (RM _ hx),one k fr hb,Fr.aI]
theorem Ar(l:List (Nat×O))(fr:Fr)(d:Option Nat)(v:Option S):(fr.bp d v).aI l=(fr.aI l).bp d v:=by
 unfold Fr.bp
 grind [kM]
theorem LH{fr:Fr}{d e:Option Nat}{v u:Option S}(h:∀t,d=some t->e≠some t):(fr.bp d v).bp e u=(fr.bp e u).bp d v:=by
 cases d with
 |none=>rfl
 |some d=>cases e with
  |none=>rfl
  |some e=>cases v with
   |none=>rfl
   |some v=>cases u with
    |none=>rfl
    |some u =>
     have hne:d≠e:=λh1=>h d rfl (by rw[h1]);have:((fr.put d v).put e u).sl=((fr.put e u).put d v).sl:=by
      grind [B8]
     show(fr.put d v).put e u=(fr.put e u).put d v;unfold Fr.put at this ⊢;simp only[Fr.mk.injEq,and_true];exact this
theorem La{o o':Oper}{x y:Out}{fr:Fr}(h:Gq (qh o x) (qh o' y)):iz o' (iz o fr x) y=iz o (iz o' fr y) x:=by unfold iz;rw[<-Ar,<-Ar,LH (d:=o.dst) (e:=o'.dst) (λt ht=>h.d3 t ht),Ad x.ob y.ob _ λq hq=>(h.o1 q hq).2.2]
theorem PB{fr:Fr}{o:Oper}{x:Out}{b:Nat}{y:O}(e:x.ob=[(b,y)])(hb:bO (some y)=bO (fr.ob b))(k:Nat):bO ((iz o fr x).ob k)=bO (fr.ob k):=by
 unfold iz;rw[e];show bO (((fr.bp o.dst x.v).set b y).ob k)=_;rw[cI,Jr]
 grind
theorem F4{y:O}{p:Nat×List C}(h:ry y=some p):bO (some y)=none:=by unfold ry at h;split at h <;> first|rfl|cases h
theorem DF{m:Nat}{y z:O}{q:Nat}{v:S}(h:qG m y q v=some z):bO (some z)=bO (some y):=by
 unfold qG at h;split at h
 .rename_i z' hz;cases h;unfold Nq at hz;split at hz
  .split at hz
   .split at hz
    .cases hz;rfl
    .cases hz
   .cases hz
  .cases hz
 .split at h
  .cases h
  .rename_i p hp;rw[F4 hp];split at h
   .split at h
    .cases h;rfl
    .split at h
     .cases h;rfl
     .cases h
   .split at h
    .split at h
     .cases h;rfl
     .cases h
    .cases h
theorem HZ{fr:Fr}{x:R4}{k:S->bn}{fs fo:List Nat}{o:Out}(hr:R1 J fr (cP x k) fs fo o):∃s fs',R1 J fr (k s) fs' fo o:=by
 cases x with
 |tmp t=>exact⟨_,_,hr⟩
 |const c=>exact⟨_,_,hr⟩
 |func f=>exact⟨_,_,hr⟩
 |global g=>exact hr.elim
theorem Ky{fr:Fr}{c:C}{k:D->List (Nat×O)->bn}{fs fo:List Nat}{o:Out}(hr:R1 J fr (FV c k) fs fo o):∃x os fo',R1 J fr (k x os) fs fo' o:=by
 unfold FV at hr
 grind [R1]
theorem FT{fr:Fr}:∀(cs:List C) {k:List D->List (Nat×O)->bn} {fs fo:List Nat} {o:Out},R1 J fr (FU cs k) fs fo o->∃x os fo',R1 J fr (k x os) fs fo' o
 |[],_,_,_,_,hr=>⟨_,_,_,hr⟩
 |c::cs,_,_,_,_,hr=>by obtain⟨x,os,fo',h1⟩:=Ky (c:=c) hr;obtain⟨y,os',fo'',h2⟩:=FT cs h1;exact⟨_,_,_,h2⟩
theorem IH{fr:Fr}{s:S}{k:Nat->List D->List (Nat×O)->bn}{fs fo:List Nat}{o:Out}(hr:R1 J fr (Gx s k) fs fo o):∃m ds os fo',R1 J fr (k m ds os) fs fo' o:=by
 unfold Gx at hr;split at hr
 .grind [Ky]
 .exact⟨_,_,_,_,hr⟩
 .grind [FT]
 .exact hr.elim
theorem He{os:List (Nat×O)}{b:Nat}{y:O}{p:Nat×O}(h:os++[(b,y)]=[p]):p=(b,y):=by
 cases os with
 |nil=>simpa using h.symm
 |cons a l=>simp at h
theorem DE{fr:Fr}{t:TypeId}{s v:S}{fs fo:List Nat}{x:Out}{p:Nat×O}(hr:R1 J fr (qF P t s v) fs fo x)(e:x.ob=[p]):bO (some p.2)=bO (fr.ob p.1):=by
 unfold qF at hr;split at hr
 .exact hr.elim
 .rename_i m hm;split at hr
  .rename_i b q;change R1 J fr (match fr.ob b with|some x=>_|none=>_) _ _ _ at hr;split at hr
   .rename_i x0 hob;split at hr
    .rename_i y0 hst;have hr:x=⟨none,[(b,y0)],_,_⟩:=hr;subst hr;simp only[Tn,and_true]at e
     grind [bO,DF]
    .exact hr.elim
   .exact hr.elim
  .rename_i b sz k j;change R1 J fr (match fr.ob b with|some (.v e sz' n us)=>_|_=>_) _ _ _ at hr;split at hr
   .rename_i e' sz' n' cs0 hob;split at hr
    .split at hr
     .rename_i hb;simp only[RP]at hb;have e2:=RD hb.1.2;have hr:x=⟨none,[(b,.v e' sz n' _)],_,_⟩:=hr;subst hr;simp only[Tn,and_true]at e
      grind [bO]
     .exact hr.elim
    .exact hr.elim
   .obtain⟨m',vs,os,fo1,hr⟩:=IH hr;split at hr
    .change R1 J fr (match fr.ob b with|some (.w e sz' n ds)=>_|_=>_) _ _ _ at hr;split at hr
     .rename_i e' sz' n' ds hob;split at hr
      .rename_i hb;simp only[RP]at hb;have e2:=RD hb.1;split at hr
       .exact hr.elim
       .have hr:x=⟨none,os++[(b,.w e' sz n' _)],_,_⟩:=hr
        grind [He,bO]
      .exact hr.elim
     .exact hr.elim
    .exact hr.elim
  .rename_i b i;obtain⟨m',vs,os,fo1,hr⟩:=IH hr;split at hr
   .change R1 J fr (match os.any λp=>RN p.1 b with|true=>_|false=>_) _ _ _ at hr;split at hr
    .exact hr.elim
    .split at hr
     .rename_i hob;obtain⟨_,hr⟩:=hr;have hr:x=⟨none,os++[(b,.a _ _ _)],_,_⟩:=hr
      grind [He,bO]
     .rename_i hob;split at hr
      .obtain⟨_,hr⟩:=hr;have hr:x=⟨none,os++[(b,.a _ _ _)],_,_⟩:=hr
       grind [He,bO]
      .exact hr.elim
     .exact hr.elim
   .exact hr.elim
  .exact hr.elim
theorem hole_R1{fr:Fr}{t b sz k j:Nat}{c:C}{fs fo:List Nat}{x:Out}{p:Nat×O}(hr:R1 J fr (AX P t b sz k j c) fs fo x)(e:x.ob=[p]):bO (some p.2)=bO (fr.ob p.1):=by
 unfold AX at hr;change R1 J fr (match fr.ob b,Gs P t with|some (.w e sz' n ds),some 1=>_|some (.h e sz' n ds i _),some 1=>_|_,_=>_) _ _ _ at hr;split at hr
 .rename_i e' sz' n' ds hob hm;split at hr
  .rename_i hb;simp only[RP]at hb;have e2:=RD hb.1;have hr:x=⟨none,[(b,.h e' sz n' ds _ c)],_,_⟩:=hr;subst hr;simp only[Tn,and_true]at e
   grind [bO]
  .exact hr.elim
 .rename_i e' sz' n' ds i c0 hob hm;split at hr
  .rename_i hb;have e2:=RD hb;obtain⟨hck,hr⟩:=hr;have hr:x=⟨none,[(b,.h e' sz n' ds _ c)],_,_⟩:=hr;subst hr;simp only[Tn,and_true]at e
   grind [bO]
  .exact hr.elim
 .exact hr.elim
theorem GC{fr:Fr}{o:Oper}{x:Out}(hr:R1 J fr (nO P tb aV ops gs o) [] [] x)(hk:uu o x.ob=true)(k:Nat):bO ((iz o fr x).ob k)=bO (fr.ob k):=by
 unfold uu at hk;split at hk
 .rename_i t a b p ho hob;have one:∀{fs fo:List Nat} {y:Out},R1 J fr (opP P tb aV o) fs fo y->y.ob=[p]->bO (some p.2)=bO (fr.ob p.1):=fun{fs fo y} h e=>by
   unfold opP at h;rw[ho]at h;split at h
   .simp only at h;split at h
    .obtain⟨s,fs1,h⟩:=HZ h;obtain⟨v,fs2,h⟩:=HZ h;unfold JB at h
     grind [hole_R1,DE]
    all_goals grind [HZ,DE]
   .exact h.elim
  have two:∀{fs fo:List Nat},R1 J fr (Ae gs o (opH P tb aV o)) fs fo x->bO (some p.2)=bO (fr.ob p.1):=fun{fs fo} h=>by
   have h:=IW h;unfold opH at h;split at h
   .obtain⟨o1,h1,h2⟩:=ef h;have h2:x=⟨_,o1.ob,o1.fs,o1.fo⟩:=h2
    grind
   .exact one h hob
  have all:bO (some p.2)=bO (fr.ob p.1):=by
   unfold nO at hr;split at hr
   .exact two hr
   .split at hr
    .exact hr.elim
    .rename_i t ht;change R1 J fr (match fr.sl t with|.c .z=>_|s=>_) _ _ _ at hr;split at hr
     .have hr:x=⟨_,[],_,_⟩:=hr
      grind
     .obtain⟨z,e,hr⟩:=uJ hr;rcases hr with⟨_,hr⟩|⟨_,hr⟩
      .exact two hr
      .have hr:x=⟨_,[],_,_⟩:=hr
       grind
  obtain⟨b,y⟩:=p;exact PB hob all k
 .cases hk
theorem zm{fr:Fr}{o:Oper}{x:Out}{fo:List Nat}(hr:R1 J fr (nO P tb aV ops gs o) [] [] x)(h:∀q∈(qh o x).wo,2*q ∉ fo/\((qh o x).kp=false->2*q+1 ∉ fo))(b:Nat)(hb:2*b+1∈fo):bO ((iz o fr x).ob b)=bO (fr.ob b):=by
 cases hk:uu o x.ob with
 |true=>exact GC hr hk b
 |false=>rw[BU λhm=>(h b hm).2 hk hb]
theorem Ia{i j:Nat}{o o':Oper}{x y:Out}{l:List (Nat×Oper×Out)}{fr fr':Fr}(h:Gq (qh o x) (qh o' y))(hc:qz J P tb n aV ops gs ((i,o,x)::(j,o',y)::l) fr fr'):qz J P tb n aV ops gs ((j,o',y)::(i,o,x)::l) fr fr':=by
 obtain⟨⟨h1,h2,h3⟩,⟨h4,h5,h6⟩,h7⟩:=hc;have hy:R1 J fr (nO P tb aV ops gs o') [] [] y:=by
  refine dj h5 (λt ht=>?_) (λb hb=>?_) λb hb=>?_
  .exact(IZ λe=>h.d1 t e ht).symm
  .exact(BU λhm=>(h.o1 b hm).1 hb).symm
  .exact(zm h2 (λq hq=>⟨(h.o1 q hq).1,(h.o1 q hq).2.1⟩) b hb).symm
 refine⟨⟨h4,hy,h6⟩,⟨h1,dj h2 (λt ht=>?_) (λb hb=>?_) λb hb=>?_,h3⟩,?_⟩
 .exact IZ λe=>h.d2 t e ht
 .exact BU λhm=>(h.o2 b hm).1 hb
 .exact zm hy h.o2 b hb
 .rw[<-La h];exact h7
theorem vr{j:Nat}{o':Oper}{y:Out}{B:List (Nat×Oper×Out)}{fr':Fr}:∀{A:List (Nat×Oper×Out)} {fr:Fr},(∀z,z∈A->Gq (qh z.2.1 z.2.2) (qh o' y))->qz J P tb n aV ops gs (A++(j,o',y)::B) fr fr'->qz J P tb n aV ops gs ((j,o',y)::(A++B)) fr fr'
 |[],_,_,h=>h
 |(i,o,x)::_,_,ha,⟨h1,h2⟩=>Ia (ha (i,o,x) (RG ..)) ⟨h1,vr (λz hz=>ha z (RM _ hz)) h2⟩
def gB(acc:Array Nat)(o:Oper):Nat:=o.after.foldl (λs e=>if Ud .any e then s ||| 2 ^ e.on ||| acc.getD e.on 0 else s) 0
def Dk(acc:Array Nat)(l:List Oper):Array Nat:=l.foldl (λacc o=>acc.push (gB acc o)) acc
theorem Bx(ops:Array Oper):UO ops=Dk #[] ops.toList:=by unfold UO Dk;rw[<-YA];rfl
theorem zo:∀(l:List Oper) (acc:Array Nat) (k:Nat),k<acc.size->(Dk acc l).getD k 0=acc.getD k 0
 |[],_,_,_=>rfl
 |o::l,acc,k,hk=>by
  show(Dk (acc.push (gB acc o)) l).getD k 0=_;rw[zo l _ k Qc];simp only[TA]
  grind
theorem gB_spec{acc:Array Nat}{o:Oper}{i:Nat}(h:(gB acc o).testBit i=true):∃e∈o.after,Ud .any e=true/\(e.on=i\/(acc.getD e.on 0).testBit i=true):=by
 have key:∀(l:List Edge) (s:Nat),(l.foldl (λs e=>if Ud .any e then s ||| 2 ^ e.on ||| acc.getD e.on 0 else s) s).testBit i=true->s.testBit i=true\/∃e∈l,Ud .any e=true/\(e.on=i\/(acc.getD e.on 0).testBit i=true):=by
  intro l;induction l with
  |nil=>intro s h;exact .inl h
  |cons e l ih =>
   intro s h;rw[List.foldl_cons]at h;rcases ih _ h with h|⟨e',h1,h2⟩
   .split at h
    .rename_i hb;rw[Zx,Zx,Nat.testBit_two_pow]at h;simp only[XE,decide_eq_true_eq]at h;rcases h with(h|h)|h
     .exact .inl h
     .exact .inr ⟨e,RG ..,hb,.inl h⟩
     .exact .inr ⟨e,RG ..,hb,.inr h⟩
    .exact .inl h
   .exact .inr ⟨e',RM _ h1,h2⟩
 unfold gB at h;rw[<-YA]at h
 grind
theorem BL:∀(l:List Oper) (acc:Array Nat) (j i:Nat),acc.size<=j->((Dk acc l).getD j 0).testBit i=true ->
  ∃o e,l[j-acc.size]?=some o/\e∈o.after/\Ud .any e=true/\(e.on=i\/e.on<j/\((Dk acc l).getD e.on 0).testBit i=true)
 |[],acc,j,i,hj,h=>by
  rw[show Dk acc []=acc from rfl]at h
  grind
 |o::l,acc,j,i,hj,h=>by
  have e0:Dk acc (o::l)=Dk (acc.push (gB acc o)) l:=rfl;rw[e0]at h ⊢;rcases Xc acc.size j with h1|h1
  .obtain⟨o',e,h2,h3⟩:=BL l (acc.push (gB acc o)) j i Qc h
   grind
  .have:j=acc.size:=Q0;subst this;rw[zo l _ _ Q2]at h;simp only[TA,Array.getElem?_push,if_true,UJ]at h
   grind [gB_spec,zo,TA]
end
section
variable {P:RV} {tb:Tb} {n:Nat} {w0:R0} {Γ0:List As} {ρ0:Nat->Option RK} {M0:Mem} {fr fr':Fr} {a:Act} {w:R0} {ops:Array Oper} {gs:List Nat} {Q:Exit->Act->R0->Prop}
theorem yU:∀{l:List Oper} {q:Nat},o8 l q=true->∀k o,l[k]?=some o->∀e∈o.after,Ud .any e=true->e.on<q+k
 |[],_,_,_,_,h,_,_,_=>by simp at h
 |o::l,q,hb,0,o',h,e,he,hbn=>by simp only[SE,RE]at h;subst h;unfold o8 at hb;simp only[RP,Ve]at hb;have:=hb.1 e (Array.mem_toList_iff.2 he);simp_all
 |_::l,q,hb,k+1,o',h,e,he,hbn=>by unfold o8 at hb;simp only[RP]at hb;have:=yU hb.2 k o' (by grind) e he hbn;omega
theorem Bt{bf:Array Nat}:∀{l:List (Nat×Fp)},Nk bf l=true->l.Pairwise λx y=>Bo y.2 x.2=true->Nat.testBit (bf.getD x.1 0) y.1=true
 |[],_=>TZ
 |(j,x)::l,h=>by
  unfold Nk at h;simp only[RP,Ve,XE,UH]at h;refine ZY (λy hy hc=>?_) (Bt h.2)
  grind
structure Left'(ops:Array Oper)(listed:Array Bool)(rem:List (Nat×Oper×Out)):Prop where
 size:listed.size=ops.size
 idx:∀i,i<ops.size->(listed.getD i true=false↔i∈rem.map Sf)
 lt:∀i∈rem.map Sf,i<ops.size
 nd:(rem.map Sf).Nodup
 inc:(rem.map Sf).Pairwise (·<·)
 pw:rem.Pairwise λx y=>Bo (qh x.2.1 x.2.2) (qh y.2.1 y.2.2)=true->((UO ops).getD y.1 0).testBit x.1=true
theorem qS{listed:Array Bool}{i:Nat}(h:i∈Up .any ops listed):i<ops.size/\listed.getD i true=false/\∀o,ops[i]?=some o->∀e∈o.after,Ud .any e=true->listed.getD e.on false=true:=by
 unfold Up at h;obtain⟨h1,h2⟩:=Sp.1 h;simp only[RP,UH]at h2
 grind [Xd]
def Rz(ops:Array Oper)(listed:Array Bool):Prop:=∀j,j<ops.size->listed.getD j false=true->∀i,((UO ops).getD j 0).testBit i=true->listed.getD i false=true
theorem Aq{listed:Array Bool}(hd:Rz ops listed){j:Nat}(hj:j∈Up .any ops listed):∀i,((UO ops).getD j 0).testBit i=true->listed.getD i false=true:=λi hi=>by
 obtain⟨h1,_,h3⟩:=qS hj;rw[Bx]at hi;obtain⟨o,e,h4,h5,h6,h7⟩:=BL ops.toList #[] j i Q2 hi;have ho:ops[j]?=some o:=by grind
 have hl:=h3 o ho e h5 h6;rcases h7 with rfl|⟨h7,h8⟩
 .exact hl
 .exact hd e.on Q0 hl i (by rw[Bx];exact h8)
theorem A1{l:Array Bool}{i:Nat}(h:i<l.size):l.getD i false=true↔¬l.getD i true=false:=by
 grind
theorem eD{l:Array Bool}{i:Nat}(h:l.getD i false=true):i<l.size:=by
 grind
theorem Fk{l:Array Bool}{i j:Nat}{d:Bool}(hi:i<l.size):(l.setIfInBounds i true).getD j d=if j=i then true else l.getD j d:=by
 simp only[TA]
 grind
theorem Rm(hT:me P tb)(hed:o8 ops.toList 0=true){aV:Nat}(hQ:∀a w,aY n w0 Γ0 ρ0 M0 fr' a w->Q .normal a w):∀(fuel:Nat) (listed:Array Bool) (rem:List (Nat×Oper×Out)) (fr:Fr) (a:Act) (w:R0),rem.length=fuel->Left' ops listed rem->Rz ops listed->aY n w0 Γ0 ρ0 M0 fr a w->fr.aV=aV ->
  qz (j3 P) P tb n aV ops gs rem fr fr'->wpAny P .any ops Q fuel listed a w
 |0,listed,rem,fr,a,w,hl,hL,hD,hdone,hb,hc=>by obtain rfl:rem=[]:=List.eq_nil_of_length_eq_zero hl;have e:fr=fr':=hc;subst e;refine⟨List.eq_nil_iff_forall_not_mem.2 λi hi=>?_,hQ _ _ hdone⟩;obtain⟨h1,h2,_⟩:=qS hi;have:=(hL.idx i h1).1 h2;simp at this
 |fuel+1,listed,rem,fr,a,w,hl,hL,hD,hdone,hb,hc=>by
  refine⟨λhnil=>?_,λi hi=>?_⟩
  .exfalso
   match rem,hl with
   |(j,o,y)::rest,_ =>
    obtain⟨⟨h1,_⟩,_⟩:=hc;have hj:j<ops.size:=hL.lt j (RG ..);have hmem:j∈Up .any ops listed:=by
     unfold Up;refine Sp.2 ⟨U9.2 hj,?_⟩;rw[h1];simp only[RP,UH,UT,UJ,Xd,XE];refine⟨(hL.idx j hj).2 (RG ..),λe he=>?_⟩;cases hbn:Ud .any e with
     |false=>exact .inl rfl
     |true =>
      right;have hlt:=yU hed j o (by grind) e he hbn;rw[Sz]at hlt;rw[A1 (by rw[hL.size];omega)];intro hf;have hm:=(hL.idx e.on Q0).1 hf;have hp:=hL.inc;rw[Sb]at hp hm;rcases RO.1 hm with e1|hm
      .omega
      .have:=(List.pairwise_cons.1 hp).1 _ hm;omega
    rw[hnil]at hmem;cases hmem
  .obtain⟨hi1,hi2,hi3⟩:=qS hi;have hmem:=(hL.idx i hi1).1 hi2;obtain⟨p,hp,hpi⟩:=R3.1 hmem;obtain⟨A,B,rfl⟩:=List.append_of_mem hp;obtain⟨i',o,y⟩:=p;have hpi:i'=i:=hpi;subst hpi;have hunl:∀z∈A,listed.getD z.1 true=false:=λz hz=>by have hm:z.1∈(A++(i',o,y)::B).map Sf:=Ss (List.mem_append_left _ hz);exact(hL.idx z.1 (hL.lt z.1 hm)).2 hm
   have hap:∀z,z∈A->Gq (qh z.2.1 z.2.2) (qh o y):=λz hz=>by
    refine F1 ?_;cases hcl:Bo (qh z.2.1 z.2.2) (qh o y) with
    |false=>rfl
    |true=>exfalso;have h1:=(List.pairwise_append.1 hL.pw).2.2 z hz (i',o,y) (RG ..) hcl;have h2:=Aq hD hi _ h1;have h3:=hunl z hz;rw[A1 (eD h2)]at h2;exact h2 h3
   obtain⟨⟨h1,h2,h3⟩,h4⟩:=vr hap hc;have hrun:=OS (Q:=Q) hT hdone (by rw[hb];exact h2) h3;have hL':Left' ops (listed.setIfInBounds i' true) (A++B):=by
    have hsub:List.Sublist (A++B) (A++(i',o,y)::B):=Xl (List.Sublist.refl _) (List.sublist_cons_self _ _);have hnd:=hL.nd;rw[Si,Sb]at hnd;refine⟨by simp[hL.size],λq hq=>?_,λq hq=>hL.lt q ((hsub.map _).subset hq),(hsub.map _).nodup hL.nd,hL.inc.sublist (hsub.map _),hL.pw.sublist hsub⟩;rw[Fk (by grind)];by_cases e:q=i'
    .grind
    .rw[J1 e,hL.idx q hq]
     grind
   have hD':Rz ops (listed.setIfInBounds i' true):=λj hj hjl q hq=>by
    rw[Fk (by grind)]at hjl ⊢;by_cases e:q=i'
    .rw[J2 e]
    .rw[J1 e];by_cases e2:j=i'
     .grind [Aq]
     .rw[J1 e2]at hjl;exact hD j hj hjl q hq
   have hlen:(A++B).length=fuel:=by grind
   have next:∀a w,aY n w0 Γ0 ρ0 M0 (iz o fr y) a w->wpAny P .any ops Q fuel (listed.setIfInBounds i' true) a w:=λa w hd =>
    Rm hT hed hQ fuel _ (A++B) (iz o fr y) a w hlen hL' hD' hd (by rw[qH];exact hb) h4
   unfold wpOp;simp only[h1];split
   .rename_i hw;rw[J2 hw]at hrun;exact .inl (Xz next hrun)
   .rename_i hw;rw[J1 hw]at hrun;exact next _ _ hrun
theorem JY(hT:me P tb){aV:Nat}(hQ:∀a w,aY n w0 Γ0 ρ0 M0 fr' a w->Q .normal a w):∀(c:List (Nat×Oper×Out)) (fr:Fr) (a:Act) (w:R0),aY n w0 Γ0 ρ0 M0 fr a w->fr.aV=aV->qz (j3 P) P tb n aV ops gs c fr fr'->wpList P ops Q (c.map λz=>z.2.1) a w
 |[],fr,a,w,hd,_,hc=>by have e:fr=fr':=hc;subst e;exact hQ _ _ hd
 |(i,o,y)::c,fr,a,w,hd,hb,⟨⟨_,h2,h3⟩,h4⟩=>by
  have hrun:=OS (Q:=Q) hT hd (by rw[hb];exact h2) h3;have next:∀a w,aY n w0 Γ0 ρ0 M0 (iz o fr y) a w->wpList P ops Q (c.map λz=>z.2.1) a w:=λa w hd=>JY hT hQ c _ a w hd (by rw[qH];exact hb) h4
  rw[Sb];unfold wpList;split
  .rename_i hw;rw[J2 hw]at hrun;exact .inl (Xz next hrun)
  .rename_i hw;rw[J1 hw]at hrun;exact next _ _ hrun
theorem LC(hT:me P tb)(hm:P.follows .mixedOrders=true){id:Nat}{iW:Bool}{K:Fr->Prop}(hd:aY n w0 Γ0 ρ0 M0 fr a w)(h:xA (j3 P) P tb n ops gs ops.toList 0 fr [] λfr l=>(match iW with
  |true=>(match Nk (UO ops) l && o8 ops.toList 0 with
   |true=>K fr.oC
   |false=>False)
  |false=>K fr.oC)) (hQ:∀fr',K fr'->∀a w,aY n w0 Γ0 ρ0 M0 fr' a w->Q .normal a w):(Code.region id ops iW).wp P Q a w:=by
 obtain⟨c,fr',h1,h2,h3⟩:=xz ops.toList 0 fr [] rfl (λj=>by simp) h;have hlen:c.length=ops.size:=by have:=J4 ZZ h3;simpa using this
 have hmap:c.map (λz=>z.2.1)=ops.toList:=by
  have key:∀(c:List (Nat×Oper×Out)) (i:Nat) (fr:Fr),qz (j3 P) P tb n fr'.aV ops gs c fr fr'->c.map Sf=ZX i c.length->∀k z,c[k]?=some z->ops[i+k]?=some z.2.1:=by
   intro c;induction c with
   |nil=>intro i fr _ _ k z hz;simp at hz
   |cons x c ih =>
    intro i fr hc hr k z hz;obtain⟨q,o,y⟩:=x;simp only[Sb,RU,Y7,Tn]at hr;cases k with
    |zero=>simp only[SE,RE]at hz;subst hz;rw[Nat.add_zero,<-hr.1];exact hc.1.1
    |succ k=>have:=ih (i+1) _ hc.2 hr.2 k z (by grind);rwa [show i+(k+1)=i+1+k by omega]
  have hbase:∀(c:List (Nat×Oper×Out)) (fr:Fr) (b:Nat),qz (j3 P) P tb n b ops gs c fr fr'->fr.aV=fr'.aV:=by
   intro c;induction c with
   |nil=>intro fr b hc;rw[show fr=fr' from hc]
   |cons x c ih=>intro fr b hc;have:=ih _ _ hc.2;rwa [qH]at this
  have h1':=h1;rw[hbase c fr _ h1]at h1';apply List.ext_getElem?
  grind
 cases iW with
 |false=>refine wp_region_list ?_;rw[<-hmap];exact JY hT (λa w hd=>hQ _ h2 a w hd.oC) c fr a w hd rfl h1
 |true =>
  simp only at h2;split at h2
  .rename_i hb;simp only[RP]at hb;refine wp_region_any hm ?_;have hidx:c.map Sf=W6 ops.size:=by rw[h3,List.range_eq_range'];simp
   refine Rm hT hb.2 (λa w hd=>hQ _ h2 a w hd.oC) ops.size _ c fr a _ hlen ⟨Q2,λi hi=>?_,λi hi=>?_,?_,?_,?_⟩ (λj hj hjl=>?_) (hd.iW _) rfl h1
   .rw[hidx];simp[TA,hi]
   .rw[hidx]at hi;exact U9.1 hi
   .rw[hidx];exact List.nodup_range
   .rw[hidx];exact List.pairwise_lt_range
   .have:=Bt hb.1;rw[RW,List.pairwise_reverse,List.pairwise_map]at this;exact this
   .simp[TA,hj]at hjl
  .exact h2.elim
end
theorem yx{x:D}{K:Int->Prop}(h:ar x K):∃z,K z/\∀K':Int->Prop,K' z->ar x K':=by obtain⟨z,rfl,h⟩:=mI h;exact⟨z,h,λK' h'=>h'⟩
theorem Rf{x:D}{K:Bool->Prop}(h:pc x K):∃z,K z/\∀K':Bool->Prop,K' z->pc x K':=by obtain⟨z,rfl,h⟩:=lv h;exact⟨z,h,λK' h'=>h'⟩
theorem oq{sz:Nat}{x:D}{K:Nat->List D->Prop}(h:aG sz x K):∃n cs,K n cs/\∀K':Nat->List D->Prop,K' n cs->aG sz x K':=by
 grind [fI,aG]
theorem oe{ds:List D}{j:Nat}{s:jx}{K:C->Nat->Prop}(h:unB bg ds j s K):∃c q,K c q/\∀K':C->Nat->Prop,K' c q->unB bg ds j s K':=by
 cases s with
 |i=>obtain⟨z,h1,h2⟩:=yx h;exact⟨_,_,h1,λK' h'=>h2 (λz=>K' (.d (.v (.int .i64 z))) (j+1)) h'⟩
 |bo=>obtain⟨z,h1,h2⟩:=Rf h;exact⟨_,_,h1,λK' h'=>h2 (λz=>K' (.d (.v (.bool z))) (j+1)) h'⟩
 |d=>exact⟨_,_,h,λK' h'=>h'⟩
 |p b o=>exact⟨_,_,h,λK' h'=>h'⟩
 |w b=>exact⟨_,_,h,λK' h'=>h'⟩
 |m b=>exact⟨_,_,h,λK' h'=>h'⟩
 |f g cs=>exact⟨_,_,h,λK' h'=>h'⟩
 |y b sz=>obtain⟨l,h1,h2⟩:=yx (K:=λl=>ar (cell ds (j+1)) λn=>K (.y b 0 sz l.toNat n.toNat) (j+2)) h;obtain⟨n,h3,h4⟩:=yx h1;exact⟨_,_,h3,λK' h'=>h2 (λl=>ar (cell ds (j+1)) λn=>K' (.y b 0 sz l.toNat n.toNat) (j+2)) (h4 (λn=>K' (.y b 0 sz l.toNat n.toNat) (j+2)) h')⟩
theorem IU:∀{ss:List jx} {ds:List D} {j:Nat} {K:List C->Nat->Prop},BS bg ds j ss K->∃c q,K c q/\∀K':List C->Nat->Prop,K' c q->BS bg ds j ss K'
 |[],ds,j,K,h=>⟨[],j,h,λK' h'=>h'⟩
 |s::ss,ds,j,K,h=>by obtain⟨c,q,h,h1⟩:=oe h;obtain⟨cs,q',h,h2⟩:=IU (ss:=ss) h;exact⟨c::cs,q',h,λK' h'=>h1 _ (h2 (λcs j=>K' (c::cs) j) h')⟩
theorem NJ{ds:List D}{j:Nat}{s:jx}{K:C->Nat->Prop}(h:unC bg ds j s K):∃c q,K c q/\∀K':C->Nat->Prop,K' c q->unC bg ds j s K':=by
 cases s with
 |f g cs=>obtain⟨c,q,h,h1⟩:=IU (ss:=cs) (ds:=ds) (j:=j) (K:=λcs j=>K (.f g cs) j) h;exact⟨.f g c,q,h,λK' h'=>h1 (λcs j=>K' (.f g cs) j) h'⟩
 |i=>exact oe (s:=.i) (ds:=ds) (j:=j) (K:=K) h
 |bo=>exact oe (s:=.bo) (ds:=ds) (j:=j) (K:=K) h
 |d=>exact oe (s:=.d) (ds:=ds) (j:=j) (K:=K) h
 |p b o=>exact oe (s:=.p b o) (ds:=ds) (j:=j) (K:=K) h
 |w b=>exact oe (s:=.w b) (ds:=ds) (j:=j) (K:=K) h
 |m b=>exact oe (s:=.m b) (ds:=ds) (j:=j) (K:=K) h
 |y b sz=>exact oe (s:=.y b sz) (ds:=ds) (j:=j) (K:=K) h
theorem vV:∀{ss:List jx} {ds:List D} {j:Nat} {K:List C->Nat->Prop},wZ bg ds j ss K->∃c q,K c q/\∀K':List C->Nat->Prop,K' c q->wZ bg ds j ss K'
 |[],ds,j,K,h=>⟨[],j,h,λK' h'=>h'⟩
 |s::ss,ds,j,K,h=>by obtain⟨c,q,h,h1⟩:=NJ h;obtain⟨cs,q',h,h2⟩:=vV (ss:=ss) h;exact⟨c::cs,q',h,λK' h'=>h1 _ (h2 (λcs j=>K' (c::cs) j) h')⟩
theorem unS_un{ds:List D}{s:lW}{K:S->Prop}(h:Nv bg ds s K):∃c,K c/\∀K':S->Prop,K' c->Nv bg ds s K':=by
 cases s with
 |c s=>obtain⟨c,q,h,h1⟩:=NJ (s:=s) (ds:=ds) (j:=0) (K:=λc _=>K (.c c)) h;exact⟨.c c,h,λK' h'=>h1 (λc _=>K' (.c c)) h'⟩
 |a n=>exact⟨_,h,λK' h'=>h'⟩
 |g cs=>obtain⟨c,q,h,h1⟩:=vV (ss:=cs) (ds:=ds) (j:=0) (K:=λc _=>K (.g c)) h;exact⟨.g c,h,λK' h'=>h1 (λc _=>K' (.g c)) h'⟩
 |t l=>exact⟨su,h,λK' h'=>h'⟩
theorem IJ{r:bT}:∀{l:List (Nat×lW)} {j:Nat} {f:Nat->S} {K:(Nat->S)->Nat->Prop},qD bg r j l f K->∃c q,K c q/\∀K':(Nat->S)->Nat->Prop,K' c q->qD bg r j l f K'
 |[],j,f,K,h=>⟨f,j,h,λK' h'=>h'⟩
 |(t,s)::l,j,f,K,h=>by obtain⟨c,h,h1⟩:=unS_un h;obtain⟨g,q,h,h2⟩:=IJ (l:=l) h;exact⟨g,q,h,λK' h'=>h1 _ (h2 K' h')⟩
theorem unO_un{ds:List D}{s:mh}{K:O->Prop}(h:unO bg ds s K):∃c,K c/\∀K':O->Prop,K' c->unO bg ds s K':=by
 cases s with
 |b e cs=>obtain⟨c,q,h,h1⟩:=vV (ss:=cs) (ds:=ds) (j:=0) (K:=λc _=>K (.b e c)) h;exact⟨.b e c,h,λK' h'=>h1 (λc _=>K' (.b e c)) h'⟩
 |a e n=>exact⟨_,h,λK' h'=>h'⟩
 |v e sz n cs=>obtain⟨c,q,h,h1⟩:=vV (ss:=cs) (ds:=ds) (j:=0) (K:=λc _=>K (.v e sz n c)) h;exact⟨.v e sz n c,h,λK' h'=>h1 (λc _=>K' (.v e sz n c)) h'⟩
 |w e sz=>obtain⟨n,cs,h,h1⟩:=oq h;exact⟨_,h,λK' h'=>h1 (λn cs=>K' (.w e sz n cs)) h'⟩
 |m t ag vs=>obtain⟨n,cs,h,h1⟩:=oq h;exact⟨_,h,λK' h'=>h1 (λn cs=>K' (.m t ag vs n cs)) h'⟩
 |ms t ag vs=>obtain⟨n,cs,h,h1⟩:=oq h;exact⟨_,h,λK' h'=>h1 (λn cs=>K' (.ms t ag vs n cs)) h'⟩
 |h e sz q =>
  obtain⟨n,cs,h2,h3⟩:=fI h;obtain⟨z,h4,h5⟩:=mI h3;refine⟨_,h5,λK' h'=>?_⟩;show aG sz (cell ds 0) (λn cs=>ar (cell ds 1) λz=>K' (.h e sz n cs z.toNat (.w q)));rw[h2,h4]
  show(match RN sz sz with
   |true=>K' (.h e sz n cs z.toNat (.w q))
   |false=>False)
  rw[cN];exact h'
 |x e sz=>obtain⟨n,cs,h,h1⟩:=oq h;exact⟨_,h,λK' h'=>h1 (λn cs=>K' (.x e sz n cs)) h'⟩
 |it ag vs=>obtain⟨n,cs,h,h1⟩:=oq h;exact⟨_,h,λK' h'=>h1 (λn cs=>K' (.it ag vs none n cs)) h'⟩
theorem IN{r:bT}:∀{l:List (Nat×mh)} {j:Nat} {f:Ob} {K:Ob->Prop},vH bg r j l f K->∃c,K c/\∀K':Ob->Prop,K' c->vH bg r j l f K'
 |[],j,f,K,h=>⟨f,h,λK' h'=>h'⟩
 |(t,s)::l,j,f,K,h=>by obtain⟨c,h,h1⟩:=unO_un h;obtain⟨g,h,h2⟩:=IN (l:=l) h;exact⟨g,h,λK' h'=>h1 _ (h2 K' h')⟩
theorem kl{sh:Sh}{r:bT}{K:Fr->Prop}(h:cu bg sh r K):∃fr,K fr/\∀K':Fr->Prop,K' fr->cu bg sh r K':=by obtain⟨sl,j,h,h1⟩:=IJ h;obtain⟨ob,h,h2⟩:=IN (K:=λob=>K ⟨sl,ob,rz sh.ob⟩) h;exact⟨_,h,λK' h'=>h1 _ (h2 (λob=>K' ⟨sl,ob,rz sh.ob⟩) h')⟩
section
variable {w0:R0} {Γ0:List As} {fr:Fr} {ρ:Nat->Option RK} {M:Mem} {lst:List (Nat×As)} {val:Nat->Option RK} {w:R0}
theorem Jo(h:Rel w0 Γ0 fr ρ M lst val w){mp0:List (Nat×Tg)}(hi:zT mp0){sh:Sh}{r r':bT}{k1 k2:Pk}(h1:oE fr.ob fr.sl ⟨mp0,[]⟩ sh.sl=some (r,k1))(h2:oF fr.ob k1 sh.ob=some (r',k2))(hb:(oS sh.ob k2.mp && rA k2.mp k2.fix && nA sh.ob)=true)
  {K:Fr->Prop} (hu:cu bg sh (r++r') K):∃fr' M' lst',Sub M M'/\K fr'/\Rel w0 Γ0 fr' (eB k2.mp ρ) M' lst' val w/\(∀p∈lst',p.1∈sh.ob.map Sf)/\∀i x,bL mp0 i=some x->bL k2.mp i=some x:=by
 simp only[RP]at hb;obtain⟨a1,a2⟩:=qU h1;obtain⟨a3,a4⟩:=qV h2;obtain⟨M1,lst1,hM,hR,hrows⟩:=xp h (ob:=fr.ob) (λ_ _ h=>h) k2.fix;have hsl:∀t,fr.sl t=su\/∃v,val t=some v/\SR M1 ρ (fr.sl t) v:=λt=>by have:=hR.sl t;rwa [rH]at this
 obtain⟨fr',lst',rem,k3,_,k4,k5,_⟩:=tz (w0:=w0) (Γ0:=Γ0) (ob:=fr.ob) (mp:=k2.mp) (λi b x hi hx=>hR.ob b x (by
  rw[gJ _ λp hp e=>?_]
  .exact hx
  .have:=GP hp;rw[e]at this
   exact zl hb.1.2 this hi)) hR.nd hR.gq hR.st hR.gr hrows hsl (qx.mono a3.mp a3.fix a2) a4 hb.1.1 hb.2 (a3.inj (a1.inj hi)) hu
 exact⟨fr',M1,lst',hM,k3,k4.nV,k5,λi x hx=>a3.mp _ _ (a1.mp _ _ hx)⟩
end
def Keeps(kp:List Nat)(ρ ρ':Nat->Option RK):Prop:=∀i∈kp,∀u,ρ i=some u->ρ' i=some u
theorem Ka{mp:List (Nat×Tg)}:∀{kp:List Nat},Fa mp kp=true->∀i∈kp,bL mp i=some (.ob i)
 |j::kp,h,i,hi=>by
  unfold Fa at h;simp only[RP]at h;rcases RO.1 hi with rfl|hi
  .have h1:=h.1;split at h1
   all_goals simp_all
  .exact Ka h.2 i hi
def vP(n:Nat)(w0:R0)(Γ0:List As)(kp:List Nat)(ρ:Nat->Option RK)(M:Mem)(fr:Fr)(a:Act)(w:R0):Prop :=
 a.tmps.size=n/\a.defers=[]/\∃ρ' M' lst',Sub M M'/\Keeps kp ρ ρ'/\Rel w0 Γ0 fr ρ' M' lst' (tv a) w
structure KOk(nt:Nat)(w0:R0)(Γ0:List As)(kp:List Nat)(ρ:Nat->Option RK)(M:Mem)(K:Kt)(Q:Exit->Act->R0->Prop):Prop where
 n:∀fr a w,K.n fr->vP nt w0 Γ0 kp ρ M fr a w->Q .normal a w
 x:∀i fr a w,K.x i fr->vP nt w0 Γ0 kp ρ M fr a w->Q (.exit i) a w
 r:∀fr a w,K.r fr->vP nt w0 Γ0 kp ρ M fr a w->Q .ret a w
section
variable {P:RV} {tb:Tb} {n:Nat} {H:qj} {kp:List Nat} {w0:R0} {Γ0:List As} {ρ:Nat->Option RK} {M:Mem}
theorem xS{sh:Sh}{fr:Fr}{k:bT->Prop}{a:Act}{w:R0}(hh:vP n w0 Γ0 kp ρ M fr a w)(h:oG kp sh fr k):∃st,k st/\∀K:Fr->Prop,cu bg sh st K->∃fr',K fr'/\vP n w0 Γ0 kp ρ M fr' a w:=by
 obtain⟨h1,h2,ρ',M',lst',hM,hk,hR⟩:=hh;unfold oG at h;split at h
 .rename_i st x hp;split at h
  .rename_i hkb;unfold Ha at hp;split at hp
   .rename_i r k1 e1;split at hp
    .rename_i r' k2 e2;split at hp
     .rename_i hb;simp only[RE,R6]at hp;obtain⟨rfl,rfl⟩:=hp;refine⟨_,h,λK hu=>?_⟩;obtain⟨fr',M2,lst2,g1,g2,g3,_,_⟩:=Jo hR zT.nil e1 e2 hb hu;refine⟨fr',g2,h1,h2,_,M2,lst2,Sub.trans hM g1,λi hi u hu=>?_,g3⟩;rw[cD (Ka hkb i hi)];exact hk i hi u hu
     .cases hp
    .cases hp
   .cases hp
  .exact h.elim
 .exact h.elim
theorem lQ(hT:me P tb)(hm:P.follows .mixedOrders=true):∀(c:Code) {fr:Fr} {K:Kt} {Q:Exit->Act->R0->Prop} {a:Act} {w:R0},ex (j3 P) P tb n H kp c fr K->KOk n w0 Γ0 kp ρ M K Q->vP n w0 Γ0 kp ρ M fr a w->c.wp P Q a w
 |.skip,fr,K,Q,a,w,h,hK,hh=>wp_skip (hK.n _ _ _ h hh)
 |.label l,fr,K,Q,a,w,h,hK,hh=>wp_label (hK.n _ _ _ h hh)
 |.exit i,fr,K,Q,a,w,h,hK,hh=>wp_exit (hK.x _ _ _ _ h hh)
 |.ret,fr,K,Q,a,w,h,hK,hh=>wp_ret (hK.r _ _ _ h hh)
 |.region id ops iW,fr,K,Q,a,w,h,hK,hh=>by
  obtain⟨h1,h2,ρ',M',lst',hM,hk,hR⟩:=hh;have fin:∀fr',K.n fr'->∀a w,aY n w0 Γ0 ρ' M' fr' a w->Q .normal a w:=λfr' hn a w hd=>by obtain⟨d1,d2,ρ2,M2,lst2,d3,d4,d5⟩:=hd;exact hK.n _ _ _ hn ⟨d1,d2,ρ2,M2,lst2,Sub.trans hM d3,λi hi u hu=>d4 _ _ (hk i hi u hu),d5⟩
  have hD:aY n w0 Γ0 ρ' M' fr a w:=⟨h1,h2,ρ',M',lst',Sub.refl _,Ext.refl _,hR⟩;unfold ex at h;split at h
  .rename_i d t e hb;exact next_ok hD hb h fin
  .exact LC (ρ0:=ρ') (M0:=M') (w0:=w0) (Γ0:=Γ0) (K:=K.n) hT hm hD h fin
 |.seq x y,fr,K,Q,a,w,h,hK,hh=>by
  refine wp_seq ?_;unfold ex at h;split at h
  .exact lQ hT hm x (Q:=Exit.then (y.wp P Q) Q) h ⟨λfr a w hn hh=>lQ hT hm y hn hK hh,hK.x,hK.r⟩ hh
  .rename_i sh hsh;obtain⟨I,h1,h2⟩:=h;refine lQ hT hm x (Q:=Exit.then (y.wp P Q) Q) h1 ⟨λfr a w hn hh=>?_,hK.x,hK.r⟩ hh;obtain⟨st,hI,hu⟩:=xS hh hn;obtain⟨fr',hx,hh'⟩:=hu _ (h2 st hI);exact lQ hT hm y hx hK hh'
 |.cond t x y,fr,K,Q,a,w,h,hK,hh=>by
  unfold ex evB at h;split at h
  .rename_i t;split at h
   .rename_i v hv;obtain⟨z,rfl,h⟩:=lv h;obtain⟨h1,h2,ρ',M',lst',hM,hk,hR⟩:=id hh;have hz:a.eval (.tmp t)=.bool z:=by
     rcases hR.sl t with e|⟨u,e1,e2⟩
     .rw[hv]at e;cases e
     .rw[hv]at e2;have e3:u=.bool z:=by
       have:Rd M' (.v (.bool z)) u:=e2
       grind [Rd]
      subst e3;simp only[Act.eval];have e1':a.tmps[t]?=some (.bool z):=e1;simp_all
    refine wp_cond_split hz (λe=>?_) λe=>?_
    .subst e;exact lQ hT hm x h hK hh
    .subst e;exact lQ hT hm y h hK hh
   .exact h.elim
  .split at h
   .rename_i z;have hz:a.eval (.const (.bool z))=.bool z:=rfl;refine wp_cond_split hz (λe=>?_) λe=>?_
    .subst e;exact lQ hT hm x h hK hh
    .subst e;exact lQ hT hm y h hK hh
   .exact h.elim
  .exact h.elim
 |.block i c,fr,K,Q,a,w,h,hK,hh=>by
  refine wp_block (lQ hT hm c (Q:=ZM i Q) h ⟨hK.n,λj fr a w hj hh=>?_,hK.r⟩ hh);simp only[ZM];split
  .rename_i e;subst e;simp only[cN]at hj;exact hK.n _ _ _ hj hh
  .rename_i e;simp only[gX e]at hj;exact hK.x _ _ _ _ hj hh
 |.scope c,fr,K,Q,a,w,h,hK,hh=>wp_scope_straight (lQ hT hm c (Q:=Exit.noGoto Q) h ⟨hK.n,hK.x,hK.r⟩ hh)
 |.loop c,fr,K,Q,a,w,h,hK,hh=>by
  unfold ex at h;split at h
  .rename_i k _;refine wp_loop_ghost (λm a w=>∃fr,unr (λfr next=>ex (j3 P) P tb n H kp c fr ⟨next,K.x,K.r⟩) m fr/\vP n w0 Γ0 kp ρ M fr a w) k ⟨fr,h,hh⟩ ?_;rintro m a w ⟨fr,hu,hh⟩;cases m with
   |zero=>exact hu.elim
   |succ m=>exact lQ hT hm c (Q:=Exit.then (λa' w'=>∃n',n'<m+1/\∃fr,unr (λfr next=>ex (j3 P) P tb n H kp c fr ⟨next,K.x,K.r⟩) n' fr/\vP n w0 Γ0 kp ρ M fr a' w') Q) hu ⟨λfr' a w hn hh=>⟨m,XB m,fr',hn,hh⟩,hK.x,hK.r⟩ hh
  split at h
  .exact h.elim
  .rename_i sh hsh;obtain⟨st,⟨I,⟨m,hI⟩,hround⟩,hu⟩:=xS hh h;refine wp_loop_ghost (λm a w=>∃st,I m st/\∀K:Fr->Prop,cu bg sh st K->∃fr',K fr'/\vP n w0 Γ0 kp ρ M fr' a w) m ⟨st,hI,hu⟩ ?_;rintro m a w ⟨st,hI,hu⟩;obtain⟨fr',hx,hh'⟩:=hu _ (hround m st hI);refine lQ hT hm c (Q:=Exit.then (λa' w'=>∃n',n'<m/\∃st,I n' st/\∀K:Fr->Prop,cu bg sh st K->∃fr',K fr'/\vP n w0 Γ0 kp ρ M fr' a' w') Q) hx ⟨λfr a w hn hh=>?_,hK.x,hK.r⟩ hh';obtain⟨st',⟨m',hlt,hI'⟩,hu'⟩:=xS hh hn;exact⟨m',hlt,st',hI',hu'⟩
 |.goto _,_,_,_,_,_,h,_,_=>by first|exact h.elim|(unfold ex at h;exact h.elim)
end
theorem pE(js:List (Nat×mh)):∀(l:List (Nat×mh)) (i:Nat) (x:Tg),bL (start l js) i=some x->x=.ob i
 |[],i,x,h=>by simp[start,bL]at h
 |(j,o)::l,i,x,h=>by
  unfold start at h;split at h
  .rw[dU]at h;by_cases e:i=j
   .grind
   .rw[J1 e]at h;exact pE js l i x h
  .exact pE js l i x h
theorem GD(l js:List (Nat×mh)):zT (start l js):=λi j b h1 h2=>by
 have e1:=pE js l i _ h1;have e2:=pE js l j _ h2
 grind
theorem Ag{js:List (Nat×mh)}:∀{l:List (Nat×mh)} {i:Nat},i∈l.map Sf->i∈js.map Sf->bL (start l js) i=some (.ob i)/\i∈E9 (start l js)
 |(j,o)::l,i,h1,h2=>by
  have ha:(js.any λx=>RN x.1 i)=true:=by simp_all
  unfold start;by_cases e:i=j
  .grind [dU,E9]
  .have h1:=(RO.1 (show i∈j::l.map Sf from h1)).resolve_left e;obtain⟨g1,g2⟩:=Ag h1 h2
   grind [dU,E9]
 |[],i,h1,_=>by simp at h1
def one(a:Act):XZ->Sem RK
 |.tmp t=>pure (a.tmps.getD t undef)
 |.cell x t=>do Ya t (<-asAddr (a.tmps.getD x undef))
theorem PI{P:RV}{w:R0}{ρ:R4->RK}{o:Oper}{x:R4}{t:TypeId}{p:Addr}{v:RK}(ho:o.op=.load t x)(hx:ρ x=.pointer (some p))(h:(Sk ρ o).run P w=.ok (.value v) w):(Ya t p).run P w=.ok v w:=by
 have h':((Ya t p).run P w).andThen (λv w'=>YN (Z3 v) w')=.ok (.value v) w:=by
  have e:(Sk ρ o).run P w=((Ya t p).run P w).andThen (λv w'=>YN (Z3 v) w'):=by unfold Sk;rw[ho];simp[hx,Instr.loadAt,Instr.sureAddr]
  rw[<-e];exact h
 cases hl:(Ya t p).run P w with
 |ok v' w'=>rw[hl]at h';simp only[UY,Result.ok.injEq,Next.value.injEq]at h';rw[h'.1,h'.2]
 |halt _ _=>rw[hl]at h';simp[UY]at h'
def Nu(ρ:Nat->Option RK)(M:Mem)(xs:List S)(vs:List RK):Prop:=∀i,xs.getD i su=su\/∃v,vs[i]?=some v/\SR M ρ (xs.getD i su) v
theorem Nu.cons{ρ:Nat->Option RK}{M:Mem}{x:S}{v:RK}{xs:List S}{vs:List RK}(h:x=su\/SR M ρ x v)(k:Nu ρ M xs vs):Nu ρ M (x::xs) (v::vs):=λi=>by
 cases i with
 |zero =>
  rcases h with h|h
  .exact .inl h
  .exact .inr ⟨v,rfl,h⟩
 |succ i=>exact k i
section
variable {P:RV} {w0:R0} {Γ0:List As} {fr:Fr} {ρ:Nat->Option RK} {M:Mem} {lst:List (Nat×As)} {a:Act} {w:R0} {n:Nat}
theorem QQ(h1:a.tmps.size=n)(h2:a.defers=[])(hR:Rel w0 Γ0 fr ρ M lst (tv a) w){t ty:Nat}{s:S}(h:QR P fr t ty=some s):∃v,(one a (.cell t ty)).run P w=.ok v w/\SR M ρ s v:=by
 unfold QR at h;split at h
 .rename_i b off hsl;have hs:∃v,tv a t=some v/\SR M ρ (.c (.p b off)) v:=by
   rcases hR.sl t with e|⟨v,e1,e2⟩
   .rw[hsl]at e;cases e
   all_goals grind
  obtain⟨v,hv,k,hk,rfl⟩:=hs;have hev:dN a (.tmp t) (.pointer (some (gd (some ⟨k,0,none⟩) off))):=hv;have hb:∀x,fr.ob b=some x->OR M ρ lst b x:=λx hx=>hR.ob b x hx
  have fin : ∀ v, Yq P w0 (Lf a) M (lst.map Prod.snd ++ Γ0) ⟨none, .load ty (.tmp t), 0, "", #[], none⟩ v → (one a (.cell t ty)).run P w = .ok v w := fun v hy => by
   have hx:=hy n a w (uP h1 h2) hR.st;have he:a.eval (.tmp t)=.pointer (some (gd (some ⟨k,0,none⟩) off)):=dN.eval (x:=.tmp t) hev;have hl:=PI (x:=.tmp t) rfl he hx;have he':a.tmps.getD t undef=.pointer (some (gd (some ⟨k,0,none⟩) off)):=by have:a.tmps[t]?=some (.pointer (some (gd (some ⟨k,0,none⟩) off))):=hv;simp_all
   show(do Ya ty (<-asAddr (a.tmps.getD t undef)):Sem RK).run P w=_
   grind [asAddr]
  split at h
  .rename_i e m ds hob;obtain⟨k',us,h3,h4,h5,h6⟩:=hb _ hob;rw[hk]at h3;obtain rfl:k=k':=by grind
   have hm:As.own k e us∈lst.map Sg++Γ0:=List.mem_append_left _ (Ss h4);obtain⟨v,h7,h8⟩:=jG (P:=P) (w0:=w0) (ρ:=ρ) (q:=0) (ad:=some ⟨k,0,none⟩) (by rw[Sz];exact hev.bq) h5 h6 (Γ:=lst.map Sg++Γ0) (λi u hi w hw=>by rw[Sz];exact hw.mC hm hi) h;exact⟨v,fin v h7,h8⟩
  .rename_i e cs hob;obtain⟨k',us,h3,h4,h5⟩:=hb _ hob;rw[hk]at h3;obtain rfl:k=k':=by grind
   have hm:As.own k e us∈lst.map Sg++Γ0:=List.mem_append_left _ (Ss h4);obtain⟨v,h7,h8⟩:=yo (P:=P) (w0:=w0) (ρ:=ρ) (ad:=some ⟨k,0,none⟩) (Γ:=lst.map Sg++Γ0) hev.bq h5 (λi u hi w hw=>hw.mC hm hi) h;exact⟨v,fin v h7,h8⟩
  .cases h
 .cases h
theorem v7(h1:a.tmps.size=n)(h2:a.defers=[])(hR:Rel w0 Γ0 fr ρ M lst (tv a) w):∀{l:List XZ} {xs:List S},B3 P fr l=some xs->∃vs,(l.mapM (one a)).run P w=.ok vs w/\vs.length=l.length/\Nu ρ M xs vs
 |[],xs,h=>by simp only[B3,RE]at h;subst h;exact⟨[],Q2,rfl,λi=>.inl rfl⟩
 |.tmp t::l,xs,h=>by
  unfold B3 at h;split at h
  .rename_i ys hys;simp only[RE]at h;subst h;obtain⟨vs,g1,g2,g3⟩:=v7 h1 h2 hR hys;refine⟨a.tmps.getD t undef::vs,by simp[List.mapM_cons,one,g1],by simp[g2],g3.cons ?_⟩;rcases hR.sl t with e|⟨v,e1,e2⟩
   .exact .inl e
   .have:a.tmps[t]?=some v:=e1;simp_all
  .cases h
 |.cell t ty::l,xs,h=>by
  unfold B3 at h;split at h
  .rename_i s hs;split at h
   .rename_i ys hys;simp only[RE]at h;subst h;obtain⟨vs,g1,g2,g3⟩:=v7 h1 h2 hR hys;obtain⟨v,g4,g5⟩:=QQ h1 h2 hR hs;exact⟨v::vs,by simp_all,by simp[g2],g3.cons (.inr g5)⟩
   .cases h
  .cases h
end
def Hf(xs:List RK):RK:=if h:xs.toArray.size=1 then xs.toArray[0] else .tuple xs.toArray
theorem xE{P:RV}{fn:Func}{a:Act}{w:R0}{vs:List RK}(h:(fn.results.toList.mapM (one a)).run P w=.ok vs w):(results fn a.tmps).run P w=YN (Hf vs) w:=by
 have e:results fn a.tmps=(do
   let vs <-fn.results.mapM (one a)
   pure (if h:vs.size=1 then vs[0] else .tuple vs)):=by
  unfold results
  congr 1
 rw[e,Array.mapM_eq_mapM_toList,TP,Sem.run_map,h];rfl
theorem vd:∀(l:List S) (j t:Nat),cC j l (j+t)=l.getD t su
 |[],j,t=>by simp[cC]
 |s::l,j,0=>by simp[cC]
 |s::l,j,t+1=>by have e:RN (j+(t+1)) j=false:=gX Q0;simp only[cC,e];rw[show j+(t+1)=j+1+t by omega,vd l];simp
theorem G9{s:bC}{fr:Fr}{st:bT}(h:Ce s fr=some st):∃r k1 r' k2,oE fr.ob fr.sl ⟨start s.ins.ob s.js,[]⟩ (jE s).sl=some (r,k1)/\oF fr.ob k1 (jE s).ob=some (r',k2)/\(oS (jE s).ob k2.mp && rA k2.mp k2.fix && nA (jE s).ob)=true/\st=r++r':=by
 unfold Ce at h;split at h
 .rename_i r k1 h1;split at h
  .rename_i r' k2 h2;split at h
   .rename_i hb;simp only[RE]at h;exact⟨r,k1,r',k2,h1,h2,hb,h.symm⟩
   .cases h
  .cases h
 .cases h
theorem fnB_ok{s:bC}{fn:Func}(h:fnB s fn=true)(xs:List RK)(hx:xs.length=fn.results.toList.length):Dl s.out (Hf xs) xs:=by
 unfold fnB at h;simp only[RP]at h;have h2:=h.2;unfold Dl;have one:xs.length=1->xs=[Hf xs]:=λh1=>by
  match xs,h1 with
  |[x],_=>rfl
 cases ho:s.out with
 |t l =>
  rw[ho]at h2;simp only[RP,UH]at h2;have e1:=RD h2.1;have e2:=Nat.ne_of_beq_eq_false h2.2;have:xs.toArray.size≠1:=by simp;omega
  exact⟨by grind [Hf],Q0⟩
 |c _=>rw[ho]at h2;exact one (by grind [RD])
 |a _=>rw[ho]at h2;exact one (by grind [RD])
 |g _=>rw[ho]at h2;exact one (by grind [RD])
theorem Qu{P:RV}{tb:Tb}(hT:me P tb)(hm:P.follows .mixedOrders=true){H:qj}{s:bC}{a r:bT}(h:fnX (j3 P) P tb H s a λst=>st=r)(hu:cu bg (jE s) r λ_=>True):Is P s a r:=by
 unfold fnX at h;split at h
 .exact h.elim
 .rename_i fn hf;split at h
  .exact h.elim
  .rename_i c hb;split at h
   .rename_i hfb;obtain⟨fr,hx,hun⟩:=kl h;refine hun _ ?_;intro w0 Γ0 ρ M lst vs w hlen hρ hR;refine calls_of_wp hf hb ?_;have hlt:TX vs.length fn.ntmps=true:=by
     grind [fnB]
    obtain⟨s1,s2,s3⟩:=tJ fn.ntmps vs hlt;refine lQ hT hm c (n:=fn.ntmps) (w0:=w0) (Γ0:=Γ0) (ρ:=ρ) (M:=M) hx ?_ ⟨s1,s2,ρ,M,lst,Sub.refl M,λ_ _ _ h=>h,⟨λt=>?_,hR.ob,hR.vZ,hR.gq,hR.nd,hR.st,hR.gr⟩⟩
    .have fin:∀(fr:Fr) (a:Act) (w:R0),GS P s fn.results.toList fr (λst=>st=r)->vP fn.ntmps w0 Γ0 (E9 (start s.ins.ob s.js)) ρ M fr a w->a.defers=[]/\∃v,(results fn a.tmps).run P w=.ok v w/\Left w0 Γ0 ρ M s r (.returned v) w:=by
      intro fr a w hk ⟨h1,h2,ρ',M',lst',hM,hkp,hR'⟩;unfold GS at hk;split at hk
      .rename_i xs hxs;split at hk
       .rename_i st hst;subst hk;obtain⟨vs',r1,r2,r3⟩:=v7 h1 h2 hR' hxs;obtain⟨q,k1,q',k2,p1,p2,p3,rfl⟩:=G9 hst;refine⟨h2,_,xE r1,?_⟩
        have hR2:Rel w0 Γ0 ⟨cC 0 xs,fr.ob,fr.aV⟩ ρ' M' lst' (gM vs') w:=⟨λt=>by
         have:=vd xs 0 t;rw[Sz]at this;show cC 0 xs t=su\/∃v,_/\SR M' ρ' (cC 0 xs t) v;rw[this]
         exact r3 t,hR'.ob,hR'.vZ,hR'.gq,hR'.nd,hR'.st,hR'.gr⟩
        obtain⟨fr2,_,hun2⟩:=kl hu;obtain⟨fr',M2,lst2,g1,g2,g3,g4,g5⟩:=Jo hR2 (GD _ _) p1 p2 p3 (hun2 (λx=>x=fr2) rfl);refine⟨_,_,eB k2.mp ρ',M2,lst2,fr',rfl,fnB_ok hfb _ r2,Sub.trans hM g1,λi u hu hi=>?_,λi hi=>?_,g4,by grind,g3⟩
        .obtain⟨y1,y2⟩:=Ag (hρ i (by rw[hu];rfl)) hi;rw[cD (g5 _ _ y1)];exact hkp i y2 u hu
        .simp only[RP]at p3;unfold eB at hi;split at hi
         .rename_i hg;exact fX p3.1.1 hg
         .rename_i hg;exact fX p3.1.1 hg
         .cases hi
       .exact hk.elim
      .exact hk.elim
     exact⟨λfr a w hk hh=>fin fr a w hk hh,λ_ _ _ _ h=>h.elim,λfr a w hk hh=>fin fr a w hk hh⟩
    .rcases hR.sl t with e|⟨v,e1,e2⟩
     .exact .inl e
     .refine .inr ⟨v,s3 t v ?_,e2⟩;have:=nf vs 0 t;rw[Sz]at this;rw[this];exact e1
   .exact h.elim
abbrev vI(z:Int):D:=.v (.int .i64 z)
abbrev vB(b:Bool):D:=.v (.bool b)
abbrev vS(s:ByteArray):D:=.v (.string s)
section
variable {x:List D} {l:bT} {d:D} {ds:List D} {n sz:Nat}
theorem xk{cs:List D}{k:Nat->List D->Prop}:aG sz (.sl n sz cs) k=k n cs:=by
 show(match RN sz sz with
  |true=>k n cs
  |false=>False)=_
 rw[cN]
theorem ifK_d{p:Prop}[Decidable p]{k h:Prop}:ax (decide p) k h=((p->k)/\(¬p->h)):=by by_cases hp:p <;> simp[ax,hp]
theorem ab{Is:Cx}{s:bC}{a r:bT}{k:bT->Prop}(h:Is.is s a r)(hk:k r):aA Is s a k:=⟨r,h,hk⟩
theorem ij{X:(bT->Prop)->Prop}{k:bT->Prop}(h:X k):jn X k:=⟨k,h,λ_ h=>h⟩
theorem cY{σ:Type}{B:(bT->Prop)->bT->Prop}{s0:bT}(st:σ->bT)(μ:σ->Nat)(I:σ->Prop)(x0:σ)(h0:I x0)(e0:s0=st x0)(h:∀(x:σ) (next:bT->Prop),I x->(∀y,μ y<μ x->I y->next (st y))->B next (st x)):Lp B s0:=by
 refine⟨λm s=>∃y,μ y=m/\I y/\s=st y,⟨_,x0,rfl,h0,e0⟩,?_⟩
 grind
theorem bc{B:(bT->Prop)->bT->Prop}{s0:bT}(n:Nat)(st:Nat->bT)(I:Nat->Prop)(h0:I 0)(e0:s0=st 0)(h:∀(i:Nat) (next:bT->Prop),i<=n->I i->(i<n->I (i+1)->next (st (i+1)))->B next (st i)):Lp B s0:=by
 refine cY st (λi=>n-i) (λi=>i<=n/\I i) 0 ⟨Sy _,h0⟩ e0 λi next hi hn=>?_
 grind
end
theorem dq{α:Type}{enc:α->List D}{sz:Nat}(he:∀x,(enc x).length=sz)(xs:List α){k:Nat}(hk:k<xs.length):el (xs.flatMap enc) sz k=enc xs[k] :=
 A5 he xs k _ (R5 hk)
theorem uG{α:Type}{f:α->D}(xs:List α){k:Nat}(hk:k<xs.length):el (xs.map f) 1 k=[f xs[k]]:=by unfold el;rw[Nat.mul_one,Ui (by grind),List.take_succ_cons,TB];simp
theorem yT(xs:List Ty){k:Nat}(hk:k<xs.length):el (xs.flatMap Ty.enc) 5 k=xs[k].enc:=dq Ty.aP xs hk
theorem vq(xs:List Ex){k:Nat}(hk:k<xs.length):el (xs.flatMap Ex.enc) 15 k=xs[k].enc:=dq Ex.aP xs hk
theorem cell_Ex(e:Ex)(i:Nat):cell e.enc i=cell [aj e.id.aH,aj e.id.seq,aj e.id.index,aj e.kind,aj e.n,aj e.ref.aH,aj e.ref.seq,aj e.ref.index,aj e.ty.kind,aj e.ty.df.aH,aj e.ty.df.seq,aj e.ty.df.index,
  .sl e.ty.kids.length 5 (e.ty.kids.flatMap Ty.enc),.sl e.kids.length 15 (e.kids.flatMap Ex.enc),.sl e.aJ.length 1 (e.aJ.map bM)] i:=by rw[Ex.aD]
theorem cell_Ty(t:Ty)(i:Nat):cell t.enc i=cell [aj t.kind,aj t.df.aH,aj t.df.seq,aj t.df.index,.sl t.kids.length 5 (t.kids.flatMap Ty.enc)] i:=by rw[Ty.aD]
def cls(X:List D):Nat->Nat->List D->List D
 |_,0,l=>l
 |j,n+1,l=>cell X j::cls X (j+1) n l
def Cz(X:bT)(j:Nat):D:=cell (ae X j) 0
def eT(c:List D)(s:Nat)(z:Int):List D:=el c s (RF z)
def iK(X:bT)(j:Nat)(k:Int->Prop):Prop:=ar (cell (ae X j) 0) k
def bK(X:bT)(j:Nat)(k:Bool->Prop):Prop:=pc (cell (ae X j) 0) k
def sK(s:Nat)(X:bT)(j:Nat)(k:Nat->List D->Prop):Prop:=aG s (cell (ae X j) 0) k
def kI(z:Int)(n:Nat)(k:Prop):Prop:=az (0<=z/\z<(n:Int)) k
def lK(z:Int)(n:Nat)(a b:Prop):Prop:=ax (decide (z<(n:Int))) a b
def oK(z:Int)(k:Prop):Prop:=az (aZ (z+1)) k
def tK(Y:List D)(k:Int->Int->Int->Prop):Prop:=ar (cell Y 0) λa=>ar (cell Y 1) λb=>ar (cell Y 2) λc=>k a b c
theorem ai:(∀(X:List D) (j:Nat) (l:List D),cls X j 0 l=l)/\(∀(X:List D) (j n:Nat) (l:List D),cls X j (n+1) l=cell X j::cls X (j+1) n l)/\(∀(x:List D) (l:bT),ae (x::l) 0=x)/\(∀(x:List D) (l:bT) (n:Nat),ae (x::l) (n+1)=ae l n)/\(∀(d:D) (ds:List D),cell (d::ds) 0=d)/\(∀(d:D) (ds:List D) (n:Nat),cell (d::ds) (n+1)=cell ds n) /\
  (∀(z:Int) (k:Int->Prop),ar (.v (.int .i64 z)) k=k z)/\(∀(z:Bool) (k:Bool->Prop),pc (.v (.bool z)) k=k z)/\(∀(z:ByteArray) (k:ByteArray->Prop),rL (.v (.string z)) k=k z)/\(∀(sz n:Nat) (cs:List D) (k:Nat->List D->Prop),aG sz (.sl n sz cs) k=k n cs) /\
  (∀p k:Prop,az p k=(p/\k))/\(∀k h:Prop,ax true k h=k)/\(∀k h:Prop,ax false k h=h)/\(∀(p:Prop) (_:Decidable p) (k h:Prop),ax (decide p) k h=((p->k)/\(¬p->h))) /\
  (∀(e:Ex) (i:Nat),cell e.enc i=cell [aj e.id.aH,aj e.id.seq,aj e.id.index,aj e.kind,aj e.n,aj e.ref.aH,aj e.ref.seq,aj e.ref.index,aj e.ty.kind,aj e.ty.df.aH,aj e.ty.df.seq,aj e.ty.df.index,
   .sl e.ty.kids.length 5 (e.ty.kids.flatMap Ty.enc),.sl e.kids.length 15 (e.kids.flatMap Ex.enc),.sl e.aJ.length 1 (e.aJ.map bM)] i) /\
  (∀(t:Ty) (i:Nat),cell t.enc i=cell [aj t.kind,aj t.df.aH,aj t.df.seq,aj t.df.index,.sl t.kids.length 5 (t.kids.flatMap Ty.enc)] i)/\(∀n:Nat,((n:Int)).toNat=n) /\
  (∀(X:bT) (j:Nat),Cz X j=cell (ae X j) 0)/\(∀(c:List D) (s:Nat) (z:Int),eT c s z=el c s (RF z))/\(∀(X:bT) (j:Nat) (k:Int->Prop),iK X j k=ar (cell (ae X j) 0) k)/\(∀(X:bT) (j:Nat) (k:Bool->Prop),bK X j k=pc (cell (ae X j) 0) k)/\(∀(s:Nat) (X:bT) (j:Nat) (k:Nat->List D->Prop),sK s X j k=aG s (cell (ae X j) 0) k) /\
  (∀(z:Int) (n:Nat) (k:Prop),kI z n k=((0<=z/\z<(n:Int))/\k))/\(∀(z:Int) (n:Nat) (a b:Prop),lK z n a b=((z<(n:Int)->a)/\(¬z<(n:Int)->b)))/\(∀(z:Int) (k:Prop),oK z k=(aZ (z+1)/\k))/\(∀(Y:List D) (k:Int->Int->Int->Prop),tK Y k=ar (cell Y 0) λa=>ar (cell Y 1) λb=>ar (cell Y 2) λc=>k a b c) :=
 ⟨λ_ _ _=>rfl,λ_ _ _ _=>rfl,λ_ _=>rfl,λ_ _ _=>rfl,λ_ _=>rfl,λ_ _ _=>rfl,λ_ _=>rfl,λ_ _=>rfl,λ_ _=>rfl,λ_ _ _ _=>xk,λ_ _=>rfl,λ_ _=>rfl,λ_ _=>rfl,λ_ _ _ _=>ifK_d,cell_Ex,cell_Ty,SF,λ_ _=>rfl,λ_ _ _=>rfl,λ_ _ _=>rfl,λ_ _ _=>rfl,λ_ _ _ _=>rfl,λ_ _ _=>rfl,λ_ _ _ _=>ifK_d,λ_ _=>rfl,λ_ _=>rfl⟩
abbrev ρ0:Nat->Option RK:=λ_=>none
def Plain(M:Mem)(sl:Nat->S)(vs:List RK):Prop:=∀t,sl t=su\/∃v,vs[t]?=some v/\SR M ρ0 (sl t) v
theorem uv{P:RV}{s:bC}{a:bT}{e sz n:Nat}{ds:List D}(hi:s.ins.ob=[])(ho:s.out=.c (.w 0))(hoo:s.js=[(0,.w e sz)])(hn:n<=lim)(h:cu bg s.ins a λfr=>∀(w0:R0) (M:Mem) (Γ:List As) (vs:List RK),vs.length=s.ins.sl.length->Plain M fr.sl vs->zu M ->
  jr P w0 M Γ s.f vs.toArray (λu M' Γ'=>∃ad c us,u=.slice ad n c/\Sub M M'/\Γ'=.acc (.slice ad n c) e sz n us::Γ/\bz M' ds us/\us.length=n*sz)):Is P s a [[.sl n sz ds]]:=by
 obtain⟨fr,h1,h2⟩:=kl h;refine h2 _ ?_;intro w0 Γ0 ρ M lst vs w hlen hρ hR;have hr:ρ=ρ0:=by
  funext i
  cases hc:ρ i with
  |none=>rfl
  |some v=>have:=hρ i (by rw[hc];rfl);rw[hi]at this;cases this
 subst hr;have hl:lst=[]:=by
  cases lst with
  |nil=>rfl
  |cons p l=>have:=hR.gq p (RG ..);cases this
 subst hl;have hs:=h1 w0 M Γ0 vs hlen hR.sl hR.gr w hR.st;refine hs.mono ?_;rintro e' w' ⟨v,M',Γ',he,⟨ad,c,us,rfl,hM,rfl,hrd,yB⟩,hst⟩;have hh:∀i (u:RK),(λi=>if i=0 then some (Value.slice ad n c) else none) i=some u->i=0:=λi u hu=>by
  grind
 refine⟨_,[.slice ad n c],λi=>if i=0 then some (.slice ad n c) else none,M',[(0,.acc (.slice ad n c) e sz n us)],⟨λi=>match RN i 0 with
  |true=>.c (.w 0)
  |false=>su,λk=>match RN k 0 with
  |true=>some (.w e sz n ds)
  |false=>none,1⟩,he,?_,hM,(λi u hu=>by cases hu),(λi hi=>?_),(λp hp=>?_),?_,⟨λt=>?_,λb o hb=>?_,λb v hv=>?_,λp hp=>?_,Q2,hst,hR.gr.mono hM⟩⟩
 .rw[ho];rfl
 .obtain⟨u,hu⟩:=Option.isSome_iff_exists.1 hi;rw[hh i u hu,hoo];exact RG ..
 .rw[RZ.1 hp,hoo];exact RG ..
 .unfold jE;rw[ho,hoo]
  have key:aG sz (.sl n sz ds) (λm cs=>(⟨λi=>match RN i 0 with
   |true=>.c (.w 0)
   |false=>su,Dj 0 (.w e sz m cs) (λ_=>none),1⟩:Fr)=⟨λi=>match RN i 0 with
   |true=>.c (.w 0)
   |false=>su,λk=>match RN k 0 with
   |true=>some (.w e sz n ds)
   |false=>none,1⟩):=by
   rw[xk];rfl
  exact key
 .cases t with
  |zero=>exact .inr ⟨_,rfl,Q2,ad,n,c,rfl⟩
  |succ t=>exact .inl rfl
 .cases b with
  |zero=>obtain rfl:O.w e sz n ds=o:=TW hb;exact⟨ad,c,us,Q2,RG ..,hrd,yB,hn⟩
  |succ b=>cases hb
 .left;rw[hh b v hv];exact XB 0
 .rw[RZ.1 hp];rfl
theorem EE{P:RV}{s:bC}{fr:Fr}{b:Bool}{w0:R0}{M:Mem}{vs:List RK}(hM:zu M)(h:IA P s fr [[.v (.bool b)]])(hlen:vs.length=s.ins.sl.length)(hp:Plain M fr.sl vs)(hob:∀b,fr.ob b=none)
  (ho:s.out=.c .bo) (hoo:s.js=[]):jr P w0 M [] s.f vs.toArray (λu M' Γ'=>u=.bool b/\M'=M/\Γ'=[]):=by
 intro w hst;refine(h w0 [] ρ0 M [] vs w hlen (λi hi=>by cases hi) ⟨hp,(λb o ho=>by grind),(λb v hv=>by cases hv),(λp hp=>by cases hp),Wc,hst,hM⟩).mono ?_;rintro e w' ⟨v,us,ρ',M',lst',fr',rfl,h1,h2,h3,h4,h5,h6,h7⟩;have hst':St w0 M' (lst'.map Sg++[]) w':=h7.st;unfold jE at h6;rw[hoo,ho]at h6;rw[ho]at h1;obtain rfl:us=[v]:=h1;have hv:v=.bool b:=by
  subst h6;obtain h8|⟨u,h8,h9⟩:=h7.sl 0
  .cases h8
  .obtain rfl:v=u:=TW h8;have h10:Rd M' (.v (.bool b)) v:=h9
   grind [Rd]
 exact⟨v,M,[],rfl,⟨hv,rfl,rfl⟩,hst'.os,hst'.tape,hst'.output,hst'.size,(λb o hb=>hst'.mem b o (h2 b o hb)),(λx hx=>by cases hx),Wc⟩
section
variable {J:Cx} {P:RV} {tb:Tb} {n:Nat} {H:qj} {kp:List Nat}
theorem slcK_at{sz m:Nat}{cs:List D}{k:Nat->List D->Prop}(h:k m cs):aG sz (.sl m sz cs) k:=by rw[xk];exact h
theorem gN{fr:Fr}:∀(p:bn) {fs fo:List Nat} {K:Option S->List (Nat×O)->List Nat->List Nat->Prop},run J fr p fs fo K->∃v ob fs' fo',K v ob fs' fo'/\∀K':Option S->List (Nat×O)->List Nat->List Nat->Prop,K' v ob fs' fo'->run J fr p fs fo K'
 |.no,_,_,_,h=>h.elim
 |.ret v ob,fs,fo,_,h=>⟨v,ob,fs,fo,h,λ_ h=>h⟩
 |.LF t k,_,_,_,h=>gN (k (fr.sl t)) h
 |.lZ b k,_,_,_,h=>gN (k (fr.ob b)) h
 |.LG b k,_,_,_,h=>gN (k (bO (fr.ob b))) h
 |.i _ k,_,_,_,h=>by obtain⟨z,rfl,h2⟩:=mI h;obtain⟨v,ob,f1,f2,h3,h4⟩:=gN (k z) h2;exact⟨v,ob,f1,f2,h3,λK' hk=>h4 K' hk⟩
 |.bo _ k,_,_,_,h=>by obtain⟨z,rfl,h2⟩:=lv h;obtain⟨v,ob,f1,f2,h3,h4⟩:=gN (k z) h2;exact⟨v,ob,f1,f2,h3,λK' hk=>h4 K' hk⟩
 |.st _ k,_,_,_,h=>by obtain⟨z,rfl,h2⟩:=DD h;obtain⟨v,ob,f1,f2,h3,h4⟩:=gN (k z) h2;exact⟨v,ob,f1,f2,h3,λK' hk=>h4 K' hk⟩
 |.ik kd _ k,_,_,_,h=>by obtain⟨z,rfl,h2⟩:=Kd h;obtain⟨v,ob,f1,f2,h3,h4⟩:=gN (k z) h2;exact⟨v,ob,f1,f2,h3,λK' hk=>⟨rfl,h4 K' hk⟩⟩
 |.Gv kd cs k,_,_,_,h=>by
  obtain⟨z,hz,h2⟩:=KC h;obtain⟨v,ob,f1,f2,h3,h4⟩:=gN (k z) h2;refine⟨v,ob,f1,f2,h3,λK' hk=>?_⟩;show QY kd cs _;unfold QY
  grind
 |.sc sz _ k,_,_,_,h=>by obtain⟨m,cs,rfl,h2⟩:=fI h;obtain⟨v,ob,f1,f2,h3,h4⟩:=gN (k m cs) h2;exact⟨v,ob,f1,f2,h3,λK' hk=>slcK_at (h4 K' hk)⟩
 |.wx true p _,_,_,_,h=>gN p h
 |.wx false _ q,_,_,_,h=>gN q h
 |.ck _ _ k,_,_,_,h=>by obtain⟨v,ob,f1,f2,h3,h4⟩:=gN k h.2;exact⟨v,ob,f1,f2,h3,λK' hk=>⟨h.1,h4 K' hk⟩⟩
 |.inl _ _ _ _ k,_,_,_,⟨u,os,h1,h2⟩=>by obtain⟨v,ob,f1,f2,h3,h4⟩:=gN (k u os) h2;exact⟨v,ob,f1,f2,h3,λK' hk=>⟨u,os,h1,h4 K' hk⟩⟩
 |.ca _ _ k,_,_,_,⟨r,h1,h2⟩=>by obtain⟨v,ob,f1,f2,h3,h4⟩:=gN (k r) h2;exact⟨v,ob,f1,f2,h3,λK' hk=>⟨r,h1,h4 K' hk⟩⟩
theorem Jj{ops:Array Oper}{gs:List Nat}:∀(l:List Oper) (i:Nat) (fr:Fr) (fps:List (Nat×Fp)) {K:Fr->List (Nat×Fp)->Prop},xA J P tb n ops gs l i fr fps K->∃fr' l',K fr' l'/\∀K':Fr->List (Nat×Fp)->Prop,K' fr' l'->xA J P tb n ops gs l i fr fps K'
 |[],_,fr,fps,_,h=>⟨fr,fps,h,λ_ h=>h⟩
 |o::os,i,fr,fps,K,h=>by
  unfold xA at h;obtain⟨v,ob,f1,f2,h3,h4⟩:=gN _ h;cases hf:CO n o.dst v with
  |false=>rw[hf]at h3;exact h3.elim
  |true=>rw[hf]at h3;simp only[pU,lg]at h3;obtain⟨fr',l',h5,h6⟩:=Jj os _ _ _ h3;refine⟨fr',l',h5,λK' hk=>?_⟩;unfold xA;refine h4 _ ?_;rw[hf];simp only[pU,lg];exact h6 K' hk
inductive Ot where
 |n (fr:Fr)
 |x (i:Nat) (fr:Fr)
 |r (fr:Fr)
def Kt.at(K:Kt):Ot->Prop
 |.n fr=>K.n fr
 |.x i fr=>K.x i fr
 |.r fr=>K.r fr
theorem xR{sh:Sh}{fr:Fr}{k:bT->Prop}(h:oG kp sh fr k):∃st,k st/\∀k':bT->Prop,k' st->oG kp sh fr k':=by
 grind [oG]
theorem NI{B:Fr->Kt->Prop}(hB:∀{fr K},B fr K->∃o:Ot,K.at o/\∀K':Kt,K'.at o->B fr K'):∀(k:Nat) {fr:Fr} {K:Kt},unr (λfr next=>B fr ⟨next,K.x,K.r⟩) k fr->∃o:Ot,K.at o/\∀K':Kt,K'.at o->unr (λfr next=>B fr ⟨next,K'.x,K'.r⟩) k fr
 |0,_,_,h=>h.elim
 |k+1,fr,K,h=>by
  obtain⟨o,h1,h2⟩:=hB h;cases o with
  |n fr'=>obtain⟨o',h3,h4⟩:=NI (B:=B) hB k (fr:=fr') (K:=K) h1;exact⟨o',h3,λK' hk=>h2 ⟨_,K'.x,K'.r⟩ (show unr _ k fr' from h4 K' hk)⟩
  |x i fr'=>exact⟨.x i fr',h1,λK' hk=>h2 ⟨_,K'.x,K'.r⟩ hk⟩
  |r fr'=>exact⟨.r fr',h1,λK' hk=>h2 ⟨_,K'.x,K'.r⟩ hk⟩
theorem lp_un{B:bT->Kt->(bT->Prop)->Prop}(hB:∀{st:bT} {K:Kt} {next:bT->Prop},B st K next->(∃st',next st'/\∀(K':Kt) (next':bT->Prop),next' st'->B st K' next')\/∃o:Ot,K.at o/\∀(K':Kt) (next':bT->Prop),K'.at o->B st K' next'){K:Kt}{I:Nat->bT->Prop}
  (hI:∀m s,I m s->B s K (λs'=>∃m',m'<m/\I m' s')):∀(m:Nat) (s:bT),I m s->∃o:Ot,K.at o/\∀K':Kt,K'.at o->∃I':Nat->bT->Prop,I' m s/\∀m s,I' m s->B s K' (λs'=>∃m',m'<m/\I' m' s'):=by
 intro m;induction m using Nat.strongRecOn with
 |_ m ih =>
  intro s hs;rcases hB (hI m s hs) with⟨st',⟨m',hlt,h1⟩,h2⟩|⟨o,h1,h2⟩
  .obtain⟨o,h3,h4⟩:=ih m' hlt st' h1;refine⟨o,h3,λK' hk=>?_⟩;obtain⟨I',h5,h6⟩:=h4 K' hk;refine⟨λk t=>(k=m/\t=s)\/(k<m/\I' k t),.inl ⟨rfl,rfl⟩,?_⟩;rintro k t (⟨rfl,rfl⟩|⟨hk1,hk2⟩)
   .exact h2 K' _ ⟨m',hlt,.inr ⟨hlt,h5⟩⟩
   .rcases hB (h6 k t hk2) with⟨st2,⟨m2,hlt2,h7⟩,h8⟩|⟨o2,h7,h8⟩
    .exact h8 K' _ ⟨m2,hlt2,.inr ⟨Q0,h7⟩⟩
    .exact h8 K' _ h7
  .refine⟨o,h1,λK' hk=>⟨λk t=>k=m/\t=s,⟨rfl,rfl⟩,?_⟩⟩;rintro k t ⟨rfl,rfl⟩;exact h2 K' _ hk
theorem ra(hnd:tb.nd=false){iW:Bool}{ops:List Oper}:AH tb n iW ops=none:=by
 unfold AH
 grind
theorem mM(hnd:tb.nd=false):∀(c:Code) {fr:Fr} {K:Kt},ex J P tb n H kp c fr K->∃o:Ot,K.at o/\∀K':Kt,K'.at o->ex J P tb n H kp c fr K'
 |.skip,fr,K,h=>⟨.n fr,h,λ_ h=>h⟩
 |.label l,fr,K,h=>⟨.n fr,h,λ_ h=>h⟩
 |.exit i,fr,K,h=>⟨.x i fr,h,λ_ h=>h⟩
 |.ret,fr,K,h=>⟨.r fr,h,λ_ h=>h⟩
 |.region id ops iW,fr,K,h=>by
  unfold ex at h;rw[ra hnd]at h;dsimp only at h;obtain⟨fr',l',h1,h2⟩:=Jj _ _ _ _ h;cases iW with
  |false=>exact⟨.n fr'.oC,h1,λK' hk=>by unfold ex;rw[ra hnd];exact h2 _ hk⟩
  |true =>
   dsimp only at h1;split at h1
   .rename_i hb;refine⟨.n fr'.oC,h1,λK' hk=>?_⟩;unfold ex;rw[ra hnd];refine h2 _ ?_;dsimp only;rw[hb];exact hk
   .exact h1.elim
 |.seq x y,fr,K,h=>by
  unfold ex at h;cases hg:getH H.jn (gT y) with
  |none =>
   rw[hg]at h;obtain⟨o,h1,h2⟩:=mM hnd x h;cases o with
   |n fr'=>obtain⟨o',h3,h4⟩:=mM hnd y h1;refine⟨o',h3,λK' hk=>?_⟩;unfold ex;rw[hg];exact h2 ⟨_,K'.x,K'.r⟩ (h4 K' hk)
   |x i fr'=>exact⟨.x i fr',h1,λK' hk=>by unfold ex;rw[hg];exact h2 ⟨_,K'.x,K'.r⟩ hk⟩
   |r fr'=>exact⟨.r fr',h1,λK' hk=>by unfold ex;rw[hg];exact h2 ⟨_,K'.x,K'.r⟩ hk⟩
  |some sh =>
   rw[hg]at h;obtain⟨I,h1,h2⟩:=h;obtain⟨o,h3,h4⟩:=mM hnd x h1;cases o with
   |n fr'=>obtain⟨st,h5,h6⟩:=xR h3;obtain⟨fr2,h7,h8⟩:=kl (h2 st h5);obtain⟨o',h9,h10⟩:=mM hnd y h7;refine⟨o',h9,λK' hk=>?_⟩;unfold ex;rw[hg];refine⟨λs=>s=st,h4 ⟨_,K'.x,K'.r⟩ (h6 _ rfl),λs hs=>?_⟩;rw[hs];exact h8 _ (h10 K' hk)
   |x i fr'=>exact⟨.x i fr',h3,λK' hk=>by unfold ex;rw[hg];exact⟨λ_=>False,h4 ⟨_,K'.x,K'.r⟩ hk,λs hs=>hs.elim⟩⟩
   |r fr'=>exact⟨.r fr',h3,λK' hk=>by unfold ex;rw[hg];exact⟨λ_=>False,h4 ⟨_,K'.x,K'.r⟩ hk,λs hs=>hs.elim⟩⟩
 |.cond t x y,fr,K,h=>by
  unfold ex evB at h;split at h
  .rename_i t;split at h
   .rename_i v hv;obtain⟨z,rfl,h⟩:=lv h;cases z with
    |true=>obtain⟨o,h1,h2⟩:=mM hnd x h;refine⟨o,h1,λK' hk=>?_⟩;unfold ex evB;simp only[hv];exact h2 K' hk
    |false=>obtain⟨o,h1,h2⟩:=mM hnd y h;refine⟨o,h1,λK' hk=>?_⟩;unfold ex evB;simp only[hv];exact h2 K' hk
   .exact h.elim
  .split at h
   .rename_i z;cases z with
    |true=>obtain⟨o,h1,h2⟩:=mM hnd x h;exact⟨o,h1,λK' hk=>h2 K' hk⟩
    |false=>obtain⟨o,h1,h2⟩:=mM hnd y h;exact⟨o,h1,λK' hk=>h2 K' hk⟩
   .exact h.elim
  .exact h.elim
 |.block i c,fr,K,h=>by
  unfold ex at h;obtain⟨o,h1,h2⟩:=mM hnd c h;cases o with
  |n fr'=>exact⟨.n fr',h1,λK' hk=>by unfold ex;exact h2 ⟨K'.n,_,K'.r⟩ hk⟩
  |r fr'=>exact⟨.r fr',h1,λK' hk=>by unfold ex;exact h2 ⟨K'.n,_,K'.r⟩ hk⟩
  |x j fr' =>
   have h1:(match RN j i with|true=>K.n fr'|false=>K.x j fr'):=h1;cases hb:RN j i with
   |true=>rw[hb]at h1;refine⟨.n fr',h1,λK' hk=>?_⟩;unfold ex;refine h2 ⟨K'.n,_,K'.r⟩ ?_;show(match RN j i with|true=>K'.n fr'|false=>K'.x j fr');rw[hb];exact hk
   |false=>rw[hb]at h1;refine⟨.x j fr',h1,λK' hk=>?_⟩;unfold ex;refine h2 ⟨K'.n,_,K'.r⟩ ?_;show(match RN j i with|true=>K'.n fr'|false=>K'.x j fr');rw[hb];exact hk
 |.scope c,fr,K,h=>by unfold ex at h;obtain⟨o,h1,h2⟩:=mM hnd c h;exact⟨o,h1,λK' hk=>by unfold ex;exact h2 K' hk⟩
 |.loop c,fr,K,h=>by
  unfold ex at h;cases hg:getU H.un (gT c) with
  |some k=>rw[hg]at h;obtain⟨o,h1,h2⟩:=NI (B:=λfr K=>ex J P tb n H kp c fr K) (λh=>mM hnd c h) k h;refine⟨o,h1,λK' hk=>?_⟩;unfold ex;rw[hg];exact h2 K' hk
  |none =>
   rw[hg]at h;dsimp only at h;cases hp:Cc fr (Fj H.lp (gT c)) with
   |none=>rw[hp]at h;exact h.elim
   |some sh =>
    rw[hp]at h;obtain⟨st,⟨I,⟨m,hm⟩,hI⟩,h3⟩:=xR h
    obtain⟨o,h4,h5⟩:=lp_un (B:=λst K next=>cu bg sh st λfr=>ex J P tb n H kp c fr ⟨λfr=>oG kp sh fr next,K.x,K.r⟩) (fun{st K next} h=>by
     obtain⟨fr2,h6,h7⟩:=kl h;obtain⟨o,h8,h9⟩:=mM hnd c h6;cases o with
     |n fr3=>obtain⟨st2,h10,h11⟩:=xR h8;exact .inl ⟨st2,h10,λK' next' hn=>h7 _ (h9 ⟨_,K'.x,K'.r⟩ (h11 _ hn))⟩
     |x i fr3=>exact .inr ⟨.x i fr3,h8,λK' next' hk=>h7 _ (h9 ⟨_,K'.x,K'.r⟩ hk)⟩
     |r fr3=>exact .inr ⟨.r fr3,h8,λK' next' hk=>h7 _ (h9 ⟨_,K'.x,K'.r⟩ hk)⟩) hI m st hm
    refine⟨o,h4,λK' hk=>?_⟩;obtain⟨I',h6,h7⟩:=h5 K' hk;unfold ex;rw[hg];dsimp only;rw[hp];exact h3 _ ⟨I',⟨m,h6⟩,h7⟩
theorem Jm{s:bC}{rs:List XZ}{fr:Fr}{K:bT->Prop}(h:GS P s rs fr K):∃r,K r/\GS P s rs fr λst=>st=r:=by
 unfold GS at h ⊢
 grind
theorem fnX_un(hnd:tb.nd=false){s:bC}{a:bT}{K:bT->Prop}(h:fnX J P tb H s a K):∃r,K r/\fnX J P tb H s a λst=>st=r:=by
 unfold fnX at h ⊢;split at h
 .exact h.elim
 .rename_i fn hf;split at h
  .exact h.elim
  .rename_i c hb;split at h
   .rename_i hfb;obtain⟨fr,h1,h2⟩:=kl h;obtain⟨o,h3,h4⟩:=mM hnd c h1;cases o with
    |n fr'=>obtain⟨r,h5,h6⟩:=Jm h3;exact⟨r,h5,h2 _ (h4 _ h6)⟩
    |x i fr'=>exact h3.elim
    |r fr'=>obtain⟨r,h5,h6⟩:=Jm h3;exact⟨r,h5,h2 _ (h4 _ h6)⟩
   .exact h.elim
end
theorem Kl{P:RV}{tb:Tb}(hnd:tb.nd=false)(hT:me P tb)(hm:P.follows .mixedOrders=true){H:qj}{s:bC}{a:bT}{K:bT->Prop}(h:fnX (j3 P) P tb H s a K)(hu:∀r,K r->cu bg (jE s) r λ_=>True):∃r,K r/\Is P s a r:=by
 grind [fnX_un,Qu]
structure Co where
 is:bC->bT->Option bT
 inl:Nat->Nat->List S->List (Nat×O)->Option (S×List (Nat×O))
structure CoOk(ca:Co)(Is:Cx):Prop where
 is:∀s a r,ca.is s a=some r->Is.is s a r
 inl:∀id f xs ob v os,ca.inl id f xs ob=some (v,os)->Is.inl f xs ob v os
section
variable {β:Type}
def intO(x:D)(k:Int->Option β):Option β:=match x with
 |.v (.int .i64 z)=>k z
 |_=>none
def Re(x:D)(k:Bool->Option β):Option β:=match x with
 |.v (.bool z)=>k z
 |_=>none
def strO(x:D)(k:ByteArray->Option β):Option β:=match x with
 |.v (.string z)=>k z
 |_=>none
def ikO(kd:Tl)(x:D)(k:Int->Option β):Option β:=match x with
 |.v (.int kd' z)=>(match decEq kd' kd with
   |.isTrue _=>k z
   |.isFalse _=>none)
 |_=>none
def byO(kd:Tl)(cs:List D)(k:List Int->Option β):Option β:=match nH kd cs with
 |some b=>k b
 |none=>none
def slcO(sz:Nat)(x:D)(k:Nat->List D->Option β):Option β:=match x with
 |.sl n s cs=>(match RN s sz with
   |true=>k n cs
   |false=>none)
 |_=>none
def ifO(b:Bool)(k h:Option β):Option β:=match b with
 |true=>k
 |false=>h
def vL:Qs (Option β):=⟨intO,Re,slcO⟩
def fC:C->(C->Option β)->Option β
 |.d x,k=>k (.d x)
 |.n,k=>k .n
 |.l sz,k=>k (.l sz)
 |.p b o,k=>k (.p b o)
 |.q b sz i j,k=>k (.q b sz i j)
 |.w b,k=>k (.w b)
 |.m b,k=>k (.m b)
 |.f g cs,k=>k (.f g cs)
 |.z,k=>k .z
 |.u,k=>k .u
 |.e b i,k=>k (.e b i)
 |.y b q sz l n,k=>k (.y b q sz l n)
 |.k g,k=>k (.k g)
def fCs:List C->(List C->Option β)->Option β
 |[],k=>k []
 |c::cs,k=>fC c λc=>fCs cs λcs=>k (c::cs)
def fS:S->(S->Option β)->Option β
 |.c x,k=>fC x λx=>k (.c x)
 |.a n ds,k=>k (.a n ds)
 |.g cs,k=>fCs cs λcs=>k (.g cs)
 |.r n ds o,k=>k (.r n ds o)
 |.t l,k=>k (.t l)
def fV:Option S->(Option S->Option β)->Option β
 |none,k=>k none
 |some v,k=>fS v λv=>k (some v)
def fO:O->(O->Option β)->Option β
 |.b e cs,k=>fCs cs λcs=>k (.b e cs)
 |.a e n ds,k=>k (.a e n ds)
 |.w e sz n ds,k=>k (.w e sz n ds)
 |.v e sz n cs,k=>fCs cs λcs=>k (.v e sz n cs)
 |.s sz n ds,k=>k (.s sz n ds)
 |.m t ag vs n ds,k=>k (.m t ag vs n ds)
 |.ms t ag vs n ds,k=>k (.ms t ag vs n ds)
 |.it ag vs c n ds,k=>k (.it ag vs c n ds)
 |.x e sz n ds,k=>k (.x e sz n ds)
 |.h e sz n ds j c,k=>k (.h e sz n ds j c)
 |.dK,k=>k .dK
def fOs:List (Nat×O)->(List (Nat×O)->Option β)->Option β
 |[],k=>k []
 |(b,o)::l,k=>fO o λo=>fOs l λl=>k ((b,o)::l)
def nj(ca:Co)(fr:Fr):bn->List Nat->List Nat->(Option S->List (Nat×O)->List Nat->List Nat->Option β)->Option β
 |.no,_,_,_=>none
 |.ret v ob,fs,fo,K=>K v ob fs fo
 |.LF t k,fs,fo,K=>nj ca fr (k (fr.sl t)) (t::fs) fo K
 |.lZ b k,fs,fo,K=>nj ca fr (k (fr.ob b)) fs ((2*b)::fo) K
 |.LG b k,fs,fo,K=>nj ca fr (k (bO (fr.ob b))) fs ((2*b+1)::fo) K
 |.i x k,fs,fo,K=>intO x λz=>nj ca fr (k z) fs fo K
 |.bo x k,fs,fo,K=>Re x λz=>nj ca fr (k z) fs fo K
 |.st x k,fs,fo,K=>strO x λz=>nj ca fr (k z) fs fo K
 |.ik kd x k,fs,fo,K=>ikO kd x λz=>nj ca fr (k z) fs fo K
 |.Gv kd cs k,fs,fo,K=>byO kd cs λz=>nj ca fr (k z) fs fo K
 |.sc sz x k,fs,fo,K=>slcO sz x λn cs=>nj ca fr (k n cs) fs fo K
 |.wx b p q,fs,fo,K=>ifO b (nj ca fr p fs fo K) (nj ca fr q fs fo K)
 |.ck _ d k,fs,fo,K=>match d with
   |.isTrue _=>nj ca fr k fs fo K
   |.isFalse _=>none
 |.inl id f xs ob k,fs,fo,K=>match ca.inl id f xs ob with
   |some (v,os)=>fS v λv=>fOs os λos=>nj ca fr (k v os) fs fo K
   |none=>none
 |.ca s a k,fs,fo,K=>match ca.is s a with
   |some r=>nj ca fr (k r) fs fo K
   |none=>none
def Jk(ca:Co)(P:RV)(tb:Tb)(n:Nat)(ops:Array Oper)(gs:List Nat):List Oper->Nat->Fr->List (Nat×Fp)->(Fr->List (Nat×Fp)->Option β)->Option β
 |[],_,fr,l,K=>K fr l
 |o::os,i,fr,l,K=>nj ca fr (nO P tb fr.aV ops gs o) [] [] λv ob fs fo=>match CO n o.dst v with
   |true=>fV v λv=>fOs ob λob=>Jk ca P tb n ops gs os (i+1) ((fr.bp o.dst v).aI ob) ((i,⟨o.dst,fs,fo,ob.map Sf,uu o ob⟩)::l) K
   |false=>none
structure KtO(β:Type) where
 n:Fr->Option β
 x:Nat->Fr->Option β
 r:Fr->Option β
def xT(kp:List Nat)(sh:Sh)(fr:Fr)(k:bT->Option β):Option β:=match Ha sh fr with
 |some (st,x)=>(match Fa x.mp kp with
   |true=>k st
   |false=>none)
 |none=>none
def unrO(B:Fr->(Fr->Option β)->Option β):Nat->Fr->Option β
 |0,_=>none
 |n+1,fr=>B fr λfr'=>unrO B n fr'
def evO(fr:Fr)(t:R4)(k:Bool->Option β):Option β:=match t with
 |.tmp t=>(match fr.sl t with
   |.c (.d x)=>Re x k
   |_=>none)
 |.const v=>(match v with
   |.bool b=>k b
   |_=>none)
 |_=>none
def PH(kp:List Nat)(sh:Sh)(B:Fr->(Fr->Option β)->Option β):Nat->bT->Option β
 |0,_=>none
 |m+1,st=>cu vL sh st λfr=>B fr λfr'=>xT kp sh fr' (PH kp sh B m)
def Ph(fr:Fr)(d t e:Nat)(K:Fr->Option β):Option β:=match fr.sl t with
 |.c (.p b 0)=>(match fr.ob b with
   |some (.it _ _ _ 0 _)=>K ((fr.put d (.t [vb false])).put e (vb false))
   |some (.it ag vs _ 1 ds)=>K (((fr.set b (.it ag vs (some (el ds (3+vs) 0)) 0 (mO ds (3+vs) 0))).put d (.t [vb true,su,su])).put e (vb true))
   |_=>none)
 |_=>none
def FF(ca:Co)(N:Nat)(P:RV)(tb:Tb)(n:Nat)(H:qj)(kp:List Nat):Code->Fr->KtO β->Option β
 |.skip,fr,K=>K.n fr
 |.label _,fr,K=>K.n fr
 |.region _ ops iW,fr,K=>(match AH tb n iW ops.toList with
  |some (d,t,e)=>Ph fr d t e λfr=>K.n fr.oC
  |none=>Jk ca P tb n ops (sO ops ops.toList) ops.toList 0 fr [] λfr l=>(match iW with
   |true=>(match Nk (UO ops) l && o8 ops.toList 0 with
     |true=>K.n fr.oC
     |false=>none)
   |false=>K.n fr.oC))
 |.seq a b,fr,K=>(match getH H.jn (gT b) with
   |none=>FF ca N P tb n H kp a fr ⟨λfr=>FF ca N P tb n H kp b fr K,K.x,K.r⟩
   |some sh=>FF ca N P tb n H kp a fr ⟨λfr=>xT kp sh fr λst=>cu vL sh st λfr=>FF ca N P tb n H kp b fr K,K.x,K.r⟩)
 |.cond t a b,fr,K=>evO fr t λz=>ifO z (FF ca N P tb n H kp a fr K) (FF ca N P tb n H kp b fr K)
 |.block i c,fr,K=>FF ca N P tb n H kp c fr ⟨K.n,λj fr=>(match RN j i with
   |true=>K.n fr
   |false=>K.x j fr),K.r⟩
 |.loop c,fr,K=>(match getU H.un (gT c) with
  |some k=>unrO (λfr next=>FF ca N P tb n H kp c fr ⟨next,K.x,K.r⟩) k fr
  |none=>match Cc fr (Fj H.lp (gT c)) with
   |none=>none
   |some sh=>xT kp sh fr (PH kp sh (λfr next=>FF ca N P tb n H kp c fr ⟨next,K.x,K.r⟩) N))
 |.exit i,fr,K=>K.x i fr
 |.scope c,fr,K=>FF ca N P tb n H kp c fr K
 |.ret,fr,K=>K.r fr
 |_,_,_=>none
end
section
variable {β:Type} {x:β}
theorem sJ{d:D}{k:Int->Option β}{k':Int->Prop}(hk:∀z,k z=some x->k' z)(h:intO d k=some x):ar d k':=by
 unfold intO at h;unfold ar
 grind
theorem C9{d:D}{k:Bool->Option β}{k':Bool->Prop}(hk:∀z,k z=some x->k' z)(h:Re d k=some x):pc d k':=by
 unfold Re at h;unfold pc
 grind
theorem strO_ok{d:D}{k:ByteArray->Option β}{k':ByteArray->Prop}(hk:∀z,k z=some x->k' z)(h:strO d k=some x):rL d k':=by
 unfold strO at h;unfold rL
 grind
theorem ikO_ok{kd:Tl}{d:D}{k:Int->Option β}{k':Int->Prop}(hk:∀z,k z=some x->k' z)(h:ikO kd d k=some x):qv kd d k':=by
 unfold ikO at h;unfold qv;split at h
 . split at h
   all_goals grind
 . cases h
theorem byO_ok{kd:Tl}{cs:List D}{k:List Int->Option β}{k':List Int->Prop}(hk:∀z,k z=some x->k' z)(h:byO kd cs k=some x):QY kd cs k':=by
 grind [byO,QY]
theorem nh{sz:Nat}{d:D}{k:Nat->List D->Option β}{k':Nat->List D->Prop}(hk:∀n cs,k n cs=some x->k' n cs)(h:slcO sz d k=some x):aG sz d k':=by
 unfold slcO at h;unfold aG
 grind
theorem Qd{b:Bool}{k g:Option β}{k' g':Prop}(hk:k=some x->k')(hg:g=some x->g')(h:ifO b k g=some x):ax b k' g':=by
 cases b
 . exact hg h
 . exact hk h
theorem fC_eq(c:C)(k:C->Option β):fC c k=k c:=by cases c <;> rfl
theorem CU:∀(l:List C) (k:List C->Option β),fCs l k=k l
 |[],_=>rfl
 |c::l,k=>by rw[fCs,fC_eq,CU l]
theorem fS_eq(s:S)(k:S->Option β):fS s k=k s:=by
 cases s with
 |c x=>exact fC_eq x _
 |g cs=>exact CU cs _
 |_=>rfl
theorem fV_eq(v:Option S)(k:Option S->Option β):fV v k=k v:=by
 cases v with
 |none=>rfl
 |some v=>exact fS_eq v _
theorem fO_eq(o:O)(k:O->Option β):fO o k=k o:=by
 cases o with
 |b e cs=>exact CU cs _
 |v e sz n cs=>exact CU cs _
 |_=>rfl
theorem HX:∀(l:List (Nat×O)) (k:List (Nat×O)->Option β),fOs l k=k l
 |[],_=>rfl
 |(b,o)::l,k=>by rw[fOs,fO_eq,HX l]
theorem og{ds:List D}{j:Nat}{s:jx}{k:C->Nat->Option β}{k':C->Nat->Prop}(hk:∀c i,k c i=some x->k' c i)(h:unB vL ds j s k=some x):unB bg ds j s k':=by
 cases s with
 |i=>exact sJ (λz h=>hk _ _ h) h
 |bo=>exact C9 (λz h=>hk _ _ h) h
 |y b sz=>exact sJ (λl h=>sJ (λn h=>hk _ _ h) h) h
 |_=>exact hk _ _ h
theorem IV{ds:List D}:∀{l:List jx} {j:Nat} {k:List C->Nat->Option β} {k':List C->Nat->Prop},(∀c i,k c i=some x->k' c i)->BS vL ds j l k=some x->BS bg ds j l k'
 |[],_,_,_,hk,h=>hk _ _ h
 |_::_,_,_,_,hk,h=>og (λ_ _ h=>IV (λ_ _ h=>hk _ _ h) h) h
theorem NK{ds:List D}{j:Nat}{s:jx}{k:C->Nat->Option β}{k':C->Nat->Prop}(hk:∀c i,k c i=some x->k' c i)(h:unC vL ds j s k=some x):unC bg ds j s k':=by
 cases s with
 |f g cs=>exact IV (λ_ _ h=>hk _ _ h) h
 |d=>exact og (ds:=ds) (j:=j) (s:=.d) hk h
 |i=>exact og (ds:=ds) (j:=j) (s:=.i) hk h
 |bo=>exact og (ds:=ds) (j:=j) (s:=.bo) hk h
 |p b off=>exact og (ds:=ds) (j:=j) (s:=.p b off) hk h
 |w b=>exact og (ds:=ds) (j:=j) (s:=.w b) hk h
 |m b=>exact og (ds:=ds) (j:=j) (s:=.m b) hk h
 |y b sz=>exact og (ds:=ds) (j:=j) (s:=.y b sz) hk h
theorem vW{ds:List D}:∀{l:List jx} {j:Nat} {k:List C->Nat->Option β} {k':List C->Nat->Prop},(∀c i,k c i=some x->k' c i)->wZ vL ds j l k=some x->wZ bg ds j l k'
 |[],_,_,_,hk,h=>hk _ _ h
 |_::_,_,_,_,hk,h=>NK (λ_ _ h=>vW (λ_ _ h=>hk _ _ h) h) h
theorem unS_ok{ds:List D}{s:lW}{k:S->Option β}{k':S->Prop}(hk:∀c,k c=some x->k' c)(h:Nv vL ds s k=some x):Nv bg ds s k':=by
 cases s with
 |c s=>exact NK (ds:=ds) (j:=0) (s:=s) (k:=λc _=>k (.c c)) (λ_ _ h=>hk _ h) h
 |a n=>exact hk _ h
 |g cs=>exact vW (ds:=ds) (j:=0) (l:=cs) (k:=λcs _=>k (.g cs)) (λ_ _ h=>hk _ h) h
 |t l=>exact hk _ h
theorem IK{r:bT}:∀{l:List (Nat×lW)} {j:Nat} {f:Nat->S} {k:(Nat->S)->Nat->Option β} {k':(Nat->S)->Nat->Prop},(∀c i,k c i=some x->k' c i)->qD vL r j l f k=some x->qD bg r j l f k'
 |[],_,_,_,_,hk,h=>hk _ _ h
 |(_,_)::_,_,_,_,_,hk,h=>unS_ok (λ_ h=>IK hk h) h
theorem unO_ok{ds:List D}{o:mh}{k:O->Option β}{k':O->Prop}(hk:∀c,k c=some x->k' c)(h:unO vL ds o k=some x):unO bg ds o k':=by
 cases o with
 |b e cs=>exact vW (λ_ _ h=>hk _ h) h
 |v e sz n cs=>exact vW (λ_ _ h=>hk _ h) h
 |a e n=>exact hk _ h
 |w e sz=>exact nh (λ_ _ h=>hk _ h) h
 |m t ag vs=>exact nh (λ_ _ h=>hk _ h) h
 |ms t ag vs=>exact nh (λ_ _ h=>hk _ h) h
 |it ag vs=>exact nh (λ_ _ h=>hk _ h) h
 |x e sz=>exact nh (λ_ _ h=>hk _ h) h
 |h e sz q=>exact nh (λ_ _ h=>sJ (λ_ h=>hk _ h) h) h
theorem IP{r:bT}:∀{l:List (Nat×mh)} {j:Nat} {f:Ob} {k:Ob->Option β} {k':Ob->Prop},(∀c,k c=some x->k' c)->vH vL r j l f k=some x->vH bg r j l f k'
 |[],_,_,_,_,hk,h=>hk _ h
 |(_,_)::_,_,_,_,_,hk,h=>unO_ok (λ_ h=>IP hk h) h
theorem wY{sh:Sh}{r:bT}{k:Fr->Option β}{k':Fr->Prop}(hk:∀fr,k fr=some x->k' fr)(h:cu vL sh r k=some x):cu bg sh r k' :=
 IK (λ_ _ h=>IP (λ_ h=>hk _ h) h) h
theorem tX{kp:List Nat}{sh:Sh}{fr:Fr}{k:bT->Option β}{k':bT->Prop}(hk:∀st,k st=some x->k' st)(h:xT kp sh fr k=some x):oG kp sh fr k':=by
 grind [xT,oG]
variable {Is:Cx} {ca:Co} (hca:CoOk ca Is)
theorem eX(hca:CoOk ca Is){fr:Fr}{K:Option S->List (Nat×O)->List Nat->List Nat->Option β}{K':Option S->List (Nat×O)->List Nat->List Nat->Prop}(hK:∀v ob fs fo,K v ob fs fo=some x->K' v ob fs fo):∀(p:bn) (fs fo:List Nat),nj ca fr p fs fo K=some x->run Is fr p fs fo K'
 |.no,_,_,h=>by cases h
 |.ret _ _,_,_,h=>hK _ _ _ _ h
 |.LF t k,_,_,h=>eX hca hK (k (fr.sl t)) _ _ h
 |.lZ b k,_,_,h=>eX hca hK (k (fr.ob b)) _ _ h
 |.LG b k,_,_,h=>eX hca hK (k (bO (fr.ob b))) _ _ h
 |.i _ k,_,_,h=>sJ (λz h=>eX hca hK (k z) _ _ h) h
 |.bo _ k,_,_,h=>C9 (λz h=>eX hca hK (k z) _ _ h) h
 |.st _ k,_,_,h=>strO_ok (λz h=>eX hca hK (k z) _ _ h) h
 |.ik _ _ k,_,_,h=>ikO_ok (λz h=>eX hca hK (k z) _ _ h) h
 |.Gv _ _ k,_,_,h=>byO_ok (λz h=>eX hca hK (k z) _ _ h) h
 |.sc _ _ k,_,_,h=>nh (λn cs h=>eX hca hK (k n cs) _ _ h) h
 |.wx _ p q,_,_,h=>Qd (λh=>eX hca hK p _ _ h) (λh=>eX hca hK q _ _ h) h
 |.ck _ d k,_,_,h=>by
   unfold nj at h;split at h
   . rename_i hp
     exact⟨hp,eX hca hK k _ _ h⟩
   . cases h
 |.ca s a k,_,_,h=>by
   unfold nj at h;split at h
   . rename_i r hr
     exact⟨r,hca.is _ _ _ hr,eX hca hK (k r) _ _ h⟩
   . cases h
 |.inl id f xs ob k,_,_,h=>by
   unfold nj at h;split at h
   . rename_i v os hr
     rw[fS_eq,HX]at h;exact⟨v,os,hca.inl _ _ _ _ _ _ hr,eX hca hK (k v os) _ _ h⟩
   . cases h
theorem Eh(hca:CoOk ca Is){P:RV}{tb:Tb}{n:Nat}{ops:Array Oper}{gs:List Nat}{K:Fr->List (Nat×Fp)->Option β}{K':Fr->List (Nat×Fp)->Prop}(hK:∀fr l,K fr l=some x->K' fr l):∀(os:List Oper) (i:Nat) (fr:Fr) (l:List (Nat×Fp)),Jk ca P tb n ops gs os i fr l K=some x->xA Is P tb n ops gs os i fr l K'
 |[],_,_,_,h=>hK _ _ h
 |o::os,i,fr,l,h=>by
   unfold Jk at h;unfold xA;refine eX hca (λv ob fs fo h=>?_) _ _ _ h;cases hf:CO n o.dst v with
   |false=>rw[hf]at h;cases h
   |true=>rw[hf]at h;dsimp only at h ⊢;rw[fV_eq,HX]at h;rw[pU,lg];exact Eh hca hK os _ _ _ h
theorem evO_ok{fr:Fr}{t:R4}{k:Bool->Option β}{k':Bool->Prop}(hk:∀z,k z=some x->k' z)(h:evO fr t k=some x):evB fr t k':=by
 cases t with
 |tmp t =>
   unfold evO at h;unfold evB;dsimp only at h ⊢;cases hs:fr.sl t with
   |c c =>
     rw[hs]at h;cases c with
     |d y=>exact C9 hk h
     |_=>cases h
   |_=>rw[hs]at h;cases h
 |const v =>
   cases v with
   |bool b=>exact hk b h
   |_=>cases h
 |_=>cases h
theorem Pg{fr:Fr}{d t e:Nat}{K:Fr->Prop}{K':Fr->Option β}(hk:∀fr,K' fr=some x->K fr)(h:Ph fr d t e K'=some x):EO fr d t e K:=by
 grind [Ph,EO]
theorem II{B:Fr->(Fr->Option β)->Option β}{B':Fr->(Fr->Prop)->Prop}(hB:∀fr k k',(∀fr,k fr=some x->k' fr)->B fr k=some x->B' fr k'):∀(n:Nat) (fr:Fr),unrO B n fr=some x->unr B' n fr
 |0,_,h=>by cases h
 |n+1,fr,h=>hB fr _ _ (λfr h=>II hB n fr h) h
theorem lr(hca:CoOk ca Is){N:Nat}{P:RV}{tb:Tb}{n:Nat}{H:qj}{kp:List Nat}:∀(c:Code) (fr:Fr) (K:Kt) (K':KtO β),(∀fr,K'.n fr=some x->K.n fr)->(∀i fr,K'.x i fr=some x->K.x i fr)->(∀fr,K'.r fr=some x->K.r fr)->FF ca N P tb n H kp c fr K'=some x->ex Is P tb n H kp c fr K
 |.skip,fr,K,K',hn,_,_,h=>hn _ h
 |.label _,fr,K,K',hn,_,_,h=>hn _ h
 |.region _ ops iW,fr,K,K',hn,_,_,h=>by
   unfold FF at h;unfold ex
   grind [Pg,Eh]
 |.seq a b,fr,K,K',hn,hx,hr,h=>by
   unfold FF at h;unfold ex;split at h
   . rename_i hg
     rw[hg];exact lr hca a fr ⟨_,K.x,K.r⟩ ⟨_,K'.x,K'.r⟩ (λfr h=>lr hca b _ _ _ hn hx hr h) hx hr h
   . rename_i sh hg
     rw[hg];refine⟨λst=>cu vL sh st (λfr=>FF ca N P tb n H kp b fr K')=some x,?_,λst h=>wY (λfr h=>lr hca b _ _ _ hn hx hr h) h⟩;exact lr hca a fr ⟨_,K.x,K.r⟩ ⟨_,K'.x,K'.r⟩ (λfr h=>tX (λst h=>h) h) hx hr h
 |.cond t a b,fr,K,K',hn,hx,hr,h=>by exact evO_ok (λz h=>Qd (λh=>lr hca a _ _ _ hn hx hr h) (λh=>lr hca b _ _ _ hn hx hr h) h) h
 |.block i c,fr,K,K',hn,hx,hr,h=>by
   refine lr hca c fr ⟨K.n,_,K.r⟩ ⟨K'.n,λj fr=>(match RN j i with
   |true=>K'.n fr
   |false=>K'.x j fr),K'.r⟩ hn (λj fr h=>?_) hr h
   grind
 |.loop c,fr,K,K',hn,hx,hr,h=>by
   unfold FF at h;unfold ex;split at h
   . rename_i k hg
     rw[hg];exact II (λfr k k' hk h=>lr hca c fr ⟨k',K.x,K.r⟩ ⟨k,K'.x,K'.r⟩ hk hx hr h) _ _ h
   . rename_i hg
     rw[hg];dsimp only;split at h
     . cases h
     . rename_i sh hp
       rw[hp];dsimp only;refine tX (λst h=>?_) h;refine⟨λm st=>PH kp sh (λfr next=>FF ca N P tb n H kp c fr ⟨next,K'.x,K'.r⟩) m st=some x,⟨_,h⟩,λm st h=>?_⟩;cases m with
       |zero=>cases h
       |succ m=>exact wY (λfr h=>lr hca c fr ⟨_,K.x,K.r⟩ ⟨_,K'.x,K'.r⟩ (λfr h=>tX (λst h=>⟨m,XB m,h⟩) h) hx hr h) h
 |.exit i,fr,K,K',_,hx,_,h=>hx _ _ h
 |.scope c,fr,K,K',hn,hx,hr,h=>lr hca c _ _ _ hn hx hr h
 |.ret,fr,K,K',_,_,hr,h=>hr _ h
 |.goto _,_,_,_,_,_,_,h=>by cases h
end
def nF(N:Nat):Code->List (Nat×Nat)
 |.seq a b=>nF N a++nF N b
 |.cond _ a b=>nF N a++nF N b
 |.block _ c=>nF N c
 |.scope c=>nF N c
 |.loop c=>(match gT c with
  |some i=>(i,N)::nF N c
  |none=>nF N c)
 |_=>[]
def hintH(N:Nat)(c:Code):qj:=⟨[],[],nF N c⟩
def L6:List S->S
 |[x]=>x
 |l=>.t l
def collect(ob:Ob):Nat->List Nat->List (Nat×O)->Option (List (Nat×O))
 |0,_,_=>none
 |_+1,[],acc=>some acc
 |n+1,b::l,acc=>match cT acc b with
  |true=>collect ob n l acc
  |false=>match ob b with
   |some o=>collect ob n (Oo o++l) ((b,o)::acc)
   |none=>none
def Qw:List S->Bool
 |[]=>true
 |.t _::_=>false
 |_::l=>Qw l
def GU(P:RV)(rs:List XZ)(aJ:List Nat)(fr:Fr):Option (S×List (Nat×O)):=match B3 P fr rs with
 |none=>none
 |some xs=>match collect fr.ob 100000 (qe (L6 xs)++aJ) []with
  |none=>none
  |some os=>match Qw xs && (RN xs.length rs.length && (w9 os (qe (L6 xs)) && (uY os os && (vc os && w9 os aJ)))) with
   |true=>some (L6 xs,os)
   |false=>none
def evH(N:Nat)(P:RV)(tb:Tb)(ext:Nat->Nat->List S->List (Nat×O)->Option (S×List (Nat×O))):Nat->Nat->Nat->List S->List (Nat×O)->Option (S×List (Nat×O))
 |0,_,_,_,_=>none
 |m+1,id,f,xs,ob=>match ext id f xs ob with
  |some r=>some r
  |none=>match P.funcs[f]? with
   |none=>none
   |some fn=>match fn.body with
    |none=>none
    |some c=>match TX xs.length fn.ntmps with
     |true=>FF ⟨λ_ _=>none,evH N P tb ext m⟩ N P tb fn.ntmps (hintH N c) (ob.map Sf) c ⟨cC 0 xs,o0 ob,(id+1)*1000000000000⟩
       ⟨GU P fn.results.toList (ob.map Sf),λ_ _=>none,GU P fn.results.toList (ob.map Sf)⟩
     |false=>none
theorem rv{ob:Ob}:∀(n:Nat) {l:List Nat} {acc os:List (Nat×O)},(∀p∈acc,ob p.1=some p.2)->collect ob n l acc=some os->∀p∈os,ob p.1=some p.2
 |0,_,_,_,_,h=>by cases h
 |_+1,[],acc,os,ha,h=>by
  have:acc=os:=by simpa[collect]using h
  subst this;exact ha
 |n+1,b::l,acc,os,ha,h=>by
  unfold collect at h;split at h
  .exact rv n ha h
  .split at h
   .rename_i o ho
    exact rv n (λp hp=>by
     rcases RO.1 hp with rfl|hp
     .exact ho
     .exact ha p hp) h
   .cases h
theorem o5:∀{xs:List S},Qw xs=true->∀x∈xs,∀l,x≠S.t l
 |.t _::_,h,_,_,_=>by cases h
 |.c _::xs,h,x,hx,l=>by
  rcases RO.1 hx with rfl|hx
  .simp
  .exact o5 (xs:=xs) h x hx l
 |.a _ _::xs,h,x,hx,l=>by
  rcases RO.1 hx with rfl|hx
  .simp
  .exact o5 (xs:=xs) h x hx l
 |.g _::xs,h,x,hx,l=>by
  rcases RO.1 hx with rfl|hx
  .simp
  .exact o5 (xs:=xs) h x hx l
 |.r _ _ _::xs,h,x,hx,l=>by
  rcases RO.1 hx with rfl|hx
  .simp
  .exact o5 (xs:=xs) h x hx l
theorem SR.toSBh{M:Mem}{ρ:Nat->Option RK}{s:S}{v:RK}(h:SR M ρ s v)(hs:∀l,s≠S.t l):SB M ρ s v:=by
 cases s with
 |t l=>exact J3 rfl (hs l)
 |_=>exact h
theorem DU{M:Mem}{ρ:Nat->Option RK}:∀{xs:List S} {vs:List RK},xs.length=vs.length->(∀x∈xs,∀l,x≠S.t l)->Nu ρ M xs vs->wN M ρ xs vs
 |[],[],_,_,_=>trivial
 |x::xs,v::vs,hl,hn,h=>by
  refine⟨?_,DU (by grind) (λy hy=>hn y (RM _ hy)) λi=>h (i+1)⟩;rcases h 0 with e|⟨u,e1,e2⟩
  .have e:x=su:=e;rw[e];exact trivial
  all_goals grind [SR.toSBh,RG]
 |[],_::_,hl,_,_=>by simp at hl
 |_::_,[],hl,_,_=>by simp at hl
theorem one_SR{M:Mem}{ρ:Nat->Option RK}{xs:List S}{vs:List RK}(hl:xs.length=vs.length)(hn:∀x∈xs,∀l,x≠S.t l)(h:Nu ρ M xs vs):SR M ρ (L6 xs) (Hf vs):=by
 have hb:=DU hl hn h;unfold Hf
 match xs,vs,hl with
 |[x],[v],_ =>
  have h1:SB M ρ x v:=hb.1;have e:SR M ρ x v:=by
   cases x with
   |t l=>exact J3 rfl (hn _ (RG ..) l)
   |c c=>exact h1
   |a n ds=>exact h1
   |g cs=>exact h1
   |r n ds o=>exact h1
  exact e
 |[],[],_=>exact⟨[],rfl,trivial⟩
 |x::y::xs,v::u::vs,_=>rw[dif_neg Q2];exact⟨_,rfl,hb⟩
 |[_],_::_::_,hl=>simp at hl
 |_::_::_,[_],hl=>simp at hl
theorem retH_ok{P:RV}{rs:List XZ}{aJ:List Nat}{fr:Fr}{v:S}{os:List (Nat×O)}(h:GU P rs aJ fr=some (v,os)) :
  ∃xs,B3 P fr rs=some xs/\v=L6 xs/\(∀x∈xs,∀l,x≠S.t l)/\xs.length=rs.length/\(∀p∈os,fr.ob p.1=some p.2)/\w9 os (qe v)=true/\uY os os=true/\vc os=true/\w9 os aJ=true:=by
 unfold GU at h;split at h
 .cases h
 .rename_i xs hx;split at h
  .cases h
  .rename_i os' ho;split at h
   .rename_i hb;simp only[RE,R6]at h;obtain⟨rfl,rfl⟩:=h;simp only[RP]at hb;exact⟨xs,hx,rfl,o5 hb.1,RD hb.2.1,rv _ (λp hp=>by cases hp) ho,hb.2.2.1,hb.2.2.2.1,hb.2.2.2.2.1,hb.2.2.2.2.2⟩
   .cases h
theorem QE{N:Nat}{P:RV}{tb:Tb}{ext:Nat->Nat->List S->List (Nat×O)->Option (S×List (Nat×O))}(hT:me P tb)(hE:∀id f xs ob v os,ext id f xs ob=some (v,os)->Gn P f xs ob v os)(hm:P.follows .mixedOrders=true) :
  ∀(m id f:Nat) (xs:List S) (ob:List (Nat×O)) (v:S) (os:List (Nat×O)),evH N P tb ext m id f xs ob=some (v,os)->Gn P f xs ob v os
 |0,_,_,_,_,_,_,h=>by cases h
 |m+1,id,f,xs,ob,v,os,h=>by
  unfold evH at h;split at h
  .grind
  split at h
  .cases h
  rename_i fn hf;split at h
  .cases h
  rename_i c hb;split at h
  rotate_left
  .cases h
  rename_i hlen;intro w0 Γ0 ρ M lst us w hxs hR;refine calls_of_wp hf hb ?_;have hlt:TX us.length fn.ntmps=true:=by rw[hxs.len];exact hlen
  obtain⟨s1,s2,s3⟩:=tJ fn.ntmps us hlt;have hx:=lr (Is:=j3 P) (x:=(v,os)) ⟨(λ_ _ _ h=>(by cases h)),λid f xs ob v os h=>QE hT hE hm m id f xs ob v os h⟩ c _
   ⟨λfr=>GU P fn.results.toList (ob.map Sf) fr=some (v,os),λ_ _=>False,λfr=>GU P fn.results.toList (ob.map Sf) fr=some (v,os)⟩ _ (λfr h=>h) (λ_ _ h=>by cases h) (λfr h=>h) h
  have fin:∀(fr:Fr) (a:Act) (w:R0),GU P fn.results.toList (ob.map Sf) fr=some (v,os)->vP fn.ntmps w0 Γ0 (ob.map Sf) ρ M fr a w->a.defers=[]/\∃u,(results fn a.tmps).run P w=.ok u w/\RC w0 Γ0 ρ M v os (.returned u) w:=by
   intro fr a w hk ⟨h1,h2,ρ',M',lst',hM,hkp,hR'⟩;obtain⟨ys,g1,rfl,g2,g3,g4,g5,g6,g7,g8⟩:=retH_ok hk;obtain⟨vs',r1,r2,r3⟩:=v7 h1 h2 hR' g1;have hc:=hR'.cut g4 g6;have hs:SR M' ρ' (L6 ys) (Hf vs'):=one_SR (by rw[g3,r2]) g2 r3;refine⟨h2,_,xE r1,_,qi (cT os) ρ',M',_,rfl,hM,λb u hu=>?_,hs.cut λb hb=>pD g5 b hb,⟨hc.sl,hc.ob,hc.vZ,hc.gq,hc.nd,?_,hc.gr⟩⟩
   .rcases hR.vZ b u hu with e|e
    .grind
    .have hin:b∈ob.map Sf:=oZ.1 (lb.2 e);rw[cX (pD g8 b hin)];exact hkp b hin u hu
   .refine hc.st.sub ?_
    grind
  refine lQ hT hm c (n:=fn.ntmps) (w0:=w0) (Γ0:=Γ0) (ρ:=ρ) (M:=M) hx ?_ ⟨s1,s2,ρ,M,lst,Sub.refl M,λ_ _ _ h=>h,⟨λt=>?_,hR.ob,λb u hu=>?_,hR.gq,hR.nd,hR.st,hR.gr⟩⟩
  .exact⟨λfr a w hk hh=>fin fr a w hk hh,λ_ _ _ _ h=>h.elim,λfr a w hk hh=>fin fr a w hk hh⟩
  .rcases oI 0 t hxs with h1|⟨u,e,h1,h2⟩
   .exact .inl h1
   .refine .inr ⟨u,s3 t u ?_,h2⟩;have:=nf us 0 t
    grind
  .rcases hR.vZ b u hu with e|e
   all_goals grind
end Pm
namespace Go.Proofs.YtmbboaapillefaaGreatDoor
open Go Xe Pm
theorem Px:RH.follows .mixedOrders=true:=by kernel_rfl
theorem eq42:Eq3 RH 42:=λw0 L M Γ d ty pos af g x y a b c a' b' c' hx hy=>by
 constructor <;> intro n ac w ha _
 .simp only[Sk,ha.ev hx,ha.ev hy];simp[go_sem,run_eql_struct,W7];by_cases h1:a=a' <;> by_cases h2:b=b' <;> by_cases h3:c=c' <;> simp[h1,h2,h3]
 .simp only[Sk,ha.ev hx,ha.ev hy];simp[go_sem,run_neq_struct,W7];by_cases h1:a=a' <;> by_cases h2:b=b' <;> by_cases h3:c=c' <;> simp[h1,h2,h3]
theorem key42:qw RH 42 jI:=by
 refine⟨⟨_,Xs⟩,λk b w=>?_,λk k' w=>?_⟩
 .obtain⟨x,y,z⟩:=k;have hint:∀(d:Nat) (n:Int) w,(U2 b (d+1) 3 (.int .i64 n)).run RH w=.ok () w:=by intro d n w;simp[U2,R7 Ta]
  show(U2 b (9998+1+1) 42 (.agg #[.int .i64 x,.int .i64 y,.int .i64 z])).run RH w=.ok () w;unfold U2;simp only[TP,R7 Xs,Result.andThen_ok];simp[go_sem,hint]
 .obtain⟨a,b,c⟩:=k;obtain⟨a',b',c'⟩:=k';show(Op.equalIn 10000 42 (.agg #[.int .i64 a,.int .i64 b,.int .i64 c]) (.agg #[.int .i64 a',.int .i64 b',.int .i64 c'])).run RH w=_;simp[go_sem];by_cases h1:a=a' <;> by_cases h2:b=b' <;> by_cases h3:c=c' <;> simp[h1,h2,h3]
theorem four{a:List Int}(h:a.length=4):∃x y z t,a=[x,y,z,t]:=by
 match a,h with
 |[x,y,z,t],_=>exact⟨x,y,z,t,rfl⟩
theorem eqs197:EqA RH 197 4 .i64:=λw0 L M Γ d ty pos af g x y a b ha hb hx hy=>by
 obtain⟨a1,a2,a3,a4,rfl⟩:=four ha;obtain⟨b1,b2,b3,b4,rfl⟩:=four hb;constructor <;> intro n ac w ha' _
 .simp only[Sk,ha'.ev hx,ha'.ev hy];simp[go_sem,run_eql_struct,W7];by_cases h1:a1=b1 <;> by_cases h2:a2=b2 <;> by_cases h3:a3=b3 <;> by_cases h4:a4=b4 <;> simp[h1,h2,h3,h4]
 .simp only[Sk,ha'.ev hx,ha'.ev hy];simp[go_sem,run_neq_struct,W7];by_cases h1:a1=b1 <;> by_cases h2:a2=b2 <;> by_cases h3:a3=b3 <;> by_cases h4:a4=b4 <;> simp[h1,h2,h3,h4]
abbrev kidsD:List D:=PX.map D.v
def lF:List (Nat×List D):=Kj.map λp=>(p.1,p.2.map D.v)
def lE:List (Nat×List (Int×Int)):=[(0,iM)]
def gh:List (Nat×Nat):=[(197,4)]
abbrev hP(t b:Nat):Nat×lW:=(t,.c (.p b 0))
abbrev hW(t b:Nat):Nat×lW:=(t,.c (.w b))
abbrev hI(t:Nat):Nat×lW:=(t,.c .i)
abbrev hD(t:Nat):Nat×lW:=(t,.c .d)
abbrev hB(t:Nat):Nat×lW:=(t,.c .bo)
abbrev hA(i e n:Nat):Nat×mh:=(i,.a e n)
abbrev hR(i e n:Nat):Nat×mh:=(i,.w e n)
abbrev hZ:qj:=⟨[],[],[]⟩
abbrev cF(l:List bC):Tb:=⟨l,[42],[],[],lF,lE,false,gh,false,false,[]⟩
theorem A0{v:Nat}{ds:List D}:∀{l:List (Nat×List RK)},yC v (l.map λp=>(p.1,p.2.map D.v))=some ds->∃us,(v,us)∈l/\ds=us.map D.v
 |[],h=>by cases h
 |p::l,h=>by
  rw[Sb]at h;unfold yC at h;split at h
  .rename_i hv;obtain rfl:=RD hv;simp only[RE]at h;exact⟨p.2,RG ..,h.symm⟩
  .obtain⟨us,h1,h2⟩:=A0 h;exact⟨us,RM _ h1,h2⟩
theorem one22:∀p∈Kj,∀u∈p.2,Value.oneCell' u=true:=Q1
theorem one_gm{v:Nat}{l:List (Int×Int)}(h:AZ v [(0,iM)]=some l):v=0/\l=iM:=by
 simp only[AZ]at h;split at h
 .rename_i hv;exact⟨RD hv,by simpa using h.symm⟩
 .cases h
theorem one_eqs{t n:Nat}(h:Fy t [(197,4)]=some n):t=197/\n=4:=by
 simp only[Fy]at h;split at h
 .rename_i hv;exact⟨RD hv,by simpa using h.symm⟩
 .cases h
theorem NN(l:List bC)(dp:List Nat)(hp nd ic:Bool)(cs:List Nat):me RH ⟨l,[42],dp,[],lF,lE,hp,gh,nd,ic,cs⟩:=⟨λt h=>by
 simp only[Yi,ZN,Zy]at h;rw[RD h];exact eq42,λt h=>by
 simp only[Yi,ZN,Zy]at h;rw[RD h];exact key42,λt n e kd h hn he=>by simp at h,λv ds h M hM=>by
 obtain⟨us,h1,rfl⟩:=A0 h;refine⟨us,⟨Q2,λk d u hd hu=>?_⟩,λi u hu=>hM.gl _ h1 i u hu⟩;rw[List.getElem?_map,hu]at hd;simp only[UT,RE]at hd;subst hd;unfold Rd;exact⟨rfl,one22 _ h1 u (List.mem_of_getElem? hu)⟩,λv l h M hM=>by
 obtain⟨hv,rfl⟩:=one_gm h;subst hv;obtain⟨m,es,c,l',e1,e2,e3,e4⟩:=hM.gm;exact⟨m,es,c,l',e1,e2,e3,e4,Q1⟩,λt n h=>by
 obtain⟨ht,rfl⟩:=one_eqs h;subst ht
 exact eqs197⟩
abbrev vK(k:Tl)(z:Int):D:=.v (.int k z)
abbrev ds(n:Nat):List jx:=Sj n .d
abbrev Tx:=Cx->bT->(bT->Prop)->Prop
def Wd(tb:Tb)(H:qj)(s:bC)(g:Tx):Prop:=∀Is a K,fnX Is RH tb H s a K=g Is a K
theorem Wk{tb:Tb}{H:qj}{s:bC}{g:Tx}(h:∀Is a K,fnX Is RH tb H s a K=g Is a K:=by intro _ _ _;kernel_rfl):Wd tb H s g:=h
theorem Wd.is{l:List bC}{dp:List Nat}{nd:Bool}{H:qj}{s:bC}{g:Tx}(w:Wd ⟨l,[42],dp,[],lF,lE,false,gh,nd,false,[]⟩ H s g){a r:bT}(h:g (j3 RH) a λst=>st=r)(hu:cu bg (jE s) r (λ_=>True):=by exact trivial):Pm.Is RH s a r:=Qu (NN ..) Px (H:=H) (by rw[w];exact h) hu
theorem Wd.some{l:List bC}{dp:List Nat}{H:qj}{s:bC}{g:Tx}(w:Wd ⟨l,[42],dp,[],lF,lE,false,gh,false,false,[]⟩ H s g){a:bT}{K:bT->Prop}(h:g (j3 RH) a K)(hu:∀r,K r->cu bg (jE s) r λ_=>True):∃r,K r/\Pm.Is RH s a r:=Kl rfl (NN ..) Px (H:=H) (by rw[w];exact h) hu
set_option maxRecDepth 100000
abbrev s8:bC:=⟨8,⟨[hD 0],[]⟩,.a 2,[],false⟩
abbrev rC:bC:=⟨29,⟨[hD 0,hI 1,hI 2],[]⟩,.c .i,[],true⟩
abbrev s22:bC:=⟨22,⟨[hI 0,hI 1],[]⟩,.c .i,[],true⟩
abbrev nN:bC:=⟨30,⟨[hI 0],[]⟩,.a 3,[],false⟩
abbrev s31:bC:=⟨31,⟨[hD 0,hI 1],[]⟩,.c (.w 0),[hR 0 85 11],false⟩
abbrev xr:bC:=⟨112,⟨[(0,.a 3)],[]⟩,.a 5,[],false⟩
abbrev tM:bC:=⟨113,⟨[hI 0,(1,.a 5),(2,.a 5)],[]⟩,.a 5,[],false⟩
abbrev tL:bC:=⟨114,⟨[(0,.a 5)],[]⟩,.g [.d,.d,.d,.d,.w 0],[hR 0 46 5],false⟩
abbrev s115:bC:=⟨115,⟨[hD 0,hI 1,(2,.a 5)],[]⟩,.t [.c (.w 0),.c (.w 1)],[hR 0 46 5,hR 1 3 1],false⟩
abbrev lC:bC:=⟨32,⟨[hP 0 0,(1,.a 5),hD 2,hI 3],[(0,.b 88 (.d::.w 1::ds 9)),hR 1 52 31]⟩,.g (ds 14++[.w 2]),[hR 2 9 1,(0,.b 88 (.d::.w 1::ds 9)),hR 1 52 31],false⟩
abbrev s116:bC:=⟨116,⟨[hP 0 0,hI 1],[(0,.b 88 (.d::.w 1::ds 9)),hR 1 52 31]⟩,.c .i,[(0,.b 88 (.d::.w 1::ds 9)),hR 1 52 31],false⟩
abbrev s117:bC:=⟨117,⟨[hD 0,(1,.a 5)],[]⟩,.c (.w 0),[hR 0 90 9],false⟩
abbrev zJ:bC:=⟨186,⟨[(0,.a 5),(1,.a 5)],[]⟩,.c .bo,[],true⟩
abbrev Lx:bC:=⟨118,⟨[hP 0 0,(1,.a 9)],[(0,.b 88 (.d::.w 1::ds 9)),hR 1 52 31]⟩,.g (ds 14++[.w 2]),[hR 2 9 1,(0,.b 88 (.d::.w 1::ds 9)),hR 1 52 31],false⟩
abbrev iv:bC:=⟨120,⟨[hP 0 0,hI 1,hI 2,hD 3],[(0,.b 88 (.d::.w 1::ds 9)),hR 1 52 31]⟩,.g (ds 14++[.w 2]),[hR 2 9 1,(0,.b 88 (.d::.w 1::ds 9)),hR 1 52 31],false⟩
abbrev Lw:bC:=⟨119,⟨[hP 0 0,(1,.a 5),hD 2,hI 3,hI 4],[(0,.b 88 (.d::.w 1::ds 9)),hR 1 52 31]⟩,.g (ds 14++[.w 2]),[hR 2 9 1,(0,.b 88 (.d::.w 1::ds 9)),hR 1 52 31],false⟩
abbrev s23:bC:=⟨23,⟨[(0,.g [.d,.w 0]),(1,.a 3)],[hR 0 52 31]⟩,.t [.a 31,.c .bo],[hR 0 52 31],false⟩
abbrev Of:bC:=⟨123,⟨[hP 0 0,(1,.a 5),hD 2,hI 3,hI 4],[(0,.b 88 (.d::.w 1::ds 9)),hR 1 52 31]⟩,.g (ds 14++[.w 2]),[hR 2 9 1,(0,.b 88 (.d::.w 1::ds 9)),hR 1 52 31],false⟩
abbrev s187:bC:=⟨187,⟨[hP 0 0,hI 1,hI 2],[(0,.b 88 (.d::.w 1::ds 9)),hR 1 52 31]⟩,.c .i,[(0,.b 88 (.d::.w 1::ds 9)),hR 1 52 31],false⟩
abbrev D9:bC:=⟨188,⟨[hP 0 0,hI 1],[(0,.b 88 (.d::.w 1::ds 9)),hR 1 52 31]⟩,.c .bo,[(0,.b 88 (.d::.w 1::ds 9)),hR 1 52 31],false⟩
abbrev zK:bC:=⟨126,⟨[hP 0 0,(1,.a 5),hD 2,hI 3,hI 4],[(0,.b 88 (.d::.w 1::ds 9)),hR 1 52 31]⟩,.g (ds 14++[.w 2]),[hR 2 9 1,(0,.b 88 (.d::.w 1::ds 9)),hR 1 52 31],false⟩
abbrev s124:bC:=⟨124,⟨[hP 0 0,(1,.a 5),hD 2,hI 3,hI 4],[(0,.b 88 (.d::.w 1::ds 9)),hR 1 52 31]⟩,.g (ds 14++[.w 2]),[hR 2 9 1,(0,.b 88 (.d::.w 1::ds 9)),hR 1 52 31],false⟩
abbrev Oe:bC:=⟨125,⟨[hP 0 0,(1,.a 5),hD 2,hI 3,hI 4],[(0,.b 88 (.d::.w 1::ds 9)),hR 1 52 31]⟩,.g (ds 14++[.w 2]),[hR 2 9 1,(0,.b 88 (.d::.w 1::ds 9)),hR 1 52 31],false⟩
abbrev Ec:bC:=⟨121,⟨[hP 0 0],[(0,.b 88 (.d::.w 1::ds 9)),hR 1 52 31]⟩,.c .d,[(0,.b 88 (.d::.w 1::ds 9)),hR 1 52 31],false⟩
abbrev Eb:bC:=⟨122,⟨[hD 0,(1,.a 9)],[]⟩,.c (.w 0),[hR 0 90 9],false⟩
abbrev s33:bC:=⟨33,⟨[(0,.a 15)],[]⟩,.c .i,[],true⟩
abbrev s34:bC:=⟨34,⟨[(0,.a 15),hW 1 0],[hR 0 3 1]⟩,.c (.w 1),[hR 1 3 1],false⟩
abbrev s35:bC:=⟨35,⟨[(0,.a 15),hW 1 0],[hR 0 42 3]⟩,.g (ds 13++[.w 1,.d]),[hR 1 50 15,hR 0 42 3],false⟩
def g8:Tx:=λIs a K=>aA Is rC [[Cz a 0],[vI 0],[vI 2]] λr1=>iK r1 0 λz2=>(λV1=>(λV14=>(λV15=>(λV18=>az (aZ (1+z2)) (ax (decide ((0:Int)<(1+z2))) (aA Is nN [[vI 0]] λr3=>(λV2=>az (0<=(0:Int)/\(0:Int)<(2:Int)) (az (aL (0+1) 89) (az (aZ (0+1:Int)) (ax (decide ((1:Int)<(1+z2))) (aA Is nN [[vI 1]] λr4=>az (0<=(1:Int)/\(1:Int)<(2:Int)) (aA Is nN [[vI 0]] λr5=>az (aL (1+1) 89) (az (aZ (1+1:Int)) (ax (decide ((2:Int)<(1+z2))) (aA Is nN [[vI 2]] λ_=>az (0<=(2:Int)/\(2:Int)<(2:Int)) (az (aL (2+1) 89) (az (aZ (2+1:Int)) (False)))) (aA Is s31 V14 λr7=>sK 11 r7 0 λn8 c9=>az (aZ ((1+z2)+n8)) (Lp (λsA g=>iK g 1 λz186=>iK g 2 λz187=>iK g 3 λD=>sK 11 g 5 λn189 c190=>sK 31 g 7 λn191 c192=>sK 3 g 8 λn193 c194=>sK 3 g 9 λn195 c196=>sK 3 g 10 λn197 c198=>(λV7=>lK D n189 (az (aZ (z186+D)) (aA Is nN [[vI (z186+D)]] λr199=>kI D n189 (kI D n189 (aA Is nN [[cell (eT c190 11 D) 10]] λr200=>kI D n189 (kI D n189 (Lp (λsy b=>iK b 1 λz203=>iK b 2 λz204=>iK b 3 λm=>iK b 4 λq=>sK 11 b 6 λL J=>sK 31 b 9 λn209 c210=>sK 11 b 10 λn211 c212=>sK 3 b 11 λn213 c214=>sK 3 b 12 λn215 c216=>sK 3 b 13 λn217 c218=>kI m L (aG 5 (cell (eT J 11 m) 2) λn219 _=>(λV16=>(λV22=>(λV23=>lK q n219 (aA Is nN [[vI z204]] λr221=>kI m L (aG 1 (cell (eT J 11 m) 3) λn222 c223=>kI q n222 (kI m L (aG 5 (cell (eT J 11 m) 2) λn224 c225=>kI q n224 (ar (cell (ae b 7) 3) λz226=>ax (decide (z226=(4:Int))) (kI m L (aG 1 (cell (eT J 11 m) 4) λn227 c228=>kI q n227 (az (aL (n211+1) 113) (oK z204 (oK q (sy [[Cz b 0],[vI z203],[vI (z204+1)],[vI m],[vI (q+1)],ae b 5,[.sl L 11 J],cls (ae b 7) 0 30 [],cls (ae b 8) 0 9 [],[.sl n209 31 c210],[.sl (n211+1) 11 (c212++(cls (ae r221 0) 0 3 (cell (eT c223 1 q) 0::cls (eT c225 5 q) 0 5 [cell (eT c228 1 q) 0,vI q])))],V23,V16,V22])))))) (az (aL (n211+1) 113) (oK z204 (oK q (sy [[Cz b 0],[vI z203],[vI (z204+1)],[vI m],[vI (q+1)],ae b 5,[.sl L 11 J],cls (ae b 7) 0 30 [],cls (ae b 8) 0 9 [],[.sl n209 31 c210],[.sl (n211+1) 11 (c212++(cls (ae r221 0) 0 3 (cell (eT c223 1 q) 0::cls (eT c225 5 q) 0 5 [vI 0,vI q])))],V23,V16,V22]))))))))) (az (aL (n209+1) 353) (kI m L (kI m L (ar (cell (eT J 11 m) 10) λz229=>(λV6=>az (0<=z229/\z229<((2:Nat):Int)) (ax (decide (z229=((0:Nat):Int))) (az (aL (n213+1) 25) (ar (cell (eT J 11 m) 10) λz230=>az (0<=z230/\z230<((2:Nat):Int)) (ax (decide (z230=((0:Nat):Int))) (oK m (sA [[Cz b 0],[vI z203],[vI z204],[vI (m+1)],ae b 5,[.sl L 11 J],cls (ae b 8) 0 9 [],V6,[.sl (n213+1) 3 (c214++(cls (ae b 7) 0 3 []))],V16,V22])) (ax (decide (z230=((1:Nat):Int))) (oK m (False)) (False))))) (ax (decide (z229=((1:Nat):Int))) (az (aL (n217+1) 25) (ar (cell (eT J 11 m) 10) λz231=>az (0<=z231/\z231<((2:Nat):Int)) (ax (decide (z231=((0:Nat):Int))) (oK m (False)) (ax (decide (z231=((1:Nat):Int))) (oK m (sA [[Cz b 0],[vI z203],[vI z204],[vI (m+1)],ae b 5,[.sl L 11 J],cls (ae b 8) 0 9 [],V6,V23,V16,[.sl (n217+1) 3 (c218++(cls (ae b 7) 0 3 []))]])) (False))))) (False)))) [.sl (n209+1) 31 (c210++(cls (ae b 7) 0 8 (.sl n211 11 c212::cls (ae b 7) 8 22 [])))]))))) [.sl n213 3 c214]) [.sl n217 3 c218]) [.sl n215 3 c216])) [[Cz g 0],[vI z186],[vI z187],[vI D],[vI 0],ae g 4,[.sl n189 11 c190],cls (ae r199 0) 0 3 (cell (eT c190 11 D) 0::cls (ae r200 0) 0 3 (cell (eT c190 11 D) 1::cls (sub (eT c190 11 D) 5 5) 0 5 (V1))),cls (ae g 6) 0 9 [],[.sl n191 31 c192],[.sl 0 11 []],[.sl n193 3 c194],[.sl n195 3 c196],[.sl n197 3 c198]])))))) (Lp (λP i=>iK i 0 λz234=>iK i 1 λM=>sK 31 i 5 λn236 c237=>(λV21=>lK M n236 (kI M n236 (ar (cell (eT c237 31 M) 3) λz238=>(λV10=>ax (decide (z238=(0:Int))) (oK M (P V10)) (ar (cell (eT c237 31 M) 3) λz239=>ax (decide (z239=(1:Int))) (oK M (P V10)) (Lp (λCu d=>iK d 0 λz242=>iK d 1 λw=>iK d 2 λz244=>sK 9 d 7 λn245 c246=>sK 31 d 8 λn247 c248=>aG 11 (cell (ae d 6) 8) λn249 _=>lK z244 n249 (aG 11 (cell (ae d 6) 8) λn251 c252=>kI z244 n251 (aG 11 (cell (ae d 6) 8) λn253 c254=>kI z244 n253 (az (aL (n245+1) 89) (oK z244 (Cu [[vI z242],[vI w],[vI (z244+1)],ae d 3,[Cz d 4],cls (ae d 5) 0 10 [],ae d 6,[.sl (n245+1) 9 (c246++(cls (sub (eT c252 11 z244) 0 3) 0 3 (vI 0::cls (sub (eT c254 11 z244) 4 5) 0 5 [])))],[.sl n247 31 c248]]))))) (aA Is lC [sub (ae d 6) 9 5,[.sl n245 9 c246],[vI 4],cls (ae d 5) 0 4 (vI 14::vI w::cls (sub (ae d 6) 4 3) 0 3 [vI 0]),[.sl n247 31 c248]] λU=>sK 1 U 1 λn256 c257=>sK 31 U 3 λn258 c259=>(λV5=>kI w n258 (kI w n258 (aA Is s33 [sub (el V5 31 (RF w)) 14 15] λr260=>iK r260 0 λz261=>ax (decide ((30:Int)<z261)) (aA Is lC [sub (ae d 6) 9 5,[.sl n245 9 c246],[vI 0],cls (ae U 2) 0 4 (vI 0::cls (ae U 2) 5 5 []),[.sl n258 31 V5]] λr262=>sK 1 r262 1 λn263 c264=>sK 31 r262 3 λn265 c266=>kI w n265 (oK w (P [[vI z242],[vI (w+1)],ae d 3,[Cz d 4],cls (ae r262 2) 0 10 [],[.sl n265 31 (cB c266 ((RF w)*31+14) (cls (ae r262 0) 0 14 [.sl n263 1 c264]))]]))) (oK w (P [[vI z242],[vI (w+1)],ae d 3,[Cz d 4],cls (ae U 2) 0 10 [],[.sl n258 31 V5]]))))) (cB c259 ((RF w)*31+14) (cls (ae U 0) 0 14 [.sl n256 1 c257])))) [[vI z234],[vI M],[vI 0],ae i 2,[Cz i 3],cls (ae i 4) 0 10 [],eT c237 31 M,[.sl 0 9 []],V21]))) [[vI z234],[vI (M+1)],ae i 2,[Cz i 3],cls (ae i 4) 0 10 [],V21])) (ar (cell (ae i 4) 3) λz267=>ar (cell (ae i 4) 3) λz268=>az (0<=z267/\z267=z268/\aL (RF z267) 25) (Lp (λj6 r=>iK r 0 λz271=>iK r 1 λE=>sK 3 r 4 λn273 c274=>sK 31 r 5 λV c276=>lK E V (kI E V (ar (cell (eT c276 31 E) 3) λz277=>(λV13=>ax (decide (z277=(0:Int))) (oK E (j6 V13)) (kI E V (ar (cell (eT c276 31 E) 3) λz278=>ax (decide (z278=(1:Int))) (oK E (j6 V13)) (kI E V (aA Is s34 [sub (eT c276 31 E) 14 15,[.sl 0 1 []]] λr279=>sK 1 r279 0 λn280 c281=>Lp (λCt z=>iK z 0 λz284=>iK z 1 λz285=>iK z 2 λz286=>sK 3 z 5 λn287 c288=>sK 1 z 6 λn289 c290=>sK 31 z 7 λn291 c292=>lK z286 n289 (kI z286 n289 (aA Is nN [[vI z284]] λr293=>ar (cell (eT c290 1 z286) 0) λz294=>kI z294 n287 (oK z284 (oK z286 (Ct [[vI (z284+1)],[vI z285],[vI (z286+1)],ae z 3,[Cz z 4],[.sl n287 3 (cB c288 ((RF z294)*3+0) (ae r293 0))],[.sl n289 1 c290],[.sl n291 31 c292]]))))) (kI z285 n291 (aA Is s35 [sub (eT c292 31 z285) 14 15,[.sl n287 3 c288]] λr295=>sK 15 r295 1 λn296 c297=>sK 3 r295 2 λn298 c299=>kI z285 n291 (oK z285 (j6 [[vI z284],[vI (z285+1)],ae z 3,[Cz z 4],[.sl n298 3 c299],[.sl n291 31 (cB c292 ((RF z285)*31+14) (cls (ae r295 0) 0 13 [.sl n296 15 c297,cell (ae r295 0) 13]))]]))))) [[vI z271],[vI E],[vI 0],ae r 2,[Cz r 3],[.sl n273 3 c274],[.sl n280 1 c281],[.sl V 31 c276]]))))) [[vI z271],[vI (E+1)],ae r 2,[Cz r 3],[.sl n273 3 c274],[.sl V 31 c276]])) (K [[Cz r 3,.sl V 31 c276]])) [[vI z234],[vI 0],ae i 2,[Cz i 3],[.sl (RF z267) 3 (T6 (Sj (RF z267) V18))],V21]))) [.sl n236 31 c237]) [[vI z187],[vI 0],ae g 4,[.sl 2 6 V7],[.sl 2 6 V7,Cz g 0,vI 24,vI 0,vI 0,vI 0,vI 0,vI 0,vI 0,vI 0],[.sl n191 31 c192]])) (cls (ae g 6) 0 5 (.sl n193 3 c194::cls (ae g 6) 5 4 [.sl n195 3 c196,.sl n197 3 c198]))) [[Cz a 0],[vI (1+z2)],[vI ((1+z2)+n8)],[vI 0],V15,[.sl n8 11 c9],cls (ae r3 0) 0 3 (cell (el (V2) 1 0) 0::.sl 0 3 []::cls (ae r4 0) 0 3 ([cell (el (V2) 1 1) 0])),[.sl 0 31 []],[.sl 0 3 []],[.sl 1 3 ((ae r5 0)++[])],[.sl 0 3 []]])))))) (aA Is s31 V14 λr300=>sK 11 r300 0 λn301 c302=>az (aZ ((1+z2)+n301)) (Lp (λCs n=>iK n 1 λz438=>iK n 2 λz439=>iK n 3 λF=>sK 11 n 5 λn441 c442=>sK 31 n 7 λn443 c444=>sK 3 n 8 λn445 c446=>(λV17=>lK F n441 (az (aZ (z438+F)) (aA Is nN [[vI (z438+F)]] λr447=>kI F n441 (kI F n441 (aA Is nN [[cell (eT c442 11 F) 10]] λr448=>kI F n441 (kI F n441 (Lp (λsw c=>iK c 1 λz451=>iK c 2 λz452=>iK c 3 λp=>iK c 4 λs=>sK 11 c 6 λQ R=>sK 31 c 9 λn457 c458=>sK 11 c 10 λn459 c460=>sK 3 c 11 λn461 c462=>kI p Q (aG 5 (cell (eT R 11 p) 2) λn463 _=>lK s n463 (aA Is nN [[vI z452]] λr465=>kI p Q (aG 1 (cell (eT R 11 p) 3) λn466 c467=>kI s n466 (kI p Q (aG 5 (cell (eT R 11 p) 2) λn468 c469=>kI s n468 (ar (cell (ae c 7) 3) λz470=>ax (decide (z470=(4:Int))) (kI p Q (aG 1 (cell (eT R 11 p) 4) λn471 c472=>kI s n471 (az (aL (n459+1) 113) (oK z452 (oK s (sw [[Cz c 0],[vI z451],[vI (z452+1)],[vI p],[vI (s+1)],ae c 5,[.sl Q 11 R],cls (ae c 7) 0 30 [],cls (ae c 8) 0 5 [],[.sl n457 31 c458],[.sl (n459+1) 11 (c460++(cls (ae r465 0) 0 3 (cell (eT c467 1 s) 0::cls (eT c469 5 s) 0 5 [cell (eT c472 1 s) 0,vI s])))],[.sl n461 3 c462]])))))) (az (aL (n459+1) 113) (oK z452 (oK s (sw [[Cz c 0],[vI z451],[vI (z452+1)],[vI p],[vI (s+1)],ae c 5,[.sl Q 11 R],cls (ae c 7) 0 30 [],cls (ae c 8) 0 5 [],[.sl n457 31 c458],[.sl (n459+1) 11 (c460++(cls (ae r465 0) 0 3 (cell (eT c467 1 s) 0::cls (eT c469 5 s) 0 5 [vI 0,vI s])))],[.sl n461 3 c462]]))))))))) (az (aL (n457+1) 353) (kI p Q (kI p Q (ar (cell (eT R 11 p) 10) λz473=>az (0<=z473/\z473<((1:Nat):Int)) (ax (decide (z473=((0:Nat):Int))) (az (aL (n461+1) 25) (ar (cell (eT R 11 p) 10) λz474=>az (0<=z474/\z474<((1:Nat):Int)) (ax (decide (z474=((0:Nat):Int))) (oK p (Cs [[Cz c 0],[vI z451],[vI z452],[vI (p+1)],ae c 5,[.sl Q 11 R],cls (ae c 8) 0 5 [],[.sl (n457+1) 31 (c458++(cls (ae c 7) 0 8 (.sl n459 11 c460::cls (ae c 7) 8 22 [])))],[.sl (n461+1) 3 (c462++(cls (ae c 7) 0 3 []))]])) (False)))) (False)))))))) [[Cz n 0],[vI z438],[vI z439],[vI F],[vI 0],ae n 4,[.sl n441 11 c442],cls (ae r447 0) 0 3 (cell (eT c442 11 F) 0::cls (ae r448 0) 0 3 (cell (eT c442 11 F) 1::cls (sub (eT c442 11 F) 5 5) 0 5 (V1))),cls (ae n 6) 0 5 [],[.sl n443 31 c444],[.sl 0 11 []],[.sl n445 3 c446]])))))) (Lp (λS j=>iK j 0 λz477=>iK j 1 λN=>sK 31 j 5 λn479 c480=>(λV20=>lK N n479 (kI N n479 (ar (cell (eT c480 31 N) 3) λz481=>(λV9=>ax (decide (z481=(0:Int))) (oK N (S V9)) (ar (cell (eT c480 31 N) 3) λz482=>ax (decide (z482=(1:Int))) (oK N (S V9)) (Lp (λnext483 e=>iK e 0 λz485=>iK e 1 λx=>iK e 2 λz487=>sK 9 e 7 λn488 c489=>sK 31 e 8 λn490 c491=>aG 11 (cell (ae e 6) 8) λn492 _=>lK z487 n492 (aG 11 (cell (ae e 6) 8) λn494 c495=>kI z487 n494 (aG 11 (cell (ae e 6) 8) λn496 c497=>kI z487 n496 (az (aL (n488+1) 89) (oK z487 (next483 [[vI z485],[vI x],[vI (z487+1)],ae e 3,[Cz e 4],cls (ae e 5) 0 10 [],ae e 6,[.sl (n488+1) 9 (c489++(cls (sub (eT c495 11 z487) 0 3) 0 3 (vI 0::cls (sub (eT c497 11 z487) 4 5) 0 5 [])))],[.sl n490 31 c491]]))))) (aA Is lC [sub (ae e 6) 9 5,[.sl n488 9 c489],[vI 4],cls (ae e 5) 0 4 (vI 14::vI x::cls (sub (ae e 6) 4 3) 0 3 [vI 0]),[.sl n490 31 c491]] λW=>sK 1 W 1 λn499 c500=>sK 31 W 3 λn501 c502=>(λV4=>kI x n501 (kI x n501 (aA Is s33 [sub (el V4 31 (RF x)) 14 15] λr503=>iK r503 0 λz504=>ax (decide ((30:Int)<z504)) (aA Is lC [sub (ae e 6) 9 5,[.sl n488 9 c489],[vI 0],cls (ae W 2) 0 4 (vI 0::cls (ae W 2) 5 5 []),[.sl n501 31 V4]] λr505=>sK 1 r505 1 λn506 c507=>sK 31 r505 3 λn508 c509=>kI x n508 (oK x (S [[vI z485],[vI (x+1)],ae e 3,[Cz e 4],cls (ae r505 2) 0 10 [],[.sl n508 31 (cB c509 ((RF x)*31+14) (cls (ae r505 0) 0 14 [.sl n506 1 c507]))]]))) (oK x (S [[vI z485],[vI (x+1)],ae e 3,[Cz e 4],cls (ae W 2) 0 10 [],[.sl n501 31 V4]]))))) (cB c502 ((RF x)*31+14) (cls (ae W 0) 0 14 [.sl n499 1 c500])))) [[vI z477],[vI N],[vI 0],ae j 2,[Cz j 3],cls (ae j 4) 0 10 [],eT c480 31 N,[.sl 0 9 []],V20]))) [[vI z477],[vI (N+1)],ae j 2,[Cz j 3],cls (ae j 4) 0 10 [],V20])) (ar (cell (ae j 4) 3) λz510=>ar (cell (ae j 4) 3) λz511=>az (0<=z510/\z510=z511/\aL (RF z510) 25) (Lp (λCr t=>iK t 0 λz514=>iK t 1 λG=>sK 3 t 4 λn516 c517=>sK 31 t 5 λX c519=>lK G X (kI G X (ar (cell (eT c519 31 G) 3) λz520=>(λV12=>ax (decide (z520=(0:Int))) (oK G (Cr V12)) (kI G X (ar (cell (eT c519 31 G) 3) λz521=>ax (decide (z521=(1:Int))) (oK G (Cr V12)) (kI G X (aA Is s34 [sub (eT c519 31 G) 14 15,[.sl 0 1 []]] λr522=>sK 1 r522 0 λn523 c524=>Lp (λnext525 A=>iK A 0 λz527=>iK A 1 λz528=>iK A 2 λz529=>sK 3 A 5 λn530 c531=>sK 1 A 6 λn532 c533=>sK 31 A 7 λn534 c535=>lK z529 n532 (kI z529 n532 (aA Is nN [[vI z527]] λr536=>ar (cell (eT c533 1 z529) 0) λz537=>kI z537 n530 (oK z527 (oK z529 (next525 [[vI (z527+1)],[vI z528],[vI (z529+1)],ae A 3,[Cz A 4],[.sl n530 3 (cB c531 ((RF z537)*3+0) (ae r536 0))],[.sl n532 1 c533],[.sl n534 31 c535]]))))) (kI z528 n534 (aA Is s35 [sub (eT c535 31 z528) 14 15,[.sl n530 3 c531]] λr538=>sK 15 r538 1 λn539 c540=>sK 3 r538 2 λn541 c542=>kI z528 n534 (oK z528 (Cr [[vI z527],[vI (z528+1)],ae A 3,[Cz A 4],[.sl n541 3 c542],[.sl n534 31 (cB c535 ((RF z528)*31+14) (cls (ae r538 0) 0 13 [.sl n539 15 c540,cell (ae r538 0) 13]))]]))))) [[vI z514],[vI G],[vI 0],ae t 2,[Cz t 3],[.sl n516 3 c517],[.sl n523 1 c524],[.sl X 31 c519]]))))) [[vI z514],[vI (G+1)],ae t 2,[Cz t 3],[.sl n516 3 c517],[.sl X 31 c519]])) (K [[Cz t 3,.sl X 31 c519]])) [[vI z477],[vI 0],ae j 2,[Cz j 3],[.sl (RF z510) 3 (T6 (Sj (RF z510) V18))],V20]))) [.sl n479 31 c480]) [[vI z439],[vI 0],ae n 4,[.sl 1 6 V17],[.sl 1 6 V17,Cz n 0,vI 24,vI 0,vI 0,vI 0,vI 0,vI 0,vI 0,vI 0],[.sl n443 31 c444]])) (cls (ae n 6) 0 5 [.sl n445 3 c446])) [[Cz a 0],[vI (1+z2)],[vI ((1+z2)+n301)],[vI 0],V15,[.sl n301 11 c302],cls (ae r3 0) 0 3 ([cell (el (V2) 1 0) 0,.sl 0 3 []]),[.sl 0 31 []],[.sl 0 3 []]])))))) [vS (Se #[99,111,114,101]),vS (Se #[109,105,108,108])]) (aA Is s31 V14 λr543=>sK 11 r543 0 λn544 c545=>az (aZ ((1+z2)+n544)) (Lp (λ_ o=>iK o 1 λz548=>iK o 2 λz549=>iK o 3 λH=>sK 11 o 6 λn551 c552=>sK 31 o 7 λn553 c554=>lK H n551 (az (aZ (z548+H)) (aA Is nN [[vI (z548+H)]] λr555=>kI H n551 (kI H n551 (aA Is nN [[cell (eT c552 11 H) 10]] λr556=>kI H n551 (kI H n551 (Lp (λsr h=>iK h 1 λz584=>iK h 2 λz585=>iK h 3 λC=>iK h 4 λu=>sK 11 h 7 λY c589=>sK 31 h 9 λn590 c591=>sK 11 h 10 λn592 c593=>kI C Y (aG 5 (cell (eT c589 11 C) 2) λn594 _=>lK u n594 (aA Is nN [[vI z585]] λr596=>kI C Y (aG 1 (cell (eT c589 11 C) 3) λn597 c598=>kI u n597 (kI C Y (aG 5 (cell (eT c589 11 C) 2) λn599 c600=>kI u n599 (ar (cell (ae h 8) 3) λz601=>ax (decide (z601=(4:Int))) (kI C Y (aG 1 (cell (eT c589 11 C) 4) λn602 c603=>kI u n602 (az (aL (n592+1) 113) (oK z585 (oK u (sr [[Cz h 0],[vI z584],[vI (z585+1)],[vI C],[vI (u+1)],ae h 5,[Cz h 6],[.sl Y 11 c589],cls (ae h 8) 0 30 [],[.sl n590 31 c591],[.sl (n592+1) 11 (c593++(cls (ae r596 0) 0 3 (cell (eT c598 1 u) 0::cls (eT c600 5 u) 0 5 [cell (eT c603 1 u) 0,vI u])))]])))))) (az (aL (n592+1) 113) (oK z585 (oK u (sr [[Cz h 0],[vI z584],[vI (z585+1)],[vI C],[vI (u+1)],ae h 5,[Cz h 6],[.sl Y 11 c589],cls (ae h 8) 0 30 [],[.sl n590 31 c591],[.sl (n592+1) 11 (c593++(cls (ae r596 0) 0 3 (cell (eT c598 1 u) 0::cls (eT c600 5 u) 0 5 [vI 0,vI u])))]]))))))))) (az (aL (n590+1) 353) (kI C Y (kI C Y (ar (cell (eT c589 11 C) 10) λz604=>sK 6 h 6 λn605 _=>kI z604 n605 (False))))))) [[Cz o 0],[vI z548],[vI z549],[vI H],[vI 0],ae o 4,[Cz o 5],[.sl n551 11 c552],cls (ae r555 0) 0 3 (cell (eT c552 11 H) 0::cls (ae r556 0) 0 3 (cell (eT c552 11 H) 1::cls (sub (eT c552 11 H) 5 5) 0 5 (V1))),[.sl n553 31 c554],[.sl 0 11 []]])))))) (Lp (λT l=>iK l 0 λz609=>iK l 1 λO=>sK 31 l 5 λn611 c612=>(λV19=>lK O n611 (kI O n611 (ar (cell (eT c612 31 O) 3) λz613=>(λV8=>ax (decide (z613=(0:Int))) (oK O (T V8)) (ar (cell (eT c612 31 O) 3) λz614=>ax (decide (z614=(1:Int))) (oK O (T V8)) (Lp (λnext615 f=>iK f 0 λz617=>iK f 1 λy=>iK f 2 λz619=>sK 9 f 7 λn620 c621=>sK 31 f 8 λn622 c623=>aG 11 (cell (ae f 6) 8) λn624 _=>lK z619 n624 (aG 11 (cell (ae f 6) 8) λn626 c627=>kI z619 n626 (aG 11 (cell (ae f 6) 8) λn628 c629=>kI z619 n628 (az (aL (n620+1) 89) (oK z619 (next615 [[vI z617],[vI y],[vI (z619+1)],ae f 3,[Cz f 4],cls (ae f 5) 0 10 [],ae f 6,[.sl (n620+1) 9 (c621++(cls (sub (eT c627 11 z619) 0 3) 0 3 (vI 0::cls (sub (eT c629 11 z619) 4 5) 0 5 [])))],[.sl n622 31 c623]]))))) (aA Is lC [sub (ae f 6) 9 5,[.sl n620 9 c621],[vI 4],cls (ae f 5) 0 4 (vI 14::vI y::cls (sub (ae f 6) 4 3) 0 3 [vI 0]),[.sl n622 31 c623]] λZ=>sK 1 Z 1 λn631 c632=>sK 31 Z 3 λn633 c634=>(λV3=>kI y n633 (kI y n633 (aA Is s33 [sub (el V3 31 (RF y)) 14 15] λr635=>iK r635 0 λz636=>ax (decide ((30:Int)<z636)) (aA Is lC [sub (ae f 6) 9 5,[.sl n620 9 c621],[vI 0],cls (ae Z 2) 0 4 (vI 0::cls (ae Z 2) 5 5 []),[.sl n633 31 V3]] λr637=>sK 1 r637 1 λn638 c639=>sK 31 r637 3 λn640 c641=>kI y n640 (oK y (T [[vI z617],[vI (y+1)],ae f 3,[Cz f 4],cls (ae r637 2) 0 10 [],[.sl n640 31 (cB c641 ((RF y)*31+14) (cls (ae r637 0) 0 14 [.sl n638 1 c639]))]]))) (oK y (T [[vI z617],[vI (y+1)],ae f 3,[Cz f 4],cls (ae Z 2) 0 10 [],[.sl n633 31 V3]]))))) (cB c634 ((RF y)*31+14) (cls (ae Z 0) 0 14 [.sl n631 1 c632])))) [[vI z609],[vI O],[vI 0],ae l 2,[Cz l 3],cls (ae l 4) 0 10 [],eT c612 31 O,[.sl 0 9 []],V19]))) [[vI z609],[vI (O+1)],ae l 2,[Cz l 3],cls (ae l 4) 0 10 [],V19])) (ar (cell (ae l 4) 3) λz642=>ar (cell (ae l 4) 3) λz643=>az (0<=z642/\z642=z643/\aL (RF z642) 25) (Lp (λCq v=>iK v 0 λz646=>iK v 1 λI=>sK 3 v 4 λn648 c649=>sK 31 v 5 λn650 c651=>lK I n650 (kI I n650 (ar (cell (eT c651 31 I) 3) λz652=>(λV11=>ax (decide (z652=(0:Int))) (oK I (Cq V11)) (kI I n650 (ar (cell (eT c651 31 I) 3) λz653=>ax (decide (z653=(1:Int))) (oK I (Cq V11)) (kI I n650 (aA Is s34 [sub (eT c651 31 I) 14 15,[.sl 0 1 []]] λr654=>sK 1 r654 0 λn655 c656=>Lp (λnext657 B=>iK B 0 λz659=>iK B 1 λz660=>iK B 2 λz661=>sK 3 B 5 λn662 c663=>sK 1 B 6 λn664 c665=>sK 31 B 7 λn666 c667=>lK z661 n664 (kI z661 n664 (aA Is nN [[vI z659]] λr668=>ar (cell (eT c665 1 z661) 0) λz669=>kI z669 n662 (oK z659 (oK z661 (next657 [[vI (z659+1)],[vI z660],[vI (z661+1)],ae B 3,[Cz B 4],[.sl n662 3 (cB c663 ((RF z669)*3+0) (ae r668 0))],[.sl n664 1 c665],[.sl n666 31 c667]]))))) (kI z660 n666 (aA Is s35 [sub (eT c667 31 z660) 14 15,[.sl n662 3 c663]] λr670=>sK 15 r670 1 λn671 c672=>sK 3 r670 2 λn673 c674=>kI z660 n666 (oK z660 (Cq [[vI z659],[vI (z660+1)],ae B 3,[Cz B 4],[.sl n673 3 c674],[.sl n666 31 (cB c667 ((RF z660)*31+14) (cls (ae r670 0) 0 13 [.sl n671 15 c672,cell (ae r670 0) 13]))]]))))) [[vI z646],[vI I],[vI 0],ae v 2,[Cz v 3],[.sl n648 3 c649],[.sl n655 1 c656],[.sl n650 31 c651]]))))) [[vI z646],[vI (I+1)],ae v 2,[Cz v 3],[.sl n648 3 c649],[.sl n650 31 c651]])) (K [[Cz v 3,.sl n650 31 c651]])) [[vI z609],[vI 0],ae l 2,[Cz l 3],[.sl (RF z642) 3 (T6 (Sj (RF z642) V18))],V19]))) [.sl n611 31 c612]) [[vI z549],[vI 0],ae o 4,[Cz o 5],[Cz o 5,Cz o 0,vI 24,vI 0,vI 0,vI 0,vI 0,vI 0,vI 0,vI 0],[.sl n553 31 c554]])) [[Cz a 0],[vI (1+z2)],[vI ((1+z2)+n544)],[vI 0],V15,[.sl 0 6 []],[.sl n544 11 c545],[.sl 0 31 []]])))) [vI 0,vI 0,vI 0]) [.sl 0 6 [],.sl 0 31 []]) [[Cz a 0],[vI (1+z2)]]) [vI 0,vI 0,vI 0,vI 0,vI 0,vI 0,vI 0,vI 0,vI 0,vI 0,vI 0,vI 0,.sl 0 5 [],.sl 0 15 [],.sl 0 1 [],vI 0,.sl 0 1 []]
theorem w8:Wd ⟨[rC,nN,s31,lC,s33,s34,s35],[42],[23],[],lF,lE,false,gh,false,false,[]⟩ ⟨[(13,⟨[hD 0,hP 2 0,hI 3,hP 4 1,hW 7 2,hI 8,hI 9],[hA 0 26 2,(1,.b 26 [.w 3,.w 4]),hR 2 85 11,(3,.v 60 6 1 (ds 5++[.w 5])),hR 4 52 31,hR 5 42 3]⟩),(13,⟨[hD 0,hP 2 0,hI 3,hP 4 1,hW 7 2,hI 8,hI 9],[hA 0 26 2,(1,.b 26 [.w 3,.w 4]),hR 2 85 11,(3,.v 60 6 2 (ds 5++[.w 5,.d,.d,.d,.d,.w 6,.w 7])),hR 4 52 31,hR 5 42 3,hR 6 42 3,hR 7 42 3]⟩),(13,⟨[hD 0,hP 2 0,hI 3,hP 4 1,hW 7 2,hI 8,hI 9],[hA 0 26 2,(1,.b 26 [.d,.w 3]),hR 2 85 11,hR 3 52 31]⟩),(17,⟨[hD 0,hP 2 0,hI 3,hP 4 1,hW 7 2,hI 8,hI 9,hP 10 3,hI 11],[hA 0 26 2,(1,.b 26 [.w 4,.w 5]),hR 2 85 11,(3,.b 52 (.d::.d::.d::.d::.d::.d::.d::.d::.w 6::ds 22)),(4,.v 60 6 1 (ds 5++[.w 7])),hR 5 52 31,hR 6 75 11,hR 7 42 3]⟩),(17,⟨[hD 0,hP 2 0,hI 3,hP 4 1,hW 7 2,hI 8,hI 9,hP 10 3,hI 11],[hA 0 26 2,(1,.b 26 [.w 4,.w 5]),hR 2 85 11,(3,.b 52 (.d::.d::.d::.d::.d::.d::.d::.d::.w 6::ds 22)),(4,.v 60 6 2 (ds 5++[.w 7,.d,.d,.d,.d,.w 8,.w 9])),hR 5 52 31,hR 6 75 11,hR 7 42 3,hR 8 42 3,hR 9 42 3]⟩),(17,⟨[hD 0,hP 2 0,hI 3,hP 4 1,hW 7 2,hI 8,hI 9,hP 10 3,hI 11],[hA 0 26 2,(1,.b 26 [.d,.w 4]),hR 2 85 11,(3,.b 52 (.d::.d::.d::.d::.d::.d::.d::.d::.w 5::ds 22)),hR 4 52 31,hR 5 75 11]⟩),(28,⟨[hP 2 0,hP 4 1,hI 8,hP 13 2,hI 14],[hA 0 26 2,(1,.b 26 [.d,.w 3]),(2,.b 88 (.d::.w 3::ds 9)),hR 3 52 31]⟩),(34,⟨[hP 2 0,hP 4 1,hI 8,hP 13 2,hI 14,hP 15 3,hW 16 4,hI 17],[hA 0 26 2,(1,.b 26 [.d,.w 5]),(2,.b 88 (.d::.w 5::ds 9)),hA 3 52 31,hR 4 90 9,hR 5 52 31]⟩),(47,⟨[hP 2 0,hP 4 1,hI 8,hW 18 2,hI 19],[hA 0 26 2,(1,.b 26 [.d,.w 3]),hR 2 42 3,hR 3 52 31]⟩),(52,⟨[hP 2 0,hP 4 1,hI 8,hW 18 2,hI 19,hW 20 3,hI 21],[hA 0 26 2,(1,.b 26 [.d,.w 4]),hR 2 42 3,hR 3 3 1,hR 4 52 31]⟩)],[],[(4,3)]⟩ s8 g8:=Wk
def g29:Tx:=λIs a K=>iK a 1 λb=>iK a 2 λc=>ax (decide (b<(0:Int))) (K [[vI 0]]) (sK 1 a 0 λd _=>ax (decide ((d:Int)<=b)) (K [[vI 0]]) (sK 1 a 0 λe f=>kI b e (aA Is s22 [[cell (eT f 1 b) 0],[vI c]] λg=>iK g 0 λh=>K [[vI h]])))
theorem w29:Wd (cF [s22]) hZ rC g29:=Wk
def g22:Tx:=λ_ a K=>iK a 0 λb=>iK a 1 λd=>jn (λe=>ax (decide (b<(0:Int))) (oK b (az (aZ (-(b+1))) (e [[vI (-(b+1))],[vI d]]))) (e [[vI b],[vI d]])) (λc=>iK c 0 λg=>iK c 1 λf=>az (f≠0) (K [[vI (SC g f)]]))
theorem w22:Wd (cF []) ⟨[],[(3,⟨[hI 0,hI 1],[]⟩)],[]⟩ s22 g22:=Wk
def g30:Tx:=λ_ a K=>iK a 0 λb=>az ((32:Int)≠0/\aZ (SN b 32)) (az (aZ (1+(SN b 32))) (az ((32:Int)≠0) (K [[vI 0,vI (1+(SN b 32)),vI (SC b 32)]])))
theorem w30:Wd (cF []) hZ nN g30:=Wk
def g31:Tx:=λIs a K=>iK a 1 λz1=>aA Is rC [[Cz a 0],[vI 1],[vI 4]] λr2=>iK r2 0 λz3=>aA Is nN [[vI z1]] λr4=>aA Is xr [ae r4 0] λr5=>oK z1 (aA Is nN [[vI (z1+1)]] λr6=>aA Is xr [ae r6 0] λr7=>jn (λk8=>Lp (λo f=>iK f 1 λL=>bK f 2 λM=>iK f 3 λj=>sK 5 f 6 λE N=>aA Is rC [[Cz f 0],[vI 2],[vI 3]] λr17=>iK r17 0 λO=>az (aZ (1+O)) (ax (decide (j<(1+O))) (az (aZ (3+j)) (aA Is rC [[Cz f 0],[vI (3+j)],[vI 3]] λr19=>iK r19 0 λz20=>aA Is tM [[vI z20],ae f 4,ae f 4] λr21=>az (aL (E+1) 57) (oK j (o [[Cz f 0],[vI L],[vB M],[vI (j+1)],ae f 4,ae f 5,[.sl (E+1) 5 (N++((ae r21 0)++[]))]])))) (k8 [[Cz f 0],[vI L],[vB M],ae f 4,ae f 5,[.sl E 5 N]]))) [[Cz a 0],[vI z1],[vB (decide ((0:Int)<z3))],[vI 0],ae r5 0,ae r7 0,[.sl 0 5 []]]) (λh=>iK h 1 λz22=>bK h 2 λb23=>sK 5 h 5 λn24 c25=>(λV3=>Lp (λp c=>iK c 1 λi=>bK c 2 λq=>iK c 3 λl=>sK 5 c 6 λr F=>sK 11 c 7 λs G=>aA Is rC [[Cz c 0],[vI 6],[vI 2]] λr35=>iK r35 0 λP=>az (aZ (1+P)) (ax (decide (l<(1+P))) (az (aZ (7+l)) (aA Is rC [[Cz c 0],[vI (7+l)],[vI 4]] λr37=>iK r37 0 λz38=>aA Is tM [[vI z38],ae c 4,ae c 4] λr39=>az (aL (r+1) 57) (oK l (p [[Cz c 0],[vI i],[vB q],[vI (l+1)],ae c 4,ae c 5,[.sl (r+1) 5 (F++((ae r39 0)++[]))],[.sl s 11 G]])))) (az (aL (s+1) 161) (az (aZ (i-1)) (jn (λQ=>(λV1=>ax q (Lp (λt e=>iK e 1 λu=>bK e 2 λR=>iK e 3 λS=>iK e 4 λm=>sK 5 e 7 λH T=>sK 11 e 8 λv U=>aA Is rC [[Cz e 0],[vI 9],[vI 3]] λr52=>iK r52 0 λz53=>ax (decide (m<z53)) (az (aZ (10+m)) (aA Is rC [[Cz e 0],[vI (10+m)],[vI 4]] λr54=>iK r54 0 λz55=>aA Is tM [[vI z55],ae e 5,ae e 5] λr56=>az (aL (H+1) 57) (oK m (t [[Cz e 0],[vI u],[vB R],[vI S],[vI (m+1)],ae e 5,ae e 6,[.sl (H+1) 5 (T++((ae r56 0)++[]))],[.sl v 11 U],ae e 9])))) (az (aZ (u+2)) (aA Is nN [[vI (u+2)]] λr57=>aA Is xr [ae r57 0] λV=>az (aL (v+1) 161) (aA Is tL [V3] λW=>sK 5 W 1 λn60 c61=>az (aL (v+1+1) 161) (Q [[Cz e 0],[vI u],[vB R],[vI S],ae e 5,ae e 6,[.sl (v+1+1) 11 ((U++([vI 0,vS (Se #[83,116,97,116,101]),.sl H 5 T,.sl 3 1 ([vS (Se #[99,111,117,110,116]),vS (Se #[108,111,103]),vS (Se #[109,111,114,101])]),.sl 0 1 [],vI 0,vI 0,vI 0,vI 0,.sl 0 5 [],vI 0]))++([vI 0,vS (Se #[79,117,116]),.sl 3 5 ((ae V 0)++(cls (ae W 0) 0 4 ([.sl n60 5 c61,vI 0,vI 0,vI 0,vI 0,.sl 0 5 []]))),.sl 3 1 ([vS (Se #[115,116,97,116,101]),vS (Se #[115,105,103,110,97,108,115]),vS (Se #[110,101,120,116])]),.sl 0 1 [],vI 0,vI 0,vI 0,vI 0,.sl 0 5 [],vI 0]))],ae V 0]))))) [[Cz c 0],[vI i],[vB q],[vI (i-1)],[vI 0],ae c 4,ae c 5,[.sl 1 5 (V3)],V1,ae c 4]) (Q [[Cz c 0],[vI i],[vB q],[vI (i-1)],ae c 4,ae c 5,V1,ae c 4])) [.sl (s+1) 11 (G++([vI 1,vS (Se #[69,118,101,110,116]),.sl r 5 F,.sl 3 1 ([vS (Se #[84,105,99,107]),vS (Se #[80,117,115,104]),vS (Se #[83,101,116])]),.sl 0 1 [],vI 0,vI 0,vI 0,vI 0,.sl 0 5 [],vI 0]))]) (λd=>iK d 1 λX=>bK d 2 λY=>iK d 3 λZ=>sK 11 d 6 λn65 c66=>aA Is rC [[Cz d 0],[vI 12],[vI 6]] λr67=>iK r67 0 λz68=>aA Is tM [[vI z68],ae d 4,ae d 5] λr69=>jn (λk70=>aA Is rC [[Cz d 0],[vI 13],[vI 2]] λr72=>iK r72 0 λz73=>ax (decide (z73=(1:Int))) (aA Is rC [[Cz d 0],[vI 14],[vI 6]] λr74=>iK r74 0 λz75=>aA Is tM [[vI z75],ae d 4,ae d 5] λr76=>az (aL (1+1) 57) (k70 [[Cz d 0],[vI X],[vB Y],[vI Z],ae d 4,ae d 5,[.sl (1+1) 5 (((ae r69 0)++[])++((ae r76 0)++[]))],[.sl n65 11 c66],ae d 7])) (k70 [[Cz d 0],[vI X],[vB Y],[vI Z],ae d 4,ae d 5,[.sl 1 5 ((ae r69 0)++[])],[.sl n65 11 c66],ae d 7])) (λb=>iK b 1 λI=>bK b 2 λb78=>iK b 3 λw=>sK 5 b 6 λn80 c81=>sK 11 b 7 λn c83=>aA Is rC [[Cz b 0],[vI 15],[vI I]] λr84=>iK r84 0 λz85=>aA Is rC [[Cz b 0],[vI 16],[vI 6]] λr86=>iK r86 0 λz87=>aA Is tM [[vI z87],ae b 4,ae b 4] λx=>(λV2=>az (aL (n+1) 161) (jn (λk89=>ax b78 (az (aZ (I+3)) (aA Is nN [[vI (I+3)]] λr91=>aA Is xr [ae r91 0] λr92=>az (aL (n+1+1) 161) (k89 [[Cz b 0],[vI w],ae b 4,[.sl (n+1+1) 11 ((c83++(vI 2::vS (Se #[102])::.sl n80 5 c81::.sl 2 1 (V2)::.sl 0 1 []::cls (ae x 0) 0 5 [vI z85]))++(vI 3::vS (Se #[115,116,101,112])::.sl 2 5 ((ae b 8)++((ae b 5)++[]))::.sl 2 1 ([vS (Se #[115]),vS (Se #[101])])::.sl 0 1 []::cls (ae r92 0) 0 5 [vI w]))],ae b 8,ae x 0]))) (aA Is rC [[Cz b 0],[vI 17],[vI 6]] λr93=>iK r93 0 λz94=>aA Is tM [[vI z94],ae b 4,ae b 5] λr95=>az (aL (n+1+1) 161) (k89 [[Cz b 0],[vI w],ae b 4,[.sl (n+1+1) 11 ((c83++(vI 2::vS (Se #[102])::.sl n80 5 c81::.sl 2 1 (V2)::.sl 0 1 []::cls (ae x 0) 0 5 [vI z85]))++(vI 2::vS (Se #[103])::.sl 1 5 ((ae b 5)++[])::.sl 1 1 ([vS (Se #[101])])::.sl 0 1 []::cls (ae r95 0) 0 5 [vI w]))],ae b 8,ae x 0]))) (λg=>iK g 1 λJ=>sK 11 g 3 λy c98=>aA Is s115 [[Cz g 0],[vI 18],ae g 2] λr99=>sK 5 r99 0 λz A=>sK 1 r99 1 λB C=>aA Is rC [[Cz g 0],[vI 21],[vI 6]] λr104=>iK r104 0 λz105=>aA Is tM [[vI z105],ae g 2,ae g 5] λD=>az (aL (y+1) 161) (aA Is rC [[Cz g 0],[vI 22],[vI 4]] λr107=>iK r107 0 λz108=>ax (decide ((0:Int)<z108)) (aA Is rC [[Cz g 0],[vI 23],[vI 6]] λr109=>iK r109 0 λz110=>aA Is tM [[vI z110],ae g 2,ae g 4] λr111=>az (aL (y+1+1) 161) (K [[.sl (y+1+1) 11 ((c98++(vI 4::vS (Se #[116])::.sl z 5 A::.sl 2 1 (V2)::.sl B 1 C::cls (ae D 0) 0 5 [vI J]))++(vI 5::vS (Se #[99])::.sl 1 5 ((ae g 4)++[])::.sl 1 1 ([vS (Se #[111,108,100])])::.sl 0 1 []::cls (ae r111 0) 0 5 [vI J]))]])) (K [[.sl (y+1) 11 (c98++(vI 4::vS (Se #[116])::.sl z 5 A::.sl 2 1 (V2)::.sl B 1 C::cls (ae D 0) 0 5 [vI J]))]]))))) [vS (Se #[97]),vS (Se #[98])]))))))) [[Cz h 0],[vI z22],[vB b23],[vI 0],ae h 3,ae h 4,[.sl 1 5 (V3)],[.sl 1 11 ([vI 0,vS (Se #[80,111,105,110,116]),.sl n24 5 c25,.sl 3 1 ([vS (Se #[120]),vS (Se #[121]),vS (Se #[122])]),.sl 0 1 [],vI 0,vI 0,vI 0,vI 0,.sl 0 5 [],vI 0])]]) [vI 0,vI 0,vI 0,vI 0,.sl 0 5 []]))
theorem w31:Wd (cF [rC,nN,xr,tM,tL,s115]) ⟨[(6,⟨[hD 0,hI 1,hB 5,hP 6 0,hP 7 1,hW 8 2,hI 9],[hA 0 46 5,hA 1 46 5,hR 2 46 5]⟩),(12,⟨[hD 0,hI 1,hB 5,hP 6 0,hP 7 1,hW 8 2,hW 10 3,hI 11],[hA 0 46 5,hA 1 46 5,hR 2 46 5,hR 3 85 11]⟩),(21,⟨[hD 0,hI 1,hB 5,hP 6 0,hP 7 1,hW 8 2,hW 10 3,hI 12,hP 13 4,hI 14],[hA 0 46 5,hA 1 46 5,hR 2 46 5,hR 3 85 11,hA 4 46 5]⟩)],[(9,⟨[hD 0,hI 1,hB 5,hP 6 0,hP 7 1,hW 8 2],[hA 0 46 5,hA 1 46 5,hR 2 46 5]⟩),(27,⟨[hD 0,hI 1,hB 5,hP 6 0,hP 7 1,hW 10 2,hI 12,hP 13 3],[hA 0 46 5,hA 1 46 5,hR 2 85 11,hA 3 46 5]⟩),(30,⟨[hD 0,hI 1,hB 5,hP 6 0,hP 7 1,hW 8 2,hW 10 3,hI 12,hP 13 4],[hA 0 46 5,hA 1 46 5,hR 2 46 5,hR 3 85 11,hA 4 46 5]⟩),(36,⟨[hD 0,hP 6 0,hW 10 1,hI 12,hP 13 2,hP 16 3],[hA 0 46 5,hR 1 85 11,hA 2 46 5,hA 3 46 5]⟩)],[]⟩ s31 g31:=Wk
def g112:Tx:=λ_ a K=>K [vI 3::cls (ae a 0) 0 3 ([.sl 0 5 []])]
theorem w112:Wd (cF []) hZ xr g112:=Wk
def g113:Tx:=λIs a K=>iK a 0 λd=>(λV1=>aA Is tL [V1] λc=>sK 5 c 1 λe f=>aA Is s22 [[vI d],[vI 6]] λg=>iK g 0 λb=>az (0<=b/\b<(6:Int)) (K [el ((V1)++(([vI 1,vI 0,vI 0,vI 0,.sl 0 5 []])++((cls (ae c 0) 0 4 [.sl e 5 f])++((ae a 1)++((ae a 2)++(V1)))))) 5 (RF b)])) [vI 0,vI 0,vI 0,vI 0,.sl 0 5 []]
theorem w113:Wd (cF [s22,tL]) hZ tM g113:=Wk
def g114:Tx:=λ_ a K=>K [[vI 2,vI 0,vI 0,vI 0],[.sl 1 5 ((ae a 0)++[])]]
theorem w114:Wd (cF []) hZ tL g114:=Wk
def g115:Tx:=λIs a K=>iK a 1 λq=>aA Is rC [[Cz a 0],[vI q],[vI 5]] λX=>iK X 0 λI=>oK q (aA Is rC [[Cz a 0],[vI (q+1)],[vI 3]] λY=>iK Y 0 λJ=>(λV1=>(λV2=>az (aZ (1+J)) (jn (λW=>ax (decide (I=(1:Int))) (az (0<=(0:Int)/\(0:Int)<(1:Int)) (az (0<=(0:Int)/\(0:Int)<(1:Int)) (W [[Cz a 0],[vI q],[vI I],ae a 2,[.sl 1 5 (cB (V1) (0*5+0) (V2))],[.sl 1 1 (cB [vI (1+J)] (0*1+0) [vI 0])]]))) (W [[Cz a 0],[vI q],[vI I],ae a 2,[.sl 1 5 (V1)],[.sl 1 1 [vI (1+J)]]])) (λc=>iK c 1 λH=>iK c 2 λL=>sK 5 c 4 λg r=>sK 1 c 5 λh s=>jn (λt=>ax (decide (L=(2:Int))) (aA Is tL [V1] λu=>sK 5 u 1 λM N=>az (0<=(0:Int)/\(0:Int)<(g:Int)) (oK H (aA Is rC [[Cz c 0],[vI (H+1)],[vI 2]] λO=>iK O 0 λv=>az (aZ (1+v)) (az (0<=(0:Int)/\(0:Int)<(h:Int)) (t [[Cz c 0],[vI H],[vI L],ae c 3,[.sl g 5 (cB r (0*5+0) (cls (ae u 0) 0 4 [.sl M 5 N]))],[.sl h 1 (cB s (0*1+0) [vI (1+v)])]]))))) (t [[Cz c 0],[vI H],[vI L],ae c 3,[.sl g 5 r],[.sl h 1 s]])) (λb=>iK b 1 λw=>iK b 2 λP=>sK 5 b 4 λi x=>sK 1 b 5 λj y=>jn (λz=>ax (decide (P=(3:Int))) (az (0<=(0:Int)/\(0:Int)<(i:Int)) (az (0<=(0:Int)/\(0:Int)<(j:Int)) (z [[Cz b 0],[vI w],[.sl i 5 (cB x (0*5+0) (ae b 3))],[.sl j 1 (cB y (0*1+0) [vI 1])]]))) (z [[Cz b 0],[vI w],[.sl i 5 x],[.sl j 1 y]])) (λd=>iK d 1 λA=>sK 5 d 2 λl B=>sK 1 d 3 λm C=>az (aZ (A+2)) (aA Is rC [[Cz d 0],[vI (A+2)],[vI 3]] λQ=>iK Q 0 λn=>jn (λD=>ax (decide (n=(1:Int))) (az (aL (l+1) 57) (az (aL (m+1) 9) (D [[vI n],[.sl (l+1) 5 (B++(V1))],[.sl (m+1) 1 (C++[vI 1])]]))) (D [[vI n],[.sl l 5 B],[.sl m 1 C]])) (λe=>iK e 0 λR=>sK 5 e 1 λo E=>sK 1 e 2 λp F=>jn (λG=>ax (decide (R=(2:Int))) (az (aL (o+1) 57) (az (aL (p+1) 9) (G [[.sl (o+1) 5 (E++(V2))],[.sl (p+1) 1 (F++[vI 0])]]))) (G [[.sl o 5 E],[.sl p 1 F]])) (λf=>sK 5 f 0 λS T=>sK 1 f 1 λU V=>K [[.sl S 5 T],[.sl U 1 V]])))))))) [vI 1,vI 0,vI 0,vI 0,.sl 0 5 []]) [vI 0,vI 0,vI 0,vI 0,.sl 0 5 []])
theorem w115:Wd (cF [rC,tL]) ⟨[],[(7,⟨[hD 0,hI 1,hP 5 0,hI 8,hW 9 1,hW 10 2],[hA 0 46 5,hR 1 46 5,hR 2 3 1]⟩),(10,⟨[hD 0,hI 1,hP 5 0,hI 8,hW 9 1,hW 10 2],[hA 0 46 5,hR 1 46 5,hR 2 3 1]⟩),(13,⟨[hD 0,hI 1,hW 9 0,hW 10 1],[hR 0 46 5,hR 1 3 1]⟩),(17,⟨[hW 9 0,hW 10 1,hI 11],[hR 0 46 5,hR 1 3 1]⟩),(20,⟨[hW 9 0,hW 10 1],[hR 0 46 5,hR 1 3 1]⟩)],[]⟩ s115 g115:=Wk
def g32:Tx:=λIs a K=>iK a 2 λz1=>sK 31 a 4 λn2 c3=>aA Is s116 [[vI 65536],cls (ae a 3) 0 10 [],[.sl n2 31 c3]] λR=>iK R 0 λz5=>sK 31 R 2 λn6 c7=>aA Is s117 [[Cz a 1],ae a 0] λr8=>sK 9 r8 0 λn9 S=>jn (λT=>ar (cell (ae R 1) 4) λz13=>(λV2=>ax (decide (z13<=(0:Int))) (T [[Cz a 1],[vI (min z1 0)],[vI z5],cls (ae R 1) 0 10 [],ae a 0,V2,[.sl n9 9 S],[.sl n6 31 c7]]) (T [[Cz a 1],[vI z1],[vI z5],cls (ae R 1) 0 10 [],ae a 0,V2,[.sl n9 9 S],[.sl n6 31 c7]])) [vI 0,vI 0,vI 0,vI 0,vI 0,vI 0,vI 0,vI 0,vI 0,vI 0,vI 0,vI 0,.sl 0 5 [],.sl 0 15 [],.sl 0 1 []]) (λe=>iK e 1 λP=>iK e 2 λf=>sK 9 e 6 λg U=>sK 31 e 7 λz A=>jn (λV=>(λV4=>ax (decide ((0:Int)<(g:Int))) (ax (decide (P<=(0:Int))) (az ((3:Int)≠0/\aZ (SN f 3)) (az ((g:Int)≠0) (az (0<=(SC (SN f 3) (g:Int))/\(SC (SN f 3) (g:Int))<(g:Int)) (aA Is Lx [el U 9 (RF (SC (SN f 3) (g:Int))),cls (ae e 3) 0 10 [],[.sl z 31 A]] λB=>sK 1 B 1 λn23 c24=>sK 31 B 3 λn25 c26=>K [cls (ae B 0) 0 14 [],[.sl n23 1 c24],cls (ae B 2) 0 10 [],[.sl n25 31 c26]])))) (az ((3:Int)≠0) (ax (decide ((SC f 3)=(0:Int))) (az ((3:Int)≠0/\aZ (SN f 3)) (az ((g:Int)≠0) (az (0<=(SC (SN f 3) (g:Int))/\(SC (SN f 3) (g:Int))<(g:Int)) (aA Is Lx [el U 9 (RF (SC (SN f 3) (g:Int))),cls (ae e 3) 0 10 [],[.sl z 31 A]] λC=>sK 1 C 1 λn28 c29=>sK 31 C 3 λn30 c31=>K [cls (ae C 0) 0 14 [],[.sl n28 1 c29],cls (ae C 2) 0 10 [],[.sl n30 31 c31]])))) (V V4)))) (V V4)) [[Cz e 0],[vI P],[vI f],cls (ae e 3) 0 10 [],ae e 4,ae e 5,[.sl z 31 A]]) (λb=>iK b 1 λc=>iK b 2 λd=>sK 31 b 6 λh i=>(λV1=>(λV3=>ax (decide (c<=(0:Int))) (az ((3:Int)≠0/\aZ (SN d 3)) (aA Is Lw [ae b 4,[Cz b 0],[vI (SN d 3)],[vI c],cls (ae b 3) 0 10 [],[.sl h 31 i]] λD=>sK 1 D 1 λn37 c38=>sK 31 D 3 λn39 c40=>K [cls (ae D 0) 0 14 [],[.sl n37 1 c38],cls (ae D 2) 0 10 [],[.sl n39 31 c40]])) (az ((3:Int)≠0/\aZ (SN d 3)) (az ((12:Int)≠0) (az ((36:Int)≠0/\aZ (SN d 36)) (ax (decide ((SC (SN d 3) 12)=(0:Int))) (az (aZ (c-1)) (aA Is lC V3 λE=>sK 1 E 1 λn42 c43=>sK 31 E 3 λn44 c45=>az (aZ (c-1)) (aA Is lC [ae b 4,[Cz b 0],[vI (c-1)],cls (ae E 2) 0 10 [],[.sl n44 31 c45]] λF=>sK 1 F 1 λn47 c48=>sK 31 F 3 λn49 c50=>az (aZ (c-1)) (aA Is lC [ae b 4,[Cz b 0],[vI (c-1)],cls (ae F 2) 0 10 [],[.sl n49 31 c50]] λG=>sK 1 G 1 λn52 c53=>sK 31 G 3 λn54 c55=>aA Is iv [[vI 5],[vI 0],[.sl 3 15 (cls (ae E 0) 0 14 (.sl n42 1 c43::cls (ae F 0) 0 14 (.sl n47 1 c48::cls (ae G 0) 0 14 [.sl n52 1 c53])))],cls (ae G 2) 0 10 [],[.sl n54 31 c55]] λH=>sK 1 H 1 λn57 c58=>sK 31 H 3 λn59 c60=>K [cls (ae H 0) 0 14 [],[.sl n57 1 c58],cls (ae H 2) 0 10 [],[.sl n59 31 c60]])))) (ax (decide ((SC (SN d 3) 12)=(1:Int))) (az (aZ (c-1)) (aA Is lC V3 λI=>sK 1 I 1 λn62 c63=>sK 31 I 3 λn64 c65=>az (aZ (c-1)) (aA Is lC [ae b 4,[Cz b 0],[vI (c-1)],cls (ae I 2) 0 10 [],[.sl n64 31 c65]] λJ=>sK 1 J 1 λn67 c68=>sK 31 J 3 λn69 c70=>az (aZ (c-1)) (aA Is lC [ae b 4,[Cz b 0],[vI (c-1)],cls (ae J 2) 0 10 [],[.sl n69 31 c70]] λL=>sK 1 L 1 λn72 c73=>sK 31 L 3 λn74 c75=>aA Is iv [[vI 5],[vI 0],[.sl 3 15 (cls (ae I 0) 0 14 (.sl n62 1 c63::cls (ae J 0) 0 14 (.sl n67 1 c68::cls (ae L 0) 0 14 [.sl n72 1 c73])))],cls (ae L 2) 0 10 [],[.sl n74 31 c75]] λM=>sK 1 M 1 λn77 c78=>sK 31 M 3 λn79 c80=>K [cls (ae M 0) 0 14 [],[.sl n77 1 c78],cls (ae M 2) 0 10 [],[.sl n79 31 c80]])))) (ax (decide ((SC (SN d 3) 12)=(2:Int))) (sK 9 b 0 λv _=>az ((v:Int)≠0) (sK 9 b 0 λn83 W=>az (0<=(SC (SN d 36) (v:Int))/\(SC (SN d 36) (v:Int))<(n83:Int)) (az (aZ (c-1)) (aA Is lC [sub (el W 9 (RF (SC (SN d 36) (v:Int)))) 4 5,[Cz b 0],[vI (c-1)],cls (ae b 3) 0 10 [],[.sl h 31 i]] λN=>sK 1 N 1 λn86 c87=>sK 31 N 3 λn88 c89=>aA Is iv [[vI 6],[vI 0],[.sl 0 15 []],cls (ae N 2) 0 10 [],[.sl n88 31 c89]] λw=>sK 1 w 1 λ_ _=>sK 31 w 3 λn93 c94=>aA Is Ec [cls (ae w 2) 0 10 [],[.sl n93 31 c94]] λQ=>sK 31 Q 2 λn96 c97=>aA Is Eb [[Cz b 0],cls (ae w 0) 0 3 (vI 0::cls (sub (el W 9 (RF (SC (SN d 36) (v:Int)))) 4 5) 0 5 [])] λr98=>sK 9 r98 0 λn99 X=>az (aZ (c-1)) (aA Is lC [ae b 4,[.sl n99 9 X],[vI (c-1)],cls (ae Q 1) 0 10 [],[.sl n96 31 c97]] λl=>sK 1 l 1 λY Z=>sK 31 l 3 λn104 c105=>K [cls (ae w 0) 0 13 ([.sl 2 15 (cls (ae N 0) 0 14 (.sl n86 1 c87::cls (ae l 0) 0 14 [.sl Y 1 Z]))]),[.sl 1 1 [Cz Q 0]],cls (ae l 2) 0 10 [],[.sl n104 31 c105]]))))) (ax (decide ((SC (SN d 3) 12)=(3:Int))) (aA Is Of V1 λm=>sK 1 m 1 λn107 c108=>sK 31 m 3 λn109 c110=>K [cls (ae m 0) 0 14 [],[.sl n107 1 c108],cls (ae m 2) 0 10 [],[.sl n109 31 c110]]) (ax (decide ((SC (SN d 3) 12)=(4:Int))) (aA Is Of V1 λn=>sK 1 n 1 λn112 c113=>sK 31 n 3 λn114 c115=>K [cls (ae n 0) 0 14 [],[.sl n112 1 c113],cls (ae n 2) 0 10 [],[.sl n114 31 c115]]) (ax (decide ((SC (SN d 3) 12)=(5:Int))) (aA Is s124 V1 λo=>sK 1 o 1 λn117 c118=>sK 31 o 3 λn119 c120=>K [cls (ae o 0) 0 14 [],[.sl n117 1 c118],cls (ae o 2) 0 10 [],[.sl n119 31 c120]]) (ax (decide ((SC (SN d 3) 12)=(6:Int))) (aA Is Oe V1 λp=>sK 1 p 1 λn122 c123=>sK 31 p 3 λn124 c125=>K [cls (ae p 0) 0 14 [],[.sl n122 1 c123],cls (ae p 2) 0 10 [],[.sl n124 31 c125]]) (ax (decide ((SC (SN d 3) 12)=(7:Int))) (aA Is Oe V1 λq=>sK 1 q 1 λn127 c128=>sK 31 q 3 λn129 c130=>K [cls (ae q 0) 0 14 [],[.sl n127 1 c128],cls (ae q 2) 0 10 [],[.sl n129 31 c130]]) (ax (decide ((SC (SN d 3) 12)=(8:Int))) (aA Is tL [[vI 0,vI 0,vI 0,vI 0,.sl 0 5 []]] λO=>sK 5 O 1 λn132 c133=>az (aZ (c-1)) (aA Is lC [cls (ae O 0) 0 4 [.sl n132 5 c133],[Cz b 0],[vI (c-1)],cls (ae b 3) 0 10 [],[.sl h 31 i]] λr=>sK 1 r 1 λn135 c136=>sK 31 r 3 λn137 c138=>az (aZ (c-1)) (aA Is lC [ae b 4,[Cz b 0],[vI (c-1)],cls (ae r 2) 0 10 [],[.sl n137 31 c138]] λs=>sK 1 s 1 λn140 c141=>sK 31 s 3 λn142 c143=>aA Is iv [[vI 12],[vI 0],[.sl 0 15 []],cls (ae s 2) 0 10 [],[.sl n142 31 c143]] λj=>sK 1 j 1 λ_ _=>sK 31 j 3 λn147 c148=>aA Is Ec [cls (ae j 2) 0 10 [],[.sl n147 31 c148]] λx=>sK 31 x 2 λn150 c151=>aA Is Ec [cls (ae x 1) 0 10 [],[.sl n150 31 c151]] λy=>sK 31 y 2 λn153 c154=>aA Is Eb [[Cz b 0],cls (ae j 0) 0 3 ([vI 0,vI 0,vI 0,vI 0,vI 0,.sl 0 5 []])] λr155=>sK 9 r155 0 λn156 c157=>aA Is Eb [[.sl n156 9 c157],cls (ae j 0) 0 3 (vI 1::cls (ae b 4) 0 5 [])] λr158=>sK 9 r158 0 λn159 c160=>az (aZ (c-1)) (aA Is lC [ae b 4,[.sl n159 9 c160],[vI (c-1)],cls (ae y 1) 0 10 [],[.sl n153 31 c154]] λt=>sK 1 t 1 λn162 c163=>sK 31 t 3 λn164 c165=>K [cls (ae j 0) 0 13 ([.sl 3 15 (cls (ae r 0) 0 14 (.sl n135 1 c136::cls (ae s 0) 0 14 (.sl n140 1 c141::cls (ae t 0) 0 14 [.sl n162 1 c163])))]),[.sl 2 1 [Cz x 0,Cz y 0]],cls (ae t 2) 0 10 [],[.sl n164 31 c165]])))) (aA Is zK V1 λu=>sK 1 u 1 λn167 c168=>sK 31 u 3 λn169 c170=>K [cls (ae u 0) 0 14 [],[.sl n167 1 c168],cls (ae u 2) 0 10 [],[.sl n169 31 c170]])))))))))))))) [[vI 1,vI 0,vI 0,vI 0,.sl 0 5 []],[Cz b 0],[vI (c-1)],cls (ae b 3) 0 10 [],[.sl h 31 i]]) [ae b 4,[Cz b 0],[vI (SN d 36)],[vI c],cls (ae b 3) 0 10 [],[.sl h 31 i]]))
theorem w32:Wd (cF [lC,tL,s116,s117,Lx,Lw,iv,Ec,Eb,Of,s124,Oe,zK]) ⟨[],[(5,⟨[hP 0 0,hD 2,hI 3,hP 5 2,hP 8 3,hI 9,hW 10 4],[(0,.b 88 (.d::.w 1::ds 9)),hA 2 46 5,hA 3 50 15,hR 4 90 9,hR 1 52 31]⟩),(7,⟨[hP 0 0,hD 2,hI 3,hP 5 2,hP 8 3,hI 9],[(0,.b 88 (.d::.w 1::ds 9)),hA 2 46 5,hA 3 50 15,hR 1 52 31]⟩)],[]⟩ lC g32:=Wk
def g116:Tx:=λIs a K=>iK a 0 λc=>sK 31 a 2 λd e=>ar (cell (ae a 1) 2) λb=>oK b (az (aZ ((b+1)-1)) (aA Is rC [[cell (ae a 1) 1],[vI ((b+1)-1)],[vI c]] λf=>iK f 0 λg=>K [[vI g],Cz a 1::cell (ae a 1) 1::vI (b+1)::cls (ae a 1) 3 7 [],[.sl d 31 e]]))
theorem w116:Wd (cF [rC]) hZ s116 g116:=Wk
def g117:Tx:=λIs a K=>Lp (λd b=>iK b 1 λe=>sK 9 b 3 λg h=>sK 9 b 0 λs _=>lK e s (jn (λr=>sK 9 b 0 λi j=>kI e i (aA Is zJ [sub (eT j 9 e) 4 5,ae b 2] λl=>bK l 0 λm=>ax m (sK 9 b 0 λn o=>kI e n (az (aL (g+1) 89) (r [[Cz b 0],[vI e],ae b 2,[.sl (g+1) 9 (h++((eT o 9 e)++[]))]]))) (r [[Cz b 0],[vI e],ae b 2,[.sl g 9 h]]))) (λc=>iK c 1 λf=>sK 9 c 3 λp q=>oK f (d [[Cz c 0],[vI (f+1)],ae c 2,[.sl p 9 q]]))) (K [[.sl g 9 h]])) [[Cz a 0],[vI 0],ae a 1,[.sl 0 9 []]]
theorem w117:Wd (cF [zJ]) ⟨[(3,⟨[hD 0,hP 3 0,hW 5 1,hI 6],[hA 0 46 5,hR 1 90 9]⟩)],[(4,⟨[hD 0,hP 3 0,hW 5 1,hI 6],[hA 0 46 5,hR 1 90 9]⟩)],[]⟩ s117 g117:=Wk
def g186:Tx:=λIs a K=>iK a 0 λn=>iK a 1 λo=>ax (!(decide (n=o))) (K [[vB false]]) (tK (sub (ae a 0) 1 3) λp q r=>tK (sub (ae a 1) 1 3) λs t u=>ax (!(decide (p=s/\q=t/\r=u))) (K [[vB false]]) (aG 5 (cell (ae a 0) 4) λv _=>aG 5 (cell (ae a 1) 4) λe _=>ax (!(decide ((v:Int)=(e:Int)))) (K [[vB false]]) (Lp (λd b=>iK b 0 λc=>aG 5 (cell (ae b 1) 4) λf _=>lK c f (aG 5 (cell (ae b 1) 4) λg h=>kI c g (aG 5 (cell (ae b 2) 4) λi j=>kI c i (aA Is zJ [eT h 5 c,eT j 5 c] λl=>bK l 0 λm=>ax (!m) (K [[vB false]]) (oK c (d [[vI (c+1)],ae b 1,ae b 2]))))) (K [[vB true]])) [[vI 0],ae a 0,ae a 1])))
theorem w186:Wd (cF [zJ]) ⟨[(4,⟨[hP 2 0,hP 3 1,hI 5],[hA 0 46 5,hA 1 46 5]⟩)],[],[]⟩ zJ g186:=Wk
def g118:Tx:=λIs a K=>sK 31 a 2 λc d=>aA Is iv [[vI 2],[cell (ae a 0) 3],[.sl 0 15 []],cls (ae a 1) 0 10 [],[.sl c 31 d]] λb=>sK 1 b 1 λe f=>sK 31 b 3 λg h=>K [cls (ae b 0) 0 5 (cls (sub (ae a 0) 0 3) 0 3 (cls (ae b 0) 8 6 [])),[.sl e 1 f],cls (ae b 2) 0 10 [],[.sl g 31 h]]
theorem w118:Wd (cF [iv]) hZ Lx g118:=Wk
def g120:Tx:=λ_ a K=>iK a 0 λd=>iK a 1 λe=>sK 31 a 4 λf g=>ar (cell (ae a 3) 3) λb=>oK b (ar (cell (ae a 3) 4) λc=>az (aZ (c-1)) (az (aZ ((b+1)-1)) (K [[vI 0,vI 0,vI ((b+1)-1),vI d,vI e,vI 0,vI 0,vI 0,vI 0,vI 0,vI 0,vI 0,.sl 0 5 [],Cz a 2],[.sl 0 1 []],cls (ae a 3) 0 3 (vI (b+1)::vI (c-1)::cls (ae a 3) 5 5 []),[.sl f 31 g]])))
theorem w120:Wd (cF []) hZ iv g120:=Wk
def g119:Tx:=λIs a K=>iK a 2 λy=>iK a 3 λH=>sK 31 a 5 λI J=>iK a 0 λz5=>(λV1=>ax (decide (z5=(0:Int))) (az ((9:Int)≠0) (az (aZ ((SC y 9)-2)) (jn (λk6=>az ((29:Int)≠0) (ax (decide ((SC y 29)=(3:Int))) (az ((2:Int)≠0) (az (aZ (1099511627776-(SC y 2))) (k6 [[vI (1099511627776-(SC y 2))],cls (ae a 4) 0 10 [],V1,[.sl I 31 J]]))) (k6 [[vI ((SC y 9)-2)],cls (ae a 4) 0 10 [],V1,[.sl I 31 J]]))) (λz=>iK z 0 λz8=>sK 31 z 3 λn9 X=>aA Is iv [[vI 0],[vI z8],[.sl 0 15 []],cls (ae z 1) 0 10 [],[.sl n9 31 X]] λn=>sK 1 n 1 λY Z=>sK 31 n 3 λn14 c15=>K [cls (ae n 0) 0 14 [],[.sl Y 1 Z],cls (ae n 2) 0 10 [],[.sl n14 31 c15]])))) (iK a 0 λz16=>ax (decide (z16=(1:Int))) (az ((2:Int)≠0) (aA Is iv [[vI 1],[vI (SC y 2)],[.sl 0 15 []],cls (ae a 4) 0 10 [],[.sl I 31 J]] λo=>sK 1 o 1 λn18 c19=>sK 31 o 3 λn20 c21=>K [cls (ae o 0) 0 14 [],[.sl n18 1 c19],cls (ae o 2) 0 10 [],[.sl n20 31 c21]])) (iK a 0 λz22=>ax (decide (z22=(2:Int))) (jn (λA=>Lp (λp b=>iK b 1 λL=>iK b 2 λq=>iK b 3 λB=>sK 15 b 7 λi r=>sK 31 b 8 λs t=>(λV2=>az ((3:Int)≠0) (ax (decide (B<(SC L 3))) (ax (decide ((0:Int)<=q)) (ar (cell (ae b 4) 4) λz34=>ax (decide ((0:Int)<z34)) (aG 5 (cell (ae b 5) 4) λn35 c36=>az (0<=(0:Int)/\(0:Int)<(n35:Int)) (az (aZ (q-1)) (aA Is lC [el c36 5 0,[Cz b 0],[vI (q-1)],cls (ae b 4) 0 10 [],[.sl s 31 t]] λu=>sK 1 u 1 λn38 c39=>sK 31 u 3 λn40 c41=>az (aL (i+1) 169) (oK B (p [[Cz b 0],[vI L],[vI q],[vI (B+1)],cls (ae u 2) 0 10 [],ae b 5,ae b 6,[.sl (i+1) 15 (r++(cls (ae u 0) 0 14 [.sl n38 1 c39]))],[.sl n40 31 c41]]))))) (A V2)) (A V2)) (A V2))) [cls (ae b 4) 0 10 [],ae b 5,ae b 6,[.sl i 15 r],[.sl s 31 t]]) [[Cz a 1],[vI y],[vI H],[vI 0],cls (ae a 4) 0 10 [],ae a 0,V1,[.sl 0 15 []],[.sl I 31 J]]) (λg=>sK 15 g 3 λn42 c43=>sK 31 g 4 λn44 c45=>aA Is iv [[vI 11],[vI 0],[.sl n42 15 c43],cls (ae g 0) 0 10 [],[.sl n44 31 c45]] λj=>sK 1 j 1 λn47 c48=>sK 31 j 3 λn49 c50=>aG 5 (cell (ae g 1) 4) λn51 c52=>az (0<=(0:Int)/\(0:Int)<(n51:Int)) (K [cls (ae j 0) 0 8 (cls (el c52 5 0) 0 5 [cell (ae j 0) 13]),[.sl n47 1 c48],cls (ae j 2) 0 10 [],[.sl n49 31 c50]]))) (aA Is s23 [[Cz a 4],sub (ae a 0) 1 3,[.sl I 31 J]] λf=>bK f 1 λ_=>sK 31 f 2 λC D=>ar (cell (ae f 0) 3) λz57=>ax (decide (z57=(1:Int))) (aG 11 (cell (ae f 0) 8) λM _=>az ((M:Int)≠0) (jn (λN=>ax (decide (H<(0:Int))) (N [[Cz a 1],[vI H],[vI 0],cls (ae a 4) 0 10 [],V1,ae f 0,[.sl C 31 D]]) (N [[Cz a 1],[vI H],[vI (SC y (M:Int))],cls (ae a 4) 0 10 [],V1,ae f 0,[.sl C 31 D]])) (λd=>iK d 1 λO=>iK d 2 λE=>sK 31 d 6 λn64 c65=>aG 11 (cell (ae d 5) 8) λn66 c67=>kI E n66 (az (aZ (O-1)) (aA Is lC [sub (eT c67 11 E) 4 5,[Cz d 0],[vI (O-1)],cls (ae d 3) 0 10 [],[.sl n64 31 c65]] λv=>sK 1 v 1 λn69 c70=>sK 31 v 3 λn71 c72=>aA Is iv [[vI 9],[vI E],[.sl 1 15 (cls (ae v 0) 0 14 [.sl n69 1 c70])],cls (ae v 2) 0 10 [],[.sl n71 31 c72]] λl=>sK 1 l 1 λn74 c75=>sK 31 l 3 λn76 c77=>K [cls (ae l 0) 0 5 (cls (sub (ae d 5) 0 3) 0 3 (cls (ae l 0) 8 6 [])),[.sl n74 1 c75],cls (ae l 2) 0 10 [],[.sl n76 31 c77]]))))) (jn (λk78=>Lp (λw c=>iK c 1 λF=>iK c 2 λm=>sK 15 c 6 λG P=>sK 31 c 7 λQ R=>aG 11 (cell (ae c 5) 8) λn88 _=>lK m n88 (aG 11 (cell (ae c 5) 8) λn90 c91=>kI m n90 (az (aZ (F-1)) (aA Is lC [sub (eT c91 11 m) 4 5,[Cz c 0],[vI (F-1)],cls (ae c 3) 0 10 [],[.sl Q 31 R]] λx=>sK 1 x 1 λn93 c94=>sK 31 x 3 λn95 c96=>az (aL (G+1) 169) (oK m (w [[Cz c 0],[vI F],[vI (m+1)],cls (ae x 2) 0 10 [],ae c 4,ae c 5,[.sl (G+1) 15 (P++(cls (ae x 0) 0 14 [.sl n93 1 c94]))],[.sl n95 31 c96]]))))) (k78 [cls (ae c 3) 0 10 [],ae c 4,ae c 5,[.sl G 15 P],[.sl Q 31 R]])) [[Cz a 1],[vI H],[vI 0],cls (ae a 4) 0 10 [],V1,ae f 0,[.sl 0 15 []],[.sl C 31 D]]) (λh=>sK 15 h 3 λn97 c98=>sK 31 h 4 λn99 S=>aA Is iv [[vI 7],[vI 0],[.sl n97 15 c98],cls (ae h 0) 0 10 [],[.sl n99 31 S]] λe=>sK 1 e 1 λT U=>sK 31 e 3 λV W=>K [cls (ae e 0) 0 5 (cls (sub (ae h 2) 0 3) 0 3 (cls (ae e 0) 8 6 [])),[.sl T 1 U],cls (ae e 2) 0 10 [],[.sl V 31 W]])))))) [vI 0,vI 0,vI 0,vI 0,vI 0,vI 0,vI 0,vI 0,vI 0,vI 0,vI 0,vI 0,.sl 0 5 [],.sl 0 15 [],.sl 0 1 []]
theorem w119:Wd (cF [s23,lC,iv]) ⟨[(11,⟨[hP 0 0,hD 2,hI 3,hI 4,hP 6 2,hP 10 3,hW 12 4,hI 13],[(0,.b 88 (.d::.w 1::ds 9)),hA 2 46 5,hA 3 50 15,hR 4 50 15,hR 1 52 31]⟩),(28,⟨[hP 0 0,hD 2,hI 4,hP 10 2,hP 15 3,hW 20 4,hI 21],[(0,.b 88 (.d::.w 1::ds 9)),hA 2 50 15,hA 3 52 31,hR 4 50 15,hR 1 52 31]⟩)],[(5,⟨[hP 0 0,hP 10 2,hI 11],[(0,.b 88 (.d::.w 1::ds 9)),hA 2 50 15,hR 1 52 31]⟩),(14,⟨[hP 0 0,hP 6 2,hP 10 3,hW 12 4],[(0,.b 88 (.d::.w 1::ds 9)),hA 2 46 5,hA 3 50 15,hR 4 50 15,hR 1 52 31]⟩),(22,⟨[hP 0 0,hD 2,hI 4,hP 10 2,hP 15 3,hI 17],[(0,.b 88 (.d::.w 1::ds 9)),hA 2 50 15,hA 3 52 31,hR 1 52 31]⟩),(31,⟨[hP 0 0,hP 10 2,hP 15 3,hW 20 4],[(0,.b 88 (.d::.w 1::ds 9)),hA 2 50 15,hA 3 52 31,hR 4 50 15,hR 1 52 31]⟩)],[]⟩ Lw g119:=Wk
def g23:Tx:=λ_ a K=>sK 31 a 2 λq r=>(λV1=>jn (λs=>Lp (λc b=>iK b 1 λd=>sK 31 b 2 λe f=>lK d e (kI d e (tK (sub (eT f 31 d) 0 3) λg h i=>iK b 4 λj=>ar (cell (ae b 4) 1) λl=>ar (cell (ae b 4) 2) λm=>ax (decide (g=j/\h=l/\i=m)) (kI d e (K [eT f 31 d,[vB true],[.sl e 31 f]])) (oK d (c [[Cz b 0],[vI (d+1)],[.sl e 31 f],[Cz b 3],ae b 4,ae b 5])))) (s [[Cz b 0],[.sl e 31 f],ae b 5])) [[Cz a 0],[vI 0],[.sl q 31 r],[Cz a 0],ae a 1,V1]) (λn=>sK 31 n 1 λo p=>K [V1,[vB false],[.sl o 31 p]])) [vI 0,vI 0,vI 0,vI 0,vI 0,vI 0,vI 0,.v (.string (Se #[])),.sl 0 11 [],vI 0,vI 0,vI 0,vI 0,.sl 0 5 [],vI 0,vI 0,vI 0,vI 0,vI 0,vI 0,vI 0,vI 0,vI 0,vI 0,vI 0,vI 0,.sl 0 5 [],.sl 0 15 [],.sl 0 1 [],vI 0,.sl 0 1 []]
theorem w23:Wd (cF []) ⟨[(2,⟨[(0,.g [.d,.w 0]),hP 2 1,hP 3 2,hP 4 3,hI 6],[hR 0 52 31,(1,.b 26 [.d,.w 0]),hA 2 42 3,hA 3 52 31]⟩)],[(6,⟨[(0,.g [.d,.w 0]),hP 4 1],[hR 0 52 31,hA 1 52 31]⟩)],[]⟩ s23 g23:=Wk
def g123:Tx:=λIs a K=>iK a 2 λz1=>iK a 3 λt=>sK 31 a 5 λn3 c4=>aA Is s187 [[vI 1],[vI z1],cls (ae a 4) 0 10 [],[.sl n3 31 c4]] λu=>iK u 0 λn=>sK 31 u 2 λw o=>ax (decide (n<(0:Int))) (aA Is zK [ae a 0,[Cz a 1],[vI z1],[vI t],cls (ae u 1) 0 10 [],[.sl w 31 o]] λv=>sK 1 v 1 λx y=>sK 31 v 3 λz A=>K [cls (ae v 0) 0 14 [],[.sl x 1 y],cls (ae v 2) 0 10 [],[.sl z 31 A]]) (kI n w (aA Is xr [sub (eT o 31 n) 0 3] λB=>az (aZ (t-2)) (aA Is lC [ae B 0,[Cz a 1],[vI (t-2)],cls (ae u 1) 0 10 [],[.sl w 31 o]] λf=>sK 1 f 1 λC D=>sK 31 f 3 λE F=>aA Is iv [[vI 10],[vI 0],[.sl 0 15 []],cls (ae f 2) 0 10 [],[.sl E 31 F]] λe=>sK 1 e 1 λG H=>sK 31 e 3 λI J=>jn (λL=>Lp (λg b=>iK b 1 λi=>iK b 2 λd=>sK 15 b 7 λj p=>sK 31 b 9 λq r=>sK 1 b 10 λl s=>aG 11 (cell (ae b 6) 8) λM _=>lK d M (aG 11 (cell (ae b 6) 8) λN O=>kI d N (aA Is Eb [[Cz b 0],cls (ae b 8) 0 3 (vI d::cls (sub (eT O 11 d) 4 5) 0 5 [])] λP=>sK 9 P 0 λQ R=>az (aZ (i-1)) (aA Is lC [ae b 4,[.sl Q 9 R],[vI (i-1)],cls (ae b 3) 0 10 [],[.sl q 31 r]] λh=>sK 1 h 1 λS T=>sK 31 h 3 λU V=>az (aL (j+1) 169) (aA Is Ec [cls (ae h 2) 0 10 [],[.sl U 31 V]] λm=>sK 31 m 2 λW X=>az (aL (l+1) 17) (oK d (g [[Cz b 0],[vI i],[vI (d+1)],cls (ae m 1) 0 10 [],ae b 4,ae b 5,ae b 6,[.sl (j+1) 15 (p++(cls (ae h 0) 0 14 [.sl S 1 T]))],cls (ae b 8) 0 14 [],[.sl W 31 X],[.sl (l+1) 1 (s++[Cz m 0])]])))))) (L [cls (ae b 3) 0 10 [],ae b 5,[.sl j 15 p],cls (ae b 8) 0 14 [],[.sl q 31 r],[.sl l 1 s]])) [[Cz a 1],[vI t],[vI 0],cls (ae e 2) 0 10 [],ae a 0,[vI 0,vI 0,vI 0,vI 0,vI 0,vI 0,vI 0,vI 0,vI 0,vI 0,vI 0,vI 0,.sl 0 5 [],.sl 0 15 [],.sl 0 1 []],eT o 31 n,[.sl 1 15 (cls (ae f 0) 0 14 [.sl C 1 D])],cls (ae e 0) 0 5 (cls (sub (eT o 31 n) 0 3) 0 3 (cls (ae e 0) 8 6 [])),[.sl I 31 J],[.sl G 1 H]]) (λc=>sK 15 c 2 λY Z=>sK 31 c 4 λn54 c55=>sK 1 c 5 λn56 c57=>K [cls (ae c 3) 0 13 [.sl Y 15 Z],[.sl n56 1 c57],cls (ae c 0) 0 10 [],[.sl n54 31 c55]]))))
theorem w123:Wd (cF [lC,xr,iv,Ec,Eb,zK,s187]) ⟨[(9,⟨[hP 0 0,hD 2,hI 4,hP 6 2,hP 10 3,hP 12 4,hW 13 5,hP 14 6,hI 15],[(0,.b 88 (.d::.w 1::ds 9)),hA 2 46 5,hA 3 50 15,hA 4 52 31,hR 5 50 15,(6,.b 50 (ds 14++[.w 7])),hR 1 52 31,hR 7 9 1]⟩)],[(13,⟨[hP 0 0,hP 10 2,hW 13 3,hP 14 4],[(0,.b 88 (.d::.w 1::ds 9)),hA 2 50 15,hR 3 50 15,(4,.b 50 (ds 14++[.w 5])),hR 1 52 31,hR 5 9 1]⟩)],[]⟩ Of g123:=Wk
def g187:Tx:=λIs a K=>iK a 0 λy=>iK a 1 λz=>sK 31 a 3 λx A=>Lp (λj d=>iK d 0 λp=>iK d 1 λi=>iK d 2 λe=>iK d 3 λc=>sK 31 d 5 λf g=>ax (decide (c<e)) (jn (λl=>az (aZ (i+c)) (az (e≠0) (az (0<=(SC (i+c) e)/\(SC (i+c) e)<(f:Int)) (ar (cell (el g 31 (RF (SC (i+c) e))) 3) λq=>(λV1=>ax (decide (q=p)) (aA Is D9 [V1,cls (ae d 4) 0 10 [],[.sl f 31 g]] λh=>bK h 0 λr=>sK 31 h 2 λm n=>ax r (K [V1,cls (ae h 1) 0 10 [],[.sl m 31 n]]) (l [[vI p],[vI i],[vI e],[vI c],cls (ae h 1) 0 10 [],[.sl m 31 n]])) (l [[vI p],[vI i],[vI e],[vI c],cls (ae d 4) 0 10 [],[.sl f 31 g]])) [vI (SC (i+c) e)])))) (λb=>iK b 0 λs=>iK b 1 λt=>iK b 2 λu=>iK b 3 λo=>sK 31 b 5 λv w=>oK o (j [[vI s],[vI t],[vI u],[vI (o+1)],cls (ae b 4) 0 10 [],[.sl v 31 w]]))) (K [[vI (-1)],cls (ae d 4) 0 10 [],[.sl f 31 g]])) [[vI y],[vI z],[vI x],[vI 0],cls (ae a 2) 0 10 [],[.sl x 31 A]]
theorem w187:Wd (cF [D9]) ⟨[(3,⟨[hP 0 0,hI 1,hI 2,hI 7,hI 8],[(0,.b 88 (.d::.w 1::ds 9)),hR 1 52 31]⟩)],[(4,⟨[hP 0 0,hI 1,hI 2,hI 7,hI 8],[(0,.b 88 (.d::.w 1::ds 9)),hR 1 52 31]⟩)],[]⟩ s187 g187:=Wk
def g188:Tx:=λ_ a K=>iK a 0 λc=>sK 31 a 2 λd b=>kI c d (ar (cell (ae a 1) 5) λo=>ax (decide (c<o)) (tK (sub (eT b 31 c) 4 3) λp q r=>ar (cell (ae a 1) 6) λs=>ar (cell (ae a 1) 7) λt=>ar (cell (ae a 1) 8) λe=>ax (decide (p=s/\q=t/\r=e)) (K [[vB true],cls (ae a 1) 0 10 [],[.sl d 31 b]]) (sK 6 a 1 λf g=>az (0<=(0:Int)/\(0:Int)<(f:Int)) (tK (sub (eT b 31 c) 4 3) λh i j=>tK (sub (el g 6 0) 0 3) λl m n=>K [[vB (decide (h=l/\i=m/\j=n))],cls (ae a 1) 0 10 [],[.sl d 31 b]]))) (K [[vB false],cls (ae a 1) 0 10 [],[.sl d 31 b]]))
theorem w188:Wd (cF []) hZ D9 g188:=Wk
def g126:Tx:=λIs a K=>iK a 2 λi=>iK a 3 λf=>sK 31 a 5 λz A=>iK a 0 λz5=>(λV2=>(λV4=>ax (decide (z5=(0:Int))) (az ((6:Int)≠0) (ax (decide ((SC i 6)=(5:Int))) (aA Is tL [V4] λr6=>sK 5 r6 1 λn7 c8=>az (aZ (f-1)) (aA Is lC [cls (ae r6 0) 0 4 [.sl n7 5 c8],[Cz a 1],[vI (f-1)],cls (ae a 4) 0 10 [],[.sl z 31 A]] λW=>sK 1 W 1 λX Y=>sK 31 W 3 λZ c13=>aA Is iv [[vI 4],[vI 11],[.sl 1 15 (cls (ae W 0) 0 14 [.sl X 1 Y])],cls (ae W 2) 0 10 [],[.sl Z 31 c13]] λl=>sK 1 l 1 λn15 c16=>sK 31 l 3 λn17 c18=>K [cls (ae l 0) 0 14 [],[.sl n15 1 c16],cls (ae l 2) 0 10 [],[.sl n17 31 c18]])) (az (aZ (f-1)) (aA Is lC V2 λm=>sK 1 m 1 λn20 c21=>sK 31 m 3 λn22 c23=>az ((5:Int)≠0) (az (0<=(SC i 5)/\(SC i 5)<(5:Int)) (az (aZ (f-1)) (aA Is lC [ae a 0,[Cz a 1],[vI (f-1)],cls (ae m 2) 0 10 [],[.sl n22 31 c23]] λn=>sK 1 n 1 λn25 c26=>sK 31 n 3 λn27 c28=>aA Is iv [[vI 4],[cell (el [vI 0,vI 1,vI 2,vI 3,vI 4] 1 (RF (SC i 5))) 0],[.sl 2 15 (cls (ae m 0) 0 14 (.sl n20 1 c21::cls (ae n 0) 0 14 [.sl n25 1 c26]))],cls (ae n 2) 0 10 [],[.sl n27 31 c28]] λo=>sK 1 o 1 λn30 c31=>sK 31 o 3 λn32 c33=>K [cls (ae o 0) 0 14 [],[.sl n30 1 c31],cls (ae o 2) 0 10 [],[.sl n32 31 c33]]))))))) (iK a 0 λz34=>(λV1=>ax (decide (z34=(1:Int))) (az ((6:Int)≠0) (ax (decide ((SC i 6)=(0:Int))) (az (aZ (f-1)) (aA Is lC V2 λp=>sK 1 p 1 λn36 c37=>sK 31 p 3 λn38 c39=>aA Is iv [[vI 4],[vI 9],[.sl 1 15 (cls (ae p 0) 0 14 [.sl n36 1 c37])],cls (ae p 2) 0 10 [],[.sl n38 31 c39]] λq=>sK 1 q 1 λn41 c42=>sK 31 q 3 λn43 c44=>K [cls (ae q 0) 0 14 [],[.sl n41 1 c42],cls (ae q 2) 0 10 [],[.sl n43 31 c44]])) (jn (λC=>az ((6:Int)≠0) (ax (decide ((SC i 6)=(2:Int))) (C [[Cz a 1],[vI i],[vI f],[vI 6],cls (ae a 4) 0 10 [],ae a 0,V1,V4,[.sl z 31 A]]) (C [[Cz a 1],[vI i],[vI f],[vI 5],cls (ae a 4) 0 10 [],ae a 0,V1,V4,[.sl z 31 A]]))) (λb=>iK b 1 λg=>iK b 2 λD=>iK b 3 λz49=>sK 31 b 8 λE F=>jn (λG=>az ((6:Int)≠0) (ax (decide ((SC g 6)=(3:Int))) (az ((6:Int)≠0/\aZ (SN g 6)) (sK 9 b 0 λr _=>az ((r:Int)≠0) (sK 9 b 0 λn56 c57=>az (0<=(SC (SN g 6) (r:Int))/\(SC (SN g 6) (r:Int))<(n56:Int)) (G [[Cz b 0],[vI g],[vI D],[vI 6],cls (ae b 4) 0 10 [],ae b 5,ae b 6,sub (el c57 9 (RF (SC (SN g 6) (r:Int)))) 4 5,[.sl E 31 F]])))) (G [[Cz b 0],[vI g],[vI D],[vI z49],cls (ae b 4) 0 10 [],ae b 5,ae b 6,ae b 7,[.sl E 31 F]]))) (λc=>iK c 1 λj=>iK c 2 λH=>iK c 3 λz60=>sK 31 c 8 λI J=>jn (λL=>az ((6:Int)≠0) (ax (decide ((4:Int)<=(SC j 6))) (az ((6:Int)≠0) (az (aZ ((SC j 6)-4)) (az (0<=((SC j 6)-4)/\((SC j 6)-4)<(2:Int)) (L [[Cz c 0],[vI H],[cell (el [vI 7,vI 8] 1 (RF ((SC j 6)-4))) 0],cls (ae c 4) 0 10 [],ae c 6,ae c 5,[.sl I 31 J]])))) (L [[Cz c 0],[vI H],[vI z60],cls (ae c 4) 0 10 [],ae c 6,ae c 7,[.sl I 31 J]]))) (λd=>iK d 1 λs=>iK d 2 λz66=>sK 31 d 6 λn67 c68=>az (aZ (s-1)) (aA Is lC [ae d 5,[Cz d 0],[vI (s-1)],cls (ae d 3) 0 10 [],[.sl n67 31 c68]] λt=>sK 1 t 1 λn70 c71=>sK 31 t 3 λn72 c73=>az (aZ (s-1)) (aA Is lC [ae d 5,[Cz d 0],[vI (s-1)],cls (ae t 2) 0 10 [],[.sl n72 31 c73]] λu=>sK 1 u 1 λn75 c76=>sK 31 u 3 λn77 c78=>aA Is iv [[vI 4],[vI z66],[.sl 2 15 (cls (ae t 0) 0 14 (.sl n70 1 c71::cls (ae u 0) 0 14 [.sl n75 1 c76]))],cls (ae u 2) 0 10 [],[.sl n77 31 c78]] λv=>sK 1 v 1 λn80 c81=>sK 31 v 3 λn82 c83=>K [cls (ae v 0) 0 14 [],[.sl n80 1 c81],cls (ae v 2) 0 10 [],[.sl n82 31 c83]])))))))) (jn (λM=>iK a 0 λz86=>(λV3=>ax (decide (z86=(2:Int))) (az ((2:Int)≠0) (ax (decide ((SC i 2)=(0:Int))) (az (aZ (f-1)) (aA Is lC V2 λw=>sK 1 w 1 λn88 c89=>sK 31 w 3 λn90 c91=>az (aZ (f-1)) (aA Is lC [ae a 0,[Cz a 1],[vI (f-1)],cls (ae w 2) 0 10 [],[.sl n90 31 c91]] λx=>sK 1 x 1 λn93 c94=>sK 31 x 3 λn95 c96=>aA Is iv [[vI 4],[vI 10],[.sl 2 15 (cls (ae w 0) 0 14 (.sl n88 1 c89::cls (ae x 0) 0 14 [.sl n93 1 c94]))],cls (ae x 2) 0 10 [],[.sl n95 31 c96]] λy=>sK 1 y 1 λn98 c99=>sK 31 y 3 λN O=>K [cls (ae y 0) 0 14 [],[.sl n98 1 c99],cls (ae y 2) 0 10 [],[.sl N 31 O]]))) (M V3))) (M V3)) [[Cz a 1],[vI i],[vI f],cls (ae a 4) 0 10 [],ae a 0,V1,[.sl z 31 A]]) (λe=>iK e 1 λB=>iK e 2 λP=>sK 31 e 6 λQ R=>az ((2:Int)≠0/\aZ (SN B 2)) (aA Is Lw [ae e 4,[Cz e 0],[vI (SN B 2)],[vI P],cls (ae e 3) 0 10 [],[.sl Q 31 R]] λh=>sK 1 h 1 λS T=>sK 31 h 3 λU V=>K [cls (ae h 0) 0 14 [],[.sl S 1 T],cls (ae h 2) 0 10 [],[.sl U 31 V]])))) [vI 0,vI 0,vI 0,vI 0,vI 0,vI 0,vI 0,vI 0,vI 0,vI 0,vI 0,vI 0,.sl 0 5 [],.sl 0 15 [],.sl 0 1 []])) [vI 0,vI 0,vI 0,vI 0,.sl 0 5 []]) [ae a 0,[Cz a 1],[vI (f-1)],cls (ae a 4) 0 10 [],[.sl z 31 A]]
theorem w126:Wd (cF [lC,tL,Lw,iv]) ⟨[],[(13,⟨[hP 0 0,hD 2,hI 3,hI 4,hP 6 2,hP 10 3,hP 12 4,hI 13],[(0,.b 88 (.d::.w 1::ds 9)),hA 2 46 5,hA 3 50 15,hA 4 46 5,hR 1 52 31]⟩),(16,⟨[hP 0 0,hD 2,hI 3,hI 4,hP 6 2,hP 10 3,hP 12 4,hI 13],[(0,.b 88 (.d::.w 1::ds 9)),hA 2 46 5,hA 3 50 15,hA 4 46 5,hR 1 52 31]⟩),(19,⟨[hP 0 0,hD 2,hI 4,hP 10 2,hP 12 3,hI 13],[(0,.b 88 (.d::.w 1::ds 9)),hA 2 50 15,hA 3 46 5,hR 1 52 31]⟩),(24,⟨[hP 0 0,hD 2,hI 3,hI 4,hP 6 2,hP 10 3],[(0,.b 88 (.d::.w 1::ds 9)),hA 2 46 5,hA 3 50 15,hR 1 52 31]⟩)],[]⟩ zK g126:=Wk
def g124:Tx:=λIs a K=>iK a 2 λz1=>iK a 3 λz2=>sK 31 a 5 λn3 c4=>jn (λk5=>Lp (λr d=>iK d 1 λs=>iK d 2 λz=>iK d 3 λf=>sK 31 d 7 λe t=>lK f e (jn (λu=>az (aZ (s+f)) (az ((e:Int)≠0) (az (0<=(SC (s+f) (e:Int))/\(SC (s+f) (e:Int))<(e:Int)) (Lp (λm b=>iK b 1 λn=>iK b 2 λg=>iK b 3 λo=>iK b 4 λA=>iK b 5 λh=>sK 31 b 10 λv w=>aG 11 (cell (ae b 9) 8) λC _=>(λV1=>lK h C (ar (cell (ae b 9) 3) λD=>ax (decide (D=(0:Int))) (aA Is D9 [[vI A],cls (ae b 6) 0 10 [],[.sl v 31 w]] λj=>bK j 0 λE=>sK 31 j 2 λx y=>ax E (aG 11 (cell (ae b 9) 8) λF G=>kI h F (aA Is zJ [sub (eT G 11 h) 4 5,ae b 7] λH=>bK H 0 λI=>ax I (aA Is xr [sub (ae b 9) 0 3] λJ=>az (aZ (g-1)) (aA Is lC [ae J 0,[Cz b 0],[vI (g-1)],cls (ae j 1) 0 10 [],[.sl x 31 y]] λp=>sK 1 p 1 λL M=>sK 31 p 3 λN O=>aA Is iv [[vI 8],[vI h],[.sl 1 15 (cls (ae p 0) 0 14 [.sl L 1 M])],cls (ae p 2) 0 10 [],[.sl N 31 O]] λl=>sK 1 l 1 λP Q=>sK 31 l 3 λR S=>K [cls (ae l 0) 0 5 (cls (sub (ae b 9) 0 3) 0 3 (cls (ae l 0) 8 6 [])),[.sl P 1 Q],cls (ae l 2) 0 10 [],[.sl R 31 S]])) (oK h (m [[Cz b 0],[vI n],[vI g],[vI o],[vI A],[vI (h+1)],cls (ae j 1) 0 10 [],ae b 7,ae b 8,ae b 9,[.sl x 31 y]])))) (u [[Cz b 0],[vI n],[vI g],[vI o],cls (ae j 1) 0 10 [],ae b 7,ae b 8,[.sl x 31 y]])) (u V1)) (u V1)) [[Cz b 0],[vI n],[vI g],[vI o],cls (ae b 6) 0 10 [],ae b 7,ae b 8,[.sl v 31 w]]) [[Cz d 0],[vI s],[vI z],[vI f],[vI (SC (s+f) (e:Int))],[vI 0],cls (ae d 4) 0 10 [],ae d 5,ae d 6,el t 31 (RF (SC (s+f) (e:Int))),[.sl e 31 t]])))) (λc=>iK c 1 λT=>iK c 2 λU=>iK c 3 λB=>sK 31 c 7 λV W=>oK B (r [[Cz c 0],[vI T],[vI U],[vI (B+1)],cls (ae c 4) 0 10 [],ae c 5,ae c 6,[.sl V 31 W]]))) (k5 [[Cz d 0],[vI s],[vI z],cls (ae d 4) 0 10 [],ae d 5,ae d 6,[.sl e 31 t]])) [[Cz a 1],[vI z1],[vI z2],[vI 0],cls (ae a 4) 0 10 [],ae a 0,[vI 0,vI 0,vI 0,vI 0,vI 0,vI 0,vI 0,vI 0,vI 0,vI 0,vI 0,vI 0,.sl 0 5 [],.sl 0 15 [],.sl 0 1 []],[.sl n3 31 c4]]) (λi=>iK i 1 λX=>iK i 2 λY=>sK 31 i 6 λZ c55=>aA Is zK [ae i 4,[Cz i 0],[vI X],[vI Y],cls (ae i 3) 0 10 [],[.sl Z 31 c55]] λq=>sK 1 q 1 λn57 c58=>sK 31 q 3 λn59 c60=>K [cls (ae q 0) 0 14 [],[.sl n57 1 c58],cls (ae q 2) 0 10 [],[.sl n59 31 c60]])
theorem w124:Wd (cF [lC,xr,iv,zK,zJ,D9]) ⟨[(2,⟨[hP 0 0,hD 2,hI 3,hI 4,hP 6 2,hP 10 3,hI 11],[(0,.b 88 (.d::.w 1::ds 9)),hA 2 46 5,hA 3 50 15,hR 1 52 31]⟩),(7,⟨[hP 0 0,hD 2,hI 3,hI 4,hP 6 2,hP 10 3,hI 11,hI 12,hP 13 4,hI 14],[(0,.b 88 (.d::.w 1::ds 9)),hA 2 46 5,hA 3 50 15,hA 4 52 31,hR 1 52 31]⟩)],[(3,⟨[hP 0 0,hD 2,hI 3,hI 4,hP 6 2,hP 10 3,hI 11],[(0,.b 88 (.d::.w 1::ds 9)),hA 2 46 5,hA 3 50 15,hR 1 52 31]⟩),(13,⟨[hP 0 0,hD 2,hI 3,hI 4,hP 6 2,hP 10 3],[(0,.b 88 (.d::.w 1::ds 9)),hA 2 46 5,hA 3 50 15,hR 1 52 31]⟩)],[]⟩ s124 g124:=Wk
def g125:Tx:=λIs a K=>iK a 2 λz1=>iK a 3 λz2=>sK 31 a 5 λn3 c4=>jn (λk5=>Lp (λr b=>iK b 1 λB=>iK b 2 λi=>iK b 3 λe=>sK 31 b 7 λj g=>lK e j (jn (λs=>kI e j (ar (cell (eT g 31 e) 3) λC=>ax (decide (C=(2:Int))) (aA Is D9 [[vI e],cls (ae b 4) 0 10 [],[.sl j 31 g]] λl=>bK l 0 λD=>sK 31 l 2 λt u=>(λV1=>ax D (aA Is zJ [sub (eT g 31 e) 9 5,ae b 5] λE=>bK E 0 λF=>ax F (jn (λG=>Lp (λo c=>iK c 1 λv=>iK c 2 λm=>sK 15 c 6 λw x=>sK 31 c 7 λy z=>aG 11 (cell (ae c 5) 8) λH _=>lK m H (aG 11 (cell (ae c 5) 8) λI J=>kI m I (az (aZ (v-1)) (aA Is lC [sub (eT J 11 m) 4 5,[Cz c 0],[vI (v-1)],cls (ae c 3) 0 10 [],[.sl y 31 z]] λp=>sK 1 p 1 λL M=>sK 31 p 3 λN O=>az (aL (w+1) 169) (oK m (o [[Cz c 0],[vI v],[vI (m+1)],cls (ae p 2) 0 10 [],ae c 4,ae c 5,[.sl (w+1) 15 (x++(cls (ae p 0) 0 14 [.sl L 1 M]))],[.sl N 31 O]]))))) (G [cls (ae c 3) 0 10 [],ae c 4,ae c 5,[.sl w 15 x],[.sl y 31 z]])) [[Cz b 0],[vI i],[vI 0],cls (ae l 1) 0 10 [],ae b 6,eT g 31 e,[.sl 0 15 []],[.sl t 31 u]]) (λf=>sK 15 f 3 λP Q=>sK 31 f 4 λR S=>aA Is iv [[vI 3],[vI 0],[.sl P 15 Q],cls (ae f 0) 0 10 [],[.sl R 31 S]] λn=>sK 1 n 1 λT U=>sK 31 n 3 λV W=>K [cls (ae n 0) 0 5 (cls (sub (ae f 2) 0 3) 0 3 (cls (ae n 0) 8 6 [])),[.sl T 1 U],cls (ae n 2) 0 10 [],[.sl V 31 W]])) (s V1)) (s V1)) [[Cz b 0],[vI B],[vI i],[vI e],cls (ae l 1) 0 10 [],ae b 5,ae b 6,[.sl t 31 u]]) (s [[Cz b 0],[vI B],[vI i],[vI e],cls (ae b 4) 0 10 [],ae b 5,ae b 6,[.sl j 31 g]]))) (λd=>iK d 1 λX=>iK d 2 λY=>iK d 3 λA=>sK 31 d 7 λZ c55=>oK A (r [[Cz d 0],[vI X],[vI Y],[vI (A+1)],cls (ae d 4) 0 10 [],ae d 5,ae d 6,[.sl Z 31 c55]]))) (k5 [[Cz b 0],[vI B],[vI i],cls (ae b 4) 0 10 [],ae b 5,ae b 6,[.sl j 31 g]])) [[Cz a 1],[vI z1],[vI z2],[vI 0],cls (ae a 4) 0 10 [],ae a 0,[vI 0,vI 0,vI 0,vI 0,vI 0,vI 0,vI 0,vI 0,vI 0,vI 0,vI 0,vI 0,.sl 0 5 [],.sl 0 15 [],.sl 0 1 []],[.sl n3 31 c4]]) (λh=>iK h 1 λz56=>iK h 2 λz57=>sK 31 h 6 λn58 c59=>aA Is zK [ae h 4,[Cz h 0],[vI z56],[vI z57],cls (ae h 3) 0 10 [],[.sl n58 31 c59]] λq=>sK 1 q 1 λn61 c62=>sK 31 q 3 λn63 c64=>K [cls (ae q 0) 0 14 [],[.sl n61 1 c62],cls (ae q 2) 0 10 [],[.sl n63 31 c64]])
theorem w125:Wd (cF [lC,iv,zK,zJ,D9]) ⟨[(2,⟨[hP 0 0,hD 2,hI 3,hI 4,hP 6 2,hP 10 3,hI 11],[(0,.b 88 (.d::.w 1::ds 9)),hA 2 46 5,hA 3 50 15,hR 1 52 31]⟩),(8,⟨[hP 0 0,hD 2,hI 4,hP 10 2,hP 12 3,hW 13 4,hI 14],[(0,.b 88 (.d::.w 1::ds 9)),hA 2 50 15,hA 3 52 31,hR 4 50 15,hR 1 52 31]⟩)],[(3,⟨[hP 0 0,hD 2,hI 3,hI 4,hP 6 2,hP 10 3,hI 11],[(0,.b 88 (.d::.w 1::ds 9)),hA 2 46 5,hA 3 50 15,hR 1 52 31]⟩),(11,⟨[hP 0 0,hP 10 2,hP 12 3,hW 13 4],[(0,.b 88 (.d::.w 1::ds 9)),hA 2 50 15,hA 3 52 31,hR 4 50 15,hR 1 52 31]⟩),(14,⟨[hP 0 0,hD 2,hI 3,hI 4,hP 6 2,hP 10 3],[(0,.b 88 (.d::.w 1::ds 9)),hA 2 46 5,hA 3 50 15,hR 1 52 31]⟩)],[]⟩ Oe g125:=Wk
def g121:Tx:=λ_ a K=>sK 31 a 1 λe f=>ar (cell (ae a 0) 9) λb=>oK b (az ((3:Int)≠0) (az (0<=(SC (b+1) 3)/\(SC (b+1) 3)<(3:Int)) (az ((3:Int)≠0/\aZ (SN (b+1) 3)) (az ((8:Int)≠0) (az (0<=(SC (SN (b+1) 3) 8)/\(SC (SN (b+1) 3) 8)<(8:Int)) (rL (cell (el ([vS (Se #[117]),vS (Se #[118]),vS (Se #[119])]) 1 (RF (SC (b+1) 3))) 0) λc=>rL (cell (el ([vS (Se #[]),vS (Se #[49]),vS (Se #[50]),vS (Se #[51]),vS (Se #[52]),vS (Se #[53]),vS (Se #[54]),vS (Se #[55])]) 1 (RF (SC (SN (b+1) 3) 8))) 0) λd=>az (YB c+YB d<=1000000) (K [[vS (c++d)],cls (ae a 0) 0 9 [vI (b+1)],[.sl e 31 f]])))))))
theorem w121:Wd (cF []) hZ Ec g121:=Wk
def g122:Tx:=λ_ a K=>sK 9 a 0 λb c=>az (aL (0+b) 89) (az (aL (0+b+1) 89) (K [[.sl (0+b+1) 9 (c++((ae a 1)++[]))]]))
theorem w122:Wd (cF []) hZ Eb g122:=Wk
def g33:Tx:=λIs a K=>Lp (λc b=>iK b 0 λf=>iK b 1 λd=>aG 15 (cell (ae b 2) 13) λg _=>lK d g (aG 15 (cell (ae b 2) 13) λh i=>kI d h (aA Is s33 [eT i 15 d] λj=>iK j 0 λe=>az (aZ (f+e)) (oK d (c [[vI (f+e)],[vI (d+1)],ae b 2])))) (K [[vI f]])) [[vI 1],[vI 0],ae a 0]
theorem w33:Wd (cF [s33]) ⟨[(3,⟨[hP 1 0,hI 3,hI 4],[hA 0 50 15]⟩)],[],[]⟩ s33 g33:=Wk
def g34:Tx:=λIs a K=>sK 1 a 1 λm n=>Lp (λc b=>iK b 0 λd=>sK 1 b 1 λe l=>aG 15 (cell (ae b 2) 13) λo _=>lK d o (aG 15 (cell (ae b 2) 13) λf g=>kI d f (aA Is s34 [eT g 15 d,[.sl e 1 l]] λh=>sK 1 h 0 λi j=>oK d (c [[vI (d+1)],[.sl i 1 j],ae b 2]))) (az (aL (e+1) 9) (K [[.sl (e+1) 1 (l++[cell (ae b 2) 2])]]))) [[vI 0],[.sl m 1 n],ae a 0]
theorem w34:Wd (cF [s34]) ⟨[(2,⟨[hW 1 0,hP 2 1,hI 5],[hR 0 3 1,hA 1 50 15]⟩)],[],[]⟩ s34 g34:=Wk
def g35:Tx:=λIs a K=>sK 3 a 1 λi g=>ar (cell (ae a 0) 2) λn=>kI n i (jn (λo=>ar (cell (ae a 0) 3) λy=>(λV1=>(λV2=>ax (decide (y=(2:Int))) (ar (cell (ae a 0) 6) λz=>ax (decide (z=(0:Int))) (ar (cell (ae a 0) 7) λx=>kI x i (o [[.sl i 3 g],ae a 0,V1,cls (eT g 3 n) 0 3 (cell (ae a 0) 3::cell (ae a 0) 4::cls (eT g 3 x) 0 3 (cls (ae a 0) 8 7 []))])) (o V2)) (o V2)) [[.sl i 3 g],ae a 0,V1,cls (eT g 3 n) 0 3 (cls (ae a 0) 3 12 [])]) [vI 0,vI 0,vI 0,vI 0,vI 0,vI 0,vI 0,vI 0,vI 0,vI 0,vI 0,vI 0,.sl 0 5 [],.sl 0 15 [],.sl 0 1 []]) (λc=>sK 3 c 0 λA p=>Lp (λe b=>iK b 0 λd=>sK 3 b 1 λj l=>sK 15 b 5 λh m=>aG 15 (cell (ae b 2) 13) λq _=>lK d q (aG 15 (cell (ae b 2) 13) λr s=>kI d r (aA Is s35 [eT s 15 d,[.sl j 3 l]] λf=>sK 15 f 1 λt u=>sK 3 f 2 λv w=>az (aL (h+1) 169) (oK d (e [[vI (d+1)],[.sl v 3 w],ae b 2,ae b 3,cls (ae b 4) 0 14 [],[.sl (h+1) 15 (m++(cls (ae f 0) 0 13 [.sl t 15 u,cell (ae f 0) 13]))]])))) (K [cls (ae b 4) 0 14 [],[.sl h 15 m],[.sl j 3 l]])) [[vI 0],[.sl A 3 p],ae c 1,ae c 2,cls (ae c 3) 0 13 [cell (ae c 3) 14],[.sl 0 15 []]]))
theorem w35:Wd (cF [s35]) ⟨[(7,⟨[hW 1 0,hP 2 1,hP 4 2,hP 5 3,hI 6],[hR 0 42 3,hA 1 50 15,hA 2 50 15,(3,.b 50 (ds 13++[.w 4,.d])),hR 4 50 15]⟩)],[(5,⟨[hW 1 0,hP 2 1,hP 4 2,hP 5 3],[hR 0 42 3,hA 1 50 15,hA 2 50 15,hA 3 50 15]⟩)],[]⟩ s35 g35:=Wk
end Go.Proofs.YtmbboaapillefaaGreatDoor
namespace Xe
open Go
def kJ(dn:List Ex)(r:List Ex×b6):List Ex×b6:=(dn++r.1,r.2)
theorem PY(r:List Ex×b6):r=kJ [] r:=by unfold kJ;rw[Sv]
theorem HE{g:GX}{t:Ty}{env:List cg}{d:Int}{m:Nat}{s:b6}{dn:List Ex}{z:List Ex×b6}(hz:z=kJ dn (du g t env d (m+1) s))(h:0<s.left):z=kJ (dn++[(g t env d s).1]) (du g t env d m (g t env d s).2):=by
 grind [du,kJ]
theorem HD{g:GX}{t:Ty}{env:List cg}{d:Int}{m:Nat}{s:b6}{dn:List Ex}{z:List Ex×b6}(hz:z=kJ dn (du g t env d m s))(h:m=0\/¬0<s.left):z=(dn,s):=by
 rw[hz];cases m with
 |zero=>rw[du];simp[kJ]
 |succ m=>rw[du,J1 Q0];simp[kJ]
theorem HC{g:GX}{env:List cg}{d:Int}{ts:List Ty}{k:Nat}{s:b6}{dn:List Ex}{z:List Ex×b6}(hk:k<ts.length)(hz:z=kJ dn (dt g env d (ts.drop k) s)):z=kJ (dn++[(g ts[k] env d s).1]) (dt g env d (ts.drop (k+1)) (g ts[k] env d s).2):=by rw[hz,Ui hk,dt];simp[kJ]
theorem MA{g:GX}{env:List cg}{d:Int}{ts:List Ty}{k:Nat}{s:b6}{dn:List Ex}{z:List Ex×b6}(hk:k=ts.length)(hz:z=kJ dn (dt g env d (ts.drop k) s)):z=(dn,s):=by rw[hz,hk,Y8,dt];simp[kJ]
def bJ(dn:List Ex)(ns:List ByteArray)(r:(List Ex×List ByteArray)×b6):(List Ex×List ByteArray)×b6:=((dn++r.1.1,ns++r.1.2),r.2)
theorem bJ_nil(r:(List Ex×List ByteArray)×b6):r=bJ [] [] r:=by grind [bJ]
theorem zR{g:GX}{t:Ty}{env:List cg}{d:Int}{id:av}{sl:List aC}{k:Nat}{s:b6}{dn:List Ex}{ns:List ByteArray}{z:(List Ex×List ByteArray)×b6}(hk:k<sl.length)(hz:z=bJ dn ns (bt g t env d id (sl.drop k) k s)) :
  z=bJ (dn++[(g t (env++[⟨id,k,sl[k].ty⟩]) d s).1]) (ns++[(aM (g t (env++[⟨id,k,sl[k].ty⟩]) d s).2).1]) (bt g t env d id (sl.drop (k+1)) (k+1) (aM (g t (env++[⟨id,k,sl[k].ty⟩]) d s).2).2):=by
 rw[hz,Ui hk,bt];simp[bJ]
theorem C8{g:GX}{t:Ty}{env:List cg}{d:Int}{id:av}{sl:List aC}{k:Nat}{s:b6}{dn:List Ex}{ns:List ByteArray}{z:(List Ex×List ByteArray)×b6}(hk:k=sl.length)(hz:z=bJ dn ns (bt g t env d id (sl.drop k) k s)):z=((dn,ns),s):=by rw[hz,hk,Y8,bt];simp[bJ]
def Iy(q:Int)(g:GX):Prop:=∀(t:Ty) (env:List cg) (d:Int) (s:b6) (B:Int),0<=B->Bd (q+B) s->Bd B (g t env d s).2
theorem yu{q:Int}{g:GX}(hg:Iy q g)(hq:1<=q){t:Ty}{env:List cg}{d B:Int}(hB:0<=B):∀(k:Nat) (s:b6),Bd (k*q+B) s->Bd B (du g t env d k s).2
 |0,s,h=>by grind [du]
 |k+1,s,h=>by
  rw[du];have e:((k+1:Nat):Int)*q=k*q+q:=by grind
  have h0:0<=(k:Int)*q:=Ue Q0 Q0;split
  .exact yu hg hq hB k _ (hg t env d s _ Q0 (h.mono Q0))
  .exact h.mono Q0
theorem oV{q:Int}{g:GX}(hg:Iy q g)(hq:1<=q){env:List cg}{d B:Int}(hB:0<=B):∀(ts:List Ty) (s:b6),Bd (ts.length*q+B) s->Bd B (dt g env d ts s).2
 |[],s,h=>by grind [dt]
 |t::ts,s,h=>by
  rw[dt];have e:((t::ts).length:Int)*q=ts.length*q+q:=by rw[RU,XM,YC];simp
  have h0:0<=(ts.length:Int)*q:=Ue Q0 Q0;exact oV hg hq hB ts _ (hg t env d s _ Q0 (h.mono Q0))
theorem vA{q:Int}{g:GX}(hg:Iy q g)(hq:1<=q){t:Ty}{env:List cg}{d B:Int}{id:av}(hB:0<=B):∀(sl:List aC) (k:Nat) (s:b6),Bd (sl.length*(q+1)+B) s->Bd B (bt g t env d id sl k s).2
 |[],k,s,h=>by grind [bt]
 |x::xs,k,s,h=>by
  rw[bt];have e:((x::xs).length:Int)*(q+1)=xs.length*(q+1)+(q+1):=by rw[RU,XM,YC];simp
  have h0:0<=(xs.length:Int)*(q+1):=Ue Q0 Q0;refine vA hg hq hB xs (k+1) _ (Bd.vh (A:=xs.length*(q+1)+B+1) (hg t _ d s _ Q0 (h.mono Q0)) Q0)
theorem mX(p:au)(id:av):al p id=l7\/al p id∈p.aa:=by
 unfold al;cases h:p.aa.find? λd=>decide (d.id=id) with
 |none=>exact .inl rfl
 |some d=>exact .inr (List.mem_of_find?_eq_some h)
def gk(p:au):Prop:=∀d∈p.aa,d.ah.length<=3
theorem gk.mY{p:au}(h:gk p)(id:av):(al p id).ah.length<=3:=by
 rcases mX p id with e|e
 .rw[e];exact Sy _
 .exact h _ e
theorem gk.at{c:fE}(h:gk c.p)(k:Nat):(bP c k).ah.length<=3:=by
 unfold bP;rcases Xc k c.p.aa.length with hk|hk
 .rw[S9,R5 hk];exact h _ (RQ hk)
 .rw[S9,List.getElem?_eq_none hk];exact Sy _
theorem le3{n:Nat}{q:Int}(h:n<=3)(hq:0<=q):(n:Int)*q<=3*q:=Int.mul_le_mul_of_nonneg_right Q0 hq
theorem JX{q:Int}{g:GX}{c:fE}(hg:Iy q g)(hq:1<=q)(hs:gk c.p){t:Ty}{env:List cg}{x d B:Int}{s:b6}(hB:0<=B)(h:Bd (3*q+1+B) s):Bd B (kZ c g t env x d s).2:=by
 unfold kZ;split
 .exact h.node Q0
 split
 .exact h.node Q0
 split
 .have h3:(if 0<=d then(x.tmod 3).toNat else 0)<=3:=by
   grind
  dsimp only;exact Bd.node (yu hg hq (B:=B+1) Q0 _ s (h.mono (by have:=le3 h3 (show 0<=q by omega);omega))) Q0
 split
 .dsimp only;exact Bd.node (hg _ _ _ s (B+1) Q0 (h.mono Q0)) Q0
 .have h3:=hs.mY t.df;dsimp only;exact Bd.node (oV hg hq (B:=B+1) Q0 _ s (h.mono (by have:=le3 h3 (show 0<=q by omega);rw[Sa];omega))) Q0
theorem y9{q:Int}{g:GX}(hg:Iy q g)(hq:1<=q){n:Int}{u:Ty}{env:List cg}{d B:Int}{s:b6}(hB:0<=B)(h:Bd (2*q+1+B) s):Bd B (lT g n u env d s).2:=by unfold lT;exact Bd.node (hg _ _ _ _ (B+1) Q0 (hg _ _ _ s (q+(B+1)) Q0 (h.mono Q0))) Q0
theorem JD{q:Int}{g:GX}(hg:Iy q g){n:Int}{u:Ty}{env:List cg}{d B:Int}{s:b6}(hB:0<=B)(h:Bd (q+1+B) s):Bd B (Hg g n u env d s).2:=by unfold Hg;exact Bd.node (hg _ _ _ s (B+1) Q0 (h.mono Q0)) Q0
theorem Ck{q:Int}{g:GX}{c:fE}(hg:Iy q g)(hq:1<=q)(hs:gk c.p){t:Ty}{env:List cg}{x d B:Int}{s:b6}(hB:0<=B)(h:Bd (3*q+1+B) s):Bd B (nO c g t env x d s).2:=by
 unfold nO;split
 .split
  .exact JD hg hB (h.mono Q0)
  .exact y9 hg hq hB (h.mono Q0)
 split
 .split
  .exact JD hg hB (h.mono Q0)
  .exact y9 hg hq hB (h.mono Q0)
 split
 .exact y9 hg hq hB (h.mono Q0)
 .exact JX hg hq hs hB h
theorem Ms{q:Int}{g:GX}{c:fE}(hg:Iy q g)(hq:1<=q)(hs:gk c.p){t:Ty}{env:List cg}{x d B:Int}{s:b6}(hB:0<=B)(h:Bd (4*q+4+B) s):Bd B (jV c g t env x d s).2:=by
 unfold jV;split
 .exact Ck hg hq hs hB (h.mono Q0)
 .have h3:=le3 (hs.at (c:=c) (Nw c 1 x.toNat).toNat) (show 0<=q+1 by omega);dsimp only;exact vA hg hq hB _ _ _ (Bd.node (A:=3*(q+1)+B+1) (hg _ _ _ s _ Q0 (h.mono Q0)) Q0)
theorem M4{q:Int}{g:GX}{c:fE}(hg:Iy q g)(hq:1<=q)(hs:gk c.p){t:Ty}{env:List cg}{x d B:Int}{s:b6}(hB:0<=B)(h:Bd (4*q+4+B) s):Bd B (jX c g t env x d s).2:=by
 unfold jX;split
 .dsimp only;exact Bd.node (hg _ _ _ s (B+1) Q0 (h.mono Q0)) Q0
 .exact Ck hg hq hs hB (h.mono Q0)
theorem QX{q:Int}{g:GX}{c:fE}(hg:Iy q g)(hq:1<=q)(hs:gk c.p){t:Ty}{env:List cg}{x d B:Int}{s:b6}(hB:0<=B)(h:Bd (4*q+4+B) s):Bd B (nR c g t env x d s).2:=by
 unfold nR;split
 .rename_i k _;have h3:=le3 (hs.at (c:=c) k) (show 0<=q by omega);dsimp only;exact Bd.node (oV hg hq (B:=B+1) Q0 _ s (h.mono (by grind))) Q0
 .exact Ck hg hq hs hB (h.mono Q0)
theorem Ol{q:Int}{g:GX}{c:fE}(hg:Iy q g)(hq:1<=q)(hs:gk c.p){t:Ty}{env:List cg}{k x d B:Int}{s:b6}(hB:0<=B)(h:Bd (4*q+4+B) s):Bd B (ow c g t env k x d s).2:=by
 unfold ow;split
 .dsimp only[ifG];exact Bd.node (hg _ _ _ _ (B+1) Q0 (hg _ _ _ _ (q+(B+1)) Q0 (hg _ _ _ s (q+(q+(B+1))) Q0 (h.mono Q0)))) Q0
 split
 .dsimp only[My];exact hg _ _ _ _ B Q0 (Bd.vh (A:=q+B+1) (Bd.node (A:=q+B+2) (hg _ _ _ s _ Q0 (h.mono Q0)) Q0) Q0)
 split
 .exact Ms hg hq hs hB h
 split
 .exact M4 hg hq hs hB h
 split
 .exact QX hg hq hs hB h
 split
 .dsimp only[A3];exact hg _ _ _ _ B Q0 (Bd.vh (A:=q+B+1) (Bd.vh (A:=q+B+2) (Bd.node (A:=q+B+3) (hg _ _ _ _ _ Q0 (hg _ _ _ s (q+(q+B+3)) Q0 (h.mono Q0))) Q0) Q0) Q0)
 .exact Ck hg hq hs hB (h.mono Q0)
theorem FD{q:Int}{g:GX}{c:fE}(hg:Iy q g)(hq:1<=q)(hs:gk c.p):Iy (9*q) (lq c g):=by
 intro t env d s B hB h;have h1:Bd (4*q+4+B) (fW c 65536 s).2:=h.num Q0;unfold lq;dsimp only;generalize(if(fW c 65536 s).2.left<=0 then min d 0 else d)=dd;split
 .dsimp only[NB];exact Bd.node (A:=4*q+4+B) h1 Q0
 split
 .exact JX hg hq hs hB (h1.mono Q0)
 .exact Ol hg hq hs hB h1
theorem dD{c:fE}(hs:gk c.p):∀n:Nat,Iy (9 ^ n) (aB c n)
 |0=>λt env d s B hB h=>h.mono Q0
 |n+1=>by have h:=FD (dD hs n) (Z4 Q1) hs;rw[show(9:Int) ^ (n+1)=9*9 ^ n by omega];exact h
structure Rx(p:au)(R:Nat):Prop where
 fJ:gk p
 oW:∀d∈p.aa,d.kind=1->0<d.ah.length
 DX:∀d∈p.aa,∀s∈d.ah,eV p R s.ty
 res:∀d∈p.aa,d.kind=2->eV p R d.aq
 own:∀d∈p.aa,d.kind=0\/d.kind=1->eV p R (mD d.id)
 R2:2<=R
def sf(p:au)(R n:Nat)(t:Ty)(depth:Int):Prop:=(depth<=0/\eV p n t)\/(0<depth/\eV p R t/\(R:Int)+depth<=n)
theorem sf.wf{p:au}{R n:Nat}{t:Ty}{depth:Int}(h:sf p R n t depth):eV p n t:=by
 rcases h with h|h
 .exact h.2
 .exact b9 Q0 h.2.1
theorem sf.pos{p:au}{R n:Nat}{t:Ty}{depth:Int}(h:sf p R n t depth):0<n:=by
 have:=h.wf;cases n with
 |zero=>exact this.elim
 |succ n=>omega
theorem sf.any{p:au}{R n:Nat}{t u:Ty}{depth:Int}(h:sf p R (n+1) t depth)(h0:0<depth)(hu:eV p R u){j:Int}(hj:1<=j):sf p R n u (depth-j):=by
 rcases h with h|h
 .omega
 .by_cases h1:depth-j<=0
  .exact .inl ⟨h1,b9 Q0 hu⟩
  .exact .inr ⟨Q0,hu,Q0⟩
theorem sf.part{p:au}{R n:Nat}{t u:Ty}{depth:Int}(h:sf p R (n+1) t depth)(hu:∀m,eV p (m+1) t->eV p m u):sf p R n u (depth-1):=by
 by_cases h0:0<depth
 .rcases h with h1|h1
  .omega
  .exact sf.any (.inr h1) h0 (hu R (b9 Q0 h1.2.1)) Q0
 .rcases h with h1|h1
  .exact .inl ⟨Q0,hu n h1.2⟩
  .omega
theorem sf.low{p:au}{R n:Nat}{t:Ty}{depth:Int}(h:sf p R n t depth):sf p R n t (min depth 0):=.inl ⟨Q0,h.wf⟩
abbrev cj(env:List cg):D:=.sl env.length 9 (env.flatMap cg.enc)
theorem oa{p:au}{R:Nat}(h:2<=R):eV p R (cb bQ):=b9 h (KT (BQ p 0))
theorem fit_mem{env:List cg}{t:Ty}{b:cg}(h:b∈fg env t):b∈env:=(Sp.1 h).1
def QI(s1:b6)(depth:Int):Int:=if s1.left<=0 then min depth 0 else depth
theorem QH{p:au}{R n:Nat}{t:Ty}{s1:b6}{depth:Int}(h:sf p R n t depth):sf p R n t (QI s1 depth):=by
 unfold QI;split
 .exact h.low
 .exact h
theorem yP(c:fE)(n:Nat)(t:Ty)(env:List cg)(depth:Int)(s:b6):aB c (n+1) t env depth s =
  if 0<(fg env t).length/\(QI (fW c 65536 s).2 depth<=0\/(fW c 65536 s).1.tmod 3=0) then NB ((fg env t).getD (((fW c 65536 s).1.tdiv 3).tmod (fg env t).length).toNat default) (fW c 65536 s).2
  else if QI (fW c 65536 s).2 depth<=0 then kZ c (aB c n) t env ((fW c 65536 s).1.tdiv 3) (QI (fW c 65536 s).2 depth) (fW c 65536 s).2
  else ow c (aB c n) t env (((fW c 65536 s).1.tdiv 3).tmod 12) ((fW c 65536 s).1.tdiv 36) (QI (fW c 65536 s).2 depth) (fW c 65536 s).2:=rfl
mutual
def Ex.post:Ex->List Int
 |.mk i _ _ _ _ l _=>Ex.cV l++[i.index]
def Ex.cV:List Ex->List Int
 |[]=>[]
 |e::es=>e.post++Ex.cV es
end
theorem Ex.eY(e:Ex):e.post=Ex.cV e.kids++[e.id.index]:=by cases e;rw[Ex.post];rfl
theorem Ex.sb:∀(l m:List Ex),Ex.cV (l++m)=Ex.cV l++Ex.cV m
 |[],m=>by simp[Ex.cV]
 |x::xs,m=>by rw[SA,Ex.cV,Ex.cV,Ex.sb xs m,R9]
theorem Ex.G5(l:List Ex)(k:Nat)(h:k<l.length):Ex.cV (l.take (k+1))=Ex.cV (l.take k)++l[k].post:=by rw[RJ h,Ex.sb];simp[Ex.cV]
mutual
theorem Ex.sd:∀e:Ex,e.post.length=e.size
 |.mk i k n r t l s=>by rw[Ex.post,Ex.size,RS,Ex.tW l];simp;omega
theorem Ex.tW:∀l:List Ex,(Ex.cV l).length=Ex.ba l
 |[]=>by simp[Ex.cV,Ex.ba]
 |e::es=>by rw[Ex.cV,Ex.ba,RS,Ex.sd e,Ex.tW es]
end
def iL(ids:List av)(z:Int):av:=ids.getD z.toNat default
def j2(ids:List av)(k:Int)(r:av):av:=if k=2/\r.seq=0 then iL ids r.index else r
mutual
def b8(ids:List av):Ex->Ex
 |.mk i k n r t l s=>.mk (iL ids i.index) k n (j2 ids k r) t (iw ids l) s
def iw(ids:List av):List Ex->List Ex
 |[]=>[]
 |e::es=>b8 ids e::iw ids es
end
theorem renE_eq(ids:List av)(e:Ex):b8 ids e=.mk (iL ids e.id.index) e.kind e.n (j2 ids e.kind e.ref) e.ty (iw ids e.kids) e.aJ:=by cases e;rw[b8];rfl
theorem rT(ids:List av):∀l:List Ex,iw ids l=l.map (b8 ids)
 |[]=>by simp[iw]
 |e::es=>by rw[iw,rT ids es,Sb]
mutual
def AV(m:Int):Ex->Prop
 |.mk i k _ r _ l _=>(0<=i.index/\i.index<m)/\(k=2/\r.seq=0->0<=r.index/\r.index<m)/\sL m l
def sL(m:Int):List Ex->Prop
 |[]=>True
 |e::es=>AV m e/\sL m es
end
theorem inB_eq(m:Int)(e:Ex):AV m e↔(0<=e.id.index/\e.id.index<m)/\(e.kind=2/\e.ref.seq=0->0<=e.ref.index/\e.ref.index<m)/\sL m e.kids:=by cases e;rw[AV];rfl
theorem Fe{m:Int}:∀{l:List Ex} {e:Ex},sL m l->e∈l->AV m e
 |x::xs,e,h,he=>by
  rw[sL]at h;rcases RO.1 he with rfl|he
  .exact h.1
  .exact Fe h.2 he
theorem idAt_eq{ids:List av}{k:Nat}{z:Int}(h:z=(k:Int))(hk:k<ids.length):iL ids z=ids[k]:=by
 unfold iL
 grind
def Ll(a b:Ty):List Ty:=[bQ,.mk 1 kx [],cb bQ,a,b,bQ]
def ct(n:Int)(a b:Ty):Ty:=(Ll a b).getD (fR n 6).toNat bQ
abbrev qE:Ty:=.mk 1 kx []
def inT1(a:Int):Ty:=if a=1 then qE else bQ
def inT2(a:Int):Ty:=if a=2 then cb bQ else inT1 a
def inT(a:Int)(T:Ty):Ty:=if a=3 then T else inT2 a
def inZ1(l:List Int)(i a:Int):Int:=if a=1 then 0 else 1+eH l (i+1) 3
def inZ2(l:List Int)(i a:Int):Int:=if a=2 then 1+eH l (i+1) 2 else inZ1 l i a
def inZ(l:List Int)(i a:Int):Int:=if a=3 then 1 else inZ2 l i a
def P9(c:Int):List Ty:=if c=1 then[bQ] else[]
def Fg(c:Int):List Int:=if c=1 then[1] else[]
def in2(c:Int):List Ty:=if c=2 then[qE] else P9 c
def P8(c:Int):List Int:=if c=2 then[0] else Fg c
def CK(l:List Int)(i:Int)(T:Ty):List Ty:=inT (eH l i 5) T::in2 (eH l (i+2) 3)
def ML(l:List Int)(i:Int):List Int:=inZ l i (eH l i 5)::P8 (eH l (i+2) 3)
theorem inZ_rng(l:List Int)(i a:Int):0<=inZ l i a/\inZ l i a<=3:=by have h2:=eO l (i+1) 2 Q0;have h3:=eO l (i+1) 3 Q0;unfold inZ inZ2 inZ1;omega
theorem in2_len(c:Int):(in2 c).length=(P8 c).length:=by
 unfold in2 P8 P9 Fg
 grind
theorem P7(c:Int):(in2 c).length<=1:=by
 unfold in2 P9
 grind
structure aN where
 kind:Int
 name:ByteArray
 types:List Ty
 aJ:List ByteArray
 ly:List Int
 aq:Ty
 mod:Int
def aN.enc(p:aN):List D:=[aj p.kind,bM p.name,.sl p.types.length 5 (p.types.flatMap Ty.enc),Kw p.aJ,bY p.ly]++p.aq.enc++[aj p.mod]
theorem aN.aP(p:aN):p.enc.length=11:=by rw[aN.enc,Ty.aD];rfl
abbrev yi:ByteArray:=⟨#[80,111,105,110,116]⟩
abbrev rb:ByteArray:=⟨#[69,118,101,110,116]⟩
abbrev CA:ByteArray:=⟨#[83,116,97,116,101]⟩
abbrev nOut:ByteArray:=⟨#[79,117,116]⟩
abbrev n_a:ByteArray:=⟨#[97]⟩
abbrev n_b:ByteArray:=⟨#[98]⟩
abbrev n_c:ByteArray:=⟨#[99]⟩
abbrev n_e:ByteArray:=⟨#[101]⟩
abbrev n_f:ByteArray:=⟨#[102]⟩
abbrev n_g:ByteArray:=⟨#[103]⟩
abbrev n_s:ByteArray:=⟨#[115]⟩
abbrev n_t:ByteArray:=⟨#[116]⟩
abbrev n_x:ByteArray:=⟨#[120]⟩
abbrev n_y:ByteArray:=⟨#[121]⟩
abbrev n_z:ByteArray:=⟨#[122]⟩
abbrev Ps:ByteArray:=⟨#[84,105,99,107]⟩
abbrev Pt:ByteArray:=⟨#[80,117,115,104]⟩
abbrev nSet:ByteArray:=⟨#[83,101,116]⟩
abbrev Pu:ByteArray:=⟨#[99,111,117,110,116]⟩
abbrev nLog:ByteArray:=⟨#[108,111,103]⟩
abbrev nMore:ByteArray:=⟨#[109,111,114,101]⟩
abbrev Pb:ByteArray:=⟨#[115,116,97,116,101]⟩
abbrev ES:ByteArray:=⟨#[115,105,103,110,97,108,115]⟩
abbrev nNext:ByteArray:=⟨#[110,101,120,116]⟩
abbrev JK:ByteArray:=⟨#[115,116,101,112]⟩
abbrev nOld:ByteArray:=⟨#[111,108,100]⟩
def cn(l:List Int):Bool:=decide (0<eH l 1 4)
abbrev cq(n:Int):Ty:=mD (fA n)
def iB(l:List Int)(q:Int)(m:Int)(T:Ty)(k:Nat):List Ty:=(W6 k).map fun(i:Nat)=>ct (eH l (q+(i:Int)) m) T T
theorem qM(l:List Int)(q m:Int)(T:Ty)(k:Nat):iB l q m T (k+1)=iB l q m T k++[ct (eH l (q+(k:Int)) m) T T]:=by simp[iB,List.range_succ]
theorem ko(l:List Int)(q m:Int)(T:Ty)(k:Nat):(iB l q m T k).length=k:=by simp[iB]
def gQ(l:List Int)(n:Int):aN:=⟨0,yi,iB l 3 3 (cq n) (1+(eH l 2 3).toNat),[n_x,n_y,n_z],[],bQ,0⟩
def iF(l:List Int)(n:Int):aN:=⟨1,rb,bQ::iB l 7 4 (cq n) (1+(eH l 6 2).toNat),[Ps,Pt,nSet],[],bQ,0⟩
def fK(l:List Int)(n:Int):aN:=⟨0,CA,bQ::iB l 10 4 (cq n) (eH l 9 3).toNat,[Pu,nLog,nMore],[],bQ,0⟩
def lD(n:Int):aN:=⟨0,nOut,[cq (n+2),cb bQ,bQ],[Pb,ES,nNext],[],bQ,0⟩
def BT(l:List Int)(n:Int):Ty:=if cn l then cq (n+2) else cq n
def FA(l:List Int)(n:Int):List Ty:=ct (eH l 12 6) (cq n) (cq (n+1))::(if eH l 13 2=1 then[ct (eH l 14 6) (cq n) (cq (n+1))] else[])
def nW(l:List Int)(n:Int):Ty:=ct (eH l 16 6) (cq n) (cq n)
def pF(l:List Int)(n:Int):aN:=⟨2,n_f,FA l n,[n_a,n_b],[],nW l n,eH l 15 n⟩
def lN(n:Int):aN:=⟨3,JK,[cq (n+2),cq (n+1)],[n_s,n_e],[],cq (n+3),n-1⟩
def pG(l:List Int)(n:Int):aN:=⟨2,n_g,[cq (n+1)],[n_e],[],ct (eH l 17 6) (cq n) (cq (n+1)),n-1⟩
def pT(l:List Int)(n:Int):aN:=⟨4,n_t,CK l 18 (cq n),[n_a,n_b],ML l 18,ct (eH l 21 6) (cq n) (nW l n),n-1⟩
def pC(l:List Int)(n:Int):aN:=⟨5,n_c,[BT l n],[nOld],[],ct (eH l 23 6) (cq n) (BT l n),n-1⟩
def kV(l:List Int)(n:Int):List aN:=[gQ l n,iF l n]
def eZ(l:List Int)(n:Int):List aN:=kV l n++(if cn l then[fK l n,lD n] else[])
def fw(l:List Int)(n:Int):List aN:=eZ l n++[pF l n]++[if cn l then lN n else pG l n]
def bw(l:List Int)(n:Int):List aN:=fw l n++[pT l n]++(if 0<eH l 22 4 then[pC l n] else[])
def ay(l:List Int):Int:=1+eH l 0 2
def cO(p:aN)(next:Int):List aC :=
 (W6 p.types.length).map fun(j:Nat)=>⟨fA (next+(j:Int)),p.aJ.getD j Ys,p.types.getD j bQ,if p.kind=4 then p.ly.getD j 0 else 0,(j:Int)⟩
def jR(p:aN)(i next:Int):an:=⟨fA i,p.kind,fA p.mod,p.name,cO p next,p.aq,o7,0,[]⟩
def bx:List aN->Int->Int->List an
 |[],_,_=>[]
 |p::ps,i,next=>jR p i next::bx ps (i+1) (next+p.types.length)
theorem cG:∀(ps:List aN) (i next:Int),(bx ps i next).length=ps.length
 |[],_,_=>rfl
 |_::ps,_,_=>by rw[bx,RU,cG ps,RU]
end Xe
namespace Pm
open Go Xe
theorem gE(xs:List an){k:Nat}(hk:k<xs.length):el (xs.flatMap an.enc) 31 k=xs[k].enc:=dq an.aP xs hk
theorem mN(xs:List aC){k:Nat}(hk:k<xs.length):el (xs.flatMap aC.enc) 11 k=xs[k].enc:=dq aC.aP xs hk
theorem Kv(xs:List cg){k:Nat}(hk:k<xs.length):el (xs.flatMap cg.enc) 9 k=xs[k].enc:=dq cg.aP xs hk
theorem Bg(xs:List aO){k:Nat}(hk:k<xs.length):el (xs.flatMap aO.enc) 6 k=xs[k].enc:=dq aO.aP xs hk
theorem fl(xs:List av){k:Nat}(hk:k<xs.length):el (xs.flatMap av.enc) 3 k=xs[k].enc:=dq (enc:=av.enc) (λ_=>rfl) xs hk
theorem el_Pl(xs:List aN){k:Nat}(hk:k<xs.length):el (xs.flatMap aN.enc) 11 k=xs[k].enc:=dq aN.aP xs hk
theorem id_eq(a b:av):(a.aH=b.aH/\a.seq=b.seq/\a.index=b.index)=(a=b):=propext ⟨λh=>av.ext' h.1 h.2.1 h.2.2,λh=>by grind⟩
theorem ifK_nd(p:Prop)(_:Decidable p)(k h:Prop):ax (!decide p) k h=((p->h)/\(¬p->k)):=by by_cases hp:p <;> simp[ax,hp]
theorem aF:(∀(d:D) (ds:List D) (o n:Nat),sub (d::ds) (o+1) n=sub ds o n)/\(∀(d:D) (ds:List D) (n:Nat),sub (d::ds) 0 (n+1)=d::sub ds 0 n)/\(∀(ds:List D),sub ds 0 0=[]) /\
  (∀(p:Prop) (_:Decidable p) (k h:Prop),ax (!decide p) k h=((p->h)/\(¬p->k))) /\
  (∀(t:Ty) (o n:Nat),sub t.enc o n=sub [aj t.kind,aj t.df.aH,aj t.df.seq,aj t.df.index,.sl t.kids.length 5 (t.kids.flatMap Ty.enc)] o n) /\
  (∀(b:cg) (i:Nat),cell b.enc i=cell [aj b.id.aH,aj b.id.seq,aj b.id.index,aj b.n,aj b.ty.kind,aj b.ty.df.aH,aj b.ty.df.seq,aj b.ty.df.index,.sl b.ty.kids.length 5 (b.ty.kids.flatMap Ty.enc)] i) /\
  (∀(b:cg),sub b.enc 4 5=b.ty.enc)/\(∀(b:cg),sub b.enc 0 3=b.id.enc) /\
  (∀(x:aC),sub x.enc 4 5=x.ty.enc)/\(∀(x:aC),sub x.enc 0 3=x.id.enc) /\
  (∀(x:an),sub x.enc 0 3=x.id.enc)/\(∀(x:an),sub x.enc 4 3=x.mod.enc)/\(∀(x:an),sub x.enc 9 5=x.aq.enc)/\(∀(x:an),sub x.enc 14 15=x.body.enc) /\
  (∀(x:an),cell x.enc 3=aj x.kind)/\(∀(x:an),cell x.enc 8=.sl x.ah.length 11 (x.ah.flatMap aC.enc))/\(∀(x:aO),sub x.enc 0 3=x.id.enc) /\
  (∀(x:av) (i:Nat),cell x.enc i=cell [aj x.aH,aj x.seq,aj x.index] i)/\(∀a b:av,(a.aH=b.aH/\a.seq=b.seq/\a.index=b.index)=(a=b))/\(∀e:Ex,sub e.enc 5 3=e.ref.enc)/\(∀e:Ex,sub e.enc 0 3=e.id.enc)/\(∀e:Ex,sub e.enc 8 5=e.ty.enc):=by
 refine⟨λ_ _ _ _=>rfl,λ_ _ _=>rfl,λ_=>rfl,λ_ _ _ _=>ifK_nd _ _ _ _,λt o n=>by rw[Ty.aD],λ_ _=>rfl,λb=>by rw[Ty.aD];rfl,λ_=>rfl,λb=>by rw[Ty.aD];rfl,λ_=>rfl,λ_=>rfl,λ_=>rfl,λb=>by rw[Ty.aD];rfl,λb=>by rw[Ex.aD];rfl,λ_=>rfl,λ_=>rfl,λ_=>rfl,λ_ _=>rfl,id_eq,λe=>by rw[Ex.aD];rfl,λe=>by rw[Ex.aD];rfl,λe=>by rw[Ex.aD,Ty.aD];rfl⟩
def gA(c:fE)(s:b6):List D:=[.sl c.p.aw.length 6 (c.p.aw.flatMap aO.enc),bY c.l,vI s.pos,vI s.bj,vI s.left,vI c.own,vI c.ka.aH,vI c.ka.seq,vI c.ka.index,vI s.name]
def iO(c:fE):List D:=[.sl c.p.aa.length 31 (c.p.aa.flatMap an.enc)]
def exL(e:Ex):List D:=[aj e.id.aH,aj e.id.seq,aj e.id.index,aj e.kind,aj e.n,aj e.ref.aH,aj e.ref.seq,aj e.ref.index,aj e.ty.kind,aj e.ty.df.aH,aj e.ty.df.seq,aj e.ty.df.index,
  .sl e.ty.kids.length 5 (e.ty.kids.flatMap Ty.enc),.sl e.kids.length 15 (e.kids.flatMap Ex.enc)]
def nmL(e:Ex):List D:=[Kw e.aJ]
theorem bB{X:(bT->Prop)->Prop}{k:bT->Prop}(r:bT)(h:X λst=>st=r)(hk:k r):jn X k:=⟨_,h,λ_ e=>e▸hk⟩
def Gu(c:fE)(r:Ex×b6):bT:=[exL r.1,nmL r.1,gA c r.2,iO c]
theorem dh:(∀c s,gA c s=[.sl c.p.aw.length 6 (c.p.aw.flatMap aO.enc),bY c.l,vI s.pos,vI s.bj,vI s.left,vI c.own,vI c.ka.aH,vI c.ka.seq,vI c.ka.index,vI s.name]) /\
  (∀c,iO c=[.sl c.p.aa.length 31 (c.p.aa.flatMap an.enc)])/\(∀e,nmL e=[.sl e.aJ.length 1 (e.aJ.map bM)]) /\
  (∀e,exL e=[aj e.id.aH,aj e.id.seq,aj e.id.index,aj e.kind,aj e.n,aj e.ref.aH,aj e.ref.seq,aj e.ref.index,aj e.ty.kind,aj e.ty.df.aH,aj e.ty.df.seq,aj e.ty.df.index,.sl e.ty.kids.length 5 (e.ty.kids.flatMap Ty.enc),.sl e.kids.length 15 (e.kids.flatMap Ex.enc)]) /\
  (∀c r,Gu c r=[exL r.1,nmL r.1,gA c r.2,iO c]):=⟨λ_ _=>rfl,λ_=>rfl,λ_=>rfl,λ_=>rfl,λ_ _=>rfl⟩
structure Ctx(c:fE)(R:Nat):Prop where
 gen:Rx c.p R
 li:∀x∈c.l,lX x
 m0:0<c.p.aw.length
 d0:0<c.p.aa.length
 d1:c.p.aa.length<=100
 sty:∀d∈c.p.aa,∀x∈d.ah,x.ty.size<=1000
 rty:∀d∈c.p.aa,d.aq.size<=1000
structure Fit(c:fE)(R n:Nat)(t:Ty)(env:List cg)(depth:Int):Prop where
 e0:0<env.length
 e1:env.length+2*n<=1000
 ew:∀b∈env,eV c.p R b.ty
 es:∀b∈env,b.ty.size<=1000
 ts:t.size<=1000
 ok:sf c.p R n t depth
 dp:(n:Int)-1000<=depth/\depth<=1000
theorem Fit.yv{c:fE}{R n:Nat}{t:Ty}{env:List cg}{depth:Int}(h:Fit c R (n+1) t env depth){u:Ty}(hu:∀m,eV c.p (m+1) t->eV c.p m u)(hs:u.size<=1000):Fit c R n u env (depth-1) :=
 ⟨h.e0,by have:=h.e1;omega,h.ew,h.es,hs,h.ok.part hu,by have:=h.dp;omega⟩
theorem Fit.any{c:fE}{R n:Nat}{t:Ty}{env:List cg}{depth:Int}(h:Fit c R (n+1) t env depth)(h0:0<depth){u:Ty}(hu:eV c.p R u)(hs:u.size<=1000){j:Int}(hj:1<=j)(hj2:j<=2):Fit c R n u env (depth-j) :=
 ⟨h.e0,by have:=h.e1;omega,h.ew,h.es,hs,h.ok.any h0 hu hj,by have:=h.dp;have:=h.e1;omega⟩
theorem Fit.wt{c:fE}{R n:Nat}{t:Ty}{env:List cg}{depth:Int}(h:Fit c R n t env depth)(h0:0<depth):eV c.p R t:=by
 rcases h.ok with h1|h1
 .omega
 .exact h1.2.1
theorem Fit.yj{c:fE}{R n:Nat}{t:Ty}{env:List cg}{depth:Int}(h:Fit c R n t env depth){b:cg}(hw:eV c.p R b.ty)(hs:b.ty.size<=1000)(hl:env.length+1+2*n<=1000):Fit c R n t (env++[b]) depth :=
 ⟨Q2,Qc,λx hx=>by
  rcases RY.1 hx with hx|hx
  .exact h.ew x hx
  .rw[RZ.1 hx];exact hw,λx hx=>by
  rcases RY.1 hx with hx|hx
  .exact h.es x hx
  .rw[RZ.1 hx];exact hs,h.ts,h.ok,h.dp⟩
theorem pz{p:au}{R:Nat}(hR:2<=R){t:Ty}(h:t.kind=0\/t.kind=1):eV p R t:=by obtain⟨m,rfl⟩:∃m,R=m+1:=⟨R-1,Q0⟩;rw[eV];omega
theorem iy:bQ.enc=[vI 0,vI 0,vI 0,vI 0,.sl 0 5 []]:=by rw[Ty.aD];rfl
theorem wj:(cb bQ).enc=[vI 2,vI 0,vI 0,vI 0,.sl 1 5 [vI 0,vI 0,vI 0,vI 0,.sl 0 5 []]]:=by rw[Ty.aD];show[aj 2,aj 0,aj 0,aj 0,.sl 1 5 ([bQ].flatMap Ty.enc)]=_;simp[iy]
theorem vX:(Ty.mk 1 kx []).enc=[vI 1,vI 0,vI 0,vI 0,.sl 0 5 []]:=by rw[Ty.aD];rfl
theorem Qj{α:Type}{l:List α}{d:α}(h:0<l.length):l.headD d=l[0]:=by
 cases l with
 |nil=>cases h
 |cons a l=>rfl
theorem fj{z n:Int}(hz:0<=z):z.tmod n=z % n:=SL hz
theorem mm{z n:Int}(hz:0<=z):z.tdiv n=z / n:=T4 hz
end Pm
namespace Go.Proofs.YtmbboaapillefaaGreatDoor
open Xe Pm
abbrev IS:=Pm.Is RH
theorem mR{z n:Int}(hn:1<=n)(hz:lX z):IS s22 [[vI z],[vI n]] [[vI (fR z n)]]:=by
 refine w22.is ?_;unfold g22;simp only[ai];refine ij ?_;simp only[ai]
 grind [Nt,aZ,lX]
theorem lY{z:Int}(h0:0<=z)(hz:lX z):IS nN [[vI z]] [(fA z).enc]:=by refine w30.is ?_;unfold g30;simp only[ai];unfold aZ lX at *;have e:=mm (n:=32) h0;refine⟨⟨Q1,Q0,Q0⟩,Q0,Q1,?_⟩;rfl
theorem RB{l:List Int}{i n:Int}(hn:1<=n)(hl:∀x∈l,lX x):IS rC [[bY l],[vI i],[vI n]] [[vI (eH l i n)]]:=by
 refine w29.is ?_;unfold g29 bY eH;simp only[ai];refine⟨λh=>by grind,λh=>⟨λh1=>by grind,λh1=>⟨Q0,?_⟩⟩⟩;have hk:i.toNat<l.length:=Q0;rw[uG l hk];simp only[ai];refine ab (mR hn (hl _ (RQ hk))) ?_;simp only[ai]
 grind
section
variable {c:fE} {s:b6}
theorem num_is{n:Int}(hn:1<=n)(hl:∀x∈c.l,lX x)(hb:Bd 1 s):IS s116 [[vI n],gA c s,iO c] [[vI (fW c n s).1],gA c (fW c n s).2,iO c]:=by refine w116.is ?_;unfold g116 gA iO;simp only[ai];unfold aZ Bd at *;refine⟨Q0,Q0,?_⟩;refine ab (RB hn hl) ?_;simp only[ai,fW,Y0]
theorem gK{k n:Int}{kids:List Ex}(hb:Bd 1 s):IS iv [[vI k],[vI n],[.sl kids.length 15 (kids.flatMap Ex.enc)],gA c s,iO c] (Gu c (be k n kids s)):=by refine w120.is ?_;unfold g120 gA iO;simp only[ai];unfold aZ Bd at *;refine⟨Q0,Q0,Q0,?_⟩;simp only[be,Y0];rfl
theorem wc(hb:Bd 1 s):IS Ec [gA c s,iO c] [[vS (aM s).1],gA c (aM s).2,iO c]:=by
 refine w121.is ?_;unfold g121 gA iO;simp only[ai];unfold aZ Bd at *;obtain⟨i,j,h1,h2,h3,h4,h5⟩:=nm_rng (k:=s.name+1) Q0;have e2:(s.name+1).tdiv 3=(s.name+1) / 3:=mm Q0;refine⟨Q0,Q1,Q0,⟨Q1,Q0⟩,Q1,Q0,?_⟩;rw[h1,h3,SF,SF];have e1:cell (el [vS ⟨#[117]⟩,vS ⟨#[118]⟩,vS ⟨#[119]⟩] 1 i) 0=vS (nm1.getD i ⟨#[]⟩):=by rcases i with _|_|_|i <;> first|rfl|omega
 have e3:cell (el [vS ⟨#[]⟩,vS ⟨#[49]⟩,vS ⟨#[50]⟩,vS ⟨#[51]⟩,vS ⟨#[52]⟩,vS ⟨#[53]⟩,vS ⟨#[54]⟩,vS ⟨#[55]⟩] 1 j) 0=vS (nm2.getD j ⟨#[]⟩):=by rcases j with _|_|_|_|_|_|_|_|j <;> first|rfl|omega
 rw[e1,e3];simp only[ai]
 grind [nm1_rng,nm2_rng,aM]
end
theorem KO(t:Ty):IS tL [t.enc] [[vI 2,vI 0,vI 0,vI 0],[.sl 1 5 t.enc]]:=by refine w114.is ?_;unfold g114;simp only[ai,RW]
theorem BN(i:av):IS xr [i.enc] [(mD i).enc]:=by refine w112.is ?_;unfold g112;rw[Ty.aD];rfl
theorem Ty.all_eq{a b:Ty}(h1:a.kind=b.kind)(h2:a.df=b.df)(h3:a.kids=b.kids):a=b:=by
 cases a;cases b
 grind [Ty.kind,Ty.df,Ty.kids]
theorem Ty.mw:∀l:List Ty,l.length<=Ty.ba l
 |[]=>Sy _
 |t::l=>by
  have:=Ty.mw l;have:1<=t.size:=by cases t;simp[Ty.size]
  grind [RU,Ty.ba]
theorem Ty.kids_lt(a:Ty):a.kids.length<a.size:=by
 have:=Ty.mw a.kids;cases a
 grind [Ty.size,Ty.kids]
theorem wM(a b:Ty)(hs:a.size<=1000000000000):IS zJ [a.enc,b.enc] [[vB (decide (a=b))]]:=by
 refine w186.is ?_;unfold g186;simp only[ai,aF];refine⟨λh1=>⟨λh2'=>?_,λh2=>?_⟩,λh1=>by rw[J6 (λe=>h1 (by rw[e]))]⟩
 .refine⟨λh3=>?_,λh3=>by rw[J6 (λe=>h3 (by rw[e]))]⟩;have h3':a.kids.length=b.kids.length:=Q0;refine bc a.kids.length (λi=>[[vI (i:Int)],a.enc,b.enc]) (λi=>a.kids.take i=b.kids.take i) Q2 rfl λi next hi hI hn=>?_
  simp only[ai];refine⟨λh=>?_,λh=>?_⟩
  .have hk:i<a.kids.length:=Q0;have hk':i<b.kids.length:=Q0;rw[yT _ hk,yT _ hk'];have:=Ty.my (RQ hk);have hl:=Ty.kids_lt a;refine⟨Q0,Q0,ab (wM _ _ Q0) ?_⟩;simp only[ai,aF];refine⟨λe=>⟨Q4,hn hk ?_⟩,λe=>?_⟩
   .grind [RJ]
   .rw[J6 (λe'=>e (by grind))]
  all_goals grind [J5,Ty.all_eq]
 .rw[J6 (λe=>h2 (by rw[e]))]
 termination_by a.size
theorem Def_is(p:au)(i:av)(hs:p.aa.length<=1000000000000)(md:D):IS s23 [[md],i.enc,[.sl p.aa.length 31 (p.aa.flatMap an.enc)]] [(al p i).enc,[vB (decide (cK p i))],[.sl p.aa.length 31 (p.aa.flatMap an.enc)]]:=by
 refine w23.is ?_;unfold g23;simp only[ai];refine ij ?_;refine bc p.aa.length (λk=>[[md],[vI (k:Int)],[.sl p.aa.length 31 (p.aa.flatMap an.enc)],[md],i.enc,l7.enc]) (λk=>∀j (hj:j<p.aa.length),j<k->p.aa[j].id≠i) (λ_ _ h=>J3 h (S6 _)) rfl λk next hi hI hn=>?_
 simp only[ai,aF];refine⟨λh=>?_,λh=>?_⟩
 .have hk:k<p.aa.length:=Q0;rw[gE _ hk];simp only[ai,aF]
  grind [aZ,kN]
 .obtain rfl:k=p.aa.length:=Q0;obtain⟨h1,h2⟩:=uU λj hj=>hI j hj hj;rw[h2,J6 h1];rfl
section
variable {c:fE} {s:b6}
theorem qB{k:Nat}(hk:k<c.p.aa.length)(hm:0<c.p.aw.length):IS D9 [[vI k],gA c s,iO c] [[vB (decide (kH c k))],gA c s,iO c]:=by
 refine w188.is ?_;unfold g188 gA iO;simp only[ai];rw[gE _ hk,Bg _ hm];simp only[ai,aF];have e1:=ju hk;have e2:=modA_eq hm;refine⟨Q0,λh=>⟨λh1=>?_,λh1=>⟨Q0,?_⟩⟩,λh=>?_⟩
 .grind [J5,kH]
 .refine J4 (λb=>[[vB b],gA c s,iO c]) (decide_eq_decide.2 ?_);unfold kH
  grind
 .rw[J6 (λhv=>h hv.1)]
theorem of_is{kind:Int}{frm:Nat}(hm:0<c.p.aw.length)(hd:0<c.p.aa.length)(hl:c.p.aa.length<=1000)(hf:frm<=1000000000000):IS s187 [[vI kind],[vI frm],gA c s,iO c] [[vI (Nw c kind frm)],gA c s,iO c]:=by
 refine w187.is ?_;unfold g187 gA iO;simp only[ai];refine bc c.p.aa.length (λi=>[[vI kind],[vI frm],[vI (c.p.aa.length:Int)],[vI (i:Int)],gA c s,iO c]) (λi=>Nw c kind frm=gR c kind frm i (c.p.aa.length-i)) rfl rfl λi next hi hI hn=>?_
 unfold gA iO;simp only[ai];refine⟨λh=>?_,λh=>?_⟩
 .have hk:i<c.p.aa.length:=Q0;have ht:(((frm:Int)+i).tmod (c.p.aa.length:Int))=((frm+i) % c.p.aa.length:Nat):=by
   grind
  have hlt:(frm+i) % c.p.aa.length<c.p.aa.length:=Xf _ hd;rw[EH hk]at hI;refine ij ?_;rw[ht,SF,gE _ hlt];simp only[ai,aF];rw[ju hlt]at hI;have fin:Nw c kind frm=gR c kind frm (i+1) (c.p.aa.length-(i+1))->aZ ((i:Int)+1)/\next [[vI kind],[vI frm],[vI (c.p.aa.length:Int)],[vI ((i:Int)+1)],gA c s,iO c]:=λe=>⟨Q4,hn hk e⟩
  refine⟨Q4,Q0,Q0,λh1=>ab (qB hlt hm) ?_,λh1=>?_⟩
  .unfold gA iO;simp only[ai];refine⟨λh2=>?_,λh2=>fin ?_⟩
   all_goals grind
  .refine fin ?_;omega
 .obtain rfl:i=c.p.aa.length:=Q0;rw[hI,W5];rfl
theorem HT{env:List cg}{t:Ty}(ht:∀b∈env,b.ty.size<=1000000000000)(hl:env.length<=1000000):IS s117 [[cj env],t.enc] [[cj (fg env t)]]:=by
 refine w117.is ?_;unfold g117 cj;simp only[ai];refine bc env.length (λi=>[[.sl env.length 9 (env.flatMap cg.enc)],[vI (i:Int)],t.enc,[cj (fg (env.take i) t)]]) (λ_=>True) trivial rfl λi next hi _ hn=>?_
 unfold cj;simp only[ai];refine⟨λh=>?_,λh=>?_⟩
 .have hk:i<env.length:=Q0;refine ij ?_;rw[Kv _ hk];simp only[ai,aF];have hf:=yJ (t:=t) hk;have:=Fs (l:=env) (t:=t) i;have hn':=hn hk trivial;rw[hf]at hn';refine⟨Q0,ab (wM _ _ (ht _ (RQ hk))) ?_⟩;simp only[ai];refine⟨λh1=>?_,λh1=>?_⟩
  .rw[J2 h1]at hn';refine⟨Q0,Qa,Q4,?_⟩;simpa[cj]using hn'
  all_goals grind [aZ]
 all_goals grind
theorem var_is{b:cg}(hb:Bd 1 s):IS Lx [b.enc,gA c s,iO c] (Gu c (NB b s)):=by refine w118.is ?_;unfold g118 gA iO;simp only[ai,aF];refine ab (gK (kids:=[]) hb) ?_;simp only[dh,ai];rfl
theorem vT{env:List cg}{b:cg}(hl:env.length<=1000000):IS Eb [[cj env],b.enc] [[cj (env++[b])]]:=by
 refine w122.is ?_;unfold g122 cj;simp only[ai]
 grind [aL]
end
def uQ(c:fE)(R n:Nat):Prop:=∀(t:Ty) (env:List cg) (depth:Int) (s:b6),Fit c R n t env depth->Bd (9 ^ n) s->IS lC [t.enc,[cj env],[vI depth],gA c s,iO c] (Gu c (aB c n t env depth s))
theorem q1(n:Nat):(1:Int)<=9 ^ n:=Z4 Q1
theorem sM(e:Ex):[aj e.id.aH,aj e.id.seq,aj e.id.index,aj e.kind,aj e.n,aj e.ref.aH,aj e.ref.seq,aj e.ref.index,aj e.ty.kind,aj e.ty.df.aH,aj e.ty.df.seq,aj e.ty.df.index,
  .sl e.ty.kids.length 5 (e.ty.kids.flatMap Ty.enc),.sl e.kids.length 15 (e.kids.flatMap Ex.enc),.sl e.aJ.length 1 (e.aJ.map bM)]=e.enc:=(Ex.aD e).symm
theorem wD(l:List Ex)(e:Ex):l.flatMap Ex.enc++[aj e.id.aH,aj e.id.seq,aj e.id.index,aj e.kind,aj e.n,aj e.ref.aH,aj e.ref.seq,aj e.ref.index,aj e.ty.kind,aj e.ty.df.aH,aj e.ty.df.seq,aj e.ty.df.index,
  .sl e.ty.kids.length 5 (e.ty.kids.flatMap Ty.enc),.sl e.kids.length 15 (e.kids.flatMap Ex.enc),.sl e.aJ.length 1 (e.aJ.map bM)]=(l++[e]).flatMap Ex.enc:=by rw[sM];simp
def exC(e:Ex):List D:=[aj e.id.aH,aj e.id.seq,aj e.id.index,aj e.kind,aj e.n,aj e.ref.aH,aj e.ref.seq,aj e.ref.index,aj e.ty.kind,aj e.ty.df.aH,aj e.ty.df.seq,aj e.ty.df.index,
  .sl e.ty.kids.length 5 (e.ty.kids.flatMap Ty.enc),.sl e.kids.length 15 (e.kids.flatMap Ex.enc),.sl e.aJ.length 1 (e.aJ.map bM)]
theorem wE(e:Ex):exC e=e.enc:=(Ex.aD e).symm
section
variable {c:fE} {s:b6} {k n:Int}
theorem so(e:Ex)(hb:Bd 1 s):IS iv [[vI k],[vI n],[.sl 1 15 (exC e)],gA c s,iO c] (Gu c (be k n [e] s)):=by
 have:=gK (c:=c) (k:=k) (n:=n) (kids:=[e]) hb
 grind [wE]
theorem yb(e f:Ex)(hb:Bd 1 s):IS iv [[vI k],[vI n],[.sl 2 15 (exC e++exC f)],gA c s,iO c] (Gu c (be k n [e,f] s)):=by
 have:=gK (c:=c) (k:=k) (n:=n) (kids:=[e,f]) hb
 grind [wE]
theorem EM(e f g:Ex)(hb:Bd 1 s):IS iv [[vI k],[vI n],[.sl 3 15 (exC e++(exC f++exC g))],gA c s,iO c] (Gu c (be k n [e,f,g] s)):=by
 have:=gK (c:=c) (k:=k) (n:=n) (kids:=[e,f,g]) hb
 grind [wE]
end
section
variable {c:fE} {R n:Nat} {t:Ty} {env:List cg} {x depth:Int} {s:b6}
theorem MB(h:t.size<=1000):(t.kids.headD bQ).size<=1000:=by
 cases hk:t.kids with
 |nil=>simp[bQ,Ty.size,Ty.ba]
 |cons a l=>have:=Ty.my (t:=t) (k:=a) (by grind);show a.size<=1000;omega
theorem IX(hc:Ctx c R)(i:av){z:aC}(hz:z∈(al c.p i).ah):z.ty.size<=1000:=by
 rcases mX c.p i with e|e
 .rw[e]at hz;cases hz
 .exact hc.sty _ e _ hz
theorem yt(hc:Ctx c R)(hg:uQ c R n){d:Int}{ts:List Ty}(st:Nat->List Ex->b6->bT)(z:List Ex×b6)(hz:dt (aB c n) env d ts s=z)(hb:Bd (ts.length*9 ^ n+1) s)(hk:∀u∈ts,Fit c R n u env d){B:(bT->Prop)->bT->Prop}{s0:bT}(e0:s0=st 0 [] s)
  (h:∀(i:Nat) (dn:List Ex) (s1:b6) (next:bT->Prop),i<=ts.length->dn.length=i ->
   (∀hk:i<ts.length,IS lC [ts[i].enc,[cj env],[vI d],gA c s1,iO c] (Gu c (aB c n ts[i] env d s1))/\next (st (i+1) (dn++[(aB c n ts[i] env d s1).1]) (aB c n ts[i] env d s1).2)) ->
   (i=ts.length->z.1=dn/\z.2=s1)->B next (st i dn s1)):Lp B s0:=by
 have hq:=q1 n;refine cY (σ:=Nat×List Ex×b6) (λy=>st y.1 y.2.1 y.2.2) (λy=>ts.length-y.1)
  (λy=>y.1<=ts.length/\y.2.1.length=y.1/\z=kJ y.2.1 (dt (aB c n) env d (ts.drop y.1) y.2.2)/\Bd ((ts.length-y.1:Nat)*9 ^ n+1) y.2.2) (0,[],s) ⟨Sy _,rfl,by rw[Te,hz];exact PY z,hb⟩ e0 ?_
 rintro⟨i,dn,s1⟩ next ⟨hi,hlen,hI,hB⟩ hn
 dsimp only at hi hlen hI hB hn ⊢;refine h i dn s1 next hi hlen (λhk1=>?_) (λhe=>?_)
 .obtain⟨m,hm⟩:∃m,ts.length-i=m+1:=⟨ts.length-i-1,Q0⟩;rw[hm]at hB;have e1:((m+1:Nat):Int)*9 ^ n=m*9 ^ n+9 ^ n:=by grind
  have h5:(0:Int)<=m*9 ^ n:=Ue Q0 Q0;refine⟨hg _ env d s1 (hk _ (RQ hk1)) (hB.mono Q0),?_⟩;have hI':=HC hk1 hI;have hB':=dD hc.gen.fJ n ts[i] env d s1 (m*9 ^ n+1) Q0 (hB.mono Q0);exact hn (i+1,_,_) Q0 ⟨Q0,by simp[hlen],hI',by grind⟩
 .have:=MA he hI;rw[this];exact⟨rfl,rfl⟩
theorem PN(hc:Ctx c R)(hg:uQ c R n)(hf:Fit c R (n+1) t env depth)(hx:0<=x/\x<=1000000)(hb:Bd (3*9 ^ n+1) s):IS Lw [t.enc,[cj env],[vI x],[vI depth],gA c s,iO c] (Gu c (kZ c (aB c n) t env x depth s)):=by
 refine w119.is ?_;unfold g119;have hq:=q1 n;have e29:x.tmod 29=x % 29:=fj hx.1;have e9:x.tmod 9=x % 9:=fj hx.1;have e2:x.tmod 2=x % 2:=fj hx.1;have e3:x.tmod 3=x % 3:=fj hx.1;simp only[ai,aF,dh,cj];refine⟨λh0=>?_,λh0=>⟨λh1=>?_,λh1=>⟨λh2=>?_,λh2=>?_⟩⟩⟩
 .refine⟨Q1,Q4,bB [[vI (PQ x)],gA c s,o7.enc,iO c] ?_ ?_⟩
  .simp only[dh];refine⟨Q1,λh=>⟨Q1,Q4,?_⟩,λh=>?_⟩
   .unfold PQ;rw[J2 h];rfl
   .unfold PQ;rw[J1 h];rfl
  .simp only[ai,dh];refine ab (gK (kids:=[]) (hb.mono Q0)) ?_;simp only[ai,dh]
   grind [kZ]
 .refine⟨Q1,ab (gK (kids:=[]) (hb.mono Q0)) ?_⟩;simp only[ai,dh]
  grind [kZ]
 .have hw:=hf.ok.wf;obtain⟨hk0,_⟩:=wV hw h2;have hd:t.kids.headD bQ=t.kids[0]:=Qj hk0;have hs0:=MB hf.ts;have el0:=yT t.kids hk0;generalize hM:(if 0<=depth then(x.tmod 3).toNat else 0)=M;have hM3:M<=3:=by grind
  generalize hz:du (aB c n) (t.kids.headD bQ) env (depth-1) M s=z;have hr:kZ c (aB c n) t env x depth s=((be 11 0 z.1 z.2).1.I7 (t.kids.headD bQ),(be 11 0 z.1 z.2).2):=by
   unfold kZ
   grind
  rw[hr];have hzb:Bd 1 z.2:=by rw[<-hz];have:=le3 hM3 (show(0:Int)<=9 ^ n by omega);exact yu (dD hc.gen.fJ n) hq Q0 M s (hb.mono Q0)
  refine bB [gA c z.2,t.enc,o7.enc,[.sl z.1.length 15 (z.1.flatMap Ex.enc)],iO c] ?_ ?_
  .refine cY (σ:=Nat×List Ex×b6) (λy=>[[cj env],[vI x],[vI depth],[vI (y.1:Int)],gA c y.2.2,t.enc,o7.enc,[.sl y.2.1.length 15 (y.2.1.flatMap Ex.enc)],iO c]) (λy=>M-y.1)
    (λy=>y.1<=M/\y.2.1.length=y.1/\z=kJ y.2.1 (du (aB c n) (t.kids.headD bQ) env (depth-1) (M-y.1) y.2.2)/\Bd ((M-y.1:Nat)*9 ^ n+1) y.2.2) (0,[],s) ⟨Sy _,rfl,by rw[Nat.sub_zero,hz];exact PY z,by
     have:=le3 hM3 (show(0:Int)<=9 ^ n by omega);exact hb.mono (by grind)⟩ rfl ?_
   rintro⟨i,dn,s1⟩ next ⟨hi,hlen,hI,hB⟩ hn
   dsimp only at hi hlen hI hB hn ⊢;simp only[ai,dh,cj];have stop:(M-i=0\/¬0<s1.left)->[[.sl c.p.aw.length 6 (c.p.aw.flatMap aO.enc),bY c.l,vI s1.pos,vI s1.bj,vI s1.left,vI c.own,vI c.ka.aH,vI c.ka.seq,vI c.ka.index,vI s1.name],t.enc,o7.enc,[.sl dn.length 15 (dn.flatMap Ex.enc)],[.sl c.p.aa.length 31 (c.p.aa.flatMap an.enc)]]=[gA c z.2,t.enc,o7.enc,[.sl z.1.length 15 (z.1.flatMap Ex.enc)],iO c]:=λh=>by rw[HD hI h];rfl
   refine⟨Q1,λh=>⟨λh3=>⟨λh4=>?_,λh4=>stop (.inr h4)⟩,λh3=>stop (.inl ?_)⟩,λh=>stop (.inl ?_)⟩
   .rw[J2 h3]at hM;have hiM:i<M:=Q0;obtain⟨m,hm⟩:∃m,M-i=m+1:=⟨M-i-1,Q0⟩;rw[hm]at hI hB;have e1:((m+1:Nat):Int)*9 ^ n=m*9 ^ n+9 ^ n:=by grind
    have h5:(0:Int)<=m*9 ^ n:=Ue Q0 Q0;rw[el0,<-hd];have hdp:=hf.dp;refine⟨Q0,Q4,ab (hg _ env (depth-1) s1 (hf.yv (λm hm=>(wV hm h2).2) hs0) (hB.mono Q0)) ?_⟩;simp only[ai,dh];have hI':=HE hI h4;have hB':=dD hc.gen.fJ n (t.kids.headD bQ) env (depth-1) s1 (m*9 ^ n+1) Q0 (hB.mono Q0);generalize aB c n (t.kids.headD bQ) env (depth-1) s1=r at hI' hB' ⊢;refine⟨Qa,Q4,?_⟩;have:=hn (i+1,dn++[r.1],r.2) Q0 ⟨Q0,by simp[hlen],by dsimp only;rw[show M-(i+1)=m by omega];exact hI',by dsimp only;rw[show M-(i+1)=m by omega];exact hB'⟩;rw[wD];simpa[dh,cj]using this
   .grind
   .split at hM <;> omega
  .simp only[ai,dh];refine ab (gK hzb) ?_;simp only[ai,dh];refine⟨Q0,?_⟩;rw[el0,<-hd];simp only[ai];rfl
 .have hw:=hf.ok.wf;obtain⟨hw1,hw2,hw3⟩:=mW hw h0 h1 h2;have hdp:=hf.dp;have hs3:=hc.gen.fJ.mY t.df;have hdl:=hc.d1;refine ab (Def_is c.p t.df Q0 _) ?_;simp only[ai,aF];refine⟨λh3=>?_,λh3=>?_⟩
  .have hs0:=hw2 h3;have hk:gj (al c.p t.df) x depth=((gj (al c.p t.df) x depth).toNat:Int)/\(gj (al c.p t.df) x depth).toNat<(al c.p t.df).ah.length:=by
    have e:x.tmod ((al c.p t.df).ah.length:Int)=x % ((al c.p t.df).ah.length:Int):=fj hx.1;have h1:=Uw x (show((al c.p t.df).ah.length:Int)≠0 by omega);have h2:=T5 x (show(0:Int)<(al c.p t.df).ah.length by omega)
    grind [gj]
   have hr:kZ c (aB c n) t env x depth s=(((be 9 (gj (al c.p t.df) x depth) [(aB c n ((((al c.p t.df).ah.map aC.ty).getD (gj (al c.p t.df) x depth).toNat bQ)) env (depth-1) s).1] (aB c n ((((al c.p t.df).ah.map aC.ty).getD (gj (al c.p t.df) x depth).toNat bQ)) env (depth-1) s).2).1.dO (al c.p t.df).id),(be 9 (gj (al c.p t.df) x depth) [(aB c n ((((al c.p t.df).ah.map aC.ty).getD (gj (al c.p t.df) x depth).toNat bQ)) env (depth-1) s).1] (aB c n ((((al c.p t.df).ah.map aC.ty).getD (gj (al c.p t.df) x depth).toNat bQ)) env (depth-1) s).2).2):=by
    unfold kZ
    grind
   rw[hr];refine⟨Q0,bB [[cj env],[vI depth],[vI (gj (al c.p t.df) x depth)],gA c s,o7.enc,(al c.p t.df).enc,iO c] ?_ ?_⟩
   .simp only[dh,cj];unfold gj;exact⟨λh=>by rw[J2 h];rfl,λh=>by rw[J1 h];rfl⟩
   .generalize gj (al c.p t.df) x depth=kk at hk ⊢;obtain⟨k,rfl⟩:∃k:Nat,kk=k:=⟨_,hk.1⟩;rw[SF]at hk ⊢;have hk2:=hk.2;have eg:((al c.p t.df).ah.map aC.ty).getD k bQ=(al c.p t.df).ah[k].ty:=by grind
    rw[eg];simp only[ai,aF,dh,cj];rw[mN _ hk2];simp only[aF];have hm:=RQ hk2;refine⟨Q0,Q4,ab (hg _ env (depth-1) s (hf.yv (λm hm'=>(mW hm' h0 h1 h2).2.2 _ hm) (IX hc _ hm)) (hb.mono Q0)) ?_⟩;have hB':=dD hc.gen.fJ n (al c.p t.df).ah[k].ty env (depth-1) s 1 Q0 (hb.mono Q0);generalize aB c n (al c.p t.df).ah[k].ty env (depth-1) s=r at hB' ⊢;simp only[ai,dh];refine ab (so r.1 hB') ?_;simp only[ai,dh];rfl
  .generalize hz:dt (aB c n) env (depth-1) ((al c.p t.df).ah.map aC.ty) s=z;have hr:kZ c (aB c n) t env x depth s=((be 7 0 z.1 z.2).1.dO (al c.p t.df).id,(be 7 0 z.1 z.2).2):=by
    unfold kZ
    grind
   rw[hr];have h3q:=le3 hs3 (show(0:Int)<=9 ^ n by omega);have hzb:Bd 1 z.2:=by rw[<-hz];exact oV (dD hc.gen.fJ n) hq Q0 _ s (hb.mono (by grind))
   refine bB [gA c z.2,o7.enc,(al c.p t.df).enc,[.sl z.1.length 15 (z.1.flatMap Ex.enc)],iO c] ?_ ?_
   .refine yt hc hg (d:=depth-1) (ts:=(al c.p t.df).ah.map aC.ty) (s:=s) (λi dn s1=>[[cj env],[vI depth],[vI (i:Int)],gA c s1,o7.enc,(al c.p t.df).enc,[.sl dn.length 15 (dn.flatMap Ex.enc)],iO c]) z hz (hb.mono (by grind)) (λu hu=>?_) rfl (λi dn s1 next hi hlen hgo hend=>?_)
    .obtain⟨y,hy,rfl⟩:=R3.1 hu;exact hf.yv (λm hm'=>(mW hm' h0 h1 h2).2.2 _ hy) (IX hc _ hy)
    .simp only[ai,aF,dh,cj];have hlm:((al c.p t.df).ah.map aC.ty).length=(al c.p t.df).ah.length:=Sa ..;refine⟨λh=>?_,λh=>?_⟩
     .have hk:i<(al c.p t.df).ah.length:=Q0;obtain⟨hi1,hi2⟩:=hgo Q0;rw[mN _ hk];simp only[aF];rw[S0]at hi1 hi2;refine⟨Q0,Q4,ab hi1 ?_⟩;generalize aB c n (al c.p t.df).ah[i].ty env (depth-1) s1=r at hi2 ⊢;simp only[ai,dh];rw[wD];refine⟨Qa,Q4,?_⟩;simpa[dh,cj]using hi2
     all_goals grind
   .simp only[ai,dh];refine ab (gK hzb) ?_;simp only[ai,dh,aF];rfl
end
theorem sE:IS tL [[vI 0,vI 0,vI 0,vI 0,.sl 0 5 []]] [[vI 2,vI 0,vI 0,vI 0],[.sl 1 5 [vI 0,vI 0,vI 0,vI 0,.sl 0 5 []]]]:=by
 grind [KO,iy]
section
variable {c:fE} {R n:Nat} {t:Ty} {env:List cg} {x depth:Int} {s:b6}
theorem uQ.list0(hg:uQ c R n){d:Int}(hf:Fit c R n (cb bQ) env d)(hb:Bd (9 ^ n) s):IS lC [[vI 2,vI 0,vI 0,vI 0,.sl 1 5 [vI 0,vI 0,vI 0,vI 0,.sl 0 5 []]],[cj env],[vI d],gA c s,iO c] (Gu c (aB c n (cb bQ) env d s)):=by have:=hg _ env d s hf hb;rwa [wj]at this
theorem Rb(g:GX)(u:Ty)(d:Int)(k:Int):lT g k u env d s=be 4 k [(g u env d s).1,(g u env d (g u env d s).2).1] (g u env d (g u env d s).2).2:=rfl
theorem Bf(h:0<env.length)(hx:0<=x):∃k:Nat,x.tmod (env.length:Int)=k/\∃hk:k<env.length,jL env x=env[k]:=by
 have e:x.tmod (env.length:Int)=x % (env.length:Int):=fj hx;have h1:=Uw x (show(env.length:Int)≠0 by omega);have h2:=T5 x (show(0:Int)<env.length by omega)
 grind [jL]
theorem JC(hc:Ctx c R)(hg:uQ c R n)(hf:Fit c R (n+1) t env depth)(h0:0<depth)(hx:0<=x/\x<=1000000)(hb:Bd (3*9 ^ n+1) s):IS zK [t.enc,[cj env],[vI x],[vI depth],gA c s,iO c] (Gu c (Xe.nO c (aB c n) t env x depth s)):=by
 refine w126.is ?_;unfold g126;have hq:=q1 n;have e6:x.tmod 6=x % 6:=fj hx.1;have e5:x.tmod 5=x % 5:=fj hx.1;have e2:x.tmod 2=x % 2:=fj hx.1;have d6:x.tdiv 6=x / 6:=mm hx.1;have d2:x.tdiv 2=x / 2:=mm hx.1;have hdp:=hf.dp;have hR2:=hc.gen.R2;have bd:=dD hc.gen.fJ n;simp only[ai,dh,cj];refine⟨λk0=>?_,λk0=>⟨λk1=>?_,λk1=>?_⟩⟩
 .refine⟨Q1,λh=>?_,λh=>?_⟩
  .refine ab sE ?_;simp only[ai];have hf1:=hf.any h0 (oa (p:=c.p) hR2) (u:=cb bQ) Q1 (j:=1) Q0 Q0;refine⟨Q4,ab (hg.list0 hf1 (hb.mono Q0)) ?_⟩;have hB:=bd (cb bQ) env (depth-1) s 1 Q0 (hb.mono Q0);rw[show Xe.nO c (aB c n) t env x depth s=be 4 11 [(aB c n (cb bQ) env (depth-1) s).1] (aB c n (cb bQ) env (depth-1) s).2 by unfold Xe.nO;rw[J2 k0,J2 h];rfl];generalize aB c n (cb bQ) env (depth-1) s=r at hB ⊢;simp only[ai,dh];refine ab (so r.1 hB) ?_;simp only[ai,dh]
  .have hf1:=hf.any h0 (hf.wt h0) hf.ts (j:=1) Q0 Q0;refine⟨Q4,ab (hg _ env _ s hf1 (hb.mono Q0)) ?_⟩;have hB:=bd t env (depth-1) s (9 ^ n+1) Q0 (hb.mono Q0);rw[show Xe.nO c (aB c n) t env x depth s=lT (aB c n) (x.tmod 5) t env (depth-1) s by grind [Xe.nO],Rb];generalize aB c n t env (depth-1) s=r at hB ⊢;simp only[ai,dh];refine⟨Q1,Q0,Q4,ab (hg _ env _ r.2 hf1 (hB.mono Q0)) ?_⟩;have hB2:=bd t env (depth-1) r.2 1 Q0 (hB.mono Q0);generalize aB c n t env (depth-1) r.2=r2 at hB2 ⊢;simp only[ai,dh];have ec:cell (el [vI 0,vI 1,vI 2,vI 3,vI 4] 1 (x.tmod 5).toNat) 0=vI (x.tmod 5):=by have:x.tmod 5=0\/x.tmod 5=1\/x.tmod 5=2\/x.tmod 5=3\/x.tmod 5=4:=Q0;rcases this with e|e|e|e|e <;> rw[e] <;> rfl
   rw[ec];refine ab (yb r.1 r2.1 hB2) ?_;simp only[ai,dh]
 .refine⟨Q1,λh=>?_,λh=>?_⟩
  .have hf1:=hf.any h0 (hf.wt h0) hf.ts (j:=1) Q0 Q0;refine⟨Q4,ab (hg _ env _ s hf1 (hb.mono Q0)) ?_⟩;have hB:=bd t env (depth-1) s 1 Q0 (hb.mono Q0);rw[show Xe.nO c (aB c n) t env x depth s=be 4 9 [(aB c n t env (depth-1) s).1] (aB c n t env (depth-1) s).2 by unfold Xe.nO;rw[J1 k0,J2 k1,J2 h];rfl];generalize aB c n t env (depth-1) s=r at hB ⊢;simp only[ai,dh];refine ab (so r.1 hB) ?_;simp only[ai,dh]
  .obtain⟨ke,he1,he2,he3⟩:=Bf (env:=env) hf.e0 (show 0<=x.tdiv 6 by omega);refine bB [[cj env],[vI x],[vI depth],[vI (if x.tmod 6=2 then 6 else 5)],gA c s,t.enc,o7.enc,bQ.enc,iO c] ?_ ?_
   .rw[iy];refine⟨Q1,?_⟩;simp only;exact⟨λh=>by rw[J2 h];rfl,λh=>by rw[J1 h];rfl⟩
   simp only[ai,dh,cj];refine bB [[cj env],[vI x],[vI depth],[vI (if x.tmod 6=3 then 6 else if x.tmod 6=2 then 6 else 5)],gA c s,t.enc,o7.enc,(if x.tmod 6=3 then(jL env (x.tdiv 6)).ty else bQ).enc,iO c] ?_ ?_
   .refine⟨Q1,?_⟩;simp only;refine⟨λh=>⟨⟨Q1,Q4⟩,Q0,Q0,?_⟩,λh=>by rw[J1 h,J1 h];rfl⟩;rw[J2 h,J2 h,he1,SF,Kv _ he2,he3];simp only[aF];rfl
   simp only[ai,dh,cj];refine bB [[cj env],[vI depth],[vI (zd x)],gA c s,o7.enc,(jY t env x).enc,iO c] ?_ ?_
   .refine⟨Q1,?_⟩;simp only;unfold zd jY;refine⟨λh=>⟨Q1,Q4,Q0,?_⟩,λh=>by rw[J1 h,J1 h];rfl⟩;have ec:cell (el [vI 7,vI 8] 1 (x.tmod 6-4).toNat) 0=vI (7+(x.tmod 6-4)):=by have:x.tmod 6-4=0\/x.tmod 6-4=1:=Q0;rcases this with e|e <;> rw[e] <;> rfl
    rw[ec,J2 h,J2 h];rfl
   simp only[ai,dh,cj];have hu:eV c.p R (jY t env x)/\(jY t env x).size<=1000:=by
    unfold jY;split
    .exact⟨hf.wt h0,hf.ts⟩
    split
    .rw[he3];exact⟨hf.ew _ (RQ he2),hf.es _ (RQ he2)⟩
    .exact⟨pz hR2 (.inl rfl),Q1⟩
   rw[show Xe.nO c (aB c n) t env x depth s=lT (aB c n) (zd x) (jY t env x) env (depth-1) s by grind [Xe.nO],Rb];generalize jY t env x=u at hu ⊢;have hf1:=hf.any h0 hu.1 hu.2 (j:=1) Q0 Q0;refine⟨Q4,ab (hg _ env _ s hf1 (hb.mono Q0)) ?_⟩;have hB:=bd u env (depth-1) s (9 ^ n+1) Q0 (hb.mono Q0);generalize aB c n u env (depth-1) s=r at hB ⊢;simp only[ai,dh];refine⟨Q4,ab (hg _ env _ r.2 hf1 (hB.mono Q0)) ?_⟩;have hB2:=bd u env (depth-1) r.2 1 Q0 (hB.mono Q0);generalize aB c n u env (depth-1) r.2=r2 at hB2 ⊢;simp only[ai,dh];refine ab (yb r.1 r2.1 hB2) ?_;simp only[ai,dh]
 .by_cases h:t.kind=2/\x.tmod 2=0
  .refine ij ?_;refine⟨λ_=>⟨Q1,λ_=>?_,λh'=>J3 h.2 h'⟩,λh'=>J3 h.1 h'⟩;have hf1:=hf.any h0 (hf.wt h0) hf.ts (j:=1) Q0 Q0;refine⟨Q4,ab (hg _ env _ s hf1 (hb.mono Q0)) ?_⟩;have hB:=bd t env (depth-1) s (9 ^ n+1) Q0 (hb.mono Q0);rw[show Xe.nO c (aB c n) t env x depth s=lT (aB c n) 10 t env (depth-1) s by grind [Xe.nO],Rb];generalize aB c n t env (depth-1) s=r at hB ⊢;simp only[ai,dh];refine⟨Q4,ab (hg _ env _ r.2 hf1 (hB.mono Q0)) ?_⟩;have hB2:=bd t env (depth-1) r.2 1 Q0 (hB.mono Q0);generalize aB c n t env (depth-1) r.2=r2 at hB2 ⊢;simp only[ai,dh];refine ab (yb r.1 r2.1 hB2) ?_;simp only[ai,dh]
  .refine bB [[cj env],[vI x],[vI depth],gA c s,t.enc,o7.enc,iO c] ?_ ?_
   .refine⟨λh1=>⟨Q1,?_⟩,λ_=>rfl⟩;exact⟨λh2=>J3 ⟨h1,h2⟩ h,λ_=>rfl⟩
   simp only[ai,dh,cj];refine⟨⟨Q1,Q4⟩,ab (PN hc hg hf (x:=x.tdiv 2) Q0 hb) ?_⟩;rw[show Xe.nO c (aB c n) t env x depth s=kZ c (aB c n) t env (x.tdiv 2) depth s by grind [Xe.nO]];simp only[ai,dh]
end
section
variable {c:fE} {R n:Nat} {t:Ty} {env:List cg} {x depth:Int} {s:b6}
theorem zQ{i:Nat}(h:i<c.p.aa.length):gF c t i (c.p.aa.length-i)=if((bP c i).kind=2/\kH c i)/\(bP c i).aq=t then some i else gF c t (i+1) (c.p.aa.length-(i+1)):=by
 obtain⟨m,hm⟩:∃m,c.p.aa.length-i=m+1:=⟨c.p.aa.length-i-1,Q0⟩
 grind [gF]
theorem NX(_:Ctx c R)(hb:Bd (4*9 ^ n+4) s){l:List aC}(hl:l.length<=3):Bd ((l.map aC.ty).length*9 ^ n+1) s:=by have hq:=q1 n;have:=le3 hl (show(0:Int)<=9 ^ n by omega);exact hb.mono (by grind)
theorem KA(hc:Ctx c R)(hg:uQ c R n)(hf:Fit c R (n+1) t env depth)(h0:0<depth)(hx:0<=x/\x<=1000000)(hb:Bd (4*9 ^ n+4) s):IS Oe [t.enc,[cj env],[vI x],[vI depth],gA c s,iO c] (Gu c (nR c (aB c n) t env x depth s)):=by
 refine w125.is ?_;unfold g125;have hq:=q1 n;have hdp:=hf.dp;have hdl:=hc.d1;simp only[ai,dh,cj];refine ij ?_;refine bc c.p.aa.length (λi=>[[cj env],[vI x],[vI depth],[vI (i:Int)],gA c s,t.enc,o7.enc,iO c]) (λi=>gF c t 0 c.p.aa.length=gF c t i (c.p.aa.length-i)) rfl rfl λi next hi hI hn=>?_
 simp only[ai,dh,cj];refine⟨λh=>?_,λh=>?_⟩
 .have hk:i<c.p.aa.length:=Q0;rw[zQ hk]at hI;have fin:¬(((bP c i).kind=2/\kH c i)/\(bP c i).aq=t)->aZ ((i:Int)+1)/\next [[cj env],[vI x],[vI depth],[vI ((i:Int)+1)],gA c s,t.enc,o7.enc,iO c]:=λe=>⟨Q4,hn hk (by grind)⟩
  refine ij ?_;rw[gE _ hk];have ed:=ju hk;rw[<-ed];simp only[ai,aF];refine⟨Q0,λh1=>ab (qB hk hc.m0) ?_,λh1=>fin λe=>h1 e.1.1⟩;simp only[ai,dh];refine⟨λh2=>?_,λh2=>fin λe=>h2 e.1.2⟩;have hm:bP c i∈c.p.aa:=by grind
  refine ab (wM _ _ (by have:=hc.rty _ hm;omega)) ?_;simp only[ai];refine⟨λh3=>?_,λh3=>fin λe=>h3 e.2⟩;rw[J2 ⟨⟨h1,h2⟩,h3⟩]at hI;have hs3:=hc.gen.fJ.at (c:=c) i;generalize hz:dt (aB c n) env (depth-1) ((bP c i).ah.map aC.ty) s=z;have hr:nR c (aB c n) t env x depth s=((be 3 0 z.1 z.2).1.dO (bP c i).id,(be 3 0 z.1 z.2).2):=by
   unfold nR
   grind
  rw[hr];have hb1:=NX hc hb hs3;have hzb:Bd 1 z.2:=by rw[<-hz];exact oV (dD hc.gen.fJ n) hq Q0 _ s hb1
  refine bB [gA c z.2,o7.enc,(bP c i).enc,[.sl z.1.length 15 (z.1.flatMap Ex.enc)],iO c] ?_ ?_
  .refine yt hc hg (d:=depth-1) (ts:=(bP c i).ah.map aC.ty) (s:=s) (λi' dn s1=>[[cj env],[vI depth],[vI (i':Int)],gA c s1,o7.enc,(bP c i).enc,[.sl dn.length 15 (dn.flatMap Ex.enc)],iO c]) z hz hb1 (λu hu=>?_) rfl (λj dn s1 next hi hlen hgo hend=>?_)
   .obtain⟨y,hy,rfl⟩:=R3.1 hu;exact hf.any h0 (hc.gen.DX _ hm _ hy) (hc.sty _ hm _ hy) Q0 Q0
   .simp only[ai,aF,dh,cj];have hlm:((bP c i).ah.map aC.ty).length=(bP c i).ah.length:=Sa ..;refine⟨λh=>?_,λh=>?_⟩
    .have hk:j<(bP c i).ah.length:=Q0;obtain⟨hi1,hi2⟩:=hgo Q0;rw[mN _ hk];simp only[aF];rw[S0]at hi1 hi2;refine⟨Q0,Q4,ab hi1 ?_⟩;generalize aB c n (bP c i).ah[j].ty env (depth-1) s1=r at hi2 ⊢;simp only[ai,dh];rw[wD];refine⟨Qa,Q4,?_⟩;simpa[dh,cj]using hi2
    all_goals grind
  .simp only[ai,dh];refine ab (gK hzb) ?_;simp only[ai,dh,aF];rfl
 .obtain rfl:i=c.p.aa.length:=Q0;refine ab (JC hc hg hf h0 hx (hb.mono Q0)) ?_;rw[show nR c (aB c n) t env x depth s=Xe.nO c (aB c n) t env x depth s by unfold nR;rw[hI,W5];rfl];simp only[ai,dh]
theorem yM{xn i:Nat}(h:i<c.p.aa.length):fq c t xn i (c.p.aa.length-i)=match(if(bP c ((xn+i) % c.p.aa.length)).kind=0/\kH c ((xn+i) % c.p.aa.length) then ng (bP c ((xn+i) % c.p.aa.length)).ah t else none) with
  |some j=>some ((xn+i) % c.p.aa.length,j)
  |none=>fq c t xn (i+1) (c.p.aa.length-(i+1)):=by
 obtain⟨m,hm⟩:∃m,c.p.aa.length-i=m+1:=⟨c.p.aa.length-i-1,Q0⟩;rw[hm,fq,show c.p.aa.length-(i+1)=m by omega];rfl
theorem GL{l:List aC}{j:Nat}(hj:j<l.length)(h1:∀k (hk:k<l.length),k<j->l[k].ty≠t)(h2:l[j].ty=t):ng l t=some j:=by
 unfold ng;rw[U3]
 grind
theorem DW{l:List aC}(h1:∀k (hk:k<l.length),l[k].ty≠t):ng l t=none:=by
 grind [ng,List.findIdx?_eq_none_iff,R8]
theorem QC(hc:Ctx c R)(hg:uQ c R n)(hf:Fit c R (n+1) t env depth)(h0:0<depth)(hx:0<=x/\x<=1000000)(hb:Bd (4*9 ^ n+4) s):IS s124 [t.enc,[cj env],[vI x],[vI depth],gA c s,iO c] (Gu c (jX c (aB c n) t env x depth s)):=by
 refine w124.is ?_;unfold g124;have hq:=q1 n;have hdp:=hf.dp;have hdl:=hc.d1;have hd0:=hc.d0;simp only[ai,dh,cj];obtain⟨xn,rfl⟩:∃k:Nat,x=k:=⟨x.toNat,Q0⟩;refine ij ?_;refine bc c.p.aa.length (λi=>[[cj env],[vI xn],[vI depth],[vI (i:Int)],gA c s,t.enc,o7.enc,iO c]) (λi=>fq c t xn 0 c.p.aa.length=fq c t xn i (c.p.aa.length-i)) rfl rfl λi next hi hI hn=>?_
 simp only[ai,dh,cj];refine⟨λh=>?_,λh=>?_⟩
 .have hk:i<c.p.aa.length:=Q0;have ht:(((xn:Int)+i).tmod (c.p.aa.length:Int))=((xn+i) % c.p.aa.length:Nat):=by
   grind
  have hlt:(xn+i) % c.p.aa.length<c.p.aa.length:=Xf _ hd0;rw[yM hk]at hI;rw[ht,SF,gE _ hlt,<-ju hlt];have hm:bP c ((xn+i) % c.p.aa.length)∈c.p.aa:=by grind [ju,RQ]
  generalize(xn+i) % c.p.aa.length=k at hI hlt hm ⊢
  have fin:(¬((bP c k).kind=0/\kH c k)\/ng (bP c k).ah t=none)->aZ ((i:Int)+1)/\next [[cj env],[vI xn],[vI depth],[vI ((i:Int)+1)],gA c s,t.enc,o7.enc,iO c]:=λe=>⟨Q4,hn hk (by
   rcases e with e|e
   .rwa [J1 e]at hI
   .rw[e,ite_self]at hI;exact hI)⟩
  refine ij ?_;refine⟨Q4,Q0,Q0,?_⟩;refine bc (bP c k).ah.length (λj=>[[cj env],[vI xn],[vI depth],[vI (i:Int)],[vI (k:Int)],[vI (j:Int)],gA c s,t.enc,o7.enc,(bP c k).enc,iO c]) (λj=>∀q (hq:q<(bP c k).ah.length),q<j->(bP c k).ah[q].ty≠t) (λ_ _ h=>J3 h (S6 _)) rfl λj lO hj hJ hn2=>?_;simp only[ai,dh,aF,cj];have hs3:=hc.gen.fJ.at (c:=c) k;refine⟨λh2=>⟨λh3=>ab (qB hlt hc.m0) ?_,λh3=>fin (.inl λe=>h3 e.1)⟩,λh2=>?_⟩
  .have hjk:j<(bP c k).ah.length:=Q0;simp only[ai,dh];refine⟨λh4=>?_,λh4=>fin (.inl λe=>h4 e.2)⟩;have hmem:=RQ hjk;rw[mN _ hjk];simp only[aF];refine⟨Q0,ab (wM _ _ (by have:=hc.sty _ hm _ hmem;omega)) ?_⟩;simp only[ai];refine⟨λh5=>?_,λh5=>⟨Q4,hn2 hjk λq hq hlt=>?_⟩⟩
   .rw[J2 ⟨h3,h4⟩,GL hjk hJ h5]at hI;dsimp only at hI;have hr:jX c (aB c n) t env xn depth s=((be 8 j [(aB c n (mD (bP c k).id) env (depth-1) s).1] (aB c n (mD (bP c k).id) env (depth-1) s).2).1.dO (bP c k).id,(be 8 j [(aB c n (mD (bP c k).id) env (depth-1) s).1] (aB c n (mD (bP c k).id) env (depth-1) s).2).2):=by
     unfold jX
     grind
    rw[hr];refine ab (BN _) ?_;simp only[ai];have hf1:Fit c R n (mD (bP c k).id) env (depth-1):=hf.any h0 (hc.gen.own _ hm (.inl h3)) (show(mD (bP c k).id).size<=1000 by simp[mD,Ty.size,Ty.ba]) Q0 Q0;refine⟨Q4,ab (hg _ env _ s hf1 (hb.mono Q0)) ?_⟩;have hB:=dD hc.gen.fJ n (mD (bP c k).id) env (depth-1) s 1 Q0 (hb.mono Q0);generalize aB c n (mD (bP c k).id) env (depth-1) s=r at hB ⊢;simp only[ai,dh];refine ab (so r.1 hB) ?_;simp only[ai,dh];rfl
   all_goals grind
  .obtain rfl:j=(bP c k).ah.length:=Q0;exact fin (.inr (DW λq hq=>hJ q hq hq))
 .obtain rfl:i=c.p.aa.length:=Q0;refine ab (JC hc hg hf h0 hx (hb.mono Q0)) ?_;rw[show jX c (aB c n) t env xn depth s=Xe.nO c (aB c n) t env xn depth s by unfold jX;rw[SF,hI,W5];rfl];simp only[ai,dh]
end
section
variable {c:fE} {R n:Nat} {t:Ty} {env:List cg} {x depth:Int} {s:b6}
theorem x7{kind:Int}{frm:Nat}(hd:0<c.p.aa.length):∀m i,gR c kind frm i m=-1\/∃k:Nat,gR c kind frm i m=k/\k<c.p.aa.length/\(bP c k).kind=kind/\kH c k
 |0,i=>.inl rfl
 |m+1,i=>by
   rw[gR];split
   . rename_i h
     exact .inr ⟨_,rfl,Xf _ hd,h⟩
   . exact x7 hd m (i+1)
theorem Ml(l:List ByteArray)(e:ByteArray):l.map bM++[vS e]=(l++[e]).map bM:=by simp[bM]
theorem EY(hc:Ctx c R)(hg:uQ c R n)(hf:Fit c R (n+1) t env depth)(h0:0<depth)(hx:0<=x/\x<=1000000)(hb:Bd (4*9 ^ n+4) s):IS Of [t.enc,[cj env],[vI x],[vI depth],gA c s,iO c] (Gu c (jV c (aB c n) t env x depth s)):=by
 refine w123.is ?_;unfold g123;have hq:=q1 n;have hdp:=hf.dp;have hdl:=hc.d1;have hd0:=hc.d0;simp only[ai,dh,cj];obtain⟨xn,rfl⟩:∃k:Nat,x=k:=⟨x.toNat,Q0⟩;refine ab (of_is hc.m0 hc.d0 Q0 Q0) ?_;simp only[ai,dh];refine⟨λh=>?_,λh=>?_⟩
 . refine ab (JC hc hg hf h0 hx (hb.mono Q0)) ?_
   rw[show jV c (aB c n) t env xn depth s=Xe.nO c (aB c n) t env xn depth s by grind [jV,SF]];simp only[ai,dh]
 . obtain⟨k,hk,hlt,hkind,hvis⟩:∃k:Nat,Nw c 1 xn=k/\k<c.p.aa.length/\(bP c k).kind=1/\kH c k:=by
     rcases x7 (kind:=1) (frm:=xn) hd0 c.p.aa.length 0 with e|e
     all_goals grind [Nw]
   have hm:bP c k∈c.p.aa:=by grind [ju,RQ]
   have hs3:=hc.gen.fJ.at (c:=c) k
   rw[show jV c (aB c n) t env xn depth s=(let d:=bP c k
    let r:=aB c n (mD d.id) env (depth-2) s;let q:=be 10 0 [] r.2;let z:=bt (aB c n) t env (depth-1) q.1.id d.ah 0 q.2
    ((q.1.dO d.id).dH (r.1::z.1.1) z.1.2,z.2)) by grind [jV,SF]]
   rw[hk,SF,gE _ hlt,<-ju hlt];generalize bP c k=d at hm hs3 hkind ⊢;dsimp only;simp only[aF];refine⟨Q0,ab (BN _) ?_⟩;simp only[ai];have hf1:Fit c R n (mD d.id) env (depth-2):=hf.any h0 (hc.gen.own _ hm (.inr hkind)) (show(mD d.id).size<=1000 by simp[mD,Ty.size,Ty.ba]) Q0 Q0;refine⟨Q4,ab (hg _ env _ s hf1 (hb.mono Q0)) ?_⟩;have h3q:=le3 hs3 (show(0:Int)<=9 ^ n+1 by omega);have hB:=dD hc.gen.fJ n (mD d.id) env (depth-2) s (3*(9 ^ n+1)+1) Q0 (hb.mono Q0);generalize aB c n (mD d.id) env (depth-2) s=r at hB ⊢;simp only[ai,dh];refine ab (gK (kids:=[]) (hB.mono Q0)) ?_;have hB2:Bd (3*(9 ^ n+1)) (be 10 0 [] r.2).2:=hB.node Q0;have hfl:(be 10 0 [] r.2).1.kids=[]/\(be 10 0 [] r.2).1.aJ=[]:=⟨rfl,rfl⟩;generalize be 10 0 [] r.2=q at hB2 hfl ⊢;simp only[ai,dh];generalize hz:bt (aB c n) t env (depth-1) q.1.id d.ah 0 q.2=z;refine bB [gA c z.2,o7.enc,[.sl (r.1::z.1.1).length 15 ((r.1::z.1.1).flatMap Ex.enc)],exL (q.1.dO d.id),iO c,[.sl z.1.2.length 1 (z.1.2.map bM)]] ?_ ?_
   . refine cY (σ:=Nat×List Ex×List ByteArray×b6) (λy=>[[cj env],[vI depth],[vI (y.1:Int)],gA c y.2.2.2,t.enc,o7.enc,d.enc,[.sl (r.1::y.2.1).length 15 ((r.1::y.2.1).flatMap Ex.enc)],exL (q.1.dO d.id),iO c,[.sl y.2.2.1.length 1 (y.2.2.1.map bM)]]) (λy=>d.ah.length-y.1)
       (λy=>y.1<=d.ah.length/\y.2.1.length=y.1/\y.2.2.1.length=y.1/\z=bJ y.2.1 y.2.2.1 (bt (aB c n) t env (depth-1) q.1.id (d.ah.drop y.1) y.1 y.2.2.2)/\Bd ((d.ah.length-y.1:Nat)*(9 ^ n+1)) y.2.2.2) (0,[],[],q.2) ⟨Sy _,rfl,rfl,by rw[Te,hz];exact bJ_nil z,hB2.mono Q0⟩ ?_ ?_
     . simp only[RT,Sw,RW,<-wE]
       rw[hfl.2];rfl
     rintro⟨i,dn,ns,s1⟩ next ⟨hi,hlen,hlen2,hI,hB3⟩ hn
     dsimp only at hi hlen hlen2 hI hB3 hn ⊢;simp only[ai,dh,aF,cj];refine⟨λh5=>?_,λh5=>?_⟩
     . have hkk:i<d.ah.length:=Q0
       obtain⟨m,hm1⟩:∃m,d.ah.length-i=m+1:=⟨d.ah.length-i-1,Q0⟩;rw[hm1]at hB3;have e1:((m+1:Nat):Int)*(9 ^ n+1)=m*(9 ^ n+1)+(9 ^ n+1):=by rw[XM,YC];simp
       have h6:(0:Int)<=m*(9 ^ n+1):=Ue Q0 Q0;have hmem:=RQ hkk;rw[mN _ hkk];simp only[ai,aF];have hel:=hf.e1;refine⟨Q0,ab (vT (env:=env) (b:=⟨q.1.id,i,d.ah[i].ty⟩) Q0) ?_⟩;simp only[ai,cj];have hf2:Fit c R n t (env++[⟨q.1.id,i,d.ah[i].ty⟩]) (depth-1):=(hf.any h0 (hf.wt h0) hf.ts Q0 Q0).yj (hc.gen.DX _ hm _ hmem) (hc.sty _ hm _ hmem) Q0;refine⟨Q4,ab (hg _ _ _ s1 hf2 (hB3.mono Q0)) ?_⟩;have hB':=dD hc.gen.fJ n t (env++[⟨q.1.id,i,d.ah[i].ty⟩]) (depth-1) s1 (m*(9 ^ n+1)+1) Q0 (hB3.mono Q0);have hI':=zR hkk hI;generalize aB c n t (env++[⟨q.1.id,i,d.ah[i].ty⟩]) (depth-1) s1=r2 at hI' hB' ⊢;simp only[ai,dh];refine⟨by grind [aL],ab (wc (hB'.mono Q0)) ?_⟩;simp only[ai,dh];refine⟨Qa,Q4,?_⟩;have:=hn (i+1,dn++[r2.1],ns++[(aM r2.2).1],(aM r2.2).2) Q0 ⟨Q0,by simp[hlen],by simp[hlen2],hI',by dsimp only;rw[show d.ah.length-(i+1)=m by omega];exact hB'.vh Q0⟩;rw[wD,Ml];simpa[dh,cj]using this
     . have:=C8 Q0 hI
       rw[this]
   . simp only[ai,dh]
     rfl
theorem dptF(h:Fit c R n t env depth)(s1:b6):Fit c R n t env (QI s1 depth) :=
 ⟨h.e0,h.e1,h.ew,h.es,h.ts,QH h.ok,by have:=h.dp;have:=h.e1;unfold QI;split <;> omega⟩
end
section
variable {c:fE} {R n:Nat} {t:Ty} {env:List cg} {x depth:Int} {s:b6}
theorem uQ.bool(hg:uQ c R n){d:Int}(hf:Fit c R n (Ty.mk 1 kx []) env d)(hb:Bd (9 ^ n) s):IS lC [[vI 1,vI 0,vI 0,vI 0,.sl 0 5 []],[cj env],[vI d],gA c s,iO c] (Gu c (aB c n (Ty.mk 1 kx []) env d s)):=by have:=hg _ env d s hf hb;rwa [vX]at this
theorem M5(hc:Ctx c R)(hg:uQ c R n):uQ c R (n+1):=by
 intro t env depth s hf hb;refine w32.is ?_;unfold g32;have hq:=q1 n;have bd:=dD hc.gen.fJ n;have h9:(9:Int) ^ (n+1)=9*9 ^ n:=Q0;rw[h9]at hb;have hel:=hf.e1;simp only[ai,dh,cj];refine ab (num_is Q1 hc.li (hb.mono Q0)) ?_;rw[yP];have hb1:Bd (4*9 ^ n+4) (fW c 65536 s).2:=hb.num Q0;have hx:0<=(fW c 65536 s).1/\(fW c 65536 s).1<65536:=eO c.l s.pos 65536 Q0;generalize fW c 65536 s=y at hb1 hx ⊢;obtain⟨x,s1⟩:=y;dsimp only at hb1 hx ⊢;simp only[ai,dh];have hfl:(fg env t).length<=env.length:=by have:=Fs (l:=env) (t:=t) env.length;rwa [Sl]at this
 refine ab (HT (t:=t) (λb hb=>by have:=hf.es b hb;omega) Q0) ?_;simp only[ai,cj];have hf1:=dptF hf s1;refine bB [[cj env],[vI (QI s1 depth)],[vI x],gA c s1,t.enc,o7.enc,[cj (fg env t)],iO c] ?_ ?_
 .unfold QI;exact⟨λh=>by rw[J2 h];rfl,λh=>by rw[J1 h];rfl⟩
 generalize QI s1 depth=d at hf1 ⊢;have hdp:=hf1.dp;simp only[ai,dh,cj];have d3:x.tdiv 3=x / 3:=mm hx.1;have m3:x.tmod 3=x % 3:=fj hx.1;by_cases hv:0<(fg env t).length/\(d<=0\/x.tmod 3=0)
 .rw[J2 hv];refine ij ?_;obtain⟨k,hk1,hk2⟩:∃k:Nat,(x.tdiv 3).tmod ((fg env t).length:Int)=k/\k<(fg env t).length:=by have e:(x.tdiv 3).tmod ((fg env t).length:Int)=x.tdiv 3 % ((fg env t).length:Int):=fj Q0;have h1:=Uw (x.tdiv 3) (show((fg env t).length:Int)≠0 by omega);have h2:=T5 (x.tdiv 3) (show(0:Int)<(fg env t).length by omega);exact⟨(x.tdiv 3 % ((fg env t).length:Int)).toNat,Q0,Q0⟩
  have fin:((3:Int)≠0/\aZ (x.tdiv 3))/\((fg env t).length:Int)≠0/\(0<=(x.tdiv 3).tmod ((fg env t).length:Int)/\(x.tdiv 3).tmod ((fg env t).length:Int)<((fg env t).length:Int))/\IS Lx [el ((fg env t).flatMap cg.enc) 9 ((x.tdiv 3).tmod ((fg env t).length:Int)).toNat,gA c s1,iO c] (Gu c (NB ((fg env t).getD (((x.tdiv 3).tmod ((fg env t).length:Int)).toNat) default) s1)):=by refine⟨⟨Q1,Q4⟩,Q0,Q0,?_⟩;rw[hk1,SF,Kv _ hk2,S9,R5 hk2];exact var_is (hb1.mono Q0)
  obtain⟨f1,f2,f3,f4⟩:=fin;refine⟨λ_=>⟨λh1=>⟨f1,f2,f3,ab f4 ?_⟩,λh1=>⟨Q1,λh2=>⟨f1,f2,f3,ab f4 ?_⟩,λh2=>?_⟩⟩,λh=>J3 hv.1 Q0⟩
  .simp only[ai,dh]
  .simp only[ai,dh]
  all_goals omega
 .rw[J1 hv];refine bB [[cj env],[vI d],[vI x],gA c s1,t.enc,o7.enc,iO c] ?_ ?_
  .refine⟨λh=>⟨λh1=>J3 ⟨Q0,.inl h1⟩ hv,λh1=>⟨Q1,?_⟩⟩,λ_=>rfl⟩;exact⟨λh2=>J3 ⟨Q0,.inr h2⟩ hv,λ_=>rfl⟩
  simp only[ai,dh,cj];refine⟨λh0=>?_,λh0=>?_⟩
  .rw[J2 h0];refine⟨⟨Q1,Q4⟩,ab (PN hc hg hf1 (x:=x.tdiv 3) Q0 (hb1.mono Q0)) ?_⟩;simp only[ai,dh]
  .rw[J1 h0];have h0':0<d:=Q0;have d36:x.tdiv 36=x / 36:=mm hx.1;have m12:(x.tdiv 3).tmod 12=x.tdiv 3 % 12:=fj Q0;refine⟨⟨Q1,Q4⟩,Q1,⟨Q1,Q4⟩,?_⟩;have hx36:0<=x.tdiv 36/\x.tdiv 36<=1000000:=Q0;generalize x.tdiv 36=xx at hx36 ⊢;generalize(x.tdiv 3).tmod 12=k;have hkid:∀u,eV c.p R u->u.size<=1000->Fit c R n u env (d-1):=λu h1 h2=>hf1.any h0' h1 h2 Q0 Q0;have ht:eV c.p R t/\t.size<=1000:=⟨hf1.wt h0',hf1.ts⟩;have hdm:aZ (d-1):=by unfold aZ;omega
   unfold ow;refine⟨λk0=>?_,λk0=>⟨λk1=>?_,λk1=>⟨λk2=>?_,λk2=>⟨λk3=>?_,λk3=>⟨λk4=>?_,λk4=>⟨λk5=>?_,λk5=>⟨λk6=>?_,λk6=>⟨λk7=>?_,λk7=>⟨λk8=>?_,λk8=>?_⟩⟩⟩⟩⟩⟩⟩⟩⟩
   .rw[J2 Q0];unfold ifG;dsimp only;have hf0:=hkid (Ty.mk 1 kx []) (pz hc.gen.R2 (.inr rfl)) Q1;have hft:=hkid t ht.1 ht.2;refine⟨hdm,ab (hg.bool hf0 (hb1.mono Q0)) ?_⟩;have hB:=bd (Ty.mk 1 kx []) env (d-1) s1 (2*9 ^ n+1) Q0 (hb1.mono Q0);generalize aB c n (Ty.mk 1 kx []) env (d-1) s1=r at hB ⊢;simp only[ai,dh];refine⟨hdm,ab (hg _ env _ r.2 hft (hB.mono Q0)) ?_⟩;have hB2:=bd t env (d-1) r.2 (9 ^ n+1) Q0 (hB.mono Q0);generalize aB c n t env (d-1) r.2=r2 at hB2 ⊢;simp only[ai,dh];refine⟨hdm,ab (hg _ env _ r2.2 hft (hB2.mono Q0)) ?_⟩;have hB3:=bd t env (d-1) r2.2 1 Q0 (hB2.mono Q0);generalize aB c n t env (d-1) r2.2=r3 at hB3 ⊢;simp only[ai,dh];refine ab (EM r.1 r2.1 r3.1 hB3) ?_;simp only[ai,dh]
   .rw[J2 Q0];unfold ifG;dsimp only;have hf0:=hkid (Ty.mk 1 kx []) (pz hc.gen.R2 (.inr rfl)) Q1;have hft:=hkid t ht.1 ht.2;refine⟨hdm,ab (hg.bool hf0 (hb1.mono Q0)) ?_⟩;have hB:=bd (Ty.mk 1 kx []) env (d-1) s1 (2*9 ^ n+1) Q0 (hb1.mono Q0);generalize aB c n (Ty.mk 1 kx []) env (d-1) s1=r at hB ⊢;simp only[ai,dh];refine⟨hdm,ab (hg _ env _ r.2 hft (hB.mono Q0)) ?_⟩;have hB2:=bd t env (d-1) r.2 (9 ^ n+1) Q0 (hB.mono Q0);generalize aB c n t env (d-1) r.2=r2 at hB2 ⊢;simp only[ai,dh];refine⟨hdm,ab (hg _ env _ r2.2 hft (hB2.mono Q0)) ?_⟩;have hB3:=bd t env (d-1) r2.2 1 Q0 (hB2.mono Q0);generalize aB c n t env (d-1) r2.2=r3 at hB3 ⊢;simp only[ai,dh];refine ab (EM r.1 r2.1 r3.1 hB3) ?_;simp only[ai,dh]
   .rw[J1 Q0,J2 k2];obtain⟨ke,he1,he2,he3⟩:=Bf (env:=env) hf.e0 hx36.1;unfold My;dsimp only;rw[he1,SF,Kv _ he2,he3];simp only[aF];have hm:=RQ he2;have hwu:=hf.ew _ hm;have hsu:=hf.es _ hm;generalize env[ke].ty=u at hwu hsu ⊢;have hfu:=hkid u hwu hsu;refine⟨Q0,Q0,hdm,ab (hg _ env _ s1 hfu (hb1.mono Q0)) ?_⟩;have hB:=bd u env (d-1) s1 (9 ^ n+3) Q0 (hb1.mono Q0);generalize aB c n u env (d-1) s1=r at hB ⊢;simp only[ai,dh];refine ab (gK (kids:=[]) (hB.mono Q0)) ?_;have hB2:Bd (9 ^ n+2) (be 6 0 [] r.2).2:=hB.node Q0;generalize be 6 0 [] r.2=q at hB2 ⊢;simp only[ai,dh];refine ab (wc (hB2.mono Q0)) ?_;have hB3:Bd (9 ^ n+1) (aM q.2).2:=hB2.vh Q0;generalize aM q.2=m at hB3 ⊢;simp only[ai,dh];refine ab (vT (env:=env) (b:=⟨q.1.id,0,u⟩) Q0) ?_;simp only[ai,cj];have hf2:Fit c R n t (env++[⟨q.1.id,0,u⟩]) (d-1):=(hkid t ht.1 ht.2).yj hwu hsu Q0;refine⟨hdm,ab (hg _ _ _ m.2 hf2 (hB3.mono Q0)) ?_⟩;generalize aB c n t (env++[⟨q.1.id,0,u⟩]) (d-1) m.2=r2;simp only[ai,dh];simp only[Ex.dH,Ex.id,Ex.kind,Ex.n,Ex.ref,Ex.ty,Ex.kids,Ex.aJ,RT,Sw,Ex.aD,RW,SA,Sv];rfl
   .rw[J1 Q0,J1 Q0,J2 Q0];refine ab (EY hc hg hf1 h0' hx36 hb1) ?_;simp only[ai,dh]
   .rw[J1 Q0,J1 Q0,J2 Q0];refine ab (EY hc hg hf1 h0' hx36 hb1) ?_;simp only[ai,dh]
   .rw[J1 Q0,J1 Q0,J1 Q0,J2 Q0];refine ab (QC hc hg hf1 h0' hx36 hb1) ?_;simp only[ai,dh]
   .rw[J1 Q0,J1 Q0,J1 Q0,J1 Q0,J2 Q0];refine ab (KA hc hg hf1 h0' hx36 hb1) ?_;simp only[ai,dh]
   .rw[J1 Q0,J1 Q0,J1 Q0,J1 Q0,J2 Q0];refine ab (KA hc hg hf1 h0' hx36 hb1) ?_;simp only[ai,dh]
   .rw[J1 Q0,J1 Q0,J1 Q0,J1 Q0,J1 Q0,J2 k8];unfold A3;dsimp only;refine ab sE ?_;simp only[ai];have hfl0:=hkid (cb bQ) (oa (p:=c.p) hc.gen.R2) Q1;refine⟨hdm,ab (hg.list0 hfl0 (hb1.mono Q0)) ?_⟩;have hB:=bd (cb bQ) env (d-1) s1 (2*9 ^ n+4) Q0 (hb1.mono Q0);generalize aB c n (cb bQ) env (d-1) s1=r at hB ⊢;simp only[ai,dh];refine⟨hdm,ab (hg _ env _ r.2 (hkid t ht.1 ht.2) (hB.mono Q0)) ?_⟩;have hB1:=bd t env (d-1) r.2 (9 ^ n+4) Q0 (hB.mono Q0);generalize aB c n t env (d-1) r.2=r1 at hB1 ⊢;simp only[ai,dh];refine ab (gK (kids:=[]) (hB1.mono Q0)) ?_;have hB2:Bd (9 ^ n+3) (be 12 0 [] r1.2).2:=hB1.node Q0;generalize be 12 0 [] r1.2=q at hB2 ⊢;simp only[ai,dh];refine ab (wc (hB2.mono Q0)) ?_;have hB3:Bd (9 ^ n+2) (aM q.2).2:=hB2.vh Q0;generalize aM q.2=m at hB3 ⊢;simp only[ai,dh];refine ab (wc (hB3.mono Q0)) ?_;have hB4:Bd (9 ^ n+1) (aM m.2).2:=hB3.vh Q0;generalize aM m.2=m2 at hB4 ⊢;simp only[ai,dh];have e0:=iy;refine ab (vT (env:=env) (b:=⟨q.1.id,0,bQ⟩) Q0) ?_;simp only[ai,cj];have hw:=vT (env:=env++[(⟨q.1.id,0,bQ⟩:cg)]) (b:=(⟨q.1.id,1,t⟩:cg)) Qc;refine ab hw ?_;simp only[ai,cj];have hf2:Fit c R n t (env++[⟨q.1.id,0,bQ⟩]) (d-1):=(hkid t ht.1 ht.2).yj (pz hc.gen.R2 (.inl rfl)) (show bQ.size<=1000 by decide) Q0;have hf3:=hf2.yj (b:=⟨q.1.id,1,t⟩) ht.1 ht.2 Qc;refine⟨hdm,ab (hg _ _ _ m2.2 hf3 (hB4.mono Q0)) ?_⟩;generalize aB c n t (env++[⟨q.1.id,0,bQ⟩]++[⟨q.1.id,1,t⟩]) (d-1) m2.2=r2;simp only[ai,dh];simp only[Ex.dH,Ex.id,Ex.kind,Ex.n,Ex.ref,Ex.ty,Ex.kids,Ex.aJ,RT,Sw,Ex.aD,RW,SA,Sv];rfl
   .rw[J1 Q0,J1 Q0,J1 Q0,J1 Q0,J1 Q0,J1 Q0];refine ab (JC hc hg hf1 h0' hx36 (hb1.mono Q0)) ?_;simp only[ai,dh]
theorem yO(hc:Ctx c R):∀n,uQ c R n
 |0=>λ_ _ _ _ hf _=>J3 hf.ok.pos (ZO _)
 |n+1=>M5 hc (yO hc n)
end
theorem rO:∀l:List Ex,l.length<=Ex.ba l
 |[]=>Sy _
 |t::l=>by
  have:=rO l;have:1<=t.size:=by cases t;simp[Ex.size]
  grind [RU,Ex.ba]
theorem EK(e:Ex)(hs:e.size<=1000000000000):IS s33 [e.enc] [[vI e.size]]:=by
 refine w33.is ?_;unfold g33;refine bc e.kids.length (λi=>[[vI (1+Ex.ba (e.kids.take i):Nat)],[vI (i:Int)],e.enc]) (λ_=>True) trivial rfl λi next hi _ hn=>?_
 simp only[ai];have h3:=Ex.qK e.kids (i+1);have h4:=Ex.cf e;have h5:=rO e.kids;refine⟨λh=>?_,λh=>?_⟩
 .have hk:i<e.kids.length:=Q0;rw[vq _ hk];have:=Ex.my (RQ hk);have h2:=Ex.ni _ _ hk;refine⟨Q0,ab (EK _ Q0) ?_⟩;simp only[ai];unfold aZ
  grind
 all_goals grind
 termination_by e.size
theorem AF(e:Ex)(l:List Int)(hs:e.size+l.length<=1000000000000):IS s34 [e.enc,[bY l]] [[bY (l++e.post)]]:=by
 refine w34.is ?_;unfold g34 bY;simp only[ai];refine bc e.kids.length (λi=>[[vI (i:Int)],[bY (l++Ex.cV (e.kids.take i))],e.enc]) (λ_=>True) trivial (by simp[Ex.cV,bY]) λi next hi _ hn=>?_
 unfold bY;simp only[ai];have h4:=Ex.cf e;have h5:=Ex.tW (e.kids.take i);have h6:(l++Ex.cV (e.kids.take i)).length=l.length+Ex.ba (e.kids.take i):=by grind
 refine⟨λh=>?_,λh=>?_⟩
 .have hk:i<e.kids.length:=Q0;rw[vq _ hk];have h2:=Ex.ni _ _ hk;have h3:=Ex.qK e.kids (i+1);have:=Ex.my (RQ hk);refine⟨Q0,ab (AF _ _ Q0) ?_⟩;unfold bY;simp only[ai];have:=hn hk trivial;rw[Ex.G5 _ _ hk,<-R9]at this;exact⟨by grind [aZ,rO],this⟩
 .obtain rfl:i=e.kids.length:=Q0;rw[Sl]at h6 ⊢
  grind [Ex.eY,aL,S8]
 termination_by e.size
def rnR(ids:List av)(e:Ex):bT:=[[aj e.id.aH,aj e.id.seq,aj e.id.index,aj e.kind,aj e.n,aj e.ref.aH,aj e.ref.seq,aj e.ref.index,aj e.ty.kind,aj e.ty.df.aH,aj e.ty.df.seq,aj e.ty.df.index,
  .sl e.ty.kids.length 5 (e.ty.kids.flatMap Ty.enc),.sl e.aJ.length 1 (e.aJ.map bM)],[.sl e.kids.length 15 (e.kids.flatMap Ex.enc)],[.sl ids.length 3 (ids.flatMap av.enc)]]
theorem Kg{ids:List av}{z:Int}(h:0<=z/\z<ids.length):el (ids.flatMap av.enc) 3 z.toNat=(iL ids z).enc:=by
 grind [fl,idAt_eq]
theorem xF(ids:List av)(e:Ex)(hi:AV ids.length e)(hs:e.size<=100000000000):IS s35 [e.enc,[.sl ids.length 3 (ids.flatMap av.enc)]] (rnR ids (b8 ids e)):=by
 refine w35.is ?_;unfold g35;rw[inB_eq]at hi;obtain⟨h1,h2,h3⟩:=hi;simp only[ai];refine⟨h1,?_⟩;rw[Kg h1];refine bB [[.sl ids.length 3 (ids.flatMap av.enc)],e.enc,o7.enc,exC (.mk (iL ids e.id.index) e.kind e.n (j2 ids e.kind e.ref) e.ty e.kids e.aJ)] ?_ ?_
 .unfold j2;refine⟨λhk=>⟨λhq=>?_,λhq=>?_⟩,λhk=>?_⟩
  .have h4:=h2 ⟨hk,hq⟩;refine⟨h4,?_⟩;rw[Kg h4,J2 ⟨hk,hq⟩];simp only[ai,aF];rfl
  .rw[J1 (λh=>hq h.2)];rfl
  .rw[J1 (λh=>hk h.1)];rfl
 simp only[ai,exC]
 refine bc e.kids.length (λi=>[[vI (i:Int)],[.sl ids.length 3 (ids.flatMap av.enc)],e.enc,o7.enc,[aj (iL ids e.id.index).aH,aj (iL ids e.id.index).seq,aj (iL ids e.id.index).index,aj e.kind,aj e.n,aj (j2 ids e.kind e.ref).aH,aj (j2 ids e.kind e.ref).seq,aj (j2 ids e.kind e.ref).index,aj e.ty.kind,aj e.ty.df.aH,aj e.ty.df.seq,aj e.ty.df.index,
  .sl e.ty.kids.length 5 (e.ty.kids.flatMap Ty.enc),.sl e.aJ.length 1 (e.aJ.map bM)],[.sl i 15 (((e.kids.take i).map (b8 ids)).flatMap Ex.enc)]]) (λ_=>True) trivial rfl λi next hi _ hn=>?_
 simp only[ai];have h4:=Ex.cf e;have h5:=rO e.kids;refine⟨λh=>?_,λh=>?_⟩
 .have hk:i<e.kids.length:=Q0;rw[vq _ hk];have:=Ex.my (RQ hk);refine⟨Q0,ab (xF ids _ (Fe h3 (RQ hk)) Q0) ?_⟩;simp only[ai,rnR]
  grind [aL,aZ,RJ,sM]
 .obtain rfl:i=e.kids.length:=Q0;rw[Sl,renE_eq,rT];simp only[rnR,Ex.id,Ex.kind,Ex.n,Ex.ref,Ex.ty,Ex.kids,Ex.aJ,Sa]
 termination_by e.size
theorem Lk{n:Int}(hn:lX n)(a b:Ty):IS tM [[vI n],a.enc,b.enc] [(ct n a b).enc]:=by
 refine w113.is ?_;unfold g113;simp only[ai];have e0:=KO bQ;rw[iy]at e0;refine ab e0 ?_;simp only[ai];refine ab (mR Q1 hn) ?_;simp only[ai];have hr:=kD n 6 Q0;refine⟨hr,?_⟩;have hk:(fR n 6).toNat<(Ll a b).length:=by simp[Ll];omega
 have:=yT (Ll a b) hk;have e1:(Ll a b).flatMap Ty.enc=[vI 0,vI 0,vI 0,vI 0,.sl 0 5 []]++([vI 1,vI 0,vI 0,vI 0,.sl 0 5 []]++([vI 2,vI 0,vI 0,vI 0,.sl 1 5 [vI 0,vI 0,vI 0,vI 0,.sl 0 5 []]]++(a.enc++(b.enc++[vI 0,vI 0,vI 0,vI 0,.sl 0 5 []])))):=by simp only[Ll,RT,Sw,iy,vX,wj,RW]
 grind [ct]
theorem upd5(t u:Ty):cB t.enc 0 u.enc=u.enc:=by
 grind [cB,Ty.aP,List.drop_eq_nil_of_le]
theorem mJ{z:Int}(h:0<=z/\z<=1000000000000):lX z:=by unfold lX;omega
theorem aN.iN(k:Int)(nm:ByteArray)(ts:List Ty)(ns:List ByteArray)(bs:List Int)(r:Ty)(m:Int):(aN.mk k nm ts ns bs r m).enc=[aj k,bM nm,.sl ts.length 5 (ts.flatMap Ty.enc),Kw ns,bY bs,aj r.kind,aj r.df.aH,aj r.df.seq,aj r.df.index,.sl r.kids.length 5 (r.kids.flatMap Ty.enc),aj m]:=by rw[aN.enc,Ty.aD];rfl
section
variable {l:List Int} (hl:∀x∈l,lX x)
theorem BE(hl:∀x∈l,lX x){i n:Int}(hn:1<=n):IS rC [[bY l],[vI i],[vI n]] [[vI (eH l i n)]]:=RB hn hl
theorem BY(_:∀x∈l,lX x){i n:Int}(a b:Ty)(hn:1<=n)(h6:n<=1000):IS tM [[vI (eH l i n)],a.enc,b.enc] [(ct (eH l i n) a b).enc]:=by
 grind [eO,Lk,mJ]
theorem MG(hl:∀x∈l,lX x){i:Int}(hi:0<=i/\i<=1000)(T:Ty):IS s115 [[bY l],[vI i],T.enc] [[.sl (CK l i T).length 5 ((CK l i T).flatMap Ty.enc)],[bY (ML l i)]]:=by
 refine w115.is ?_;unfold g115;simp only[ai];have r5:=eO l i 5 Q0;have r3:=eO l (i+1) 3 Q0;have r2:=eO l (i+1) 2 Q0;have r23:=eO l (i+2) 3 Q0;refine ab (BE hl Q1) ?_;simp only[ai];refine⟨Q4,ab (BE hl Q1) ?_⟩;simp only[ai];have hz:=inZ_rng l i (eH l i 5);refine⟨Q4,bB [[bY l],[vI i],[vI (eH l i 5)],T.enc,[.sl 1 5 (inT1 (eH l i 5)).enc],[.sl 1 1 [vI (inZ1 l i (eH l i 5))]]] ?_ ?_⟩
 .unfold inT1 inZ1;refine⟨λh=>⟨Q1,Q1,?_⟩,λh=>?_⟩
  .rw[J2 h,J2 h,vX];rfl
  all_goals grind [iy]
 simp only[ai];have e0:=sE;refine bB [[bY l],[vI i],[vI (eH l i 5)],T.enc,[.sl 1 5 (inT2 (eH l i 5)).enc],[.sl 1 1 [vI (inZ2 l i (eH l i 5))]]] ?_ ?_
 .unfold inT2 inZ2;refine⟨λh=>ab e0 ?_,λh=>?_⟩
  .simp only[ai];refine⟨Q1,Q4,ab (BE hl Q1) ?_⟩;simp only[ai];refine⟨Q4,Q1,?_⟩;rw[J2 h,J2 h,<-wj,upd5];rfl
  .rw[J1 h,J1 h]
 simp only[ai];refine bB [[bY l],[vI i],[.sl 1 5 (inT (eH l i 5) T).enc],[.sl 1 1 [vI (inZ l i (eH l i 5))]]] ?_ ?_
 .unfold inT inZ;refine⟨λh=>⟨Q1,Q1,?_⟩,λh=>?_⟩
  .rw[J2 h,J2 h,upd5];rfl
  .rw[J1 h,J1 h]
 simp only[ai];refine⟨Q4,ab (BE hl Q1) ?_⟩;simp only[ai];unfold CK ML;generalize inT (eH l i 5) T=t0;generalize inZ l i (eH l i 5)=z0;generalize eH l (i+2) 3=cc;refine bB [[vI cc],[.sl (t0::P9 cc).length 5 ((t0::P9 cc).flatMap Ty.enc)],[bY (z0::Fg cc)]] ?_ ?_
 .unfold P9 Fg
  grind [aL,iy,bY]
 simp only[ai,bY];have hl1:(t0::P9 cc).length<=2/\(z0::Fg cc).length<=2:=by unfold P9 Fg;split <;> simp
 refine bB [[.sl (t0::in2 cc).length 5 ((t0::in2 cc).flatMap Ty.enc)],[bY (z0::P8 cc)]] ?_ ?_
 .unfold in2 P8;refine⟨λh=>⟨Qa,Qa,?_⟩,λh=>?_⟩
  .have e1:P9 cc=[]:=by unfold P9;rw[J1 Q0]
   have e2:Fg cc=[]:=by grind [Fg]
   rw[J2 h,J2 h,e1,e2];simp[vX,qE,bY]
  .rw[J1 h,J1 h];rfl
 simp only[ai,bY]
theorem Eu(hl:∀x∈l,lX x){n:Int}(hn:1<=n/\n<=1000):IS s31 [[bY l],[vI n]] [[.sl (bw l n).length 11 ((bw l n).flatMap aN.enc)]]:=by
 refine w31.is ?_;unfold g31;simp only[ai];have a2:=eO l 2 3 Q0;have a6:=eO l 6 2 Q0;have a9:=eO l 9 3 Q0;have e0:=sE;refine ab (BE hl Q1) ?_;simp only[ai];refine ab (lY Q0 (mJ Q0)) ?_;simp only[ai];refine ab (BN _) ?_;simp only[ai];refine⟨Q4,ab (lY Q0 (mJ Q0)) ?_⟩;simp only[ai];refine ab (BN _) ?_;simp only[ai];refine bB [[bY l],[vI n],[vB (cn l)],(cq n).enc,(cq (n+1)).enc,[.sl (1+(eH l 2 3).toNat) 5 ((iB l 3 3 (cq n) (1+(eH l 2 3).toNat)).flatMap Ty.enc)]] ?_ ?_
 .refine bc (1+(eH l 2 3).toNat) (λi=>[[bY l],[vI n],[vB (cn l)],[vI (i:Int)],(cq n).enc,(cq (n+1)).enc,[.sl i 5 ((iB l 3 3 (cq n) i).flatMap Ty.enc)]]) (λ_=>True) trivial rfl λi next hi _ hgo=>?_
  simp only[ai];refine ab (BE hl Q1) ?_;simp only[ai];refine⟨Q4,λh=>⟨Q4,ab (BE hl Q1) ?_⟩,λh=>?_⟩
  .simp only[ai];refine ab (BY hl (cq n) (cq n) Q1 Q1) ?_;simp only[ai,RW];have:=hgo Q0 trivial;rw[qM,Sd,RT,Sw,RW]at this
   grind [aL,aZ]
  all_goals grind
 simp only[ai];refine bc (1+(eH l 6 2).toNat) (λi=>[[bY l],[vI n],[vB (cn l)],[vI (i:Int)],(cq n).enc,(cq (n+1)).enc,[.sl (1+i) 5 ((bQ::iB l 7 4 (cq n) i).flatMap Ty.enc)],[.sl 1 11 (gQ l n).enc]]) (λ_=>True) trivial ?_ λi next hi _ hgo=>?_
 .unfold gQ;rw[aN.iN,ko,RT,iy];rfl
 simp only[ai];refine ab (BE hl Q1) ?_;simp only[ai];refine⟨Q4,λh=>⟨Q4,ab (BE hl Q1) ?_⟩,λh=>?_⟩
 .simp only[ai];refine ab (BY hl (cq n) (cq n) Q1 Q1) ?_;simp only[ai,RW];have:=hgo Q0 trivial;rw[qM,<-SA,Sd,RT (x:=ct _ _ _),Sw,RW]at this
  grind [aL,aZ]
 obtain rfl:i=1+(eH l 6 2).toNat:=Q0;refine⟨Qa,Q4,?_⟩;have p2:(gQ l n).enc++[vI 1,vS rb,.sl (1+(1+(eH l 6 2).toNat)) 5 ((bQ::iB l 7 4 (cq n) (1+(eH l 6 2).toNat)).flatMap Ty.enc),.sl 3 1 [vS Ps,vS Pt,vS nSet],.sl 0 1 [],vI 0,vI 0,vI 0,vI 0,.sl 0 5 [],vI 0]=(kV l n).flatMap aN.enc:=by
  have e:(iF l n).enc=[vI 1,vS rb,.sl (1+(1+(eH l 6 2).toNat)) 5 ((bQ::iB l 7 4 (cq n) (1+(eH l 6 2).toNat)).flatMap Ty.enc),.sl 3 1 [vS Ps,vS Pt,vS nSet],.sl 0 1 [],vI 0,vI 0,vI 0,vI 0,.sl 0 5 [],vI 0]:=by unfold iF;rw[aN.iN,RU,ko,Un 1 (1+_)];rfl
  rw[<-e];simp[kV]
 rw[p2];have l2:(kV l n).length=2:=rfl;have l3:(eZ l n).length<=4:=by grind [eZ,kV]
 refine bB [[bY l],[vI n],[vB (cn l)],[vI (n-1)],(cq n).enc,(cq (n+1)).enc,[.sl (eZ l n).length 11 ((eZ l n).flatMap aN.enc)],(BT l n).enc] ?_ ?_
 .by_cases hf:cn l=true
  .rw[hf];simp only[ai];refine bc (eH l 9 3).toNat (λi=>[[bY l],[vI n],[vB true],[vI (n-1)],[vI (i:Int)],(cq n).enc,(cq (n+1)).enc,[.sl (1+i) 5 ((bQ::iB l 10 4 (cq n) i).flatMap Ty.enc)],[.sl 2 11 ((kV l n).flatMap aN.enc)],(cq n).enc]) (λ_=>True) trivial (by rw[RT,iy];rfl) λi next hi _ hgo=>?_
   simp only[ai];refine ab (BE hl Q1) ?_;simp only[ai];refine⟨λh=>⟨Q4,ab (BE hl Q1) ?_⟩,λh=>?_⟩
   .simp only[ai];refine ab (BY hl (cq n) (cq n) Q1 Q1) ?_;simp only[ai,RW];have:=hgo Q0 trivial;rw[qM,<-SA,Sd,RT (x:=ct _ _ _),Sw,RW]at this
    grind [aL,aZ]
   .obtain rfl:i=(eH l 9 3).toNat:=Q0;refine⟨Q4,ab (lY Q0 (mJ Q0)) ?_⟩;simp only[ai];refine ab (BN _) ?_;simp only[ai];refine⟨Qa,ab e0 ?_⟩;simp only[ai];refine⟨Qa,?_⟩;have e3:(fK l n).enc=[vI 0,vS CA,.sl (1+(eH l 9 3).toNat) 5 ((bQ::iB l 10 4 (cq n) (eH l 9 3).toNat).flatMap Ty.enc),.sl 3 1 [vS Pu,vS nLog,vS nMore],.sl 0 1 [],vI 0,vI 0,vI 0,vI 0,.sl 0 5 [],vI 0]:=by unfold fK;rw[aN.iN,RU,ko,Un 1 _];rfl
    have e4:(lD n).enc=[vI 0,vS nOut,.sl 3 5 ((cq (n+2)).enc++[vI 2,vI 0,vI 0,vI 0,.sl 1 5 [vI 0,vI 0,vI 0,vI 0,.sl 0 5 []],vI 0,vI 0,vI 0,vI 0,.sl 0 5 []]),.sl 3 1 [vS Pb,vS ES,vS nNext],.sl 0 1 [],vI 0,vI 0,vI 0,vI 0,.sl 0 5 [],vI 0]:=by unfold lD;rw[aN.iN];simp only[RT,Sw,iy,wj];rfl
    unfold eZ BT;simp_all
  .rw[Y9]at hf;rw[hf];simp only[ai];unfold eZ BT
   grind
 simp only[ai];refine ab (BE hl Q1) ?_;simp only[ai];refine ab (BY hl (cq n) (cq (n+1)) Q1 Q1) ?_;refine bB [[bY l],[vI n],[vB (cn l)],[vI (n-1)],(cq n).enc,(cq (n+1)).enc,[.sl (FA l n).length 5 ((FA l n).flatMap Ty.enc)],[.sl (eZ l n).length 11 ((eZ l n).flatMap aN.enc)],(BT l n).enc] ?_ ?_
 .simp only[ai];refine ab (BE hl Q1) ?_;simp only[ai];unfold FA;refine⟨λh=>ab (BE hl Q1) ?_,λh=>?_⟩
  .simp only[ai];refine ab (BY hl (cq n) (cq (n+1)) Q1 Q1) ?_;refine⟨by unfold aL;decide,?_⟩;rw[J2 h];simp only[ai,RT,Sw,RW];rfl
  all_goals grind
 simp only[ai];refine ab (BE hl hn.1) ?_;simp only[ai];refine ab (BE hl Q1) ?_;simp only[ai];refine ab (BY hl (cq n) (cq n) Q1 Q1) ?_;have l5:(fw l n).length<=6:=by grind [fw]
 have m5:(fw l n).length=(eZ l n).length+1+1:=by unfold fw;simp
 have e5:(pF l n).enc=[vI 2,vS n_f,.sl (FA l n).length 5 ((FA l n).flatMap Ty.enc),.sl 2 1 [vS n_a,vS n_b],.sl 0 1 [],aj (nW l n).kind,aj (nW l n).df.aH,aj (nW l n).df.seq,aj (nW l n).df.index,.sl (nW l n).kids.length 5 ((nW l n).kids.flatMap Ty.enc),vI (eH l 15 n)]:=by unfold pF;rw[aN.iN];rfl
 refine⟨Qa,bB [[bY l],[vI (n-1)],(cq n).enc,[.sl (fw l n).length 11 ((fw l n).flatMap aN.enc)],(BT l n).enc,(nW l n).enc] ?_ ?_⟩
 .by_cases hf:cn l=true
  .rw[hf];simp only[ai];refine⟨Q4,ab (lY Q0 (mJ Q0)) ?_⟩;simp only[ai];refine ab (BN _) ?_;refine⟨Qa,?_⟩;simp only[ai];have e6:(lN n).enc=[vI 3,vS JK,.sl 2 5 ((cq (n+2)).enc++((cq (n+1)).enc++[])),.sl 2 1 [vS n_s,vS n_e],.sl 0 1 [],aj (cq (n+3)).kind,aj (cq (n+3)).df.aH,aj (cq (n+3)).df.seq,aj (cq (n+3)).df.index,.sl (cq (n+3)).kids.length 5 ((cq (n+3)).kids.flatMap Ty.enc),vI (n-1)]:=by unfold lN;rw[aN.iN];rfl
   have et:BT l n=cq (n+2):=by grind [BT]
   grind [nW,fw]
  .rw[Y9]at hf;rw[hf];simp only[ai];refine ab (BE hl Q1) ?_;simp only[ai];refine ab (BY hl (cq n) (cq (n+1)) Q1 Q1) ?_;refine⟨Qa,?_⟩;simp only[ai];have e6:(pG l n).enc=[vI 2,vS n_g,.sl 1 5 ((cq (n+1)).enc++[]),.sl 1 1 [vS n_e],.sl 0 1 [],aj (ct (eH l 17 6) (cq n) (cq (n+1))).kind,aj (ct (eH l 17 6) (cq n) (cq (n+1))).df.aH,aj (ct (eH l 17 6) (cq n) (cq (n+1))).df.seq,aj (ct (eH l 17 6) (cq n) (cq (n+1))).df.index,.sl (ct (eH l 17 6) (cq n) (cq (n+1))).kids.length 5 ((ct (eH l 17 6) (cq n) (cq (n+1))).kids.flatMap Ty.enc),vI (n-1)]:=by unfold pG;rw[aN.iN];rfl
   grind [nW,fw]
 simp only[ai];refine ab (MG hl Q1 (cq n)) ?_;simp only[ai,bY];refine ab (BE hl Q1) ?_;simp only[ai];refine ab (BY hl (cq n) (nW l n) Q1 Q1) ?_;refine⟨Qa,ab (BE hl Q1) ?_⟩;simp only[ai];have e7:(pT l n).enc=[vI 4,vS n_t,.sl (CK l 18 (cq n)).length 5 ((CK l 18 (cq n)).flatMap Ty.enc),.sl 2 1 [vS n_a,vS n_b],.sl (ML l 18).length 1 ((ML l 18).map aj),aj (ct (eH l 21 6) (cq n) (nW l n)).kind,aj (ct (eH l 21 6) (cq n) (nW l n)).df.aH,aj (ct (eH l 21 6) (cq n) (nW l n)).df.seq,aj (ct (eH l 21 6) (cq n) (nW l n)).df.index,.sl (ct (eH l 21 6) (cq n) (nW l n)).kids.length 5 ((ct (eH l 21 6) (cq n) (nW l n)).kids.flatMap Ty.enc),vI (n-1)]:=by unfold pT;rw[aN.iN];rfl
 have e8:(pC l n).enc=[vI 5,vS n_c,.sl 1 5 ((BT l n).enc++[]),.sl 1 1 [vS nOld],.sl 0 1 [],aj (ct (eH l 23 6) (cq n) (BT l n)).kind,aj (ct (eH l 23 6) (cq n) (BT l n)).df.aH,aj (ct (eH l 23 6) (cq n) (BT l n)).df.seq,aj (ct (eH l 23 6) (cq n) (BT l n)).df.index,.sl (ct (eH l 23 6) (cq n) (BT l n)).kids.length 5 ((ct (eH l 23 6) (cq n) (BT l n)).kids.flatMap Ty.enc),vI (n-1)]:=by unfold pC;rw[aN.iN];rfl
 rw[<-e7];unfold bw;refine⟨λh=>ab (BE hl Q1) ?_,λh=>?_⟩
 .simp only[ai];refine ab (BY hl (cq n) (BT l n) Q1 Q1) ?_;refine⟨Qa,?_⟩;simp only[ai]
  grind
 all_goals grind
end
end Go.Proofs.YtmbboaapillefaaGreatDoor
namespace Xe
open Go
def mg(l:List Int)(n:Int)(t:Ty):Prop:=t=bQ\/t=qE\/t=cb bQ\/t=cq n\/t=cq (n+1)\/(cn l=true/\t=cq (n+2))
def mT(l:List Int)(n:Int)(t:Ty):Prop:=t=bQ\/t=qE\/t=cb bQ\/t=cq n\/t=cq (n+1)\/(cn l=true/\(t=cq (n+2)\/t=cq (n+3)))
theorem mg.up{l:List Int}{n:Int}{t:Ty}(h:mg l n t):mT l n t:=by
 rcases h with h|h|h|h|h|⟨h,k⟩
 .exact .inl h
 .exact .inr (.inl h)
 .exact .inr (.inr (.inl h))
 .exact .inr (.inr (.inr (.inl h)))
 .exact .inr (.inr (.inr (.inr (.inl h))))
 .exact .inr (.inr (.inr (.inr (.inr ⟨h,.inl k⟩))))
theorem tI(z:Int)(a b:Ty):ct z a b=bQ\/ct z a b=qE\/ct z a b=cb bQ\/ct z a b=a\/ct z a b=b:=by
 unfold ct;have:=kD z 6 Q0;obtain⟨k,hk,hk6⟩:∃k:Nat,fR z 6=k/\k<6:=⟨(fR z 6).toNat,Q0,Q0⟩;rw[hk,SF];rcases k with _|_|_|_|_|_|k
 .exact .inl rfl
 .exact .inr (.inl rfl)
 .exact .inr (.inr (.inl rfl))
 .exact .inr (.inr (.inr (.inl rfl)))
 .exact .inr (.inr (.inr (.inr rfl)))
 .exact .inl rfl
 .omega
theorem An{z:Int}(h:0<=z/\z<3)(a b:Ty):ct z a b=bQ\/ct z a b=qE\/ct z a b=cb bQ:=by
 unfold ct fR;rw[J1 Q0];have:z=0\/z=1\/z=2:=Q0;rcases this with rfl|rfl|rfl
 .exact .inl rfl
 .exact .inr (.inl rfl)
 .exact .inr (.inr rfl)
theorem kQ{l:List Int}{n z:Int}{a b:Ty}(ha:mg l n a)(hb:mg l n b):mg l n (ct z a b):=by
 rcases tI z a b with e|e|e|e|e <;> rw[e]
 .exact .inl rfl
 .exact .inr (.inl rfl)
 .exact .inr (.inr (.inl rfl))
 .exact ha
 .exact hb
theorem xl{l:List Int}{n q m:Int}{T:Ty}(hT:mg l n T){k:Nat}:∀t∈iB l q m T k,mg l n t:=λt ht=>by obtain⟨i,_,rfl⟩:=R3.1 ht;exact kQ hT hT
theorem mg.ls{l:List Int}{n:Int}:mg l n (cb Xe.bQ):=.inr (.inr (.inl rfl))
theorem mg.p{l:List Int}{n:Int}:mg l n (cq n):=.inr (.inr (.inr (.inl rfl)))
theorem mg.e{l:List Int}{n:Int}:mg l n (cq (n+1)):=.inr (.inr (.inr (.inr (.inl rfl))))
theorem mg.s{l:List Int}{n:Int}:mg l n (BT l n):=by
 unfold BT;split
 .rename_i h;exact .inr (.inr (.inr (.inr (.inr ⟨h,rfl⟩))))
 .exact mg.p
theorem mT.p{l:List Int}{n:Int}:mT l n (cq n):=mg.p.up
theorem mT.e{l:List Int}{n:Int}:mT l n (cq (n+1)):=mg.e.up
theorem inTs_in{l:List Int}{n i:Int}:∀t∈CK l i (cq n),mg l n t:=by
 intro t ht;unfold CK at ht;rcases RO.1 ht with rfl|ht
 .unfold inT inT2 inT1;split
  .exact mg.p
  split
  .exact mg.ls
  split
  .exact .inr (.inl rfl)
  .exact .inl rfl
 .unfold in2 P9 at ht;split at ht
  .rw[RZ.1 ht];exact .inr (.inl rfl)
  split at ht
  .rw[RZ.1 ht];exact .inl rfl
  .cases ht
structure jq(l:List Int)(n:Int)(p:aN):Prop where
 tys:∀t∈p.types,mg l n t
 res:mT l n p.aq
 mod:0<=p.mod/\p.mod<n
 t1:1<=p.types.length
 t3:p.types.length<=3
 aJ:p.types.length<=p.aJ.length
 ly:p.kind=4->p.types.length=p.ly.length
 kind:0<=p.kind/\p.kind<=5
theorem AD{l:List Int}{n:Int}(hn:1<=n):jq l n (gQ l n):=by
 have h:=eO l 2 3 Q0;refine⟨xl mg.p,.inl rfl,⟨SM _,hn⟩,?_,?_,?_,λe=>by simp[gQ]at e,by simp[gQ]⟩
 all_goals grind [gQ,ko]
theorem AE{l:List Int}{n:Int}(hn:1<=n):jq l n (iF l n):=by
 have h:=eO l 6 2 Q0;refine⟨λt ht=>?_,.inl rfl,⟨SM _,hn⟩,?_,?_,?_,λe=>by simp[iF]at e,by simp[iF]⟩
 .rcases RO.1 ht with rfl|ht
  .exact .inl rfl
  .exact xl mg.p t ht
 all_goals grind [iF,ko,RU]
theorem AB{l:List Int}{n:Int}(hn:1<=n):jq l n (fK l n):=by
 have h:=eO l 9 3 Q0;refine⟨λt ht=>?_,.inl rfl,⟨SM _,hn⟩,?_,?_,?_,λe=>by simp[fK]at e,by simp[fK]⟩
 .rcases RO.1 ht with rfl|ht
  .exact .inl rfl
  .exact xl mg.p t ht
 all_goals grind [fK,ko,RU]
theorem Jy{l:List Int}{n:Int}(hn:1<=n)(hf:cn l=true):jq l n (lD n):=by
 refine⟨λt ht=>?_,.inl rfl,⟨SM _,hn⟩,by simp[lD],by simp[lD],by simp[lD],λe=>by simp[lD]at e,by simp[lD]⟩;simp only[lD,RO,Sx,or_false]at ht;rcases ht with rfl|rfl|rfl
 .exact .inr (.inr (.inr (.inr (.inr ⟨hf,rfl⟩))))
 .exact mg.ls
 .exact .inl rfl
theorem pF_ok{l:List Int}{n:Int}(hn:1<=n):jq l n (pF l n):=by
 have h:=eO l 15 n hn;refine⟨λt ht=>?_,(kQ mg.p mg.p).up,h,?_,?_,?_,λe=>by simp[pF]at e,by simp[pF]⟩
 .simp only[pF,FA]at ht
  grind [kQ,mg.p,mg.e,RZ]
 all_goals grind [pF,FA]
theorem OI{l:List Int}{n:Int}(hn:1<=n)(hf:cn l=true):jq l n (lN n):=by
 refine⟨λt ht=>?_,.inr (.inr (.inr (.inr (.inr ⟨hf,.inr rfl⟩)))),⟨show 0<=n-1 by omega,show n-1<n by omega⟩,by simp[lN],by simp[lN],by simp[lN],λe=>by simp[lN]at e,by simp[lN]⟩;simp only[lN,RO,Sx,or_false]at ht;rcases ht with rfl|rfl
 .exact .inr (.inr (.inr (.inr (.inr ⟨hf,rfl⟩))))
 .exact mg.e
theorem pG_ok{l:List Int}{n:Int}(hn:1<=n):jq l n (pG l n):=by refine⟨λt ht=>?_,(kQ mg.p mg.e).up,⟨show 0<=n-1 by omega,show n-1<n by omega⟩,by show 1<=[_].length;simp,by show[_].length<=3;simp,by show[_].length<=[_].length;simp,λe=>J3 e (show ¬(2:Int)=4 by decide),show(0:Int)<=2/\(2:Int)<=5 by decide⟩;simp only[pG,RO,Sx,or_false]at ht;rw[ht];exact mg.e
theorem pT_ok{l:List Int}{n:Int}(hn:1<=n):jq l n (pT l n):=by
 have h1:=in2_len (eH l (18+2) 3);have h2:=P7 (eH l (18+2) 3);refine⟨inTs_in,(kQ mg.p (kQ mg.p mg.p)).up,⟨show 0<=n-1 by omega,show n-1<n by omega⟩,?_,?_,?_,λ_=>?_,show(0:Int)<=4/\(4:Int)<=5 by decide⟩
 all_goals grind [pT,CK,ML,RU,List.length_nil]
theorem pC_ok{l:List Int}{n:Int}(hn:1<=n):jq l n (pC l n):=by refine⟨λt ht=>?_,(kQ mg.p mg.s).up,⟨show 0<=n-1 by omega,show n-1<n by omega⟩,by show 1<=[_].length;simp,by show[_].length<=3;simp,by show[_].length<=[_].length;simp,λe=>J3 e (show ¬(5:Int)=4 by decide),show(0:Int)<=5/\(5:Int)<=5 by decide⟩;simp only[pC,RO,Sx,or_false]at ht;rw[ht];exact mg.s
theorem jD{l:List Int}{n:Int}(hn:1<=n):∀p∈bw l n,jq l n p:=by
 intro p hp;simp only[bw,fw,eZ,kV,RY,RO,Sx,or_false]at hp;rcases hp with((((hp|hp)|hp)|hp)|hp)|hp
 .grind [AD,AE]
 .split at hp
  .rename_i hf;simp only[RO,Sx,or_false]at hp
   grind [AB,Jy]
  .cases hp
 all_goals grind [pF_ok,OI,pG_ok,pT_ok,RZ,pC_ok]
theorem eK(l:List Int)(n:Int):5<=(bw l n).length/\(bw l n).length<=8:=by unfold bw fw eZ kV;split <;> split <;> simp
theorem uy{a b:Int}(ha:0<=a)(hb:0<=b)(h:a≠b):fA a≠fA b:=λe=>by
 unfold fA at e
 grind
def dQ(ps:List aN):Nat:=(ps.map λp=>p.types.length).sum
theorem mB(p:aN)(ps:List aN):dQ (p::ps)=p.types.length+dQ ps:=by simp[dQ]
theorem u9(a b:List aN):dQ (a++b)=dQ a+dQ b:=by simp[dQ]
theorem nv:∀(a b:List aN) (i next:Int),bx (a++b) i next=bx a i next++bx b (i+a.length) (next+dQ a)
 |[],b,i,next=>by simp[bx,dQ]
 |p::a,b,i,next=>by
  rw[SA,bx,bx,nv a b,SA,mB,RU]
  grind
theorem dT(ps:List aN)(i next:Int){j:Nat}(hj:j<ps.length)(hj':j<(bx ps i next).length):(bx ps i next)[j]=jR ps[j] (i+j) (next+dQ (ps.take j)):=by
 have e:ps=ps.take j++ps[j]::ps.drop (j+1):=by simp_all
 have hl:(bx (ps.take j) i next).length=j:=by rw[cG,Sn];omega
 have h1:bx ps i next=bx (ps.take j) i next++bx (ps[j]::ps.drop (j+1)) (i+j) (next+dQ (ps.take j)):=by
  grind [nv,Sn,Nat.min_eq_left]
 have:(bx ps i next)[j]?=some (jR ps[j] (i+j) (next+dQ (ps.take j))):=by rw[h1,List.getElem?_append_right Q0,hl,W5,bx];rfl
 grind
theorem LX(p:aN)(next:Int):(cO p next).map aC.ty=p.types:=by
 unfold cO;rw[List.map_map];apply Vh
 all_goals grind
theorem cw(p:aN)(next:Int):(cO p next).length=p.types.length:=by simp[cO]
theorem fa{p:aN}{next:Int}{s:aC}(h:s∈cO p next):s.ty∈p.types:=by
 grind [LX]
def an.bH(d:an)(e:Ex):an:=⟨d.id,d.kind,d.mod,d.name,d.ah,d.aq,e,d.bm,d.bF⟩
def an.sh(d:an):an:=d.bH o7
theorem bX{a b:an}(h:a.sh=b.sh):a.id=b.id/\a.kind=b.kind/\a.mod=b.mod/\a.name=b.name/\a.ah=b.ah/\a.aq=b.aq/\a.bm=b.bm/\a.bF=b.bF:=by
 unfold an.sh an.bH at h
 grind
def cU(a b:List an):Prop:=a.map an.sh=b.map an.sh
theorem cU.refl(a:List an):cU a a:=rfl
theorem cU.len{a b:List an}(h:cU a b):a.length=b.length:=by have:=J4 ZZ h;simpa using this
theorem cU.get{a b:List an}(h:cU a b){k:Nat}(ha:k<a.length)(hb:k<b.length):a[k].sh=b[k].sh:=by
 have:(a.map an.sh)[k]?=(b.map an.sh)[k]?:=by rw[h]
 grind
theorem cU.set{a b:List an}(h:cU a b){k:Nat}(ha:k<a.length)(e:Ex):cU (a.set k (a[k].bH e)) b:=by
 unfold cU at *;rw[<-h];apply Vh
 .simp
 .intro i h1 h2;simp only[S0,List.getElem_set];split
  .rename_i he;subst he;rfl
  .rfl
theorem cU.mY{ms ns:List aO}{a b:List an}(h:cU a b)(i:av):(al ⟨ms,a⟩ i).sh=(al ⟨ns,b⟩ i).sh:=by
 unfold al;dsimp only;induction a generalizing b with
 |nil =>
  cases b with
  |nil=>rfl
  |cons y b=>have:=h.len;simp at this
 |cons x a ih =>
  cases b with
  |nil=>have:=h.len;simp at this
  |cons y b =>
   unfold cU at h;simp only[Sb,Tn]at h;have hid:=(bX h.1).1;rw[VI,VI,hid];cases decide (y.id=i) with
   |true=>exact h.1
   |false=>exact ih h.2
theorem cU.mem{a b:List an}(h:cU a b){d:an}(hd:d∈a):∃e∈b,d.sh=e.sh:=by
 obtain⟨k,hk,rfl⟩:=R8.1 hd;have hk':k<b.length:=by rw[<-h.len];exact hk
 exact⟨_,RQ hk',h.get hk hk'⟩
theorem cU.wf{ms ns:List aO}{a b:List an}(h:cU a b):∀(n:Nat) (t:Ty),eV ⟨ns,b⟩ n t->eV ⟨ms,a⟩ n t
 |0,_,w=>w
 |n+1,t,w=>by
  have hp:=bX (h.mY (ms:=ms) (ns:=ns) t.df);rw[eV]at w ⊢;rcases w with w|w|w|w
  .exact .inl w
  .exact .inr (.inl w)
  .exact .inr (.inr (.inl ⟨w.1,w.2.1,h.wf n _ w.2.2⟩))
  .refine .inr (.inr (.inr ⟨w.1,w.2.1,w.2.2.1,?_,?_,?_⟩))
   .grind
   .grind
   .rw[hp.2.2.2.2.1];exact λs hs=>h.wf n _ (w.2.2.2.2.2 s hs)
structure kj(p:au)(R:Nat):Prop where
 gen:Rx p R
 resA:∀d∈p.aa,eV p R d.aq
 sty:∀d∈p.aa,∀x∈d.ah,x.ty.size<=1000
 rty:∀d∈p.aa,d.aq.size<=1000
 e0:∀d∈p.aa,0<d.ah.length
 d0:0<p.aa.length
 d1:p.aa.length<=100
theorem kj.mG{ms:List aO}{a b:List an}{R:Nat}(hb:kj ⟨ms,b⟩ R)(h:cU a b):kj ⟨ms,a⟩ R:=by
 have get:∀d∈a,∃e∈b,d.id=e.id/\d.kind=e.kind/\d.ah=e.ah/\d.aq=e.aq:=λd hd=>by
  obtain⟨e,he,hs⟩:=h.mem hd;have:=bX hs
  grind
 refine⟨⟨λd hd=>?_,λd hd hk=>?_,λd hd s hs=>?_,λd hd hk=>?_,λd hd hk=>?_,hb.gen.R2⟩,λd hd=>?_,λd hd x hx=>?_,λd hd=>?_,λd hd=>?_,by rw[h.len];exact hb.d0,by rw[h.len];exact hb.d1⟩
 all_goals obtain⟨e,he,h1,h2,h3,h4⟩:=get d hd
 .rw[h3];exact hb.gen.fJ e he
 .rw[h3];exact hb.gen.oW e he Q0
 .rw[h3]at hs;exact h.wf _ _ (hb.gen.DX e he s hs)
 .rw[h4];exact h.wf _ _ (hb.gen.res e he Q0)
 .rw[h1];exact h.wf _ _ (hb.gen.own e he Q0)
 .rw[h4];exact h.wf _ _ (hb.resA e he)
 .rw[h3]at hx;exact hb.sty e he x hx
 .rw[h4];exact hb.rty e he
 .rw[h3];exact hb.e0 e he
def qp:ByteArray:=⟨#[99,111,114,101]⟩
def AL:ByteArray:=⟨#[109,105,108,108]⟩
def bN(m:Int):List aN->Int->List av
 |[],_=>[]
 |p::ps,i=>(if p.mod=m then[fA i] else[])++bN m ps (i+1)
theorem qq(m:Int):∀(a b:List aN) (i:Int),bN m (a++b) i=bN m a i++bN m b (i+a.length)
 |[],b,i=>by simp[bN]
 |p::a,b,i=>by rw[SA,bN,bN,qq m a b,RU,R9,show i+1+(a.length:Int)=i+((a.length+1:Nat):Int) by omega]
def bU(l:List Int):List aO :=
 if ay l=1 then[⟨fA 0,qp,[],bN 0 (bw l 1) 1⟩] else[⟨fA 0,qp,[],bN 0 (bw l 2) 2⟩,⟨fA 1,AL,[fA 0],bN 1 (bw l 2) 2⟩]
def cx(l:List Int):List aN:=bw l (ay l)
def aX(l:List Int):List an:=bx (cx l) (ay l) (ay l+(cx l).length)
def ig(l:List Int):Int:=ay l+(cx l).length+dQ (cx l)
theorem dw(l:List Int):ay l=1\/ay l=2:=by have:=eO l 0 2 Q0;unfold ay;omega
section
variable {l:List Int} {n:Int}
theorem Az{j:Nat}(hj:j<(bw l n).length)(h:(bw l n)[j].kind=0\/(bw l n)[j].kind=1):j<2\/(cn l=true/\j<4):=by
 have e:(bw l n)[j]?=some (bw l n)[j]:=R5 hj;generalize(bw l n)[j]=p at h e;unfold bw fw eZ kV at e;by_cases hf:cn l=true
 .rw[J2 hf,J2 hf]at e;rcases j with _|_|_|_|j
  .exact .inl Q0
  .exact .inl Q0
  .exact .inr ⟨hf,Q0⟩
  .exact .inr ⟨hf,Q0⟩
  .exfalso;simp only[SA,Sv,Tk]at e;rcases j with _|_|_|j
   .grind [SE,RE,pF]
   .simp only[Tk,SE,RE]at e;subst e;simp[lN]at h
   .grind [Tk,SE,RE,pT]
   .simp only[Tk]at e
    grind [SE,RE,pC]
 .rw[J1 hf,J1 hf]at e;rcases j with _|_|j
  .exact .inl Q0
  .exact .inl Q0
  .exfalso;simp only[SA,Sv,RW,Tk]at e;rcases j with _|_|_|j
   .grind [SE,RE,pF]
   .grind [Tk,SE,RE,pG]
   .grind [Tk,SE,RE,pT]
   .simp only[Tk]at e
    grind [SE,RE,pC]
theorem rI{ms:List aO}(hn:0<=n){ps:List aN}{next:Int}{j:Nat}(hj:j<ps.length):cK ⟨ms,bx ps n next⟩ (fA (n+j))/\al ⟨ms,bx ps n next⟩ (fA (n+j))=jR ps[j] (n+j) (next+dQ (ps.take j)):=by
 have hl:=cG ps n next
 have h:=kN (p:=⟨ms,bx ps n next⟩) (id:=fA (n+j)) (k:=j) (by grind) (λi hi hlt=>by
  rw[dT ps n next Q0 hi]
  exact uy Q0 Q0 Q0) (by rw[dT ps n next hj (by rw[hl];exact hj)];rfl)
 grind [dT]
theorem IF{p:au}{k:Nat}{i:av}{d:an}(h:al p i=d)(h3:d.ah.length<=3)(h1:0<d.ah.length)(hs:∀s∈d.ah,eV p k s.ty):eV p (k+1) (mD i):=by
 rw[eV];refine .inr (.inr (.inr ⟨show(3:Int)≠0 by decide,show(3:Int)≠1 by decide,show(3:Int)≠2 by decide,?_⟩));rw[show(mD i).df=i from rfl,h]
 grind
theorem wf_s{p:au}{k:Nat}{t:Ty}(h:t=bQ\/t=qE\/t=cb bQ):eV p (k+2) t:=by
 rcases h with rfl|rfl|rfl
 .rw[eV];exact .inl rfl
 .rw[eV];exact .inr (.inl rfl)
 .exact oa Q0
end
theorem mT.size{l:List Int}{n:Int}{t:Ty}(h:mT l n t):t.size<=1000:=by rcases h with rfl|rfl|rfl|rfl|rfl|⟨_,rfl|rfl⟩ <;> first|decide|simp[mD,Ty.size,Ty.ba]
theorem base04(l:List Int):kj ⟨bU l,aX l⟩ 5/\∀d∈aX l,∀s∈d.ah,eV ⟨bU l,aX l⟩ 4 s.ty:=by
 have hn:1<=ay l:=by grind [dw]
 unfold aX;generalize hps:cx l=ps;have hok:∀p∈ps,jq l (ay l) p:=by rw[<-hps];exact jD hn
 have hlen:=eK l (ay l);unfold cx at hps;rw[hps]at hlen;generalize hnx:ay l+(ps.length:Int)=next
 generalize bU l=ms;have hdl:=cG ps (ay l) next
 -- mY types of definitions
 have point:eV ⟨ms,bx ps (ay l) next⟩ 3 (cq (ay l)):=by
  have h0:0<ps.length:=Q0;have e:=(rI (ms:=ms) (n:=ay l) Q0 (next:=next) h0).2;have ep:ps[0]=gQ l (ay l):=by subst hps;rfl
  rw[ep,show ay l+((0:Nat):Int)=ay l by omega]at e;have ok:=AD (l:=l) (n:=ay l) hn;refine IF e (by rw[jR,cw];exact ok.t3) (by rw[jR,cw];exact ok.t1) λs hs=>?_;obtain⟨i,_,hi⟩:=R3.1 (show s.ty∈iB l 3 3 (cq (ay l)) _ from fa hs)
  grind [wf_s,An,eO]
 have mid:∀t,(t=bQ\/t=qE\/t=cb bQ\/t=cq (ay l))->eV ⟨ms,bx ps (ay l) next⟩ 3 t:=λt h=>by
  grind [wf_s]
 have mids:∀q m k,∀t∈bQ::iB l q m (cq (ay l)) k,eV ⟨ms,bx ps (ay l) next⟩ 3 t:=λq m k t ht=>by
  rcases RO.1 ht with rfl|ht
  .exact mid _ (.inl rfl)
  .obtain⟨i,_,hi⟩:=R3.1 ht;rw[<-hi];refine mid _ ?_;rcases tI (eH l (q+(i:Int)) m) (cq (ay l)) (cq (ay l)) with h|h|h|h|h
   all_goals grind
 have event:eV ⟨ms,bx ps (ay l) next⟩ 4 (cq (ay l+1)):=by
  have h0:1<ps.length:=Q0;have e:=(rI (ms:=ms) (n:=ay l) Q0 (next:=next) h0).2;have ep:ps[1]=iF l (ay l):=by subst hps;rfl
  rw[ep,show ay l+((1:Nat):Int)=ay l+1 by omega]at e;have ok:=AE (l:=l) (n:=ay l) hn;exact IF e (by rw[jR,cw];exact ok.t3) (by rw[jR,cw];exact ok.t1) λs hs=>mids _ _ _ _ (fa hs)
 have five:cn l=true->eV ⟨ms,bx ps (ay l) next⟩ 4 (cq (ay l+2))/\eV ⟨ms,bx ps (ay l) next⟩ 5 (cq (ay l+3)):=λhf=>by
  have h2:2<ps.length:=Q0;have h3:3<ps.length:=Q0;have e2:=(rI (ms:=ms) (n:=ay l) Q0 (next:=next) h2).2;have e3:=(rI (ms:=ms) (n:=ay l) Q0 (next:=next) h3).2;have ep2:ps[2]=fK l (ay l):=by
   have:ps[2]?=some (fK l (ay l)):=by rw[<-hps];unfold bw fw eZ;rw[J2 hf];rfl
   grind
  have ep3:ps[3]=lD (ay l):=by
   have:ps[3]?=some (lD (ay l)):=by rw[<-hps];unfold bw fw eZ;rw[J2 hf];rfl
   grind
  rw[ep2,show ay l+((2:Nat):Int)=ay l+2 by omega]at e2;rw[ep3,show ay l+((3:Nat):Int)=ay l+3 by omega]at e3;have ok2:=AB (l:=l) (n:=ay l) hn;have ok3:=Jy (l:=l) (n:=ay l) hn hf;have state:=IF e2 (by rw[jR,cw];exact ok2.t3) (by rw[jR,cw];exact ok2.t1) λs hs=>mids _ _ _ _ (fa hs);refine⟨state,IF e3 (by rw[jR,cw];exact ok3.t3) (by rw[jR,cw];exact ok3.t1) λs hs=>?_⟩;have:=fa hs;simp only[lD,RO,Sx,or_false]at this;rcases this with h|h|h <;> rw[h]
  .exact state
  .exact b9 Q0 (mid _ (.inr (.inr (.inl rfl))))
  .exact b9 Q0 (mid _ (.inl rfl))
 have all:∀t,mT l (ay l) t->eV ⟨ms,bx ps (ay l) next⟩ 5 t:=λt h=>by
  rcases h with h|h|h|h|h|⟨hf,h|h⟩
  .exact b9 Q0 (mid _ (.inl h))
  .exact b9 Q0 (mid _ (.inr (.inl h)))
  .exact b9 Q0 (mid _ (.inr (.inr (.inl h))))
  .rw[h];exact b9 Q0 point
  .rw[h];exact b9 Q0 event
  .rw[h];exact b9 Q0 (five hf).1
  all_goals grind
 have four:∀t,mg l (ay l) t->eV ⟨ms,bx ps (ay l) next⟩ 4 t:=λt h=>by
  rcases h with h|h|h|h|h|⟨hf,h⟩
  .exact b9 Q0 (mid _ (.inl h))
  .exact b9 Q0 (mid _ (.inr (.inl h)))
  .exact b9 Q0 (mid _ (.inr (.inr (.inl h))))
  .rw[h];exact b9 Q0 point
  all_goals grind
 have get:∀d∈bx ps (ay l) next,∃j,∃hj:j<ps.length,d=jR ps[j] (ay l+j) (next+dQ (ps.take j)):=λd hd=>by
  grind [R8,dT]
 refine⟨⟨⟨λd hd=>?_,λd hd hk=>?_,λd hd s hs=>?_,λd hd hk=>?_,λd hd hk=>?_,Q0⟩,λd hd=>?_,λd hd x hx=>?_,λd hd=>?_,λd hd=>?_,by grind,by grind⟩,λd hd s hs=>?_⟩
 all_goals obtain⟨j,hj,rfl⟩:=get d hd
 all_goals have ok:=hok _ (RQ hj)
 .rw[jR,cw];exact ok.t3
 .rw[jR,cw];exact ok.t1
 .exact all _ (ok.tys _ (fa hs)).up
 .exact all _ ok.res
 .refine all _ ?_;have hk':ps[j].kind=0\/ps[j].kind=1:=hk;subst hps;rcases Az hj hk' with h|⟨hf,h⟩
  .rcases j with _|_|j
   .show mT l (ay l) (cq (ay l+((0:Nat):Int)));rw[show ay l+((0:Nat):Int)=ay l by omega];exact mT.p
   .exact mT.e
   .omega
  .rcases j with _|_|_|_|j
   .show mT l (ay l) (cq (ay l+((0:Nat):Int)));rw[show ay l+((0:Nat):Int)=ay l by omega];exact mT.p
   .exact mT.e
   .exact .inr (.inr (.inr (.inr (.inr ⟨hf,.inl rfl⟩))))
   .exact .inr (.inr (.inr (.inr (.inr ⟨hf,.inr rfl⟩))))
   .omega
 .exact all _ ok.res
 .exact(ok.tys _ (fa hx)).up.size
 .exact ok.res.size
 .rw[jR,cw];exact ok.t1
 .exact four _ (ok.tys _ (fa hs))
theorem By(l:List Int):kj ⟨bU l,aX l⟩ 5:=(base04 l).1
def dz(k n:Int)(kids:List Ex)(T:Int):Ex:=.mk ⟨0,0,T⟩ k n kx bQ kids []
def opTy(n:Int)(u t:Ty):Prop:=(0<=n/\n<=4/\u=bQ/\t=bQ)\/(n=5/\u=bQ/\t=qE)\/(n=6/\t=qE)\/((n=7\/n=8)/\u=qE/\t=qE)\/(n=10/\u=cb bQ/\t=cb bQ)
inductive Mk(c:fE):Ty->List cg->Int->Ex->Int->Prop
 |int {env:List cg} {T n:Int}:-1099511627776<=n/\n<=1099511627776->Mk c bQ env T (dz 0 n [] T) (T+1)
 |bool {env:List cg} {T n:Int}:0<=n/\n<=1->Mk c qE env T (dz 1 n [] T) (T+1)
 |var {env:List cg} {T:Int} {b:cg}:b∈env->Mk c b.ty env T ((dz 2 b.n [] T).dO b.id) (T+1)
 |rj {env:List cg} {T:Int} {kids:List Ex} (Ts:Nat->Int) (hl:kids.length<=2):Ts 0=T->(∀i (h:i<kids.length),Mk c bQ env (Ts i) kids[i] (Ts (i+1)))->Mk c (cb bQ) env T ((dz 11 0 kids (Ts kids.length)).I7 bQ) (Ts kids.length+1)
 |oW {env:List cg} {T T1:Int} {d:an} {k:Nat} {e:Ex} (hd:d∈c.p.aa) (hk:d.kind=1) (h:k<d.ah.length):Mk c d.ah[k].ty env T e T1->Mk c (mD d.id) env T ((dz 9 k [e] T1).dO d.id) (T1+1)
 |rV {env:List cg} {T:Int} {d:an} {kids:List Ex} (hd:d∈c.p.aa) (hk:d.kind=0) (Ts:Nat->Int) (hl:kids.length=d.ah.length):Ts 0=T->(∀i (h:i<kids.length),Mk c (d.ah[i]'Q0).ty env (Ts i) kids[i] (Ts (i+1)))->Mk c (mD d.id) env T ((dz 7 0 kids (Ts kids.length)).dO d.id) (Ts kids.length+1)
 |len {env:List cg} {T T1:Int} {a:Ex}:Mk c (cb bQ) env T a T1->Mk c bQ env T (dz 4 11 [a] T1) (T1+1)
 |not {env:List cg} {T T1:Int} {a:Ex}:Mk c qE env T a T1->Mk c qE env T (dz 4 9 [a] T1) (T1+1)
 |tp {t u:Ty} {env:List cg} {T T1 T2 n:Int} {a b:Ex}:opTy n u t->Mk c u env T a T1->Mk c u env T1 b T2->Mk c t env T (dz 4 n [a,b] T2) (T2+1)
 |Ke {t:Ty} {env:List cg} {T T1 T2 T3:Int} {a b e:Ex}:Mk c qE env T a T1->Mk c t env T1 b T2->Mk c t env T2 e T3->Mk c t env T (dz 5 0 [a,b,e] T3) (T3+1)
 |sF {t u:Ty} {env:List cg} {T T1 T2:Int} {a b:Ex} {m:ByteArray}:Mk c u env T a T1->Mk c t (env++[⟨⟨0,0,T1⟩,0,u⟩]) (T1+1) b T2->Mk c t env T ((dz 6 0 [] T1).dH [a,b] [m]) T2
 |sU {t:Ty} {env:List cg} {T T1 T2 T3:Int} {a b e:Ex} {m m2:ByteArray}:Mk c (cb bQ) env T a T1->Mk c t env T1 b T2->Mk c t (env++[⟨⟨0,0,T2⟩,0,bQ⟩]++[⟨⟨0,0,T2⟩,1,t⟩]) (T2+1) e T3->Mk c t env T ((dz 12 0 [] T2).dH [a,b,e] [m,m2]) T3
 |JM {t:Ty} {env:List cg} {T T1:Int} {d:an} {a:Ex} {kids:List Ex} {ms:List ByteArray} (hd:d∈c.p.aa) (hk:d.kind=1) (Ts:Nat->Int) (hl:kids.length=d.ah.length) (hm:ms.length=d.ah.length):Mk c (mD d.id) env T a T1->Ts 0=T1+1 ->
   (∀i (h:i<kids.length),Mk c t (env++[⟨⟨0,0,T1⟩,i,(d.ah[i]'Q0).ty⟩]) (Ts i) kids[i] (Ts (i+1)))->Mk c t env T (((dz 10 0 [] T1).dO d.id).dH (a::kids) ms) (Ts kids.length)
 |field {env:List cg} {T T1:Int} {d:an} {j:Nat} {a:Ex} (hd:d∈c.p.aa) (hk:d.kind=0) (h:j<d.ah.length):Mk c (mD d.id) env T a T1->Mk c d.ah[j].ty env T ((dz 8 j [a] T1).dO d.id) (T1+1)
 |call {env:List cg} {T:Int} {k:Nat} {kids:List Ex} (hd:k<c.p.aa.length) (hk:c.p.aa[k].kind=2) (hv:kH c k) (Ts:Nat->Int) (hl:kids.length=c.p.aa[k].ah.length):Ts 0=T->(∀i (h:i<kids.length),Mk c (c.p.aa[k].ah[i]'Q0).ty env (Ts i) kids[i] (Ts (i+1))) ->
   Mk c c.p.aa[k].aq env T ((dz 3 0 kids (Ts kids.length)).dO c.p.aa[k].id) (Ts kids.length+1)
def nQ(p:au)(t:Ty):Prop:=t=bQ\/t=qE\/t=cb bQ\/∃d∈p.aa,(d.kind=0\/d.kind=1)/\t=mD d.id
structure Ry(c:fE)(R:Nat):Prop where
 gen:Rx c.p R
 d0:0<c.p.aa.length
 mY:∀d∈c.p.aa,al c.p d.id=d
 gs:∀d∈c.p.aa,∀s∈d.ah,nQ c.p s.ty
 gr:∀d∈c.p.aa,nQ c.p d.aq
def GMk(c:fE)(R n:Nat)(g:GX):Prop:=∀(t:Ty) (env:List cg) (depth:Int) (s:b6),0<env.length->(∀b∈env,eV c.p R b.ty/\nQ c.p b.ty)->sf c.p R n t depth->nQ c.p t->Mk c t env s.bj (g t env depth s).1 (g t env depth s).2.bj
theorem gTy0{p:au}{t:Ty}(h:nQ p t)(hk:t.kind=0):t=bQ:=by
 rcases h with h|h|h|⟨d,_,_,h⟩ <;> rw[h]at hk ⊢
 all_goals exact J3 hk (show ¬(_:Int)=0 by first|exact(show ¬(1:Int)=0 by decide)|exact(show ¬(2:Int)=0 by decide)|exact(show ¬(3:Int)=0 by decide))
theorem gTy1{p:au}{t:Ty}(h:nQ p t)(hk:t.kind=1):t=qE:=by
 rcases h with h|h|h|⟨d,_,_,h⟩ <;> rw[h]at hk ⊢
 .exact J3 hk (show ¬(0:Int)=1 by decide)
 .exact J3 hk (show ¬(2:Int)=1 by decide)
 .exact J3 hk (show ¬(3:Int)=1 by decide)
theorem gTy2{p:au}{t:Ty}(h:nQ p t)(hk:t.kind=2):t=cb bQ:=by
 rcases h with h|h|h|⟨d,_,_,h⟩ <;> rw[h]at hk ⊢
 .exact J3 hk (show ¬(0:Int)=2 by decide)
 .exact J3 hk (show ¬(1:Int)=2 by decide)
 .exact J3 hk (show ¬(3:Int)=2 by decide)
theorem gTy3{p:au}{t:Ty}(h:nQ p t)(h0:¬t.kind=0)(h1:¬t.kind=1)(h2:¬t.kind=2):∃d∈p.aa,(d.kind=0\/d.kind=1)/\t=mD d.id:=by
 rcases h with h|h|h|h
 .rw[h]at h0;exact J3 rfl h0
 .rw[h]at h1;exact J3 rfl h1
 .rw[h]at h2;exact J3 rfl h2
 .exact h
section
variable {c:fE} {R n:Nat} {g:GX}
theorem E8(hg:GMk c R n g){t:Ty}{env:List cg}{d:Int}(h0:0<env.length)(he:∀b∈env,eV c.p R b.ty/\nQ c.p b.ty)(hk:sf c.p R n t d)(ht:nQ c.p t):∀(m:Nat) (s:b6),(du g t env d m s).1.length<=m/\∃Ts:Nat->Int,Ts 0=s.bj/\Ts (du g t env d m s).1.length=(du g t env d m s).2.bj/\∀i (h:i<(du g t env d m s).1.length),Mk c t env (Ts i) (du g t env d m s).1[i] (Ts (i+1))
 |0,s=>⟨Sc _,λ_=>s.bj,rfl,rfl,λi h=>J3 h (S6 _)⟩
 |m+1,s=>by
  by_cases hl:0<s.left
  .obtain⟨h0',Ts,h1,h2,h3⟩:=E8 hg h0 he hk ht m (g t env d s).2;have e:du g t env d (m+1) s=((g t env d s).1::(du g t env d m (g t env d s).2).1,(du g t env d m (g t env d s).2).2):=by rw[du,J2 hl]
   rw[e];refine⟨Nat.succ_le_succ h0',λi=>match i with|0=>s.bj|i+1=>Ts i,rfl,h2,λi h=>?_⟩;cases i with
   |zero=>show Mk c t env s.bj _ (Ts 0);rw[h1];exact hg t env d s h0 he hk ht
   |succ i=>exact h3 i (by grind)
  .have e:du g t env d (m+1) s=([],s):=by rw[du,J1 hl]
   rw[e];exact⟨Sy _,λ_=>s.bj,rfl,rfl,λi h=>J3 h (S6 _)⟩
theorem yr(hg:GMk c R n g){env:List cg}{d:Int}(h0:0<env.length)(he:∀b∈env,eV c.p R b.ty/\nQ c.p b.ty):∀(ts:List Ty) (s:b6),(∀t∈ts,sf c.p R n t d/\nQ c.p t)->∃Ts:Nat->Int,∃hl:(dt g env d ts s).1.length=ts.length,Ts 0=s.bj/\Ts (dt g env d ts s).1.length=(dt g env d ts s).2.bj/\∀i (h:i<(dt g env d ts s).1.length),Mk c (ts[i]'Q0) env (Ts i) (dt g env d ts s).1[i] (Ts (i+1))
 |[],s,_=>⟨λ_=>s.bj,rfl,rfl,rfl,λi h=>J3 h (S6 _)⟩
 |t::ts,s,hk=>by
  obtain⟨Ts,hl,h1,h2,h3⟩:=yr hg h0 he ts (g t env d s).2 λu hu=>hk u (RM _ hu);refine⟨λi=>match i with|0=>s.bj|i+1=>Ts i,by rw[dt];simp[hl],rfl,h2,λi h=>?_⟩;cases i with
  |zero=>show Mk c t env s.bj _ (Ts 0);rw[h1];have:=hk t (RG ..);exact hg t env d s h0 he this.1 this.2
  |succ i=>exact h3 i (by grind [dt])
end
section
variable {c:fE} {R n:Nat} {t:Ty} {env:List cg} {x depth:Int} {s:b6}
theorem KK{α:Type}{l:List α}{b:α}:0<(l++[b]).length:=Q2
theorem Mk.cast{t':Ty}{T T':Int}{e e':Ex}(h:Mk c t env T e T')(ht:t=t')(he:e=e'){S:Int}(hS:T'=S):Mk c t' env T e' S:=ht▸he▸hS▸h
theorem JW(hc:Ry c R)(hg:GMk c R n (aB c n))(h0:0<env.length)(he:∀b∈env,eV c.p R b.ty/\nQ c.p b.ty)(hk:sf c.p R (n+1) t depth)(ht:nQ c.p t)(hx:0<=x):Mk c t env s.bj (kZ c (aB c n) t env x depth s).1 (kZ c (aB c n) t env x depth s).2.bj:=by
 unfold kZ;have e29:x.tmod 29=x % 29:=SL hx;have e9:x.tmod 9=x % 9:=SL hx;have e2:x.tmod 2=x % 2:=SL hx;split
 .rename_i k0;rw[gTy0 ht k0];exact Mk.int (by grind [PQ])
 rename_i k0;split
 .rename_i k1;rw[gTy1 ht k1];exact Mk.bool Q0
 rename_i k1;split
 .rename_i k2;obtain rfl:=gTy2 ht k2;dsimp only;obtain⟨hkl,Ts,h1,h2,h3⟩:=E8 hg h0 he (t:=bQ) (d:=depth-1) (hk.part λm hm=>(wV hm k2).2) (.inl rfl) (if 0<=depth then(x.tmod 3).toNat else 0) s;refine(Mk.rj Ts (Nat.le_trans hkl (by have:=Int.tmod_lt_of_pos x (show(0:Int)<3 by omega);split <;> omega)) h1 h3).cast rfl ?_ ?_
  .rw[h2];rfl
  .rw[h2];rfl
 rename_i k2;obtain⟨d,hd,hdk,rfl⟩:=gTy3 ht k0 k1 k2;have e:al c.p (mD d.id).df=d:=hc.mY d hd;have hw:=mW hk.wf k0 k1 k2;rw[e]at hw ⊢;split
 .rename_i k3;dsimp only;have hs0:=hc.gen.oW d hd k3;obtain⟨k,hk1,hk2⟩:∃k:Nat,gj d x depth=k/\k<d.ah.length:=by
   have e:x.tmod (d.ah.length:Int)=x % (d.ah.length:Int):=SL hx;have h1:=Uw x (show(d.ah.length:Int)≠0 by omega);have h2:=T5 x (show(0:Int)<d.ah.length by omega);unfold gj;split
   .exact⟨0,rfl,hs0⟩
   .exact⟨(x % (d.ah.length:Int)).toNat,Q0,Q0⟩
  rw[hk1,SF,show(d.ah.map aC.ty).getD k bQ=d.ah[k].ty by grind];have hm:=RQ hk2;exact Mk.oW hd k3 hk2 (hg _ env (depth-1) s h0 he (hk.part λm hm'=>by grind [mW]) (hc.gs d hd _ hm))
 .rename_i k3;dsimp only;obtain⟨Ts,hl,h1,h2,h3⟩:=yr hg h0 he (d:=depth-1) (d.ah.map aC.ty) s λu hu=>by obtain⟨y,hy,rfl⟩:=R3.1 hu;exact⟨hk.part λm hm'=>by grind [mW],hc.gs d hd _ hy⟩
  rw[Sa]at hl;refine(Mk.rV hd (hdk.resolve_right k3) Ts hl h1 λi h=>?_).cast rfl ?_ ?_
  .have:=h3 i h;simp_all
  .rw[h2];rfl
  .rw[h2];rfl
theorem y8(hg:GMk c R n (aB c n))(h0:0<env.length)(he:∀b∈env,eV c.p R b.ty/\nQ c.p b.ty){u:Ty}{d k:Int}(hk:sf c.p R n u d)(hu:nQ c.p u)(ho:opTy k u t):Mk c t env s.bj (lT (aB c n) k u env d s).1 (lT (aB c n) k u env d s).2.bj :=
 Mk.tp ho (hg u env d s h0 he hk hu) (hg u env d _ h0 he hk hu)
theorem opG_mk(hc:Ry c R)(hg:GMk c R n (aB c n))(h0:0<env.length)(he:∀b∈env,eV c.p R b.ty/\nQ c.p b.ty)(hk:sf c.p R (n+1) t depth)(hd0:0<depth)(ht:nQ c.p t)(hx:0<=x):Mk c t env s.bj (nO c (aB c n) t env x depth s).1 (nO c (aB c n) t env x depth s).2.bj:=by
 unfold nO;have hR2:=hc.gen.R2;have e6:x.tmod 6=x % 6:=SL hx;have e5:x.tmod 5=x % 5:=SL hx;have d2:x.tdiv 2=x / 2:=T4 hx;have d6:x.tdiv 6=x / 6:=T4 hx;have wt:eV c.p R t:=by
  rcases hk with h|h
  .omega
  .exact h.2.1
 have w0:eV c.p R bQ:=b9 hR2 (BQ c.p 1);split
 .rename_i k0;obtain rfl:=gTy0 ht k0;split
  .exact Mk.len (hg _ env (depth-1) s h0 he (hk.any hd0 (oa hR2) Q0) (.inr (.inr (.inl rfl))))
  .exact y8 hg h0 he (hk.any hd0 wt Q0) ht (.inl ⟨Q0,Q0,rfl,rfl⟩)
 rename_i k0;split
 .rename_i k1;obtain rfl:=gTy1 ht k1;split
  .exact Mk.not (hg _ env (depth-1) s h0 he (hk.any hd0 wt Q0) ht)
  .rename_i h6;have hu:eV c.p R (jY qE env x)/\nQ c.p (jY qE env x):=by
    unfold jY;split
    .exact⟨wt,ht⟩
    split
    .have e:(x.tdiv 6).tmod (env.length:Int)=x.tdiv 6 % (env.length:Int):=SL Q0;have h1:=Uw (x.tdiv 6) (show(env.length:Int)≠0 by omega);have h2:=T5 (x.tdiv 6) (show(0:Int)<env.length by omega)
     grind [jL]
    .exact⟨w0,.inl rfl⟩
   refine y8 hg h0 he (hk.any hd0 hu.1 Q0) hu.2 ?_;unfold zd jY;split
   .exact .inr (.inr (.inr (.inl ⟨Q0,rfl,rfl⟩)))
   split
   .exact .inr (.inr (.inl ⟨rfl,rfl⟩))
   split
   .exact .inr (.inr (.inl ⟨rfl,rfl⟩))
   .exact .inr (.inl ⟨rfl,rfl,rfl⟩)
 rename_i k1;split
 .rename_i h2;obtain rfl:=gTy2 ht h2.1;exact y8 hg h0 he (hk.any hd0 wt Q0) ht (.inr (.inr (.inr (.inr ⟨rfl,rfl,rfl⟩))))
 all_goals grind [JW]
theorem vz(hg:GMk c R n (aB c n)){d:Int}{id:av}(ht:sf c.p R n t d)(hgt:nQ c.p t)(he:∀b∈env,eV c.p R b.ty/\nQ c.p b.ty):∀(sl:List aC) (j:Nat) (s:b6),(∀x∈sl,eV c.p R x.ty/\nQ c.p x.ty)->∃Ts:Nat->Int,∃hl:(bt (aB c n) t env d id sl j s).1.1.length=sl.length,(bt (aB c n) t env d id sl j s).1.2.length=sl.length/\Ts 0=s.bj/\Ts sl.length=(bt (aB c n) t env d id sl j s).2.bj /\
  ∀i (h:i<(bt (aB c n) t env d id sl j s).1.1.length),Mk c t (env++[⟨id,(j+i:Nat),(sl[i]'Q0).ty⟩]) (Ts i) (bt (aB c n) t env d id sl j s).1.1[i] (Ts (i+1))
 |[],j,s,_=>⟨λ_=>s.bj,rfl,rfl,rfl,rfl,λi h=>J3 h (S6 _)⟩
 |x::xs,j,s,hs=>by
  obtain⟨Ts,hl,hl2,h1,h2,h3⟩:=vz hg (id:=id) ht hgt he xs (j+1) (aM (aB c n t (env++[⟨id,j,x.ty⟩]) d s).2).2 λu hu=>hs u (RM _ hu);have e:bt (aB c n) t env d id (x::xs) j s=(((aB c n t (env++[⟨id,j,x.ty⟩]) d s).1::(bt (aB c n) t env d id xs (j+1) (aM (aB c n t (env++[⟨id,j,x.ty⟩]) d s).2).2).1.1,(aM (aB c n t (env++[⟨id,j,x.ty⟩]) d s).2).1::(bt (aB c n) t env d id xs (j+1) (aM (aB c n t (env++[⟨id,j,x.ty⟩]) d s).2).2).1.2),(bt (aB c n) t env d id xs (j+1) (aM (aB c n t (env++[⟨id,j,x.ty⟩]) d s).2).2).2):=by rw[bt]
  refine⟨λi=>match i with|0=>s.bj|i+1=>Ts i,by grind,by grind,rfl,h2,λi h=>?_⟩;cases i with
  |zero =>
   show Mk c t (env++[⟨id,j,x.ty⟩]) s.bj _ (Ts 0);rw[h1];refine hg t _ d s Q2 (λb hb=>?_) ht hgt;rcases RY.1 hb with hb|hb
   .exact he b hb
   .rw[RZ.1 hb];exact hs x (RG ..)
  |succ i=>have:=h3 i (by grind);rw[show j+1+i=j+(i+1) by omega]at this;exact this
theorem tm:∀(m i:Nat) {k:Nat},gF c t i m=some k->i<=k/\k<i+m/\(bP c k).kind=2/\kH c k/\(bP c k).aq=t
 |0,i,k,h=>by simp[gF]at h
 |m+1,i,k,h=>by
  rw[gF]at h;split at h
  .grind
  .have:=tm m (i+1) h
   grind
theorem l6{xn:Nat}(hd:0<c.p.aa.length):∀(m i:Nat) {k j:Nat},fq c t xn i m=some (k,j)->k<c.p.aa.length/\(bP c k).kind=0/\kH c k/\∃h:j<(bP c k).ah.length,(bP c k).ah[j].ty=t
 |0,i,k,j,h=>by simp[fq]at h
 |m+1,i,k,j,h=>by
  rw[fq]at h;by_cases hc:(bP c ((xn+i) % c.p.aa.length)).kind=0/\kH c ((xn+i) % c.p.aa.length)
  .rw[J2 hc]at h;cases hs:ng (bP c ((xn+i) % c.p.aa.length)).ah t with
   |none=>rw[hs]at h;exact l6 hd m (i+1) h
   |some q=>rw[hs]at h;simp only[RE,R6]at h;obtain⟨rfl,rfl⟩:=h;unfold ng at hs;obtain⟨h1,h2,_⟩:=U3.1 hs;exact⟨Xf _ hd,hc.1,hc.2,h1,by grind⟩
  .rw[J1 hc]at h;exact l6 hd m (i+1) h
theorem x8{kind:Int}{frm:Nat}(hd:0<c.p.aa.length):∀m i,¬gR c kind frm i m<0->∃k:Nat,gR c kind frm i m=k/\k<c.p.aa.length/\(bP c k).kind=kind/\kH c k
 |0,i,h=>J3 (show gR c kind frm i 0<0 by rw[gR];omega) h
 |m+1,i,h=>by
  rw[gR]at h ⊢;split
  .rename_i h1;exact⟨_,rfl,Xf _ hd,h1⟩
  .rename_i h1;rw[J1 h1]at h;exact x8 hd m (i+1) h
theorem rest_mk(hc:Ry c R)(hg:GMk c R n (aB c n))(h0:0<env.length)(he:∀b∈env,eV c.p R b.ty/\nQ c.p b.ty)(hk:sf c.p R (n+1) t depth)(hd0:0<depth)(ht:nQ c.p t){k:Int}(hx:0<=x):Mk c t env s.bj (ow c (aB c n) t env k x depth s).1 (ow c (aB c n) t env k x depth s).2.bj:=by
 have hR2:=hc.gen.R2;have wt:eV c.p R t:=by
  rcases hk with h|h
  .omega
  .exact h.2.1
 have wb:eV c.p R qE:=by refine b9 hR2 ?_;rw[eV];exact .inr (.inl rfl)
 have w0:eV c.p R bQ:=b9 hR2 (BQ c.p 1);have any:∀{u:Ty} {j:Int},eV c.p R u->1<=j->sf c.p R n u (depth-j):=λhu hj=>hk.any hd0 hu hj;have op:=opG_mk (s:=s) hc hg h0 he hk hd0 ht hx;unfold ow;split
 .exact Mk.Ke (hg qE env (depth-1) s h0 he (any wb Q0) (.inr (.inl rfl))) (hg t env (depth-1) _ h0 he (any wt Q0) ht) (hg t env (depth-1) _ h0 he (any wt Q0) ht)
 split
 .have e:x.tmod (env.length:Int)=x % (env.length:Int):=SL Q0;have h1:=Uw x (show(env.length:Int)≠0 by omega);have h2:=T5 x (show(0:Int)<env.length by omega);have hu:eV c.p R (jL env x).ty/\nQ c.p (jL env x).ty:=by
   unfold jL
   grind
  have hb:=hg t (env++[⟨(be 6 0 [] (aB c n (jL env x).ty env (depth-1) s).2).1.id,0,(jL env x).ty⟩]) (depth-1) (aM (be 6 0 [] (aB c n (jL env x).ty env (depth-1) s).2).2).2 KK;refine Mk.sF (u:=(jL env x).ty) (hg _ env (depth-1) s h0 he (any hu.1 Q0) hu.2) (hb (λb hb=>?_) (any wt Q0) ht)
  grind
 split
 .unfold jV;split
  .exact op
  .rename_i hm;obtain⟨q,hq,hlt,hkind,hvis⟩:=x8 (kind:=1) (frm:=x.toNat) hc.d0 c.p.aa.length 0 hm;rw[show Nw c 1 x.toNat=q from hq,SF];have hmem:bP c q∈c.p.aa:=by grind [ju,RQ]
   dsimp only;generalize bP c q=d at hkind hmem ⊢;have ha:=hg (mD d.id) env (depth-2) s h0 he (any (hc.gen.own d hmem (.inr hkind)) Q0) (.inr (.inr (.inr ⟨d,hmem,.inr hkind,rfl⟩)));obtain⟨Ts,hl,hl2,h1,h2,h3⟩:=vz hg (id:=(be 10 0 [] (aB c n (mD d.id) env (depth-2) s).2).1.id) (any wt (show(1:Int)<=1 by omega)) ht he d.ah 0 (be 10 0 [] (aB c n (mD d.id) env (depth-2) s).2).2 λu hu=>⟨hc.gen.DX d hmem u hu,hc.gs d hmem u hu⟩;refine(Mk.JM hmem hkind Ts hl hl2 ha h1 λi h=>?_).cast rfl rfl (by simp_all);have:=h3 i h;rw[Sz]at this;exact this
 split
 .unfold jX;split
  .rename_i q j hf;obtain⟨hlt,hkind,hvis,hj,hty⟩:=l6 hc.d0 _ _ hf;have hmem:bP c q∈c.p.aa:=by grind [ju,RQ]
   dsimp only;rw[<-hty];exact Mk.field hmem hkind hj (hg _ env (depth-1) s h0 he (any (hc.gen.own _ hmem (.inl hkind)) Q0) (.inr (.inr (.inr ⟨_,hmem,.inl hkind,rfl⟩))))
  .exact op
 split
 .unfold nR;split
  .rename_i q hf;obtain⟨_,hlt,hkind,hvis,hty⟩:=tm _ _ hf;rw[Sz]at hlt;have ed:=ju hlt;have hmem:c.p.aa[q]∈c.p.aa:=RQ hlt;dsimp only;rw[ed]at hkind hty ⊢;obtain⟨Ts,hl,h1,h2,h3⟩:=yr hg h0 he (d:=depth-1) (c.p.aa[q].ah.map aC.ty) s λu hu=>by obtain⟨y,hy,rfl⟩:=R3.1 hu;exact⟨any (hc.gen.DX _ hmem _ hy) Q0,hc.gs _ hmem _ hy⟩
   rw[Sa]at hl;refine(Mk.call hlt hkind hvis Ts hl h1 λi h=>?_).cast hty ?_ ?_
   .have:=h3 i h;simp_all
   .rw[h2];rfl
   .rw[h2];rfl
  .exact op
 split
 .have hb:=hg t (env++[⟨(be 12 0 [] (aB c n t env (depth-1) (aB c n (cb bQ) env (depth-1) s).2).2).1.id,0,bQ⟩]++[⟨(be 12 0 [] (aB c n t env (depth-1) (aB c n (cb bQ) env (depth-1) s).2).2).1.id,1,t⟩]) (depth-1) (aM (aM (be 12 0 [] (aB c n t env (depth-1) (aB c n (cb bQ) env (depth-1) s).2).2).2).2).2 KK;refine Mk.sU (hg _ env (depth-1) s h0 he (any (oa hR2) Q0) (.inr (.inr (.inl rfl)))) (hg t env (depth-1) _ h0 he (any wt Q0) ht) (hb (λb hb=>?_) (any wt Q0) ht);rcases RY.1 hb with hb|hb
  .rcases RY.1 hb with hb|hb
   .exact he b hb
   .rw[RZ.1 hb];exact⟨w0,.inl rfl⟩
  all_goals grind
 .exact op
theorem sY(hc:Ry c R):∀n,GMk c R n (aB c n)
 |0=>λt env depth s h0 he hk ht=>J3 hk.pos (ZO _)
 |n+1=>λt env depth s h0 he hk ht=>by
  have hg:=sY hc n;rw[yP];have hx:0<=(fW c 65536 s).1/\(fW c 65536 s).1<65536:=eO c.l s.pos 65536 Q0;have hd:=QH (s1:=(fW c 65536 s).2) hk;show Mk c t env (fW c 65536 s).2.bj _ _;generalize fW c 65536 s=y at hx hd ⊢;obtain⟨x,s1⟩:=y;dsimp only at hx hd ⊢;have d3:x.tdiv 3=x / 3:=T4 hx.1;have d36:x.tdiv 36=x / 36:=T4 hx.1;split
  .rename_i hv;have e:(x.tdiv 3).tmod ((fg env t).length:Int)=x.tdiv 3 % ((fg env t).length:Int):=SL Q0;have h1:=Uw (x.tdiv 3) (show((fg env t).length:Int)≠0 by omega);have h2:=T5 (x.tdiv 3) (show(0:Int)<(fg env t).length by omega);have hlt:(x.tdiv 3 % ((fg env t).length:Int)).toNat<(fg env t).length:=Q0;rw[e,S9,R5 hlt];have hm:=RQ hlt;have hty:(fg env t)[(x.tdiv 3 % ((fg env t).length:Int)).toNat].ty=t:=by have:=(Sp.1 hm).2;simpa using this
   exact(Mk.var (fit_mem hm)).cast hty rfl rfl
  grind [JW,rest_mk]
end
theorem cp{m m':Int}(h:m<=m'):∀{e:Ex},AV m e->AV m' e
 |.mk i k n r t l s,hb=>by rw[AV]at hb ⊢;refine⟨Q0,λhk=>by omega,?_⟩;exact go l hb.2.2
 where go:∀l:List Ex,sL m l->sL m' l
 |[],_=>by rw[sL];trivial
 |e::es,hb=>by rw[sL]at hb ⊢;exact⟨cp h hb.1,go es hb.2⟩
theorem Kc{m:Int}:∀{l:List Ex},(∀e∈l,AV m e)->sL m l
 |[],_=>by rw[sL];trivial
 |e::es,h=>by rw[sL];exact⟨h e (RG ..),Kc λx hx=>h x (RM _ hx)⟩
theorem dW{Ts:Nat->Int}:∀(n:Nat),(∀i,i<n->Ts i<Ts (i+1))->∀i,i<=n->Ts 0<=Ts i/\Ts i<=Ts n
 |0,_,i,hi=>by
  grind
 |n+1,h,i,hi=>by
  have h1:=h n Q0;by_cases e:i=n+1
  .subst e;have:=dW n (λj hj=>h j Q0) n Q0;omega
  .have:=dW n (λj hj=>h j Q0) i Q0;exact⟨this.1,Q0⟩
section
variable {c:fE} {t:Ty} {env:List cg} {T T':Int} {e:Ex}
theorem Mk.lt(h:Mk c t env T e T'):T<T':=by
 induction h with
 |int _=>omega
 |bool _=>omega
 |var _=>omega
 |rj Ts _ h0 _ ih=>have:=(dW (Ts:=Ts) _ (λi hi=>ih i hi) _ (Sc _)).1;omega
 |oW _ _ _ _ ih=>omega
 |rV _ _ Ts _ h0 _ ih=>have:=(dW (Ts:=Ts) _ (λi hi=>ih i hi) _ (Sc _)).1;omega
 |len _ ih=>omega
 |not _ ih=>omega
 |tp _ _ _ ih1 ih2=>omega
 |Ke _ _ _ ih1 ih2 ih3=>omega
 |sF _ _ ih1 ih2=>omega
 |sU _ _ _ ih1 ih2 ih3=>omega
 |JM _ _ Ts _ _ _ h0 _ ih1 ih=>have:=(dW (Ts:=Ts) _ (λi hi=>ih i hi) _ (Sc _)).1;omega
 |field _ _ _ _ ih=>omega
 |call _ _ _ Ts _ h0 _ ih=>have:=(dW (Ts:=Ts) _ (λi hi=>ih i hi) _ (Sc _)).1;omega
def Low(env:List cg)(T:Int):Prop:=∀b∈env,b.id.seq=0->0<=b.id.index/\b.id.index<T
theorem Low.mono{T1:Int}(h:Low env T)(hT:T<=T1):Low env T1:=λb hb hs=>by have:=h b hb hs;omega
theorem Low.add{T1:Int}(h:Low env T)(hT:T<=T1)(h0:0<=T1){k:Int}{u:Ty}{S:Int}(hS:T1+1<=S):Low (env++[⟨⟨0,0,T1⟩,k,u⟩]) S:=λb hb hs=>by
 rcases RY.1 hb with hb|hb
 .have:=h b hb hs;omega
 all_goals grind
theorem dB{m k n:Int}{l:List Ex}{T:Int}{r:av}{u:Ty}{ns:List ByteArray}(hT:0<=T/\T<m)(hr:k=2->r.seq=0->0<=r.index/\r.index<m)(hl:∀e∈l,AV m e):AV m (.mk ⟨0,0,T⟩ k n r u l ns):=by
 grind [AV,Kc]
theorem Mk.AV(h:Mk c t env T e T'):0<=T->Low env T->AV T' e:=by
 induction h with
 |int _=>exact λh0 _=>dB (k:=0) (l:=[]) ⟨h0,Q0⟩ (λh=>J3 h Q1) (λ_ h=>by cases h)
 |bool _=>exact λh0 _=>dB (k:=1) (l:=[]) ⟨h0,Q0⟩ (λh=>J3 h Q1) (λ_ h=>by cases h)
 |var hb=>exact λh0 hl=>dB (k:=2) (l:=[]) ⟨h0,Q0⟩ (λ_ hs=>by have:=hl _ hb hs;omega) (λ_ h=>by cases h)
 |@rj env T kids Ts _ h0 hm ih=>intro h1 hl;have st:=dW (Ts:=Ts) _ (λi hi=>(hm i hi).lt);have:=(st _ (Sc _)).1;refine dB (k:=11) (l:=kids) ⟨Q0,Q0⟩ (λh=>J3 h Q1) λx hx=>?_;obtain⟨i,hi,rfl⟩:=R8.1 hx;have h2:=st i Q0;have h3:=st (i+1) Q0;exact cp Q0 (ih i hi Q0 (hl.mono Q0))
 |@oW env T T1 d k e _ _ _ hm ih=>intro h1 hl;have:=hm.lt;refine dB (k:=9) (l:=[e]) ⟨Q0,Q0⟩ (λh=>J3 h Q1) λx hx=>?_;rw[RZ.1 hx];exact cp Q0 (ih h1 hl)
 |@rV env T d kids _ _ Ts _ h0 hm ih=>intro h1 hl;have st:=dW (Ts:=Ts) _ (λi hi=>(hm i hi).lt);have:=(st _ (Sc _)).1;refine dB (k:=7) (l:=kids) ⟨Q0,Q0⟩ (λh=>J3 h Q1) λx hx=>?_;obtain⟨i,hi,rfl⟩:=R8.1 hx;have h2:=st i Q0;have h3:=st (i+1) Q0;exact cp Q0 (ih i hi Q0 (hl.mono Q0))
 |@len env T T1 a hm ih=>intro h1 hl;have:=hm.lt;refine dB (k:=4) (l:=[a]) ⟨Q0,Q0⟩ (λh=>J3 h Q1) λx hx=>?_;rw[RZ.1 hx];exact cp Q0 (ih h1 hl)
 |@not env T T1 a hm ih=>intro h1 hl;have:=hm.lt;refine dB (k:=4) (l:=[a]) ⟨Q0,Q0⟩ (λh=>J3 h Q1) λx hx=>?_;rw[RZ.1 hx];exact cp Q0 (ih h1 hl)
 |@tp t u env T T1 T2 n a b _ ha hb ih1 ih2 =>
  intro h1 hl;have:=ha.lt;have:=hb.lt;refine dB (k:=4) (l:=[a,b]) ⟨Q0,Q0⟩ (λh=>J3 h Q1) λx hx=>?_;simp only[RO,Sx,or_false]at hx;rcases hx with rfl|rfl
  .exact cp Q0 (ih1 h1 hl)
  .exact cp Q0 (ih2 Q0 (hl.mono Q0))
 |@Ke t env T T1 T2 T3 a b e ha hb he ih1 ih2 ih3 =>
  intro h1 hl;have:=ha.lt;have:=hb.lt;have:=he.lt;refine dB (k:=5) (l:=[a,b,e]) ⟨Q0,Q0⟩ (λh=>J3 h Q1) λx hx=>?_;simp only[RO,Sx,or_false]at hx;rcases hx with rfl|rfl|rfl
  .exact cp Q0 (ih1 h1 hl)
  .exact cp Q0 (ih2 Q0 (hl.mono Q0))
  .exact cp Q0 (ih3 Q0 (hl.mono Q0))
 |@sF t u env T T1 T2 a b m ha hb ih1 ih2 =>
  intro h1 hl;have:=ha.lt;have:=hb.lt;refine dB (k:=6) (l:=[a,b]) ⟨Q0,Q0⟩ (λh=>J3 h Q1) λx hx=>?_;simp only[RO,Sx,or_false]at hx;rcases hx with rfl|rfl
  .exact cp Q0 (ih1 h1 hl)
  .exact cp Q0 (ih2 Q0 (hl.add Q0 Q0 Q0))
 |@sU t env T T1 T2 T3 a b e m m2 ha hb he ih1 ih2 ih3 =>
  intro h1 hl;have:=ha.lt;have:=hb.lt;have:=he.lt;refine dB (k:=12) (l:=[a,b,e]) ⟨Q0,Q0⟩ (λh=>J3 h Q1) λx hx=>?_;simp only[RO,Sx,or_false]at hx;rcases hx with rfl|rfl|rfl
  .exact cp Q0 (ih1 h1 hl)
  .exact cp Q0 (ih2 Q0 (hl.mono Q0))
  .refine cp Q0 (ih3 Q0 ?_);refine λb hb hs=>?_;rcases RY.1 hb with hb|hb
   .exact(hl.add Q0 Q0 (SM _)) b hb hs
   .rw[RZ.1 hb];exact⟨show 0<=T2 by omega,show T2<T2+1 by omega⟩
 |@JM t env T T1 d a kids ms _ _ Ts _ _ ha h0 hm ih1 ih =>
  intro h1 hl;have:=ha.lt;have st:=dW (Ts:=Ts) _ (λi hi=>(hm i hi).lt);have:=(st _ (Sc _)).1;refine dB (k:=10) (l:=a::kids) ⟨Q0,Q0⟩ (λh=>J3 h Q1) λx hx=>?_;rcases RO.1 hx with rfl|hx
  .exact cp Q0 (ih1 h1 hl)
  .obtain⟨i,hi,rfl⟩:=R8.1 hx;have h2:=st i Q0;have h3:=st (i+1) Q0;exact cp Q0 (ih i hi Q0 (hl.add Q0 Q0 Q0))
 |@field env T T1 d j a _ _ _ hm ih=>intro h1 hl;have:=hm.lt;refine dB (k:=8) (l:=[a]) ⟨Q0,Q0⟩ (λh=>J3 h Q1) λx hx=>?_;rw[RZ.1 hx];exact cp Q0 (ih h1 hl)
 |@call env T k kids _ _ _ Ts _ h0 hm ih=>intro h1 hl;have st:=dW (Ts:=Ts) _ (λi hi=>(hm i hi).lt);have:=(st _ (Sc _)).1;refine dB (k:=3) (l:=kids) ⟨Q0,Q0⟩ (λh=>J3 h Q1) λx hx=>?_;obtain⟨i,hi,rfl⟩:=R8.1 hx;have h2:=st i Q0;have h3:=st (i+1) Q0;exact cp Q0 (ih i hi Q0 (hl.mono Q0))
end
theorem Ff{m:Int}:∀{e:Ex},AV m e->∀x∈e.post,0<=x/\x<m
 |.mk i k n r t l s,h,x,hx=>by
  rw[AV]at h;rw[Ex.post]at hx;rcases RY.1 hx with hx|hx
  .exact go l h.2.2 x hx
  all_goals grind
 where go:∀l:List Ex,sL m l->∀x∈Ex.cV l,0<=x/\x<m
 |[],_,x,hx=>by rw[Ex.cV]at hx;cases hx
 |e::es,h,x,hx=>by
  rw[sL]at h;rw[Ex.cV]at hx;rcases RY.1 hx with hx|hx
  .exact Ff h.1 x hx
  .exact go es h.2 x hx
def bR(d:an):List cg:=d.ah.map λx=>⟨x.id,0,x.ty⟩
def fE.with(c:fE)(d:an)(e:Ex):fE:=⟨⟨c.p.aw,c.p.aa.set c.own.toNat (d.bH e)⟩,c.l,c.own,c.ka⟩
def fQ(c:fE)(d:an)(s:b6):Ex×b6 :=
 if 30<(aB c 9 d.aq (bR d) 4 s).1.size then aB (c.with d (aB c 9 d.aq (bR d) 4 s).1) 9 d.aq (bR d) 0 ⟨(aB c 9 d.aq (bR d) 4 s).2.pos,(aB c 9 d.aq (bR d) 4 s).2.bj,0,(aB c 9 d.aq (bR d) 4 s).2.name⟩ else aB c 9 d.aq (bR d) 4 s
def bare(d:an):Prop:=d.kind=0\/d.kind=1
instance (d:an):Decidable (bare d):=by unfold bare;exact inferInstance
def bu(ms:List aO)(l:List Int):Nat->Nat->List an->b6->List an×b6
 |0,_,ds,s=>(ds,s)
 |m+1,i,ds,s=>if bare (ds.getD i l7) then bu ms l m (i+1) ds s
  else bu ms l m (i+1) (ds.set i ((ds.getD i l7).bH (fQ ⟨⟨ms,ds⟩,l,i,(ds.getD i l7).mod⟩ (ds.getD i l7) ⟨s.pos,s.bj,14,0⟩).1)) (fQ ⟨⟨ms,ds⟩,l,i,(ds.getD i l7).mod⟩ (ds.getD i l7) ⟨s.pos,s.bj,14,0⟩).2
def bE:List av->List Int->Int->List av
 |ids,[],_=>ids
 |ids,k::ks,nx=>bE (ids.set k.toNat (fA nx)) ks (nx+1)
theorem jf:∀(ids:List av) (ks:List Int) (nx:Int),(bE ids ks nx).length=ids.length
 |ids,[],_=>rfl
 |ids,k::ks,nx=>by rw[bE,jf,List.length_set]
theorem qn:∀(ids:List av) (a b:List Int) (nx:Int),bE ids (a++b) nx=bE (bE ids a nx) b (nx+a.length)
 |ids,[],b,nx=>by simp[bE]
 |ids,k::a,b,nx=>by rw[SA,bE,bE,qn,RU,show nx+1+(a.length:Int)=nx+((a.length+1:Nat):Int) by omega]
def dv:Nat->Nat->List an->List av->Int->List an
 |0,_,ds,_,_=>ds
 |m+1,i,ds,ids,nx=>if bare (ds.getD i l7) then dv m (i+1) ds ids nx
  else dv m (i+1) (ds.set i ((ds.getD i l7).bH (b8 (bE ids (ds.getD i l7).body.post nx) (ds.getD i l7).body))) (bE ids (ds.getD i l7).body.post nx) (nx+(ds.getD i l7).body.post.length)
def eQ(l:List Int):List an×b6:=bu (bU l) l (aX l).length 0 (aX l) ⟨24,0,0,0⟩
def aK(l:List Int):au:=⟨bU l,dv (aX l).length 0 (eQ l).1 (Sj (eQ l).2.bj.toNat kx) (ig l)⟩
structure ja(p:au):Prop where
 inj:∀i j (hi:i<p.aa.length) (hj:j<p.aa.length),p.aa[i].id=p.aa[j].id->i=j
 gs:∀d∈p.aa,∀s∈d.ah,nQ p s.ty
 gr:∀d∈p.aa,nQ p d.aq
 kd:∀d∈p.aa,0<=d.kind/\d.kind<=5
theorem ja.mY{p:au}(h:ja p){d:an}(hd:d∈p.aa):al p d.id=d:=by obtain⟨k,hk,rfl⟩:=R8.1 hd;exact(kN hk (λj hj hlt e=>by grind [h.inj]) rfl).2
theorem sS{ms ns:List aO}{a b:List an}(h:cU a b){t:Ty}(ht:nQ ⟨ns,b⟩ t):nQ ⟨ms,a⟩ t:=by
 rcases ht with ht|ht|ht|⟨d,hd,hk,ht⟩
 .exact .inl ht
 .exact .inr (.inl ht)
 .exact .inr (.inr (.inl ht))
 .have h':cU b a:=h.symm;obtain⟨e,he,hs⟩:=h'.mem hd;have:=bX hs;exact .inr (.inr (.inr ⟨e,he,Q0,by grind⟩))
theorem ja.mG{ms ns:List aO}{a b:List an}(hb:ja ⟨ns,b⟩)(h:cU a b):ja ⟨ms,a⟩:=by
 have get:∀d∈a,∃e∈b,d.id=e.id/\d.kind=e.kind/\d.ah=e.ah/\d.aq=e.aq:=λd hd=>by
  obtain⟨e,he,hs⟩:=h.mem hd;have:=bX hs
  grind
 have hl:=h.len;refine⟨λi j hi hj e=>?_,λd hd s hs=>?_,λd hd=>?_,λd hd=>?_⟩
 .have hi':i<b.length:=by grind
  have hj':j<b.length:=by grind
  have e1:=(bX (h.get hi hi')).1;have e2:=(bX (h.get hj hj')).1;exact hb.inj i j hi' hj' (by grind)
 all_goals obtain⟨e,he,h1,h2,h3,h4⟩:=get d hd
 .rw[h3]at hs;exact sS h (hb.gs e he s hs)
 .rw[h4];exact sS h (hb.gr e he)
 .rw[h2];exact hb.kd e he
theorem kj.gctx{c:fE}{R:Nat}(hb:kj c.p R)(hn:ja c.p):Ry c R :=
 ⟨hb.gen,hb.d0,λ_ hd=>hn.mY hd,hn.gs,hn.gr⟩
theorem ui(l:List Int):ja ⟨bU l,aX l⟩:=by
 have hn:1<=ay l:=by grind [dw]
 unfold aX;generalize hps:cx l=ps;have hok:∀p∈ps,jq l (ay l) p:=by rw[<-hps];exact jD hn
 have hlen:=eK l (ay l);unfold cx at hps;rw[hps]at hlen;generalize ay l+(ps.length:Int)=next
 generalize bU l=ms;have hdl:=cG ps (ay l) next
 have own:∀{k:Int} {j:Nat},k=ay l+j->∀hj:j<ps.length,(ps[j].kind=0\/ps[j].kind=1)->nQ ⟨ms,bx ps (ay l) next⟩ (cq k):=fun{k j} hkj hj hk=>by
  refine .inr (.inr (.inr ⟨(bx ps (ay l) next)[j]'Q0,RQ _,?_,?_⟩))
  .rw[dT ps _ _ hj];exact hk
  .rw[dT ps _ _ hj,hkj];rfl
 have g0:nQ ⟨ms,bx ps (ay l) next⟩ (cq (ay l)):=own (j:=0) Q0 Q0 (by subst hps;exact .inl rfl);have g1:nQ ⟨ms,bx ps (ay l) next⟩ (cq (ay l+1)):=own (j:=1) Q0 Q0 (by subst hps;exact .inr rfl);have g23:cn l=true->nQ ⟨ms,bx ps (ay l) next⟩ (cq (ay l+2))/\nQ ⟨ms,bx ps (ay l) next⟩ (cq (ay l+3)):=λhf=>by
  have h2:2<ps.length:=Q0;have h3:3<ps.length:=Q0;have ep2:ps[2]=fK l (ay l):=by
   have:ps[2]?=some (fK l (ay l)):=by rw[<-hps];unfold bw fw eZ;rw[J2 hf];rfl
   grind
  have ep3:ps[3]=lD (ay l):=by
   have:ps[3]?=some (lD (ay l)):=by rw[<-hps];unfold bw fw eZ;rw[J2 hf];rfl
   grind
  exact⟨own (j:=2) Q0 h2 (by rw[ep2];exact .inl rfl),own (j:=3) Q0 h3 (by rw[ep3];exact .inl rfl)⟩
 have all:∀t,mT l (ay l) t->nQ ⟨ms,bx ps (ay l) next⟩ t:=λt h=>by
  rcases h with h|h|h|h|h|⟨hf,h|h⟩
  .exact .inl h
  .exact .inr (.inl h)
  .exact .inr (.inr (.inl h))
  all_goals grind
 have get:∀d∈bx ps (ay l) next,∃j,∃hj:j<ps.length,d=jR ps[j] (ay l+j) (next+dQ (ps.take j)):=λd hd=>by
  grind [R8,dT]
 refine⟨λi j hi hj e=>?_,λd hd s hs=>?_,λd hd=>?_,λd hd=>?_⟩
 .have hi':i<ps.length:=by grind
  have hj':j<ps.length:=by grind
  have e':fA (ay l+i)=fA (ay l+j):=by
   have h1:=dT ps (ay l) next hi' hi
   have h2:=dT ps (ay l) next hj' hj
   dsimp only at e;rw[h1,h2]at e;exact e
  grind [Nat.lt_trichotomy,uy]
 all_goals obtain⟨j,hj,rfl⟩:=get d hd
 all_goals have ok:=hok _ (RQ hj)
 .exact all _ (ok.tys _ (fa hs)).up
 .exact all _ ok.res
 .exact ok.kind
theorem qJ(l:List Int):∀d∈aX l,∀s∈d.ah,s.id.seq≠0:=by
 intro d hd s hs;have hn:1<=ay l:=by grind [dw]
 obtain⟨j,hj,rfl⟩:=R8.1 hd;unfold aX at hs hj
 grind [dT,cG,jR,cO,fA]
theorem GI{a b:List an}(h:cU a b)(hb:∀d∈b,∀s∈d.ah,s.id.seq≠0):∀d∈a,∀s∈d.ah,s.id.seq≠0:=λd hd s hs=>by obtain⟨e,he,hse⟩:=h.mem hd;rw[(bX hse).2.2.2.2.1]at hs;exact hb e he s hs
theorem uX{Ts:Nat->Int}:∀(l:List Ex) (k:Nat),(∀i (h:i<l.length),(l[i].size:Int)+Ts (k+i)<=Ts (k+i+1))->(Ex.ba l:Int)+Ts k<=Ts (k+l.length)
 |[],k,_=>by simp[Ex.ba]
 |e::l,k,h=>by
  have h0:=h 0 Q2;have h1:=uX l (k+1) λi hi=>by have:=h (i+1) (by grind);rw[show k+1+i=k+(i+1) by omega];exact this
  grind [Ex.ba,RU]
theorem Mk.size{c:fE}{t:Ty}{env:List cg}{T T':Int}{e:Ex}(h:Mk c t env T e T'):(e.size:Int)+T<=T':=by
 have row:∀{l:List Ex} {Ts:Nat->Int},(∀i (h:i<l.length),(l[i].size:Int)+Ts i<=Ts (i+1))->(Ex.ba l:Int)+Ts 0<=Ts l.length:=fun{l Ts} h=>by
  have:=uX (Ts:=Ts) l 0 λi hi=>by grind
  grind
 induction h with
 |int _=>rw[Ex.cf];show((1+0:Nat):Int)+_<=_;omega
 |bool _=>rw[Ex.cf];show((1+0:Nat):Int)+_<=_;omega
 |var _=>rw[Ex.cf];show((1+0:Nat):Int)+_<=_;omega
 |@rj env T kids Ts _ h0 _ ih=>rw[Ex.cf];have:=row ih;show((1+Ex.ba kids:Nat):Int)+_<=_;omega
 |@oW env T T1 d k e _ _ _ hm ih=>rw[Ex.cf];show((1+(e.size+0):Nat):Int)+_<=_;omega
 |@rV env T d kids _ _ Ts _ h0 hm ih=>rw[Ex.cf];have:=row ih;show((1+Ex.ba kids:Nat):Int)+_<=_;omega
 |@len env T T1 a hm ih=>rw[Ex.cf];show((1+(a.size+0):Nat):Int)+_<=_;omega
 |@not env T T1 a hm ih=>rw[Ex.cf];show((1+(a.size+0):Nat):Int)+_<=_;omega
 |@tp t u env T T1 T2 n a b _ ha hb ih1 ih2=>rw[Ex.cf];show((1+(a.size+(b.size+0)):Nat):Int)+_<=_;omega
 |@Ke t env T T1 T2 T3 a b e ha hb he ih1 ih2 ih3=>rw[Ex.cf];show((1+(a.size+(b.size+(e.size+0))):Nat):Int)+_<=_;omega
 |@sF t u env T T1 T2 a b m ha hb ih1 ih2=>rw[Ex.cf];show((1+(a.size+(b.size+0)):Nat):Int)+_<=_;omega
 |@sU t env T T1 T2 T3 a b e m m2 ha hb he ih1 ih2 ih3=>rw[Ex.cf];show((1+(a.size+(b.size+(e.size+0))):Nat):Int)+_<=_;omega
 |@JM t env T T1 d a kids ms _ _ Ts _ _ ha h0 hm ih1 ih=>rw[Ex.cf];have:=row ih;show((1+(a.size+Ex.ba kids):Nat):Int)+_<=_;omega
 |@field env T T1 d j a _ _ _ hm ih=>rw[Ex.cf];show((1+(a.size+0):Nat):Int)+_<=_;omega
 |@call env T k kids _ _ _ Ts _ h0 hm ih=>rw[Ex.cf];have:=row ih;show((1+Ex.ba kids:Nat):Int)+_<=_;omega
def Us(P:Int)(s:b6):Prop:=0<=s.pos/\s.pos<=P/\0<=s.bj/\s.bj<=P/\-P<=s.left/\s.left<=1099511627776/\0<=s.name/\s.name<=P
theorem Us.bd{P B:Int}{s:b6}(h:Us P s)(hP:P+B<=1099511627776):Bd B s:=by grind [Us,Bd]
theorem Gy{g:GX}{q P:Int}(hg:Iy q g)(_:0<=q){t:Ty}{env:List cg}{d:Int}{s:b6}(h:Us P s)(hP:P+q<=1099511627776):Us (P+q) (g t env d s).2:=by
 have:=hg t env d s (1099511627776-P-q) Q0 (h.bd Q0)
 grind [Us,Bd]
theorem uF(d:an):(bR d).length=d.ah.length:=by simp[bR]
theorem kA{d:an}{b:cg}(h:b∈bR d):∃s∈d.ah,b=⟨s.id,0,s.ty⟩:=by obtain⟨s,hs,rfl⟩:=R3.1 h;exact⟨s,hs,rfl⟩
theorem O8{p:au}{t:Ty}(h:eV p 5 t):sf p 5 9 t 4:=.inr ⟨Q0,h,Q0⟩
theorem O9{p:au}{t:Ty}(h:eV p 5 t):sf p 5 9 t 0:=.inl ⟨Q0,b9 Q0 h⟩
theorem Mk.mG{c c':fE}(hl:cU c.p.aa c'.p.aa)(hm:c.p.aw=c'.p.aw)(ho:c.own=c'.own)(hh:c.ka=c'.ka){t:Ty}{env:List cg}{T T':Int}{e:Ex}(h:Mk c t env T e T'):Mk c' t env T e T':=by
 have get:∀d∈c.p.aa,∃d'∈c'.p.aa,d'.id=d.id/\d'.kind=d.kind/\d'.ah=d.ah:=λd hd=>by
  obtain⟨d',hd',hs⟩:=hl.mem hd;have:=bX hs
  grind
 induction h with
 |int h=>exact Mk.int h
 |bool h=>exact Mk.bool h
 |var h=>exact Mk.var h
 |rj Ts hl h0 _ ih=>exact Mk.rj Ts hl h0 ih
 |oW hd hk h _ ih=>obtain⟨d',hd',e1,e2,e3⟩:=get _ hd;have:=Mk.oW hd' Q0 (by rw[e3];exact h) (by rw[VN e3];exact ih);rwa [e1]at this
 |rV hd hk Ts hn h0 _ ih =>
  obtain⟨d',hd',e1,e2,e3⟩:=get _ hd;have:=Mk.rV hd' Q0 Ts (by rw[e3];exact hn) h0 λi hi=>by rw[VN e3];exact ih i hi
  rwa [e1]at this
 |len _ ih=>exact Mk.len ih
 |not _ ih=>exact Mk.not ih
 |tp h _ _ ih1 ih2=>exact Mk.tp h ih1 ih2
 |Ke _ _ _ ih1 ih2 ih3=>exact Mk.Ke ih1 ih2 ih3
 |sF _ _ ih1 ih2=>exact Mk.sF ih1 ih2
 |sU _ _ _ ih1 ih2 ih3=>exact Mk.sU ih1 ih2 ih3
 |JM hd hk Ts hn hms _ h0 _ ih1 ih =>
  obtain⟨d',hd',e1,e2,e3⟩:=get _ hd;have:=Mk.JM hd' Q0 Ts (by rw[e3];exact hn) (by rw[e3];exact hms) (by rw[e1];exact ih1) h0 λi hi=>by rw[VN e3];exact ih i hi
  rwa [e1]at this
 |field hd hk h _ ih=>obtain⟨d',hd',e1,e2,e3⟩:=get _ hd;have:=Mk.field hd' Q0 (by rw[e3];exact h) (by rw[e1];exact ih);rwa [e1,VN e3]at this
 |@call env T k kids hd hk hv Ts hn h0 _ ih =>
  have hd':k<c'.p.aa.length:=by rw[<-hl.len];exact hd
  have e:=bX (hl.get hd hd');have hv':kH c' k:=by
   grind [kH,bP,Mo]
  have:=Mk.call (c:=c') (env:=env) (kids:=kids) hd' Q0 hv' Ts (by grind) h0 λi hi=>by grind
  rwa [<-e.1,<-e.2.2.2.2.2.1]at this
theorem KD{c:fE}{d:an}{s:b6}(hb:kj c.p 5)(hn:ja c.p){i:Nat}(hi:i<c.p.aa.length)(hd':c.p.aa[i]=d)(ho:c.own=i){P:Int}(hs:Us P s)(hP:P+2*9 ^ 9<=1000000000000) :
  Us (P+2*9 ^ 9) (fQ c d s).2/\∃T,s.bj<=T/\Mk c d.aq (bR d) T (fQ c d s).1 (fQ c d s).2.bj:=by
 have hd:d∈c.p.aa:=by grind
 have hg:=sY (hb.gctx hn) 9;have bd:=dD hb.gen.fJ 9;have h0:0<(bR d).length:=by rw[uF];exact hb.e0 d hd
 have he:∀b∈bR d,eV c.p 5 b.ty/\nQ c.p b.ty:=λb hb'=>by obtain⟨x,hx,rfl⟩:=kA hb';exact⟨hb.gen.DX d hd x hx,hn.gs d hd x hx⟩
 have h9:(9:Int) ^ 9=387420489:=Q1;have w:=hb.resA d hd;have m1:=hg d.aq (bR d) 4 s h0 he (O8 w) (hn.gr d hd);have u1:=Gy bd Q0 (t:=d.aq) (env:=bR d) (d:=4) hs Q0;unfold fQ;generalize aB c 9 d.aq (bR d) 4 s=r at m1 u1 ⊢;split
 .have hlk:cU (c.with d r.1).p.aa c.p.aa:=by show cU (c.p.aa.set c.own.toNat (d.bH r.1)) c.p.aa;rw[ho,SF,<-hd'];exact(cU.refl _).set hi r.1
  have hb2:kj (c.with d r.1).p 5:=kj.mG (ms:=c.p.aw) hb hlk;have hn2:ja (c.with d r.1).p:=ja.mG (ms:=c.p.aw) (ns:=c.p.aw) hn hlk;have u0:Us (P+9 ^ 9) ⟨r.2.pos,r.2.bj,0,r.2.name⟩:=by grind [Us]
  have m2:=sY (hb2.gctx hn2) 9 d.aq (bR d) 0 ⟨r.2.pos,r.2.bj,0,r.2.name⟩ h0 (λb hb'=>⟨hlk.wf (ms:=c.p.aw) (ns:=c.p.aw) _ _ (he b hb').1,sS (ms:=c.p.aw) (ns:=c.p.aw) hlk (he b hb').2⟩) (O9 (hlk.wf (ms:=c.p.aw) (ns:=c.p.aw) _ _ w)) (sS (ms:=c.p.aw) (ns:=c.p.aw) hlk (hn.gr d hd));have u2:=Gy (dD hb2.gen.fJ 9) Q0 (t:=d.aq) (env:=bR d) (d:=0) u0 Q0;exact⟨by grind,r.2.bj,by have:=m1.lt;omega,m2.mG hlk rfl rfl rfl⟩
 .exact⟨by grind [Us],s.bj,SM _,m1⟩
end Xe
