/- PmJ, PmK, PmL, PmLh, PmLi, PmM, PmN, PmO, PmP, PmPa, PmQ, PmMa, PmMb, PmR, put together. -/
import Derived.Test.YtmbboaapillefaaGreatDoorPb1
import Derived.Lib.AppendStr
import Derived.Maps.RangeRun
import Derived.Lib.SliceRun
import Derived.Laws.Cover3
import Derived.Lib.AppendZeros
open Array renaming toArray_toList->SY,toList_map->YW,getElem?_eq_some_iff->SQ
open Bool renaming and_eq_true->RP,or_eq_false_iff->W9
open Go renaming Program->RV,World->R0,Value->RK,TypeId->RX,Operand->R4,execOp->Sk,builtin->UF,run_underlying->R7,asIntOf->ZI,sizeOf->U1,typeInfo->US,maxLen->UI,madeCells->Xm,run_storeCells_at->ZK,grownCap->VP,run_firstCells_some->Zo,run_firstCells_none->Zp,Calls->UU,MapEntry->TJ
open Go.Addr renaming add_lit->ZL,add->WE
open Go.Builtin renaming lenOf->Uc,firstCells->TL,append_->S7,nextslicecap->X6,zeroCells->SX,clear_->YY
open Go.Instr renaming index->Xu,alloc->ZJ,sliceAt->V0,sureAddr->Tu,sliceBounds->SZ,slice->Uh,storeAt->Wa,findAsking->TD,findKey->Uj,findNow->Wr,sameNow->XX,keyThatStays->Yz,sameBits->XL,mapUpdate->XA,lookup->Vu,checkKey->U2
open Go.MapKept renaming run_getObj_map->Ws,run_setObj_map->XY
open Go.Oper renaming wp_mono->Xz,wp->WY,upon_value->Vt
open Go.Region renaming wanted->Tt
open Go.Result renaming andThen->UY,andThen_ok->Uy
open Go.Sem renaming run_bind->TP
open Go.Value renaming ownBlock->S1,int->To
open Go.Value.slice renaming injEq->Sm
open Iff renaming rfl->Ul
open Int renaming toNat_natCast->SF
open List renaming getElem?_cons_zero->SE,map_cons->Sb,eq_nil_of_length_eq_zero->Sq,getD_eq_getElem?_getD->S9,getElem?_eq_getElem->R5,length_take->Sn,length_drop->S3,getElem?_take->TE,getElem?_drop->TV,all_cons->Zw,mem_cons->RO,mem_cons_of_mem->RM,nodup_cons->SG,mem_map->R3,mem_filter->Sp,filter_sublist->TK,mem_cons_self->RG,length_nil->UB,flatten_nil->Y6,append_nil->RW,nil_append->Sv,length_flatten->Yx,sum_cons->T7,length_cons->RU,mem_map_of_mem->Ss,sublist_cons_self->Uv,take_of_length_le->Su,length_append->RS,any_eq_false->Wb,replicate->Sj,flatten_cons->U7,map_append->Si,map_map->SP,replicate_succ->Yy,filterMap_cons->Sr,append_assoc->R9,drop_append->WR,drop_take->W4,drop_zero->Te,take_append->Vg,take_take->VM,take_left->X3,drop_drop->TR,any_cons->Yi,Perm->Y5,nodup_append->Td,filter_eq_self->Uu,nodup_nil->Wc,mem_append->RY,flatMap_cons->RT,filter_append_perm->X7,find?_some->Zf,find?_eq_none->YM,mem_singleton->RZ,eq_nil_iff_forall_not_mem->Xw,drop_succ_cons->SV,drop_eq_nil_of_le->X9,take_succ_cons->SO
open List.Sublist renaming append->Xl
open List.cons renaming injEq->Tn
open Nat renaming eq_of_beq_eq_true->RD,mul_le_mul_right->SI,zero_add->Sz,add_mul->SK,one_mul->U4,beq->RN,le_add_right->SH,add_zero->S2,add_assoc->S8,add_comm->Un,le_mul_of_pos_right->UW,mul_add->XD,mul_one->UG,eq_zero_or_pos->YV,blt->Tw,le_refl->Sc,zero_le->Sy,zero_mul->Vb,sub_zero->VX,sub_mul->Wq,min_eq_left->Tf,pos_of_ne_zero->YX,lt_of_lt_of_le->YZ,ne_of_beq_eq_false->Yj,le_of_ble_eq_true->Tz
open Ne renaming symm->Xv
open Option renaming isSome_iff_exists->Ti,map_eq_some_iff->Tm,bind_some->U6
open Option.some renaming injEq->RE
open Prod renaming snd->Sg,fst->Sf
open Prod.mk renaming injEq->R6
open UInt8 renaming ofNat->ZH
namespace Pm
open Go Xe
section
variable {Is:Cx} {P:RV} {tb:Tb} {n:Nat} {w0:R0} {Γ0:List As} {fr:Fr} {ρ:Nat->Option RK} {M:Mem} {lst:List (Nat×As)} {a:Act} {w:R0} {fs fo:List Nat} {o:Out} {Q:Exit->Act->R0->Prop} {d:Nat} {ty:RX} {pos:String} {af:Array Edge} {g:Option (Nat×Bool)}
theorem br{x:R4}{s:S}(hs:s=su\/∃v,dN a x v/\SR M ρ s v)(h:s≠su):∃v,dN a x v/\SR M ρ s v:=hs.resolve_left h
theorem wN.get:∀{l:List S} {vs:List RK} {i:Nat} {s:S},wN M ρ l vs->l[i]?=some s->∃v,vs[i]?=some v/\SB M ρ s v
 |c::cs,u::us,0,_,h,hc=>by simp only[SE,RE]at hc;subst hc;exact⟨u,rfl,h.1⟩
 |_::cs,_::us,i+1,_,h,hc=>by
  obtain⟨u,h1,h2⟩:=wN.get (i:=i) h.2 (by simpa using hc)
  grind
 |[],[],_,_,_,hc=>by simp at hc
 |[],_::_,_,_,h,_=>h.elim
 |_::_,[],_,_,h,_=>h.elim
theorem SB.toSR{s:S}{v:RK}(h:SB M ρ s v):SR M ρ s v:=by
 cases s with
 |t l=>exact h.elim
 |c _=>exact h
 |a _ _=>exact h
 |g _=>exact h
 |r _ _ _=>exact h
variable (h1:a.tmps.size=n) (h2:a.defers=[]) (h:Rel w0 Γ0 fr ρ M lst (tv a) w) (hd:d<n)
theorem ok_un(h1:a.tmps.size=n)(h2:a.defers=[])(h:Rel w0 Γ0 fr ρ M lst (tv a) w)(hd:d<n){op:UnOp}{x:R4}{t:RX}(hr:R1 Is fr (cP x λa=>unP P op t a) fs fo o):(⟨some d,.unOp op t x,ty,pos,af,g⟩:Oper).wp P a w (aY n w0 Γ0 ρ M ((fr.bp (some d) o.v).aI o.ob)) Q:=by
 obtain⟨s,fs',hr,hs⟩:=bI h hr;unfold unP at hr;split at hr
 .obtain⟨z,e,hr⟩:=uJ hr;exact iU h1 h2 h hd rfl (aU hr) rfl (Y.not (er hs e).bq)
 .split at hr
  .obtain⟨z,e,hr⟩:=eL hr;exact iU h1 h2 h hd rfl (aU hr.2) rfl (Y.neg (er hs e).bq hr.1)
  .exact hr.elim
 .split at hr
  .rename_i k hk;obtain⟨z,e,hr⟩:=kR1 hr;refine qY h1 h2 h hd hr ?_;simp only[Sk,(er hs e).eval];cases hsg:k.signed <;> simp[Op.unary,hsg,intBits_xor]
  .exact hr.elim
 .exact hr.elim
theorem Hi(h1:a.tmps.size=n)(h2:a.defers=[])(h:Rel w0 Γ0 fr ρ M lst (tv a) w)(hd:d<n){x:R4}{i:Nat}(hr:R1 Is fr (cP x λs=>(match s with
   |.t l=>(match l[i]? with
    |some v=>cr v
    |none=>.no)
   |_=>.no)) fs fo o):(⟨some d,.extract x i,ty,pos,af,g⟩:Oper).wp P a w (aY n w0 Γ0 ρ M ((fr.bp (some d) o.v).aI o.ob)) Q:=by
 obtain⟨s,fs',hr,hs⟩:=bI h hr;split at hr
 .rename_i l;obtain⟨v,hv,vs,rfl,hvs⟩:=br hs (by unfold su;simp);split at hr
  .rename_i s' hi;obtain rfl:=aU hr;obtain⟨u,h3,h4⟩:=wN.get hvs hi;exact aS h1 h2 h rfl hd rfl rfl h4.toSR (Y.extract hv.bq h3)
  .exact hr.elim
 .exact hr.elim
theorem O2(h1:a.tmps.size=n)(h2:a.defers=[])(h:Rel w0 Γ0 fr ρ M lst (tv a) w)(hd:d<n){x:R4}{t i:Nat}(hr:R1 Is fr (cP x λs=>HW P t s i) fs fo o):(⟨some d,.fieldAddr t x i,ty,pos,af,g⟩:Oper).wp P a w (aY n w0 Γ0 ρ M ((fr.bp (some d) o.v).aI o.ob)) Q:=by
 obtain⟨s,fs',hr,hs⟩:=bI h hr;unfold HW at hr;split at hr
 .exact hr.elim
 .rename_i off ft hf;have hfB:=Fz hf;split at hr
  .rename_i m ds q;obtain rfl:=aU hr;obtain⟨v,hv,hl,ad,q',rfl,hseen⟩:=br hs (by unfold su;simp);exact aS h1 h2 h rfl hd rfl rfl ⟨hl,ad,q',by grind,hseen⟩ (Y.field hv.bq hfB)
  .obtain rfl:=aU hr;obtain⟨v,hv,k,hk,rfl⟩:=br hs (by unfold su;simp);exact aS h1 h2 h rfl hd rfl rfl ⟨k,hk,rfl⟩ (Y.field hv.bq hfB)
  .obtain rfl:=aU hr;obtain⟨v,hv,ad,m,c,hk,hkm,rfl⟩:=br hs (by unfold su;simp);exact aS h1 h2 h rfl hd rfl rfl ⟨ad,m,c,hk,hkm,by grind⟩ (Y.field hv.bq hfB)
  .obtain rfl:=aU hr;obtain⟨v,hv,k,hk,rfl⟩:=br hs (by unfold su;simp);exact aS h1 h2 h rfl hd rfl rfl ⟨k,hk,rfl⟩ (Y.field hv.bq hfB)
  .exact hr.elim
theorem I8{ad:Option Addr}{nn c sz:Nat}{cs:List D}(hv:Rd M (.sl nn sz cs) (.slice ad nn c)){k:Nat}(hk:k<nn):(el cs sz k).length=sz/\Rr M ad (k*sz) (el cs sz k)/\ad.isSome=true:=by
 have hv':=hv;simp only[Rd]at hv;obtain⟨ad',c',e,h2,_,h4,h5,h6,h7⟩:=hv;simp only[Sm]at e;obtain⟨rfl,_,rfl⟩:=e;refine⟨CX h5 hk,λi x hi=>?_,h6 Q0⟩;have hi':cs[k*sz+i]?=some x:=by
  unfold el at hi
  grind
 grind [po.get]
theorem Ju:∀(m j:Nat) {z:Int} {k:Nat->bn} {fs fo:List Nat} {o:Out},R1 Is fr (OF m j z k) fs fo o->∃i:Nat,z=i/\R1 Is fr (k i) fs fo o
 |0,_,_,_,_,_,_,h=>h.elim
 |m+1,j,z,k,fs,fo,o,h=>by
  rcases h with⟨h1,h2⟩|⟨_,h2⟩
  .grind
  .exact Ju m (j+1) h2
theorem mQ{t m e sz:Nat}(h:Dg P t=some (m,e,sz)):Ns P t m e sz=true/\0<sz/\m<=1000000:=by
 unfold Dg at h;unfold Ns;split at h
 .rename_i m' e' hu;split at h
  .rename_i sz' hs;split at h
   .rename_i hb;simp only[RP]at hb;simp only[RE,R6]at h;obtain⟨rfl,rfl,rfl⟩:=h
    first|rw[hu,fG hs,hb.2.1]|rw[fG hs,hb.2.1]
    simp_all
   .cases h
  .cases h
 .cases h
theorem KG{x:R4}{s:S}{k:Nat->Nat->bn}(hs:s=su\/∃v,dN a x v/\SR M ρ s v)(hr:R1 Is fr (KH s k) fs fo o):∃b q,R1 Is fr (k b q) fs fo o/\∃v,dN a x v/\∃kk,ρ b=some (ptr kk)/\v=.pointer (some (gd (some ⟨kk,0,none⟩) q)):=by
 unfold KH at hr;split at hr
 .rename_i b q;obtain⟨v,hv,k,hk,rfl⟩:=br hs (by unfold su;simp)
  grind
 .rename_i b q;obtain⟨v,hv,k,hk,rfl⟩:=br hs (by unfold su;simp)
  grind
 .exact hr.elim
theorem OX(h1:a.tmps.size=n)(h2:a.defers=[])(h:Rel w0 Γ0 fr ρ M lst (tv a) w)(hd:d<n){x i:R4}{t:Nat}(hr:R1 Is fr (cP x λs=>cP i λz=>HI P t s z) fs fo o):(⟨some d,.indexAddr t x i,ty,pos,af,g⟩:Oper).wp P a w (aY n w0 Γ0 ρ M ((fr.bp (some d) o.v).aI o.ob)) Q:=by
 obtain⟨s,fs1,hr,hs⟩:=bI h hr;obtain⟨si,fs2,hr,hsi⟩:=bI h hr;unfold HI at hr;split at hr
 .split at hr
  .rename_i m e sz hel;obtain⟨b,q,hr,v,hv,k,hk,rfl⟩:=KG hs hr;obtain⟨z,ez,hr⟩:=eL hr;have hz:=er hsi ez;obtain⟨hck,hr⟩:=hr;obtain rfl:=aU hr;exact aS h1 h2 h rfl hd rfl rfl ⟨k,hk,rfl⟩ (Y.Fc z.toNat hv.bq hz.bq Q0 Q0 (mQ hel).1)
  .exact hr.elim
 .rename_i e sz hel;have hsl:=dF hel;split at hr
  .rename_i y;obtain⟨z,ez,hr⟩:=eL hr;have hz:=er hsi ez;obtain⟨m,cs,rfl,hck,hr⟩:=hr;obtain rfl:=aU hr;obtain⟨v,hv,hrd⟩:=br hs (by unfold su;simp);have hrd':Rd M (.sl m sz cs) v:=hrd;obtain⟨ad,c,rfl,_⟩:=hrd'.slice;obtain⟨h3,h4,h5⟩:=I8 hrd' (k:=z.toNat) Q0;exact aS h1 h2 h rfl hd rfl rfl ⟨h3,ad,z.toNat*sz,by grind,h4⟩ (Y.index z.toNat hv.bq hz.bq Q0 Q0 hsl λ_ _=>h5)
  .rename_i b _;obtain⟨z,ez,hr⟩:=eL hr;have hz:=er hsi ez;obtain⟨v,hv,hb⟩:=br hs (by unfold su;simp);have hbv:ρ b=some v:=hb.1;change R1 Is fr (match bO (fr.ob b) with|some (.w _ sz' n _)=>_|some (.s _ _ _)=>_|some (.x _ sz' n _)=>_|some (.v _ sz' n _)=>_|_=>_) _ _ _ at hr;split at hr
   .rename_i e' sz' m _ hob;have hob:=Pz hob;split at hr
    .rename_i hbe;have e2:=RD hbe;subst e2;obtain⟨hck,hr⟩:=hr;obtain rfl:=aU hr;rcases hob with⟨ds,hob⟩|⟨ds,i',c',hob⟩
     rotate_left
     .obtain⟨ad,c,us,h3,h4,h5,h6,h7⟩:=h.ob b _ hob;rw[hbv]at h3;simp only[RE]at h3;subst h3;exact aS h1 h2 h rfl hd rfl rfl ⟨ad,m,c,hbv,Q0,by grind⟩ (Y.index z.toNat hv.bq hz.bq Q0 Q0 hsl λ_ _=>(zn h h4).2 Q0)
     obtain⟨ad,c,us,h3,h4,h5,h6,h7,h8,h9⟩:=pI h (sz:=sz') (n:=m) (ds:=ds) (s:=.c (.w b)) hb (.inr (.inr ⟨b,rfl,.inl ⟨e',hob⟩⟩));subst h3;exact aS h1 h2 h rfl hd rfl rfl ⟨ad,m,c,hbv,Q0,by grind⟩ (Y.index z.toNat hv.bq hz.bq Q0 Q0 hsl λ_ _=>h8 Q0)
    .exact hr.elim
   .change R1 Is fr (match fr.ob b with|some (.s sz' n ds)=>_|_=>_) _ _ _ at hr;split at hr
    .rename_i sz' m ds hob;split at hr
     .rename_i hbe;have e2:=RD hbe;subst e2;obtain⟨hck,hr⟩:=hr;obtain rfl:=aU hr;obtain⟨v',h3,h4⟩:=h.ob b _ hob;rw[hbv]at h3;simp only[RE]at h3;subst h3;obtain⟨ad,c,rfl,_⟩:=h4.slice;obtain⟨h5,h6,h7⟩:=I8 h4 (k:=z.toNat) Q0;exact aS h1 h2 h rfl hd rfl rfl ⟨h5,ad,z.toNat*sz',by grind,h6⟩ (Y.index z.toNat hv.bq hz.bq Q0 Q0 hsl λ_ _=>h7)
     .exact hr.elim
    .exact hr.elim
   .rename_i e' sz' m _ hob;obtain⟨ds,hob⟩:=Py hob;split at hr
    .rename_i hbe;have e2:=RD hbe;subst e2;obtain⟨hck,hr⟩:=hr;obtain rfl:=aU hr;obtain⟨ad,c,us,h3,h4,h5,h6,h7,h8,h9⟩:=pI h (sz:=sz') (n:=m) (ds:=ds) (s:=.c (.w b)) hb (.inr (.inr ⟨b,rfl,.inr (.inr ⟨e',hob⟩)⟩));subst h3;exact aS h1 h2 h rfl hd rfl rfl ⟨ad,m,c,hbv,Q0,by grind⟩ (Y.index z.toNat hv.bq hz.bq Q0 Q0 hsl λ_ _=>h8 Q0)
    .exact hr.elim
   .rename_i e' sz' m _ hob;obtain⟨cs,hob⟩:=PA hob;split at hr
    .rename_i hbe;have e2:=RD hbe;subst e2;obtain⟨hck,hr⟩:=hr;obtain⟨i',ei,hr⟩:=Ju m 0 hr;obtain rfl:=aU hr;obtain⟨ad,c,us,h3,h4,h5,h6,h7⟩:=h.ob b _ hob;rw[hbv]at h3;simp only[RE]at h3;subst h3;have h8:=(zn h h4).2;exact aS h1 h2 h rfl hd rfl rfl ⟨ad,m,c,hbv,Q0,by grind⟩ (Y.index i' hv.bq hz.bq Q0 Q0 hsl λ_ _=>h8 Q0)
    .exact hr.elim
   .exact hr.elim
  .rename_i b q sz' l m _;obtain⟨z,ez,hr⟩:=eL hr;have hz:=er hsi ez;obtain⟨v,hv,ad,c,rfl,hmc,hb⟩:=br hs (by unfold su;simp);split at hr
   .rename_i hbe;have e2:=RD hbe;subst e2;change R1 Is fr (match fr.ob b with|some (.w _ _ _ _)=>_|some (.x _ _ _ _)=>_|some (.a _ _ _)=>_|some (.b _ _)=>_|_=>_) _ _ _ at hr;have gx:∀k',ρ b=some (ptr k')->0<=z/\z<(m:Int)->∃k,ρ b=some (ptr k)/\ad=some (gd (some ⟨k,0,none⟩) (q+l*sz')):=λk' hk' hck=>by
     grind
    split at hr
    .rename_i e' s2 N' ds' hob;obtain⟨hck,hr⟩:=hr;obtain rfl:=aU hr;rcases hb with⟨k,hk,hb⟩|⟨a',N,C,hk,hq0,hl,hc,hb⟩
     .obtain⟨ad',c',us,h3,_⟩:=h.ob b _ hob;rw[hk]at h3;cases h3
     .have hb:=hb Q0;subst hb;refine aS h1 h2 h rfl hd rfl rfl ⟨a',N,C,hk,Q0,rfl⟩ ?_;have:=Y.index (P:=P) (w0:=w0) (L:=Lf a) (M:=M) (Γ:=lst.map Sg++Γ0) (d:=some d) (ty:=ty) (pos:=pos) (af:=af) (g:=g) z.toNat hv.bq hz.bq Q0 Q0 hsl λ_ _=>rfl;rw[<-lV]at this
      grind
    .rename_i e' s2 N' ds' hob;obtain⟨hck,hr⟩:=hr;obtain rfl:=aU hr;rcases hb with⟨k,hk,hb⟩|⟨a',N,C,hk,hq0,hl,hc,hb⟩
     .obtain⟨ad',c',us,h3,_⟩:=h.ob b _ hob;rw[hk]at h3;cases h3
     .have hb:=hb Q0;subst hb;refine aS h1 h2 h rfl hd rfl rfl ⟨a',N,C,hk,Q0,rfl⟩ ?_;have:=Y.index (P:=P) (w0:=w0) (L:=Lf a) (M:=M) (Γ:=lst.map Sg++Γ0) (d:=some d) (ty:=ty) (pos:=pos) (af:=af) (g:=g) z.toNat hv.bq hz.bq Q0 Q0 hsl λ_ _=>rfl;rw[<-lV]at this
      grind
    .rename_i e' N' ds' hob;obtain⟨hck,hr⟩:=hr;obtain rfl:=aU hr;obtain⟨k',us,h3,_⟩:=h.ob b _ hob;obtain⟨k,hk,rfl⟩:=gx k' h3 hck;refine aS h1 h2 h rfl hd rfl rfl ⟨k,hk,rfl⟩ ?_;have:=Y.index (P:=P) (w0:=w0) (L:=Lf a) (M:=M) (Γ:=lst.map Sg++Γ0) (d:=some d) (ty:=ty) (pos:=pos) (af:=af) (g:=g) z.toNat hv.bq hz.bq Q0 Q0 hsl λ_ _=>rfl;rw[<-lV]at this
     grind
    .rename_i e' cs' hob;obtain⟨hck,hr⟩:=hr;obtain rfl:=aU hr;obtain⟨k',us,h3,_⟩:=h.ob b _ hob;obtain⟨k,hk,rfl⟩:=gx k' h3 hck;refine aS h1 h2 h rfl hd rfl rfl ⟨k,hk,rfl⟩ ?_;have:=Y.index (P:=P) (w0:=w0) (L:=Lf a) (M:=M) (Γ:=lst.map Sg++Γ0) (d:=some d) (ty:=ty) (pos:=pos) (af:=af) (g:=g) z.toNat hv.bq hz.bq Q0 Q0 hsl λ_ _=>rfl;rw[<-lV]at this
     grind
    .exact hr.elim
   .exact hr.elim
  .exact hr.elim
theorem EF(h1:a.tmps.size=n)(h2:a.defers=[])(h:Rel w0 Γ0 fr ρ M lst (tv a) w)(hd:d<n){x:R4}(hr:R1 Is fr (cP x λs=>(match s with
   |.c (.p b o)=>cr (.c (.p b o))
   |.r n ds o=>cr (.r n ds o)
   |.c (.q b sz k j)=>cr (.c (.q b sz k j))
   |.c (.e b i)=>cr (.c (.e b i))
   |_=>.no)) fs fo o):(⟨some d,.nilCheck x,ty,pos,af,g⟩:Oper).wp P a w (aY n w0 Γ0 ρ M ((fr.bp (some d) o.v).aI o.ob)) Q:=by
 obtain⟨s,fs1,hr,hs⟩:=bI h hr;split at hr
 .obtain rfl:=aU hr;obtain⟨v,hv,k,hk,rfl⟩:=br hs (by unfold su;simp);exact aS h1 h2 h rfl hd rfl rfl ⟨k,hk,rfl⟩ (Y.nilCheck hv.bq)
 .obtain rfl:=aU hr;obtain⟨v,hv,hl,ad,q',rfl,hseen⟩:=br hs (by unfold su;simp);exact aS h1 h2 h rfl hd rfl rfl ⟨hl,ad,q',rfl,hseen⟩ (Y.nilCheck hv.bq)
 .obtain rfl:=aU hr;obtain⟨v,hv,ad,m,c,hk,hkm,rfl⟩:=br hs (by unfold su;simp);exact aS h1 h2 h rfl hd rfl rfl ⟨ad,m,c,hk,hkm,rfl⟩ (Y.nilCheck hv.bq)
 .obtain rfl:=aU hr;obtain⟨v,hv,k,hk,rfl⟩:=br hs (by unfold su;simp);exact aS h1 h2 h rfl hd rfl rfl ⟨k,hk,rfl⟩ (Y.nilCheck hv.bq)
 .exact hr.elim
theorem ok_len(h1:a.tmps.size=n)(h2:a.defers=[])(h:Rel w0 Γ0 fr ρ M lst (tv a) w)(hd:d<n){x:R4}{t:Nat}(hr:R1 Is fr (cP x λs=>lenP P t s) fs fo o):(⟨some d,.call ⟨.builtin .len,#[x],#[t]⟩,ty,pos,af,g⟩:Oper).wp P a w (aY n w0 Γ0 ρ M ((fr.bp (some d) o.v).aI o.ob)) Q:=by
 obtain⟨s,fs1,hr,hs⟩:=bI h hr;unfold lenP at hr;split at hr
 .rename_i e hu;split at hr
  .rename_i e' sz hel;have old:∀fo,R1 Is fr (Lj sz s λn _=>nk (n:Int)) fs1 fo o->(⟨some d,.call ⟨.builtin .len,#[x],#[t]⟩,ty,pos,af,g⟩:Oper).wp P a w (aY n w0 Γ0 ρ M ((fr.bp (some d) o.v).aI o.ob)) Q:=λfo hr=>by
    obtain⟨m,ds,fo',hr,hk⟩:=GM h hr;have hne:s≠su:=by rcases hk with rfl|⟨rfl,_⟩|⟨b,rfl,_⟩ <;> (unfold su;simp)
    obtain⟨v,hv,hs⟩:=br hs hne;obtain⟨ad,c,us,rfl,_⟩:=pI h hs hk;exact iU h1 h2 h hd rfl (aU hr) rfl (Y.len hv.bq hu)
   split at hr
   .rename_i b;change R1 Is fr (match bO (fr.ob b) with|some (.v _ sz' n _)=>_|some (.w _ sz' n _)=>_|some (.s sz' n _)=>_|some (.x _ sz' n _)=>_|_=>_) _ _ _ at hr;have row:∀{fo} {m:Nat} {ds:List D},R1 Is fr (nk (m:Int)) fs1 fo o->((∃e,fr.ob b=some (.w e sz m ds))\/fr.ob b=some (.s sz m ds)\/∃e,fr.ob b=some (.x e sz m ds))->(⟨some d,.call ⟨.builtin .len,#[x],#[t]⟩,ty,pos,af,g⟩:Oper).wp P a w (aY n w0 Γ0 ρ M ((fr.bp (some d) o.v).aI o.ob)) Q:=fun{_ _ _} hr hk=>by obtain⟨v,hv,hs⟩:=br hs (by unfold su;simp);obtain⟨ad,c,us,rfl,_⟩:=pI h hs (.inr (.inr ⟨b,rfl,hk⟩));exact iU h1 h2 h hd rfl (aU hr) rfl (Y.len hv.bq hu)
    split at hr
    .rename_i e2 sz' m _ hob;obtain⟨cs,hob⟩:=PA hob;split at hr
     .obtain⟨v,hv,hb⟩:=br hs (by unfold su;simp);obtain⟨ad,c,us,h3,_⟩:=h.ob b _ hob;have h4:ρ b=some v:=hb.1;rw[h3]at h4;simp only[RE]at h4;subst h4;exact iU h1 h2 h hd rfl (aU hr) rfl (Y.len hv.bq hu)
     .exact hr.elim
    .rename_i e2 sz' m _ hob;have hob:=Pz hob;split at hr
     .rename_i hbe;have e3:=RD hbe;subst e3;rcases hob with⟨ds,hob⟩|⟨ds,i',c',hob⟩
      .exact row hr (.inl ⟨_,hob⟩)
      .obtain⟨v,hv,hb⟩:=br hs (by unfold su;simp);obtain⟨ad,c,us,h3,_⟩:=h.ob b _ hob;have h4:ρ b=some v:=hb.1;rw[h3]at h4;simp only[RE]at h4;subst h4;exact iU h1 h2 h hd rfl (aU hr) rfl (Y.len hv.bq hu)
     .exact hr.elim
    .rename_i sz' m _ hob;obtain⟨ds,hob⟩:=meta_s hob;split at hr
     .grind [RD]
     .exact hr.elim
    .rename_i e2 sz' m _ hob;obtain⟨ds,hob⟩:=Py hob;split at hr
     .rename_i hbe;have e3:=RD hbe;subst e3;exact row hr (.inr (.inr ⟨_,hob⟩))
     .exact hr.elim
    .exact hr.elim
   .split at hr
    .obtain⟨v,hv,ad,c,rfl,_⟩:=br hs (by unfold su;simp);exact iU h1 h2 h hd rfl (aU hr) rfl (Y.len hv.bq hu)
    .exact hr.elim
   .exact old _ hr
  .exact hr.elim
 .rename_i hu;obtain⟨z,e,hr⟩:=nc hr;exact iU h1 h2 h hd rfl (aU hr) rfl (λn ac w ha _=>by simp[Sk,resolve,invoke,UF,Builtin.len_,ha.ev (er hs e).bq,R7 hu,goInt])
 .exact hr.elim
theorem yD:∀(zs:List Int) (r:ByteArray),zs.foldl (λr n=>r.push (ZH n.toNat)) r=⟨r.data++(zs.map λz=>ZH z.toNat).toArray⟩
 |[],r=>by simp
 |z::zs,r=>by rw[List.foldl_cons,yD zs,Sb];simp_all
theorem ok_conv(h1:a.tmps.size=n)(h2:a.defers=[])(h:Rel w0 Γ0 fr ρ M lst (tv a) w)(hd:d<n){s t:RX}{x:R4}(hr:R1 Is fr (cP x λa=>QO P s t a) fs fo o):(⟨some d,.convert s t x,ty,pos,af,g⟩:Oper).wp P a w (aY n w0 Γ0 ρ M ((fr.bp (some d) o.v).aI o.ob)) Q:=by
 obtain⟨sx,fs1,hr,hs⟩:=bI h hr;unfold QO at hr;split at hr
 .rename_i k k' hk hk';obtain⟨z,e1,hr⟩:=kR1 hr;exact qY h1 h2 h hd hr (by simp[Sk,(er hs e1).eval,Go.convert,R7 (nG hk),R7 (nG hk'),Conv.intToInt])
 .split at hr
  .rename_i ht;split at hr
   .rename_i e hsl;split at hr
    .rename_i he;obtain⟨m,ds,fo',hr,hk⟩:=GM h hr;obtain⟨zs,hb,hr⟩:=hr;have hne:sx≠su:=by rcases hk with rfl|⟨rfl,_⟩|⟨b,rfl,_⟩ <;> (unfold su;simp)
     obtain⟨v,hv,hs⟩:=br hs hne;obtain⟨ad,c,us,rfl,hc,hrd,hlen,hlim,hpos,hcell⟩:=pI h hs hk;obtain rfl:=jH hb;have hus:=p9 hrd;obtain rfl:=aU hr;refine bh h1 h2 rfl hd rfl (Sub.refl M) (Ext.refl ρ) h (v:=.string (strB zs)) (show Rd M (.v _) _ by unfold Rd;exact⟨rfl,rfl⟩) ?_;have r1:=run_convert_bytes_string (P:=P) w s t e ad m c hsl (nG he) ht;cases ad with
     |none =>
      have hm:m=0:=by
       grind
      have hz:zs=[]:=Sq (by grind);subst hz;simp only[Sk,hv.eval];simp only[TP,r1];simp[Conv.bytesToString,UY];rfl
     |some ad =>
      have hl:us.length=m:=Q0
      have r3:=run_loadCells_list (P:=P) w ad us (λj v hj=>by
       have:=hcell j v hj w h.st
       rwa [show gd (some ad) j=ad.add j from rfl]at this)
      rw[hl,hus]at r3;have r2:=run_bytesToString (P:=P) w ad m c zs r3;simp only[Sk,hv.eval];simp only[TP,r1,r2,UY];rw[yD];simp[strB]
    .exact hr.elim
   .rename_i hsl;obtain⟨z,e1,hr⟩:=nc hr;obtain rfl:=aU hr;exact bh h1 h2 rfl hd rfl (Sub.refl M) (Ext.refl ρ) h (v:=.string z) (show Rd M (.v _) _ by unfold Rd;exact⟨rfl,rfl⟩) (by simp[Sk,(er hs e1).eval,Go.convert,R7 hsl,R7 ht])
   .exact hr.elim
  .exact hr.elim
theorem L7{t:RX}(h:oneB P t=true):Gs P t=some 1:=by
 unfold oneB at h;split at h
 all_goals simp_all
theorem y7{s:ByteArray}{i:Nat}(h:i<s.size):∃b:UInt8,s[i]?=some b/\C7 s i=(b.toNat:Int):=by
 refine⟨s[i],by simp[h],?_⟩;unfold C7;have h':i<s.data.toList.length:=by simpa using h
 rw[S9,R5 h'];rfl
theorem FJ(L:Lm)(v:Nat):bq L (.global v)=some (.pointer (some (gd (some ⟨v,0,none⟩) 0))):=by rw[cy];rfl
theorem O0(hT:me P tb)(h1:a.tmps.size=n)(h2:a.defers=[])(h:Rel w0 Γ0 fr ρ M lst (tv a) w)(hd:d<n){t v:Nat}{i:R4}(hr:R1 Is fr (cP i λz=>HR P tb v t z) fs fo o):(⟨some d,.indexAddr t (.global v) i,ty,pos,af,g⟩:Oper).wp P a w (aY n w0 Γ0 ρ M ((fr.bp (some d) o.v).aI o.ob)) Q:=by
 obtain⟨si,fs1,hr,hsi⟩:=bI h hr;unfold HR at hr;split at hr
 .rename_i ds m e sz hg hel;split at hr
  .rename_i hlen;obtain⟨z,ez,hr⟩:=eL hr;have hz:=er hsi ez;obtain⟨hck,hr⟩:=hr;obtain rfl:=aU hr;obtain⟨us,h3,h4⟩:=hT.gl v ds hg M h.gr;have hl:=RD hlen;have hzs:z.toNat*sz+sz<=m*sz:=by
    have:(z.toNat+1)*sz<=m*sz:=SI _ Q0
    grind
   refine aS h1 h2 h rfl hd rfl rfl (v:=.pointer (some (gd (some ⟨v,0,none⟩) (0+z.toNat*sz)))) ⟨by unfold el;rw[Sn,S3];omega,some ⟨v,0,none⟩,0+z.toNat*sz,rfl,λj x hj=>?_⟩ (Y.Fc z.toNat (FJ _ _) hz.bq Q0 Q0 (mQ hel).1);have hj':ds[z.toNat*sz+j]?=some x:=by
    unfold el at hj
    grind
   obtain⟨u,hu1,hu2⟩:=bz.get h3 hj';exact⟨u,by rw[Sz];exact h4 _ u hu1,hu2⟩
  .exact hr.elim
 .exact hr.elim
theorem BK{t m:Nat}(h:Gl P t m=true):mz P t m=true:=by unfold Gl at h;simp only[RP]at h;exact h.2
theorem pJ{w:R0}{t m o:Nat}{us:List RK}(h:Gl P t m=true):(part t us.toArray o).run P w=.ok (.agg ((us.drop o).take m).toArray) w:=by have h1:(isAgg t).run P w=.ok true w:=(Eg h).1;unfold part;simp only[TP,h1,UY,if_true,ie (BK h)];simp_all
theorem oX(h1:a.tmps.size=n)(h2:a.defers=[])(h:Rel w0 Γ0 fr ρ M lst (tv a) w)(hd:d<n){t:RX}{x i:R4}{sx si:S}(hs:sx=su\/∃v,dN a x v/\SR M ρ sx v)(hsi:si=su\/∃v,dN a i v/\SR M ρ si v)(hr:R1 Is fr (pR P t sx si) fs fo o) :
  (⟨some d,.index t x i,ty,pos,af,g⟩:Oper).wp P a w (aY n w0 Γ0 ρ M ((fr.bp (some d) o.v).aI o.ob)) Q:=by
 unfold pR at hr;split at hr
 .rename_i hu;obtain⟨b,e1,hr⟩:=nc hr;obtain⟨z,e2,hr⟩:=eL hr;obtain⟨⟨hz0,hz1⟩,hr⟩:=hr;obtain⟨c,hc,hb⟩:=y7 (s:=b) (i:=z.toNat) Q0;rw[hb]at hr;exact qY h1 h2 h hd hr (by simp[Sk,(er hs e1).eval,(er hsi e2).eval,Xu,ZI,R7 hu,hz0,hc])
 .rename_i m e hu;split at hr
  .rename_i m' ds;split at hr
   .rename_i hb;simp only[RP]at hb;have em:=RD hb.1.1;subst em;obtain⟨z,e2,hr⟩:=eL hr;obtain⟨⟨hz0,hz1⟩,hr⟩:=hr;obtain⟨v,hv,hl,us,rfl,hrd⟩:=br hs (by unfold su;simp);obtain rfl:=aU hr;obtain⟨u,hu1,hu2⟩:=bz.get hrd (tl (ds:=ds) (i:=z.toNat) Q0);refine bh h1 h2 rfl hd rfl (Sub.refl M) (Ext.refl ρ) h (v:=u) hu2 ?_;have hp:(part e us.toArray z.toNat).run P w=.ok u w:=by unfold part;simp only[TP,xw hb.1.2,UY];simp[hu1]
    simp[Sk,hv.eval,(er hsi e2).eval,Xu,ZI,R7 hu,hz0,hz1,ie (fG (L7 hb.2)),hp]
   .exact hr.elim
  .exact hr.elim
 .exact hr.elim
theorem Mb(h1:a.tmps.size=n)(h2:a.defers=[])(h:Rel w0 Γ0 fr ρ M lst (tv a) w)(hd:d<n){t:RX}{x i:R4}(hr:R1 Is fr (cP x λa=>cP i λz=>pR P t a z) fs fo o):(⟨some d,.index t x i,ty,pos,af,g⟩:Oper).wp P a w (aY n w0 Γ0 ρ M ((fr.bp (some d) o.v).aI o.ob)) Q:=by
 grind [bI,oX]
theorem Mc(h1:a.tmps.size=n)(h2:a.defers=[])(h:Rel w0 Γ0 fr ρ M lst (tv a) w)(hd:d<n){t:RX}{x i:R4}(hr:R1 Is fr (cP x λa=>cP i λz=>CJ P t a z) fs fo o):(⟨some d,.index t x i,ty,pos,af,g⟩:Oper).wp P a w (aY n w0 Γ0 ρ M ((fr.bp (some d) o.v).aI o.ob)) Q:=by
 obtain⟨sx,fs1,hr1,hs⟩:=bI h hr;obtain⟨si,fs2,hr2,hsi⟩:=bI h hr1;unfold CJ at hr2;split at hr2
 .rename_i kd z hu;obtain⟨b,e1,hr2⟩:=nc hr2;obtain⟨⟨hz0,hz1⟩,hr2⟩:=hr2;obtain⟨c,hc,hb⟩:=y7 (s:=b) (i:=z.toNat) Q0;rw[hb]at hr2;exact qY h1 h2 h hd hr2 (by simp[Sk,(er hs e1).eval,(er hsi rfl).eval,Xu,ZI,R7 hu,hz0,hc])
 .rename_i n' e z hu;split at hr2
  .rename_i sz m ds hf hg;split at hr2
   .rename_i hb;have e1:=RD hb;obtain⟨⟨hz0,hz1⟩,hr2⟩:=hr2;obtain rfl:=aU hr2;obtain⟨v,hv,hl,us,rfl,hrd⟩:=br hs (by unfold su;simp);have hle:(z.toNat+1)*sz<=n'*sz:=SI _ Q0;rw[SK,U4]at hle;have yB:us.length=n'*sz:=by rw[hrd.1,hl,e1]
    have hp:=pJ (P:=P) (w:=w) (us:=us) (o:=z.toNat*sz) (iu hg);refine bh h1 h2 rfl hd rfl (Sub.refl M) (Ext.refl ρ) h (v:=.agg ((us.drop (z.toNat*sz)).take sz).toArray) ⟨by grind [sub,Sn,S3],_,rfl,?_⟩ ?_
    .refine⟨by grind [sub,Sn,S3],λk d u hd1 hu1=>?_⟩;unfold sub at hd1;rw[TE]at hd1 hu1;split at hd1
     .rename_i hk;rw[J2 hk,TV]at hu1;rw[TV]at hd1;exact hrd.2 _ d u hd1 hu1
     .cases hd1
    .simp[Sk,hv.eval,(er hsi rfl).eval,Xu,ZI,R7 hu,hz0,hz1,ie (BK (iu hg)),hp]
   .exact hr2.elim
  all_goals grind [oX]
 all_goals grind [oX]
theorem ok_min(h1:a.tmps.size=n)(h2:a.defers=[])(h:Rel w0 Γ0 fr ρ M lst (tv a) w)(hd:d<n){x y:R4}{ts:Array RX}(hr:R1 Is fr (cP x λa=>cP y λb=>we false a b) fs fo o):(⟨some d,.call ⟨.builtin .min,#[x,y],ts⟩,ty,pos,af,g⟩:Oper).wp P a w (aY n w0 Γ0 ρ M ((fr.bp (some d) o.v).aI o.ob)) Q:=by obtain⟨s,fs1,hr,hs⟩:=bI h hr;obtain⟨s',fs2,hr,hs'⟩:=bI h hr;obtain⟨p,e1,hr⟩:=eL hr;obtain⟨q,e2,hr⟩:=eL hr;exact iU h1 h2 h hd rfl (aU hr) rfl (Y.min2 (er hs e1).bq (er hs' e2).bq)
theorem ok_max(h1:a.tmps.size=n)(h2:a.defers=[])(h:Rel w0 Γ0 fr ρ M lst (tv a) w)(hd:d<n){x y:R4}{ts:Array RX}(hr:R1 Is fr (cP x λa=>cP y λb=>we true a b) fs fo o):(⟨some d,.call ⟨.builtin .max,#[x,y],ts⟩,ty,pos,af,g⟩:Oper).wp P a w (aY n w0 Γ0 ρ M ((fr.bp (some d) o.v).aI o.ob)) Q:=by obtain⟨s,fs1,hr,hs⟩:=bI h hr;obtain⟨s',fs2,hr,hs'⟩:=bI h hr;obtain⟨p,e1,hr⟩:=eL hr;obtain⟨q,e2,hr⟩:=eL hr;exact iU h1 h2 h hd rfl (aU hr) rfl (Y.max2 (er hs e1).bq (er hs' e2).bq)
def zx(a:Act)(M:Mem)(ρ:Nat->Option RK):List R4->List S->Prop
 |[],[]=>True
 |x::xs,s::ss=>(s=su\/∃v,dN a x v/\SR M ρ s v)/\zx a M ρ xs ss
 |_,_=>False
theorem HY(h:Rel w0 Γ0 fr ρ M lst (tv a) w):∀(xs:List R4) {k:List S->bn} {fs fo:List Nat} {o:Out},R1 Is fr (M7 xs k) fs fo o->∃ss fs',R1 Is fr (k ss) fs' fo o/\zx a M ρ xs ss
 |[],k,fs,fo,o,hr=>⟨[],fs,hr,trivial⟩
 |x::xs,k,fs,fo,o,hr=>by obtain⟨s,fs1,hr,hs⟩:=bI h hr;obtain⟨ss,fs2,hr,hss⟩:=HY h xs hr;exact⟨s::ss,fs2,hr,hs,hss⟩
theorem QT:∀{xs:List R4} {ss:List S} {cs:List C},zx a M ρ xs ss->F5 ss=some cs->∃us,FH (Lf a) xs=some us/\zV M ρ cs us
 |[],[],cs,_,hc=>by simp only[F5,RE]at hc;subst hc;exact⟨[],rfl,trivial⟩
 |x::xs,s::ss,cs,he,hc=>by
  have key:∀c,s=.c c->(∀v,SR M ρ s v->CB M ρ c v)->zB c=true->(∃cs',F5 ss=some cs'/\cs=c::cs')->∃us,FH (Lf a) (x::xs)=some us/\zV M ρ cs us:=by
   rintro c rfl hcb hok ⟨cs',h3,rfl⟩;obtain⟨us,h4,h5⟩:=QT he.2 h3
   obtain⟨v,hv,hs⟩:=br he.1 (by
    intro e;unfold su at e;simp only[S.c.injEq]at e;subst e
    simp[zB]at hok)
   exact⟨v::us,by simp[Xe.FH,hv.bq,h4],hcb v hs,h5⟩
  cases s with
  |c c =>
   cases c with
   |f g cs=>simp[F5]at hc
   |_ =>
    simp only[F5]at hc;split at hc
    .rename_i cs' hok hcs;simp only[RE]at hc;exact key _ rfl (λv hv=>hv) hok ⟨cs',hcs,hc.symm⟩
    .cases hc
  |_=>simp[F5]at hc
 |[],_::_,_,he,_=>he.elim
 |_::_,[],_,he,_=>he.elim
theorem ok_fun(h1:a.tmps.size=n)(h2:a.defers=[])(h:Rel w0 Γ0 fr ρ M lst (tv a) w)(hd:d<n){f:FuncId}{cs:Array R4}{first:Array R4}(hf:first.toList=[])(hr:R1 Is fr (M7 cs.toList λxs=>funP f xs) fs fo o):(⟨some d,.makeFunc (.func f) first cs,ty,pos,af,g⟩:Oper).wp P a w (aY n w0 Γ0 ρ M ((fr.bp (some d) o.v).aI o.ob)) Q:=by
 obtain⟨ss,fs1,hr,hss⟩:=HY h _ hr;unfold funP at hr;split at hr
 .rename_i cs' hc;obtain rfl:=aU hr;obtain⟨us,h3,h4⟩:=QT hss hc;have:=Y.makeFunc (P:=P) (w0:=w0) (L:=Lf a) (M:=M) (Γ:=lst.map Sg++Γ0) (d:=some d) (ty:=ty) (pos:=pos) (af:=af) (g:=g) (f:=f) (first:=[]) (cap:=cs.toList) (vs:=[]) (us:=us) rfl h3;rw[show([]:List R4).toArray=first by grind,SY]at this;exact aS h1 h2 h rfl hd rfl rfl ⟨us,rfl,h4⟩ this
 .exact hr.elim
theorem CR.one{c:C}{v:RK}(h:CR M ρ c v)(hc:zB c=true):v.oneCell'=true:=by
 cases c with
 |d x=>exact Rd.one (show Rd M x v from h)
 |n=>obtain rfl:v=.slice none 0 0:=h;rfl
 |l _=>obtain rfl:v=.slice none 0 0:=h;rfl
 |p b o=>obtain⟨k,_,rfl⟩:=h;rfl
 |q b sz k j=>obtain⟨_,_,_,_,_,rfl⟩:=h;rfl
 |w b=>obtain⟨_,_,_,_,rfl⟩:=h;rfl
 |m b=>obtain⟨k,_,rfl⟩:=h;rfl
 |f g cs=>obtain⟨us,rfl,_⟩:=h;rfl
 |z=>simp[zB]at hc
 |u=>simp[zB]at hc
 |e b i=>obtain⟨k,_,rfl⟩:=h;rfl
 |y b q sz l n=>obtain⟨_,_,rfl,_⟩:=h;rfl
 |k g=>obtain⟨⟨_,rfl⟩,_⟩:=h;rfl
theorem cA.one:∀{cs:List C} {us:List RK},cA M ρ cs us->cs.all zB=true->∀u∈us,u.oneCell'=true
 |[],[],_,_,u,hu=>by simp at hu
 |c::cs,v::us,h,hc,u,hu=>by
  simp only[Zw,RP]at hc;rcases RO.1 hu with rfl|hu
  .exact CR.one h.1 hc.1
  .exact cA.one h.2 hc.2 u hu
 |[],_::_,h,_,_,_=>h.elim
 |_::_,[],h,_,_,_=>h.elim
theorem Rn(ds:List D):(ds.map C.d).all zB=true:=by simp[zB]
theorem kC{s:S}{cs:List C}{v:RK}(hc:gV s=some cs)(hs:SR M ρ s v):∃us,v.cells=us.toArray/\fN v=us/\cA M ρ cs us/\cs.all zB=true:=by
 unfold gV at hc;split at hc
 .rename_i c;split at hc
  .rename_i hok;simp only[RE]at hc;subst hc;have h1:=CR.one hs hok;have e:=Bq h1;have e2:fN v=[v]:=by
    grind [lR]
   exact⟨[v],e,e2,⟨hs,trivial⟩,by simp[hok]⟩
  .cases hc
 .rename_i m ds;simp only[RE]at hc;subst hc;obtain⟨hl,us,rfl,hr⟩:=hs;rw[ti hl];exact⟨us,rfl,by simp[fN],cA.data hr,Rn ds⟩
 .rename_i cs';split at hc
  .rename_i hall;simp only[RE]at hc;subst hc;obtain⟨us,rfl,hr⟩:=hs;exact⟨us,rfl,by simp[fN],hr,hall⟩
  .cases hc
 .cases hc
theorem rQ{cs vs:List C}{us xs:List RK}{o:Nat}(h:cA M ρ cs us)(k:cA M ρ vs xs):cA M ρ (xo cs o vs) (eh us o xs):=by unfold xo eh;rw[<-cA.len k];exact((cA.take o h).app k).app (cA.drop _ h)
theorem Ev(h:Rel w0 Γ0 fr ρ M lst (tv a) w){t:Nat}{pl:List (Nat×Nat)}:∀(ps:List (Nat×R4)) {cs:List C} {us:List RK} {k:List C->bn} {fs fo:List Nat} {o:Out},R1 Is fr (Cb P t pl ps cs k) fs fo o->cA M ρ cs us ->
  ∃cs' out vs fs',R1 Is fr (k cs') fs' fo o/\Cf (Lf a) ps=some vs/\jK (pl[·]?) us (vs.map λp=>(p.1,fN p.2))=some out/\cA M ρ cs' out
 |[],cs,us,k,fs,fo,o,hr,hc=>⟨cs,us,[],fs,hr,rfl,rfl,hc⟩
 |(i,x)::ps,cs,us,k,fs,fo,o,hr,hc=>by
  unfold Cb at hr;split at hr
  .rename_i off m ft hpl hft;obtain⟨s,fs1,hr,hs⟩:=bI h hr;split at hr
   .rename_i vs hvs;split at hr
    .rename_i hb;simp only[RP]at hb;have e1:=RD hb.1;have e2:off+m<=cs.length:=by simp_all
     have hne:s≠su:=by rintro rfl;simp[eJ,su,gV,zB]at hvs
     obtain⟨v,hv,hs⟩:=br hs hne;obtain⟨xs,h3,h4,h5,_⟩:=kC hvs (dg hs);obtain⟨cs',out,vs',fs2,hr,h6,h7,h8⟩:=Ev h ps hr (rQ (o:=off) hc h5);refine⟨cs',out,(i,v)::vs',fs2,hr,by simp[Cf,hv.bq,h6],?_,h8⟩
     grind [jK,cA.len]
    .exact hr.elim
   .exact hr.elim
  .exact hr.elim
theorem zC_ok{t:RX}{v:RK}{x:C}(hz:zC P t v=some x):CR M ρ x v:=by
 unfold zC at hz;split at hz
 .simp only[RE]at hz;subst hz;exact rfl
 .split at hz
  .rename_i hone;simp only[RE]at hz;subst hz;show Rd M (.v _) _
   grind [Rd]
  .cases hz
theorem Ds:∀{ts:List RX} {vs:List RK} {cs:List C},wP P ts vs=some cs->cA M ρ cs vs
 |[],[],cs,hz=>by simp only[wP,RE]at hz;subst hz;exact trivial
 |t::ts,v::vs,cs,hz=>by
  unfold wP at hz;split at hz
  .rename_i x ds' h3 h4;simp only[RE]at hz;subst hz;exact⟨zC_ok h3,Ds h4⟩
  .cases hz
 |[],_::_,_,hz=>by simp[wP]at hz
 |_::_,[],_,hz=>by simp[wP]at hz
theorem hY{t:RX}{cs:List C}(hz:kF P t=some cs):∃v,kE P t=some v/\cA M ρ cs v.cells.toList:=by
 grind [kF,Ds]
theorem qA:∀{cs:List C} {vs:List RK} {ds:List D},cA M ρ cs vs->zA cs=some ds->bz M ds vs
 |[],[],ds,_,hz=>by
  grind [zA,RE,bz.nil]
 |.d x::cs,v::vs,ds,h,hz=>by
  simp only[zA]at hz;split at hz
  .rename_i ds' h4;simp only[RE]at hz;subst hz;exact bz.cons h.1 (qA h.2 h4)
  .cases hz
 |.l sz::cs,v::vs,ds,h,hz=>by
  simp only[zA]at hz;split at hz
  .rename_i ds' h4;simp only[RE]at hz;subst hz;obtain rfl:v=.slice none 0 0:=h.1;exact bz.cons Rd.qf (qA h.2 h4)
  .cases hz
 |[],_::_,_,h,_=>h.elim
 |.d _::_,[],_,h,_=>h.elim
 |.l _::_,[],_,h,_=>h.elim
 |.n::_,_,_,_,hz=>by simp[zA]at hz
 |.p _ _::_,_,_,_,hz=>by simp[zA]at hz
 |.q _ _ _ _::_,_,_,_,hz=>by simp[zA]at hz
 |.w _::_,_,_,_,hz=>by simp[zA]at hz
 |.m _::_,_,_,_,hz=>by simp[zA]at hz
 |.f _ _::_,_,_,_,hz=>by simp[zA]at hz
 |.z::_,_,_,_,hz=>by simp[zA]at hz
 |.u::_,_,_,_,hz=>by simp[zA]at hz
 |.e _ _::_,_,_,_,hz=>by simp[zA]at hz
 |.y _ _ _ _ _::_,_,_,_,hz=>by simp[zA]at hz
theorem yL{p q:Nat->Option (Nat×Nat)}(hpq:∀i x,p i=some x->q i=some x):∀(vs:List (Nat×List RK)) (zs out:List RK),jK p zs vs=some out->jK q zs vs=some out
 |[],_,_,h=>h
 |(i,v)::vs,zs,out,h=>by
  unfold jK at h ⊢;cases hp:p i with
  |none=>simp[hp]at h
  |some x =>
   rw[hp]at h;rw[hpq i x hp];revert h;dsimp only;split
   .exact λh=>yL hpq vs _ _ h
   .exact λh=>h
theorem buildA{t e n sz:Nat}{parts:List (Nat×R4)}{vs:List (Nat×RK)}{zs:List RK}{L:Lm}{Γ:List As}{d:Option Nat}(out:List RK)(hp:Cf L parts=some vs)(hz:kE P t=some (.agg zs.toArray))(hu:P.underlying t=some (.array n e))(hs:Gs P e=some sz)
  (hf:jK (λi=>some (i*sz,sz)) zs (vs.map λp=>(p.1,fN p.2))=some out):Yq P w0 L M Γ ⟨d,.build t parts.toArray,ty,pos,af,g⟩ (.agg out.toArray):=λn a w ha _=>by
 have hsz:(U1 e).run P w=.ok sz w:=by
  unfold Gs at hs;cases hi:P.info? e with
  |none=>simp[hi]at hs
  |some i =>
   rw[hi]at hs;obtain rfl:i.size=sz:=by grind
   simp[U1,US,hi]
 have h2:=sW (λi=>some (i*sz,sz)) vs zs out hf;have h3:(parts.toArray.map λx=>(x.1,a.eval x.2))=vs.toArray:=by rw[List.map_toArray,ha.Cf hp]
 simp only[Sk,h3];simp only[Instr.build,TP,je hz,Uy,R7 hu,Value.cells,hsz,h2,Sem.run_pure]
theorem O5(h1:a.tmps.size=n)(h2:a.defers=[])(h:Rel w0 Γ0 fr ρ M lst (tv a) w)(hd:d<n){t:Nat}{ps:Array (Nat×R4)}(hr:R1 Is fr (If P t ps.toList) fs fo o):(⟨some d,.build t ps,ty,pos,af,g⟩:Oper).wp P a w (aY n w0 Γ0 ρ M ((fr.bp (some d) o.v).aI o.ob)) Q:=by
 unfold If at hr;split at hr
 .rename_i pl zs hpl hz hag;obtain⟨v,hv,hrd⟩:=hY (M:=M) (ρ:=ρ) hz;rw[hv]at hag;cases v with
  |agg cs0 =>
   obtain⟨cs',out,vs,fs',hr,h3,h4,h5⟩:=Ev h _ hr hrd;obtain rfl:=aU hr;have:Yq P w0 (Lf a) M (lst.map Sg++Γ0) ⟨some d,.build t ps.toList.toArray,ty,pos,af,g⟩ (.agg out.toArray):=by
    unfold Jt at hpl;split at hpl
    .rename_i m e sz hm;simp only[RE]at hpl;subst hpl;unfold Dg at hm;split at hm
     .rename_i m' e' hu;split at hm
      .rename_i sz' hsz;split at hm
       .simp only[RE,R6]at hm;obtain⟨rfl,rfl,rfl⟩:=hm;refine buildA (zs:=cs0.toList) out h3 Q0 hu hsz (yL (λi x hx=>?_) _ _ _ h4)
        grind
       .cases hm
      .cases hm
     .cases hm
    .exact Y.build (P:=P) (w0:=w0) (L:=Lf a) (M:=M) (Γ:=lst.map Sg++Γ0) (d:=some d) (ty:=ty) (pos:=pos) (af:=af) (g:=g) (t:=t) (parts:=ps.toList) (vs:=vs) (zs:=cs0.toList) (pl:=pl) out h3 Q0 hpl h4
   rw[SY]at this;exact aS h1 h2 h rfl hd rfl rfl ⟨out,rfl,h5⟩ this
  |_=>simp[HG]at hag
 .exact hr.elim
end
open Go Xe Go.Lib
def NH(ρ:Nat->Option RK)(b:Nat)(v:RK):Nat->Option RK:=λk=>if k=b then some v else ρ k
theorem pA{ρ:Nat->Option RK}{b:Nat}{v:RK}(h:ρ b=none):Ext ρ (NH ρ b v):=λk x hk=>by
 unfold NH
 grind
theorem b7{ρ:Nat->Option RK}{b:Nat}{v:RK}:NH ρ b v b=some v:=by simp[NH]
section
variable {w0:R0} {Γ0:List As} {fr:Fr} {ρ:Nat->Option RK} {M:Mem} {lst:List (Nat×As)} {val:Nat->Option RK} {w w':R0}
theorem Rel.fresh(h:Rel w0 Γ0 fr ρ M lst val w){b:Nat}(hb:fr.ob b=none)(hg:fr.aV<=b):ρ b=none:=by
 cases hv:ρ b with
 |none=>rfl
 |some v =>
  rcases h.vZ b v hv with h1|h1
  .omega
  .rw[hb]at h1;cases h1
theorem Rel.new(h:Rel w0 Γ0 fr ρ M lst val w){b:Nat}(hb:fr.ob b=none)(hg:fr.aV<=b){x:As}{v:RK}{o:O}(hst:St w0 M (x::(lst.map Sg++Γ0)) w')(ho:OR M (NH ρ b v) ((b,x)::lst) b o) :
  Ext ρ (NH ρ b v)/\Rel w0 Γ0 (fr.set b o) (NH ρ b v) M ((b,x)::lst) val w':=by
 have hn:=h.fresh hb hg;have hE:Ext ρ (NH ρ b v):=pA hn;refine⟨hE,⟨λt=>?_,λk o' hk=>?_,λk u hk=>?_,λp hp=>?_,?_,hst,h.gr⟩⟩
 .rcases h.sl t with h6|⟨v,h6,h7⟩
  .exact .inl h6
  .exact .inr ⟨v,h6,SR.mono (Sub.refl M) hE h7⟩
 .rw[cI]at hk;by_cases e:k=b
  .subst e;rw[J2 rfl]at hk;simp only[RE]at hk;subst hk;exact ho
  .rw[J1 e]at hk;exact OR.mono (Sub.refl M) hE (λx hx=>RM _ hx) (h.ob k o' hk)
 .rw[cI];by_cases e:k=b
  .right;rw[J2 e];rfl
  .unfold NH at hk;rw[J1 e]at hk;rw[J1 e];exact h.vZ k u hk
 .rcases RO.1 hp with rfl|hp
  .rw[b7];rfl
  .have:=h.gq p hp;obtain⟨u,hu⟩:=Ti.1 this;rw[hE _ _ hu];rfl
 .rw[Sb];refine SG.2 ⟨λhm=>?_,h.nd⟩;obtain⟨p,hp,e⟩:=R3.1 hm;have h1:=h.gq p hp;have e':p.1=b:=e;rw[e',hn]at h1;cases h1
theorem Rel.cB(h:Rel w0 Γ0 fr ρ M lst val w){b:Nat}{x x':As}{o:O}(hm:(b,x)∈lst)(hst:St w0 M (x'::((lst.filter λp=>!RN p.1 b).map Sg++Γ0)) w')(ho:OR M ρ ((b,x')::lst.filter λp=>!RN p.1 b) b o) :
  Rel w0 Γ0 (fr.set b o) ρ M ((b,x')::lst.filter λp=>!RN p.1 b) val w':=by
 refine⟨h.sl,λk o' hk=>?_,λk u hk=>?_,λp hp=>?_,?_,hst,h.gr⟩
 .rw[cI]at hk;by_cases e:k=b
  .subst e;rw[J2 rfl]at hk;simp only[RE]at hk;subst hk;exact ho
  .rw[J1 e]at hk;exact OR.mono (Sub.refl M) (Ext.refl ρ) (λx hx=>RM _ (il hx e)) (h.ob k o' hk)
 .rcases h.vZ k u hk with h6|h6
  .exact .inl h6
  .right;rw[cI];by_cases e:k=b
   .rw[J2 e];rfl
   .rw[J1 e];exact h6
 .rcases RO.1 hp with rfl|hp
  .exact h.gq (b,x) hm
  .exact h.gq p (Sp.1 hp).1
 .rw[Sb];refine SG.2 ⟨λhm'=>?_,kz h.nd b⟩;obtain⟨p,hp,e⟩:=R3.1 hm';exact yK (k:=p.1) (x:=p.2) hp e
theorem Rel.drop(h:Rel w0 Γ0 fr ρ M lst val w)(b:Nat):Rel w0 Γ0 (fr.set b .dK) ρ M (lst.filter λp=>!RN p.1 b) val w:=by
 refine⟨h.sl,λk o' hk=>?_,λk u hk=>?_,λp hp=>h.gq p (Sp.1 hp).1,kz h.nd b,h.st.sub (Xl ((TK).map _) (List.Sublist.refl _)),h.gr⟩
 .rw[cI]at hk;by_cases e:k=b
  .subst e;rw[J2 rfl]at hk;simp only[RE]at hk;subst hk;exact trivial
  .rw[J1 e]at hk;exact OR.mono (Sub.refl M) (Ext.refl ρ) (λx hx=>il hx e) (h.ob k o' hk)
 .rcases h.vZ k u hk with h6|h6
  .exact .inl h6
  all_goals grind [cI]
end
section
variable {Is:Cx} {P:RV} {tb:Tb} {n:Nat} {w0:R0} {Γ0:List As} {fr:Fr} {ρ:Nat->Option RK} {M:Mem} {lst:List (Nat×As)} {a:Act} {w:R0} {fs fo:List Nat} {o:Out} {Q:Exit->Act->R0->Prop} {d:Nat} {ty:RX} {pos:String} {af:Array Edge} {g:Option (Nat×Bool)}
theorem fL{id:Nat}{s:S}{os:List (Nat×O)}{x:O}(hr:R1 Is fr (jT id s os x) fs fo o):fr.ob id=none/\∃fo',o=⟨some s,os++[(id,x)],fs,fo'⟩:=by
 unfold jT at hr;change R1 Is fr (match fr.ob id with|none=>_|some _=>_) _ _ _ at hr;split at hr
 .rename_i hn;exact⟨hn,_,hr⟩
 .exact hr.elim
theorem gJ:∀(os:List (Nat×O)) {fr:Fr} {k:Nat},(∀p∈os,p.1≠k)->(fr.aI os).ob k=fr.ob k
 |[],_,_,_=>rfl
 |(b,x)::os,fr,k,h=>by rw[Fr.aI,gJ os λp hp=>h p (RM _ hp),cI,J1 (Xv (h (b,x) (RG ..)))]
theorem fp.ne{os:List (Nat×O)}(h:fp fr os){k:Nat}(hk:fr.ob k=none):∀p∈os,p.1≠k:=λp hp e=>by
 have:=h p hp
 grind
variable (h1:a.tmps.size=n) (h2:a.defers=[]) (h:Rel w0 Γ0 fr ρ M lst (tv a) w) (hd:d<n)
theorem O7(h1:a.tmps.size=n)(h2:a.defers=[])(h:Rel w0 Γ0 fr ρ M lst (tv a) w)(hd:d<n){t:Nat}(hr:R1 Is fr (It P (fr.aV+d) t) fs fo o):(⟨some d,.alloc t,ty,pos,af,g⟩:Oper).wp P a w (aY n w0 Γ0 ρ M ((fr.bp (some d) o.v).aI o.ob)) Q:=by
 unfold It at hr;split at hr
 .rename_i zs hz;obtain⟨v,hv,hrd⟩:=hY (M:=M) (ρ:=ρ) hz;split at hr
  .rename_i ds _ hzd;obtain⟨hn,fo',rfl⟩:=fL hr;have hst:=h.st.alloc t v.cells.toList;have hdd:=qA hrd hzd;obtain⟨hE,hR⟩:=h.new (v:=ptr w.heap.size) (o:=.a t zs.length ds) hn (SH _ _) hst ⟨w.heap.size,v.cells.toList,b7,RG ..,hdd,by rw[<-hdd.1,cA.len hrd]⟩;refine bh h1 h2 rfl hd rfl (Sub.refl M) hE hR (v:=.pointer (some ⟨w.heap.size,0,none⟩)) ⟨w.heap.size,b7,by rw[cy]⟩ ?_;simp[Sk,ZJ,je hv,newVar,newRow]
  obtain⟨hn,fo',rfl⟩:=fL hr;have hst:=h.st.alloc t v.cells.toList;obtain⟨hE,hR⟩:=h.new (v:=ptr w.heap.size) (o:=.b t zs) hn (SH _ _) hst ⟨w.heap.size,v.cells.toList,b7,RG ..,cA.mono (Sub.refl M) (pA (h.fresh hn (SH _ _))) hrd⟩;refine bh h1 h2 rfl hd rfl (Sub.refl M) hE hR (v:=.pointer (some ⟨w.heap.size,0,none⟩)) ⟨w.heap.size,b7,by rw[cy]⟩ ?_;simp[Sk,ZJ,je hv,newVar,newRow]
 .exact hr.elim
theorem ok_box(h1:a.tmps.size=n)(h2:a.defers=[])(h:Rel w0 Γ0 fr ρ M lst (tv a) w)(hd:d<n){x:R4}{t:Nat}(hr:R1 Is fr (cP x λs=>boxP P (fr.aV+d) t s) fs fo o):(⟨some d,.box t x,ty,pos,af,g⟩:Oper).wp P a w (aY n w0 Γ0 ρ M ((fr.bp (some d) o.v).aI o.ob)) Q:=by
 obtain⟨s,fs1,hr,hs⟩:=bI h hr;unfold boxP at hr;have key:∀(O1:O) (us:List RK) (v:RK),dN a x v->v.cells=us.toArray->fr.ob (fr.aV+d)=none->(∀ρ' lst',ρ' (fr.aV+d)=some (ptr w.heap.size)->Ext ρ ρ'->(fr.aV+d,As.own w.heap.size t us)∈lst'->OR M ρ' lst' (fr.aV+d) O1) ->
   (⟨some d,.box t x,ty,pos,af,g⟩:Oper).wp P a w (aY n w0 Γ0 ρ M ((fr.bp (some d) (some (.c (.p (fr.aV+d) 0)))).aI [(fr.aV+d,O1)])) Q:=by
  intro O1 us v hv hc hn ho;have hst:=h.st.alloc t us;obtain⟨hE,hR⟩:=h.new (v:=ptr w.heap.size) (o:=O1) hn (SH _ _) hst (ho _ _ b7 (pA (h.fresh hn (SH _ _))) (RG ..));refine bh (out:=⟨some (.c (.p (fr.aV+d) 0)),[(fr.aV+d,O1)],[],[]⟩) h1 h2 rfl hd rfl (Sub.refl M) hE hR (v:=.pointer (some ⟨w.heap.size,0,none⟩)) ⟨w.heap.size,b7,by rw[cy]⟩ ?_;simp[Sk,hv.eval,Instr.box,newVar,newRow,hc]
 split at hr
 .rename_i m ds hty;obtain⟨hn,fo',rfl⟩:=fL hr;have hne:s≠su:=by rintro rfl;cases hty
  obtain⟨v,hv,hs⟩:=br hs hne;have hs':SR M ρ (eJ P t s) v:=dg hs;rw[hty]at hs';obtain⟨hl,us,rfl,hrd⟩:=hs';exact key (.a t m ds) us _ hv rfl hn λρ' lst' hp _ hm=>⟨_,us,hp,hm,hrd,hl⟩
 .split at hr
  .rename_i cs hcs;obtain⟨hn,fo',rfl⟩:=fL hr;have hne:s≠su:=by rintro rfl;simp[eJ,su,gV,zB]at hcs
   obtain⟨v,hv,hs⟩:=br hs hne;obtain⟨us,h3,_,h5,_⟩:=kC hcs (dg hs);exact key (.b t cs) us _ hv h3 hn λρ' lst' hp hE hm=>⟨_,us,hp,hm,cA.mono (Sub.refl M) hE h5⟩
  .exact hr.elim
theorem x5(h:Rel w0 Γ0 fr ρ M lst (tv a) w){o:Oper}{out:Out}{os rest:List (Nat×O)}(hos:out.ob=os++rest)(hf:fp fr os)(k:∀M1 lst1,Sub M M1->mU ρ M1 os->Rel w0 Γ0 (fr.aI os) ρ M1 lst1 (tv a) w->o.wp P a w (aY n w0 Γ0 ρ M1 (((fr.aI os).bp o.dst out.v).aI rest)) Q) :
  o.wp P a w (aY n w0 Γ0 ρ M ((fr.bp o.dst out.v).aI out.ob)) Q:=by
 obtain⟨M1,lst1,hs,hfa,hR⟩:=Rel.Kp os h hf;refine Xz (λa' w' hD=>?_) (k M1 lst1 hs hfa hR);obtain⟨k1,k2,ρ',M',lst',hM,hE,hRel⟩:=hD;refine⟨k1,k2,ρ',M',lst',hs.trans hM,hE,?_⟩;rw[hos,w4];have e:(fr.aI os).bp o.dst out.v=(fr.bp o.dst out.v).aI os:=by
  unfold Fr.bp
  grind [kM]
 rw[<-e];exact hRel
theorem jl{t e sz:Nat}(he:CY P t=some (e,sz))(hb:lS P e sz=true):gy P t e sz (gw P e):=by
 obtain⟨hu,_⟩:=dX (dF he);unfold lS at hb;unfold gw;cases hi:P.info? e with
 |none=>simp[hi]at hb
 |some i =>
  rw[hi]at hb;simp only[RP]at hb;obtain⟨⟨hb1,hb2⟩,hb3⟩:=hb;cases hz:i.zero with
  |none=>simp[hz]at hb2
  |some z=>rw[hz]at hb2;exact⟨hu,⟨i,z,hi,hz,RD hb1,rfl,RD hb2⟩,by simp_all⟩
def vo:Nat->List (List RK)->List (Nat×List RK)
 |_,[]=>[]
 |j,x::l=>(j,x)::vo (j+1) l
theorem uE{sz:Nat}:∀(xs:List (List RK)) (j:Nat) (cells acc:List RK),cells.length=(j+xs.length)*sz->acc.length=j*sz->cells.take (j*sz)=acc->(∀x∈xs,x.length=sz) ->
  jK (λi=>some (i*sz,sz)) cells (vo j xs)=some (acc++xs.flatten)
 |[],j,cells,acc,hl,ha,ht,_=>by
  simp only[UB,S2]at hl
  grind [vo,jK,Y6]
 |x::xs,j,cells,acc,hl,ha,ht,hx=>by
  have hx0:=hx x (RG ..);have hle:(j+1)*sz<=cells.length:=by rw[hl];exact SI _ Q2
  have e:(j+1)*sz=j*sz+sz:=by grind
  simp only[vo,jK];rw[J2 ⟨hx0,Q0⟩];rw[uE xs (j+1) (eh cells (j*sz) x) (acc++x) (by grind [zF,S8,Un]) (by grind) ?_ λy hy=>hx y (RM _ hy)]
  all_goals grind [eh]
theorem Ew(h:Rel w0 Γ0 fr ρ M lst (tv a) w){hp:Bool}{e sz:Nat}:∀(ps:List (Nat×R4)) (j:Nat) {k:List D->List (Nat×O)->bn} {fs fo:List Nat} {o:Out},R1 Is fr (Cd P hp e sz j ps k) fs fo o ->
  ∃ds os fs' fo',R1 Is fr (k ds os) fs' fo' o/\fp fr os/\∃vs,Cf (Lf a) ps=some vs/\∀M',Sub M M'->mU ρ M' os->∃xs:List (List RK),(vs.map λp=>(p.1,fN p.2))=vo j xs/\xs.length=ps.length/\(∀x∈xs,x.length=sz)/\bz M' ds xs.flatten
 |[],j,k,fs,fo,o,hr=>⟨[],[],fs,fo,hr,fp.nil,[],rfl,λM' _ _=>⟨[],rfl,rfl,λx hx=>by simp at hx,bz.nil _⟩⟩
 |(i,x)::ps,j,k,fs,fo,o,hr=>by
  unfold Cd at hr;split at hr
  .rename_i hb;have e1:=RD hb;subst e1;obtain⟨s,fs1,hr,hs⟩:=bI h hr;obtain⟨m,ds,os,fo1,hr,hf,hv,hne⟩:=Gw h hr;split at hr
   .rename_i hm;have e2:=RD hm;subst e2;obtain⟨ds',os',fs2,fo2,hr,hf',vs,hvs,hk⟩:=Ew h ps (i+1) hr;have hsu:s≠su:=by grind [sq]
    obtain⟨v,hev,hsv⟩:=br hs hsu;refine⟨ds++ds',os++os',fs2,fo2,hr,hf.app hf',(i,v)::vs,by simp[Cf,hev.bq,hvs],λM' hM hfa=>?_⟩;obtain⟨us,h3,h4,h5⟩:=hv M' v hM hfa.app1 (pO (dg hsv));obtain⟨xs,h6,h7,h8,h9⟩:=hk M' hM hfa.app2;have e3:fN v=us:=by
     grind [lR]
    refine⟨us::xs,by simp[vo,e3,h6],by simp[h7],λy hy=>?_,by simpa using h4.append h9⟩
    grind
   .exact hr.elim
  .exact hr.elim
theorem zN(h1:a.tmps.size=n)(h2:a.defers=[])(h:Rel w0 Γ0 fr ρ M lst (tv a) w)(hd:d<n){t len:Nat}{ps:Array (Nat×R4)}(hr:R1 Is fr (o9 P tb.hp (fr.aV+d) t len ps.toList) fs fo o):(⟨some d,.buildSlice t len ps,ty,pos,af,g⟩:Oper).wp P a w (aY n w0 Γ0 ρ M ((fr.bp (some d) o.v).aI o.ob)) Q:=by
 unfold o9 at hr;split at hr
 .rename_i e sz hel;split at hr
  .rename_i hb;simp only[RP]at hb;have hlen:=RD hb.1.1;have hE:=jl hel hb.2;obtain⟨ds,os,fs1,fo1,hr,hf,vs,hvs,hk⟩:=Ew h _ 0 hr;obtain⟨hn,fo',rfl⟩:=fL hr;refine x5 h (o:=⟨some d,.buildSlice t len ps,ty,pos,af,g⟩) rfl hf λM1 lst1 hM hfa hR=>?_;obtain⟨xs,h3,h4,h5,h6⟩:=hk M1 hM hfa;have hn1:(fr.aI os).ob (fr.aV+d)=none:=by rw[gJ os (hf.ne hn)];exact hn
   have hbase:(fr.aI os).aV<=fr.aV+d:=by rw[km];exact SH _ _
   have hle:len*sz<=16777216:=by simp_all
   have hfill:∀zs:List RK,zs.length=len*sz->jK (λi=>some (i*sz,sz)) zs (vs.map λp=>(p.1,fN p.2))=some xs.flatten:=λzs hz=>by rw[h3,uE xs 0 zs [] (by grind) Q2 Q2 h5,Sv]
   have hrun:=ou (P:=P) (w:=w) hE hb.1.2 hfill;have hfl:xs.flatten.length=len*sz:=by
    rw[Yx,<-hlen,<-h4];clear h3 h4 h6 hfill hrun;induction xs with
    |nil=>simp
    |cons x xs ih=>simp only[Sb,T7,RU,SK,U4,ih λy hy=>h5 y (RM _ hy),h5 x (RG ..)];omega
   have hlim:len<=UI:=by have:len<=len*sz:=UW _ hE.pos;unfold UI;omega
   have hst:=(hR.st.alloc e xs.flatten).Cg hfl hlim
   obtain⟨hEx,hR'⟩:=hR.new (v:=.slice (some ⟨w.heap.size,0,none⟩) len len) (o:=.w e sz len ds) hn1 hbase hst ⟨_,_,xs.flatten,b7,RG ..,h6,hfl,by
    have:len<=len*sz:=UW _ hE.pos
    unfold lim;omega⟩
   refine bh (fr:=fr.aI os) (out:=⟨some (.c (.w (fr.aV+d))),[(fr.aV+d,.w e sz len ds)],[],[]⟩) h1 h2 rfl hd rfl (Sub.refl M1) hEx hR' (v:=.slice (some ⟨w.heap.size,0,none⟩) len len) ⟨b7,_,_,_,rfl⟩ ?_;have hmap:(ps.map λx=>(x.1,a.eval x.2))=vs.toArray:=by
    have:=(uP h1 h2).Cf hvs
    grind
   simp only[Sk,hmap];simp[hrun]
  .exact hr.elim
 .exact hr.elim
theorem grow_R1{e sz:Nat}{s:S}{k:Nat->List D->List (Nat×O)->bn}(hr:R1 Is fr (AY e sz s k) fs fo o):∃m ds os fo',R1 Is fr (k m ds os) fs fo' o/\s≠su /\
  ((m=0/\ds=[]/\os=[]/\∀v,SR M ρ s v->v=.slice none 0 0)\/∃b,s=.c (.w b)/\fr.ob b=some (.w e sz m ds)/\os=[(b,.dK)]):=by
 unfold AY at hr;split at hr
 .exact⟨0,[],[],fo,hr,by unfold su;simp,.inl ⟨rfl,rfl,rfl,λv hv=>hv⟩⟩
 .split at hr
  .exact⟨0,[],[],fo,hr,by unfold su;simp,.inl ⟨rfl,rfl,rfl,λv hv=>hv⟩⟩
  .exact hr.elim
 .rename_i b;change R1 Is fr (match fr.ob b with|some (.w e' sz' n ds)=>_|_=>_) _ _ _ at hr;split at hr
  .rename_i e' sz' m ds hob;split at hr
   .rename_i hb;simp only[RP]at hb;have e1:=RD hb.1;have e2:=RD hb.2;subst e1 e2;exact⟨m,ds,_,_,hr,by unfold su;simp,.inr ⟨b,rfl,hob,rfl⟩⟩
   .exact hr.elim
  .exact hr.elim
 .exact hr.elim
theorem Du(h:Rel w0 Γ0 fr ρ M lst (tv a) w){e sz:Nat}:∀(ps:List (Nat×R4)) (j:Nat) {k:List C->bn} {fs fo:List Nat} {o:Out},R1 Is fr (BP P e sz j ps k) fs fo o ->
  ∃cs fs',R1 Is fr (k cs) fs' fo o/\∃vs,Cf (Lf a) ps=some vs/\∃xs:List (List RK),(vs.map λp=>(p.1,fN p.2))=vo j xs/\xs.length=ps.length/\(∀x∈xs,x.length=sz)/\cA M ρ cs xs.flatten
 |[],j,k,fs,fo,o,hr=>⟨[],fs,hr,[],rfl,[],rfl,rfl,λx hx=>by simp at hx,trivial⟩
 |(i,x)::ps,j,k,fs,fo,o,hr=>by
  unfold BP at hr;split at hr
  .rename_i hb;have e1:=RD hb;subst e1;obtain⟨s,fs1,hr,hs⟩:=bI h hr;split at hr
   .rename_i cs hcs;split at hr
    .rename_i hm;have e2:=RD hm;obtain⟨cs',fs2,hr,vs,hvs,xs,h6,h7,h8,h9⟩:=Du h ps (i+1) hr;have hsu:s≠su:=by rintro rfl;have hcs:gV su=some cs:=hcs;simp[su,gV,zB]at hcs
     obtain⟨v,hev,hsv⟩:=br hs hsu;obtain⟨us,_,k6,k7,_⟩:=kC hcs (dg (P:=P) (t:=e) hsv);refine⟨cs++cs',fs2,hr,(i,v)::vs,by simp[Cf,hev.bq,hvs],us::xs,by simp[vo,k6,h6],by simp[h7],λy hy=>?_,by grind [cA.app]⟩;rcases RO.1 hy with rfl|hy
     .rw[k7.len,e2]
     .exact h8 y hy
    .exact hr.elim
   .exact hr.elim
  .exact hr.elim
theorem EG(h1:a.tmps.size=n)(h2:a.defers=[])(h:Rel w0 Γ0 fr ρ M lst (tv a) w)(hd:d<n){t len:Nat}{ps:Array (Nat×R4)}(hr:R1 Is fr (uI P (fr.aV+d) t len ps.toList) fs fo o):(⟨some d,.buildSlice t len ps,ty,pos,af,g⟩:Oper).wp P a w (aY n w0 Γ0 ρ M ((fr.bp (some d) o.v).aI o.ob)) Q:=by
 unfold uI at hr;split at hr
 .rename_i e sz hel;split at hr
  .rename_i hb;simp only[RP]at hb;have hlen:=RD hb.1.1;have hE:=jl hel hb.2;obtain⟨cs,fs1,hr,vs,hvs,xs,h3,h4,h5,h6⟩:=Du h _ 0 hr;obtain⟨hn,fo',rfl⟩:=fL hr;have hle:len*sz<=16777216:=by simp_all
   have hfill:∀zs:List RK,zs.length=len*sz->jK (λi=>some (i*sz,sz)) zs (vs.map λp=>(p.1,fN p.2))=some xs.flatten:=λzs hz=>by rw[h3,uE xs 0 zs [] (by grind) Q2 Q2 h5,Sv]
   have hrun:=ou (P:=P) (w:=w) hE hb.1.2 hfill;have hfl:xs.flatten.length=len*sz:=by
    rw[Yx,<-hlen,<-h4];clear h3 h4 h6 hfill hrun;induction xs with
    |nil=>simp
    |cons x xs ih=>simp only[Sb,T7,RU,SK,U4,ih λy hy=>h5 y (RM _ hy),h5 x (RG ..)];omega
   have hlim:len<=UI:=by have:len<=len*sz:=UW _ hE.pos;unfold UI;omega
   have hst:=(h.st.alloc e xs.flatten).Cg hfl hlim;have hEx:=pA (v:=.slice (some ⟨w.heap.size,0,none⟩) len len) (h.fresh hn (SH _ _))
   obtain⟨hEx,hR'⟩:=h.new (v:=.slice (some ⟨w.heap.size,0,none⟩) len len) (o:=.v e sz len cs) hn (SH _ _) hst ⟨_,_,xs.flatten,b7,RG ..,cA.mono (Sub.refl M) hEx h6,hfl,by
    have:len<=len*sz:=UW _ hE.pos
    unfold lim;omega⟩
   refine bh (fr:=fr) (out:=⟨some (.c (.w (fr.aV+d))),[(fr.aV+d,.v e sz len cs)],[],[]⟩) h1 h2 rfl hd rfl (Sub.refl M) hEx hR' (v:=.slice (some ⟨w.heap.size,0,none⟩) len len) ⟨b7,_,_,_,rfl⟩ ?_;have hmap:(ps.map λx=>(x.1,a.eval x.2))=vs.toArray:=by
    have:=(uP h1 h2).Cf hvs
    grind
   simp only[Sk,hmap];simp[hrun]
  .exact hr.elim
 .exact hr.elim
theorem HO{e sz:Nat}{s:S}{k:Nat->List C->List (Nat×O)->bn}(hr:R1 Is fr (sP e sz s k) fs fo o):∃m cs os fo',R1 Is fr (k m cs os) fs fo' o/\s≠su /\
  ((m=0/\cs=[]/\os=[]/\∀v,SR M ρ s v->v=.slice none 0 0)\/∃b,s=.c (.w b)/\fr.ob b=some (.v e sz m cs)/\os=[(b,.dK)]):=by
 unfold sP at hr;split at hr
 .exact⟨0,[],[],fo,hr,by unfold su;simp,.inl ⟨rfl,rfl,rfl,λv hv=>hv⟩⟩
 .split at hr
  .exact⟨0,[],[],fo,hr,by unfold su;simp,.inl ⟨rfl,rfl,rfl,λv hv=>hv⟩⟩
  .exact hr.elim
 .rename_i b;change R1 Is fr (match fr.ob b with|some (.v e' sz' n cs)=>_|_=>_) _ _ _ at hr;split at hr
  .rename_i e' sz' m cs hob;split at hr
   .rename_i hb;simp only[RP]at hb;have e1:=RD hb.1;have e2:=RD hb.2;subst e1 e2;exact⟨m,cs,_,_,hr,by unfold su;simp,.inr ⟨b,rfl,hob,rfl⟩⟩
   .exact hr.elim
  .exact hr.elim
 .exact hr.elim
theorem Cm(h1:a.tmps.size=n)(h2:a.defers=[])(h:Rel w0 Γ0 fr ρ M lst (tv a) w)(hd:d<n){t e sz m b2:Nat}{vs:List C}{x y:R4}{s:S}(hE:gy P t e sz (gw P e))(hs:s=su\/∃v,dN a x v/\SR M ρ s v)(hs':S.c (.w b2)=su\/∃v,dN a y v/\SR M ρ (.c (.w b2)) v)(hob2:fr.ob b2=some (.v e sz m vs))(hvs:vs.all zB=true)
  (hr:R1 Is fr (sP e sz s λn cs os=>iZ (aL (n+m) (gw P e+1)) (jT (fr.aV+d) (.c (.w (fr.aV+d))) os (.v e sz (n+m) (cs++vs)))) fs fo o):(⟨some d,.call ⟨.builtin .append,#[x,y],#[t,t]⟩,ty,pos,af,g⟩:Oper).wp P a w (aY n w0 Γ0 ρ M ((fr.bp (some d) o.v).aI o.ob)) Q:=by
 obtain⟨q,cs,os,fo1,hr,hne,hg⟩:=HO (M:=M) (ρ:=ρ) hr;obtain⟨hroom,hr⟩:=hr;obtain⟨hn,fo',rfl⟩:=fL hr;obtain⟨v,hv,hsv⟩:=br hs hne;obtain⟨v',hv',hsv'⟩:=br hs' (by unfold su;simp);obtain⟨ad,c,us,h3,h4,h5,h6,h7⟩:=h.ob b2 _ hob2;have e3:ρ b2=some v':=hsv'.1;rw[h3]at e3;simp only[RE]at e3;subst e3;have hm:As.acc (.slice ad m c) e sz m us∈lst.map Sg++Γ0:=List.mem_append_left _ (Ss h4);have hroom1:(q+m)*gw P e<=140737488355328:=by
  grind [aL]
 have hroom2:q+m<=lim:=by unfold aL at hroom;rw[XD,UG]at hroom;unfold lim;omega
 have hsrc:∀Γ,(∀w',St w0 M Γ w'->St w0 M (lst.map Sg++Γ0) w')->gH w0 M Γ (.slice ad m c) sz m us:=λΓ hΓ=>by
  refine⟨h6,cA.one h5 hvs,?_⟩;cases ad with
  |none =>
   have:m=0:=by
    rcases YV m with h0|h0
    .exact h0
    .have:=(zn h h4).2 h0;simp at this
   exact .inr ⟨this,c,by rw[this]⟩
  |some p=>exact .inl ⟨p,c,rfl,λw' hw' j u hj=>((hΓ w' hw').mS hm hj).2⟩
 rcases hg with⟨rfl,rfl,rfl,hnil⟩|⟨b,rfl,hob,rfl⟩
 .obtain rfl:=hnil v hsv;have hst:=h.st.tt e sz;obtain⟨u',w',hrun,hst'⟩:=lz (P:=P) (ty:=ty) hE hst (hsrc _ λw' hw'=>hw'.sub (Uv _ _)) hroom1 hroom2;obtain⟨ad',c',e3,hc'⟩:=jo (hst'.all _ (RG ..));subst e3;rw[Sv]at hst';have hEx:=pA (v:=.slice ad' (0+m) c') (h.fresh hn (SH _ _));obtain⟨hEx,hR'⟩:=h.new (w':=w') (v:=.slice ad' (0+m) c') (o:=.v e sz (0+m) ([]++vs)) hn (SH _ _) hst' ⟨_,_,us,b7,RG ..,cA.mono (Sub.refl M) hEx h5,by grind,hroom2⟩;refine bh h1 h2 rfl hd rfl (Sub.refl M) hEx hR' (v:=.slice ad' (0+m) c') ⟨b7,_,_,_,rfl⟩ ?_;simp[Sk,resolve,invoke,UF,hv.eval,hv'.eval,hrun]
 .obtain⟨ad0,c0,us0,k1,k2,k3,k4,k5⟩:=h.ob b _ hob;have hvb:ρ b=some v:=hsv.1;rw[k1]at hvb;simp only[RE]at hvb;subst hvb;have hperm:=h.mem k2;obtain⟨u',w',hrun,hst'⟩:=lz (P:=P) (ty:=ty) hE (h.st.fD hperm) (hsrc _ λw' hw'=>hw'.fD hperm.symm) hroom1 hroom2;obtain⟨ad',c',e3,hc'⟩:=jo (hst'.all _ (RG ..));subst e3;have hdr:=h.drop b;have hbne:b≠fr.aV+d:=by grind
  have hn1:(fr.set b .dK).ob (fr.aV+d)=none:=by rw[cI,J1 (Xv hbne)];exact hn
  have hEx:=pA (v:=.slice ad' (q+m) c') (hdr.fresh hn1 (SH _ _));obtain⟨hEx,hR'⟩:=hdr.new (w':=w') (v:=.slice ad' (q+m) c') (o:=.v e sz (q+m) (cs++vs)) hn1 (SH _ _) hst' ⟨_,_,us0++us,b7,RG ..,cA.mono (Sub.refl M) hEx (cA.app k3 h5),by grind,hroom2⟩;refine bh h1 h2 rfl hd rfl (Sub.refl M) hEx hR' (v:=.slice ad' (q+m) c') ⟨b7,_,_,_,rfl⟩ ?_;simp[Sk,resolve,invoke,UF,hv.eval,hv'.eval,hrun]
end
theorem Y.DY{P:RV}{w0:R0}{L:Lm}{M:Mem}{Γ:List As}{d:Option Nat}{ty:RX}{pos:String}{af:Array Edge}{g:Option (Nat×Bool)}{x:R4}{lo hi:Option R4}{t e sz n:Nat}{ad:Addr}{l h:Nat}
  (hx:bq L x=some (.pointer (some ad))) (hlo:jP L lo 0 l) (hhi:jP L hi n h) (h1:l<=h) (h2:h<=n) (ht:Ns P t n e sz=true) :
  Yq P w0 L M Γ ⟨d,.slice t x lo hi none,ty,pos,af,g⟩ (.slice (some (if n=l then ad else ad.add (l*sz))) (h-l) (n-l)):=λk ac w ha _=>by
 obtain⟨hu,hs,_⟩:=BG ht;have r3:=ie (P:=P) (w:=w) hs;have hl:lo=none/\l=0\/∃y z,lo=some y/\ac.eval y=.int .i64 z/\z=(l:Int):=by
  cases lo with
  |none=>exact .inl ⟨rfl,hlo⟩
  |some y=>obtain⟨z,hz,e⟩:=hlo;exact .inr ⟨y,z,rfl,ha.ev hz,e⟩
 cases hi with
 |none =>
  simp only[jP]at hhi;subst hhi;rcases hl with⟨rfl,rfl⟩|⟨y,z,rfl,hy,hz⟩
  .simp[Sk,ha.ev hx,V0,R7 hu,Tu,SZ,r3]
  .simp[Sk,ha.ev hx,V0,R7 hu,Tu,SZ,r3,hy,bl hz h1]
 |some y =>
  obtain⟨z,hz,e⟩:=hhi;rcases hl with⟨rfl,rfl⟩|⟨y',z',rfl,hy,hz'⟩
  .simp[Sk,ha.ev hx,V0,R7 hu,Tu,SZ,r3,ha.ev hz,bl e h2]
  .simp[Sk,ha.ev hx,V0,R7 hu,Tu,SZ,r3,ha.ev hz,hy,bl e h2,bl hz' h1]
theorem Y.sliceS{P:RV}{w0:R0}{L:Lm}{M:Mem}{Γ:List As}{d:Option Nat}{ty:RX}{pos:String}{af:Array Edge}{g:Option (Nat×Bool)}{x:R4}{lo hi:Option R4}{t:Nat}{b:ByteArray}{l h:Nat}
  (hx:bq L x=some (.string b)) (hlo:jP L lo 0 l) (hhi:jP L hi b.size h) (h1:l<=h) (h2:h<=b.size) (hu:P.underlying t=some .string) :
  Yq P w0 L M Γ ⟨d,.slice t x lo hi none,ty,pos,af,g⟩ (.string (b.extract l h)):=λk ac w ha _=>by
 have key:(Uh t (.string b) (lo.map ac.eval) (hi.map ac.eval) none).run P w=.ok (.string (b.extract l h)) w:=by
  have hl:lo=none/\l=0\/∃y z,lo=some y/\ac.eval y=.int .i64 z/\z=(l:Int):=by
   cases lo with
   |none=>exact .inl ⟨rfl,hlo⟩
   |some y=>obtain⟨z,hz,e⟩:=hlo;exact .inr ⟨y,z,rfl,ha.ev hz,e⟩
  cases hi with
  |none =>
   simp only[jP]at hhi;subst hhi;rcases hl with⟨rfl,rfl⟩|⟨y,z,rfl,hy,hz⟩
   .simp[Uh,R7 hu,SZ]
   .simp[Uh,R7 hu,SZ,hy,bl hz h1]
  |some y =>
   obtain⟨z,hz,e⟩:=hhi;rcases hl with⟨rfl,rfl⟩|⟨y',z',rfl,hy,hz'⟩
   .simp[Uh,R7 hu,SZ,ha.ev hz,bl e h2]
   .simp[Uh,R7 hu,SZ,ha.ev hz,hy,bl e h2,bl hz' h1]
 simp[Sk,ha.ev hx,V0,R7 hu,key]
section
variable {Is:Cx} {P:RV} {tb:Tb} {n:Nat} {w0:R0} {Γ0:List As} {fr:Fr} {ρ:Nat->Option RK} {M:Mem} {lst:List (Nat×As)} {a:Act} {w:R0} {fs fo:List Nat} {o:Out} {Q:Exit->Act->R0->Prop} {d:Nat} {ty:RX} {pos:String} {af:Array Edge} {g:Option (Nat×Bool)}
theorem Br{b:Nat}{x:O}{e:Nat}{cs:List C}(hc:ry x=some (e,cs))(ho:OR M ρ lst b x):∃k us,ρ b=some (ptr k)/\(b,As.own k e us)∈lst/\cA M ρ cs us:=by
 unfold ry at hc;split at hc
 .rename_i e' m ds;simp only[RE,R6]at hc;obtain⟨rfl,rfl⟩:=hc;obtain⟨k,us,h1,h2,h3,h4⟩:=ho
  grind [ti,cA.data]
 .simp only[RE,R6]at hc;obtain⟨rfl,rfl⟩:=hc;exact ho
 .cases hc
theorem Gz{ds vs:List D}{us xs:List RK}(h:bz M ds us)(k:bz M vs xs)(q:Nat):bz M (cB ds q vs) (us.take q++xs++us.drop (q+xs.length)):=by
 unfold cB;rw[k.1];have h1:bz M (ds.take q) (us.take q):=by have:=h.cut 0 q;simpa using this
 have h2:bz M (ds.drop (q+vs.length)) (us.drop (q+vs.length)):=by have:=h.cut (q+vs.length) ds.length;rw[Su Q2,Su (by simp[h.1])]at this;exact this
 exact(h1.append k).append h2
theorem MW{s:S}{m:Nat}{vs:List D}{v:RK}(hf:Km s=some (m,vs))(hv:SR M ρ s v):s≠su/\∃xs,v.cells=xs.toArray/\xs.length=m/\(∀u∈xs,u.oneCell'=true)/\bz M vs xs:=by
 unfold Km at hf;split at hf
 .simp only[RE,R6]at hf;obtain⟨rfl,rfl⟩:=hf;obtain⟨hl,xs,rfl,hrd⟩:=hv;exact⟨by unfold su;simp,xs,rfl,by rw[hrd.1,hl],bz.one hrd,hrd⟩
 .rename_i x;simp only[RE,R6]at hf;obtain⟨rfl,rfl⟩:=hf;have h1:=Rd.one (show Rd M x v from hv);exact⟨by unfold su;simp,[v],by cases v <;> first|rfl|(simp[Value.oneCell']at h1),rfl,by grind,bz.cons hv (bz.nil _)⟩
 .cases hf
theorem xf{us xs:List RK}{q:Nat}:eh us q xs=us.take q++xs++us.drop (q+xs.length):=by simp[eh]
theorem KZ{m q:Nat}{x y:O}(h:qG m x q su=some y):False:=by
 unfold qG at h;have hb:Nq m x q su=none:=by
  unfold Nq;cases x with
  |a e n ds=>dsimp only;cases hB:(Tw 40 n && Bool.not (RN m n)) <;> rfl
  |_=>rfl
 rw[hb]at h;dsimp only at h;split at h
 .cases h
 .simp[su,gV,zB]at h
theorem K0{m q:Nat}{x y:O}{s:S}{v:RK}{b:Nat}(hs:qG m x q s=some y)(ho:OR M ρ lst b x)(hv:SR M ρ s v) :
  s≠su/\∃k e us xs,ρ b=some (ptr k)/\(b,As.own k e us)∈lst/\v.cells=xs.toArray/\xs.length=m/\q+m<=us.length/\(∀u∈xs,u.oneCell'=true)/\∀lst',(b,As.own k e (eh us q xs))∈lst'->OR M ρ lst' b y:=by
 unfold qG at hs;cases hbig:Nq m x q s with
 |some y' =>
  rw[hbig]at hs;simp only[RE]at hs;subst hs;unfold Nq at hbig;cases x with
  |a e n' ds =>
   dsimp only at hbig;cases hB:(Tw 40 n' && Bool.not (RN m n')) with
   |false=>rw[hB]at hbig;cases hbig
   |true =>
    rw[hB]at hbig;cases hfl:Km s with
    |none=>rw[hfl]at hbig;cases hbig
    |some p =>
     obtain⟨m',vs⟩:=p;rw[hfl]at hbig;dsimp only at hbig;split at hbig
     .rename_i hb;simp only[RP]at hb;have e0:=RD hb.1;have e1:q+m<=n':=by simp_all
      simp only[RE]at hbig;subst hbig e0;obtain⟨k,us,h1,h2,h3,h4⟩:=ho;obtain⟨h5,xs,h6,h7,h8,h9⟩:=MW hfl hv;refine⟨h5,k,e,us,xs,h1,h2,h6,h7,by rw[h3.1];omega,h8,λlst' hm=>⟨k,_,h1,hm,?_,?_⟩⟩
      .rw[xf];exact Gz h3 h9 q
      .have:=h9.1;unfold cB;simp only[RS,Sn,S3];omega
     .cases hbig
  |_=>cases hbig
 |none =>
 rw[hbig]at hs;clear hbig;dsimp only at hs;split at hs
 .cases hs
 .rename_i e us0 hc;obtain⟨k,us,h1,h2,h3⟩:=Br hc ho;have hlen:=cA.len h3;split at hs
  .rename_i m' vs;obtain⟨hl,xs,rfl,hrd⟩:=hv;have hxl:xs.length=m':=by rw[hrd.1,hl]
   refine⟨by unfold su;simp,k,e,us,xs,h1,h2,rfl,?_⟩;split at hs
   .rename_i hb;simp only[RP]at hb;have e0:=RD hb.1.1;have e1:=RD hb.1.2;have e2:=RD hb.2;simp only[RE]at hs;subst hs;refine⟨Q0,Q0,bz.one hrd,λlst' hm=>⟨k,xs,h1,?_,hrd,hl⟩⟩;have:eh us q xs=xs:=by unfold eh;simp_all
    rw[<-this];exact hm
   .split at hs
    .rename_i hb;simp only[RP]at hb;have e0:=RD hb.1;have e1:q+m<=us0.length:=by simp_all
     simp only[RE]at hs;subst hs;rw[ti hl];exact⟨Q0,Q0,bz.one hrd,λlst' hm=>⟨k,_,h1,hm,rQ h3 (cA.data hrd)⟩⟩
    .cases hs
  .split at hs
   .rename_i cs hcs;split at hs
    .rename_i hb;simp only[RP]at hb;have e0:=RD hb.1;have e1:q+m<=us0.length:=by simp_all
     simp only[RE]at hs;subst hs;obtain⟨xs,h4,_,h5,h6⟩:=kC hcs hv;refine⟨by rintro rfl;simp[su,gV,zB]at hcs,k,e,us,xs,h1,h2,h4,by rw[cA.len h5,e0],Q0,cA.one h5 h6,λlst' hm=>⟨k,_,h1,hm,rQ h3 h5⟩⟩
    .cases hs
   .cases hs
theorem iC{t:RX}{ad:Addr}{v:RK}{xs:List RK}{w w':R0}(hv:v.cells=xs.toArray)(ht:mz P t xs.length=true)(h:(storeCells ad xs 0).run P w=.ok () w'):(storeVar t ad v).run P w=.ok () w':=by simp[storeVar,hv,ie ht,h]
variable (h1:a.tmps.size=n) (h2:a.defers=[]) (h:Rel w0 Γ0 fr ρ M lst (tv a) w)
theorem xb(h1:a.tmps.size=n)(h2:a.defers=[])(h:Rel w0 Γ0 fr ρ M lst (tv a) w){t:Nat}{x y:R4}{hp:Bool}(hx:∃s sv fs2,(s=su\/∃v,dN a x v/\SR M ρ s v)/\(sv=su\/∃v,dN a y v/\SR M ρ sv v)/\R1 Is fr (qF P t s (qf hp (eJ P t sv))) fs2 fo o):(⟨none,.store t x y,ty,pos,af,g⟩:Oper).wp P a w (aY n w0 Γ0 ρ M ((fr.bp none o.v).aI o.ob)) Q:=by
 obtain⟨s,sv,fs2,hs,hsv,hr⟩:=hx;unfold qF at hr;split at hr
 .exact hr.elim
 .rename_i m hm;split at hr
  .rename_i b q;change R1 Is fr (match fr.ob b with|some x=>_|none=>_) _ _ _ at hr;obtain⟨v,hv,kk,hk,rfl⟩:=br hs (by unfold su;simp);split at hr
   .rename_i x0 hob;split at hr
    .rename_i y0 hst;have hr:o=⟨none,[(b,y0)],_,_⟩:=hr;subst hr;have hne:sv≠su:=by
      grind [sq,KZ]
     obtain⟨u,hu,hsu⟩:=br hsv hne;obtain⟨_,k,e,us,xs,k1,k2,k3,k4,k5,k6,k7⟩:=K0 hst (h.ob b _ hob) (pO (dg hsu));rw[hk]at k1;obtain rfl:kk=k:=by grind
     have hown:=(h.st.all _ (List.mem_append_left _ (Ss k2))).2;have hrun:=kS (P:=P) xs 0 w kk e us q hown Q0 k6;simp only[S2]at hrun;have hst':=(h.st.fD (h.mem k2)).write (eh us q xs) _ rfl;have hR:=h.cB (x':=.own kk e (eh us q xs)) (o:=y0) k2 hst' (k7 _ (RG ..));refine pM (out:=⟨none,[(b,y0)],fs2,(2*b)::fo⟩) h1 h2 rfl (Sub.refl M) (Ext.refl ρ) hR ?_;have:=iC (P:=P) (t:=t) k3 (by grind [fG]) hrun;simp[Sk,hv.eval,hu.eval,Wa,Tu,this];simp[eh]
    .exact hr.elim
   .exact hr.elim
  .rename_i b sz k j;obtain⟨v,hv,ad,nn,c,hk,hkn,rfl⟩:=br hs (by unfold su;simp);change R1 Is fr (match fr.ob b with|some (.v e sz' n us)=>_|_=>_) _ _ _ at hr;split at hr
   .rename_i e sz' n' cs0 hob;split at hr
    .rename_i cs hcs;split at hr
     .rename_i hb;simp only[RP]at hb;have e2:=RD hb.1.2;subst e2;have e3:=RD hb.1.1;have hjm:j+m<=sz:=by simp_all
      have hr:o=⟨none,[(b,.v e sz n' (xo cs0 (k*sz+j) cs))],_,_⟩:=hr;subst hr;have hsu:sv≠su:=by rintro rfl;rw[sq]at hcs;have hcs:gV su=some cs:=hcs;simp[su,gV,zB]at hcs
      obtain⟨u,hu,hsv⟩:=br hsv hsu;obtain⟨xs,k6,_,k7,k8⟩:=kC hcs (pO (dg (P:=P) (t:=t) hsv));obtain⟨ad',c',us,k1,k2,k3,k4,k5⟩:=h.ob b _ hob;rw[hk]at k1;simp only[RE,Sm]at k1;obtain⟨rfl,rfl,rfl⟩:=k1;have hxl:=k7.len;have hle:(k+1)*sz<=nn*sz:=SI _ hkn;rw[SK,U4]at hle;obtain⟨w',r1,r2⟩:=eW (P:=P) (q:=k*sz+j) xs 0 w us (h.st.fD (h.mem k2)) Q0 (cA.one k7 k8);simp only[S2]at r2;have hR':=h.cB (x':=.acc (.slice ad nn c) e sz nn (us.take (k*sz+j)++xs++us.drop (k*sz+j+xs.length))) (o:=.v e sz nn (xo cs0 (k*sz+j) cs)) k2 r2
       ⟨ad,c,_,hk,RG ..,rQ k3 k7,by grind,k5⟩
      refine pM (fr:=fr) (out:=⟨none,[(b,.v e sz nn (xo cs0 (k*sz+j) cs))],[],[]⟩) h1 h2 rfl (Sub.refl M) (Ext.refl ρ) hR' ?_;have:=iC (P:=P) (t:=t) k6 (by grind [fG]) r1;simp[Sk,hv.eval,hu.eval,Wa,Tu,this]
     .exact hr.elim
    .exact hr.elim
   obtain⟨m',vs,os,fo1,hr,hf,hval,hne⟩:=Gw h hr;split at hr
   .rename_i hmm;have e1:=RD hmm;subst e1;change R1 Is fr (match fr.ob b with|some (.w e sz' n ds)=>_|_=>_) _ _ _ at hr;split at hr
    .rename_i e sz' n' ds hob;split at hr
     .rename_i hb;simp only[RP]at hb;have e2:=RD hb.1;subst e2;have hjm:j+m<=sz:=by simp_all
      split at hr
      .exact hr.elim
      .rename_i hany;have hr:o=⟨none,os++[(b,.w e sz n' (cB ds (k*sz+j) vs))],_,_⟩:=hr;subst hr;have hsu:sv≠su:=by grind [sq]
       obtain⟨u,hu,hsv⟩:=br hsv hsu;refine x5 h (o:=⟨none,.store t x y,ty,pos,af,g⟩) rfl hf λM1 lst1 hM hfa hR=>?_;have hbne:∀p∈os,p.1≠b:=λp hp e=>by have:=Wb.1 hany p hp;simp_all
       have hob1:(fr.aI os).ob b=some (.w e sz n' ds):=by grind [gJ]
       obtain⟨ad',c',us,k1,k2,k3,k4,k5⟩:=hR.ob b _ hob1;rw[hk]at k1;simp only[RE,Sm]at k1;obtain⟨rfl,rfl,rfl⟩:=k1;obtain⟨xs,k6,k7,k8⟩:=hval M1 u hM hfa (pO (dg hsv));have hle:(k+1)*sz<=nn*sz:=SI _ hkn;rw[SK,U4]at hle;obtain⟨w',r1,r2⟩:=eW (P:=P) (q:=k*sz+j) xs 0 w us (hR.st.fD (hR.mem k2)) Q0 (bz.one k7);simp only[S2]at r2;have hR':=hR.cB (x':=.acc (.slice ad nn c) e sz nn (us.take (k*sz+j)++xs++us.drop (k*sz+j+xs.length))) (o:=.w e sz nn (cB ds (k*sz+j) vs)) k2 r2
        ⟨ad,c,_,hk,RG ..,Gz k3 k7 _,by grind,k5⟩
       refine pM (fr:=fr.aI os) (out:=⟨none,[(b,.w e sz nn (cB ds (k*sz+j) vs))],[],[]⟩) h1 h2 rfl (Sub.refl M1) (Ext.refl ρ) hR' ?_;have:=iC (P:=P) (t:=t) k6 (by grind [fG]) r1;simp[Sk,hv.eval,hu.eval,Wa,Tu,this]
     .exact hr.elim
    .exact hr.elim
   .exact hr.elim
  .rename_i b q;obtain⟨v,hv,kk,hk,rfl⟩:=br hs (by unfold su;simp);obtain⟨m',vs,os,fo1,hr,hf,hval,hne⟩:=Gw h hr;have hsu:sv≠su:=by grind [sq]
   obtain⟨u,hu,hsv⟩:=br hsv hsu;have key:∀(e n':Nat) (ds:List D),(os.any λp=>RN p.1 b)=false->o=⟨none,os++[(b,.a e n' (cB ds q vs))],fs2,(2*b)::fo1⟩->m=m'->q+m<=n' ->
     (∀M1 lst1,Sub M M1->Rel w0 Γ0 (fr.aI os) ρ M1 lst1 (tv a) w->∃k us,ρ b=some (ptr k)/\(b,As.own k e us)∈lst1/\bz M1 ds us/\ds.length=n') ->
     (⟨none,.store t x y,ty,pos,af,g⟩:Oper).wp P a w (aY n w0 Γ0 ρ M ((fr.bp none o.v).aI o.ob)) Q:=by
    intro e n' ds hany hr e1 hq how;subst hr e1;refine x5 h (o:=⟨none,.store t x y,ty,pos,af,g⟩) rfl hf λM1 lst1 hM hfa hR=>?_;obtain⟨k,us,k1,k2,k3,k4⟩:=how M1 lst1 hM hR;rw[hk]at k1;obtain rfl:kk=k:=by grind
    obtain⟨xs,k6,k7,k8⟩:=hval M1 u hM hfa (pO (dg hsv));have hown:=(hR.st.all _ (List.mem_append_left _ (Ss k2))).2;have hrun:=kS (P:=P) xs 0 w kk e us q hown (by rw[S2,k8,k3.1];omega) (bz.one k7);simp only[S2]at hrun;have hst':=(hR.st.fD (hR.mem k2)).write (eh us q xs) _ rfl
    have hR':=hR.cB (x':=.own kk e (eh us q xs)) (o:=.a e n' (cB ds q vs)) k2 hst' ⟨kk,_,hk,RG ..,by grind [xf,Gz],by
     have:=k7.1;unfold cB;simp only[RS,Sn,S3]
     omega⟩
    refine pM (fr:=fr.aI os) (out:=⟨none,[(b,.a e n' (cB ds q vs))],[],[]⟩) h1 h2 rfl (Sub.refl M1) (Ext.refl ρ) hR' ?_;have:=iC (P:=P) (t:=t) k6 (by grind [fG]) hrun;simp[Sk,hv.eval,hu.eval,Wa,Tu,this];simp[eh]
   split at hr
   .rename_i hmm;have e1:=RD hmm;change R1 Is fr (match os.any λp=>RN p.1 b with|true=>_|false=>match fr.ob b with|some (.a e n ds)=>_|some (.b e cs)=>_|_=>_) _ _ _ at hr;split at hr
    .exact hr.elim
    .rename_i hany;have hbne:∀p∈os,p.1≠b:=λp hp e=>by
      grind [Wb,cN]
     split at hr
     .rename_i e n' ds hob;obtain⟨hq,hr⟩:=hr;refine key e n' ds hany hr e1 hq λM1 lst1 hM hR=>?_;have hob1:(fr.aI os).ob b=some (.a e n' ds):=by grind [gJ]
      exact hR.ob b _ hob1
     .rename_i e cs hob;split at hr
      .rename_i ds hz;obtain⟨hq,hr⟩:=hr;refine key e cs.length ds hany hr e1 hq λM1 lst1 hM hR=>?_;have hob1:(fr.aI os).ob b=some (.b e cs):=by grind [gJ]
       obtain⟨k,us,k1,k2,k3⟩:=hR.ob b _ hob1
       grind [vQ]
      .exact hr.elim
     .exact hr.elim
   .exact hr.elim
  .exact hr.elim
theorem AW(h1:a.tmps.size=n)(h2:a.defers=[])(h:Rel w0 Γ0 fr ρ M lst (tv a) w){t b sz k j:Nat}{x y:R4}{sv:S}{c:C}{fs2:List Nat}(hs:S.c (.q b sz k j)=su\/∃v,dN a x v/\SR M ρ (.c (.q b sz k j)) v)(hsv:sv=su\/∃v,dN a y v/\SR M ρ sv v)(hc:eJ P t sv=.c c)(hk:zB c=true)(hr:R1 Is fr (AX P t b sz k j c) fs2 fo o):(⟨none,.store t x y,ty,pos,af,g⟩:Oper).wp P a w (aY n w0 Γ0 ρ M ((fr.bp none o.v).aI o.ob)) Q:=by
 have hsu:sv≠su:=by rintro rfl;have hc:su=.c c:=hc;simp only[su,S.c.injEq]at hc;rw[<-hc]at hk;cases hk
 obtain⟨u,hu,hsv⟩:=br hsv hsu;have hcu:SR M ρ (.c c) u:=by grind [dg]
 obtain⟨xs,k6,_,k7,k8⟩:=kC (s:=.c c) (cs:=[c]) (by show(match zB c with|true=>some [c]|false=>none)=_;rw[hk]) hcu;obtain⟨v,hv,ad,nn,q,hkr,hkn,rfl⟩:=br hs (by unfold su;simp);have hxl:=k7.len;have put:∀{i:Nat} {us:List RK} {e n':Nat} {ds:List D} {c0:C} {fo':List Nat},i=k*sz+j->n'=nn->ρ b=some (.slice ad n' q)->(b,As.acc (.slice ad n' q) e sz n' us)∈lst->cA M ρ (qd ds i c0) us->us.length=n'*sz->n'<=lim->i<ds.length->Gs P t=some 1->o=⟨none,[(b,.h e sz n' ds i c)],fs2,fo'⟩->(⟨none,.store t x y,ty,pos,af,g⟩:Oper).wp P a w (aY n w0 Γ0 ρ M ((fr.bp none o.v).aI o.ob)) Q:=fun{i us e n' ds c0 fo'} hi hn h3 h4 h5 h6 h7 h8 hm hr=>by
  subst hi hn hr;have hlen:us.length=ds.length:=by rw[h5.len];unfold qd;simp
  simp only[RU,UB]at hxl;obtain⟨w',r1,r2⟩:=eW (P:=P) (q:=k*sz+j) xs 0 w us (h.st.fD (h.mem h4)) Q0 (cA.one k7 k8);simp only[S2]at r2;have h9:=rQ (o:=k*sz+j) h5 k7;rw[N0 (by grind [qd])]at h9;have e9:(qd ds (k*sz+j) c0).set (k*sz+j) c=qd ds (k*sz+j) c:=by unfold qd;rw[List.set_set]
  rw[e9]at h9;have hR':=h.cB (x':=.acc (.slice ad n' q) e sz n' (us.take (k*sz+j)++xs++us.drop (k*sz+j+xs.length))) (o:=.h e sz n' ds (k*sz+j) c) h4 r2
   ⟨ad,q,_,h3,RG ..,h9,by grind,h7,h8⟩
  refine pM (fr:=fr) (out:=⟨none,[(b,.h e sz n' ds (k*sz+j) c)],[],[]⟩) h1 h2 rfl (Sub.refl M) (Ext.refl ρ) hR' ?_;have:=iC (P:=P) (t:=t) k6 (by grind [fG]) r1;simp[Sk,hv.eval,hu.eval,Wa,Tu,this]
 unfold AX at hr;change R1 Is fr (match fr.ob b,Gs P t with|some (.w e sz' n ds),some 1=>_|some (.h e sz' n ds i _),some 1=>_|_,_=>_) _ _ _ at hr;split at hr
 .rename_i e sz' n' ds hob hm;split at hr
  .rename_i hb;simp only[RP]at hb;have e2:=RD hb.1;subst e2;have hj:j<sz:=by simp_all
   obtain⟨ad',q',us,h3,h4,h5,h6,h7⟩:=h.ob b _ hob;rw[hkr]at h3;simp only[RE,Sm]at h3;obtain⟨rfl,rfl,rfl⟩:=h3;have hle:(k+1)*sz<=nn*sz:=SI _ hkn;rw[SK,U4]at hle;have hdl:=h5.1;obtain⟨c0,hc0⟩:∃d,ds[k*sz+j]?=some d:=⟨_,R5 Q0⟩;have e5:qd ds (k*sz+j) (.d c0)=ds.map C.d:=by
    unfold qd;apply List.ext_getElem?
    grind
   exact put (c0:=.d c0) rfl rfl hkr h4 (by grind [cA.data]) h6 h7 Q0 hm hr
  .exact hr.elim
 .rename_i e sz' n' ds i c0 hob hm;split at hr
  .rename_i hb;have e2:=RD hb;subst e2;obtain⟨hck,hr⟩:=hr;obtain⟨ad',q',us,h3,h4,h5,h6,h7,h8⟩:=h.ob b _ hob;rw[hkr]at h3;simp only[RE,Sm]at h3;obtain⟨rfl,rfl,rfl⟩:=h3;exact put hck.symm rfl hkr h4 h5 h6 h7 h8 hm hr
  .exact hr.elim
 .exact hr.elim
theorem OT(h1:a.tmps.size=n)(h2:a.defers=[])(h:Rel w0 Γ0 fr ρ M lst (tv a) w){t:Nat}{x y:R4}(hr:R1 Is fr (match tb.cs.any (RN 2000000) with
   |true=>cP x λs=>cP y λv=>JB P tb.hp t s (eJ P t v)
   |false=>cP x λs=>cP y λv=>qF P t s (qf tb.hp (eJ P t v))) fs fo o):(⟨none,.store t x y,ty,pos,af,g⟩:Oper).wp P a w (aY n w0 Γ0 ρ M ((fr.bp none o.v).aI o.ob)) Q:=by
 split at hr
 .obtain⟨s,fs1,hr,hs⟩:=bI h hr;obtain⟨sv,fs2,hr,hsv⟩:=bI h hr;generalize hc:eJ P t sv=y0 at hr;unfold JB at hr;split at hr
  .exact AW h1 h2 h hs hsv hc rfl hr
  .exact AW h1 h2 h hs hsv hc rfl hr
  .subst hc;exact xb h1 h2 h ⟨_,_,_,hs,hsv,hr⟩
 .obtain⟨s,fs1,hr,hs⟩:=bI h hr;obtain⟨sv,fs2,hr,hsv⟩:=bI h hr;exact xb h1 h2 h ⟨_,_,_,hs,hsv,hr⟩
theorem AP(z:Array RK)(k sz:Nat)(hz:z.size=sz):(Xm z (k*sz)).toList=(Sj k z.toList).flatten:=by
 induction k with
 |zero=>simp[Xm]
 |succ k ih =>
  rw[List.replicate_succ',List.flatten_append,<-ih];unfold Xm;simp only[YW,Array.toList_range,U7,Y6,RW];rw[SK,U4,List.range_add,Si,SP]
  congr 1
  apply List.ext_getElem
  .simp[hz]
  .intro i h3 h4;have hi:i<sz:=by grind
   simp only[List.getElem_map,List.getElem_range,Function.comp];have:(k*sz+i) % z.size=i:=by rw[hz,Un,Nat.mul_comm,Nat.add_mul_mod_self_left,Nat.mod_eq_of_lt hi]
   rw[this];simp[hz,hi]
theorem GV{ds:List D}{us:List RK}(hr:bz M ds us):∀k:Nat,bz M (Sj k ds).flatten (Sj k us).flatten
 |0=>bz.nil _
 |k+1=>by rw[Yy,Yy,U7,U7];exact hr.append (GV hr k)
theorem ok_make(h1:a.tmps.size=n)(h2:a.defers=[])(h:Rel w0 Γ0 fr ρ M lst (tv a) w)(hd:d<n){t:Nat}{x y:R4}(hr:R1 Is fr (cP x λa=>cP y λb=>PD P (fr.aV+d) t a b) fs fo o):(⟨some d,.makeSlice t x y,ty,pos,af,g⟩:Oper).wp P a w (aY n w0 Γ0 ρ M ((fr.bp (some d) o.v).aI o.ob)) Q:=by
 obtain⟨s,fs1,hr,hs⟩:=bI h hr;obtain⟨s',fs2,hr,hs'⟩:=bI h hr;unfold PD at hr;split at hr
 .rename_i e sz hel;split at hr
  .rename_i zs hz hby;have hE:=jl hel hby;obtain⟨p,e1,hr⟩:=eL hr;obtain⟨q,e2,hr⟩:=eL hr;obtain⟨⟨hp0,rfl,hroom⟩,hr⟩:=hr;obtain⟨hn,fo',rfl⟩:=fL hr;obtain⟨k,rfl⟩:=Int.eq_ofNat_of_zero_le hp0;simp only[SF]at hroom ⊢;have hx:=er hs e1;have hy:=er hs' e2;obtain⟨zc,hz1,hz2⟩:∃zc,kF P e=some zc/\zA zc=some zs:=by
    cases hzc:kF P e with
    |none=>simp[hzc]at hz
    |some zc=>rw[hzc]at hz;exact⟨zc,rfl,hz⟩
   obtain⟨zv,hzv,hzr⟩:=hY (M:=M) (ρ:=ρ) hz1;have hzrd:=qA hzr hz2;have hsz:zv.cells.size=sz:=by
    obtain⟨_,⟨i,z,hi,hzz,_,_,hzs⟩,_⟩:=hE
    grind [kE]
   have hroom1:gw P e*k<=281474976710656:=by
    grind [aL]
   have hlim:k<=lim:=by unfold aL at hroom;rw[XD,UG]at hroom;unfold lim;omega
   have hrun:(Sk a.eval ⟨some d,.makeSlice t x y,ty,pos,af,g⟩).run P w=.ok (.value (.slice (some ⟨w.heap.size,0,none⟩) k k)) {w with heap:=w.heap.push (.cells (Xm zv.cells (k*sz)) e (0,0))}:=by
    obtain⟨ht,⟨i,z',hi,hz',hsize,hby',hzs⟩,hpos⟩:=hE;have:z'=zv:=by grind [kE]
    subst this;have hl63:(k:Int)<=9223372036854775807:=by grind [lim]
    have hkb':(i.bytes:Int)*(k:Int)<=281474976710656:=by
     grind
    have hr:=run_make (P:=P) w t e i z' ht hi hz' .i64 .i64 k k Q0 (Int.le_refl _) hkb' hl63;simp only[Sk,hx.eval,hy.eval,TP,hr,SF,hsize];rfl
   have hfl:=AP zv.cells k sz hsz;have hlen:(Xm zv.cells (k*sz)).toList.length=k*sz:=by simp_all
   have hst:=(h.st.alloc e (Xm zv.cells (k*sz)).toList).Cg hlen (by grind [lim,UI]);obtain⟨hEx,hR'⟩:=h.new (v:=.slice (some ⟨w.heap.size,0,none⟩) k k) (o:=.w e sz k (Sj k zs).flatten) hn (SH _ _) hst ⟨_,_,_,b7,RG ..,by grind [GV],hlen,hlim⟩;refine bh (fr:=fr) (out:=⟨some (.c (.w (fr.aV+d))),[(fr.aV+d,.w e sz k (Sj k zs).flatten)],[],[]⟩) h1 h2 rfl hd rfl (Sub.refl M) hEx hR' (v:=.slice (some ⟨w.heap.size,0,none⟩) k k) ⟨b7,_,_,_,rfl⟩ ?_;rw[hrun]
  .exact hr.elim
 .exact hr.elim
theorem gp(h:Rel w0 Γ0 fr ρ M lst (tv a) w){m:Nat}{x:Option R4}{k:Int->bn}(hr:R1 Is fr (nC m x k) fs fo o):∃z fs',R1 Is fr (k z) fs' fo o/\(∀q:Nat,z=(q:Int)->jP (Lf a) x m q):=by
 unfold nC at hr;split at hr
 .exact⟨_,fs,hr,λq hq=>by
   have:m=q:=Q0
   exact this.symm⟩
 .obtain⟨s,fs1,hr,hs⟩:=bI h hr;obtain⟨z,e1,hr⟩:=eL hr;exact⟨z,fs1,hr,λq hq=>⟨z,(er hs e1).bq,hq⟩⟩
theorem ud(h1:a.tmps.size=n)(h2:a.defers=[])(h:Rel w0 Γ0 fr ρ M lst (tv a) w)(hd:d<n){t:Nat}{x:R4}{lo hi mx:Option R4}{s:S}(hs:s=su\/∃v,dN a x v/\SR M ρ s v)(hr:R1 Is fr (tG P t s lo hi mx) fs fo o):(⟨some d,.slice t x lo hi mx,ty,pos,af,g⟩:Oper).wp P a w (aY n w0 Γ0 ρ M ((fr.bp (some d) o.v).aI o.ob)) Q:=by
 unfold tG at hr;split at hr
 .exact hr.elim
 .split at hr
  rotate_left
  .split at hr
   .rename_i m e sz hel;obtain⟨b,q,hr,v,hv,k,hk,rfl⟩:=KG hs hr;obtain⟨l,fs2,hr,hlo⟩:=gp h hr;obtain⟨q2,fs3,hr,hhi⟩:=gp h hr;obtain⟨⟨hl0,hlq,hqm⟩,hr⟩:=hr;obtain rfl:=aU hr;exact aS h1 h2 h rfl hd rfl rfl (show CR M ρ (.y b q sz l.toNat (q2.toNat-l.toNat)) _ from⟨_,m-l.toNat,rfl,⟨Q0,by have:=(mQ hel).2.2;unfold UI;omega⟩,.inl ⟨k,hk,λhn=>by grind [eI]⟩⟩) (Y.DY hv.bq (hlo _ Q0) (hhi _ Q0) Q0 Q0 (mQ hel).1)
   split at hr
   .rename_i hu;obtain⟨b,e1,hr⟩:=nc hr;obtain⟨l,fs2,hr,hlo⟩:=gp h hr;obtain⟨q,fs3,hr,hhi⟩:=gp h hr;obtain⟨⟨hl0,hlq,hqm⟩,hr⟩:=hr;obtain rfl:=aU hr;exact iU h1 h2 h hd rfl rfl rfl (Y.sliceS (er hs e1).bq (hlo _ Q0) (hhi _ Q0) Q0 Q0 hu)
   .exact hr.elim
  .rename_i e sz hel;split at hr
   .rename_i b q sz' l0 m;obtain⟨v,hv,ad,c,rfl,hmc,hb⟩:=br hs (by unfold su;simp);split at hr
    .rename_i hbe;have e2:=RD hbe;subst e2;obtain⟨l,fs2,hr,hlo⟩:=gp h hr;obtain⟨q2,fs3,hr,hhi⟩:=gp h hr;obtain⟨⟨hl0,hlq,hqm⟩,hr⟩:=hr;obtain rfl:=aU hr;have hy:=Y.slice (P:=P) (w0:=w0) (L:=Lf a) (M:=M) (Γ:=lst.map Sg++Γ0) (d:=some d) (ty:=ty) (pos:=pos) (af:=af) (g:=g) (mx:=none) l.toNat q2.toNat c hv.bq (hlo _ Q0) (hhi _ Q0) rfl (.inr rfl) Q0 Q0 (Sc _) (dF hel);refine aS h1 h2 h rfl hd rfl rfl (show CR M ρ (.y b q sz' (l0+l.toNat) (q2.toNat-l.toNat)) _ from ?_) hy;refine⟨_,c-l.toNat,rfl,⟨Q0,Q0⟩,?_⟩;rcases hb with⟨k,hk,hb⟩|⟨a',N,C,hk,hq0,hl,hc,hb⟩
     .refine .inl ⟨k,hk,λhn=>?_⟩
      grind [eI,SK,S8]
     .refine .inr ⟨a',N,C,hk,hq0,Q0,Q0,λhn=>?_⟩
      grind [eI,SK]
    .exact hr.elim
   .rename_i c _;obtain⟨xd,os,fo1,hr,hf,hdat,hne⟩:=C1 h hr;obtain⟨m,cs,rfl,hr⟩:=hr;obtain⟨l,fs2,hr,hlo⟩:=gp h hr;obtain⟨q,fs3,hr,hhi⟩:=gp h hr;obtain⟨⟨hl0,hlq,hqm⟩,hr⟩:=hr;have hr:o=⟨some (.c (.d (.sl (q.toNat-l.toNat) sz (sub cs (l.toNat*sz) ((q.toNat-l.toNat)*sz))))),os,_,_⟩:=hr;subst hr;obtain⟨v,hv,hsv⟩:=br hs (by unfold su;simpa using hne);refine x5 h (o:=⟨some d,.slice t x lo hi none,ty,pos,af,g⟩) (rest:=[]) Q2 hf λM1 lst1 hM hfa hR=>?_;have hrd:=hdat M1 v hM hfa hsv;obtain⟨ad,c',rfl,hmc,_⟩:=hrd.slice;have hcut:=Rd.cut hrd l.toNat q.toNat c' Q0 Q0 (Sc _) Q0;have hy:=Y.slice (P:=P) (w0:=w0) (L:=Lf a) (M:=M1) (Γ:=lst1.map Sg++Γ0) (d:=some d) (ty:=ty) (pos:=pos) (af:=af) (g:=g) (mx:=none) l.toNat q.toNat c' hv.bq (hlo _ Q0) (hhi _ Q0) rfl (.inr rfl) Q0 Q0 (Sc _) (dF hel);exact aS (fr:=fr.aI os) (out:=⟨_,[],[],[]⟩) h1 h2 hR rfl hd rfl rfl hcut hy
   .exact hr.elim
theorem OU(h1:a.tmps.size=n)(h2:a.defers=[])(h:Rel w0 Γ0 fr ρ M lst (tv a) w)(hd:d<n){t:Nat}{x:R4}{lo hi mx:Option R4}(hr:R1 Is fr (cP x λs=>tG P t s lo hi mx) fs fo o):(⟨some d,.slice t x lo hi mx,ty,pos,af,g⟩:Oper).wp P a w (aY n w0 Γ0 ρ M ((fr.bp (some d) o.v).aI o.ob)) Q:=by
 grind [bI,ud]
theorem OY(hT:me P tb)(h1:a.tmps.size=n)(h2:a.defers=[])(h:Rel w0 Γ0 fr ρ M lst (tv a) w)(hd:d<n){t v:Nat}{lo hi mx:Option R4}(hr:R1 Is fr (HP P tb v t lo hi mx) fs fo o):(⟨some d,.slice t (.global v) lo hi mx,ty,pos,af,g⟩:Oper).wp P a w (aY n w0 Γ0 ρ M ((fr.bp (some d) o.v).aI o.ob)) Q:=by
 unfold HP at hr;split at hr
 .rename_i ds m e sz hg hel;split at hr
  .rename_i hb;have e1:=RD hb;obtain rfl:=aU hr;obtain⟨us,h3,h4⟩:=hT.gl v ds hg M h.gr;obtain⟨ha,hsz,hm⟩:=mQ hel;have hy:=Y.DY (P:=P) (w0:=w0) (L:=Lf a) (M:=M) (Γ:=lst.map Sg++Γ0) (d:=some d) (ty:=ty) (pos:=pos) (af:=af) (g:=g) (lo:=none) (hi:=none) (l:=0) (h:=m) (FJ (Lf a) v) rfl rfl (Sy _) (Sc _) ha;have e2:(if m=0 then gd (some ⟨v,0,none⟩) 0 else(gd (some ⟨v,0,none⟩) 0).add (0*sz))=(⟨v,0,none⟩:Addr):=by rw[Vb,eI,cy];simp
   rw[e2,VX]at hy;refine aS h1 h2 h rfl hd rfl rfl ?_ hy;show Rd M (.sl m sz ds) _;simp only[Rd];refine⟨_,_,rfl,Sc _,by unfold UI;omega,by unfold lim;omega,e1,λ_=>rfl,po.mk ds 0 λk x hk=>?_⟩;obtain⟨u,hu1,hu2⟩:=bz.get h3 hk;exact⟨u,by rw[Sz];exact h4 k u hu1,hu2⟩
  .exact hr.elim
 .exact hr.elim
end
open Go.ChangeMaps (setBlock)
theorem _root_.Xe.St.Pj{w0 w:R0}{M:Mem}{Γ:List As}(h:St w0 M Γ w)(o:Obj):St w0 M (.raw w.heap.size o::Γ) (w.alloc o):=by
 have hold:∀b,b<w.heap.size->(w.alloc o).heap[b]?=w.heap[b]?:=λb hb=>heap_alloc_old w o hb;refine⟨h.os,h.tape,h.output,by show _<=(w.heap.push o).size;simp;have:=h.size;omega,λb o hb=>?_,λx hx=>?_,?_⟩
 .rw[hold b (h.lt hb)];exact h.mem b o hb
 .rcases RO.1 hx with rfl|hx
  .exact⟨h.fresh,heap_alloc_new w o⟩
  .exact As.fz (h.all x hx) (Sub.refl M) λb hb=>⟨hold b (As.bk (h.all x hx) hb).1,(As.bk (h.all x hx) hb).2⟩
 .simp only[Sr,As.gx];refine SG.2 ⟨λhm=>?_,h.nodup⟩;obtain⟨x,hx,hb⟩:=List.mem_filterMap.1 hm;have:=(As.bk (h.all x hx) hb).1;omega
theorem _root_.Xe.St.setRaw{w0 w:R0}{M:Mem}{Γ:List As}{b:Nat}{o o':Obj}(h:St w0 M (.raw b o::Γ) w):St w0 M (.raw b o'::Γ) (setBlock w b o'):=by
 obtain⟨hM,hb⟩:=h.all _ (RG ..);have hlt:b<w.heap.size:=(SQ.1 hb).1;have hne:∀c,c≠b->(setBlock w b o').heap[c]?=w.heap[c]?:=λc hc=>by
  show(w.heap.setIfInBounds b o')[c]?=_
  grind
 have hnd:=h.nodup;simp only[Sr,As.gx]at hnd;refine⟨h.os,h.tape,h.output,by show _<=(w.heap.setIfInBounds b o').size;simp;exact h.size,λc x hc=>?_,λx hx=>?_,by grind [As.gx]⟩
 .rw[hne c (λe=>by grind)];exact h.mem c x hc
 .rcases RO.1 hx with rfl|hm
  .exact⟨hM,by show(w.heap.setIfInBounds b o')[b]?=_;simp[hlt]⟩
  .have hx':=h.all x (RM _ hm);refine As.fz hx' (Sub.refl M) λc hc=>⟨hne c λe=>?_,(As.bk hx' hc).2⟩
   grind
theorem _root_.Xe.St.xm{w0 w:R0}{M:Mem}{Γ:List As}{b:Nat}{cur cur':Array RK}{e:RX}(h:St w0 M (.raw b (.cells cur e (0,0))::Γ) w):St w0 M (.raw b (.cells cur' e (0,0))::Γ) (w.setRow b cur'):=by
 obtain⟨hM,hb⟩:=h.all _ (RG ..);have hb':=setRow_heap w b cur cur' e (0,0) hb;have hne:∀c,c≠b->(w.setRow b cur').heap[c]?=w.heap[c]?:=λc hc=>setRow_other w b c cur' hc;have hnd:=h.nodup;simp only[Sr,As.gx]at hnd;refine⟨h.os,h.tape,h.output,by show _<=(w.heap.modify b _).size;simp;exact h.size,λc x hc=>?_,λx hx=>?_,by grind [As.gx]⟩
 .rw[hne c (λe=>by grind)];exact h.mem c x hc
 .rcases RO.1 hx with rfl|hm
  .exact⟨hM,hb'⟩
  .have hx':=h.all x (RM _ hm);refine As.fz hx' (Sub.refl M) λc hc=>⟨hne c λe=>?_,(As.bk hx' hc).2⟩
   grind
theorem _root_.Xe.St.Oi{w0 w:R0}{M:Mem}{Γ:List As}{b n c sz:Nat}{cur:Array RK}{e:RX}{us:List RK}(h:St w0 M (.raw b (.cells cur e (0,0))::Γ) w)(hnc:n<=c)(hcm:c<=UI)(hs:cur.size=c*sz)(hl:us.length=n*sz)(ht:cur.toList.take (n*sz)=us) :
  St w0 M (.acc (.slice (some ⟨b,0,none⟩) n c) e sz n us::Γ) w:=by
 obtain⟨hM,hb⟩:=h.all _ (RG ..);refine⟨h.os,h.tape,h.output,h.size,h.mem,λx hx=>?_,by simpa[Sr,As.gx,S1]using h.nodup⟩;rcases RO.1 hx with rfl|hx
 .exact⟨⟨hl,.inr ⟨b,c,cur,rfl,Sy _,hb,hnc,hcm,hs,ht⟩⟩,λk hk=>by
   simp only[S1,RE]at hk
   rw[<-hk];exact hM⟩
 .exact h.all x (RM _ hx)
section
variable {P:RV} {w:R0}
theorem qm(t ty e:RX)(i:TypeInfo)(ht:P.underlying t=some (.slice e))(hi:P.info? e=some i)(g o sLen sCap:Nat)(cur:Array RK)(e2:RX)(hg:w.heap[g]?=some (.cells cur e2 (0,0)))
  (x:RK) (m:Nat) (news:List RK) (hlen:(Uc x).run P w=.ok m w) (hf:(TL i.size m x).run P w=.ok news.toArray w) (h1:∀u∈news,u.oneCell'=true)
  (hroom:sLen+m<=sCap) (hfit:o+sLen*i.size+news.length<=cur.size) :
  (S7 #[t,t] ty #[.slice (some ⟨g,o,none⟩) sLen sCap,x]).run P w =
   .ok (.slice (some ⟨g,o,none⟩) (sLen+m) sCap) (w.setRow g (cur.toList.take (o+sLen*i.size)++news++cur.toList.drop (o+sLen*i.size+news.length)).toArray):=by
 have hst:=ZK P g (o+sLen*i.size) e2 news 0 cur w hg Q0 h1;simp only[S2]at hst;have ha:(⟨g,o,none⟩:Addr).add (sLen*i.size)=⟨g,o+sLen*i.size,none⟩:=by rw[ZL]
 simp[S7,R7 ht,U1,US,hi,hlen,hroom,hf,ha,hst]
theorem jQ(t ty e:RX)(i:TypeInfo)(ht:P.underlying t=some (.slice e))(hi:P.info? e=some i)(ad:Option Addr)(sLen sCap:Nat)
  (x:RK) (hlen:(Uc x).run P w=.ok 0 w) (hf:(TL i.size 0 x).run P w=.ok #[] w) (hroom:sLen<=sCap) :
  (S7 #[t,t] ty #[.slice ad sLen sCap,x]).run P w=.ok (.slice ad sLen sCap) w:=by
 cases ad with
 |none=>simp[S7,R7 ht,U1,US,hi,hlen,hroom,hf]
 |some a=>simp[S7,R7 ht,U1,US,hi,hlen,hroom,hf,storeCells]
theorem xy(t ty e:RX)(i:TypeInfo)(z:RK)(ht:P.underlying t=some (.slice e))(hi:P.info? e=some i)(hz:i.zero=some z)
  (ad:Option Addr) (sLen sCap:Nat) (olds:List RK) (ho:(TL i.size sLen (.slice ad sLen sCap)).run P w.drew=.ok olds.toArray w.drew)
  (x:RK) (n:Nat) (news:List RK) (hlen:(Uc x).run P w=.ok n w) (hf:(TL i.size n x).run P w.drew=.ok news.toArray w.drew)
  (hg:sCap<sLen+n) (h63:((sLen+n:Nat):Int)<=9223372036854775807) (hfit:X6 (sLen+n) sCap*i.bytes<=281474976710656) :
  (S7 #[t,t] ty #[.slice ad sLen sCap,x]).run P w =
   .ok (.slice (some ⟨w.heap.size,0,none⟩) (sLen+n) (VP w (sLen+n) sCap e))
    (w.drew.alloc (.cells (olds.toArray++news.toArray++SX z.cells (VP w (sLen+n) sCap e-(sLen+n))) e)):=by
 have hn:¬(sLen+n<=sCap):=Q0;have h63':¬(9223372036854775807<((sLen:Int)+(n:Int))):=Q0;have h48':¬(281474976710656<X6 (sLen+n) sCap*i.bytes):=Q0;simp[S7,R7 ht,U1,US,zeroValue,hi,hz,hlen,hn,h63',h48',Question.forced,hf,ho,newRow,VP]
 congr 2
 apply Array.ext';simp[R9]
end
theorem gH.run{P:RV}{w0 w:R0}{M:Mem}{Γ:List As}{x:RK}{sz m:Nat}{news:List RK}(hs:gH w0 M Γ x sz m news)(hw:St w0 M Γ w):(Uc x).run P w=.ok m w/\(TL sz m x).run P w=.ok news.toArray w:=by
 obtain⟨hl,h1,hsrc⟩:=hs;rcases hsrc with⟨p,c,rfl,hnews⟩|⟨rfl,c,rfl⟩
 .exact⟨by simp[Uc],Zo w sz m p m c news hl (hnews w hw)⟩
 .have e0:news=[]:=Sq Q0;subst e0;exact⟨by simp[Uc],Zp w sz 0 0 c⟩
section
variable {P:RV} {tb:Tb} {Is:Cx} {n:Nat} {w0:R0} {Γ0:List As} {fr:Fr} {ρ:Nat->Option RK} {M:Mem} {lst:List (Nat×As)} {a:Act} {w:R0} {fs fo:List Nat} {o:Out} {Q:Exit->Act->R0->Prop} {ty:RX} {pos:String} {af:Array Edge} {g:Option (Nat×Bool)} {d:Nat}
def xB(fr:Fr)(b e sz N:Nat)(ds:List D):Prop:=fr.ob b=some (.w e sz N ds)\/fr.ob b=some (.x e sz N ds)
theorem B1(h:Rel w0 Γ0 fr ρ M lst (tv a) w){b e sz N:Nat}{ds:List D}(hob:xB fr b e sz N ds):∃ad c us,ρ b=some (.slice ad N c)/\bz M ds us/\us.length=N*sz/\N<=lim/\tu lst b e sz N ad c us:=by
 rcases hob with hob|hob
 .obtain⟨ad,c,us,h1,h2,h3,h4,h5⟩:=h.ob b _ hob;exact⟨ad,c,us,h1,h3,h4,h5,.inl h2⟩
 .exact h.ob b _ hob
theorem B2{sz:Nat}{s:S}{k:Nat->Nat->Nat->Nat->Nat->List D->bn}{nzz:bn}(hr:R1 Is fr (Oh sz s k nzz) fs fo o) :
  (∃fo',R1 Is fr nzz fs fo' o/\((∃b,s=.c (.w b)/\∀e N ds,¬xB fr b e sz N ds)\/(∃b q sz' l n,s=.c (.y b q sz' l n))\/(∀b,s≠.c (.w b)))) \/
  ∃b l n N e ds fo',R1 Is fr (k b l n N e ds) fs fo' o/\xB fr b e sz N ds/\((s=.c (.w b)/\l=0/\n=N)\/s=.c (.y b 0 sz l n)):=by
 unfold Oh at hr;split at hr
 .rename_i b;change R1 Is fr (match fr.ob b with|some (.w e sz' N ds)=>_|some (.x e sz' N ds)=>_|_=>_) _ _ _ at hr;split at hr
  .rename_i e sz' N ds hob;split at hr
   .rename_i hb;have e1:=RD hb;subst e1;exact .inr ⟨b,0,N,N,e,ds,_,hr,.inl hob,.inl ⟨rfl,rfl,rfl⟩⟩
   .exact hr.elim
  .rename_i e sz' N ds hob;split at hr
   .rename_i hb;have e1:=RD hb;subst e1;exact .inr ⟨b,0,N,N,e,ds,_,hr,.inr hob,.inl ⟨rfl,rfl,rfl⟩⟩
   .exact hr.elim
  .rename_i x h1 h2;refine .inl ⟨_,hr,.inl ⟨b,rfl,λe N ds hob=>?_⟩⟩;rcases hob with hob|hob
   .exact h1 _ _ _ _ hob
   .exact h2 _ _ _ _ hob
 .rename_i b q sz' l n;change R1 Is fr (match fr.ob b with|some (.w e sz' N ds)=>_|some (.x e sz' N ds)=>_|_=>_) _ _ _ at hr;split at hr
  .rename_i e sz2 N ds hob;split at hr
   .rename_i hb;simp only[RP]at hb;have e1:=RD hb.1;have e2:=RD hb.2.1;have e3:=RD hb.2.2;subst e1 e2 e3;exact .inr ⟨b,l,n,N,e,ds,_,hr,.inl hob,.inr rfl⟩
   .exact hr.elim
  .rename_i e sz2 N ds hob;split at hr
   .rename_i hb;simp only[RP]at hb;have e1:=RD hb.1;have e2:=RD hb.2.1;have e3:=RD hb.2.2;subst e1 e2 e3;exact .inr ⟨b,l,n,N,e,ds,_,hr,.inr hob,.inr rfl⟩
   .exact hr.elim
  .exact .inl ⟨_,hr,.inr (.inl ⟨b,q,sz',l,n,rfl⟩)⟩
 .rename_i hne _;exact .inl ⟨_,hr,.inr (.inr λb e=>hne b e)⟩
theorem nu(h:Rel w0 Γ0 fr ρ M lst (tv a) w){b e sz N l m:Nat}{ds:List D}(hob:xB fr b e sz N ds){s:S}{v:RK}(hs:(s=.c (.w b)/\l=0/\m=N)\/s=.c (.y b 0 sz l m))(hv:SR M ρ s v) :
  ∃ad0 c0 us ad c,ρ b=some (.slice ad0 N c0)/\bz M ds us/\us.length=N*sz/\N<=lim/\tu lst b e sz N ad0 c0 us/\v=.slice ad m c/\l+m<=N/\l+c=c0/\m<=c/\(N<=c0/\c0<=UI)/\(0<c->ad=some (gd ad0 (l*sz))):=by
 obtain⟨ad0,c0,us,h1,h2,h3,h4,h5⟩:=B1 h hob;have hc:=h5.cap h.st;rcases hs with⟨rfl,rfl,rfl⟩|rfl
 .have e1:ρ b=some v:=hv.1;rw[h1]at e1;simp only[RE]at e1;subst e1;refine⟨ad0,c0,us,ad0,c0,h1,h2,h3,h4,h5,rfl,Q0,Q0,hc.1,hc,λhc0=>?_⟩;rcases h5 with h5|⟨_,_,g,l0,cur,h7,_⟩
  .obtain⟨⟨_,hh⟩,_⟩:=h.st.all _ (List.mem_append_left _ (Ss h5));rcases hh with⟨e4,e5⟩|⟨b',cap,cur,e4,_⟩
   .simp only[Sm]at e4;omega
   .simp only[Sm]at e4;rw[e4.1,Vb];rfl
  .rw[h7 hc0,Vb];rfl
 .obtain⟨ad,c,rfl,hmc,hb⟩:=hv;rcases hb with⟨k,hk,_⟩|⟨a',N',C,hk,_,hl,hcC,hb⟩
  .rw[h1]at hk;cases hk
  .rw[h1]at hk;simp only[RE,Sm]at hk;obtain⟨rfl,rfl,rfl⟩:=hk;exact⟨ad0,c0,us,ad,c,h1,h2,h3,h4,h5,rfl,hl,hcC,hmc.1,hc,hb⟩
theorem L9(h1:a.tmps.size=n)(h2:a.defers=[])(h:Rel w0 Γ0 fr ρ M lst (tv a) w)(hd:d<n){t:Nat}{x:R4}{lo hi mx:Option R4}(hr:R1 Is fr (cP x λs=>BW P t s lo hi mx) fs fo o):(⟨some d,.slice t x lo hi mx,ty,pos,af,g⟩:Oper).wp P a w (aY n w0 Γ0 ρ M ((fr.bp (some d) o.v).aI o.ob)) Q:=by
 have hr0:=bI h hr;clear hr;obtain⟨s,fs1,hr,hs⟩:=hr0;unfold BW at hr;split at hr
 .grind [ud]
 .rename_i e sz hel;split at hr
  .rename_i sz';split at hr
   .rename_i hbe;have e2:=RD hbe;subst e2;obtain⟨l,fs2,hr2,hlo⟩:=gp h hr;obtain⟨q2,fs3,hr3,hhi⟩:=gp h hr2;obtain⟨⟨rfl,rfl⟩,hr4⟩:=hr3;obtain rfl:=aU hr4;obtain⟨v,hv,hv2⟩:=br hs (by unfold su;simp);obtain rfl:v=.slice none 0 0:=hv2;have hy:=Y.slice (P:=P) (w0:=w0) (L:=Lf a) (M:=M) (Γ:=lst.map Sg++Γ0) (d:=some d) (ty:=ty) (pos:=pos) (af:=af) (g:=g) (mx:=none) 0 0 0 hv.bq (hlo 0 rfl) (hhi 0 rfl) rfl (.inr rfl) (Sc _) (Sc _) (Sc _) (dF hel);exact aS h1 h2 h rfl hd rfl rfl (show CR M ρ (.l sz') _ from rfl) hy
   .exact hr.elim
  .rename_i hnl;rcases B2 hr with⟨fo',hr,_⟩|⟨b,l0,m,N,e',ds,fo',hr,hob,hsb⟩
   .grind [ud]
   .have hne:s≠su:=by rcases hsb with⟨rfl,_⟩|rfl <;> (unfold su;simp)
    obtain⟨v,hv,hsv⟩:=br hs hne;obtain⟨ad0,c0,us,ad,c,k1,k2,k3,k4,k5,rfl,k7,k8,k9,k10,k11⟩:=nu h hob hsb hsv;obtain⟨l,fs2,hr2,hlo⟩:=gp h hr;obtain⟨q2,fs3,hr3,hhi⟩:=gp h hr2;clear hr hr2;cases mx with
    |none=>have hr:=hr3;obtain⟨⟨hl0,hlq,hqm⟩,hr⟩:=hr;obtain rfl:=aU hr;have hy:=Y.slice (P:=P) (w0:=w0) (L:=Lf a) (M:=M) (Γ:=lst.map Sg++Γ0) (d:=some d) (ty:=ty) (pos:=pos) (af:=af) (g:=g) (mx:=none) l.toNat q2.toNat c hv.bq (hlo _ Q0) (hhi _ Q0) rfl (.inr rfl) Q0 Q0 (Sc _) (dF hel);refine aS h1 h2 h rfl hd rfl rfl (show CR M ρ (.y b 0 sz (l0+l.toNat) (q2.toNat-l.toNat)) _ from ?_) hy;refine⟨_,c-l.toNat,rfl,⟨Q0,Q0⟩,.inr ⟨ad0,N,c0,k1,rfl,Q0,Q0,λhn=>?_⟩⟩;rw[J1 Q0,k11 Q0];simp[eI,SK]
    |some mo=>have hr:=hr3;obtain⟨m3,fs4,hr,hmx⟩:=gp h hr;obtain⟨⟨hi1,hl0,hlq,hqm,hm⟩,hr⟩:=hr;obtain rfl:=aU hr;have hmx2:jP (Lf a) (some mo) c m3.toNat:=hmx _ Q0;have hy:=Y.slice (P:=P) (w0:=w0) (L:=Lf a) (M:=M) (Γ:=lst.map Sg++Γ0) (d:=some d) (ty:=ty) (pos:=pos) (af:=af) (g:=g) (mx:=some mo) l.toNat q2.toNat m3.toNat hv.bq (hlo _ Q0) (hhi _ Q0) hmx2 (.inl hi1) Q0 Q0 Q0 (dF hel);exact aS h1 h2 h rfl hd rfl rfl (SR_su _) hy
theorem Rel.Ow(h:Rel w0 Γ0 fr ρ M lst (tv a) w){b e sz N:Nat}{ad0:Option Addr}{c0:Nat}{us:List RK}(_:us.length=N*sz)(hX:tu lst b e sz N ad0 c0 us)(hc:0<c0) :
  ∃g0 l0 cur,ad0=some ⟨g0,l0*sz,none⟩/\cur.size=(l0+c0)*sz/\(cur.toList.drop (l0*sz)).take (N*sz)=us/\w.heap[g0]?=some (.cells cur e (0,0))/\M g0=none /\
   ∃R,St w0 M (.raw g0 (.cells cur e (0,0))::((lst.filter λp=>!RN p.1 b).map Sg++Γ0)) w/\R=():=by
 rcases hX with hX|⟨_,_,g0,l0,cur,h7,h8,h9,h10⟩
 .have hp:=h.st.fD (h.mem hX);obtain⟨⟨hl,hh⟩,hM⟩:=hp.all _ (RG ..);rcases hh with⟨e4,e5⟩|⟨g0,cap,cur,e4,_,hb,hnc,hcm,hcs,htk⟩
  .simp only[Sm]at e4;omega
  .simp only[Sm]at e4;obtain⟨rfl,_,rfl⟩:=e4;have hMg:=hM g0 rfl;refine⟨g0,0,cur,Q2,by grind,by grind,hb,hMg,(),?_,rfl⟩;refine⟨hp.os,hp.tape,hp.output,hp.size,hp.mem,λx hx=>?_,by simpa[Sr,As.gx,S1]using hp.nodup⟩;rcases RO.1 hx with rfl|hx
   .exact⟨hMg,hb⟩
   .exact hp.all x (RM _ hx)
 .have hp:=h.st.fD (h.mem h8);obtain⟨hM,hb⟩:=hp.all _ (RG ..);exact⟨g0,l0,cur,h7 hc,h9,h10,hb,hM,(),hp,rfl⟩
theorem bz.sub{M:Mem}{ds:List D}{us:List RK}(h:bz M ds us)(o n:Nat):bz M (Pm.sub ds o n) ((us.drop o).take n):=by
 refine⟨by simp[Pm.sub,h.1],λk d u h1 h2=>?_⟩;unfold Pm.sub at h1;rw[TE,TV]at h1 h2;split at h1
 .rename_i hk;rw[J2 hk]at h2;exact h.2 _ d u h1 h2
 .cases h1
theorem bz.takeP{M:Mem}{ds:List D}{us:List RK}(h:bz M ds us)(n:Nat):bz M (ds.take n) (us.take n):=by
 have:=bz.sub h 0 n
 grind [Pm.sub]
theorem bz.dropP{M:Mem}{ds:List D}{us:List RK}(h:bz M ds us)(n:Nat):bz M (ds.drop n) (us.drop n):=by refine⟨by simp[h.1],λk d u h1 h2=>?_⟩;rw[TV]at h1 h2;exact h.2 _ d u h1 h2
theorem gH.x6{w0:R0}{M:Mem}{Γ:List As}{ad:Option Addr}{m c sz:Nat}{us:List RK}{ds:List D}(hr:bz M ds us)(hl:us.length=m*sz)(hs:0<m->ad.isSome=true)(hc:∀w,St w0 M Γ w->∀j u,us[j]?=some u->w.cell? (gd ad j)=some u):gH w0 M Γ (.slice ad m c) sz m us:=by
 refine⟨hl,bz.one hr,?_⟩;cases ad with
 |none =>
  have:m=0:=by
   grind
  exact .inr ⟨this,c,by rw[this]⟩
 |some p=>exact .inl ⟨p,c,rfl,λw' hw' j u hj=>hc w' hw' j u hj⟩
theorem GF(h:Rel w0 Γ0 fr ρ M lst (tv a) w){sz:Nat}{s:S}{k:Nat->List D->bn}(hr:R1 Is fr (DH sz s k) fs fo o):∃m vs fo',R1 Is fr (k m vs) fs fo' o/\s≠su /\
  ∀v,SR M ρ s v->∃us,bz M vs us/\us.length=m*sz/\∀Γ,(∀w',St w0 M Γ w'->St w0 M (lst.map Sg++Γ0) w')->gH w0 M Γ v sz m us:=by
 unfold DH at hr;split at hr
 .rename_i b q sz' l n;rcases B2 hr with⟨fo',hr,_⟩|⟨b',l',m,N,e,ds,fo',hr,hob,hsb⟩
  .exact hr.elim
  .refine⟨m,_,fo',hr,by unfold su;simp,λv hv=>?_⟩;obtain⟨ad0,c0,us,ad,c,k1,k2,k3,k4,k5,rfl,k7,k8,k9,k10,k11⟩:=nu h hob hsb hv;refine⟨(us.drop (l'*sz)).take (m*sz),?_,?_,λΓ hΓ=>?_⟩
   .exact bz.sub k2 (l'*sz) (m*sz)
   .rw[Sn,S3,k3,<-Wq];exact Tf (SI _ Q0)
   .refine gH.x6 (ds:=sub ds (l'*sz) (m*sz)) (bz.sub k2 _ _) ?_ (λhm=>?_) (λw' hw' j u hj=>?_)
    .rw[Sn,S3,k3,<-Wq];exact Tf (SI _ Q0)
    .rw[k11 Q0];rfl
    .rw[TE,TV]at hj;split at hj
     .rename_i hjm;have hm:0<m:=by
       grind
      rw[k11 Q0,<-lV];exact(k5.cell (hΓ w' hw') k3 hj).2
     .cases hj
 .obtain⟨m,vs,fo',hr,hk⟩:=GM h hr;have hne:s≠su:=by rcases hk with rfl|⟨rfl,_⟩|⟨b,rfl,_⟩ <;> (unfold su;simp)
  refine⟨m,vs,fo',hr,hne,λv hv=>?_⟩;obtain⟨ad,c,us,rfl,hc,h3,h4,h5,h6,h7⟩:=pI h hv hk;exact⟨us,h3,h4,λΓ hΓ=>gH.x6 h3 h4 h6 λw' hw' j u hj=>h7 j u hj w' (hΓ w' hw')⟩
theorem Cn(h1:a.tmps.size=n)(h2:a.defers=[])(h:Rel w0 Γ0 fr ρ M lst (tv a) w)(hd:d<n){t e sz:Nat}{x y:R4}{s s':S}(hE:gy P t e sz (gw P e))(hs:s=su\/∃v,dN a x v/\SR M ρ s v)(hs':s'=su\/∃v,dN a y v/\SR M ρ s' v)
  (hr:R1 Is fr (AY e sz s λn ds os=>DH sz s' λm vs=>iZ (aL (n+m) (gw P e+1)) (jT (fr.aV+d) (.c (.w (fr.aV+d))) os (.w e sz (n+m) (ds++vs)))) fs fo o):(⟨some d,.call ⟨.builtin .append,#[x,y],#[t,t]⟩,ty,pos,af,g⟩:Oper).wp P a w (aY n w0 Γ0 ρ M ((fr.bp (some d) o.v).aI o.ob)) Q:=by
 obtain⟨m,ds,os,fo1,hr,hne,hg⟩:=grow_R1 (M:=M) (ρ:=ρ) hr;obtain⟨q,xs,fo2,hr,hne',hsrc0⟩:=GF h hr;obtain⟨hroom,hr⟩:=hr;obtain⟨hn,fo',rfl⟩:=fL hr;obtain⟨v,hv,hsv⟩:=br hs hne;obtain⟨v',hv',hsv'⟩:=br hs' hne';obtain⟨us,h3,h4,hsrc⟩:=hsrc0 v' hsv';have hroom1:(m+q)*gw P e<=140737488355328:=by
  grind [aL]
 have hroom2:m+q<=lim:=by unfold aL at hroom;rw[XD,UG]at hroom;unfold lim;omega
 rcases hg with⟨rfl,rfl,rfl,hnil⟩|⟨b,rfl,hob,rfl⟩
 .obtain rfl:=hnil v hsv;have hst:=h.st.tt e sz;obtain⟨u',w',hrun,hst'⟩:=lz (P:=P) (ty:=ty) hE hst (hsrc _ λw' hw'=>hw'.sub (Uv _ _)) hroom1 hroom2;obtain⟨ad',c',e3,hc'⟩:=jo (hst'.all _ (RG ..));subst e3;rw[Sv]at hst';obtain⟨hEx,hR'⟩:=h.new (w':=w') (v:=.slice ad' (0+q) c') (o:=.w e sz (0+q) ([]++xs)) hn (SH _ _) hst' ⟨_,_,us,b7,RG ..,h3,by grind,hroom2⟩;refine bh h1 h2 rfl hd rfl (Sub.refl M) hEx hR' (v:=.slice ad' (0+q) c') ⟨b7,_,_,_,rfl⟩ ?_;simp[Sk,resolve,invoke,UF,hv.eval,hv'.eval,hrun]
 .obtain⟨ad0,c0,us0,k1,k2,k3,k4,k5⟩:=h.ob b _ hob;have hvb:ρ b=some v:=hsv.1;rw[k1]at hvb;simp only[RE]at hvb;subst hvb;have hperm:=h.mem k2;obtain⟨u',w',hrun,hst'⟩:=lz (P:=P) (ty:=ty) hE (h.st.fD hperm) (hsrc _ λw' hw'=>hw'.fD hperm.symm) hroom1 hroom2;obtain⟨ad',c',e3,hc'⟩:=jo (hst'.all _ (RG ..));subst e3;have hdr:=h.drop b;have hbne:b≠fr.aV+d:=by grind
  have hn1:(fr.set b .dK).ob (fr.aV+d)=none:=by rw[cI,J1 (Xv hbne)];exact hn
  obtain⟨hEx,hR'⟩:=hdr.new (w':=w') (v:=.slice ad' (m+q) c') (o:=.w e sz (m+q) (ds++xs)) hn1 (SH _ _) hst' ⟨_,_,us0++us,b7,RG ..,k3.append h3,by grind,hroom2⟩;refine bh h1 h2 rfl hd rfl (Sub.refl M) hEx hR' (v:=.slice ad' (m+q) c') ⟨b7,_,_,_,rfl⟩ ?_;simp[Sk,resolve,invoke,UF,hv.eval,hv'.eval,hrun]
theorem nz(h1:a.tmps.size=n)(h2:a.defers=[])(h:Rel w0 Γ0 fr ρ M lst (tv a) w)(hd:d<n){t:Nat}{x y:R4}{s s':S}(hs:s=su\/∃v,dN a x v/\SR M ρ s v)(hs':s'=su\/∃v,dN a y v/\SR M ρ s' v)(hr:R1 Is fr (nL P (fr.aV+d) t s s') fs fo o):(⟨some d,.call ⟨.builtin .append,#[x,y],#[t,t]⟩,ty,pos,af,g⟩:Oper).wp P a w (aY n w0 Γ0 ρ M ((fr.bp (some d) o.v).aI o.ob)) Q:=by
 unfold nL at hr;split at hr
 .exact hr.elim
 .rename_i e sz hel;split at hr
  .exact hr.elim
  .rename_i hby;have hE:=jl hel hby;have old:∀fo,R1 Is fr (AY e sz s λn ds os=>DH sz s' λm vs=>iZ (aL (n+m) (gw P e+1)) (jT (fr.aV+d) (.c (.w (fr.aV+d))) os (.w e sz (n+m) (ds++vs)))) fs fo o ->
     (⟨some d,.call ⟨.builtin .append,#[x,y],#[t,t]⟩,ty,pos,af,g⟩:Oper).wp P a w (aY n w0 Γ0 ρ M ((fr.bp (some d) o.v).aI o.ob)) Q:=λfo hr=>Cn h1 h2 h hd hE hs hs' hr
   split at hr
   .rename_i b2;change R1 Is fr (match fr.ob b2 with|some (.v e2 sz2 m vs)=>_|_=>_) _ _ _ at hr;split at hr
    .rename_i e2 sz2 m vs hob2;split at hr
     .rename_i hb;simp only[RP]at hb
      grind [RD,Cm]
     .exact hr.elim
    .exact old _ hr
   .exact old _ hr
theorem Mf(h1:a.tmps.size=n)(h2:a.defers=[])(h:Rel w0 Γ0 fr ρ M lst (tv a) w)(hd:d<n){t:Nat}{x y:R4}(hr:R1 Is fr (cP x λs=>cP y λv=>nL P (fr.aV+d) t s v) fs fo o):(⟨some d,.call ⟨.builtin .append,#[x,y],#[t,t]⟩,ty,pos,af,g⟩:Oper).wp P a w (aY n w0 Γ0 ρ M ((fr.bp (some d) o.v).aI o.ob)) Q:=by
 grind [bI,nz]
theorem DI{cur:List RK}{o k:Nat}{news us:List RK}(hl:o+k+news.length<=cur.length)(hu:us=(cur.drop o).take k):((cur.take (o+k)++news++cur.drop (o+k+news.length)).drop o).take (k+news.length)=us++news:=by subst hu;rw[R9,WR,Sn,W4,show o+k-o=k by omega,show o-min (o+k) cur.length=0 by omega,Te];rw[Vg,Sn,S3,VM,show min (k+news.length) k=k by omega,show k+news.length-min k (cur.length-o)=news.length by omega,X3]
theorem DJ(cur:Array RK)(p:Nat)(news:List RK)(h:p+news.length<=cur.size):(cur.toList.take p++news++cur.toList.drop (p+news.length)).toArray.size=cur.size:=by
 grind
theorem Qk(h:Rel w0 Γ0 fr ρ M lst (tv a) w){b e t sz N l m q bts id:Nat}{ds vs:List D}(hid:fr.aV<=id)(hfree:fr.ob id=none)(hE:gy P t e sz bts)(hob:xB fr b e sz N ds){s:S}{v x:RK}(hs:(s=.c (.w b)/\l=0/\m=N)\/s=.c (.y b 0 sz l m))(hv:SR M ρ s v)(hlm:l+m=N)(hq:0<q)
  (hsrc:∃us,bz M vs us/\us.length=q*sz/\∀Γ,(∀w',St w0 M Γ w'->St w0 M (lst.map Sg++Γ0) w')->gH w0 M Γ x sz q us) (hroom1:(m+q)*bts<=140737488355328) (hroom2:m+q<=lim) :
  ∃w' u ρ' lst',(S7 #[t,t] ty #[v,x]).run P w=.ok u w'/\Ext ρ ρ'/\ρ' id=some u/\(∃a' n' c',u=.slice a' n' c')/\Rel w0 Γ0 ((fr.set b .dK).set id (.x e sz (m+q) (sub ds (l*sz) (m*sz)++vs))) ρ' M lst' (tv a) w':=by
 obtain⟨ht,⟨i,z,hi,hz,hsize,hby,hzs⟩,hpos⟩:=hE;obtain⟨ad0,c0,us,ad,c,k1,k2,k3,k4,k5,rfl,k7,k8,k9,k10,k11⟩:=nu h hob hs hv;obtain⟨news,n1,n2,n3⟩:=hsrc;have hlim:m+q<=UI:=by grind [lim,UI]
 have hso:=n3 _ (λ_ h=>h);obtain⟨r1,r2⟩:=Pm.gH.run (P:=P) hso h.st;have hold:((us.drop (l*sz)).take (m*sz)).length=m*sz:=by
  rw[Sn,S3,k3,<-Wq]
  grind
 have hdr:=h.drop b;have hbne:b≠id:=by rintro rfl;rcases hob with hob|hob <;> (rw[hfree]at hob;cases hob)
 have hn1:(fr.set b .dK).ob id=none:=by rw[cI,J1 (Xv hbne)];exact hfree
 have hdata:bz M (sub ds (l*sz) (m*sz)++vs) ((us.drop (l*sz)).take (m*sz)++news):=(bz.sub k2 _ _).append n1;have hlen2:((us.drop (l*sz)).take (m*sz)++news).length=(m+q)*sz:=by grind
 subst hsize;subst hby;by_cases hroom:m+q<=c
 .obtain⟨g0,l0,cur,q1,q2,q3,q4,q5,_,q6,_⟩:=h.Ow k3 k5 Q0;have had:ad=some ⟨g0,(l0+l)*i.size,none⟩:=by grind [cy,SK]
  subst had;have hsz:(l0+l)*i.size+m*i.size+news.length<=cur.size:=by rw[q2,n2,<-SK,<-SK];exact SI _ Q0
  have hrun:=qm (P:=P) (w:=w) t ty e i ht hi g0 ((l0+l)*i.size) m c cur e q4 x q news r1 r2 hso.2.1 hroom hsz;have hst:=q6.xm (cur':=(cur.toList.take ((l0+l)*i.size+m*i.size)++news++cur.toList.drop ((l0+l)*i.size+m*i.size+news.length)).toArray);obtain⟨hEx,hR'⟩:=hdr.new (w':=w.setRow g0 _) (v:=.slice (some ⟨g0,(l0+l)*i.size,none⟩) (m+q) c) (o:=.x e i.size (m+q) (sub ds (l*i.size) (m*i.size)++vs)) hn1 hid hst
   ⟨_,_,_,b7,hdata,hlen2,hroom2,.inr ⟨hroom,Q0,g0,l0+l,_,λ_=>rfl,RG ..,by grind [DJ],by
    rw[show(m+q)*i.size=m*i.size+news.length by grind];refine DI Q0 ?_;rw[<-q3,W4,TR,VM,<-SK]
    congr 1
    rw[<-Wq,Tf (SI _ Q0)]⟩⟩
  exact⟨_,_,_,_,hrun,hEx,b7,⟨_,_,_,rfl⟩,hR'⟩
 .have hrm:c<m+q:=Q0;have hfit:=growslice_fits (need:=m+q) (old:=c) (bytes:=i.bytes) hrm hroom1;have hstd:=h.st.iW (w.drawn+1);obtain⟨_,r2'⟩:=Pm.gH.run (P:=P) hso hstd;have hof:(TL i.size m (.slice ad m c)).run P w.drew=.ok ((us.drop (l*i.size)).take (m*i.size)).toArray w.drew:=by
   have:=gH.x6 (w0:=w0) (M:=M) (Γ:=lst.map Sg++Γ0) (ad:=ad) (c:=c) (ds:=sub ds (l*i.size) (m*i.size)) (bz.sub k2 (l*i.size) (m*i.size)) hold (λhm=>by grind) (λw' hw' j u hj=>by
    rw[TE,TV]at hj;split at hj
    .rename_i hjm;have hm:0<m:=by
      grind
     rw[k11 Q0,<-lV];exact(k5.cell hw' k3 hj).2
    .cases hj)
   exact(Pm.gH.run (P:=P) this hstd).2
  have hrun:=xy (P:=P) (w:=w) t ty e i z ht hi hz ad m c _ hof x q news r1 r2' hrm (by grind [lim]) hfit;have hge:=grownCap_ge w (m+q) c e;have hcm:VP w (m+q) c e<=UI:=grownCap_le_maxLen w (m+q) c e hlim;have hst:=(hdr.st.iW (w.drawn+1)).Pj (.cells (((us.drop (l*i.size)).take (m*i.size)).toArray++news.toArray++SX z.cells (VP w (m+q) c e-(m+q))) e);obtain⟨hEx,hR'⟩:=hdr.new (w':=w.drew.alloc _) (v:=.slice (some ⟨w.heap.size,0,none⟩) (m+q) (VP w (m+q) c e)) (o:=.x e i.size (m+q) (sub ds (l*i.size) (m*i.size)++vs)) hn1 hid hst
   ⟨_,_,_,b7,hdata,hlen2,hroom2,.inr ⟨hge,hcm,w.heap.size,0,_,λ_=>by grind,RG ..,by
    simp only[Array.size_append,List.size_toArray,size_zeroCells,hzs,hold,n2,<-SK]
    congr 1
    omega,by
    rw[Vb,Te];simp only[Array.toList_append,R9];rw[<-R9,<-hlen2]
    exact X3⟩⟩
  exact⟨_,_,_,_,hrun,hEx,b7,⟨_,_,_,rfl⟩,hR'⟩
theorem rM{cur:List RK}{p k:Nat}{news:List RK}(h1:p+news.length<=k)(h2:k<=cur.length):(cur.take p++news++cur.drop (p+news.length)).take k=(cur.take k).take p++news++(cur.take k).drop (p+news.length):=by
 rw[R9,Vg,Vg,Sn,VM,VM,W4,R9]
 grind [min,Su]
theorem Rel.Oy(h:Rel w0 Γ0 fr ρ M lst (tv a) w){b e sz N:Nat}{ad0:Option Addr}{c0:Nat}{us:List RK}(_:us.length=N*sz)(hX:(b,As.acc (.slice ad0 N c0) e sz N us)∈lst)(hc:0<c0) :
  ∃g0 cur,ad0=some ⟨g0,0,none⟩/\cur.size=c0*sz/\cur.toList.take (N*sz)=us/\w.heap[g0]?=some (.cells cur e (0,0))/\St w0 M (.raw g0 (.cells cur e (0,0))::((lst.filter λp=>!RN p.1 b).map Sg++Γ0)) w:=by
 have hp:=h.st.fD (h.mem hX);obtain⟨⟨hl,hh⟩,hM⟩:=hp.all _ (RG ..);rcases hh with⟨e4,e5⟩|⟨g0,cap,cur,e4,_,hb,hnc,hcm,hcs,htk⟩
 .simp only[Sm]at e4;omega
 .simp only[Sm]at e4;obtain⟨rfl,_,rfl⟩:=e4;have hMg:=hM g0 rfl;refine⟨g0,cur,rfl,hcs,htk,hb,?_⟩;refine⟨hp.os,hp.tape,hp.output,hp.size,hp.mem,λx hx=>?_,by simpa[Sr,As.gx,S1]using hp.nodup⟩;rcases RO.1 hx with rfl|hx
  .exact⟨hMg,hb⟩
  .exact hp.all x (RM _ hx)
theorem Jl{k q bts:Nat}(h:aL (k+q) (bts+1)):(k+q)*bts<=140737488355328/\k+q<=lim:=by unfold aL at h;rw[XD,UG]at h;unfold lim;omega
theorem Hj(h1:a.tmps.size=n)(h2:a.defers=[])(h:Rel w0 Γ0 fr ρ M lst (tv a) w)(hd:d<n){t:Nat}{x y:R4}(hr:R1 Is fr (cP x λs=>cP y λv=>zk P (fr.aV+d) t s v) fs fo o):(⟨some d,.call ⟨.builtin .append,#[x,y],#[t,t]⟩,ty,pos,af,g⟩:Oper).wp P a w (aY n w0 Γ0 ρ M ((fr.bp (some d) o.v).aI o.ob)) Q:=by
 have hr0:=bI h hr;clear hr;obtain⟨s,fs1,hr1,hs⟩:=hr0;have hr0:=bI h hr1;clear hr1;obtain⟨s',fs2,hr,hs'⟩:=hr0;unfold zk at hr;split at hr
 .rename_i b0 q0 sz0 l0 n0;split at hr
  .rename_i e0 sz hel;split at hr
   .rename_i hby;have hE:=jl hel hby;rcases B2 hr with⟨fo',hr,_⟩|⟨b,l,m,N,e,ds,fo1,hr2,hob,hsb⟩
    .exact hr.elim
    .clear hr;obtain⟨q,vs,fo2,hr,hne',hsrc⟩:=GF h hr2;clear hr2;obtain⟨v,hv,hsv⟩:=br hs (by unfold su;simp);obtain⟨v',hv',hsv'⟩:=br hs' hne';have hsrc:=hsrc v' hsv';have hsb':S.c (C.y b0 q0 sz0 l0 n0)=.c (.y b 0 sz l m):=by
      grind
     simp only[S.c.injEq,C.y.injEq]at hsb';obtain⟨e1,e2,e3,e4,e5⟩:=hsb';have e1:=e1.symm;have e3:=e3.symm;have e4:=e4.symm;have e5:=e5.symm;subst e1 e2 e3 e4 e5;rcases hr with⟨hq,hr⟩|⟨hq,hr⟩
     .-- nothing
      have hq:=J7 hq;subst hq;obtain rfl:=aU hr;obtain⟨ad0,c0,us,ad,c,k1,k2,k3,k4,k5,rfl,k7,k8,k9,k10,k11⟩:=nu h hob hsb hsv;obtain⟨news,n1,n2,n3⟩:=hsrc;obtain⟨ht,⟨i,z,hi,hz,hsize,hby',hzs⟩,hpos⟩:=hE;have hso:=n3 _ (λ_ h=>h);obtain⟨r1,r2⟩:=Pm.gH.run (P:=P) hso h.st;have e0:news=[]:=Sq Q0;subst e0;subst hsize;have hrun:=jQ (P:=P) (w:=w) t ty _ i ht hi ad m c v' r1 r2 k9;refine bh h1 h2 rfl hd rfl (Sub.refl M) (Ext.refl ρ) h (v:=.slice ad m c) hsv ?_;simp[Sk,resolve,invoke,UF,hv.eval,hv'.eval,hrun]
     .have hq:0<q:=YX (of_decide_eq_false hq);rcases hr with⟨hin,hr⟩|⟨hin,hr⟩
      .have hin:=J7 hin;have hw:fr.ob b=some (.w e sz N ds)/\o=⟨some (.c (.y b 0 sz l (m+q))),[(b,.w e sz N (cB ds ((l+m)*sz) vs))],o.fs,o.fo⟩:=by
        unfold rowH at hr;change R1 Is fr (match fr.ob b with|some (.w e sz2 N ds)=>_|_=>_) _ _ _ at hr;split at hr
        .rename_i e2 sz2 N2 ds2 hob2;split at hr
         .have hr':o=_:=hr;rcases hob with hob|hob
          all_goals grind
         .exact hr.elim
        .exact hr.elim
       obtain⟨hw,ho⟩:=hw;generalize o.fs=ofs at ho;generalize o.fo=ofo at ho;subst ho;obtain⟨ad0,c0,_,ad,c,k1,_,_,_,_,rfl,k7,k8,k9,k10,k11⟩:=nu h hob hsb hsv;obtain⟨ad1,c1,us,p1,p2,p3,p4,p5⟩:=h.ob b _ hw;rw[k1]at p1;simp only[RE,Sm,true_and]at p1;obtain⟨rfl,rfl⟩:=p1;obtain⟨news,n1,n2,n3⟩:=hsrc;obtain⟨ht,⟨i,z,hi,hz,hsize,hby',hzs⟩,hpos⟩:=hE;have hso:=n3 _ (λ_ h=>h);obtain⟨r1,r2⟩:=Pm.gH.run (P:=P) hso h.st;subst hsize;obtain⟨g0,cur,q1,q2,q3,q4,q6⟩:=h.Oy p4 p2 Q0;have had:ad=some ⟨g0,l*i.size,none⟩:=by rw[k11 Q0,q1,cy,Sz]
       subst had;have hsz0:l*i.size+m*i.size+news.length<=N*i.size:=by rw[n2,<-SK,<-SK];exact SI _ Q0
       have hNc:N*i.size<=cur.size:=by grind
       have hsz:l*i.size+m*i.size+news.length<=cur.size:=Q0;have hrun:=qm (P:=P) (w:=w) t ty _ i ht hi g0 (l*i.size) m c cur e q4 v' q news r1 r2 hso.2.1 Q0 hsz;have hst:=q6.xm (cur':=(cur.toList.take (l*i.size+m*i.size)++news++cur.toList.drop (l*i.size+m*i.size+news.length)).toArray)
       have hst2:=hst.Oi (n:=N) (c:=c0) (sz:=i.size) (us:=us.take (l*i.size+m*i.size)++news++us.drop (l*i.size+m*i.size+news.length)) Q0 Q0 (by grind) (by
         simp only[RS,Sn,S3,p4];omega) (by
         rw[<-q3]
         exact rM hsz0 Q0)
       rw[<-q1]at hst2
       have hR':=h.cB (o:=.w e i.size N (cB ds ((l+m)*i.size) vs)) p2 hst2 ⟨ad0,c0,_,k1,RG ..,(by
        unfold cB;rw[SK,n1.1.symm]
        exact((bz.takeP p3 _).append n1).append (bz.dropP p3 _)),(by grind),p5⟩
       refine bh h1 h2 rfl hd rfl (Sub.refl M) (Ext.refl ρ) hR' (v:=.slice (some ⟨g0,l*i.size,none⟩) (m+q) c) ⟨_,c,rfl,⟨Q0,Q0⟩,.inr ⟨ad0,N,c0,k1,rfl,Q0,k8,k11⟩⟩ ?_;simp[Sk,resolve,invoke,UF,hv.eval,hv'.eval,hrun]
      .obtain⟨⟨hlm,hroom⟩,hr⟩:=hr;split at hr
       .rename_i hee;have hee:=RD hee;subst hee;obtain⟨hn,fo',rfl⟩:=fL hr;obtain⟨hrm1,hrm2⟩:=Jl hroom;obtain⟨w',u,ρ',lst',g1,g2,g3,g4,g5⟩:=Qk (P:=P) (ty:=ty) h (SH _ _) hn hE hob hsb hsv hlm hq hsrc hrm1 hrm2;refine bh h1 h2 rfl hd rfl (Sub.refl M) g2 g5 (v:=u) ⟨g3,g4⟩ ?_;simp[Sk,resolve,invoke,UF,hv.eval,hv'.eval,g1]
       .exact hr.elim
   .exact hr.elim
  .exact hr.elim
 .rename_i sz0;split at hr
  .rename_i e0 sz hnone hel;split at hr
   .rename_i hbe;have e2:=RD hbe;subst e2;obtain rfl:=aU hr;obtain⟨v,hv,hv2⟩:=br hs (by unfold su;simp);obtain rfl:v=.slice none 0 0:=hv2;have hne':s'≠su:=by rintro rfl;cases hnone
    obtain⟨v',hv',hsv'⟩:=br hs' hne';obtain⟨hu,hsz⟩:=dX (dF hel);have hnil:∃a' c',v'=.slice a' 0 c':=by
     unfold noneH at hnone;split at hnone
     .exact⟨none,0,hsv'⟩
     .rename_i n' _ _;have e0:=RD hnone;subst e0;obtain⟨a',c',hx,_⟩:=Rd.slice (show Rd M (.sl 0 _ _) v' from hsv');exact⟨a',c',hx⟩
     .cases hnone
    obtain⟨a',c',rfl⟩:=hnil;obtain⟨i,hi⟩:∃i,P.info? e0=some i:=by
     grind [mz]
    have hfc:(TL i.size 0 (.slice a' 0 c')).run P w=.ok #[] w:=by
     cases a' with
     |none=>exact Zp w _ _ _ _
     |some p=>exact Zo w _ 0 p 0 c' [] Q2 Q2
    have hrun:=jQ (P:=P) (w:=w) t ty _ i hu hi none 0 0 (.slice a' 0 c') (by simp[Uc]) hfc (Sc _);refine bh h1 h2 rfl hd rfl (Sub.refl M) (Ext.refl ρ) h (v:=.slice none 0 0) (show CR M ρ (.l sz) _ from rfl) ?_;simp[Sk,resolve,invoke,UF,hv.eval,hv'.eval,hrun]
   .exact hr.elim
  all_goals grind [nz]
 .rename_i b;change R1 Is fr (match fr.ob b with|some (.x e sz n ds)=>_|_=>_) _ _ _ at hr;split at hr
  .rename_i e sz N ds hob;split at hr
   .rename_i e0 sz0 hel;split at hr
    .rename_i hbb;simp only[RP]at hbb;have hE:=jl hel hbb.1;have e1:=RD hbb.2.1;have e2:=RD hbb.2.2;subst e1 e2;obtain⟨q,vs,fo2,hr2,hne',hsrc⟩:=GF h hr;clear hr;have hr:=hr2;clear hr2;obtain⟨v,hv,hsv⟩:=br hs (by unfold su;simp);obtain⟨v',hv',hsv'⟩:=br hs' hne';have hsrc:=hsrc v' hsv';rcases hr with⟨hq,hr⟩|⟨hq,hr⟩
     .have hq:=J7 hq;subst hq;obtain rfl:=aU hr;obtain⟨ad0,c0,us,ad,c,k1,k2,k3,k4,k5,rfl,k7,k8,k9,k10,k11⟩:=nu h (.inr hob) (.inl ⟨rfl,rfl,rfl⟩) hsv;obtain⟨news,n1,n2,n3⟩:=hsrc;obtain⟨ht,⟨i,z,hi,hz,hsize,hby',hzs⟩,hpos⟩:=hE;have hso:=n3 _ (λ_ h=>h);obtain⟨r1,r2⟩:=Pm.gH.run (P:=P) hso h.st;have e0:news=[]:=Sq Q0;subst e0;subst hsize;have hrun:=jQ (P:=P) (w:=w) t ty _ i ht hi ad N c v' r1 r2 k9;refine bh h1 h2 rfl hd rfl (Sub.refl M) (Ext.refl ρ) h (v:=.slice ad N c) hsv ?_;simp[Sk,resolve,invoke,UF,hv.eval,hv'.eval,hrun]
     .have hq:0<q:=YX (of_decide_eq_false hq);obtain⟨hroom,hr⟩:=hr;obtain⟨hn,fo',rfl⟩:=fL hr;obtain⟨hrm1,hrm2⟩:=Jl hroom;obtain⟨w',u,ρ',lst',g1,g2,g3,g4,g5⟩:=Qk (P:=P) (ty:=ty) h (SH _ _) hn hE (.inr hob) (.inl ⟨rfl,rfl,rfl⟩) hsv (Sz _) hq hsrc hrm1 hrm2;have hds:sub ds (0*sz) (N*sz)=ds:=by obtain⟨ad0,c0,us,k1,k2,k3,_⟩:=h.ob b _ hob;unfold sub;rw[Vb,Te];exact Su (by rw[<-k2.1,k3];exact Sc _)
      rw[hds]at g5;refine bh h1 h2 rfl hd rfl (Sub.refl M) g2 g5 (v:=u) ⟨g3,g4⟩ ?_;simp[Sk,resolve,invoke,UF,hv.eval,hv'.eval,g1]
    .exact hr.elim
   .exact hr.elim
  all_goals grind [nz]
 all_goals grind [nz]
end
section
variable {P:RV} {tb:Tb} {Is:Cx} {n:Nat} {w0:R0} {Γ0:List As} {fr:Fr} {ρ:Nat->Option RK} {M:Mem} {lst:List (Nat×As)} {a:Act} {w:R0} {fs fo:List Nat} {o:Out} {Q:Exit->Act->R0->Prop} {ty:RX} {pos:String} {af:Array Edge} {g:Option (Nat×Bool)} {d:Nat}
theorem JH(_:Rel w0 Γ0 fr ρ M lst (tv a) w){t e:RX}(hu:P.underlying t=some (.slice e)){v:RK}{b:Bool}(hv:∃ad n c,v=.slice ad n c/\b=ad.isNone):(Go.binOp .eql t v (.slice none 0 0)).run P w=.ok (.bool b) w/\(Go.binOp .neq t v (.slice none 0 0)).run P w=.ok (.bool (!b)) w:=by
 grind [Go.Lib.run_eql_slice_nil,Go.run_neq_slice_nil]
theorem nil_R1(h:Rel w0 Γ0 fr ρ M lst (tv a) w){t:Nat}{s1 s2:S}{k:Bool->bn}{nzz:bn}(hr:R1 Is fr (Pf P t s1 s2 k nzz) fs fo o):(∃fo',R1 Is fr nzz fs fo' o)\/∃b fo' e,R1 Is fr (k b) fs fo' o/\P.underlying t=some (.slice e)/\s1≠su/\s2=.c .n/\∀v,SR M ρ s1 v->∃ad n c,v=.slice ad n c/\b=ad.isNone:=by
 unfold Pf at hr;split at hr
 .rename_i p sz hel;exact .inr ⟨true,fo,_,hr,(dX (dF hel)).1,by unfold su;simp,rfl,λv hv=>⟨none,0,0,hv,rfl⟩⟩
 .rename_i p hel;exact .inr ⟨true,fo,_,hr,(dX (dF hel)).1,by unfold su;simp,rfl,λv hv=>⟨none,0,0,hv,rfl⟩⟩
 .rename_i p b hel;change R1 Is fr (match fr.ob b with|some (.w _ _ n _)=>_|_=>_) _ _ _ at hr;split at hr
  .rename_i e sz m ds hob;split at hr
   .exact hr.elim
   .rename_i m';refine .inr ⟨false,_,_,hr,(dX (dF hel)).1,by unfold su;simp,rfl,λv hv=>?_⟩;obtain⟨ad,c,us,h1,h2,h3,h4,h5⟩:=h.ob b _ hob;have e1:ρ b=some v:=hv.1;rw[h1]at e1;simp only[RE]at e1;subst e1;refine⟨ad,_,c,rfl,?_⟩;have:=(zn h h2).2 Q0;simp_all
  .exact hr.elim
 .rename_i p m sz ds hel;split at hr
  .exact hr.elim
  .rename_i m';refine .inr ⟨false,_,_,hr,(dX (dF hel)).1,by unfold su;simp,rfl,λv hv=>?_⟩;have hv:Rd M (.sl (m'+1) sz ds) v:=hv;simp only[Rd]at hv;obtain⟨ad,c,rfl,_,_,_,_,h6,_⟩:=hv;simp_all
 .exact .inl ⟨fo,hr⟩
theorem EI{s:S}{ds:List D}(hs:JG s=some ds){v:RK}(hv:SR M ρ s v):∃us,v=.agg us.toArray/\bz M ds us:=by
 unfold JG at hs;split at hs
 .simp only[RE]at hs;subst hs;obtain⟨_,us,h1,h2⟩:=hv;exact⟨us,h1,h2⟩
 .obtain⟨us,h1,h2⟩:=hv;exact⟨us,h1,(vQ h2 hs).1⟩
 .cases hs
theorem ok_binH(h1:a.tmps.size=n)(h2:a.defers=[])(h:Rel w0 Γ0 fr ρ M lst (tv a) w)(hd:d<n)(hT:me P tb){op:BinOp}{x y:R4}{t t':RX}(hr:R1 Is fr (match RN t t' with
    |true=>cP x λa=>cP y λb=>(match tb.hp,op with
     |true,.eql=>M8 P tb t a b mA (Db P tb op t a b)
     |true,.neq=>M8 P tb t a b (λb=>mA (!b)) (Db P tb op t a b)
     |_,_=>Db P tb op t a b)
    |false=>.no) fs fo o):(⟨some d,.binOp op t x y t',ty,pos,af,g⟩:Oper).wp P a w (aY n w0 Γ0 ρ M ((fr.bp (some d) o.v).aI o.ob)) Q:=by
 cases ht:RN t t' with
 |false=>rw[ht]at hr;exact hr.elim
 |true =>
  rw[ht]at hr;have e:=RD ht;subst e;have hr0:=bI h hr;clear hr;obtain⟨s1,fs1,hr1,hs1⟩:=hr0;have hr0:=bI h hr1;clear hr1;obtain⟨s2,fs2,hr,hs2⟩:=hr0;have core:∀(k:Bool->bn) (bo:Bool->Bool) (hk:∀b fs fo o,R1 Is fr (k b) fs fo o->o=⟨some (.c (.d (.v (.bool (bo b))))),[],fs,fo⟩) (opn:BinOp) (ho:op=opn) (hE:∀(t n:Nat),EqA P t n .i64->∀a' b':List Int,a'.length=n->b'.length=n->bq (Lf a) x=some (.agg (a'.map (To .i64)).toArray)->bq (Lf a) y=some (.agg (b'.map (To .i64)).toArray)->Yq P w0 (Lf a) M (lst.map Sg++Γ0) ⟨some d,.binOp opn t x y t,ty,pos,af,g⟩ (.bool (bo (decide (a'=b')))))
    (hN:∀(e:Nat) (v:RK) (b:Bool),P.underlying t=some (.slice e)->(∃ad n c,v=.slice ad n c/\b=ad.isNone)->dN a x v->dN a y (.slice none 0 0)->(Sk a.eval ⟨some d,.binOp opn t x y t,ty,pos,af,g⟩).run P w=.ok (.value (.bool (bo b))) w),
    R1 Is fr (M8 P tb t s1 s2 k (Db P tb op t s1 s2)) fs2 fo o->(⟨some d,.binOp op t x y t,ty,pos,af,g⟩:Oper).wp P a w (aY n w0 Γ0 ρ M ((fr.bp (some d) o.v).aI o.ob)) Q:=by
   intro k bo hk opn ho hE hN hr;unfold M8 at hr;split at hr
   .rename_i m da db hf hn1 hn2;obtain⟨za,hza,zb,hzb,⟨hl1,hl2⟩,hr⟩:=hr;have hne1:s1≠su:=by rintro rfl;cases hn1
    have hne2:s2≠su:=by rintro rfl;cases hn2
    obtain⟨v1,hv1,hsv1⟩:=br hs1 hne1;obtain⟨v2,hv2,hsv2⟩:=br hs2 hne2;obtain⟨us1,rfl,hrd1⟩:=EI hn1 hsv1;obtain⟨us2,rfl,hrd2⟩:=EI hn2 hsv2;obtain rfl:=jH hza;obtain rfl:=jH hzb;rw[p9 hrd1]at hv1;rw[p9 hrd2]at hv2;rw[ho];exact iU h1 h2 h hd rfl (hk _ _ _ _ hr) rfl (hE t m (hT.eqs t m hf) za zb hl1 hl2 hv1.bq hv2.bq)
   .rcases nil_R1 h hr with⟨fo',hr2⟩|⟨b,fo',e,hr2,hu,hne,e2,hv⟩
    .exact JF h1 h2 h hd hT hs1 hs2 hr2
    .subst e2;obtain⟨v1,hv1,hsv1⟩:=br hs1 hne;obtain⟨v2,hv2,hsv2⟩:=br hs2 (by unfold su;simp);obtain rfl:v2=.slice none 0 0:=hsv2;have:=hk _ _ _ _ hr2;subst this;rw[ho];exact bh h1 h2 rfl hd rfl (Sub.refl M) (Ext.refl ρ) h (v:=.bool (bo b)) ⟨rfl,rfl⟩ (hN e v1 b hu (hv v1 hsv1) hv1 hv2)
  split at hr
  .exact core mA id (λ_ _ _ _ h=>h) .eql rfl (λt n hE a' b' l1 l2 v1 v2=>(hE w0 (Lf a) M _ (some d) ty pos af g x y a' b' l1 l2 v1 v2).1) (λe v b hu hv hx hy=>by
    simp only[Sk,hx.eval,hy.eval];have:=(JH h hu hv).1;obtain⟨ad,n',c,rfl,rfl⟩:=hv
    simp[eqGuard,this]) hr
  .exact core (λb=>mA (!b)) (λb=>!b) (λ_ _ _ _ h=>h) .neq rfl (λt n hE a' b' l1 l2 v1 v2=>(hE w0 (Lf a) M _ (some d) ty pos af g x y a' b' l1 l2 v1 v2).2) (λe v b hu hv hx hy=>by
    simp only[Sk,hx.eval,hy.eval];have:=(JH h hu hv).2;obtain⟨ad,n',c,rfl,rfl⟩:=hv
    simp[eqGuard,this]) hr
  .exact JF h1 h2 h hd hT hs1 hs2 hr
theorem cut_x(h:Rel w0 Γ0 fr ρ M lst (tv a) w){b e sz N l q id:Nat}{ds:List D}(hid:fr.aV<=id)(hfree:fr.ob id=none)(hob:xB fr b e sz N ds){ad0:Option Addr}{c0:Nat}(hk:ρ b=some (.slice ad0 N c0))(hlq:l+q<=N)(hN:0<N) :
  ∃ρ' lst',Ext ρ ρ'/\ρ' id=some (lG ad0 l (l+q) c0 sz)/\Rel w0 Γ0 ((fr.set b .dK).set id (.x e sz q (sub ds (l*sz) (q*sz)))) ρ' M lst' (tv a) w:=by
 obtain⟨ad1,c1,us,k1,k2,k3,k4,k5⟩:=B1 h hob;rw[hk]at k1;simp only[RE,Sm,true_and]at k1;obtain⟨rfl,rfl⟩:=k1;have hcap:=k5.cap h.st;have hdr:=h.drop b;have hbne:b≠id:=by rintro rfl;rcases hob with hob|hob <;> (rw[hfree]at hob;cases hob)
 have hn1:(fr.set b .dK).ob id=none:=by rw[cI,J1 (Xv hbne)];exact hfree
 obtain⟨g0,l0,cur,q1,q2,q3,q4,q5,_,q6,_⟩:=h.Ow k3 k5 Q0;have hv:lG ad0 l (l+q) c0 sz=.slice (if c0=l then ad0 else ad0.map (·.add (l*sz))) q (c0-l):=by
  unfold lG
  grind
 rw[hv];obtain⟨hEx,hR'⟩:=hdr.new (w':=w) (v:=.slice (if c0=l then ad0 else ad0.map (·.add (l*sz))) q (c0-l)) (o:=.x e sz q (sub ds (l*sz) (q*sz))) hn1 hid q6
  ⟨_,_,_,b7,bz.sub k2 (l*sz) (q*sz),(by
   rw[Sn,S3,k3,<-Wq]
   exact Tf (SI _ Q0)),Q0,.inr ⟨Q0,Q0,g0,l0+l,cur,λhc=>(by
    rw[J1 Q0,q1];simp only[Option.map_some,ZL];rw[SK]),RG ..,by grind,(by
    rw[<-q3,W4,TR,VM,<-SK]
    congr 1
    rw[<-Wq,Tf (SI _ Q0)])⟩⟩
 exact⟨_,_,hEx,b7,hR'⟩
theorem cut_w(h:Rel w0 Γ0 fr ρ M lst (tv a) w){b e sz N q id:Nat}{ds:List D}(hid:fr.aV<=id)(hfree:fr.ob id=none)(hob:fr.ob b=some (.w e sz N ds)){ad0:Option Addr}{c0:Nat}(hk:ρ b=some (.slice ad0 N c0))(hq:q<=N) :
  ∃ρ' lst',Ext ρ ρ'/\ρ' id=some (lG ad0 0 q c0 sz)/\Rel w0 Γ0 ((fr.set b .dK).set id (.w e sz q (sub ds (0*sz) (q*sz)))) ρ' M lst' (tv a) w:=by
 obtain⟨ad1,c1,us,k1,k2,k3,k4,k5⟩:=h.ob b _ hob;rw[hk]at k1;simp only[RE,Sm,true_and]at k1;obtain⟨rfl,rfl⟩:=k1;have hdr:=h.drop b;have hbne:b≠id:=by grind
 have hn1:(fr.set b .dK).ob id=none:=by rw[cI,J1 (Xv hbne)];exact hfree
 have hp:=h.st.fD (h.mem k2);have hv:lG ad0 0 q c0 sz=.slice ad0 q c0:=by
  unfold lG;rw[Vb,VX,VX]
  congr 1
  split
  .rfl
  .cases ad0 with
   |none=>rfl
   |some p=>simp[WE]
 rw[hv];have hlen:((us.drop (0*sz)).take (q*sz)).length=q*sz:=by simp_all
 have hst:St w0 M (.acc (.slice ad0 q c0) e sz q ((us.drop (0*sz)).take (q*sz))::((lst.filter λp=>!RN p.1 b).map Sg++Γ0)) w:=by
  obtain⟨⟨hl,hh⟩,hM⟩:=hp.all _ (RG ..);refine⟨hp.os,hp.tape,hp.output,hp.size,hp.mem,λx hx=>?_,?_⟩
  .rcases RO.1 hx with rfl|hx
   .refine⟨⟨hlen,?_⟩,λk hk=>hM k (by grind [S1])⟩
    grind
   .exact hp.all x (RM _ hx)
  .have:=hp.nodup;cases ad0 <;> simpa[Sr,As.gx,S1]using this
 obtain⟨hEx,hR'⟩:=hdr.new (w':=w) (v:=.slice ad0 q c0) (o:=.w e sz q (sub ds (0*sz) (q*sz))) hn1 hid hst ⟨ad0,c0,_,b7,RG ..,bz.sub k3 _ _,hlen,Q0⟩;exact⟨_,_,hEx,b7,hR'⟩
theorem L8(h1:a.tmps.size=n)(h2:a.defers=[])(h:Rel w0 Γ0 fr ρ M lst (tv a) w)(hd:d<n){t:Nat}{x:R4}{lo hi:Option R4}(hr:R1 Is fr (cP x λs=>BV P (fr.aV+d) t s lo hi) fs fo o):(⟨some d,.slice t x lo hi none,ty,pos,af,g⟩:Oper).wp P a w (aY n w0 Γ0 ρ M ((fr.bp (some d) o.v).aI o.ob)) Q:=by
 have hr0:=bI h hr;clear hr;obtain⟨s,fs1,hr,hs⟩:=hr0;unfold BV at hr;split at hr
 .rename_i e0 sz b hel;obtain⟨v,hv,hsv⟩:=br hs (by unfold su;simp);have hsv1:ρ b=some v:=hsv.1
  have hr0:R1 Is fr (nC 0 lo λl=>(match fr.ob b with
   |some (.w e sz' N ds)=>_
   |some (.x e sz' N ds)=>_
   |_=>_)) fs1 (2*b::fo) o:=hr
  clear hr;obtain⟨l,fs2,hr,hlo⟩:=gp h hr0;clear hr0;have fin:∀{e N:Nat} {ds:List D} {l q2:Int},xB fr b e sz N ds->(∀k:Nat,l=(k:Int)->jP (Lf a) lo 0 k)->(∀k:Nat,q2=(k:Int)->jP (Lf a) hi N k)->0<=l/\l<=q2/\q2<=(N:Int)/\0<N->∀{fs fo},R1 Is fr (jT (fr.aV+d) (.c (.w (fr.aV+d))) [(b,.dK)] (.x e sz (q2.toNat-l.toNat) (sub ds (l.toNat*sz) ((q2.toNat-l.toNat)*sz)))) fs fo o ->
    (⟨some d,.slice t x lo hi none,ty,pos,af,g⟩:Oper).wp P a w (aY n w0 Γ0 ρ M ((fr.bp (some d) o.v).aI o.ob)) Q:=by
   intro e N ds l q2 hob hlo hhi ⟨c1,c2,c3,c4⟩ fs fo hr;obtain⟨hn,fo',rfl⟩:=fL hr;obtain⟨ad0,c0,us,k1,k2,k3,k4,k5⟩:=B1 h hob;rw[hsv1]at k1;simp only[RE]at k1;subst k1;have hcap:=k5.cap h.st;obtain⟨ρ',lst',g1,g2,g3⟩:=cut_x h (l:=l.toNat) (q:=q2.toNat-l.toNat) (SH _ _) hn hob hsv1 Q0 c4;have hy:=Y.slice (P:=P) (w0:=w0) (L:=Lf a) (M:=M) (Γ:=lst.map Sg++Γ0) (d:=some d) (ty:=ty) (pos:=pos) (af:=af) (g:=g) (mx:=none) l.toNat q2.toNat c0 hv.bq (hlo _ Q0) (hhi _ Q0) rfl (.inr rfl) Q0 Q0 (Sc _) (dF hel);rw[show l.toNat+(q2.toNat-l.toNat)=q2.toNat by omega]at g2;refine bh h1 h2 rfl hd rfl (Sub.refl M) g1 g3 (v:=lG ad0 l.toNat q2.toNat c0 sz) ⟨g2,_,_,_,rfl⟩ ?_;exact hy n a w (uP h1 h2) h.st
  split at hr
  .rename_i e sz' N ds hob;split at hr
   .rename_i hbe;have e2:=RD hbe;subst e2;obtain⟨q2,fs3,hr2,hhi⟩:=gp h hr;clear hr;cases lo with
    |none=>obtain⟨hck,hr⟩:=hr2;obtain⟨hn,fo',rfl⟩:=fL hr;obtain⟨ad0,c0,us,k1,k2,k3,k4,k5⟩:=B1 h (.inl hob);rw[hsv1]at k1;simp only[RE]at k1;subst k1;have hcap:=k5.cap h.st;obtain⟨ρ',lst',g1,g2,g3⟩:=cut_w h (q:=q2.toNat) (SH _ _) hn hob hsv1 Q0;have hy:=Y.slice (P:=P) (w0:=w0) (L:=Lf a) (M:=M) (Γ:=lst.map Sg++Γ0) (d:=some d) (ty:=ty) (pos:=pos) (af:=af) (g:=g) (lo:=none) (mx:=none) 0 q2.toNat c0 hv.bq rfl (hhi _ Q0) rfl (.inr rfl) Q0 Q0 (Sc _) (dF hel);refine bh h1 h2 rfl hd rfl (Sub.refl M) g1 g3 (v:=lG ad0 0 q2.toNat c0 sz') ⟨g2,_,_,_,rfl⟩ ?_;exact hy n a w (uP h1 h2) h.st
    |some lo'=>obtain⟨hck,hr⟩:=hr2;exact fin (.inl hob) hlo hhi hck hr
   .exact hr.elim
  .rename_i e sz' N ds hob;split at hr
   .rename_i hbe;have e2:=RD hbe;subst e2;obtain⟨q2,fs3,hr2,hhi⟩:=gp h hr;obtain⟨hck,hr3⟩:=hr2;exact fin (.inr hob) hlo hhi hck hr3
   .exact hr.elim
  .exact hr.elim
 .exact hr.elim
theorem ok_trim(h1:a.tmps.size=n)(h2:a.defers=[])(h:Rel w0 Γ0 fr ρ M lst (tv a) w)(hd:d<n){x:R4}(hr:R1 Is fr (cP x λs=>NL (fr.aV+d) (eJ P ty s)) fs fo o):(⟨some d,.move x,ty,pos,af,g⟩:Oper).wp P a w (aY n w0 Γ0 ρ M ((fr.bp (some d) o.v).aI o.ob)) Q:=by
 have hr0:=bI h hr;clear hr;obtain⟨s,fs1,hr,hs⟩:=hr0;have hv:=dg (P:=P) (t:=ty) (pY hs);generalize eJ P ty s=s1 at hr hv;unfold NL at hr;split at hr
 .rename_i b q sz l m;change R1 Is fr (match fr.ob b with|some (.w e sz' N ds)=>_|_=>_) _ _ _ at hr;split at hr
  .rename_i e sz' N ds hob;split at hr
   .rename_i hb;simp only[RP]at hb;have e1:=RD hb.1;have e2:=RD hb.2.1;have e3:=RD hb.2.2;subst e1 e2 e3;obtain⟨⟨c1,c2⟩,hr⟩:=hr;obtain⟨hn,fo',rfl⟩:=fL hr;obtain⟨ad0,c0,us,k1,k2,k3,k4,k5⟩:=h.ob b _ hob;obtain⟨ad,c,hu,hnc,hy⟩:=hv;have hp:=h.st.fD (h.mem k2);obtain⟨⟨_,hh⟩,_⟩:=hp.all _ (RG ..);have hval:a.eval x=lG ad0 0 m c0 sz':=by
     rcases hy with⟨k,hk,_⟩|⟨A,N',C,hA,_,hl,hC,hAd⟩
     .grind
     .rw[k1]at hA;simp only[RE,Sm]at hA;obtain⟨rfl,rfl,rfl⟩:=hA;rcases hh with⟨e4,e5⟩|⟨g0,cap,cur,e4,hg,hb',hnc',hcm,hcs,htk⟩
      all_goals grind [Sm,lG,cy,WE]
    obtain⟨ρ',lst',g1,g2,g3⟩:=cut_w h (q:=m) (SH _ _) hn hob k1 c2;refine bh h1 h2 rfl hd rfl (Sub.refl M) g1 g3 (v:=lG ad0 0 m c0 sz') ⟨g2,_,_,_,rfl⟩ ?_;rw[<-hval];simp[Sk]
   .exact hr.elim
  .exact hr.elim
 .obtain rfl:=aU hr;exact se h1 h2 h hd (x:=x) rfl rfl rfl hv rfl (by simp[Sk])
theorem O4(h1:a.tmps.size=n)(h2:a.defers=[])(h:Rel w0 Γ0 fr ρ M lst (tv a) w){t:Nat}{x:R4}(hr:R1 Is fr (cP x λs=>C5 P t s) fs fo o):(⟨none,.call ⟨.builtin .clear,#[x],#[t]⟩,ty,pos,af,g⟩:Oper).wp P a w (aY n w0 Γ0 ρ M ((fr.bp none o.v).aI o.ob)) Q:=by
 have hr0:=bI h hr;clear hr;obtain⟨s,fs1,hr,hs⟩:=hr0;unfold C5 at hr;split at hr
 .rename_i b0 q0 sz0 l0 n0 e0 sz hel;split at hr
  .rename_i zs hz;have hrow:∃e N ds fs' fo',fr.ob b0=some (.w e sz N ds)/\q0=0/\sz0=sz/\(zs.length=sz/\l0+n0<=N/\n0<=1000000000000000)/\o=⟨none,[(b0,.w e sz N (cB ds (l0*sz) (Sj n0 zs).flatten))],fs',fo'⟩:=by
    unfold rowH at hr;change R1 Is fr (match fr.ob b0 with|some (.w e sz2 N ds)=>_|_=>_) _ _ _ at hr;split at hr
    .rename_i e sz2 N ds hob;split at hr
     .rename_i hb;simp only[RP]at hb;have e1:=RD hb.1;have e2:=RD hb.2.1;have e3:=RD hb.2.2;obtain⟨hck,hr2⟩:=hr;exact⟨e,N,ds,_,_,by rw[hob,e3],e1,e2,hck,hr2⟩
     .exact hr.elim
    .exact hr.elim
   clear hr;obtain⟨e,N,ds,fs',fo',hob,rfl,rfl,⟨hzl,hln,hn6⟩,rfl⟩:=hrow;obtain⟨v,hv,hsv⟩:=br hs (by unfold su;simp);obtain⟨ad0,c0,_,ad,c,k1,_,_,_,_,rfl,k7,k8,k9,k10,k11⟩:=nu h (.inl hob) (.inr rfl) hsv;obtain⟨ad1,c1,us,p1,p2,p3,p4,p5⟩:=h.ob b0 _ hob;rw[k1]at p1;simp only[RE,Sm,true_and]at p1;obtain⟨rfl,rfl⟩:=p1;obtain⟨zc,hz1,hz2⟩:∃zc,kF P e0=some zc/\zA zc=some zs:=by
    cases hzc:kF P e0 with
    |none=>simp[hzc]at hz
    |some zc=>rw[hzc]at hz;exact⟨zc,rfl,hz⟩
   obtain⟨zv,hzv,hzr⟩:=hY (M:=M) (ρ:=ρ) hz1;have hzrd:=qA hzr hz2;have hzsz:zv.cells.size=sz0:=by rw[<-hzl,<-hzrd.1];simp
   obtain⟨hu,_⟩:=dX (dF hel);have hflat:(SX zv.cells n0).toList=(Sj n0 zv.cells.toList).flatten:=by have:=AP zv.cells n0 sz0 hzsz;rw[<-this,<-hzsz];rfl
   rcases YV n0 with hn0|hn0
   .subst hn0;have hup:cB ds (l0*sz0) (Sj 0 zs).flatten=ds:=by unfold cB;simp
    rw[hup];have hR':=h.cB (o:=.w e sz0 N ds) (x':=.acc (.slice ad0 N c0) e sz0 N us) p2 (h.st.fD (h.mem p2)) ⟨ad0,c0,us,k1,RG ..,p3,p4,p5⟩;have hrun:(Sk a.eval ⟨none,.call ⟨.builtin .clear,#[x],#[t]⟩,ty,pos,af,g⟩).run P w=.ok (.value (.tuple #[])) w:=by cases ad <;> simp[Sk,resolve,invoke,UF,YY,hv.eval,R7 hu]
    unfold WY;rw[hrun,Vt];exact⟨h1,h2,ρ,M,_,Sub.refl M,Ext.refl ρ,hR'⟩
   .obtain⟨g0,cur,q1,q2,q3,q4,q6⟩:=h.Oy p4 p2 Q0;have had:ad=some ⟨g0,l0*sz0,none⟩:=by rw[k11 Q0,q1,cy,Sz]
    subst had;have hzlen:((Sj n0 zv.cells.toList).flatten).length=n0*sz0:=by simp[hzsz]
    have hzrep:=GV hzrd n0;have hsz0:l0*sz0+n0*sz0<=N*sz0:=by rw[<-SK];exact SI _ Q0
    have hNc:N*sz0<=cur.size:=by grind
    have hst0:=ZK P g0 (l0*sz0) e ((Sj n0 zv.cells.toList).flatten) 0 cur w q4 Q0 (bz.one hzrep);simp only[S2]at hst0;have hst:=q6.xm (cur':=(cur.toList.take (l0*sz0)++(Sj n0 zv.cells.toList).flatten++cur.toList.drop (l0*sz0+((Sj n0 zv.cells.toList).flatten).length)).toArray)
    have hst2:=hst.Oi (n:=N) (c:=c0) (sz:=sz0) (us:=us.take (l0*sz0)++(Sj n0 zv.cells.toList).flatten++us.drop (l0*sz0+((Sj n0 zv.cells.toList).flatten).length)) Q0 Q0 (by grind) (by
      simp only[RS,Sn,S3,p4,hzlen];omega) (by
      rw[<-q3]
      exact rM Q0 Q0)
    rw[<-q1]at hst2
    have hR':=h.cB (o:=.w e sz0 N (cB ds (l0*sz0) (Sj n0 zs).flatten)) p2 hst2 ⟨ad0,c0,_,k1,RG ..,(by
     unfold cB;rw[hzrep.1.symm]
     exact((bz.takeP p3 _).append hzrep).append (bz.dropP p3 _)),(by grind),p5⟩
    have hzero:(zeroValue e0).run P w=.ok zv w:=je hzv;have hrun:(Sk a.eval ⟨none,.call ⟨.builtin .clear,#[x],#[t]⟩,ty,pos,af,g⟩).run P w=.ok (.value (.tuple #[])) (w.setRow g0 (cur.toList.take (l0*sz0)++(Sj n0 zv.cells.toList).flatten++cur.toList.drop (l0*sz0+((Sj n0 zv.cells.toList).flatten).length)).toArray):=by obtain⟨m',rfl⟩:∃m',n0=m'+1:=⟨n0-1,Q0⟩;simp[Sk,resolve,invoke,UF,YY,hv.eval,R7 hu,hzero,hflat,hst0]
    unfold WY;rw[hrun,Vt];exact⟨h1,h2,ρ,M,_,Sub.refl M,Ext.refl ρ,hR'⟩
  .exact hr.elim
 .exact hr.elim
theorem aY.norm{P:RV}{t:RX}{d:Option Nat}{v:Option S}{ob:List (Nat×O)}(h:aY n w0 Γ0 ρ M ((fr.bp d v).aI ob) a w):aY n w0 Γ0 ρ M ((fr.bp d (match v with|some s=>some (x9 P t s)|none=>none)).aI ob) a w:=by
 cases d with
 |none=>cases v <;> exact h
 |some d =>
  cases v with
  |none=>exact h
  |some s =>
   obtain⟨h1,h2,ρ',M',lst',h3,h4,h5⟩:=h;refine⟨h1,h2,ρ',M',lst',h3,h4,?_⟩;have e1:(fr.bp (some d) (some s)).aI ob=((fr.aI ob).put d s):=kM ..;have e2:(fr.bp (some d) (some (x9 P t s))).aI ob=((fr.aI ob).put d (x9 P t s)):=kM ..;show Rel w0 Γ0 ((fr.bp (some d) (some (x9 P t s))).aI ob) ρ' M' lst' (tv a) w;rw[e2];rw[e1]at h5;refine⟨λk=>?_,h5.ob,h5.vZ,h5.gq,h5.nd,h5.st,h5.gr⟩;have:=h5.sl k;rw[B8]at this ⊢;by_cases e:k=d
   .rw[J2 e]at this ⊢;rcases this with hs|⟨u,hu,hs⟩
    .subst hs;exact .inl rfl
    .exact .inr ⟨u,hu,Pc hs⟩
   .rw[J1 e]at this ⊢;exact this
theorem HV{s i off ft:Nat}(h:rq P s i=some (off,ft)):∃fs f,P.underlying s=some (.struct fs)/\fs[i]?=some f/\f.type=ft/\f.offset=off:=by
 unfold rq at h
 grind
theorem Ao{w:R0}{t o:Nat}{us:List RK}{u:RK}(h:jJ P t=true)(hu:us[o]?=some u):(part t us.toArray o).run P w=.ok u w:=by unfold part;simp only[TP,xw h,UY];simp[hu]
theorem Md(h1:a.tmps.size=n)(h2:a.defers=[])(h:Rel w0 Γ0 fr ρ M lst (tv a) w)(hd:d<n){t:Nat}{x:R4}{i:Nat}(hr:R1 Is fr (cP x λs=>CT P t s i) fs fo o):(⟨some d,.field t x i,ty,pos,af,g⟩:Oper).wp P a w (aY n w0 Γ0 ρ M ((fr.bp (some d) o.v).aI o.ob)) Q:=by
 have hr0:=bI h hr;clear hr;obtain⟨s,fs1,hr,hs⟩:=hr0;unfold CT at hr;split at hr
 .exact hr.elim
 .rename_i off ft hf;obtain⟨fs',f,e1,e2,e3,e4⟩:=HV hf;subst e3 e4;have fin:∀(us:List RK) (u:RK) (s':S),dN a x (.agg us.toArray)->o=⟨some s',[],fs1,fo⟩->(part f.type us.toArray f.offset).run P w=.ok u w->SR M ρ s' u->(⟨some d,.field t x i,ty,pos,af,g⟩:Oper).wp P a w (aY n w0 Γ0 ρ M ((fr.bp (some d) o.v).aI o.ob)) Q:=λus u s' hv ho hp hsr=>by subst ho;refine bh h1 h2 rfl hd rfl (Sub.refl M) (Ext.refl ρ) h (v:=u) hsr ?_;simp[Sk,hv.eval,Instr.field,R7 e1,e2,asAgg,hp]
  split at hr
  .rename_i m ds;obtain⟨v,hv,hl,us,rfl,hrd⟩:=br hs (by unfold su;simp);obtain⟨s',e5,ho⟩:=nw hr;unfold nP at e5;split at e5
   .rename_i hfl;split at e5
    .rename_i hlt;simp only[RE]at e5;subst e5;obtain⟨u,hu1,hu2⟩:=bz.get hrd (tl (ds:=ds) (i:=f.offset) (by simp_all));exact fin us u _ hv ho (Ao hfl hu1) hu2
    .cases e5
   .split at e5
    .rename_i k hag;split at e5
     .rename_i hbb;simp only[RP]at hbb;have q1:=RD hbb.1;have q2:=RD hbb.2;simp only[RE]at e5;subst e5;have hp:=pJ (P:=P) (w:=w) (us:=us) (o:=f.offset) (iu hag);rw[q1,Te,Su (by rw[hrd.1,hl];omega)]at hp;exact fin us _ _ hv ho (by grind) ⟨hl,us,rfl,hrd⟩
     .split at e5
      .rename_i hle;have hle:f.offset+k<=m:=by simp_all
       simp only[RE]at e5;subst e5;exact fin us _ _ hv ho (pJ (iu hag)) ⟨by grind [sub],_,rfl,hrd.cut _ _⟩
      .cases e5
    .cases e5
  .rename_i cs;obtain⟨v,hv,us,rfl,hrd⟩:=br hs (by unfold su;simp);obtain⟨s',e5,ho⟩:=nw hr;unfold sD at e5;split at e5
   .rename_i hfl;split at e5
    .rename_i c hc;simp only[RE]at e5;subst e5;obtain⟨u,hu1,hu2⟩:=cA.get hrd hc;exact fin us u _ hv ho (Ao hfl hu1) hu2
    .cases e5
   .split at e5
    .rename_i k hag;split at e5
     .simp only[RE]at e5;subst e5;exact fin us _ _ hv ho (pJ (iu hag)) ⟨_,rfl,cA.take k (cA.drop _ hrd)⟩
     .cases e5
    .cases e5
  .exact hr.elim
end
def KQ(ob:Ob)(b sz n:Nat)(cs:List D)(bs:List Nat):Prop:=(∃e ws,ob b=some (.v e sz n ws)/\qR ob ws=some (cs,bs))\/∃e ds j c x,ob b=some (.h e sz n ds j c)/\qR ob [c]=some ([x],bs)/\cs=cB ds j [x]
def zq(ob:Ob)(fx:List Nat)(b sz n:Nat)(cs:List D):Prop :=
 ((∃e,ob b=some (.w e sz n cs))/\b∈fx\/ob b=some (.s sz n cs))\/∃bs,KQ ob b sz n cs bs/\b∈fx/\∀x∈bs,x∈fx
theorem zq.mono{ob:Ob}{fx fx':List Nat}(hf:∀b,b∈fx->b∈fx'){b sz n:Nat}{cs:List D}(h:zq ob fx b sz n cs):zq ob fx' b sz n cs:=by
 rcases h with h|⟨bs,h1,h3,h4⟩
 .exact .inl (h.imp (λh=>⟨h.1,hf _ h.2⟩) id)
 .exact .inr ⟨bs,h1,hf _ h3,λx hx=>hf _ (h4 x hx)⟩
theorem rp{ob:Ob}{fx:List Nat}{b sz n:Nat}{cs:List D}{bs:List Nat}(h1:KQ ob b sz n cs bs)(h3:∀x∈bs,x∈fx):∀{l:List Nat},b∈l->(b,O.s sz n cs)∈fy ob fx l
 |c::l,hb=>by
  have ha:(bs.all λx=>fx.any (RN x))=true:=List.all_eq_true.2 λx hx=>List.any_eq_true.2 ⟨x,h3 x hx,cN x⟩;unfold fy;rcases RO.1 hb with rfl|hb
  .rcases h1 with⟨e,ws,h1,h2⟩|⟨e,ds,j,c,x,h1,h2,rfl⟩
   all_goals grind
  .have ih:=rp h1 h3 hb
   grind
theorem rn{ob:Ob}{fx:List Nat}:∀{l:List Nat} {p:Nat×O},p∈fy ob fx l->∃sz n ds bs,p.2=.s sz n ds/\KQ ob p.1 sz n ds bs/\(∀x∈bs,x∈fx)/\p.1∈l
 |c::l,p,h=>by
  have rest:p∈fy ob fx l->∃sz n ds bs,p.2=.s sz n ds/\KQ ob p.1 sz n ds bs/\(∀x∈bs,x∈fx)/\p.1∈c::l:=λh=>by
   obtain⟨sz,n,ds,bs,h1,h2,h4,h5⟩:=rn h
   grind
  have all:∀{bs:List Nat},(bs.all λx=>fx.any (RN x))=true->∀x∈bs,x∈fx:=λha x hx=>by simp_all
  unfold fy at h;split at h
  .rename_i e sz n ws hob;split at h
   .rename_i ds bs hrow;split at h
    .rename_i ha;rcases RO.1 h with rfl|h
     .exact⟨sz,n,ds,bs,rfl,.inl ⟨e,ws,hob,hrow⟩,all ha,RG ..⟩
     .exact rest h
    .exact rest h
   .exact rest h
  .rename_i e sz n ds j c' hob;split at h
   .rename_i x bs hrow;split at h
    .rename_i ha;rcases RO.1 h with rfl|h
     .exact⟨sz,n,_,bs,rfl,.inr ⟨e,ds,j,c',x,hob,hrow,rfl⟩,all ha,RG ..⟩
     .exact rest h
    .exact rest h
   .exact rest h
  .exact rest h
theorem zq.plain{ob:Ob}{fx:List Nat}{b sz n:Nat}{cs:List D}(h:zq ob fx b sz n cs)(hv:fy ob fx fx=[]):(∃e,ob b=some (.w e sz n cs))/\b∈fx\/ob b=some (.s sz n cs):=by
 rcases h with h|⟨bs,h1,h3,h4⟩
 .exact h
 .have:=rp h1 h4 h3
  grind
section
variable (ob:Ob) (mp:List (Nat×Tg)) (fx:List Nat)
def nX:jx->C->List D->Prop
 |.d,.d x,ds=>ds=[x]
 |.d,.w b,ds=>∃sz n cs,ds=[.sl n sz cs]/\zq ob fx b sz n cs
 |.d,.l sz,ds=>ds=[.sl 0 sz []]
 |.i,.d x,ds=>ds=[x]
 |.bo,.d x,ds=>ds=[x]
 |.p i off,.p b off',ds=>off=off'/\ds=[]/\bL mp i=some (.ob b)
 |.w i,.w b,ds=>ds=[]/\bL mp i=some (.ob b)
 |.w i,.l sz,ds=>ds=[]/\bL mp i=some (.nil sz)
 |.m i,.m b,ds=>ds=[]/\bL mp i=some (.ob b)
 |.y i sz,.y b q sz' l n,ds=>q=0/\sz=sz'/\ds=[.v (.int .i64 (l:Int)),.v (.int .i64 (n:Int))]/\bL mp i=some (.ob b)
 |_,_,_=>False
def qy:List jx->List C->List D->Prop
 |[],[],ds=>ds=[]
 |s::ss,c::cs,ds=>∃d1 d2,ds=d1++d2/\nX ob mp fx s c d1/\qy ss cs d2
 |_,_,_=>False
def pt:jx->C->List D->Prop
 |.f g cs,.f g' cs',ds=>g=g'/\qy ob mp fx cs cs' ds
 |s,c,ds=>nX ob mp fx s c ds
def gI:List jx->List C->List D->Prop
 |[],[],ds=>ds=[]
 |s::ss,c::cs,ds=>∃d1 d2,ds=d1++d2/\pt ob mp fx s c d1/\gI ss cs d2
 |_,_,_=>False
def rB:lW->S->List D->Prop
 |.c s,.c x,ds=>pt ob mp fx s x ds
 |.a n,.a m ds',ds=>n=m/\ds=ds'
 |.a n,.g cs,ds=>gI ob mp fx (dsh n) cs ds
 |.g ss,.g cs,ds=>gI ob mp fx ss cs ds
 |.g ss,.a n ds',ds=>gI ob mp fx ss ((cells n ds').map C.d) ds
 |_,_,_=>False
def qx(sl:Nat->S):List (Nat×lW)->bT->Prop
 |[],r=>r=[]
 |(t,s)::l,r=>∃ds r',rB ob mp fx s (sl t) ds/\qx sl l r'/\r=(match uz s with
  |true=>ds::r'
  |false=>r')
def zw(i:Nat)(o:mh)(ds:List D):Prop :=
 (∃b x,bL mp i=some (.ob b)/\ob b=some x/\(match o with
  |.b e cs=>∃cs',ry x=some (e,cs')/\gI ob mp fx cs cs' ds
  |.a e n=>(x=.a e n ds)\/∃cs',x=.b e cs'/\gI ob mp fx (dsh n) cs' ds
  |.w e sz=>∃n cs,x=.w e sz n cs/\ds=[.sl n sz cs]
  |.v e sz n cs=>∃cs',x=.v e sz n cs'/\gI ob mp fx cs cs' ds
  |.m t ag vs=>∃n cs,x=.m t ag vs n cs/\ds=[.sl n (3+vs) cs]
  |.ms t ag vs=>∃n cs,x=.ms t ag vs n cs/\ds=[.sl n (3+vs) cs]
  |.x e sz=>∃n cs,(x=.x e sz n cs\/x=.w e sz n cs)/\ds=[.sl n sz cs]
  |.h e sz q=>∃n cs j c d1,x=.h e sz n cs j c/\nX ob mp fx (.w q) c d1/\ds=[.sl n sz cs,.v (.int .i64 (j:Int))]
  |.it ag vs=>∃cur n cs,x=.it ag vs cur n cs/\ds=[.sl n (3+vs) cs])) \/
 (∃e sz,bL mp i=some (.nil sz)/\o=.w e sz/\ds=[.sl 0 sz []])
def Gp:List (Nat×mh)->bT->Prop
 |[],r=>r=[]
 |(i,o)::l,r=>∃ds r',zw ob mp fx i o ds/\Gp l r'/\r=(match CL o with
  |true=>ds::r'
  |false=>r')
end
def zT(mp:List (Nat×Tg)):Prop:=∀i j b,bL mp i=some (.ob b)->bL mp j=some (.ob b)->i=j
structure fU(k k':Pk):Prop where
 mp:∀i x,bL k.mp i=some x->bL k'.mp i=some x
 fix:∀b,b∈k.fix->b∈k'.fix
 inj:zT k.mp->zT k'.mp
theorem fU.refl(k:Pk):fU k k:=⟨λ_ _ h=>h,λ_ h=>h,id⟩
theorem fU.trans{a b c:Pk}(h:fU a b)(k:fU b c):fU a c:=⟨λi x hx=>k.mp i x (h.mp i x hx),λb hb=>k.fix b (h.fix b hb),λhi=>k.inj (h.inj hi)⟩
theorem dU{i:Nat}{x:Tg}{l:List (Nat×Tg)}{j:Nat}:bL ((i,x)::l) j=if j=i then some x else bL l j:=by
 show(match RN j i with
  |true=>some x
  |false=>bL l j)=_
 by_cases e:j=i
 .simp_all
 .rw[gX e,J1 e]
theorem wy{b:Nat}:∀{l:List (Nat×Tg)} {i:Nat},bL l i=some (.ob b)->HN l b=true
 |[],_,h=>by simp[bL]at h
 |(j,x)::l,i,h=>by
  rw[dU]at h;by_cases e:i=j
  .rw[J2 e]at h;simp only[RE]at h;subst h
   show(match RN b b with
    |true=>true
    |false=>HN l b)=true
   rw[cN]
  .rw[J1 e]at h;have:=wy h;cases x with
   |ob b' =>
    show(match RN b b' with
     |true=>true
     |false=>HN l b)=true
    split
    .rfl
    .exact this
   |nil sz=>exact this
theorem wu{k k':Pk}{i b:Nat}(h:k.Mx i b=some k'):fU k k'/\bL k'.mp i=some (.ob b):=by
 unfold Pk.Mx at h;split at h
 .grind [RD,RE,fU.refl]
 .cases h
 .rename_i hg;split at h
  .cases h
  .rename_i hnt;simp only[RE]at h;subst h;refine⟨⟨λj x hx=>?_,λ_ hb=>hb,λhi j q c hj hq=>?_⟩,by rw[dU,J2 rfl]⟩
   .rw[dU]
    grind
   .rw[dU]at hj hq;by_cases e1:j=i <;> by_cases e2:q=i
    .rw[e1,e2]
    .grind [RE,Tg.ob.injEq,wy]
    .grind [RE,Tg.ob.injEq,wy]
    .rw[J1 e1]at hj;rw[J1 e2]at hq;exact hi j q c hj hq
theorem Hy{k k':Pk}{i sz:Nat}(h:k.CG i sz=some k'):fU k k'/\bL k'.mp i=some (.nil sz):=by
 unfold Pk.CG at h;split at h
 .cases h
 .rename_i hg;simp only[RE]at h;subst h;refine⟨⟨λj x hx=>?_,λ_ hb=>hb,λhi j q c hj hq=>?_⟩,by rw[dU,J2 rfl]⟩
  .rw[dU]
   grind
  .rw[dU]at hj hq;by_cases e1:j=i
   .grind
   .by_cases e2:q=i
    .grind
    .rw[J1 e1]at hj;rw[J1 e2]at hq;exact hi j q c hj hq
section
variable {ob:Ob} {mp mp':List (Nat×Tg)} {fx fx':List Nat}
section
variable (hm:∀i x,bL mp i=some x->bL mp' i=some x) (hf:∀b,b∈fx->b∈fx')
theorem nX.mono(hm:∀i x,bL mp i=some x->bL mp' i=some x)(hf:∀b,b∈fx->b∈fx'){s:jx}{c:C}{ds:List D}(h:nX ob mp fx s c ds):nX ob mp' fx' s c ds:=by
 unfold nX at h ⊢;split at h
 .exact h
 .obtain⟨sz,n,cs,h1,h2⟩:=h;exact⟨sz,n,cs,h1,h2.mono hf⟩
 all_goals grind
theorem qy.mono(hm:∀i x,bL mp i=some x->bL mp' i=some x)(hf:∀b,b∈fx->b∈fx'):∀{s:List jx} {c:List C} {ds:List D},qy ob mp fx s c ds->qy ob mp' fx' s c ds
 |[],[],_,h=>h
 |_::_,_::_,_,⟨d1,d2,h1,h2,h3⟩=>⟨d1,d2,h1,nX.mono hm hf h2,qy.mono hm hf h3⟩
 |[],_::_,_,h=>h.elim
 |_::_,[],_,h=>h.elim
theorem pt.mono(hm:∀i x,bL mp i=some x->bL mp' i=some x)(hf:∀b,b∈fx->b∈fx'){s:jx}{c:C}{ds:List D}(h:pt ob mp fx s c ds):pt ob mp' fx' s c ds:=by
 unfold pt at h;split at h
 .exact⟨h.1,qy.mono hm hf h.2⟩
 .rename_i hne;unfold pt;split
  .grind
  .exact nX.mono hm hf h
theorem gI.mono(hm:∀i x,bL mp i=some x->bL mp' i=some x)(hf:∀b,b∈fx->b∈fx'):∀{s:List jx} {c:List C} {ds:List D},gI ob mp fx s c ds->gI ob mp' fx' s c ds
 |[],[],_,h=>h
 |_::_,_::_,_,⟨d1,d2,h1,h2,h3⟩=>⟨d1,d2,h1,pt.mono hm hf h2,gI.mono hm hf h3⟩
 |[],_::_,_,h=>h.elim
 |_::_,[],_,h=>h.elim
theorem rB.mono(hm:∀i x,bL mp i=some x->bL mp' i=some x)(hf:∀b,b∈fx->b∈fx'){s:lW}{c:S}{ds:List D}(h:rB ob mp fx s c ds):rB ob mp' fx' s c ds:=by
 unfold rB at h ⊢;split at h
 .exact pt.mono hm hf h
 .exact h
 .exact gI.mono hm hf h
 .exact gI.mono hm hf h
 .exact gI.mono hm hf h
 .exact h.elim
theorem qx.mono(hm:∀i x,bL mp i=some x->bL mp' i=some x)(hf:∀b,b∈fx->b∈fx'){sl:Nat->S}:∀{l:List (Nat×lW)} {r:bT},qx ob mp fx sl l r->qx ob mp' fx' sl l r
 |[],_,h=>h
 |(_,_)::_,_,⟨ds,r',h1,h2,h3⟩=>⟨ds,r',rB.mono hm hf h1,qx.mono hm hf h2,h3⟩
theorem zw.mono(hm:∀i x,bL mp i=some x->bL mp' i=some x)(hf:∀b,b∈fx->b∈fx'){i:Nat}{o:mh}{ds:List D}(h:zw ob mp fx i o ds):zw ob mp' fx' i o ds:=by
 rcases h with⟨b,x,h1,h2,h3⟩|⟨e,sz,h1,h2⟩
 .refine .inl ⟨b,x,hm _ _ h1,h2,?_⟩;cases o with
  |b e cs=>obtain⟨cs',h4,h5⟩:=h3;exact⟨cs',h4,gI.mono hm hf h5⟩
  |a e n=>exact h3.imp id fun⟨cs',h4,h5⟩=>⟨cs',h4,gI.mono hm hf h5⟩
  |w e sz=>exact h3
  |v e sz n cs=>obtain⟨cs',h4,h5⟩:=h3;exact⟨cs',h4,gI.mono hm hf h5⟩
  |m t ag vs=>exact h3
  |ms t ag vs=>exact h3
  |it ag vs=>exact h3
  |x e sz=>exact h3
  |h e sz q=>obtain⟨n,cs,j,c,d1,h4,h5,h6⟩:=h3;exact⟨n,cs,j,c,d1,h4,nX.mono hm hf h5,h6⟩
 .exact .inr ⟨e,sz,hm _ _ h1,h2⟩
end
theorem tY{k k':Pk}{s:jx}{c:C}{ds:List D}(h:Ey ob k s c=some (ds,k')):fU k k'/\nX ob k'.mp k'.fix s c ds:=by
 unfold Ey at h;split at h
 .simp only[RE,R6]at h;obtain⟨rfl,rfl⟩:=h;exact⟨fU.refl k,rfl⟩
 .simp only[RE,R6]at h;obtain⟨rfl,rfl⟩:=h;exact⟨fU.refl k,rfl⟩
 .simp only[RE,R6]at h;obtain⟨rfl,rfl⟩:=h;exact⟨fU.refl k,rfl⟩
 .simp only[RE,R6]at h;obtain⟨rfl,rfl⟩:=h;exact⟨fU.refl k,rfl⟩
 .rename_i b;split at h
  .rename_i e sz n cs hob;simp only[RE,R6]at h;obtain⟨rfl,rfl⟩:=h;exact⟨⟨λ_ _ h=>h,λ_ h=>RM _ h,id⟩,sz,n,cs,rfl,.inl (.inl ⟨⟨e,hob⟩,RG ..⟩)⟩
  .rename_i sz n cs hob;simp only[RE,R6]at h;obtain⟨rfl,rfl⟩:=h;exact⟨fU.refl k,sz,n,cs,rfl,.inl (.inr hob)⟩
  .rename_i e sz n ws hob;split at h
   .rename_i ds' bs hrow;simp only[RE,R6]at h;obtain⟨rfl,rfl⟩:=h;exact⟨⟨λ_ _ h=>h,λ_ h=>List.mem_append_right _ (RM _ h),id⟩,sz,n,ds',rfl,.inr ⟨bs,.inl ⟨e,ws,hob,hrow⟩,List.mem_append_right _ (RG ..),λx hx=>List.mem_append_left _ hx⟩⟩
   .cases h
  .rename_i e sz n ds' j c' hob;split at h
   .rename_i x bs hrow;simp only[RE,R6]at h;obtain⟨rfl,rfl⟩:=h;exact⟨⟨λ_ _ h=>h,λ_ h=>List.mem_append_right _ (RM _ h),id⟩,sz,n,_,rfl,.inr ⟨bs,.inr ⟨e,ds',j,c',x,hob,hrow,rfl⟩,List.mem_append_right _ (RG ..),λx hx=>List.mem_append_left _ hx⟩⟩
   .cases h
  .cases h
 .split at h
  .rename_i hb;have e:=RD hb;subst e;rw[Tm]at h;obtain⟨k1,h1,h2⟩:=h;simp only[R6]at h2;obtain⟨rfl,rfl⟩:=h2;obtain⟨h3,h4⟩:=wu h1;exact⟨h3,rfl,rfl,h4⟩
  .cases h
 .rw[Tm]at h;obtain⟨k1,h1,h2⟩:=h;simp only[R6]at h2;obtain⟨rfl,rfl⟩:=h2;obtain⟨h3,h4⟩:=wu h1;exact⟨h3,rfl,h4⟩
 .rw[Tm]at h;obtain⟨k1,h1,h2⟩:=h;simp only[R6]at h2;obtain⟨rfl,rfl⟩:=h2;obtain⟨h3,h4⟩:=Hy h1;exact⟨h3,rfl,h4⟩
 .rw[Tm]at h;obtain⟨k1,h1,h2⟩:=h;simp only[R6]at h2;obtain⟨rfl,rfl⟩:=h2;obtain⟨h3,h4⟩:=wu h1;exact⟨h3,rfl,h4⟩
 .split at h
  .rename_i hb;simp only[RP]at hb;rw[Tm]at h;obtain⟨k1,h1,h2⟩:=h;simp only[R6]at h2;obtain⟨rfl,rfl⟩:=h2;obtain⟨h3,h4⟩:=wu h1;exact⟨h3,RD hb.1,RD hb.2,rfl,h4⟩
  .cases h
 .cases h
theorem xU:∀{ss:List jx} {cs:List C} {k k':Pk} {ds:List D},qW ob k ss cs=some (ds,k')->fU k k'/\qy ob k'.mp k'.fix ss cs ds
 |[],[],k,k',ds,h=>by simp only[qW,RE,R6]at h;obtain⟨rfl,rfl⟩:=h;exact⟨fU.refl k,rfl⟩
 |s::ss,c::cs,k,k',ds,h=>by
  unfold qW at h;split at h
  .rename_i d1 k1 h1;split at h
   .rename_i d2 k2 h2;simp only[RE,R6]at h;obtain⟨rfl,rfl⟩:=h;obtain⟨a1,a2⟩:=tY h1;obtain⟨a3,a4⟩:=xU h2;exact⟨a1.trans a3,d1,d2,rfl,nX.mono a3.mp a3.fix a2,a4⟩
   .cases h
  .cases h
 |[],_::_,_,_,_,h=>by simp[qW]at h
 |_::_,[],_,_,_,h=>by simp[qW]at h
theorem AA{k k':Pk}{s:jx}{c:C}{ds:List D}(h:Jw ob k s c=some (ds,k')):fU k k'/\pt ob k'.mp k'.fix s c ds:=by
 unfold Jw at h
 grind [RD,xU,tY,pt]
theorem jg:∀{ss:List jx} {cs:List C} {k k':Pk} {ds:List D},jh ob k ss cs=some (ds,k')->fU k k'/\gI ob k'.mp k'.fix ss cs ds
 |[],[],k,k',ds,h=>by simp only[jh,RE,R6]at h;obtain⟨rfl,rfl⟩:=h;exact⟨fU.refl k,rfl⟩
 |s::ss,c::cs,k,k',ds,h=>by
  unfold jh at h;split at h
  .rename_i d1 k1 h1;split at h
   .rename_i d2 k2 h2;simp only[RE,R6]at h;obtain⟨rfl,rfl⟩:=h;obtain⟨a1,a2⟩:=AA h1;obtain⟨a3,a4⟩:=jg h2;exact⟨a1.trans a3,d1,d2,rfl,pt.mono a3.mp a3.fix a2,a4⟩
   .cases h
  .cases h
 |[],_::_,_,_,_,h=>by simp[jh]at h
 |_::_,[],_,_,_,h=>by simp[jh]at h
theorem LS{k k':Pk}{s:lW}{c:S}{ds:List D}(h:OG ob k s c=some (ds,k')):fU k k'/\rB ob k'.mp k'.fix s c ds:=by
 unfold OG at h;unfold rB
 grind [AA,RD,RE,R6,fU.refl,jg]
theorem qU{sl:Nat->S}:∀{l:List (Nat×lW)} {k k':Pk} {r:bT},oE ob sl k l=some (r,k')->fU k k'/\qx ob k'.mp k'.fix sl l r
 |[],k,k',r,h=>by simp only[oE,RE,R6]at h;obtain⟨rfl,rfl⟩:=h;exact⟨fU.refl k,rfl⟩
 |(t,s)::l,k,k',r,h=>by
  unfold oE at h;split at h
  .rename_i ds k1 h1;obtain⟨a1,a2⟩:=LS h1;split at h
   .rename_i r' k2 h2;obtain⟨a3,a4⟩:=qU h2;split at h
    .rename_i hs;simp only[RE,R6]at h;obtain⟨rfl,rfl⟩:=h;exact⟨a1.trans a3,ds,r',rB.mono a3.mp a3.fix a2,a4,by rw[hs]⟩
    .rename_i hs;simp only[RE,R6]at h;obtain⟨rfl,rfl⟩:=h;exact⟨a1.trans a3,ds,r',rB.mono a3.mp a3.fix a2,a4,by rw[hs]⟩
   .cases h
  .cases h
theorem LU{k k':Pk}{i:Nat}{o:mh}{ds:List D}(h:OH ob k i o=some (ds,k')):fU k k'/\zw ob k'.mp k'.fix i o ds:=by
 unfold OH at h;split at h
 .rename_i b hg;split at h
  .rename_i e cs e' cs' hob;split at h
   .rename_i hb;have e1:=RD hb;subst e1;obtain⟨a1,a2⟩:=jg h;exact⟨a1,.inl ⟨b,_,a1.mp _ _ hg,hob,cs',rfl,a2⟩⟩
   .cases h
  .rename_i e cs e' n ds' hob;split at h
   .rename_i hb;have e1:=RD hb;subst e1;obtain⟨a1,a2⟩:=jg h;exact⟨a1,.inl ⟨b,_,a1.mp _ _ hg,hob,_,rfl,a2⟩⟩
   .cases h
  .rename_i e n e' n' ds' hob;split at h
   .rename_i hb;have e1:=RD hb;subst e1;split at h
    .rename_i hb;have e1:=RD hb;subst e1;simp only[RE,R6]at h;obtain⟨rfl,rfl⟩:=h;exact⟨fU.refl k,.inl ⟨b,_,hg,hob,.inl rfl⟩⟩
    .cases h
   .cases h
  .rename_i e n e' cs' hob;split at h
   .rename_i hb;have e1:=RD hb;subst e1;obtain⟨a1,a2⟩:=jg h;exact⟨a1,.inl ⟨b,_,a1.mp _ _ hg,hob,.inr ⟨cs',rfl,a2⟩⟩⟩
   .cases h
  .rename_i e sz e' sz' n ds' hob;split at h
   .rename_i hb;have e1:=RD hb;subst e1;split at h
    .rename_i hb;have e1:=RD hb;subst e1;simp only[RE,R6]at h;obtain⟨rfl,rfl⟩:=h;exact⟨fU.refl k,.inl ⟨b,_,hg,hob,n,ds',rfl,rfl⟩⟩
    .cases h
   .cases h
  .rename_i e sz n cs e' sz' n' cs' hob;split at h
   .rename_i hb;simp only[RP]at hb;have e1:=RD hb.1.1;have e2:=RD hb.1.2;have e3:=RD hb.2;subst e1 e2 e3;obtain⟨a1,a2⟩:=jg h;exact⟨a1,.inl ⟨b,_,a1.mp _ _ hg,hob,cs',rfl,a2⟩⟩
   .cases h
  .rename_i t ag vs t' ag' vs' n ds' hob;split at h
   .rename_i hb;simp only[RP]at hb;have e1:=RD hb.1;have e2:ag=ag':=by grind
    have e3:=RD hb.2.2;subst e1 e2 e3;simp only[RE,R6]at h;obtain⟨rfl,rfl⟩:=h;exact⟨fU.refl k,.inl ⟨b,_,hg,hob,n,ds',rfl,rfl⟩⟩
   .cases h
  .rename_i t ag vs t' ag' vs' n ds' hob;split at h
   .rename_i hb;simp only[RP]at hb;have e1:=RD hb.1;have e2:ag=ag':=by grind
    have e3:=RD hb.2.2;subst e1 e2 e3;simp only[RE,R6]at h;obtain⟨rfl,rfl⟩:=h;exact⟨fU.refl k,.inl ⟨b,_,hg,hob,n,ds',rfl,rfl⟩⟩
   .cases h
  .rename_i e sz e' sz' n ds' hob;split at h
   .rename_i hb;simp only[RP]at hb;have e1:=RD hb.1;have e2:=RD hb.2;subst e1 e2;simp only[RE,R6]at h;obtain⟨rfl,rfl⟩:=h;exact⟨fU.refl k,.inl ⟨b,_,hg,hob,n,ds',.inl rfl,rfl⟩⟩
   .cases h
  .rename_i e sz e' sz' n ds' hob;split at h
   .rename_i hb;simp only[RP]at hb;have e1:=RD hb.1;have e2:=RD hb.2;subst e1 e2;simp only[RE,R6]at h;obtain⟨rfl,rfl⟩:=h;exact⟨fU.refl k,.inl ⟨b,_,hg,hob,n,ds',.inr rfl,rfl⟩⟩
   .cases h
  .rename_i ag vs ag' vs' cur n ds' hob;split at h
   .rename_i hb;simp only[RP]at hb;have e2:ag=ag':=by grind
    have e3:=RD hb.2;subst e2 e3;simp only[RE,R6]at h;obtain⟨rfl,rfl⟩:=h;exact⟨fU.refl k,.inl ⟨b,_,hg,hob,cur,n,ds',rfl,rfl⟩⟩
   .cases h
  .rename_i e sz q e' sz' n ds' j c' hob;split at h
   .rename_i hb;simp only[RP]at hb;have e1:=RD hb.1;have e2:=RD hb.2;subst e1 e2;split at h
    .rename_i d1 k1 hk;simp only[RE,R6]at h;obtain⟨rfl,rfl⟩:=h;obtain⟨a1,a2⟩:=tY hk;exact⟨a1,.inl ⟨b,_,a1.mp _ _ hg,hob,n,ds',j,c',d1,rfl,a2,rfl⟩⟩
    .cases h
   .cases h
  .cases h
 .rename_i sz hg;split at h
  .rename_i e sz';split at h
   .rename_i hb;have e1:=RD hb;subst e1;simp only[RE,R6]at h;obtain⟨rfl,rfl⟩:=h;exact⟨fU.refl k,.inr ⟨e,sz,hg,rfl,rfl⟩⟩
   .cases h
  .cases h
 .cases h
theorem qV:∀{l:List (Nat×mh)} {k k':Pk} {r:bT},oF ob k l=some (r,k')->fU k k'/\Gp ob k'.mp k'.fix l r
 |[],k,k',r,h=>by simp only[oF,RE,R6]at h;obtain⟨rfl,rfl⟩:=h;exact⟨fU.refl k,rfl⟩
 |(i,o)::l,k,k',r,h=>by
  unfold oF at h;split at h
  .rename_i ds k1 h1;obtain⟨a1,a2⟩:=LU h1;split at h
   .rename_i r' k2 h2;obtain⟨a3,a4⟩:=qV h2;split at h
    .rename_i hs;simp only[RE,R6]at h;obtain⟨rfl,rfl⟩:=h;exact⟨a1.trans a3,ds,r',zw.mono a3.mp a3.fix a2,a4,by rw[hs]⟩
    .rename_i hs;simp only[RE,R6]at h;obtain⟨rfl,rfl⟩:=h;exact⟨a1.trans a3,ds,r',zw.mono a3.mp a3.fix a2,a4,by rw[hs]⟩
   .cases h
  .cases h
end
def eB(mp:List (Nat×Tg))(ρ:Nat->Option RK):Nat->Option RK:=λi=>match bL mp i with
 |some (.ob b)=>ρ b
 |some (.nil _)=>some (.slice none 0 0)
 |none=>none
theorem cD{mp:List (Nat×Tg)}{ρ:Nat->Option RK}{i b:Nat}(h:bL mp i=some (.ob b)):eB mp ρ i=ρ b:=by unfold eB;rw[h]
theorem ur{mp:List (Nat×Tg)}{ρ:Nat->Option RK}{i sz:Nat}(h:bL mp i=some (.nil sz)):eB mp ρ i=some (.slice none 0 0):=by unfold eB;rw[h]
def iT(ρ:Nat->Option RK)(M:Mem)(ob:Ob)(fx:List Nat):Prop:=∀b sz n cs,zq ob fx b sz n cs->∃v,ρ b=some v/\Rd M (.sl n sz cs) v
def At(X:List D)(j:Nat)(ds:List D):Prop:=∀i d,ds[i]?=some d->X[j+i]?=some d
theorem At.cell{X:List D}{j:Nat}{x:D}(h:At X j [x]):cell X j=x:=by
 have:=h 0 x rfl;unfold Pm.cell
 grind
theorem At.left{X:List D}{j:Nat}{d1 d2:List D}(h:At X j (d1++d2)):At X j d1:=λi d hi=>by
 refine h i d ?_
 grind
theorem At.right{X:List D}{j:Nat}{d1 d2:List D}(h:At X j (d1++d2)):At X (j+d1.length) d2:=λi d hi=>by rw[S8];exact h (d1.length+i) d (by grind)
theorem At.Ln(ds:List D):At ds 0 ds:=λi d hi=>by grind
section
variable {ob:Ob} {mp:List (Nat×Tg)} {fx:List Nat} {ρ:Nat->Option RK} {M:Mem}
section
variable (hrows:iT ρ M ob fx)
theorem CP(hrows:iT ρ M ob fx){s:jx}{c:C}{ds:List D}{v:RK}{X:List D}{j:Nat}{K:C->Nat->Prop}(hf:nX ob mp fx s c ds)(hv:CB M ρ c v)(hX:At X j ds)(hu:unB bg X j s K):∃c',K c' (j+ds.length)/\CB M (eB mp ρ) c' v:=by
 unfold nX at hf;split at hf
 .subst hf;exact⟨_,hu,by rw[hX.cell];exact hv⟩
 .obtain⟨sz,n,cs,rfl,h1⟩:=hf;obtain⟨v',h2,h3⟩:=hrows _ _ _ _ h1;have hv':=hv.1;rw[h2]at hv';simp only[RE]at hv';subst hv';exact⟨_,hu,by rw[hX.cell];exact h3⟩
 .subst hf;obtain rfl:v=.slice none 0 0:=hv;exact⟨_,hu,by rw[hX.cell];exact Rd.qf⟩
 .subst hf;obtain⟨z,h1,h2⟩:=mI hu;rw[hX.cell]at h1;subst h1;exact⟨_,h2,hv⟩
 .subst hf;obtain⟨z,h1,h2⟩:=lv hu;rw[hX.cell]at h1;subst h1;exact⟨_,h2,hv⟩
 .obtain⟨rfl,rfl,h1⟩:=hf;obtain⟨k,h2,h3⟩:=hv;exact⟨_,hu,k,by grind [cD],h3⟩
 .obtain⟨rfl,h1⟩:=hf;exact⟨_,hu,by rw[cD h1];exact hv.1,hv.2⟩
 .obtain⟨rfl,h1⟩:=hf;obtain rfl:v=.slice none 0 0:=hv;exact⟨_,hu,ur h1,none,0,0,rfl⟩
 .obtain⟨rfl,h1⟩:=hf;obtain⟨k,h2,h3⟩:=hv;exact⟨_,hu,k,by grind [cD],h3⟩
 .obtain⟨rfl,rfl,rfl,h1⟩:=hf;rename_i i sz b l n;have e1:cell X j=.v (.int .i64 (l:Int)):=At.cell (At.left (d1:=[_]) (d2:=[_]) hX);have e2:cell X (j+1)=.v (.int .i64 (n:Int)):=At.cell (At.right (d1:=[_]) (d2:=[_]) hX);have hu:ar (cell X j) (λl=>ar (cell X (j+1)) λn=>K (.y i 0 sz l.toNat n.toNat) (j+2)):=hu;rw[e1,e2]at hu;have hu:K (.y i 0 sz l n) (j+2):=hu;obtain⟨ad,c,rfl,hnc,hy⟩:=hv;exact⟨_,hu,ad,c,rfl,hnc,by grind [cD]⟩
 .exact hf.elim
theorem Fu(hrows:iT ρ M ob fx):∀{ss:List jx} {cs:List C} {ds:List D} {vs:List RK} {X:List D} {j:Nat} {K:List C->Nat->Prop},qy ob mp fx ss cs ds->zV M ρ cs vs->At X j ds->BS bg X j ss K->∃cs',K cs' (j+ds.length)/\zV M (eB mp ρ) cs' vs
 |[],[],ds,vs,X,j,K,hf,hv,_,hu=>by
  obtain rfl:ds=[]:=hf;cases vs with
  |nil=>exact⟨[],hu,trivial⟩
  |cons _ _=>exact hv.elim
 |s::ss,c::cs,ds,v::vs,X,j,K,⟨d1,d2,hd,h1,h2⟩,hv,hX,hu=>by subst hd;obtain⟨c',h3,h4⟩:=CP hrows h1 hv.1 hX.left hu;obtain⟨cs',h5,h6⟩:=Fu hrows h2 hv.2 hX.right h3;exact⟨c'::cs',by grind,h4,h6⟩
 |_::_,_::_,_,[],_,_,_,_,hv,_,_=>hv.elim
 |[],_::_,_,_,_,_,_,hf,_,_,_=>hf.elim
 |_::_,[],_,_,_,_,_,hf,_,_,_=>hf.elim
theorem CB.toCR:∀{c:C} {v:RK},CB M ρ c v->CR M ρ c v
 |.f _ _,_,h=>h.elim
 |.d _,_,h=>h
 |.n,_,h=>h
 |.l _,_,h=>h
 |.p _ _,_,h=>h
 |.q _ _ _ _,_,h=>h
 |.w _,_,h=>h
 |.m _,_,h=>h
 |.z,_,h=>h
 |.u,_,h=>h
 |.e _ _,_,h=>h
 |.y _ _ _ _ _,_,h=>h
 |.k _,_,h=>h
theorem nX.notF{s:jx}{c:C}{ds:List D}(h:nX ob mp fx s c ds){v:RK}(hv:CR M ρ c v):CB M ρ c v:=by
 cases c with
 |f g cs=>cases s <;> exact h.elim
 |d _=>exact hv
 |n=>exact hv
 |l _=>exact hv
 |p _ _=>exact hv
 |q _ _ _ _=>exact hv
 |w _=>exact hv
 |m _=>exact hv
 |z=>exact hv
 |u=>exact hv
 |e _ _=>exact hv
 |y _ _ _ _ _=>exact hv
 |k _=>exact hv
theorem Kq(hrows:iT ρ M ob fx){s:jx}{c:C}{ds:List D}{v:RK}{X:List D}{j:Nat}{K:C->Nat->Prop}(hf:pt ob mp fx s c ds)(hv:CR M ρ c v)(hX:At X j ds)(hu:unC bg X j s K):∃c',K c' (j+ds.length)/\CR M (eB mp ρ) c' v:=by
 unfold pt at hf;split at hf
 .obtain⟨rfl,hf⟩:=hf;obtain⟨us,rfl,hv⟩:=hv;obtain⟨cs',h1,h2⟩:=Fu hrows hf hv hX hu;exact⟨_,h1,us,rfl,h2⟩
 .rename_i hne;have hu':unB bg X j s K:=by
   unfold unC at hu;split at hu
   .rename_i g cs;cases c <;> first|exact hf.elim|exact(hne _ _ _ _ rfl rfl).elim
   .exact hu
  obtain⟨c',h1,h2⟩:=CP hrows hf (hf.notF hv) hX hu';exact⟨c',h1,h2.toCR⟩
theorem o6(hrows:iT ρ M ob fx):∀{ss:List jx} {cs:List C} {ds:List D} {vs:List RK} {X:List D} {j:Nat} {K:List C->Nat->Prop},gI ob mp fx ss cs ds->cA M ρ cs vs->At X j ds->wZ bg X j ss K->∃cs',K cs' (j+ds.length)/\cA M (eB mp ρ) cs' vs
 |[],[],ds,vs,X,j,K,hf,hv,_,hu=>by
  obtain rfl:ds=[]:=hf;cases vs with
  |nil=>exact⟨[],hu,trivial⟩
  |cons _ _=>exact hv.elim
 |s::ss,c::cs,ds,v::vs,X,j,K,⟨d1,d2,hd,h1,h2⟩,hv,hX,hu=>by subst hd;obtain⟨c',h3,h4⟩:=Kq hrows h1 hv.1 hX.left hu;obtain⟨cs',h5,h6⟩:=o6 hrows h2 hv.2 hX.right h3;exact⟨c'::cs',by grind,h4,h6⟩
 |_::_,_::_,_,[],_,_,_,_,hv,_,_=>hv.elim
 |[],_::_,_,_,_,_,_,hf,_,_,_=>hf.elim
 |_::_,[],_,_,_,_,_,hf,_,_,_=>hf.elim
theorem yH(hrows:iT ρ M ob fx):∀{n:Nat} {cs:List C} {ds:List D} {vs:List RK},gI ob mp fx (dsh n) cs ds->cA M ρ cs vs->ds.length=n/\bz M ds vs
 |0,[],ds,vs,hf,hv=>by
  obtain rfl:ds=[]:=hf;cases vs with
  |nil=>exact⟨rfl,bz.nil _⟩
  |cons _ _=>exact hv.elim
 |n+1,c::cs,ds,v::vs,⟨d1,d2,hd,h1,h2⟩,hv=>by
  subst hd;obtain⟨h3,h4⟩:=yH hrows h2 hv.2;have key:∃x,d1=[x]/\Rd M x v:=by
   cases c with
   |d x=>exact⟨x,h1,hv.1⟩
   |w b=>obtain⟨sz,n,cs,h5,h6⟩:=h1;obtain⟨v',h7,h8⟩:=hrows _ _ _ _ h6;have hv':ρ b=some v:=hv.1.1;rw[h7]at hv';simp only[RE]at hv';subst hv';exact⟨_,h5,h8⟩
   |l sz=>obtain rfl:v=.slice none 0 0:=hv.1;exact⟨_,h1,Rd.qf⟩
   |n=>exact h1.elim
   |p _ _=>exact h1.elim
   |q _ _ _ _=>exact h1.elim
   |m _=>exact h1.elim
   |f _ _=>exact h1.elim
   |z=>exact h1.elim
   |u=>exact h1.elim
   |e _ _=>exact h1.elim
   |y _ _ _ _ _=>exact h1.elim
   |k _=>exact h1.elim
  obtain⟨x,rfl,hx⟩:=key
  grind [bz.cons]
 |_+1,_::_,_,[],_,hv=>hv.elim
 |0,_::_,_,_,hf,_=>hf.elim
 |_+1,[],_,_,hf,_=>hf.elim
theorem fitS_un(hrows:iT ρ M ob fx){s:lW}{c:S}{ds:List D}{v:RK}{K:S->Prop}(hf:rB ob mp fx s c ds)(hv:SR M ρ c v)(hu:Nv bg ds s K):∃c',K c'/\SR M (eB mp ρ) c' v:=by
 unfold rB at hf;split at hf
 .obtain⟨c',h1,h2⟩:=Kq (K:=λc _=>K (.c c)) hrows hf hv (At.Ln ds) hu;exact⟨_,h1,h2⟩
 .obtain⟨rfl,rfl⟩:=hf;obtain⟨h1,us,h2,h3⟩:=hv;exact⟨_,hu,h1,us,h2,h3⟩
 .obtain⟨us,rfl,hv⟩:=hv;obtain⟨h1,h2⟩:=yH hrows hf hv;exact⟨_,hu,h1,us,rfl,h2⟩
 .obtain⟨us,rfl,hv⟩:=hv;obtain⟨c',h1,h2⟩:=o6 (K:=λc _=>K (.g c)) hrows hf hv (At.Ln ds) hu;exact⟨_,h1,us,rfl,h2⟩
 .obtain⟨h1,us,rfl,h2⟩:=hv;rw[ti h1]at hf;obtain⟨c',h3,h4⟩:=o6 (K:=λc _=>K (.g c)) hrows hf (cA.data h2) (At.Ln ds) hu;exact⟨_,h3,us,rfl,h4⟩
 .exact hf.elim
end
theorem Fv{s:jx}{c:C}{ds:List D}(hf:nX ob mp fx s c ds)(h:isD s=false):ds=[]:=by unfold nX at hf;split at hf <;> first|exact hf.1|exact hf.2.1|exact hf.elim|cases h
theorem Bb:∀{ss:List jx} {cs:List C} {ds:List D},qy ob mp fx ss cs ds->ss.any isD=false->ds=[]
 |[],[],_,hf,_=>hf
 |s::ss,c::cs,ds,⟨d1,d2,hd,h1,h2⟩,h=>by simp only[Yi,W9]at h;rw[hd,Fv h1 h.1,Bb h2 h.2];rfl
 |[],_::_,_,hf,_=>hf.elim
 |_::_,[],_,hf,_=>hf.elim
theorem Ft{s:jx}{c:C}{ds:List D}(hf:pt ob mp fx s c ds)(h:MP s=false):ds=[]:=by
 unfold pt at hf;split at hf
 .exact Bb hf.2 h
 .rename_i hne;refine Fv hf ?_;cases s with
  |d=>cases h
  |i=>cases h
  |bo=>cases h
  |y _ _=>cases h
  |_=>rfl
theorem mL:∀{ss:List jx} {cs:List C} {ds:List D},gI ob mp fx ss cs ds->ss.any MP=false->ds=[]
 |[],[],_,hf,_=>hf
 |s::ss,c::cs,ds,⟨d1,d2,hd,h1,h2⟩,h=>by simp only[Yi,W9]at h;rw[hd,Ft h1 h.1,mL h2 h.2];rfl
 |[],_::_,_,hf,_=>hf.elim
 |_::_,[],_,hf,_=>hf.elim
theorem Qz{s:lW}{c:S}{ds:List D}(hf:rB ob mp fx s c ds)(h:uz s=false):ds=[]:=by
 unfold rB at hf;split at hf
 .exact Ft hf h
 .cases h
 .cases h
 .exact mL hf h
 .exact mL hf h
 .exact hf.elim
theorem Ks{r:bT}{pre:bT}{e:List D}{post:bT}(h:r=pre++e::post):ae r pre.length=e:=by
 unfold ae
 grind
theorem yI(hrows:iT ρ M ob fx){sl:Nat->S}{val:Nat->Option RK}(hsl:∀t,sl t=su\/∃v,val t=some v/\SR M ρ (sl t) v) :
  ∀{l:List (Nat×lW)} {rl:bT} {r pre post:bT} {f:Nat->S} {K:(Nat->S)->Nat->Prop},qx ob mp fx sl l rl->r=pre++(rl++post)->(∀t,f t=su\/∃v,val t=some v/\SR M (eB mp ρ) (f t) v)->qD bg r pre.length l f K ->
   ∃sl',K sl' (pre++rl).length/\∀t,sl' t=su\/∃v,val t=some v/\SR M (eB mp ρ) (sl' t) v
 |[],rl,r,pre,post,f,K,hf,_,hff,hu=>by obtain rfl:rl=[]:=hf;exact⟨f,by rw[RW];exact hu,hff⟩
 |(t,s)::l,rl,r,pre,post,f,K,⟨ds,r',h1,h2,h3⟩,hr,hff,hu=>by
  have hsu:sl t≠su\/ds=[]/\False:=by
   left;intro e;rw[e]at h1;cases s with
   |c c=>unfold rB pt at h1;cases c <;> exact h1.elim
   |a n=>exact h1.elim
   |g cs=>exact h1.elim
   |t l=>exact h1.elim
  have hk:∃v,val t=some v/\SR M ρ (sl t) v:=by
   grind
  obtain⟨v,hv,hs⟩:=hk;have key:∀{pre':bT} {K':S->Prop},Nv bg ds s K'->∃c',K' c'/\SR M (eB mp ρ) c' v:=λhu=>fitS_un hrows h1 hs hu
  have step:∀(c':S),SR M (eB mp ρ) c' v->∀q,(match RN q t with
   |true=>c'
   |false=>f q)=su\/∃v,val q=some v/\SR M (eB mp ρ) (match RN q t with
   |true=>c'
   |false=>f q) v:=λc' hc' q=>by
   by_cases e:q=t
   .subst e;rw[cN];exact .inr ⟨v,hv,hc'⟩
   .rw[gX e];exact hff q
  cases hb:uz s with
  |true =>
   rw[hb]at h3;subst h3;unfold qD at hu;rw[hb]at hu;have he:ae r pre.length=ds:=Ks (by rw[hr];rfl);rw[show(fk true r pre.length).1=ds from he]at hu;obtain⟨c',h4,h5⟩:=key (pre':=pre) hu;have e2:(fk true r pre.length).2=(pre++[ds]).length:=by simp[fk]
   rw[e2]at h4;obtain⟨sl',h6,h7⟩:=yI hrows hsl h2 (pre:=pre++[ds]) (post:=post) (by grind) (step c' h5) h4;exact⟨sl',by grind,h7⟩
  |false=>rw[hb]at h3;subst h3;unfold qD at hu;rw[hb]at hu;have hd:ds=[]:=Qz h1 hb;rw[show(fk false r pre.length).1=ds from hd.symm]at hu;obtain⟨c',h4,h5⟩:=key (pre':=pre) hu;obtain⟨sl',h6,h7⟩:=yI hrows hsl h2 (pre:=pre) (post:=post) hr (step c' h5) h4;exact⟨sl',h6,h7⟩
end
theorem LQ{lst:List (Nat×As)}(hnd:(lst.map Sf).Nodup){b:Nat}{x:As}(hm:(b,x)∈lst):Y5 (lst.map Sg) (x::(lst.filter λp=>!RN p.1 b).map Sg):=by
 obtain⟨l1,l2,rfl⟩:=List.append_of_mem hm;rw[Si,Sb]at hnd;have hn1:∀p∈l1,RN p.1 b=false:=λp hp=>gX ((Td.1 hnd).2.2 p.1 (Ss hp) b (RG ..));have hn2:∀p∈l2,RN p.1 b=false:=λp hp=>gX λe=>by
  grind
 have f1:l1.filter (λp=>!RN p.1 b)=l1:=Uu.2 λp hp=>by grind
 have f2:l2.filter (λp=>!RN p.1 b)=l2:=Uu.2 λp hp=>by grind
 rw[List.filter_append,List.filter_cons,f1,f2,cN];simp_all
theorem uf:∀{l:List (Nat×mh)},nA l=true->(l.map Sf).Nodup
 |[],_=>Wc
 |(i,o)::l,h=>by
  unfold nA at h;split at h
  .cases h
  .rename_i hn;rw[Sb];refine SG.2 ⟨λhm=>?_,uf h⟩;obtain⟨p,hp,e⟩:=R3.1 hm;have:=Wb.1 hn p hp;simp_all
theorem fX{obs:List (Nat×mh)}:∀{mp:List (Nat×Tg)} {i:Nat} {x:Tg},oS obs mp=true->bL mp i=some x->i∈obs.map Sf
 |[],_,_,_,h=>by simp[bL]at h
 |(j,y)::mp,i,x,hl,h=>by
  unfold oS at hl;split at hl
  .rename_i ha;rw[dU]at h;by_cases e:i=j
   .simp_all
   .rw[J1 e]at h;exact fX hl h
  .cases hl
theorem De:∀{obs:List (Nat×mh)} {i:Nat},i∈obs.map Sf->i<rz obs
 |[],_,h=>by simp at h
 |(j,_)::l,i,h=>by
  rw[Sb]at h;unfold rz;rcases RO.1 h with e|h
  .grind
  .exact YZ (De h) (Nat.le_max_right _ _)
theorem tr(b:Nat)(o:O)(f:Ob)(k:Nat):Dj b o f k=if k=b then some o else f k:=by
 unfold Dj;by_cases e:k=b
 .simp_all
 .rw[gX e,J1 e]
section
variable {ob:Ob} {mp:List (Nat×Tg)} {fx:List Nat} {ρ:Nat->Option RK} {M:Mem} {lst:List (Nat×As)} {w0:R0} {Γ:List As}
def Src(mp:List (Nat×Tg))(lst:List (Nat×As))(i:Nat)(x:As):Prop:=(∃b,bL mp i=some (.ob b)/\(b,x)∈lst)\/∃e sz s,bL mp i=some (.nil s)/\x=.acc (.slice none 0 0) e sz 0 []
theorem cA.any{ρ':Nat->Option RK}:∀{ds:List D} {us:List RK},cA M ρ (ds.map C.d) us->cA M ρ' (ds.map C.d) us
 |[],[],h=>h
 |_::_,_::_,h=>⟨h.1,cA.any h.2⟩
 |[],_::_,h=>h
 |_::_,[],h=>h
theorem cA.hole{ρ':Nat->Option RK}{c c':C}(hc:∀u,CR M ρ c u->CR M ρ' c' u):∀{ds:List D} {j:Nat} {us:List RK},cA M ρ (qd ds j c) us->cA M ρ' (qd ds j c') us
 |[],_,[],_=>trivial
 |_::_,0,u::_,h=>⟨hc u h.1,cA.any (M:=M) (ρ:=ρ) h.2⟩
 |_::_,_+1,_::_,h=>⟨h.1,cA.hole hc h.2⟩
 |[],_,_::_,h=>h
 |_::_,0,[],h=>h
 |_::_,_+1,[],h=>h
theorem fitO_un(hrows:iT ρ M ob fx)(hobs:∀i b x,bL mp i=some (.ob b)->ob b=some x->OR M ρ lst b x){i:Nat}{o:mh}{ds:List D}{K:O->Prop}(hf:zw ob mp fx i o ds)(hu:unO bg ds o K) :
  ∃o' x,K o'/\Src mp lst i x/\∀lst',(i,x)∈lst'->OR M (eB mp ρ) lst' i o':=by
 rcases hf with⟨b,x,h1,h2,h3⟩|⟨e,sz,h1,rfl,rfl⟩
 .have ho:=hobs i b x h1 h2;cases o with
  |b e cs=>obtain⟨cs',h4,h5⟩:=h3;obtain⟨k,us,h6,h7,h8⟩:=Br h4 ho;obtain⟨cs'',h9,h10⟩:=o6 (K:=λcs _=>K (.b e cs)) hrows h5 h8 (At.Ln ds) hu;exact⟨_,_,h9,.inl ⟨b,h1,h7⟩,λlst' hm=>⟨k,us,by grind [cD],hm,h10⟩⟩
  |a e n =>
   rcases h3 with rfl|⟨cs',rfl,h5⟩
   .obtain⟨k,us,h6,h7,h8,h9⟩:=ho;exact⟨_,_,hu,.inl ⟨b,h1,h7⟩,λlst' hm=>⟨k,us,by grind [cD],hm,h8,h9⟩⟩
   .obtain⟨k,us,h6,h7,h8⟩:=ho;obtain⟨h9,h10⟩:=yH hrows h5 h8;exact⟨_,_,hu,.inl ⟨b,h1,h7⟩,λlst' hm=>⟨k,us,by grind [cD],hm,h10,h9⟩⟩
  |w e sz=>obtain⟨n,cs,rfl,rfl⟩:=h3;obtain⟨a,c,us,h6,h7,h8,h9,h10⟩:=ho;obtain⟨n',cs',h11,h12⟩:=fI (sz:=sz) (x:=Pm.cell [D.sl n sz cs] 0) (k:=λn cs=>K (.w e sz n cs)) hu;have h11':D.sl n sz cs=.sl n' sz cs':=h11;simp only[D.sl.injEq]at h11';obtain⟨rfl,_,rfl⟩:=h11';exact⟨_,_,h12,.inl ⟨b,h1,h7⟩,λlst' hm=>⟨a,c,us,by grind [cD],hm,h8,h9,h10⟩⟩
  |v e sz n cs=>obtain⟨cs',rfl,h5⟩:=h3;obtain⟨a,c,us,h6,h7,h8,h8',h8''⟩:=ho;obtain⟨cs'',h9,h10⟩:=o6 (K:=λcs _=>K (.v e sz n cs)) hrows h5 h8 (At.Ln ds) hu;exact⟨_,_,h9,.inl ⟨b,h1,h7⟩,λlst' hm=>⟨a,c,us,by grind [cD],hm,h10,h8',h8''⟩⟩
  |m t ag vs=>obtain⟨n,cs,rfl,rfl⟩:=h3;obtain⟨k,l,h6,h7,h8,h9⟩:=ho;obtain⟨n',cs',h11,h12⟩:=fI (sz:=3+vs) (x:=Pm.cell [D.sl n (3+vs) cs] 0) (k:=λn cs=>K (.m t ag vs n cs)) hu;have h11':D.sl n (3+vs) cs=.sl n' (3+vs) cs':=h11;simp only[D.sl.injEq]at h11';obtain⟨rfl,_,rfl⟩:=h11';exact⟨_,_,h12,.inl ⟨b,h1,h7⟩,λlst' hm=>⟨k,l,by grind [cD],hm,h8,h9⟩⟩
  |ms t ag vs=>obtain⟨n,cs,rfl,rfl⟩:=h3;obtain⟨k,h6,h7,h8⟩:=ho;obtain⟨n',cs',h11,h12⟩:=fI (sz:=3+vs) (x:=Pm.cell [D.sl n (3+vs) cs] 0) (k:=λn cs=>K (.ms t ag vs n cs)) hu;have h11':D.sl n (3+vs) cs=.sl n' (3+vs) cs':=h11;simp only[D.sl.injEq]at h11';obtain⟨rfl,_,rfl⟩:=h11';exact⟨_,_,h12,.inl ⟨b,h1,h7⟩,λlst' hm=>⟨k,by grind [cD],hm,h8⟩⟩
  |x e sz =>
   obtain⟨n,cs,hx,rfl⟩:=h3;obtain⟨n',cs',h11,h12⟩:=fI (sz:=sz) (x:=Pm.cell [D.sl n sz cs] 0) (k:=λn cs=>K (.x e sz n cs)) hu;have h11':D.sl n sz cs=.sl n' sz cs':=h11;simp only[D.sl.injEq]at h11';obtain⟨rfl,_,rfl⟩:=h11';rcases hx with rfl|rfl
   .obtain⟨a,c,us,h6,h8,h9,h10,h7⟩:=ho;obtain⟨y,h7,h13⟩:=h7.src;exact⟨_,_,h12,.inl ⟨b,h1,h7⟩,λlst' hm=>⟨a,c,us,by grind [cD],h8,h9,h10,h13 _ _ hm⟩⟩
   .obtain⟨a,c,us,h6,h7,h8,h9,h10⟩:=ho;exact⟨_,_,h12,.inl ⟨b,h1,h7⟩,λlst' hm=>⟨a,c,us,by grind [cD],h8,h9,h10,.inl hm⟩⟩
  |h e sz q =>
   obtain⟨n,cs,j,c,d1,rfl,hfb,rfl⟩:=h3;obtain⟨a,p,us,h6,h7,h8,h9,h10,h13⟩:=ho;obtain⟨n',cs',h11,h12⟩:=fI (sz:=sz) (x:=Pm.cell [D.sl n sz cs,.v (.int .i64 (j:Int))] 0) (k:=λn2 cs2=>ar (Pm.cell [D.sl n sz cs,.v (.int .i64 (j:Int))] 1) λz=>K (.h e sz n2 cs2 z.toNat (.w q))) hu;have h11':D.sl n sz cs=.sl n' sz cs':=h11;simp only[D.sl.injEq]at h11';obtain⟨rfl,_,rfl⟩:=h11';have h12:K (.h e sz n cs ((j:Int).toNat) (.w q)):=h12;rw[SF]at h12;refine⟨_,_,h12,.inl ⟨b,h1,h7⟩,λlst' hm=>⟨a,p,us,by grind [cD],hm,cA.hole (λu hc=>?_) h8,h9,h10,h13⟩⟩;have hcb:CB M ρ c u:=by cases c <;> first|exact hc|exact False.elim hfb
   obtain⟨c',h14,h15⟩:=CP (s:=.w q) (c:=c) (ds:=d1) (v:=u) (X:=d1) (j:=0) (K:=λc _=>c=.w q) hrows hfb hcb (At.Ln d1) rfl;rw[h14]at h15;exact h15
  |it ag vs=>obtain⟨cur,n,cs,rfl,rfl⟩:=h3;obtain⟨k,o,h6,h7,h8⟩:=ho;obtain⟨n',cs',h11,h12⟩:=fI (sz:=3+vs) (x:=Pm.cell [D.sl n (3+vs) cs] 0) (k:=λn cs=>K (.it ag vs none n cs)) hu;have h11':D.sl n (3+vs) cs=.sl n' (3+vs) cs':=h11;simp only[D.sl.injEq]at h11';obtain⟨rfl,_,rfl⟩:=h11';exact⟨_,_,h12,.inl ⟨b,h1,h7⟩,λlst' hm=>⟨k,o,by grind [cD],hm,h8.nV⟩⟩
 .obtain⟨n',cs',h11,h12⟩:=fI (sz:=sz) (x:=Pm.cell [D.sl 0 sz []] 0) (k:=λn cs=>K (.w e sz n cs)) hu;have h11':D.sl 0 sz []=.sl n' sz cs':=h11;simp only[D.sl.injEq]at h11';obtain⟨rfl,_,rfl⟩:=h11';exact⟨_,_,h12,.inr ⟨e,sz,sz,h1,rfl⟩,λlst' hm=>⟨none,0,[],ur h1,hm,bz.nil _,Q2,Sy _⟩⟩
theorem QA{i:Nat}{o:mh}{ds:List D}(hf:zw ob mp fx i o ds)(h:CL o=false):ds=[]:=by
 rcases hf with⟨b,x,h1,h2,h3⟩|⟨e,sz,h1,rfl,rfl⟩
 .cases o with
  |b e cs=>obtain⟨cs',h4,h5⟩:=h3;exact mL h5 h
  |a e n=>cases h
  |w e sz=>cases h
  |v e sz n cs=>obtain⟨cs',h4,h5⟩:=h3;exact mL h5 h
  |m t ag vs=>cases h
  |ms t ag vs=>cases h
  |it ag vs=>cases h
  |x e sz=>cases h
  |h e sz q=>cases h
 .cases h
def Ix(mp:List (Nat×Tg))(ρ:Nat->Option RK)(M:Mem)(w0:R0)(Γ:List As)(is:List Nat)(f:Ob)(lst0 rem:List (Nat×As))(K:Ob->Prop):Prop :=
 ∃(ob':Ob) (lst1 rem':List (Nat×As)),K ob'/\(∀k o,ob' k=some o->OR M (eB mp ρ) lst1 k o)/\(∀k,(f k).isSome=true\/k∈is->(ob' k).isSome=true)/\(lst1.map Sf).Nodup/\(∀p∈lst1,p∈lst0\/p.1∈is/\(eB mp ρ p.1).isSome=true) /\
  (rem'.map Sf).Nodup/\(∀p∈rem',p∈rem/\∀i∈is,bL mp i≠some (.ob p.1))/\(∀p∈rem,(∀i∈is,bL mp i≠some (.ob p.1))->p∈rem') /\
  ∀w,St w0 M (lst0.map Sg++(rem.map Sg++Γ)) w->St w0 M (lst1.map Sg++(rem'.map Sg++Γ)) w
theorem Fq(hrows:iT ρ M ob fx)(hobs:∀i b x,bL mp i=some (.ob b)->ob b=some x->OR M ρ lst b x)(hinj:zT mp)(hlst:(lst.map Sf).Nodup)(hkeys:∀p∈lst,(ρ p.1).isSome=true) :
  ∀{l:List (Nat×mh)} {rl r pre:bT} {f:Ob} {K:Ob->Prop} {lst0 rem:List (Nat×As)},Gp ob mp fx l rl->r=pre++rl->vH bg r pre.length l f K ->
   (l.map Sf).Nodup->(lst0.map Sf).Nodup->(∀p∈lst0,p.1 ∉ l.map Sf)->(rem.map Sf).Nodup->(∀i∈l.map Sf,∀b x,bL mp i=some (.ob b)->(b,x)∈lst->(b,x)∈rem)->(∀k o,f k=some o->OR M (eB mp ρ) lst0 k o) ->
   Ix mp ρ M w0 Γ (l.map Sf) f lst0 rem K
 |[],rl,r,pre,f,K,lst0,rem,hf,_,hu,_,hn0,_,hnr,_,hff=>⟨f,lst0,rem,hu,hff,λk hk=>hk.resolve_right Q2,hn0,λp hp=>.inl hp,hnr,λp hp=>⟨hp,λi hi=>by simp at hi⟩,λp hp _=>hp,λw hw=>hw⟩
 |(i,o)::l,rl,r,pre,f,K,lst0,rem,⟨ds,r',h1,h2,h3⟩,hr,hu,hnl,hn0,hdis,hnr,hav,hff=>by
  have hnl':=SG.1 (show(i::l.map Sf).Nodup from hnl)
  -- mY thing itself
  have key:∀{q:Nat} {pre':bT} (_:q=pre'.length) (_:r=pre'++r') (_:unO bg ds o λx=>vH bg r q l (Dj i x f) K),Ix mp ρ M w0 Γ (i::l.map Sf) f lst0 rem K:=by
   intro q pre' hq hr' hu';subst hq;obtain⟨o',x,h4,hsrc,h5⟩:=fitO_un hrows hobs h1 hu';have hn1:(((i,x)::lst0).map Sf).Nodup:=by
    grind
   have hdis1:∀p∈(i,x)::lst0,p.1 ∉ l.map Sf:=λp hp=>by
    grind
   have hff1:∀k o,Dj i o' f k=some o->OR M (eB mp ρ) ((i,x)::lst0) k o:=λk o ho=>by
    rw[tr]at ho;by_cases e:k=i
    .grind
    .rw[J1 e]at ho;exact OR.mono (Sub.refl M) (Ext.refl _) (λy hy=>RM _ hy) (hff k o ho)
   have fin:∀rem1:List (Nat×As),(rem1.map Sf).Nodup->(∀j∈l.map Sf,∀b y,bL mp j=some (.ob b)->(b,y)∈lst->(b,y)∈rem1)->(∀p∈rem1,p∈rem/\bL mp i≠some (.ob p.1))->(∀p∈rem,bL mp i≠some (.ob p.1)->p∈rem1) ->
     (∀w,St w0 M (lst0.map Sg++(rem.map Sg++Γ)) w->St w0 M (((i,x)::lst0).map Sg++(rem1.map Sg++Γ)) w)->Ix mp ρ M w0 Γ (i::l.map Sf) f lst0 rem K:=by
    intro rem1 hnr1 hav1 hsub hsup hw1;obtain⟨ob',lst1,rem',k1,k2,k3,k4,k5,k6,k7,k8,k9⟩:=Fq hrows hobs hinj hlst hkeys h2 hr' h4 hnl'.2 hn1 hdis1 hnr1 hav1 hff1;refine⟨ob',lst1,rem',k1,k2,λk hk=>k3 k ?_,k4,λp hp=>?_,k6,λp hp=>⟨(hsub p (k7 p hp).1).1,λj hj=>?_⟩,λp hp hj=>k8 p (hsup p hp (hj i (RG ..))) λj hjl=>hj j (RM _ hjl),λw hw=>k9 w (hw1 w hw)⟩
    .rcases hk with hk|hk
     .left;rw[tr];split
      .rfl
      .exact hk
     .rcases RO.1 hk with rfl|hk
      .left;rw[tr,J2 rfl];rfl
      .exact .inr hk
    .rcases k5 p hp with h6|h6
     .rcases RO.1 h6 with rfl|h6
      .refine .inr ⟨RG ..,?_⟩;rcases hsrc with⟨b,hb,hm⟩|⟨e,sz,s,hb,_⟩
       .rw[cD hb];exact hkeys _ hm
       .rw[ur hb];rfl
      .exact .inl h6
     .exact .inr ⟨RM _ h6.1,h6.2⟩
    .rcases RO.1 hj with rfl|hj
     .exact(hsub p (k7 p hp).1).2
     .exact(k7 p hp).2 j hj
   rcases hsrc with⟨b,hb,hm⟩|⟨e,sz,s,hb,rfl⟩
   .have hmr:=hav i (RG ..) b x hb hm;refine fin (rem.filter λp=>!RN p.1 b) (kz hnr b) (λj hj b' y hb' hy=>il (hav j (RM _ hj) b' y hb' hy) λe=>?_) (λp hp=>⟨(Sp.1 hp).1,λe=>?_⟩) (λp hp hne=>Sp.2 ⟨hp,?_⟩) λw hw=>?_
    .subst e;exact hnl'.1 (by rw[hinj i j b' hb hb'];exact hj)
    .rw[hb]at e;simp only[RE,Tg.ob.injEq]at e;exact yK (k:=p.1) (x:=p.2) hp e.symm
    .grind [gX]
    .refine hw.fD ?_;have h6:=LQ hnr hmr;rw[Sb];refine((h6.append_right Γ).append_left (lst0.map Sg)).trans ?_;rw[List.cons_append];exact List.perm_middle
   .refine fin rem hnr (λj hj=>hav j (RM _ hj)) (λp hp=>⟨hp,by grind⟩) (λp hp _=>hp) λw hw=>?_;exact hw.tt e sz
  cases hb:CL o with
  |true=>rw[hb]at h3;subst h3;unfold vH at hu;rw[hb]at hu;have he:ae r pre.length=ds:=Ks hr;rw[show(fk true r pre.length).1=ds from he]at hu;exact key (q:=(fk true r pre.length).2) (pre':=pre++[ds]) (by simp[fk]) (by grind) hu
  |false=>rw[hb]at h3;subst h3;unfold vH at hu;rw[hb]at hu;have hd:ds=[]:=QA h1 hb;rw[show(fk false r pre.length).1=ds from hd.symm]at hu;exact key (q:=(fk false r pre.length).2) (pre':=pre) rfl hr hu
theorem tz{Γ0:List As}{val:Nat->Option RK}{w:R0}(hobs:∀i b x,bL mp i=some (.ob b)->ob b=some x->OR M ρ lst b x)(hlst:(lst.map Sf).Nodup)(hkeys:∀p∈lst,(ρ p.1).isSome=true)(hst:St w0 M (lst.map Sg++Γ0) w)(hgr:zu M)(hrows:iT ρ M ob fx)
  {sl:Nat->S} (hsl:∀t,sl t=su\/∃v,val t=some v/\SR M ρ (sl t) v) {sh:Sh} {r r':bT} (h1:qx ob mp fx sl sh.sl r) (h2:Gp ob mp fx sh.ob r') (hl:oS sh.ob mp=true) (hn:nA sh.ob=true) (hinj:zT mp)
  {K:Fr->Prop} (hu:cu bg sh (r++r') K) :
  ∃(fr':Fr) (lst' rem:List (Nat×As)),K fr'/\fr'.aV=rz sh.ob/\Rel w0 (rem.map Sg++Γ0) fr' (eB mp ρ) M lst' val w/\(∀p∈lst',p.1∈sh.ob.map Sf)/\(rem.map Sf).Nodup/\(∀p∈rem,p∈lst/\∀i∈sh.ob.map Sf,bL mp i≠some (.ob p.1)) /\
   (∀p∈lst,(∀i∈sh.ob.map Sf,bL mp i≠some (.ob p.1))->p∈rem):=by
 unfold cu at hu;obtain⟨sl',h3,h4⟩:=yI hrows hsl h1 (pre:=[]) (post:=r') rfl (λt=>.inl rfl) hu;rw[Sv]at h3;obtain⟨ob',lst1,rem',k1,k2,k3,k4,k5,k6,k7,k8,k9⟩:=Fq (w0:=w0) (Γ:=Γ0) (lst0:=[]) (rem:=lst) hrows hobs hinj hlst hkeys h2 rfl h3 (uf hn) Wc (λp hp=>by simp at hp) hlst (λi hi b x hb hx=>hx) (λk o ho=>by cases ho);refine⟨_,lst1,rem',k1,rfl,⟨h4,k2,λi v hv=>.inl ?_,λp hp=>((k5 p hp).resolve_left Q2).2,k4,k9 w hst,hgr⟩,λp hp=>((k5 p hp).resolve_left Q2).1,k6,k7,k8⟩
 .unfold eB at hv;split at hv
  .rename_i hg;exact De (fX hl hg)
  .rename_i hg;exact De (fX hl hg)
  .cases hv
end
theorem zT.nil:zT []:=λi j b h=>by simp[bL]at h
theorem zl{mp:List (Nat×Tg)}:∀{l:List Nat} {b i:Nat},rA mp l=true->b∈l->bL mp i≠some (.ob b)
 |c::l,b,i,h,hb=>by
  unfold rA at h;split at h
  .cases h
  .rename_i hc;rcases RO.1 hb with rfl|hb
   .grind [wy]
   .exact zl h hb
theorem uC{fr:Fr}{ob:Ob}(hob:∀b x,ob b=some x->fr.ob b=some x):∀(l:List Nat),fp fr (gC ob l)
 |[]=>fp.nil
 |b::l=>by
  unfold gC;split
  .rename_i e sz n ds hb;intro p hp;rcases RO.1 hp with rfl|hp
   .grind
   .exact uC hob l p hp
  .exact uC hob l
theorem uB{ob:Ob}:∀{l:List Nat} {b e sz n:Nat} {ds:List D},b∈l->ob b=some (.w e sz n ds)->(b,O.s sz n ds)∈gC ob l
 |c::l,b,e,sz,n,ds,hb,hob=>by
  unfold gC;rcases RO.1 hb with rfl|hb
  .grind
  .split
   .exact RM _ (uB hb hob)
   .exact uB hb hob
theorem pW{ob:Ob}:∀{l:List Nat} {p:Nat×O},p∈gC ob l->p.1∈l
 |c::l,p,h=>by
  unfold gC at h;split at h
  .rcases RO.1 h with rfl|h
   .grind
   .exact RM _ (pW h)
  .exact RM _ (pW h)
section
variable {w0:R0} {Γ0:List As} {fr:Fr} {ρ:Nat->Option RK} {M:Mem} {lst:List (Nat×As)} {val:Nat->Option RK} {w:R0}
theorem Rel.nV{R:List As}(h:Rel w0 (R++Γ0) fr ρ M lst val w):Rel w0 Γ0 fr ρ M lst val w :=
 ⟨h.sl,h.ob,h.vZ,h.gq,h.nd,h.st.sub (Xl (List.Sublist.refl _) (List.sublist_append_right _ _)),h.gr⟩
theorem pK{ob:Ob}{fx:List Nat}(hrow:∀b sz n ds,((∃e,ob b=some (.w e sz n ds))/\b∈fx\/ob b=some (.s sz n ds))->∃v,ρ b=some v/\Rd M (.sl n sz ds) v):∀{ws:List C} {cs:List D} {bs:List Nat} {us:List RK},qR ob ws=some (cs,bs)->(∀x∈bs,x∈fx)->cA M ρ ws us->bz M cs us
 |[],cs,bs,us,h,_,hu=>by
  simp only[qR,RE,R6]at h;obtain⟨rfl,rfl⟩:=h;cases us with
  |nil=>exact bz.nil _
  |cons _ _=>exact hu.elim
 |c::ws,cs,bs,[],_,_,hu=>hu.elim
 |c::ws,cs,bs,u::us,h,hb,hu=>by
  unfold qR at h;split at h
  .grind
  .rename_i x l he;simp only[Tn]at he;obtain⟨rfl,rfl⟩:=he;split at h
   .rename_i ds bs' hr;simp only[RE,R6]at h;obtain⟨rfl,rfl⟩:=h;exact bz.cons hu.1 (pK hrow hr hb hu.2)
   .cases h
  .rename_i sz l he;simp only[Tn]at he;obtain⟨rfl,rfl⟩:=he;split at h
   .rename_i ds bs' hr;simp only[RE,R6]at h;obtain⟨rfl,rfl⟩:=h;obtain rfl:u=.slice none 0 0:=hu.1;exact bz.cons Rd.qf (pK hrow hr hb hu.2)
   .cases h
  .rename_i b l he;simp only[Tn]at he;obtain⟨rfl,rfl⟩:=he;have hub:ρ b=some u:=hu.1.1;split at h
   .rename_i e sz n xs hob;split at h
    .rename_i ds bs' hr;simp only[RE,R6]at h;obtain⟨rfl,rfl⟩:=h;obtain⟨v,h1,h2⟩:=hrow b sz n xs (.inl ⟨⟨e,hob⟩,hb _ (RG ..)⟩);rw[hub]at h1;simp only[RE]at h1;subst h1;exact bz.cons h2 (pK hrow hr (λx hx=>hb _ (RM _ hx)) hu.2)
    .cases h
   .rename_i sz n xs hob;split at h
    .rename_i ds bs' hr;simp only[RE,R6]at h;obtain⟨rfl,rfl⟩:=h;obtain⟨v,h1,h2⟩:=hrow b sz n xs (.inr hob);rw[hub]at h1;simp only[RE]at h1;subst h1;exact bz.cons h2 (pK hrow hr hb hu.2)
    .cases h
   .cases h
  .cases h
theorem wB{ob:Ob}:∀{l:List Nat} {p:Nat×O},p∈gC ob l->∃e sz n ds,ob p.1=some (.w e sz n ds)
 |c::l,p,h=>by
  unfold gC at h;split at h
  .rename_i e sz n ds hob;rcases RO.1 h with rfl|h
   .exact⟨e,sz,n,ds,hob⟩
   .exact wB h
  .exact wB h
def Qn(ob:Ob)(b:Nat):Option O:=match ob b with
 |some (.v _ sz n ws)=>(match qR ob ws with
  |some (ds,_)=>some (.s sz n ds)
  |none=>none)
 |some (.h _ sz n ds j c)=>(match qR ob [c]with
  |some ([x],_)=>some (.s sz n (cB ds j [x]))
  |_=>none)
 |_=>none
theorem cA.rd{M:Mem}{ρ:Nat->Option RK}:∀{ds:List D} {us:List RK},cA M ρ (ds.map C.d) us->bz M ds us
 |[],[],_=>bz.nil _
 |_::_,_::_,h=>bz.cons h.1 (cA.rd h.2)
 |[],_::_,h=>h.elim
 |_::_,[],h=>h.elim
theorem Kh{M:Mem}{ρ:Nat->Option RK}{c:C}{x:D}(hc:∀u,CR M ρ c u->Rd M x u):∀{ds:List D} {j:Nat} {us:List RK},j<ds.length->cA M ρ (qd ds j c) us->bz M (cB ds j [x]) us
 |[],_,_,hj,_=>by cases hj
 |d::ds,0,u::us,_,h=>by exact bz.cons (hc u h.1) (cA.rd (ρ:=ρ) h.2)
 |d::ds,j+1,u::us,hj,h=>by
  have e:cB (d::ds) (j+1) [x]=d::cB ds j [x]:=by unfold cB;simp
  rw[e];exact bz.cons h.1 (Kh hc (Nat.lt_of_succ_lt_succ hj) h.2)
 |_::_,0,[],_,h=>h.elim
 |_::_,_+1,[],_,h=>h.elim
theorem xp(h:Rel w0 Γ0 fr ρ M lst val w){ob:Ob}(hob:∀b x,ob b=some x->fr.ob b=some x)(fx:List Nat):∃M1 lst1,Sub M M1/\Rel w0 Γ0 (fr.aI (gC ob fx++fy ob fx fx)) ρ M1 lst1 val w/\iT ρ M1 ob fx:=by
 obtain⟨M1,lst1,hM,hfa,hR⟩:=Rel.Kp (gC ob fx) h (uC hob fx);have plain:∀b sz n cs,((∃e,ob b=some (.w e sz n cs))/\b∈fx\/ob b=some (.s sz n cs))->∃v,ρ b=some v/\Rd M1 (.sl n sz cs) v:=λb sz n cs hb=>by
  rcases hb with⟨⟨e,hb⟩,hm⟩|hb
  .exact hfa _ (uB hm hb)
  .obtain⟨v,h1,h2⟩:=h.ob b _ (hob b _ hb);exact⟨v,h1,Rd.mono hM _ _ h2⟩
 obtain⟨M2,lst2,hM2,hfa2,hR2⟩:=Rel.Qy (Qn ob) (fy ob fx fx) hR λp hp=>by
  obtain⟨sz,n,ds,bs,h1,h2,h4,_⟩:=rn hp;rcases h2 with⟨e,ws,h2,h3⟩|⟨e,ds0,j,c,x,h2,h3,rfl⟩
  .refine⟨by grind [Qn],e,sz,n,ws,ds,h1,.inl (.inl ?_),λM' us hM' hu=>pK (M:=M') (fx:=fx) (λb sz n ds hb=>?_) h3 h4 hu⟩
   .grind [gJ,wB]
   .obtain⟨v,h5,h6⟩:=plain b sz n ds hb;exact⟨v,h5,Rd.mono hM' _ _ h6⟩
  .obtain⟨_,_,_,_,_,_,_,_,hj⟩:=h.ob _ _ (hob _ _ h2);refine⟨by grind [Qn],e,sz,n,qd ds0 j c,_,h1,.inl (.inr ⟨ds0,j,c,?_,rfl⟩),λM' us hM' hu=>Kh (λu hc=>?_) hj hu⟩
   .grind [gJ,wB]
   .have h7:cA M' ρ [c] [u]:=⟨hc,trivial⟩
    exact(pK (M:=M') (fx:=fx) (λb sz n ds hb=>by
     obtain⟨v,h5,h6⟩:=plain b sz n ds hb
     exact⟨v,h5,Rd.mono hM' _ _ h6⟩) h3 h4 h7).2 0 _ _ rfl rfl
 refine⟨M2,lst2,hM.trans hM2,by rw[w4];exact hR2,λb sz n cs hb=>?_⟩;rcases hb with hb|⟨bs,h1,h3,h4⟩
 .obtain⟨v,h5,h6⟩:=plain b sz n cs hb;exact⟨v,h5,Rd.mono hM2 _ _ h6⟩
 .exact hfa2 _ (rp h1 h4 h3) sz n cs rfl
theorem Lo(h:Rel w0 Γ0 fr ρ M lst val w){ob:Ob}(hob:∀b x,ob b=some x->fr.ob b=some x)(fx:List Nat)(hv:fy ob fx fx=[]):∃M1 lst1,Sub M M1/\Rel w0 Γ0 (fr.aI (gC ob fx)) ρ M1 lst1 val w/\iT ρ M1 ob fx:=by
 obtain⟨M1,lst1,h1,h2,h3⟩:=xp h hob fx
 grind
theorem GP{ob:Ob}{l:List Nat}{p:Nat×O}(h:p∈gC ob l++fy ob l l):p.1∈l:=by
 grind [pW,rn]
end
def Dl(s:lW)(v:RK)(vs:List RK):Prop:=match s with
 |.t l=>v=.tuple vs.toArray/\vs.length=l.length
 |_=>vs=[v]
def jE(s:bC):Sh:=⟨s6 0 (uc s.out),s.js⟩
def gM(vs:List RK):Nat->Option RK:=λt=>vs[t]?
def Left(w0:R0)(Γ0:List As)(ρ:Nat->Option RK)(M:Mem)(s:bC)(r:bT)(e:Ending)(w':R0):Prop :=
 ∃v vs ρ' M' lst' fr',e=.returned v/\Dl s.out v vs/\Sub M M'/\(∀i u,ρ i=some u->i∈s.js.map Sf->ρ' i=some u)/\(∀i,(ρ' i).isSome=true->i∈s.js.map Sf)/\(∀p∈lst',p.1∈s.js.map Sf) /\
  cu bg (jE s) r (λx=>x=fr')/\Rel w0 Γ0 fr' ρ' M' lst' (gM vs) w'
def IA(P:RV)(s:bC)(fr:Fr)(r:bT):Prop:=∀(w0:R0) (Γ0:List As) (ρ:Nat->Option RK) (M:Mem) (lst:List (Nat×As)) (vs:List RK) (w:R0),vs.length=s.ins.sl.length->(∀i,(ρ i).isSome=true->i∈s.ins.ob.map Sf)->Rel w0 Γ0 fr ρ M lst (gM vs) w ->
 UU P s.f vs.toArray w (Left w0 Γ0 ρ M s r)
def Is(P:RV)(s:bC)(a r:bT):Prop:=cu bg s.ins a λfr=>IA P s fr r
def cz(M:Mem)(ρ:Nat->Option RK):List S->List RK->Prop
 |[],[]=>True
 |s::ss,v::vs=>SR M ρ s v/\cz M ρ ss vs
 |_,_=>False
def RC(w0:R0)(Γ0:List As)(ρ:Nat->Option RK)(M:Mem)(v:S)(os:List (Nat×O))(e:Ending)(w':R0):Prop :=
 ∃u ρ' M' lst',e=.returned u/\Sub M M'/\Ext ρ ρ'/\SR M' ρ' v u/\Rel w0 Γ0 ⟨λ_=>su,o0 os,0⟩ ρ' M' lst' (λ_=>none) w'
def Gn(P:RV)(f:Nat)(xs:List S)(ob:List (Nat×O))(v:S)(os:List (Nat×O)):Prop:=∀(w0:R0) (Γ0:List As) (ρ:Nat->Option RK) (M:Mem) (lst:List (Nat×As)) (us:List RK) (w:R0),
 cz M ρ xs us->Rel w0 Γ0 ⟨λ_=>su,o0 ob,0⟩ ρ M lst (λ_=>none) w->UU P f us.toArray w (RC w0 Γ0 ρ M v os)
def j3(P:RV):Cx:=⟨Is P,Gn P⟩
section
variable {J:Cx} {fr:Fr}
theorem lI{ds:List D}{j:Nat}{s:jx}{k:C->Nat->bn}{fs fo:List Nat}{o:Out}(hr:R1 J fr (unB qk ds j s k) fs fo o):∃c q,(∀K:C->Nat->Prop,unB bg ds j s K↔K c q)/\R1 J fr (k c q) fs fo o:=by
 cases s with
 |i=>obtain⟨z,h1,h2⟩:=hr;refine⟨_,_,λK=>?_,h2⟩;show ar (cell ds j) _↔_;rw[h1];exact Ul
 |bo=>obtain⟨z,h1,h2⟩:=hr;refine⟨_,_,λK=>?_,h2⟩;show pc (cell ds j) _↔_;rw[h1];exact Ul
 |d=>exact⟨_,_,λK=>Ul,hr⟩
 |p b o=>exact⟨_,_,λK=>Ul,hr⟩
 |w b=>exact⟨_,_,λK=>Ul,hr⟩
 |m b=>exact⟨_,_,λK=>Ul,hr⟩
 |f g cs=>exact⟨_,_,λK=>Ul,hr⟩
 |y b sz=>obtain⟨l,h1,n,h2,h3⟩:=hr;refine⟨_,_,λK=>?_,h3⟩;show ar (cell ds j) (λl=>ar (cell ds (j+1)) λn=>K (.y b 0 sz l.toNat n.toNat) (j+2))↔_;rw[h1,h2];exact Ul
theorem Dz:∀{ss:List jx} {ds:List D} {j:Nat} {k:List C->Nat->bn} {fs fo:List Nat} {o:Out},R1 J fr (BS qk ds j ss k) fs fo o->∃c q,(∀K:List C->Nat->Prop,BS bg ds j ss K↔K c q)/\R1 J fr (k c q) fs fo o
 |[],ds,j,k,fs,fo,o,hr=>⟨[],j,λK=>Ul,hr⟩
 |s::ss,ds,j,k,fs,fo,o,hr=>by obtain⟨c,q,h1,hr⟩:=lI hr;obtain⟨cs,q',h2,hr⟩:=Dz (ss:=ss) hr;exact⟨c::cs,q',λK=>(h1 _).trans (h2 _),hr⟩
theorem IT{ds:List D}{j:Nat}{s:jx}{k:C->Nat->bn}{fs fo:List Nat}{o:Out}(hr:R1 J fr (unC qk ds j s k) fs fo o):∃c q,(∀K:C->Nat->Prop,unC bg ds j s K↔K c q)/\R1 J fr (k c q) fs fo o:=by
 cases s with
 |f g cs=>obtain⟨c,q,h1,hr⟩:=Dz (ss:=cs) (ds:=ds) (j:=j) (k:=λcs j=>k (.f g cs) j) hr;exact⟨.f g c,q,λK=>h1 (λcs j=>K (.f g cs) j),hr⟩
 |i=>exact lI (s:=.i) (ds:=ds) (j:=j) (k:=k) hr
 |bo=>exact lI (s:=.bo) (ds:=ds) (j:=j) (k:=k) hr
 |d=>exact lI (s:=.d) (ds:=ds) (j:=j) (k:=k) hr
 |p b o=>exact lI (s:=.p b o) (ds:=ds) (j:=j) (k:=k) hr
 |w b=>exact lI (s:=.w b) (ds:=ds) (j:=j) (k:=k) hr
 |m b=>exact lI (s:=.m b) (ds:=ds) (j:=j) (k:=k) hr
 |y b sz=>exact lI (s:=.y b sz) (ds:=ds) (j:=j) (k:=k) hr
theorem rG:∀{ss:List jx} {ds:List D} {j:Nat} {k:List C->Nat->bn} {fs fo:List Nat} {o:Out},R1 J fr (wZ qk ds j ss k) fs fo o->∃c q,(∀K:List C->Nat->Prop,wZ bg ds j ss K↔K c q)/\R1 J fr (k c q) fs fo o
 |[],ds,j,k,fs,fo,o,hr=>⟨[],j,λK=>Ul,hr⟩
 |s::ss,ds,j,k,fs,fo,o,hr=>by obtain⟨c,q,h1,hr⟩:=IT hr;obtain⟨cs,q',h2,hr⟩:=rG (ss:=ss) hr;exact⟨c::cs,q',λK=>(h1 _).trans (h2 _),hr⟩
theorem IL{ds:List D}{s:lW}{k:S->bn}{fs fo:List Nat}{o:Out}(hr:R1 J fr (Nv qk ds s k) fs fo o):∃x,(∀K:S->Prop,Nv bg ds s K↔K x)/\(∀l,x≠.t l)/\R1 J fr (k x) fs fo o:=by
 cases s with
 |c s=>obtain⟨c,q,h1,hr⟩:=IT (s:=s) (ds:=ds) (j:=0) (k:=λc _=>k (.c c)) hr;exact⟨.c c,λK=>h1 (λc _=>K (.c c)),Q2,hr⟩
 |a n=>exact⟨_,λK=>Ul,Q2,hr⟩
 |g cs=>obtain⟨c,q,h1,hr⟩:=rG (ss:=cs) (ds:=ds) (j:=0) (k:=λc _=>k (.g c)) hr;exact⟨.g c,λK=>h1 (λc _=>K (.g c)),Q2,hr⟩
 |t l=>exact⟨su,λK=>Ul,by simp[su],hr⟩
theorem unO_det{ds:List D}{s:mh}{k:O->bn}{fs fo:List Nat}{o:Out}(hr:R1 J fr (unO qk ds s k) fs fo o):∃x,(∀K:O->Prop,unO bg ds s K↔K x)/\R1 J fr (k x) fs fo o:=by
 cases s with
 |b e cs=>obtain⟨c,q,h1,hr⟩:=rG (ss:=cs) (ds:=ds) (j:=0) (k:=λc _=>k (.b e c)) hr;exact⟨.b e c,λK=>h1 (λc _=>K (.b e c)),hr⟩
 |a e n=>exact⟨_,λK=>Ul,hr⟩
 |v e sz n cs=>obtain⟨c,q,h1,hr⟩:=rG (ss:=cs) (ds:=ds) (j:=0) (k:=λc _=>k (.v e sz n c)) hr;exact⟨.v e sz n c,λK=>h1 (λc _=>K (.v e sz n c)),hr⟩
 |m t ag vs =>
  obtain⟨n,cs,h1,hr⟩:=hr;refine⟨.m t ag vs n cs,λK=>?_,hr⟩;show aG (3+vs) (cell ds 0) _↔_;rw[h1]
  show(match RN (3+vs) (3+vs) with
   |true=>K (.m t ag vs n cs)
   |false=>False)↔_
  rw[cN]
 |ms t ag vs =>
  obtain⟨n,cs,h1,hr⟩:=hr;refine⟨.ms t ag vs n cs,λK=>?_,hr⟩;show aG (3+vs) (cell ds 0) _↔_;rw[h1]
  show(match RN (3+vs) (3+vs) with
   |true=>K (.ms t ag vs n cs)
   |false=>False)↔_
  rw[cN]
 |x e sz =>
  obtain⟨n,cs,h1,hr⟩:=hr;refine⟨.x e sz n cs,λK=>?_,hr⟩;show aG sz (cell ds 0) _↔_;rw[h1]
  show(match RN sz sz with
   |true=>K (.x e sz n cs)
   |false=>False)↔_
  rw[cN]
 |h e sz q =>
  obtain⟨n,cs,h1,z,h2,hr⟩:=hr;refine⟨.h e sz n cs z.toNat (.w q),λK=>?_,hr⟩;show aG sz (cell ds 0) (λn cs=>ar (cell ds 1) λz=>K (.h e sz n cs z.toNat (.w q)))↔_;rw[h1,h2]
  show(match RN sz sz with
   |true=>K (.h e sz n cs z.toNat (.w q))
   |false=>False)↔_
  rw[cN]
 |it ag vs =>
  obtain⟨n,cs,h1,hr⟩:=hr;refine⟨.it ag vs none n cs,λK=>?_,hr⟩;show aG (3+vs) (cell ds 0) _↔_;rw[h1]
  show(match RN (3+vs) (3+vs) with
   |true=>K (.it ag vs none n cs)
   |false=>False)↔_
  rw[cN]
 |w e sz =>
  obtain⟨n,cs,h1,hr⟩:=hr;refine⟨.w e sz n cs,λK=>?_,hr⟩;show aG sz (cell ds 0) _↔_;rw[h1]
  show(match RN sz sz with
   |true=>K (.w e sz n cs)
   |false=>False)↔_
  rw[cN]
def cv:Nat->List S->(Nat->S)->(Nat->S)
 |_,[],f=>f
 |j,x::l,f=>cv (j+1) l (λi=>match RN i j with
  |true=>x
  |false=>f i)
theorem Dy{r:bT}:∀{ss:List lW} {j:Nat} {k:List S->Nat->bn} {fs fo:List Nat} {o:Out},R1 J fr (unRs r j ss k) fs fo o->∃xs q,xs.length=ss.length/\(∀x∈xs,∀l,x≠S.t l)/\(∀(n:Nat) (f:Nat->S) (K:(Nat->S)->Nat->Prop),qD bg r j (s6 n ss) f K↔K (cv n xs f) q)/\R1 J fr (k xs q) fs fo o
 |[],j,k,fs,fo,o,hr=>⟨[],j,rfl,Q2,λn f K=>Ul,hr⟩
 |s::ss,j,k,fs,fo,o,hr=>by
  obtain⟨x,h1,hx,hr⟩:=IL hr;obtain⟨xs,q,hl,hxs,h2,hr⟩:=Dy (ss:=ss) hr;refine⟨x::xs,q,by simp[hl],λy hy=>?_,λn f K=>(h1 _).trans (h2 _ _ _),hr⟩
  grind
def LB:lW->List S->S
 |.t _,xs=>.t xs
 |_,xs=>xs.getD 0 su
theorem IM{r:bT}{s:lW}{k:S->Nat->bn}{fs fo:List Nat}{o:Out}(hr:R1 J fr (unR r s k) fs fo o) :
  ∃xs q,xs.length=(uc s).length/\(∀x∈xs,∀l,x≠S.t l)/\(∀(f:Nat->S) (K:(Nat->S)->Nat->Prop),qD bg r 0 (s6 0 (uc s)) f K↔K (cv 0 xs f) q)/\R1 J fr (k (LB s xs) q) fs fo o:=by
 have one:∀(s:lW) (_:uc s=[s]),R1 J fr (Nv qk (fk (uz s) r 0).1 s λx=>k x (fk (uz s) r 0).2) fs fo o ->
   ∃xs q,xs.length=(uc s).length/\(∀x∈xs,∀l,x≠S.t l)/\(∀(f:Nat->S) (K:(Nat->S)->Nat->Prop),qD bg r 0 (s6 0 (uc s)) f K↔K (cv 0 xs f) q)/\R1 J fr (k (xs.getD 0 su) q) fs fo o:=by
  intro s hs hr;obtain⟨x,h1,hx,hr⟩:=IL hr;refine⟨[x],_,by rw[hs];rfl,λy hy=>by grind,λf K=>?_,hr⟩;rw[hs];exact h1 _
 cases s with
 |t l=>obtain⟨xs,q,hl,hxs,h2,hr⟩:=Dy (ss:=l) hr;exact⟨xs,q,hl,hxs,λf K=>h2 0 f K,hr⟩
 |c _=>exact one _ rfl hr
 |a _=>exact one _ rfl hr
 |g _=>exact one _ rfl hr
theorem tF:∀(xs:List S) (n:Nat) (f:Nat->S) (t:Nat),cv n xs f t=if n<=t/\t<n+xs.length then xs.getD (t-n) su else f t
 |[],n,f,t=>by rw[J1 Q2];rfl
 |x::xs,n,f,t=>by
  rw[cv,tF xs (n+1)]
  grind [cN,gX]
def obF:List (Nat×O)->Ob->Ob
 |[],f=>f
 |(b,x)::l,f=>obF l (Dj b x f)
def Ru(J:Cx)(fr:Fr)(mp:List (Nat×Tg))(d:Nat)(r:bT)(os:List (Nat×mh))(j:Nat)(l:List (Nat×O))(k:List (Nat×O)->bn)(fs:List Nat)(o:Out):Prop :=
 ∃(xs:List (Nat×O)) (fo':List Nat),xs.map Sf=os.map Sf/\(∀(f:Ob) (K:Ob->Prop),vH bg r j os f K↔K (obF xs f))/\R1 J fr (k (l++xs.map λp=>(bD mp d p.1,BB mp d p.2))) fs fo' o/\∀i∈os.map Sf,(∃b,bL mp i=some (.ob b))\/fr.ob (d+10000*(i+1))=none
theorem Ac{mp:List (Nat×Tg)}{d:Nat}{r:bT}:∀{os:List (Nat×mh)} {j:Nat} {l:List (Nat×O)} {k:List (Nat×O)->bn} {fs fo:List Nat} {o:Out},R1 J fr (IQ mp d r j os l k) fs fo o->Ru J fr mp d r os j l k fs o
 |[],j,l,k,fs,fo,o,hr=>⟨[],fo,rfl,λf K=>Ul,by rw[List.map_nil,RW];exact hr,λi hi=>by simp at hi⟩
 |(b,s)::os,j,l,k,fs,fo,o,hr=>by
  obtain⟨x,h1,hr⟩:=unO_det (fo:=fo) hr;have key:∀fo1,R1 J fr (IQ mp d r (fk (CL s) r j).2 os (l++[(bD mp d b,BB mp d x)]) k) fs fo1 o->((∃c,bL mp b=some (.ob c))\/fr.ob (d+10000*(b+1))=none)->Ru J fr mp d r ((b,s)::os) j l k fs o:=λfo1 hr hb=>by
   obtain⟨xs,fo',hl,h2,hr,h3⟩:=Ac (os:=os) hr;refine⟨(b,x)::xs,fo',by simp[hl],λf K=>(h1 _).trans (h2 _ _),by grind,λi hi=>?_⟩
   grind
  grind [freeP,R1]
theorem xL:∀(n:Nat) {l seen:List Nat} {k:Ob->bn} {f:Ob} {fs fo:List Nat} {o:Out},(∀b x,f b=some x->fr.ob b=some x)->R1 J fr (xM n l seen k f) fs fo o->∃ob fo',(∀b x,ob b=some x->fr.ob b=some x)/\R1 J fr (k ob) fs fo' o
 |0,_,_,_,f,_,fo,_,hf,hr=>⟨f,fo,hf,hr⟩
 |_+1,[],_,_,f,_,fo,_,hf,hr=>⟨f,fo,hf,hr⟩
 |n+1,b::l,seen,k,f,fs,fo,o,hf,hr=>by
  unfold xM at hr;split at hr
  .exact xL n hf hr
  .refine xL n (λc x hc=>?_) hr
   grind [gX]
end
theorem Fi:∀{l:List (Nat×O)} {b:Nat} {o:O},o0 l b=some o->(b,o)∈l
 |(i,x)::l,b,o,h=>by
  unfold o0 at h;split at h
  .simp_all
  .exact RM _ (Fi h)
theorem lb:∀{l:List (Nat×O)} {b:Nat},cT l b=true↔(o0 l b).isSome=true
 |[],b=>by simp[cT,o0]
 |(i,x)::l,b=>by
  unfold cT o0;cases RN b i with
  |true=>simp
  |false=>exact lb
theorem oZ:∀{l:List (Nat×O)} {b:Nat},cT l b=true↔b∈l.map Sf
 |[],b=>by simp[cT]
 |(i,x)::l,b=>by
  unfold cT;cases hb:RN b i with
  |true=>rw[RD hb];simp
  |false=>have hne:b≠i:=Yj hb;simp[hne,oZ (l:=l)]
theorem pD{acc:List (Nat×O)}:∀{l:List Nat},w9 acc l=true->∀b∈l,cT acc b=true
 |c::l,h,b,hb=>by
  unfold w9 at h;split at h
  .rename_i hc;rcases RO.1 hb with rfl|hb
   .exact hc
   .exact pD h b hb
  .cases h
theorem D4{acc:List (Nat×O)}:∀{l:List (Nat×O)},uY acc l=true->∀p∈l,∀b∈Oo p.2,cT acc b=true
 |(i,o)::l,h,p,hp=>by
  unfold uY at h;split at h
  .rename_i hc;rcases RO.1 hp with rfl|hp
   .exact pD hc
   .exact D4 h p hp
  .cases h
def qi(N:Nat->Bool)(ρ:Nat->Option RK):Nat->Option RK:=λb=>match N b with
 |true=>ρ b
 |false=>none
theorem cX{N:Nat->Bool}{ρ:Nat->Option RK}{b:Nat}(h:N b=true):qi N ρ b=ρ b:=by unfold qi;rw[h]
theorem Nc{N:Nat->Bool}{ρ:Nat->Option RK}{b:Nat}{v:RK}(h:qi N ρ b=some v):N b=true/\ρ b=some v:=by
 unfold qi at h
 grind
section
variable {M:Mem} {ρ:Nat->Option RK} {N:Nat->Bool}
theorem CB.cut:∀{c:C} {v:RK},CB M ρ c v->(∀b∈xJ c,N b=true)->CB M (qi N ρ) c v
 |.d _,_,h,_=>h
 |.n,_,h,_=>h
 |.l _,_,h,_=>h
 |.p b _,_,⟨k,h1,h2⟩,hn=>⟨k,by grind [cX,xJ],h2⟩
 |.q b _ _ _,_,⟨a,n,c,h1,h2⟩,hn=>⟨a,n,c,by grind [cX,xJ],h2⟩
 |.w b,_,h,hn=>⟨by rw[cX (hn b (by simp[xJ]))];exact h.1,h.2⟩
 |.m b,_,⟨k,h1,h2⟩,hn=>⟨k,by grind [cX,xJ],h2⟩
 |.z,_,h,_=>h
 |.u,_,_,_=>trivial
 |.e b _,_,⟨k,h1,h2⟩,hn=>⟨k,by grind [cX,xJ],h2⟩
 |.y b _ _ _ _,_,⟨ad,c,h1,h2,.inl ⟨k,h3,h4⟩⟩,hn=>⟨ad,c,h1,h2,.inl ⟨k,by grind [cX,xJ],h4⟩⟩
 |.y b _ _ _ _,_,⟨ad,c,h1,h2,.inr ⟨a,n,C,h3,h4⟩⟩,hn=>⟨ad,c,h1,h2,.inr ⟨a,n,C,by grind [cX,xJ],h4⟩⟩
 |.k _,_,h,_=>h
 |.f _ _,_,h,_=>h
theorem zV.cut:∀{c:List C} {v:List RK},zV M ρ c v->(∀b∈c.flatMap xJ,N b=true)->zV M (qi N ρ) c v
 |[],[],_,_=>trivial
 |_::_,_::_,h,hn=>⟨h.1.cut λb hb=>hn b (by simp[hb]),zV.cut h.2 λb hb=>hn b (by
   rw[RT];exact List.mem_append_right _ hb)⟩
 |[],_::_,h,_=>h.elim
 |_::_,[],h,_=>h.elim
theorem CR.cut:∀{c:C} {v:RK},CR M ρ c v->(∀b∈B5 c,N b=true)->CR M (qi N ρ) c v
 |.f _ _,_,⟨us,h1,h2⟩,hn=>⟨us,h1,h2.cut hn⟩
 |.d x,_,h,hn=>CB.cut (M:=M) (ρ:=ρ) (c:=.d x) h hn
 |.n,_,h,hn=>CB.cut (M:=M) (ρ:=ρ) (c:=.n) h hn
 |.l sz,_,h,hn=>CB.cut (M:=M) (ρ:=ρ) (c:=.l sz) h hn
 |.p b o,_,h,hn=>CB.cut (M:=M) (ρ:=ρ) (c:=.p b o) h hn
 |.q b s k j,_,h,hn=>CB.cut (M:=M) (ρ:=ρ) (c:=.q b s k j) h hn
 |.w b,_,h,hn=>CB.cut (M:=M) (ρ:=ρ) (c:=.w b) h hn
 |.m b,_,h,hn=>CB.cut (M:=M) (ρ:=ρ) (c:=.m b) h hn
 |.z,_,h,hn=>CB.cut (M:=M) (ρ:=ρ) (c:=.z) h hn
 |.u,_,_,_=>trivial
 |.e b i,_,h,hn=>CB.cut (M:=M) (ρ:=ρ) (c:=.e b i) h hn
 |.y b q sz l n,_,h,hn=>CB.cut (M:=M) (ρ:=ρ) (c:=.y b q sz l n) h hn
 |.k g,_,h,hn=>CB.cut (M:=M) (ρ:=ρ) (c:=.k g) h hn
theorem cA.cut:∀{c:List C} {v:List RK},cA M ρ c v->(∀b∈c.flatMap B5,N b=true)->cA M (qi N ρ) c v
 |[],[],_,_=>trivial
 |_::_,_::_,h,hn=>⟨h.1.cut λb hb=>hn b (by simp[hb]),cA.cut h.2 λb hb=>hn b (by
   rw[RT];exact List.mem_append_right _ hb)⟩
 |[],_::_,h,_=>h.elim
 |_::_,[],h,_=>h.elim
theorem SB.cut{s:S}{v:RK}(h:SB M ρ s v)(hn:∀b∈qe s,N b=true):SB M (qi N ρ) s v:=by
 cases s with
 |c c=>exact CR.cut h hn
 |a n ds=>exact h
 |g cs=>obtain⟨us,h1,h2⟩:=h;exact⟨us,h1,h2.cut hn⟩
 |r n ds o=>exact h
 |t l=>exact h
theorem SR.cut{s:S}{v:RK}(h:SR M ρ s v)(hn:∀b∈qe s,N b=true):SR M (qi N ρ) s v:=by
 cases s with
 |t l =>
  obtain⟨vs,h1,h2⟩:=h;refine⟨vs,h1,?_⟩;have key:∀(l:List S) (vs:List RK),wN M ρ l vs->(∀b∈qe (.t l),N b=true)->wN M (qi N ρ) l vs:=by
   intro l;induction l with
   |nil=>intro vs h _;cases vs with
    |nil=>trivial
    |cons _ _=>exact h.elim
   |cons s l ih =>
    intro vs h hn;cases vs with
    |nil=>exact h.elim
    |cons v vs =>
     have h0:∀b∈qe s,N b=true:=λb hb=>hn b (by
      cases s with
      |t _=>exact J3 h.1 (λx=>x.elim)
      |c c=>simp only[qe,RT];exact List.mem_append_left _ hb
      |g c=>simp only[qe,RT];exact List.mem_append_left _ hb
      |a _ _=>simp[qe]at hb
      |r _ _ _=>simp[qe]at hb)
     refine⟨h.1.cut h0,ih vs h.2 λb hb=>hn b ?_⟩;simp only[qe,RT]at hb ⊢;exact List.mem_append_right _ hb
  exact key l vs h2 hn
 |c c=>exact SB.cut (s:=.c c) h hn
 |a n ds=>exact h
 |g cs=>exact SB.cut (s:=.g cs) h hn
 |r n ds o=>exact h
theorem OR.cut{lst lst':List (Nat×As)}{b:Nat}(hb:N b=true)(hl:∀x,(b,x)∈lst->(b,x)∈lst'){o:O}(h:OR M ρ lst b o)(hn:∀c∈Oo o,N c=true):OR M (qi N ρ) lst' b o:=by
 cases o with
 |b e cs=>obtain⟨k,us,h1,h2,h3⟩:=h;exact⟨k,us,by grind [cX],hl _ h2,h3.cut hn⟩
 |a e n ds=>obtain⟨k,us,h1,h2,h3,h4⟩:=h;exact⟨k,us,by grind [cX],hl _ h2,h3,h4⟩
 |w e sz n ds=>obtain⟨a,c,us,h1,h2,h3,h4⟩:=h;exact⟨a,c,us,by grind [cX],hl _ h2,h3,h4⟩
 |v e sz n cs=>obtain⟨a,c,us,h1,h2,h3,h4⟩:=h;exact⟨a,c,us,by grind [cX],hl _ h2,h3.cut hn,h4⟩
 |s sz n ds=>obtain⟨v,h1,h2⟩:=h;exact⟨v,by grind [cX],h2⟩
 |m t ag vs n ds=>obtain⟨k,l,h1,h2,h3,h4⟩:=h;exact⟨k,l,by grind [cX],hl _ h2,h3,h4⟩
 |ms t ag vs n ds=>obtain⟨k,h1,h2,h3⟩:=h;exact⟨k,by grind [cX],hl _ h2,h3⟩
 |x e sz n ds=>obtain⟨a,c,us,h1,h2,h3,h4,h5⟩:=h;exact⟨a,c,us,by grind [cX],h2,h3,h4,h5.mono hl⟩
 |h e sz n ds j c=>obtain⟨a,q,us,h1,h2,h3,h4⟩:=h;exact⟨a,q,us,by grind [cX],hl _ h2,cA.hole (λ_ hc=>CR.cut hc hn) h3,h4⟩
 |it ag vs cur n ds=>obtain⟨k,o,h1,h2,h3⟩:=h;exact⟨k,o,by grind [cX],hl _ h2,h3⟩
 |dK=>trivial
theorem cz.cut:∀{xs:List S} {vs:List RK},cz M ρ xs vs->(∀b∈xs.flatMap qe,N b=true)->cz M (qi N ρ) xs vs
 |[],[],_,_=>trivial
 |_::_,_::_,h,hn=>⟨h.1.cut λb hb=>hn b (by simp[hb]),cz.cut h.2 λb hb=>hn b (by
   rw[RT];exact List.mem_append_right _ hb)⟩
 |[],_::_,h,_=>h.elim
 |_::_,[],h,_=>h.elim
end
theorem Rel.cut{w0:R0}{Γ0:List As}{fr:Fr}{ρ:Nat->Option RK}{M:Mem}{lst:List (Nat×As)}{val:Nat->Option RK}{w:R0}(h:Rel w0 Γ0 fr ρ M lst val w){os:List (Nat×O)}(ho:∀p∈os,fr.ob p.1=some p.2)(hs:uY os os=true) :
  Rel w0 ((lst.filter λp=>!cT os p.1).map Sg++Γ0) ⟨λ_=>su,o0 os,0⟩ (qi (cT os) ρ) M (lst.filter λp=>cT os p.1) (λ_=>none) w:=by
 refine⟨λt=>.inl rfl,λb o hb=>?_,λb v hv=>.inr (lb.1 (Nc hv).1),λp hp=>?_,?_,?_,h.gr⟩
 .have hm:=Fi hb;have hN:cT os b=true:=oZ.2 (Ss hm);exact OR.cut hN (λx hx=>Sp.2 ⟨hx,hN⟩) (h.ob b o (ho _ hm)) λc hc=>D4 hs _ hm c hc
 .obtain⟨h1,h2⟩:=Sp.1 hp;rw[cX h2];exact h.gq p h1
 .exact h.nd.sublist ((TK).map Sf)
 .refine h.st.fD ?_;rw[<-R9,<-Si];exact(((X7 (λp:Nat×As=>cT os p.1) lst).map Sg).append_right Γ0).symm
section
variable {J:Cx} {fr:Fr} {fs fo:List Nat} {o:Out}
theorem tR:∀(n:Nat) {l:List Nat} {acc:List (Nat×O)} {k:List (Nat×O)->bn} {fo:List Nat},(∀p∈acc,fr.ob p.1=some p.2)->R1 J fr (xN n l acc k) fs fo o->∃acc' fo',(∀p∈acc',fr.ob p.1=some p.2)/\R1 J fr (k acc') fs fo' o
 |0,_,_,_,_,_,hr=>hr.elim
 |_+1,[],acc,k,fo,ha,hr=>⟨acc,fo,ha,hr⟩
 |n+1,b::l,acc,k,fo,ha,hr=>by
  unfold xN at hr;split at hr
  .exact tR n ha hr
  .change R1 J fr (match fr.ob b with|some o=>_|none=>_) fs (2*b::fo) o at hr;split at hr
   .rename_i x hx
    exact tR n (λp hp=>by
     rcases RO.1 hp with rfl|hp
     .exact hx
     .exact ha p hp) hr
   .exact hr.elim
theorem ye{id:Nat}{acc:List (Nat×O)}:∀{l:List (Nat×O)} {k:bn} {fo:List Nat},R1 J fr (EP id acc l k) fs fo o->(∀p∈l,cT acc p.1=false->id<=p.1/\fr.ob p.1=none)/\∃fo',R1 J fr k fs fo' o
 |[],k,fo,hr=>⟨λ_ hp=>(by cases hp),fo,hr⟩
 |(b,x)::l,k,fo,hr=>by
  unfold EP at hr;split at hr
  .rename_i hb;obtain⟨h1,h2⟩:=ye hr
   grind
  .obtain⟨h0,hr⟩:=hr;change R1 J fr (match fr.ob b with|none=>_|some _=>_) fs (2*b::fo) o at hr;split at hr
   .rename_i hx;obtain⟨h1,h2⟩:=ye hr
    grind
   .exact hr.elim
end
theorem MQ(i:Nat)(x:O)(l:List (Nat×O))(b:Nat):o0 ((i,x)::l) b=match RN b i with
  |true=>some x
  |false=>o0 l b:=rfl
theorem tC:∀{os:List (Nat×O)},vc os=true->∀(fr:Fr) (b:Nat),(fr.aI os).ob b=match o0 os b with
  |some o=>some o
  |none=>fr.ob b
 |[],_,fr,b=>rfl
 |(i,x)::l,h,fr,b=>by
  unfold vc at h;split at h
  .cases h
  .rename_i hi;rw[Fr.aI,tC h,MQ]
   grind [RN,RD,o0,lb,cI,Yj]
theorem Rel.uncut{w0:R0}{Γ0:List As}{fr:Fr}{ρ ρ':Nat->Option RK}{M M':Mem}{lst lst':List (Nat×As)}{val:Nat->Option RK}{w w':R0}(h:Rel w0 Γ0 fr ρ M lst val w){acc os:List (Nat×O)}{id:Nat}(hid:fr.aV<=id)
  (hM:Sub M M') (hE:Ext (qi (cT acc) ρ) ρ') (h':Rel w0 ((lst.filter λp=>!cT acc p.1).map Sg++Γ0) ⟨λ_=>su,o0 os,0⟩ ρ' M' lst' (λ_=>none) w') (h1:vc os=true) (hsub:∀b,cT acc b=true->cT os b=true)
  (hnew:∀p∈os,cT acc p.1=false->id<=p.1/\fr.ob p.1=none) :
  ∃ρ'',Ext ρ ρ''/\Ext ρ' ρ''/\Rel w0 Γ0 (fr.aI os) ρ'' M' (lst'++lst.filter λp=>!cT acc p.1) val w':=by
 have hdom:∀b v,ρ' b=some v->cT os b=true:=λb v hv=>by
  rcases h'.vZ b v hv with e|e
  .grind
  .exact lb.2 e
 have hnone:∀b,cT os b=true->cT acc b=false->ρ b=none:=λb hb ha=>by
  obtain⟨p,hp,e⟩:=R3.1 (oZ.1 hb);subst e;obtain⟨g1,g2⟩:=hnew p hp ha;cases hr:ρ p.1 with
  |none=>rfl
  |some v =>
   rcases h.vZ _ _ hr with e|e
   .omega
   .rw[g2]at e;cases e
 have hX:Ext ρ (λb=>match ρ' b with|some v=>some v|none=>ρ b):=λb v hv=>by
  cases hr:ρ' b with
  |none=>simp only[hr];exact hv
  |some u =>
   simp only[hr];cases ha:cT acc b with
   |true=>have:=hE b v (by grind [cX]);rw[hr]at this;exact this
   |false=>rw[hnone b (hdom b u hr) ha]at hv;cases hv
 have hX':Ext ρ' (λb=>match ρ' b with|some v=>some v|none=>ρ b):=λb v hv=>by grind
 refine⟨_,hX,hX',⟨λt=>?_,λb o hb=>?_,λb v hv=>?_,λp hp=>?_,?_,?_,h'.gr⟩⟩
 .rw[rH];rcases h.sl t with e|⟨v,e1,e2⟩
  .exact .inl e
  .exact .inr ⟨v,e1,SR.mono hM hX e2⟩
 .rw[tC h1]at hb;split at hb
  .rename_i x hx;cases hb;exact OR.mono (Sub.refl _) hX' (λx hx=>List.mem_append_left _ hx) (h'.ob b _ hx)
  .rename_i hx;have hos:cT os b=false:=by
    grind [cT,lb,o0]
   have hac:cT acc b=false:=by
    grind
   exact OR.mono hM hX (λx hx=>List.mem_append_right _ (Sp.2 ⟨hx,by simp[hac]⟩)) (h.ob b o hb)
 .rw[km,tC h1];cases hr:ρ' b with
  |some u=>have:=lb.1 (hdom b u hr);right;obtain⟨x,hx⟩:=Ti.1 this;rw[hx];rfl
  |none =>
   simp only[hr]at hv;rcases h.vZ b v hv with e|e
   .exact .inl e
   .right;cases o0 os b with
    |some _=>rfl
    |none=>exact e
 .rcases RY.1 hp with hp|hp
  .obtain⟨v,hv⟩:=Ti.1 (h'.gq p hp);have e:(match ρ' p.1 with|some v=>some v|none=>ρ p.1)=some v:=hX' _ _ hv;rw[e];rfl
  .obtain⟨v,hv⟩:=Ti.1 (h.gq p (Sp.1 hp).1);have e:(match ρ' p.1 with|some v=>some v|none=>ρ p.1)=some v:=hX _ _ hv;rw[e];rfl
 .rw[Si];refine Td.2 ⟨h'.nd,h.nd.sublist ((TK).map Sf),λa ha b hb e=>?_⟩;subst e;obtain⟨p,hp,rfl⟩:=R3.1 ha;obtain⟨q,hq,e⟩:=R3.1 hb;obtain⟨hq1,hq2⟩:=Sp.1 hq;obtain⟨v,hv⟩:=Ti.1 (h'.gq p hp);have hq3:cT acc q.1=false:=by grind
  have:=hnone q.1 (by grind) hq3;have hk:=h.gq q hq1;rw[this]at hk;cases hk
 .have:=h'.st;rw[Si,R9];exact this
theorem cz.len{M:Mem}{ρ:Nat->Option RK}:∀{xs:List S} {vs:List RK},cz M ρ xs vs->vs.length=xs.length
 |[],[],_=>rfl
 |_::_,_::_,h=>by simp[cz.len h.2]
 |[],_::_,h=>h.elim
 |_::_,[],h=>h.elim
theorem cz.mono{M M':Mem}{ρ:Nat->Option RK}(hM:Sub M M'):∀{xs:List S} {vs:List RK},cz M ρ xs vs->cz M' ρ xs vs
 |[],[],_=>trivial
 |_::_,_::_,h=>⟨SR.mono hM (Ext.refl ρ) h.1,cz.mono hM h.2⟩
 |[],_::_,h=>h.elim
 |_::_,[],h=>h.elim
theorem tA{P:RV}{M:Mem}{ρ:Nat->Option RK}:∀{ts:List RX} {xs:List S} {vs:List RK},cz M ρ xs vs->cz M ρ (kL P ts xs) vs
 |[],_,_,h=>by unfold kL;exact h
 |_::_,[],_,h=>by unfold kL;exact h
 |_::_,_::_,_::_,h=>⟨dg h.1,tA h.2⟩
 |_::_,_::_,[],h=>h.elim
theorem oI{M:Mem}{ρ:Nat->Option RK}:∀{xs:List S} {vs:List RK} (j:Nat) (t:Nat),cz M ρ xs vs->cC j xs t=su\/∃v,j<=t/\vs[t-j]?=some v/\SR M ρ (cC j xs t) v
 |[],[],j,t,_=>.inl rfl
 |x::xs,v::vs,j,t,h=>by
  show(match RN t j with
   |true=>x
   |false=>cC (j+1) xs t)=su\/_
  by_cases e:t=j
  .subst e;right;refine⟨v,Sc _,Q2,?_⟩
   show SR M ρ (match RN t t with
    |true=>x
    |false=>cC (t+1) xs t) v
   rw[cN];exact h.1
  .rw[gX e];rcases oI (j+1) t h.2 with h1|⟨u,h1,h2,h3⟩
   .exact .inl h1
   .right;refine⟨u,Q0,by grind,?_⟩
    show SR M ρ (match RN t j with
     |true=>x
     |false=>cC (j+1) xs t) u
    grind [gX]
 |[],_::_,_,_,h=>h.elim
 |_::_,[],_,_,h=>h.elim
theorem A8:∀{l:List (Nat×lW)} {xs:List S},A9 l xs=true->l.length=xs.length
 |[],[],_=>rfl
 |(_,_)::l,_::xs,h=>by simp only[A9,RP]at h;simp[A8 h.2]
 |[],_::_,h=>by simp[A9]at h
 |_::_,[],h=>by simp[A9]at h
theorem HU{tb:Tb}{ob:Ob}{f:Nat}{xs:List S}{s:bC}(h:CS tb ob f xs=some s):s.f=f/\s.ins.sl.length=xs.length:=by
 unfold CS at h;have:=Zf h;simp only[RP]at this
 grind [RD,A8]
section
variable {M:Mem} {ρ ρ':Nat->Option RK} {mp:List (Nat×Tg)} {d:Nat} (hb:∀i u,ρ i=some u->ρ' (bD mp d i)=some u)
theorem jN(hb:∀i u,ρ i=some u->ρ' (bD mp d i)=some u){c:C}{v:RK}(h:CB M ρ c v):CB M ρ' (KI mp d c) v:=by
 cases c with
 |p b o=>obtain⟨k,h1,h2⟩:=h;exact⟨k,hb _ _ h1,h2⟩
 |w b=>exact⟨hb _ _ h.1,h.2⟩
 |m b=>obtain⟨k,h1,h2⟩:=h;exact⟨k,hb _ _ h1,h2⟩
 |q b sz k j=>exact trivial
 |e b i=>exact trivial
 |y b q sz l n=>exact trivial
 |k g=>exact h
 |d x=>exact h
 |n=>exact h
 |l _=>exact h
 |f _ _=>exact h.elim
 |z=>exact h
 |u=>exact trivial
theorem BC(hb:∀i u,ρ i=some u->ρ' (bD mp d i)=some u):∀{cs:List C} {vs:List RK},zV M ρ cs vs->zV M ρ' (cs.map (KI mp d)) vs
 |[],[],_=>trivial
 |_::_,_::_,h=>⟨jN hb h.1,BC hb h.2⟩
 |[],_::_,h=>h.elim
 |_::_,[],h=>h.elim
theorem zh(hb:∀i u,ρ i=some u->ρ' (bD mp d i)=some u):∀{c:C} {v:RK},CR M ρ c v->CR M ρ' (zi mp d c) v
 |.f _ _,_,⟨us,h1,h2⟩=>⟨us,h1,BC hb h2⟩
 |.d x,_,h=>(jN (M:=M) hb (c:=.d x) h)
 |.n,_,h=>(jN (M:=M) hb (c:=.n) h)
 |.l s,_,h=>(jN (M:=M) hb (c:=.l s) h)
 |.p b o,_,h=>(jN (M:=M) hb (c:=.p b o) h)
 |.q _ _ _ _,_,_=>trivial
 |.e _ _,_,_=>trivial
 |.y _ _ _ _ _,_,_=>trivial
 |.w b,_,h=>(jN (M:=M) hb (c:=.w b) h)
 |.k _,_,h=>h
 |.m b,_,h=>(jN (M:=M) hb (c:=.m b) h)
 |.z,_,h=>(jN (M:=M) hb (c:=.z) h)
 |.u,_,_=>trivial
theorem qa(hb:∀i u,ρ i=some u->ρ' (bD mp d i)=some u):∀{cs:List C} {vs:List RK},cA M ρ cs vs->cA M ρ' (cs.map (zi mp d)) vs
 |[],[],_=>trivial
 |_::_,_::_,h=>⟨zh hb h.1,qa hb h.2⟩
 |[],_::_,h=>h.elim
 |_::_,[],h=>h.elim
theorem Gd(hb:∀i u,ρ i=some u->ρ' (bD mp d i)=some u){s:S}{v:RK}(h:SB M ρ s v):SB M ρ' (Ge mp d s) v:=by
 cases s with
 |c c=>exact zh hb (c:=c) h
 |a n ds=>exact h
 |g cs=>obtain⟨us,h1,h2⟩:=h;exact⟨us,h1,qa hb h2⟩
 |r n ds o=>exact h
 |t l=>exact h.elim
theorem Rk(hb:∀i u,ρ i=some u->ρ' (bD mp d i)=some u){lst lst':List (Nat×As)}{i:Nat}{o:O}(hl:∀x,(i,x)∈lst->(bD mp d i,x)∈lst')(h:OR M ρ lst i o):OR M ρ' lst' (bD mp d i) (BB mp d o):=by
 cases o with
 |b e cs=>obtain⟨k,us,h1,h2,h3⟩:=h;exact⟨k,us,hb _ _ h1,hl _ h2,qa hb h3⟩
 |a e n ds=>obtain⟨k,us,h1,h2,h3⟩:=h;exact⟨k,us,hb _ _ h1,hl _ h2,h3⟩
 |w e sz n ds=>obtain⟨a,c,us,h1,h2,h3⟩:=h;exact⟨a,c,us,hb _ _ h1,hl _ h2,h3⟩
 |v e sz n cs=>obtain⟨a,c,us,h1,h2,h3,h4⟩:=h;exact⟨a,c,us,hb _ _ h1,hl _ h2,qa hb h3,h4⟩
 |s sz n ds=>obtain⟨v,h1,h2⟩:=h;exact⟨v,hb _ _ h1,h2⟩
 |m t ag vs n ds=>obtain⟨k,l,h1,h2,h3⟩:=h;exact⟨k,l,hb _ _ h1,hl _ h2,h3⟩
 |ms t ag vs n ds=>obtain⟨k,h1,h2,h3⟩:=h;exact⟨k,hb _ _ h1,hl _ h2,h3⟩
 |it ag vs cur n ds=>obtain⟨k,o,h1,h2,h3⟩:=h;exact⟨k,o,hb _ _ h1,hl _ h2,h3⟩
 |x e sz n ds=>obtain⟨a,c,us,h1,h2,h3,h4,h5⟩:=h;exact⟨a,c,us,hb _ _ h1,h2,h3,h4,h5.mono hl⟩
 |h e sz n ds j c=>obtain⟨a,q,us,h1,h2,h3,h4⟩:=h;exact⟨a,q,us,hb _ _ h1,hl _ h2,cA.hole (λ_ hc=>zh hb hc) h3,h4⟩
 |dK=>trivial
end
theorem SR.toSB{M:Mem}{ρ:Nat->Option RK}{s:S}{v:RK}(h:SR M ρ s v)(hs:∀l,s≠.t l):SB M ρ s v:=by
 cases s with
 |t l=>exact(hs l rfl).elim
 |c _=>exact h
 |a _ _=>exact h
 |g _=>exact h
 |r _ _ _=>exact h
def qu(ρ ρ':Nat->Option RK)(d:Nat)(news:List Nat):Nat->Option RK:=λb=>match ρ b with
 |some v=>some v
 |none=>if b=d+10000*((b-d) / 10000-1+1)/\(b-d) / 10000-1∈news then ρ' ((b-d) / 10000-1) else none
theorem MC{ρ ρ':Nat->Option RK}{d:Nat}{news:List Nat}:Ext ρ (qu ρ ρ' d news):=λb v h=>by unfold qu;rw[h]
theorem MD{ρ ρ':Nat->Option RK}{d:Nat}{news:List Nat}{i:Nat}(hi:i∈news)(hn:ρ (d+10000*(i+1))=none):qu ρ ρ' d news (d+10000*(i+1))=ρ' i:=by
 unfold qu
 grind
theorem Fb{ρ ρ':Nat->Option RK}{d:Nat}{news:List Nat}{b:Nat}{v:RK}(h:qu ρ ρ' d news b=some v):ρ b=some v\/∃i∈news,b=d+10000*(i+1)/\ρ' i=some v:=by
 unfold qu at h
 grind
theorem Pa:∀(l:List (Nat×O)) (f:Ob) (k:Nat),(l.map Sf).Nodup->obF l f k=match l.find? λp=>RN p.1 k with
  |some p=>some p.2
  |none=>f k
 |[],_,_,_=>rfl
 |(b,x)::l,f,k,hn=>by
  have hn':=SG.1 (show(b::l.map Sf).Nodup from hn);rw[obF,Pa l _ k hn'.2,List.find?_cons];by_cases e:b=k
  .grind [cN,RN,YM,RD,Ss,tr]
  .simp only[gX e];cases hf:l.find? (λp=>RN p.1 k) with
   |some p=>rfl
   |none=>simp only[];rw[tr,J1 (Xv e)]
theorem obF_mem{l:List (Nat×O)}{f:Ob}{k:Nat}{x:O}(hn:(l.map Sf).Nodup)(hm:(k,x)∈l):obF l f k=some x:=by
 rw[Pa l f k hn];cases hf:l.find? (λp=>RN p.1 k) with
 |none=>have:=YM.1 hf _ hm;simp at this
 |some p =>
  have h1:=List.mem_of_find?_eq_some hf;have h2:=RD (Zf (p:=λp:Nat×O=>RN p.1 k) hf);have:p.2=x:=by
   clear hf;induction l with
   |nil=>cases hm
   |cons z l ih =>
    have hn':=SG.1 (show(z.1::l.map Sf).Nodup from hn);rcases RO.1 hm with e1|hm <;> rcases RO.1 h1 with e2|h1
    .rw[e2,<-e1]
    .exact(hn'.1 (by grind)).elim
    .exact(hn'.1 (by grind)).elim
    .exact ih hn'.2 hm h1
  show some p.2=some x;rw[this]
theorem DB:∀(os:List (Nat×O)) {fr:Fr} {k:Nat} {o:O},(fr.aI os).ob k=some o->(k,o)∈os\/fr.ob k=some o/\∀p∈os,p.1≠k
 |[],_,_,_,h=>.inr ⟨h,λp hp=>by simp at hp⟩
 |(b,x)::os,fr,k,o,h=>by
  rw[Fr.aI]at h;rcases DB os h with h1|⟨h1,h2⟩
  all_goals grind [cI]
theorem tB:∀(os:List (Nat×O)) {fr:Fr} {k:Nat},(fr.ob k).isSome=true\/k∈os.map Sf->((fr.aI os).ob k).isSome=true
 |[],_,_,h=>h.resolve_right Q2
 |(b,x)::os,fr,k,h=>by
  rw[Fr.aI];refine tB os ?_;rw[cI]
  grind
theorem sQ{js:List (Nat×mh)}:∀{mp:List (Nat×Tg)} {p:Nat×O},p∈dK js mp->p.2=.dK
 |(i,.ob b)::mp,p,h=>by
  unfold dK at h;split at h
  .exact sQ h
  .rcases RO.1 h with rfl|h
   .rfl
   .exact sQ h
 |(i,.nil _)::mp,p,h=>sQ (mp:=mp) h
theorem Fh{js:List (Nat×mh)}:∀{mp:List (Nat×Tg)} {i b:Nat},bL mp i=some (.ob b)->i ∉ js.map Sf->b∈(dK js mp).map Sf
 |(j,x)::mp,i,b,h,hn=>by
  rw[dU]at h;by_cases e:i=j
  .subst e;rw[J2 rfl]at h;simp only[RE]at h;subst h;unfold dK;split
   all_goals simp_all
  .rw[J1 e]at h;have:=Fh h hn;cases x with
   |ob c =>
    unfold dK;split
    .exact this
    .exact RM _ this
   |nil sz=>exact this
 |[],_,_,h,_=>by simp[bL]at h
theorem sj{α β:Type}{f:α->β}:∀{l:List α},(∀x∈l,∀y∈l,f x=f y->x=y)->l.Nodup->(l.map f).Nodup
 |[],_,_=>Wc
 |x::l,h,hn=>by
  have hn':=SG.1 hn;rw[Sb];refine SG.2 ⟨λhm=>?_,sj (λy hy z hz=>h y (RM _ hy) z (RM _ hz)) hn'.2⟩
  grind
theorem A7{ob:Ob}:∀{l:List Nat} {p:Nat×O},p∈gC ob l->∃e sz n ds,p.2=.s sz n ds/\ob p.1=some (.w e sz n ds)/\p.1∈l
 |c::l,p,h=>by
  have rest:p∈gC ob l->∃e sz n ds,p.2=.s sz n ds/\ob p.1=some (.w e sz n ds)/\p.1∈c::l:=λh=>by
   obtain⟨e,sz,n,ds,h1,h2,h3⟩:=A7 h
   grind
  grind [gC]
theorem Ba{ob:Ob}{mp:List (Nat×Tg)}{fx:List Nat}:∀{l:List (Nat×mh)} {r:bT} {i:Nat},Gp ob mp fx l r->i∈l.map Sf->∃o ds,zw ob mp fx i o ds
 |(j,o)::l,r,i,⟨ds,r',h1,h2,_⟩,hi=>by
  rcases RO.1 (show i∈j::l.map Sf from hi) with rfl|hi
  .exact⟨o,ds,h1⟩
  .exact Ba h2 hi
theorem MX{ob:Ob}{mp:List (Nat×Tg)}{fx:List Nat}{i b:Nat}{o:mh}{ds:List D}(hf:zw ob mp fx i o ds)(hg:bL mp i=some (.ob b)):∃x,ob b=some x/\x≠.dK:=by
 rcases hf with⟨b',x,h1,h2,h3⟩|⟨e,sz,h1,_⟩
 .rw[hg]at h1;simp only[RE,Tg.ob.injEq]at h1;subst h1;refine⟨x,h2,?_⟩;rintro rfl;cases o with
  |b e cs=>obtain⟨cs',h4,_⟩:=h3;simp[ry]at h4
  |a e n=>rcases h3 with h3|⟨_,h3,_⟩ <;> cases h3
  |w e sz=>obtain⟨n,cs,h4,_⟩:=h3;cases h4
  |v e sz n cs=>obtain⟨cs',h4,_⟩:=h3;cases h4
  |m t ag vs=>obtain⟨n,cs,h4,_⟩:=h3;cases h4
  |ms t ag vs=>obtain⟨n,cs,h4,_⟩:=h3;cases h4
  |it ag vs=>obtain⟨cur,n,cs,h4,_⟩:=h3;cases h4
  |x e sz=>obtain⟨n,cs,h4,_⟩:=h3;rcases h4 with h4|h4 <;> cases h4
  |h e sz q=>obtain⟨n,cs,j,c,d1,h4,_⟩:=h3;cases h4
 .rw[hg]at h1;cases h1
theorem OR_some{M:Mem}{ρ:Nat->Option RK}{lst:List (Nat×As)}{b:Nat}{x:O}(h:OR M ρ lst b x)(hx:x≠.dK):∃v,ρ b=some v:=by
 cases x with
 |b e cs=>obtain⟨k,us,h1,_⟩:=h;exact⟨_,h1⟩
 |a e n ds=>obtain⟨k,us,h1,_⟩:=h;exact⟨_,h1⟩
 |w e sz n ds=>obtain⟨a,c,us,h1,_⟩:=h;exact⟨_,h1⟩
 |v e sz n cs=>obtain⟨a,c,us,h1,_⟩:=h;exact⟨_,h1⟩
 |s sz n ds=>obtain⟨v,h1,_⟩:=h;exact⟨_,h1⟩
 |m t ag vs n ds=>obtain⟨k,l,h1,_⟩:=h;exact⟨_,h1⟩
 |ms t ag vs n ds=>obtain⟨k,h1,_⟩:=h;exact⟨_,h1⟩
 |it ag vs cur n ds=>obtain⟨k,o,h1,_⟩:=h;exact⟨_,h1⟩
 |x e sz n ds=>obtain⟨a,c,us,h1,_⟩:=h;exact⟨_,h1⟩
 |h e sz n ds j c=>obtain⟨a,q,us,h1,_⟩:=h;exact⟨_,h1⟩
 |dK=>exact(hx rfl).elim
def iI(mp:List (Nat×Tg))(i:Nat):Bool:=match bL mp i with
 |some (.ob _)=>false
 |_=>true
def Jz:As->Bool
 |.own ..=>true
 |.acc ..=>true
 |_=>false
theorem OK{x:As}(h:Jz x=true):x.owns:=by cases x <;> first|trivial|cases h
def Iz(x:S):Prop:=(∃u,x=.c (.d (.v u)))\/∃n ds,x=.a n ds/\Ro ds=true
theorem KL{M M':Mem}:∀{ds:List D},Ro ds=true->∀{k:Nat} {d:D} {u:RK},ds[k]?=some d->Rd M d u->Rd M' d u
 |.v x::ds,h,0,d,u,hk,hr=>by
  grind [SE,RE,Rd]
 |.v x::ds,h,k+1,d,u,hk,hr=>KL (ds:=ds) h (k:=k) (by grind) hr
theorem Qv{M M':Mem}{ρ ρ':Nat->Option RK}{x:S}{v:RK}(hx:Iz x)(h:SB M ρ x v):SB M' ρ' x v:=by
 rcases hx with⟨u,rfl⟩|⟨n,ds,rfl,ha⟩
 .exact h
 .obtain⟨h0,us,h1,h2,h3⟩:=h;exact⟨h0,us,h1,h2,λk d u h4 h5=>KL ha h4 (h3 k d u h4 h5)⟩
theorem A4{M M':Mem}{ρ ρ':Nat->Option RK}:∀{xs:List S} {vs:List RK},(∀x∈xs,Iz x)->wN M ρ xs vs->wN M' ρ' xs vs
 |[],[],_,_=>trivial
 |_::_,_::_,hx,h=>⟨Qv (hx _ (RG ..)) h.1,A4 (λx hm=>hx x (RM _ hm)) h.2⟩
 |[],_::_,_,h=>h.elim
 |_::_,[],_,h=>h.elim
theorem Om{M:Mem}{ρ:Nat->Option RK}{s:lW}{xs:List S}{v:RK}{vs:List RK}(hl:xs.length=(uc s).length)(hv:Dl s v vs)(hx:∀x∈xs,∀l,x≠S.t l)(h:wN M ρ xs vs):SR M ρ (LB s xs) v:=by
 have one:xs.length=1->vs=[v]->SR M ρ (xs.getD 0 su) v:=λh1 h2=>by
  subst h2
  match xs,h1,h,hx with
  |[x],_,h,hx=>exact h.1.toSR
 unfold Dl at hv;cases s with
 |t l=>exact⟨vs,hv.1,h⟩
 |c _=>exact one hl hv
 |a _=>exact one hl hv
 |g _=>exact one hl hv
theorem Ab{r:bT}:∀{ss:List lW} {n j:Nat} {f:Nat->S} {K:(Nat->S)->Nat->Prop},ss.all xq=true->qD bg r j (s6 n ss) f K->∃sl q,K sl q/\(∀t,n<=t->t<n+ss.length->Iz (sl t))/\∀t,t<n->sl t=f t
 |[],n,j,f,K,_,h=>⟨f,j,h,λt h1 h2=>by grind,λ_ _=>rfl⟩
 |s::ss,n,j,f,K,hs,h=>by
  simp only[Zw,RP]at hs
  have key:∀(x:S),Iz x->qD bg r (fk (uz s) r j).2 (s6 (n+1) ss) (λi=>match RN i n with
   |true=>x
   |false=>f i) K->∃sl q,K sl q/\(∀t,n<=t->t<n+(s::ss).length->Iz (sl t))/\∀t,t<n->sl t=f t:=by
   intro x hx h;obtain⟨sl,q,h1,h2,h3⟩:=Ab hs.2 h;refine⟨sl,q,h1,λt h4 h5=>?_,λt h4=>?_⟩
   .by_cases e:t=n
    .subst e;rw[h3 t Q0];simp only[cN];exact hx
    .exact h2 t Q0 (by grind)
   .rw[h3 t Q0];simp only[gX (show t≠n by omega)]
  cases s with
  |c x =>
   cases x with
   |i=>obtain⟨z,_,h⟩:=mI h;exact key _ (.inl ⟨_,rfl⟩) h
   |bo=>obtain⟨z,_,h⟩:=lv h;exact key _ (.inl ⟨_,rfl⟩) h
   |_=>simp[xq]at hs
  |_=>simp[xq]at hs
theorem L4{M:Mem}{b:Nat}{e:RX}{ds:List D}{us:List RK}(hm:M b=some (.cells us.toArray e (0,0)))(hr:bz M ds us){o n c:Nat}{ad:Option Addr}(hn:o+n<=ds.length)(hc:n<=c)(hx:c<=UI)(hl:n<=1000000)(ha:0<n->ad=some (gd (some ⟨b,0,none⟩) o)):Rd M (.sl n 1 (sub ds o n)) (.slice ad n c):=by
 unfold Rd;have hlen:(sub ds o n).length=n:=by grind [sub]
 refine⟨ad,c,rfl,hc,hx,by unfold lim;omega,Q0,λh=>by grind,po.mk _ _ λk d hk=>?_⟩;have hkn:k<n:=by
  grind
 have hd:ds[o+k]?=some d:=by
  grind [sub]
 have hu:o+k<us.length:=by rw[hr.1];omega
 refine⟨us[o+k],?_,hr.2 _ _ _ hd (R5 hu)⟩;rw[ha Q0,Sz];show ee M ((gd (some ⟨b,0,none⟩) o).add k)=_
 grind [eI,cy,ee]
theorem JZ{M M1:Mem}{ρ:Nat->Option RK}{lst:List (Nat×As)}{ob:Ob}(hs:Sub M M1)(hob:∀b x,ob b=some x->OR M ρ lst b x):∀{xs:List S} {vs:List RK},(∀b k e us,b∈yBs xs->(b,As.own k e us)∈lst->M1 k=some (.cells us.toArray e (0,0)))->cz M ρ xs vs->cz M1 ρ (xs.map (yS ob)) vs
 |[],[],_,_=>trivial
 |[],_::_,_,h=>h.elim
 |_::_,[],_,h=>h.elim
 |x::xs,v::vs,hm,h=>by
  refine⟨?_,JZ hs hob (λb k e us hb=>hm b k e us ?_) h.2⟩
  .have old:SR M1 ρ x v:=SR.mono hs (Ext.refl ρ) h.1;unfold yS;split
   .rename_i b q sz l n;split
    .rename_i e m ds hb;split
     .rename_i hc;simp only[RP]at hc;have hsz:=RD hc.1;subst hsz;have h1:=Tz hc.2.1;have h2:=Tz hc.2.2;obtain⟨k,us,g1,g2,g3,g4⟩:=hob b _ hb;obtain⟨ad,c,rfl,hnc,hy⟩:=h.1;have hk:=hm b k e us (RG ..) g2;rcases hy with⟨k',g5,g6⟩|⟨a,N,C,g5,_⟩
      .rw[g1]at g5;obtain rfl:k=k':=by grind
       exact L4 hk (g3.mono hs) Q0 hnc.1 hnc.2 h2 g6
      all_goals grind
     .exact old
    .exact old
   .exact old
  .cases x with
   |c c=>cases c with
    |y _ _ _ _ _=>exact RM _ hb
    |_=>exact hb
   |_=>exact hb
def After(w0:R0)(Γ0:List As)(ρ:Nat->Option RK)(M:Mem)(fr:Fr)(val:Nat->Option RK)(o:Out)(e:Ending)(w':R0):Prop :=
 ∃v s ρ' M' lst',e=.returned v/\o.v=some s/\Sub M M'/\Ext ρ ρ'/\SR M' ρ' s v/\Rel w0 Γ0 (fr.aI o.ob) ρ' M' lst' val w'
section
variable {P:RV} {tb:Tb} {w0:R0} {Γ0:List As} {fr:Fr} {ρ:Nat->Option RK} {M:Mem} {lst:List (Nat×As)} {val:Nat->Option RK} {w:R0} {fs fo:List Nat} {o:Out}
theorem Jn{M:Mem}{ρ:Nat->Option RK}{s:lW}{xs:List S}{v:RK}{vs:List RK}(hl:xs.length=(uc s).length)(hv:Dl s v vs)(hx:∀x∈xs,∀l,x≠S.t l)(h:∀t,cv 0 xs (λ_=>su) t=su\/∃u,gM vs t=some u/\SR M ρ (cv 0 xs (λ_=>su) t) u):wN M ρ xs vs:=by
 have key:∀(xs:List S) (vs:List RK),vs.length=xs.length->(∀(i:Nat) (s:S),xs[i]?=some s->s=su\/∃u,vs[i]?=some u/\SB M ρ s u)->wN M ρ xs vs:=by
  intro xs;induction xs with
  |nil=>intro vs hl _;cases vs with
   |nil=>exact trivial
   |cons _ _=>simp at hl
  |cons x xs ih =>
   intro vs hl hs;cases vs with
   |nil=>simp at hl
   |cons u us =>
    refine⟨?_,ih us (by grind) λi s hi=>by simpa using hs (i+1) s (by simpa using hi)⟩;rcases hs 0 x rfl with rfl|⟨u',h1,h2⟩
    .exact trivial
    .simp only[SE,RE]at h1;subst h1;exact h2
 have hvs:vs.length=xs.length:=by
  rw[hl];unfold Dl at hv;cases s with
  |t l=>exact hv.2
  |c _=>rw[hv];rfl
  |a _=>rw[hv];rfl
  |g _=>rw[hv];rfl
 refine key xs vs hvs λi s' hi=>?_;have hlt:i<xs.length:=by
  grind
 have e:cv 0 xs (λ_=>su) i=s':=by rw[tF,J2 Q0,VX,S9,hi];rfl
 have hmem:s'∈xs:=List.mem_of_getElem? hi;rcases h i with h1|⟨u,h1,h2⟩
 .grind
 .rw[e]at h2;exact .inr ⟨u,h1,h2.toSB (hx s' hmem)⟩
theorem On{M:Mem}{ρ ρ':Nat->Option RK}{mp:List (Nat×Tg)}{d:Nat}(hb:∀i u,ρ i=some u->ρ' (bD mp d i)=some u){s:lW}{xs:List S}{v:RK}{vs:List RK}(hl:xs.length=(uc s).length)(hv:Dl s v vs)(hx:∀x∈xs,∀l,x≠S.t l)(h:wN M ρ xs vs):SR M ρ' (BA mp d (LB s xs)) v:=by
 have one:xs.length=1->vs=[v]->SR M ρ' (BA mp d (xs.getD 0 su)) v:=λh1 h2=>by
  subst h2
  match xs,h1,h,hx with
  |[x],_,h,hx =>
   have:BA mp d ([x].getD 0 su)=Ge mp d x:=by
    show BA mp d x=_;cases x with
    |t l=>exact(hx _ (RZ.2 rfl) l rfl).elim
    |c _=>rfl
    |a _ _=>rfl
    |g _=>rfl
    |r _ _ _=>rfl
   rw[this];exact(Gd hb h.1).toSR
 have many:∀{xs:List S} {vs:List RK},wN M ρ xs vs->wN M ρ' (xs.map (Ge mp d)) vs:=by
  intro xs;induction xs with
  |nil=>intro vs h;cases vs with
   |nil=>exact trivial
   |cons _ _=>exact h.elim
  |cons x xs ih=>intro vs h;cases vs with
   |nil=>exact h.elim
   |cons u us=>exact⟨Gd hb h.1,ih h.2⟩
 unfold Dl at hv;cases s with
 |t l=>exact⟨vs,hv.1,many h⟩
 |c _=>exact one hl hv
 |a _=>exact one hl hv
 |g _=>exact one hl hv
theorem L5{s:bC}{r:bT}{xs:List S}{q:Nat}{ys:List (Nat×O)}{fr':Fr}(h1:∀(f:Nat->S) (K:(Nat->S)->Nat->Prop),qD bg r 0 (s6 0 (uc s.out)) f K↔K (cv 0 xs f) q)(h2:∀(f:Ob) (K:Ob->Prop),vH bg r q s.js f K↔K (obF ys f))
  (h:cu bg (jE s) r (λx=>x=fr')):fr'.sl=cv 0 xs (λ_=>su)/\fr'.ob=obF ys (λ_=>none):=by
 unfold cu jE at h;rw[h1,h2]at h;rw[<-h];exact⟨rfl,rfl⟩
theorem QU(h:Rel w0 Γ0 fr ρ M lst val w){id f:Nat}(hid:fr.aV<=id){xs:List S}{vs:List RK}(hxs:cz M ρ xs vs)(hr:R1 (j3 P) fr (QV P id f xs) fs fo o) :
  o3 P f=true/\UU P f vs.toArray w (After w0 Γ0 ρ M fr val o):=by
 unfold QV at hr;split at hr
 .rename_i fn hfn hfB;refine⟨hfB,?_⟩;have hty:=tA (P:=P) (ts:=fn.params.toList) hxs;generalize kL P fn.params.toList xs=xt at hr hty;obtain⟨acc,fo1,hacc,hr⟩:=tR 100000 (λp hp=>by cases hp) hr;split at hr
  .rename_i hb;simp only[RP]at hb;obtain⟨v,os,hin,hr⟩:=hr;dsimp only at hr;split at hr
   .rename_i hc;simp only[RP]at hc;obtain⟨hnew,fo2,hr⟩:=ye hr;have hr:o=⟨some v,os,fs,fo2⟩:=hr;subst hr;have hcut:=h.cut hacc hb.2.1;have hin':Gn P f xt acc v os:=hin;refine(hin' _ _ _ _ _ _ _ (hty.cut λb hb'=>pD hb.1 b hb') hcut).mono ?_;rintro e w' ⟨u,ρ',M',lst',rfl,hM,hE,hs,hR⟩;obtain⟨ρ'',g1,g2,g3⟩:=h.uncut hid hM hE hR hc.2.2.1 (λb hb'=>pD hc.2.2.2 b (oZ.1 hb')) hnew;exact⟨u,v,ρ'',M',_,rfl,rfl,hM,g1,SR.mono (Sub.refl _) g2 hs,g3⟩
   .exact hr.elim
  .exact hr.elim
 .exact hr.elim
theorem call_ok(h:Rel w0 Γ0 fr ρ M lst val w){id f:Nat}(hid:fr.aV<=id){xs:List S}{vs:List RK}(hxs:cz M ρ xs vs)(hr:R1 (j3 P) fr (KB P tb id f xs) fs fo o) :
  o3 P f=true/\UU P f vs.toArray w (After w0 Γ0 ρ M fr val o):=by
 unfold KB at hr;split at hr
 .exact QU h hid hxs hr
 split at hr
 .exact hr.elim
 .exact hr.elim
 .rename_i fn hfn hfB;refine⟨hfB,?_⟩;obtain⟨ob,fo1,hob,hr⟩:=xL 12 (fr:=fr) (λb x hb=>by cases hb) hr;split at hr
  .exact hr.elim
  .rename_i s hs;obtain⟨hsf,hslen⟩:=HU hs;have hty:=tA (P:=P) (ts:=fn.params.toList) hxs;generalize kL P fn.params.toList xs=xt at hr hs hslen hty;split at hr
   .exact hr.elim
   .rename_i a k hpk;have hvl:vs.length=s.ins.sl.length:=by rw[hslen,hty.len]
    unfold Ha at hpk;split at hpk
    .rename_i r1 k1 p1;split at hpk
     .rename_i r2 k2 p2;split at hpk
      .rename_i hb;simp only[RP]at hb;simp only[RE,R6]at hpk;obtain⟨rfl,rfl⟩:=hpk;obtain⟨a1,a2⟩:=qU p1;obtain⟨a3,a4⟩:=qV p2;have hinj:=a3.inj (a1.inj zT.nil);have hfit:=qx.mono a3.mp a3.fix a2;have hnum:∀M1 l,cz M1 ρ l vs->∀t,cC 0 l t=su\/∃v,gM vs t=some v/\SR M1 ρ (cC 0 l t) v:=λM1 l hl t=>by
        rcases oI 0 t hl with h1|⟨v,_,h1,h2⟩
        .exact .inl h1
        .exact .inr ⟨v,h1,h2⟩
       have hlinkdom:∀i,(eB k2.mp ρ i).isSome=true->i∈s.ins.ob.map Sf:=λi hi=>by
        grind [eB,fX]
       split at hr
       .exact hr.elim
       rename_i hvx;split at hr
       .-- lent
        rename_i hlend;split at hr
        .rename_i hlb;obtain⟨r,hIs,hr⟩:=hr;change Is P s _ r at hIs;obtain⟨ys,q,hyl,hyt,hy,hr⟩:=IM hr;unfold lendB at hlb;simp only[RP,List.isEmpty_iff]at hlb;obtain⟨⟨hio,hoo⟩,hsc⟩:=hlb;have hflat:(∀y∈ys,Iz y)/\o.v=some (LB s.out ys)/\o.ob=[]:=by
          have fin:∀{k:bn} {v:S} {fs fo:List Nat},R1 (j3 P) fr (G7 v k) fs fo o->(∀n ds,v=.a n ds->Ro ds=true)/\R1 (j3 P) fr k fs fo o:=fun{k v fs fo} hr=>by
           unfold G7 at hr;split at hr
           .exact⟨λn ds e=>by simp only[S.a.injEq]at e;rw[<-e.2];exact hr.1,hr.2⟩
           all_goals grind
          obtain⟨hpl,hr⟩:=fin hr;have hr:o=⟨some (LB s.out ys),[],_,_⟩:=hr;refine⟨?_,by rw[hr],by rw[hr]⟩;have many:(uc s.out).all xq=true->∀y∈ys,Iz y:=λhall=>by obtain⟨sl,q',e,hfl,_⟩:=Ab hall ((hy (λ_=>su) (λsl _=>sl=cv 0 ys (λ_=>su))).2 rfl);intro y hym;obtain⟨i,hi,rfl⟩:=List.getElem_of_mem hym;have:=hfl i (Sy _) Q0;rw[e,tF,J2 Q0,VX,S9,R5 hi]at this;exact this
          cases hso:s.out with
          |t l=>rw[hso]at hsc;exact many (by rw[hso];exact hsc)
          |c _=>rw[hso]at hsc;exact many (by grind [uc])
          |g _=>rw[hso]at hsc;simp[xq]at hsc
          |a m =>
           have h0:cv 0 ys (λ_=>su) 0=.a m (fk true r 0).1:=by have:=(hy (λ_=>su) (λsl _=>sl 0=cv 0 ys (λ_=>su) 0)).2 rfl;rw[hso]at this;exact this.symm
           rw[hso]at hyl hpl;intro y hym
           match ys,hyl,hym with
           |[x],_,hym=>obtain rfl:=RZ.1 hym;have h1:y=.a m (fk true r 0).1:=h0;exact .inr ⟨m,_,h1,hpl m _ h1⟩
         obtain⟨ov,js,ofs,ofo⟩:=o;obtain⟨hflat,hov,hoob⟩:=hflat;simp only at hov hoob;subst hov hoob
         -- mY rows that are lent
         let pr:Nat×As->Bool:=λp=>decide (p.1∈k2.fix\/p.1∈yBs xt) && Jz p.2;have hperm:Y5 (lst.filter pr++lst.filter (λp=>!pr p)) lst:=X7 _ _
         have hst:St w0 M ((lst.filter pr).map Sg++((lst.filter (λp=>!pr p)).map Sg++Γ0)) w:=h.st.fD (by
          rw[<-R9,<-Si]
          exact((hperm.map Sg).append_right Γ0).symm)
         have ho:∀x∈(lst.filter pr).map Sg,x.owns:=λx hx=>by obtain⟨p,hp,rfl⟩:=R3.1 hx;have:=(Sp.1 hp).2;simp only[pr,RP]at this;exact OK this.2
         obtain⟨M1,hl,hst1⟩:=St.E4 _ ho hst;have hrows:iT ρ M1 ob k2.fix:=λb sz n cs hb=>by
          rcases hb.plain hvx with⟨⟨e,hb⟩,hm⟩|hb
          .obtain⟨ad,c,us,h1,h2,h3,h4,h5⟩:=h.ob b _ (hob b _ hb);exact⟨_,h1,hl.acc (R3.2 ⟨_,Sp.2 ⟨h2,by simp[pr,hm,Jz]⟩,rfl⟩) (h3.mono hl.sub) h5⟩
          .obtain⟨v,h1,h2⟩:=h.ob b _ (hob b _ hb);exact⟨v,h1,Rd.mono hl.sub _ _ h2⟩
         have hvals1:cz M1 ρ (J0 s.E4 ob xt) vs:=by rw[hlend];refine JZ hl.sub (λb x hb=>h.ob b x (hob b x hb)) (λb k e us hb hm=>?_) hty;obtain⟨w1,hw1,hw2⟩:=hl.wit;have hmem:As.own k e us∈(lst.filter pr).map Sg:=R3.2 ⟨_,Sp.2 ⟨hm,by simp[pr,hb,Jz]⟩,rfl⟩;rw[hw2 _ hmem k rfl];exact(hw1.all _ (List.mem_append_left _ hmem)).2
         have hnol:∀i x,bL k2.mp i≠some x:=λi x hg=>by
          have:=fX hb.1.1 hg
          grind
         obtain⟨fr',lst',rem,hcall,hbase,hR',hl',hrn,hrem,hrem2⟩:=tz (w0:=w0) (lst:=[]) (Γ0:=(lst.filter (λp=>!pr p)).map Sg++Γ0) (λi b x hi hx=>(hnol i _ hi).elim) Wc (λp hp=>by simp at hp) hst1 (h.gr.mono hl.sub) hrows (hnum M1 _ hvals1) hfit a4 hb.1.1 hb.2 hinj hIs;have hrem0:rem=[]:=Xw.2 λp hp=>by
          grind
         subst hrem0;have hc:=hcall w0 _ (eB k2.mp ρ) M1 lst' vs w hvl hlinkdom hR';rw[hsf]at hc;refine hc.mono ?_;rintro e w' ⟨v,vs',ρ',M',lst2,fr2,rfl,hres,hM2,hext,hdom,hl2,hun,hR2⟩;have hl20:lst2=[]:=Xw.2 λp hp=>by
          grind
         subst hl20;have hsl2:fr2.sl=cv 0 ys (λ_=>su):=by have h9:=hun;unfold cu jE at h9;rw[hy,hoo]at h9;rw[<-show _=fr2 from h9]
         have hsb:wN M' ρ' ys vs':=Jn hyl hres hyt (by rw[<-hsl2];exact hR2.sl);obtain⟨b1,b2,b3⟩:=hl.back ho hM2 (by simpa using hR2.st);refine⟨v,_,ρ,_,lst,rfl,rfl,b1,Ext.refl ρ,Om hyl hres hyt (A4 hflat hsb),⟨λt=>?_,λk o hk=>OR.mono b1 (Ext.refl ρ) (λx hx=>hx) (h.ob k o hk),h.vZ,h.gq,h.nd,b3.fD ?_,h.gr.mono b1⟩⟩
         .rcases h.sl t with h1|⟨u,h1,h2⟩
          .exact .inl h1
          .exact .inr ⟨u,h1,SR.mono b1 (Ext.refl ρ) h2⟩
         .rw[<-R9,<-Si];exact(hperm.map Sg).append_right Γ0
        .exact hr.elim
       .-- for good
        rename_i hgood;split at hr
        rotate_left
        .exact hr.elim
        rename_i hnd;obtain⟨r,hIs,hr⟩:=hr;change Is P s _ r at hIs;obtain⟨ys,q,hyl,hyt,hy,hr⟩:=IM hr;obtain⟨zs,fo2,hzl,hz,hr,hfree⟩:=Ac hr;have hr:o=⟨some (BA k2.mp id (LB s.out ys)),gC ob k2.fix++dK s.js k2.mp++zs.map λp=>(bD k2.mp id p.1,BB k2.mp id p.2),_,_⟩:=hr;subst hr;obtain⟨M1,lst1,hM1,hR1,hrows⟩:=Lo h hob k2.fix hvx;have hvals1:cz M1 ρ (J0 s.E4 ob xt) vs:=by rw[hgood];exact hty.mono hM1
        have hkeep:∀i b,bL k2.mp i=some (.ob b)->∀x,ob b=some x->(fr.aI (gC ob k2.fix)).ob b=some x:=λi b hi x hx=>by
         rw[gJ _ λp hp e=>?_]
         all_goals grind [pW,zl]
        obtain⟨fr',lst',rem,hcall,hbase,hR',hl',hrn,hrem,hrem2⟩:=tz (w0:=w0) (Γ0:=Γ0) (λi b x hi hx=>hR1.ob b x (hkeep i b hi x hx)) hR1.nd hR1.gq hR1.st hR1.gr hrows (hnum M1 _ hvals1) hfit a4 hb.1.1 hb.2 hinj hIs;have hc:=hcall w0 (rem.map Sg++Γ0) (eB k2.mp ρ) M1 lst' vs w hvl hlinkdom hR';rw[hsf]at hc;refine hc.mono ?_;rintro e w' ⟨v,vs',ρ',M',lst2,fr2,rfl,hres,hM2,hext,hdom,hl2,hun,hR2⟩;obtain⟨hsl2,hob2⟩:=L5 hy hz hun;have hsb:wN M' ρ' ys vs':=Jn hyl hres hyt (by rw[<-hsl2];exact hR2.sl);have hnone:∀i∈s.js.map Sf,iI k2.mp i=true->ρ (id+10000*(i+1))=none:=λi hi hnew=>by
         rcases hfree i hi with⟨b,hg⟩|hfr
         .grind [iI]
         .exact h.fresh hfr Q0
        have hsomeb:∀i b,bL k2.mp i=some (.ob b)->∃v,ρ b=some v:=λi b hg=>by obtain⟨o',ds',hf'⟩:=Ba a4 (fX hb.1.1 hg);obtain⟨x,hx,hne⟩:=MX hf' hg;exact OR_some (h.ob b x (hob b x hx)) hne
        have hEn:Ext ρ (qu ρ ρ' id ((s.js.map Sf).filter (iI k2.mp))):=MC;have hbN:∀i u,ρ' i=some u->qu ρ ρ' id ((s.js.map Sf).filter (iI k2.mp)) (bD k2.mp id i)=some u:=λi u hu=>by
         have hio:=hdom i (by rw[hu];rfl);unfold bD;split
         .rename_i b hg;obtain⟨v0,hv0⟩:=hsomeb i b hg;have h7:=hext i v0 (by grind [cD]) hio;rw[hu]at h7;rw[hEn _ _ hv0,h7]
         all_goals grind [iI,MD]
        have hMM:Sub M M':=hM1.trans hM2;have hkeyz:∀i∈s.js.map Sf,bD k2.mp id i∈(gC ob k2.fix++dK s.js k2.mp++zs.map λp=>(bD k2.mp id p.1,BB k2.mp id p.2)).map Sf:=λi hi=>by
         grind
        have hznd:(zs.map Sf).Nodup:=by grind [uf]
        refine⟨v,_,qu ρ ρ' id ((s.js.map Sf).filter (iI k2.mp)),M',lst2.map (λp=>(bD k2.mp id p.1,p.2))++rem,rfl,rfl,hMM,hEn,On hbN hyl hres hyt hsb,⟨λt=>?_,λk o hk=>?_,λk u hk=>?_,λp hp=>?_,?_,?_,h.gr.mono hMM⟩⟩
        .rw[rH];rcases h.sl t with h1|⟨u,h1,h2⟩
         .exact .inl h1
         .exact .inr ⟨u,h1,SR.mono hMM hEn h2⟩
        .rcases DB _ hk with hk|⟨hk,hne⟩
         .rcases RY.1 hk with hk|hk
          .rcases RY.1 hk with hk|hk
           .obtain⟨e,sz,n,ds,e1,e2,e3⟩:=A7 hk;have e1:o=.s sz n ds:=e1;subst e1;obtain⟨u,e4,e5⟩:=hrows k sz n ds (.inl (.inl ⟨⟨e,e2⟩,e3⟩));exact⟨u,hEn _ _ e4,Rd.mono hM2 _ _ e5⟩
           .have e1:o=.dK:=sQ hk;subst e1;exact trivial
          .obtain⟨p,hp,e⟩:=R3.1 hk;simp only[R6]at e;obtain⟨rfl,rfl⟩:=e;have:=hR2.ob p.1 p.2 (by rw[hob2];exact obF_mem hznd hp);exact Rk hbN (λx hx=>List.mem_append_left _ (R3.2 ⟨_,hx,rfl⟩)) this
         .have h9:=hR1.ob k o (by rw[gJ _ λp hp=>hne p (List.mem_append_left _ (List.mem_append_left _ hp))];exact hk);refine OR.mono hM2 hEn (λx hx=>List.mem_append_right _ (hrem2 _ hx λi hi hg=>?_)) h9;by_cases hio:i∈s.js.map Sf
          .have:=hkeyz i hio;obtain⟨p,hp,e⟩:=R3.1 this;have e2:bD k2.mp id i=k:=by unfold bD;rw[hg]
           exact hne p hp (by rw[e,e2])
          .obtain⟨p,hp,e⟩:=R3.1 (Fh hg hio);exact hne p (List.mem_append_left _ (List.mem_append_right _ hp)) e
        .rw[km];rcases Fb hk with hk|⟨i,hi,rfl,_⟩
         .rcases h.vZ k u hk with h1|h1
          .exact .inl h1
          .exact .inr (tB _ (.inl h1))
         .right;obtain⟨hi1,hi2⟩:=Sp.1 hi;have:=hkeyz i hi1;have e2:bD k2.mp id i=id+10000*(i+1):=by
           grind [iI,bD]
          rw[e2]at this;exact tB _ (.inr this)
        .rcases RY.1 hp with hp|hp
         .obtain⟨p',hp',rfl⟩:=R3.1 hp;obtain⟨u,hu⟩:=Ti.1 (hR2.gq p' hp');show(qu ρ ρ' id _ (bD k2.mp id p'.1)).isSome=true;rw[hbN _ _ hu];rfl
         .obtain⟨u,hu⟩:=Ti.1 (hR1.gq p (hrem p hp).1);rw[hEn _ _ hu];rfl
        .rw[Si,SP];have hinjN:∀x∈lst2.map Sf,∀y∈lst2.map Sf,bD k2.mp id x=bD k2.mp id y->x=y:=λx hx y hy' e=>by
          obtain⟨px,hpx,rfl⟩:=R3.1 hx;obtain⟨py,hpy,rfl⟩:=R3.1 hy';have ox:=hl2 px hpx;have oy:=hl2 py hpy;cases hgx:bL k2.mp px.1 with
          |none =>
           have ex:bD k2.mp id px.1=id+10000*(px.1+1):=by unfold bD;rw[hgx]
           have nx:iI k2.mp px.1=true:=by unfold iI;rw[hgx]
           cases hgy:bL k2.mp py.1 with
           |none =>
            have ey:bD k2.mp id py.1=id+10000*(py.1+1):=by unfold bD;rw[hgy]
            omega
           |some t=>cases t with
            |nil sz =>
             have ey:bD k2.mp id py.1=id+10000*(py.1+1):=by unfold bD;rw[hgy]
             omega
            |ob b =>
             have ey:bD k2.mp id py.1=b:=by unfold bD;rw[hgy]
             obtain⟨v0,hv0⟩:=hsomeb _ _ hgy;rw[<-ey,<-e,ex,hnone _ ox nx]at hv0;cases hv0
          |some t=>cases t with
           |nil sz =>
            have ex:bD k2.mp id px.1=id+10000*(px.1+1):=by unfold bD;rw[hgx]
            have nx:iI k2.mp px.1=true:=by unfold iI;rw[hgx]
            cases hgy:bL k2.mp py.1 with
            |none =>
             have ey:bD k2.mp id py.1=id+10000*(py.1+1):=by unfold bD;rw[hgy]
             omega
            |some t=>cases t with
             |nil sz =>
              have ey:bD k2.mp id py.1=id+10000*(py.1+1):=by unfold bD;rw[hgy]
              omega
             |ob b =>
              have ey:bD k2.mp id py.1=b:=by unfold bD;rw[hgy]
              obtain⟨v0,hv0⟩:=hsomeb _ _ hgy;rw[<-ey,<-e,ex,hnone _ ox nx]at hv0;cases hv0
           |ob b =>
            have ex:bD k2.mp id px.1=b:=by unfold bD;rw[hgx]
            obtain⟨v0,hv0⟩:=hsomeb _ _ hgx;cases hgy:bL k2.mp py.1 with
            |none =>
             have ey:bD k2.mp id py.1=id+10000*(py.1+1):=by unfold bD;rw[hgy]
             have ny:iI k2.mp py.1=true:=by unfold iI;rw[hgy]
             rw[<-ex,e,ey,hnone _ oy ny]at hv0;cases hv0
            |some t=>cases t with
             |nil sz =>
              have ey:bD k2.mp id py.1=id+10000*(py.1+1):=by unfold bD;rw[hgy]
              have ny:iI k2.mp py.1=true:=by unfold iI;rw[hgy]
              rw[<-ex,e,ey,hnone _ oy ny]at hv0;cases hv0
             |ob b' =>
              have ey:bD k2.mp id py.1=b':=by unfold bD;rw[hgy]
              have:b=b':=Q0;subst this;exact hinj _ _ _ hgx hgy
         have h8:(lst2.map (Sf ∘ λp=>(bD k2.mp id p.1,p.2)))=(lst2.map Sf).map (bD k2.mp id):=by rw[SP];rfl
         rw[h8];refine Td.2 ⟨sj hinjN hR2.nd,hrn,λx hx y hy' e=>?_⟩;subst e;obtain⟨i,hi,rfl⟩:=R3.1 hx;obtain⟨pi,hpi,rfl⟩:=R3.1 hi;obtain⟨q,hq,e⟩:=R3.1 hy';have oi:=hl2 pi hpi;cases hgx:bL k2.mp pi.1 with
         |none =>
          have ex:bD k2.mp id pi.1=id+10000*(pi.1+1):=by unfold bD;rw[hgx]
          have nx:iI k2.mp pi.1=true:=by unfold iI;rw[hgx]
          have:=hR1.gq q (hrem q hq).1;rw[e,ex,hnone _ oi nx]at this;cases this
         |some t=>cases t with
          |nil sz =>
           have ex:bD k2.mp id pi.1=id+10000*(pi.1+1):=by unfold bD;rw[hgx]
           have nx:iI k2.mp pi.1=true:=by unfold iI;rw[hgx]
           have:=hR1.gq q (hrem q hq).1;rw[e,ex,hnone _ oi nx]at this;cases this
          |ob b =>
           have ex:bD k2.mp id pi.1=b:=by unfold bD;rw[hgx]
           exact(hrem q hq).2 pi.1 (fX hb.1.1 hgx) (by grind)
        .rw[Si,SP,R9];exact hR2.st
      .cases hpk
     .cases hpk
    .cases hpk
end
def qc(k:av)(v:RK):List (av×RK)->List (av×RK)
 |[]=>[(k,v)]
 |p::l=>if k=p.1 then(p.1,v)::l else p::qc k v l
section
variable {P:RV} {kt:RX} (hK:qw P kt jI)
theorem BF(hK:qw P kt jI)(k:av)(v:RK):∀(l:List (av×RK)) (es:List TJ) (i:Nat) (w:R0),es.map (λe=>(e.key,e.val))=vN jI l ->
  (gD k l=none/\(TD kt (jI k) es i).run P w=.ok none w/\vN jI (qc k v l)=vN jI l++[(jI k,v)]) \/
  ∃j u e,(TD kt (jI k) es i).run P w=.ok (some (i+j,u)) w/\gD k l=some u/\es[j]?=some e/\e.key=jI k/\(es.modify j λe=>{e with key:=jI k,val:=v}).map (λe=>(e.key,e.val))=vN jI (qc k v l)
 |[],[],i,w,_=>.inl ⟨rfl,by simp[TD],rfl⟩
 |p::l,e::es,i,w,h=>by
  simp only[vN,Sb,Tn,R6]at h;obtain⟨⟨h0,h00⟩,ht⟩:=h;have h1:=hK.eq k p.1 w;by_cases he:k=p.1
  .refine .inr ⟨0,e.val,e,?_,by simp[gD,he,h00],rfl,by rw[h0,he],?_⟩
   .rw[J5 he]at h1;simp only[TD,h0];simp[h1]
   all_goals grind [qc]
  .rw[J6 he]at h1;rcases BF hK k v l es (i+1) w ht with⟨g1,g2,g3⟩|⟨j,u,e',g1,g2,g3,g4,g5⟩
   .refine .inl ⟨by grind [gD],?_,?_⟩
    .simp only[TD,h0];simp[h1,g2]
    all_goals grind [qc]
   .refine .inr ⟨j+1,u,e',?_,by grind [gD],by grind,g4,?_⟩
    .simp only[TD,h0];simp[h1,g1];omega
    all_goals grind [qc]
 |[],_::_,_,_,h=>by grind
 |_::_,[],_,_,h=>by grind
theorem key_at(hK:qw P kt jI)(k:av)(v:RK)(l:List (av×RK))(es:List TJ)(w:R0)(h:es.map (λe=>(e.key,e.val))=vN jI l) :
  (gD k l=none/\(Uj kt (jI k) es).run P w=.ok none w/\vN jI (qc k v l)=vN jI l++[(jI k,v)]) \/
  ∃j u e,(Uj kt (jI k) es).run P w=.ok (some (j,u)) w/\gD k l=some u/\es[j]?=some e/\e.key=jI k/\(es.modify j λe=>{e with key:=jI k,val:=v}).map (λe=>(e.key,e.val))=vN jI (qc k v l):=by
 obtain⟨fs,hfs⟩:=hK.kind;cases es with
 |nil =>
  cases l with
  |nil=>exact .inl ⟨rfl,by simp[Uj,R7 hfs,Wr],rfl⟩
  |cons p l=>simp[vN]at h
 |cons e es =>
  have e1:(Uj kt (jI k) (e::es)).run P w=(TD kt (jI k) (e::es)).run P w:=by simp[Uj,R7 hfs,Wr,XX]
  rcases BF hK k v l (e::es) 0 w h with⟨g1,g2,g3⟩|⟨j,u,e',g1,g2,g3⟩
  .exact .inl ⟨g1,by grind,g3⟩
  .rw[Sz]at g1;exact .inr ⟨j,u,e',by grind,g2,g3⟩
theorem stays(k:av)(w:R0):(Yz (jI k) (jI k)).run P w=.ok (jI k) w:=by
 have:XL 10000 (jI k) (jI k)=true:=by show XL (9998+1+1) (.agg #[mj k.aH,mj k.seq,mj k.index]) (.agg #[mj k.aH,mj k.seq,mj k.index])=true;simp[XL]
 simp[Yz,this]
theorem zL(hK:qw P kt jI){w0:R0}{M:Mem}{R:List As}{t e b:Nat}{l:List (av×RK)}{k:av}{v:RK}{w:R0}(ht:Hs P t kt e=true)(hw:St w0 M (.mp b (vN jI l)::R) w) :
  ∃w',(XA t (.map (some b)) (jI k) v).run P w=.ok () w'/\St w0 M (.mp b (vN jI (qc k v l))::R) w':=by
 obtain⟨hM,es,clock,hb,hes,hst⟩:=hw.all _ (RG ..);have h3:=λb=>hK.check k b w;have h4:(getObj b).run P w=.ok (.map es clock) w:=Ws hb;have hlt:b<w.heap.size:=(SQ.1 hb).1;have put:∀(es':Array TJ) (clock':Nat),es'.toList.map (λe=>(e.key,e.val))=vN jI (qc k v l)->nS es' clock'->St w0 M (.mp b (vN jI (qc k v l))::R) {w with heap:=w.heap.setIfInBounds b (.map es' clock')}:=λes' clock' he hst'=>by
  have hne:∀c,c≠b->(w.heap.setIfInBounds b (.map es' clock'))[c]?=w.heap[c]?:=λc hc=>Array.getElem?_setIfInBounds_ne Q0;have hnd:=hw.nodup;simp only[Sr,As.gx]at hnd;refine⟨hw.os,hw.tape,hw.output,by simp;exact hw.size,λc o hc=>?_,λx hx=>?_,by grind [As.gx]⟩
  .rw[hne c (λe=>by grind)];exact hw.mem c o hc
  .rcases RO.1 hx with rfl|hm
   .exact⟨hM,es',clock',by simp[hlt],he,hst'⟩
   .have hx':=hw.all x (RM _ hm);refine As.fz hx' (Sub.refl M) λc hc=>⟨hne c λe=>?_,(As.bk hx' hc).2⟩
    grind
 rcases key_at hK k v l es.toList w hes with⟨g1,g2,g3⟩|⟨j,u,e',g1,g2,g3,g4,g5⟩
 .refine⟨{w with heap:=w.heap.setIfInBounds b (.map (es.push {key:=jI k,val:=v,born:=clock}) (clock+1))},?_,put _ _ (by grind) (hst.push _)⟩;simp[XA,R7 (kr ht),h4,h3,g2,XY _ hb]
 .refine⟨{w with heap:=w.heap.setIfInBounds b (.map (es.modify j λe=>{e with key:=jI k,val:=v}) clock)},?_,put _ _ (by grind) (hst.modify (f:=λe=>{e with key:=jI k,val:=v}) (λ_=>rfl) j)⟩;have g3':es[j]?=some e':=by grind
  have hk:((es[j]?).map (·.key)).getD (jI k)=jI k:=by grind
  simp only[XA,TP,R7 (kr ht),Uy,h4,h3,g1,hk,stays k w,XY _ hb]
end
theorem CH{i:av}{a b c:Int}{ds:List D}:yw a b c (.v (.int .i64 i.aH)::.v (.int .i64 i.seq)::.v (.int .i64 i.index)::ds)=decide ((⟨a,b,c⟩:av)=i):=by
 unfold yw;show decide (i.aH=a/\i.seq=b/\i.index=c)=_;refine decide_eq_decide.2 ⟨λh=>?_,λh=>?_⟩
 .obtain⟨rfl,rfl,rfl⟩:=h;rfl
 all_goals grind
section
variable {M:Mem} {ag:Bool} {vs:Nat} {k:av}
theorem EZ:∀{l:List (av×RK)} {ds:List D},MR M ag vs l ds->(gD k l=none/\bA (3+vs) k.aH k.seq k.index l.length ds=none)\/∃v xs,gD k l=some v/\bA (3+vs) k.aH k.seq k.index l.length ds=some xs/\xs.length=vs/\VR M ag xs v
 |[],ds,_=>.inl ⟨rfl,rfl⟩
 |(i,v)::l,ds,⟨xs,rest,h1,h2,h3,h4⟩=>by
  subst h1;have hd:(D.v (.int .i64 i.aH)::.v (.int .i64 i.seq)::.v (.int .i64 i.index)::(xs++rest)).drop (3+vs)=rest:=by
   grind
  have htk:((D.v (.int .i64 i.aH)::.v (.int .i64 i.seq)::.v (.int .i64 i.index)::(xs++rest)).take (3+vs)).drop 3=xs:=by
   grind
  by_cases e:k=i
  .subst e
   grind [gD,RU,bA,CH,J5,av]
  .have hm:bA (3+vs) k.aH k.seq k.index ((i,v)::l).length (.v (.int .i64 i.aH)::.v (.int .i64 i.seq)::.v (.int .i64 i.index)::(xs++rest))=bA (3+vs) k.aH k.seq k.index l.length rest:=by rw[RU,bA,CH,J6 (show ¬(⟨k.aH,k.seq,k.index⟩:av)=i from e)];simp only[hd]
   rw[hm,gD,J1 e];exact EZ h4
theorem map_set{v:RK}{xs:List D}(hv:VR M ag xs v)(hx:xs.length=vs):∀{l:List (av×RK)} {ds:List D},MR M ag vs l ds->MR M ag vs (qc k v l) (dc (3+vs) k.aH k.seq k.index xs l.length ds)/\(qc k v l).length=fM (3+vs) k.aH k.seq k.index l.length ds
 |[],ds,h=>by obtain rfl:ds=[]:=h;exact⟨⟨xs,[],rfl,hx,hv,rfl⟩,rfl⟩
 |(i,u)::l,ds,⟨ys,rest,h1,h2,h3,h4⟩=>by
  subst h1;have hd:(D.v (.int .i64 i.aH)::.v (.int .i64 i.seq)::.v (.int .i64 i.index)::(ys++rest)).drop (3+vs)=rest:=by
   grind
  have htk:(D.v (.int .i64 i.aH)::.v (.int .i64 i.seq)::.v (.int .i64 i.index)::(ys++rest)).take (3+vs)=.v (.int .i64 i.aH)::.v (.int .i64 i.seq)::.v (.int .i64 i.index)::ys:=by
   grind
  by_cases e:k=i
  .subst e;simp only[qc];rw[J2 trivial];unfold fM;rw[RU,dc,bA,CH,J5 (show(⟨k.aH,k.seq,k.index⟩:av)=k from rfl)];simp only[hd];exact⟨⟨xs,rest,Q2,hx,hv,h4⟩,Q2⟩
  .obtain⟨g1,g2⟩:=map_set hv hx h4;simp only[qc];rw[J1 e];unfold fM at g2 ⊢;rw[RU,dc,bA,CH,J6 (show ¬(⟨k.aH,k.seq,k.index⟩:av)=i from e)];simp only[hd,htk];refine⟨⟨ys,_,Q2,h2,h3,g1⟩,?_⟩;rw[RU,g2];split <;> rfl
end
section
variable {Is:Cx} {P:RV} {tb:Tb} {n:Nat} {w0:R0} {Γ0:List As} {fr:Fr} {ρ:Nat->Option RK} {M:Mem} {lst:List (Nat×As)} {a:Act} {w:R0} {fs fo:List Nat} {o:Out} {Q:Exit->Act->R0->Prop} {d:Nat} {ty:RX} {pos:String} {af:Array Edge} {g:Option (Nat×Bool)}
theorem uo(hT:me P tb){t e:Nat}{ag:Bool}{vs:Nat}{zs:List D}(h:Mt P tb t=some (e,ag,vs,zs)):∃k,Hs P t k e=true/\qw P k jI/\zs.length=vs/\∃z,kE P e=some z/\∀M,VR M ag zs z:=by
 unfold Mt at h;split at h
 .rename_i k e' hu;split at h
  .rename_i zs' hk hz;have hb:Hs P t k e'=true:=by unfold Hs;simp_all
   obtain⟨zc,hzc,hzd⟩:=Option.bind_eq_some_iff.1 hz;have hkey:=hT.key k hk;split at h
   .rename_i hag;simp only[RE,R6]at h;obtain⟨rfl,rfl,rfl,rfl⟩:=h;obtain⟨z,hz1,_⟩:=hY (M:=λ_=>none) (ρ:=λ_=>none) hzc;refine⟨k,hb,hkey,rfl,z,hz1,λM=>?_⟩;obtain⟨z',hz2,hz3⟩:=hY (M:=M) (ρ:=λ_=>none) hzc;rw[hz1]at hz2 hag;simp only[RE]at hz2;subst hz2;cases z with
    |agg us=>exact⟨us.toList,Q2,qA hz3 hzd⟩
    |_=>cases hag
   .rename_i hag;split at h
    .rename_i z1;simp only[RE,R6]at h;obtain⟨rfl,rfl,rfl,rfl⟩:=h;obtain⟨z,hz1,_⟩:=hY (M:=λ_=>none) (ρ:=λ_=>none) hzc;refine⟨k,hb,hkey,rfl,z,hz1,λM=>?_⟩;obtain⟨z',hz2,hz3⟩:=hY (M:=M) (ρ:=λ_=>none) hzc;rw[hz1]at hz2 hag;simp only[RE]at hz2;subst hz2;have hrd:=qA hz3 hzd;have hc:z.cells=#[z]:=by cases z <;> first|rfl|cases hag
     rw[hc]at hrd;exact⟨z1,rfl,hrd.2 0 _ _ rfl rfl⟩
    .cases h
  .cases h
 .cases h
theorem J9{s:S}{k:Int->Int->Int->bn}(hr:R1 Is fr (AT s k) fs fo o){v:RK}(hs:SR M ρ s v):∃i:av,v=jI i/\R1 Is fr (k i.aH i.seq i.index) fs fo o:=by
 unfold AT at hr;split at hr
 .rename_i h3;obtain⟨x,y,z,hr,u1,u2,u3,rfl,r1,r2,r3⟩:=G1 hr h3 hs;obtain⟨a,e1,hr⟩:=hr;obtain⟨b,e2,hr⟩:=hr;obtain⟨c,e3,hr⟩:=hr;have e1:x=.v (.int .i64 a):=e1;have e2:y=.v (.int .i64 b):=e2;have e3:z=.v (.int .i64 c):=e3;subst e1 e2 e3;refine⟨⟨a,b,c⟩,?_,hr⟩;rw[r1.1,r2.1,r3.1];rfl
 .exact hr.elim
theorem ent_R1{t:RX}{ag:Bool}{vs:Nat}{s:S}{k:Nat->Nat->List D->bn}(hr:R1 Is fr (entP t ag vs s k) fs fo o):∃b m ds fo',s=.c (.m b)/\fr.ob b=some (.m t ag vs m ds)/\R1 Is fr (k b m ds) fs fo' o:=by
 unfold entP at hr;split at hr
 .rename_i b;change R1 Is fr (match fr.ob b with|some (.m t' ag' vs' n ds)=>_|_=>_) _ _ _ at hr;split at hr
  .rename_i t' ag' vs' m ds hob;split at hr
   .rename_i hb;simp only[RP]at hb
    grind [RD]
   .exact hr.elim
  .exact hr.elim
 .exact hr.elim
theorem entR_R1{t:RX}{ag:Bool}{vs:Nat}{s:S}{k:Nat->List D->bn}(hr:R1 Is fr (entR t ag vs s k) fs fo o):∃b m ds fo',s=.c (.m b)/\(fr.ob b=some (.m t ag vs m ds)\/fr.ob b=some (.ms t ag vs m ds))/\R1 Is fr (k m ds) fs fo' o:=by
 unfold entR at hr;split at hr
 .rename_i b;change R1 Is fr (match fr.ob b with|some (.m t' ag' vs' n ds)=>_|some (.ms t' ag' vs' n ds)=>_|_=>_) _ _ _ at hr;split at hr
  .rename_i t' ag' vs' m ds hob;split at hr
   .rename_i hb;simp only[RP]at hb
    grind [RD]
   .exact hr.elim
  .rename_i t' ag' vs' m ds hob;split at hr
   .rename_i hb;simp only[RP]at hb
    grind [RD]
   .exact hr.elim
  .exact hr.elim
 .exact hr.elim
theorem PC{val:Nat->Option RK}(h:Rel w0 Γ0 fr ρ M lst val w){b t m vs:Nat}{ag:Bool}{ds:List D}(hob:fr.ob b=some (.m t ag vs m ds)\/fr.ob b=some (.ms t ag vs m ds)) :
  ∃k es clock l,ρ b=some (.map (some k))/\w.heap[k]?=some (.map es clock)/\nS es clock/\es.toList.map (λe=>(e.key,e.val))=vN jI l/\MR M ag vs l ds/\l.length=m:=by
 rcases hob with hob|hob
 .obtain⟨k,l,g1,g2,g3,g4⟩:=h.ob b _ hob;obtain⟨_,es,clock,q1,q2,q3⟩:=h.st.all _ (List.mem_append_left _ (Ss g2));exact⟨k,es,clock,l,g1,q1,q3,q2,g3,g4⟩
 .obtain⟨k,g1,_,es,clock,l,q1,q2,q3,q4,q5⟩:=h.ob b _ hob;exact⟨k,es,clock,l,g1,h.st.mem _ _ q1,q2,q3,q4,q5⟩
theorem uZ{w:R0}{t kt e b clock:Nat}{es:Array TJ}{l:List (av×RK)}{k:av}{z:RK}(hK:qw P kt jI)(ht:Hs P t kt e=true)(hz:kE P e=some z)(hb:w.heap[b]?=some (.map es clock))(hes:es.toList.map (λe=>(e.key,e.val))=vN jI l)(cm:Bool) :
  (Vu t (.map (some b)) (jI k) cm).run P w=.ok (if cm then .tuple #[(gD k l).getD z,.bool (gD k l).isSome] else(gD k l).getD z) w:=by
 obtain⟨r,h1,h2⟩:=Ef hK k l es.toList w hes;have h3:=λb=>hK.check k b w;have h4:(getObj b).run P w=.ok (.map es clock) w:=Ws hb;rw[<-h2];cases r with
 |none=>cases cm <;> simp[Vu,R7 (kr ht),h4,h3,h1,je hz]
 |some r=>cases cm <;> simp[Vu,R7 (kr ht),h4,h3,h1]
theorem mval_R1(h:Rel w0 Γ0 fr ρ M lst (tv a) w){ag:Bool}{s:S}{k:Nat->List D->List (Nat×O)->bn}(hr:R1 Is fr (Pv ag s k) fs fo o) :
  ∃m ds os fo',R1 Is fr (k m ds os) fs fo' o/\fp fr os/\(∀M' v,Sub M M'->mU ρ M' os->SR M ρ s v->VR M' ag ds v/\ds.length=m)/\s≠su:=by
 unfold Pv at hr;split at hr
 .rename_i c;obtain⟨x,os,fo1,hr,hf,hd,hne⟩:=C1 h hr;exact⟨1,[x],os,fo1,hr,hf,λM' v hM hfa hs=>⟨⟨x,rfl,hd M' v hM hfa hs⟩,rfl⟩,by unfold su;simpa using hne⟩
 .rename_i m ds;refine⟨m,ds,[],fo,hr,fp.nil,λM' v hM _ hs=>?_,by unfold su;simp⟩;obtain⟨hl,us,rfl,hr2⟩:=hs;exact⟨⟨us,rfl,hr2.mono hM⟩,hl⟩
 .rename_i cs;obtain⟨ds,os,fo1,hr,hf,hd⟩:=C0 h cs hr;refine⟨cs.length,ds,os,fo1,hr,hf,λM' v hM hfa hs=>?_,by unfold su;simp⟩;obtain⟨us,rfl,hr2⟩:=hs;have hrd:=hd M' us hM hfa hr2;exact⟨⟨us,rfl,hrd⟩,by rw[<-hrd.1,cA.len hr2]⟩
 .exact hr.elim
variable (h1:a.tmps.size=n) (h2:a.defers=[]) (h:Rel w0 Γ0 fr ρ M lst (tv a) w)
theorem Hh(h1:a.tmps.size=n)(h2:a.defers=[])(h:Rel w0 Γ0 fr ρ M lst (tv a) w)(hd:d<n){t:Nat}(hr:R1 Is fr (ym P tb (fr.aV+d) t) fs fo o):(⟨some d,.makeMap t none,ty,pos,af,g⟩:Oper).wp P a w (aY n w0 Γ0 ρ M ((fr.bp (some d) o.v).aI o.ob)) Q:=by
 unfold ym at hr;split at hr
 .rename_i e ag vs zs hm;obtain⟨hn,fo',rfl⟩:=fL hr;have hst:=h.st.newMap;obtain⟨hE,hR⟩:=h.new (v:=.map (some w.heap.size)) (o:=.m t ag vs 0 []) hn (SH _ _) hst ⟨w.heap.size,[],b7,RG ..,rfl,rfl⟩;refine bh h1 h2 rfl hd rfl (Sub.refl M) hE hR (v:=.map (some w.heap.size)) ⟨w.heap.size,b7,rfl⟩ ?_;have:(Instr.makeMap t none).run P w=.ok (.map (some w.heap.size)) {w with heap:=w.heap.push (.map #[] 0)}:=rfl;simp[Sk,this]
 .exact hr.elim
theorem E1(h1:a.tmps.size=n)(h2:a.defers=[])(h:Rel w0 Γ0 fr ρ M lst (tv a) w)(hT:me P tb)(hd:d<n){t:Nat}{x y:R4}{cm:Bool}{s sk:S}{fs2:List Nat}(hs:s=su\/∃v,dN a x v/\SR M ρ s v)(hsk:sk=su\/∃v,dN a y v/\SR M ρ sk v)(hr:R1 Is fr (wk P tb t s sk cm) fs2 fo o) :
  (⟨some d,.lookup t x y cm,ty,pos,af,g⟩:Oper).wp P a w (aY n w0 Γ0 ρ M ((fr.bp (some d) o.v).aI o.ob)) Q:=by
 unfold wk at hr;split at hr
 .rename_i e ag vs zs hm;obtain⟨kt,hmb,hK,hzl,z,hz,hzr⟩:=uo hT hm;obtain⟨b,m,ds,fo',rfl,hob,hr⟩:=entR_R1 hr;obtain⟨v,hv,k,hk,rfl⟩:=br hs (by unfold su;simp);have hne:sk≠su:=by
   rintro rfl;unfold AT at hr;split at hr
   .exact hr.elim
   .exact hr.elim
  obtain⟨kv,hkv,hskv⟩:=br hsk hne;obtain⟨i,rfl,hr⟩:=J9 hr hskv;obtain⟨k',es,clock,l,g1,g2,_,g2',g3,g4⟩:=PC h hob;rw[hk]at g1;obtain rfl:k=k':=by grind
  subst g4;have hit:∀{xs:List D} {u:RK},VR M ag xs u->SB M ρ (Qi ag xs.length xs) u:=fun{xs u} hv=>by
   cases ag with
   |true=>obtain⟨us,h3,h4⟩:=hv;exact⟨rfl,us,h3,h4⟩
   |false=>obtain⟨x,h3,h4⟩:=hv;subst h3;exact h4
  have fin:∀(xs:List D) (u:RK) (ok:Bool),(gD i l).getD z=u->(gD i l).isSome=ok->VR M ag xs u->xs.length=vs->o=⟨some (luS cm (Qi ag vs xs) ok),[],fs2,fo'⟩->(⟨some d,.lookup t x y cm,ty,pos,af,g⟩:Oper).wp P a w (aY n w0 Γ0 ρ M ((fr.bp (some d) o.v).aI o.ob)) Q:=λxs u ok e1 e2 hvr hxl ho=>by
   subst ho;subst hxl;cases cm with
   |true=>refine bh h1 h2 rfl hd rfl (Sub.refl M) (Ext.refl ρ) h (v:=.tuple [u,.bool ok].toArray) ⟨[u,.bool ok],rfl,hit hvr,⟨rfl,rfl⟩,trivial⟩ ?_;have:=uZ (k:=i) hK hmb hz g2 g2' true;rw[e1,e2]at this;simp only[if_true]at this;simp[Sk,hv.eval,hkv.eval,this]
   |false=>refine bh h1 h2 rfl hd rfl (Sub.refl M) (Ext.refl ρ) h (v:=u) (by have:=hit hvr;cases ag <;> exact this) ?_;have:=uZ (k:=i) hK hmb hz g2 g2' false;rw[e1]at this;simp only[Bool.false_eq_true,if_false]at this;simp[Sk,hv.eval,hkv.eval,this]
  rcases EZ (k:=i) g3 with⟨f1,f2⟩|⟨u,xs,f1,f2,f3,f4⟩
  .have hr:o=_:=hr;rw[f2]at hr;exact fin zs z false (by rw[f1];rfl) (by rw[f1];rfl) (hzr M) hzl hr
  .have hr:o=_:=hr;rw[f2]at hr;exact fin xs u true (by rw[f1];rfl) (by rw[f1];rfl) f4 f3 hr
 .exact hr.elim
theorem vn{z:Int}:∀(l:List (Int×Int)) (es:List TJ) (i:Nat),(es.map λe=>(e.key,e.val))=(l.map λp=>(To .i64 p.1,To .i64 p.2)) ->
  ∃r,Wr (.int .i64) (.int .i64 z) es i=some r/\r.map (·.2)=(yp z l).map λv=>To .i64 v
 |[],[],i,_=>⟨none,rfl,rfl⟩
 |[],_::_,_,h=>by simp at h
 |_::_,[],_,h=>by simp at h
 |(p,q)::l,e::es,i,h=>by
  simp only[Sb,Tn,R6]at h;obtain⟨⟨hk,hv⟩,ht⟩:=h;unfold Wr yp;rw[hk];by_cases hz:z=p
  .subst hz;refine⟨some (i,e.val),by simp[XX],by simp[hv]⟩
  .obtain⟨r,h1,h2⟩:=vn (z:=z) l es (i+1) ht
   grind [XX]
theorem JU{z v:Int}:∀{l:List (Int×Int)},(l.map Sf).Nodup->(yp z l=some v↔(z,v)∈l)
 |[],_=>by simp[yp]
 |(a,b)::l,h=>by
  rw[Sb,SG]at h;unfold yp;by_cases hz:z=a
  .grind
  .rw[J6 hz];simp only[RO,R6,hz,false_and,false_or];exact JU h.2
theorem PM(z:Int){l l':List (Int×Int)}(h:l'.Perm l)(hn:(l.map Sf).Nodup):yp z l'=yp z l:=by
 have hn':(l'.map Sf).Nodup:=(h.map Sf).nodup_iff.2 hn;apply Option.ext
 grind [JU]
theorem Ee{w:R0}{t b kt e:Nat}{l:List (Int×Int)}{z:Int}{es:Array TJ}{c:Nat}(ht:P.underlying t=some (.map kt e))(hk:P.underlying kt=some (.int .i64))(hz:kE P e=some (.int .i64 0))(hb:w.heap[b]?=some (.map es c))
  (he:(es.toList.map λe=>(e.key,e.val))=l.map λp=>(To .i64 p.1,To .i64 p.2)) (cm:Bool) :
  (Vu t (.map (some b)) (.int .i64 z) cm).run P w=.ok (if cm then .tuple #[.int .i64 ((yp z l).getD 0),.bool (yp z l).isSome] else .int .i64 ((yp z l).getD 0)) w:=by
 obtain⟨r,h1,h2⟩:=vn (z:=z) l es.toList 0 he;have h3:∀b,(U2 b 10000 kt (.int .i64 z)).run P w=.ok () w:=λb=>by show(U2 b (9999+1) kt (.int .i64 z)).run P w=.ok () w;unfold U2;simp[R7 hk]
 have h4:(getObj b).run P w=.ok (.map es c) w:=Ws hb;have h5:(Uj kt (.int .i64 z) es.toList).run P w=.ok r w:=by simp[Uj,R7 hk,h1]
 cases hl:yp z l with
 |none =>
  rw[hl]at h2;obtain rfl:r=none:=by simpa using h2
  cases cm <;> simp[Vu,R7 ht,h4,h3,h5,je hz]
 |some v=>rw[hl]at h2;obtain⟨p,rfl,hp⟩:=Tm.1 h2;cases cm <;> simp[Vu,R7 ht,h4,h3,h5,hp]
theorem Ma(h1:a.tmps.size=n)(h2:a.defers=[])(h:Rel w0 Γ0 fr ρ M lst (tv a) w)(hT:me P tb)(hd:d<n){t:Nat}{x y:R4}{cm:Bool}(hr:R1 Is fr (cP x λs=>cP y λk=>(match s with|.c (.k g)=>yn P tb t g k cm|s=>wk P tb t s k cm)) fs fo o):(⟨some d,.lookup t x y cm,ty,pos,af,g⟩:Oper).wp P a w (aY n w0 Γ0 ρ M ((fr.bp (some d) o.v).aI o.ob)) Q:=by
 obtain⟨s,fs1,hr,hs⟩:=bI h hr;obtain⟨sk,fs2,hr,hsk⟩:=bI h hr;split at hr
 .rename_i gv _;unfold yn at hr;split at hr
  .rename_i l hg hb;obtain⟨z,ez,hr⟩:=eL hr;obtain rfl:=aU hr;obtain⟨u,hu,⟨m,rfl⟩,hc⟩:=br hs (by unfold su;simp);have hz:=er hsk ez;obtain⟨m',es,c,l',e1,e2,e3,e4,e5⟩:=hT.gm gv l hg M h.gr;rw[hc]at e1;obtain rfl:m=m':=by grind
   unfold P0 at hb;split at hb
   .rename_i kt e ht;simp only[RP]at hb;have hk:P.underlying kt=some (.int .i64):=by
     grind [P1]
    have hzz:kE P e=some (.int .i64 0):=by
     grind
    have hrun:=λcm=>Ee (P:=P) (w:=w) (z:=z) ht hk hzz (h.st.mem _ _ e2) e3 cm;rw[PM z e4 e5]at hrun;refine bh h1 h2 rfl hd rfl (Sub.refl M) (Ext.refl ρ) h (v:=if cm then .tuple #[.int .i64 ((yp z l).getD 0),.bool (yp z l).isSome] else .int .i64 ((yp z l).getD 0)) ?_ ?_
    .cases cm with
     |true=>exact⟨[_,_],rfl,⟨rfl,rfl⟩,⟨rfl,rfl⟩,trivial⟩
     |false=>exact⟨rfl,rfl⟩
    .simp[Sk,hu.eval,hz.eval,hrun cm]
   .cases hb
  .exact hr.elim
 all_goals grind [E1]
theorem Cl(h1:a.tmps.size=n)(h2:a.defers=[])(h:Rel w0 Γ0 fr ρ M lst (tv a) w)(hT:me P tb){t:Nat}{x y z:R4}(hr:R1 Is fr (cP x λs=>cP y λk=>cP z λv=>rh P tb t s k v) fs fo o):(⟨none,.mapUpdate t x y z,ty,pos,af,g⟩:Oper).wp P a w (aY n w0 Γ0 ρ M ((fr.bp none o.v).aI o.ob)) Q:=by
 obtain⟨s,fs1,hr,hs⟩:=bI h hr;obtain⟨sk,fs2,hr,hsk⟩:=bI h hr;obtain⟨sv,fs3,hr,hsv⟩:=bI h hr;unfold rh at hr;split at hr
 .rename_i e ag vs zs hm;obtain⟨kt,hmb,hK,hzl,z0,hz,hzr⟩:=uo hT hm;obtain⟨b,m,ds,fo',rfl,hob,hr⟩:=ent_R1 hr;obtain⟨v,hv,k,hk,rfl⟩:=br hs (by unfold su;simp);have hne:sk≠su:=by
   rintro rfl;unfold AT at hr;split at hr
   .exact hr.elim
   .exact hr.elim
  obtain⟨kv,hkv,hskv⟩:=br hsk hne;obtain⟨i,rfl,hr⟩:=J9 hr hskv;obtain⟨m',xs,os,fo2,hr,hf,hval,hne2⟩:=mval_R1 h hr;split at hr
  .rename_i hbb;simp only[RP,Bool.not_eq_true']at hbb;have em:=RD hbb.1;subst em;have hany:=hbb.2;have hsu:sv≠su:=by rintro rfl;exact hne2 (by cases tb.hp <;> rfl)
   obtain⟨u,hu,hsvu⟩:=br hsv hsu;have hr:o=⟨none,os++[(b,.m t ag m' (fM (3+m') i.aH i.seq i.index m ds) (dc (3+m') i.aH i.seq i.index xs m ds))],_,_⟩:=hr;subst hr;refine x5 h (o:=⟨none,.mapUpdate t x y z,ty,pos,af,g⟩) rfl hf λM1 lst1 hM hfa hR=>?_;have hbne:∀p∈os,p.1≠b:=λp hp e=>by have:=Wb.1 hany p hp;simp_all
   have hob1:(fr.aI os).ob b=some (.m t ag m' m ds):=by grind [gJ]
   obtain⟨k',l,g1,g2,g3,g4⟩:=hR.ob b _ hob1;rw[hk]at g1;obtain rfl:k=k':=by grind
   subst g4;obtain⟨hvr,hxl⟩:=hval M1 u hM hfa (pO (dg hsvu));obtain⟨q1,q2⟩:=map_set (k:=i) hvr hxl g3;obtain⟨w',r1,r2⟩:=zL hK (v:=u) (k:=i) hmb (hR.st.fD (hR.mem g2));have hR':=hR.cB (x':=.mp k (vN jI (qc i u l))) (o:=.m t ag m' (fM (3+m') i.aH i.seq i.index l.length ds) (dc (3+m') i.aH i.seq i.index xs l.length ds)) g2 r2 ⟨k,_,hk,RG ..,q1,q2⟩;refine pM (fr:=fr.aI os) (out:=⟨none,[(b,.m t ag m' (fM (3+m') i.aH i.seq i.index l.length ds) (dc (3+m') i.aH i.seq i.index xs l.length ds))],[],[]⟩) h1 h2 rfl (Sub.refl M1) (Ext.refl ρ) hR' ?_;simp[Sk,hv.eval,hkv.eval,hu.eval,r1]
  .exact hr.elim
 .exact hr.elim
end
section
variable {P:RV} {tb:Tb} {Is:Cx} {n:Nat} {w0:R0} {Γ0:List As} {fr:Fr} {ρ:Nat->Option RK} {M:Mem} {lst:List (Nat×As)} {a:Act} {w:R0} {fs fo:List Nat} {o:Out} {Q:Exit->Act->R0->Prop} {ty:RX} {pos:String} {af:Array Edge} {g:Option (Nat×Bool)} {d:Nat}
theorem Rel.fixM{val:Nat->Option RK}(h:Rel w0 Γ0 fr ρ M lst val w){b t m vs:Nat}{ag:Bool}{ds:List D}(hob:fr.ob b=some (.m t ag vs m ds)):∃M' lst',Sub M M'/\Rel w0 Γ0 (fr.set b (.ms t ag vs m ds)) ρ M' lst' val w:=by
 obtain⟨k,l,g1,g2,g3,g4⟩:=h.ob b _ hob;have hp:=h.st.fD (h.mem g2);obtain⟨hMk,es,clock,q1,q2,q3⟩:=hp.all _ (RG ..);have hst:=hp.qN (b:=k) rfl q1;have hs:Sub M (M.put k (.map es clock)):=Mem.rX hMk;have hfix:Rel w0 Γ0 fr ρ (M.put k (.map es clock)) lst val w->True:=λ_=>trivial;refine⟨M.put k (.map es clock),(b,As.rds [] [])::lst.filter λp=>!RN p.1 b,hs,⟨λt=>?_,λi x hi=>?_,λi v hi=>?_,λp hp=>?_,?_,?_,h.gr.mono hs⟩⟩
 .rcases h.sl t with h6|⟨v,h6,h7⟩
  .exact .inl h6
  .exact .inr ⟨v,h6,SR.mono hs (Ext.refl ρ) h7⟩
 .rw[cI]at hi;by_cases e:i=b
  .subst e;rw[J2 rfl]at hi;simp only[RE]at hi;subst hi;exact⟨k,g1,RG ..,es,clock,l,by simp[Mem.put],q3,q2,g3.mono hs,g4⟩
  .rw[J1 e]at hi;exact OR.mono hs (Ext.refl ρ) (λx hx=>RM _ (il hx e)) (h.ob i x hi)
 .rcases h.vZ i v hi with h6|h6
  .exact .inl h6
  all_goals grind [cI]
 .rcases RO.1 hp with rfl|hp
  .grind
  .exact h.gq p (Sp.1 hp).1
 .rw[Sb];refine SG.2 ⟨λhm'=>?_,kz h.nd b⟩;simp_all
 .exact hst.add (x:=.rds [] []) (bz.nil _) rfl
theorem Mz{es:Array TJ}:lP es #[]=es.toList:=Uu.2 λx _=>by simp
theorem Rel.walk{val:Nat->Option RK}(h:Rel w0 Γ0 fr ρ M lst val w){id b t m vs k:Nat}{ag:Bool}{ds:List D}(hob:fr.ob b=some (.ms t ag vs m ds))(hk:ρ b=some (.map (some k)))(hn:fr.ob id=none)(hb:fr.aV<=id) :
  ∃es clock,w.heap[k]?=some (.map es clock)/\Ext ρ (NH ρ id (ptr w.heap.size))/\Rel w0 Γ0 (fr.set id (.it ag vs none m ds)) (NH ρ id (ptr w.heap.size)) M ((id,.raw w.heap.size (.mapIter (some k) clock #[] clock))::lst) val (w.alloc (.mapIter (some k) clock #[] clock)):=by
 obtain⟨k',g1,_,es,clock,l,q1,q2,q3,q4,q5⟩:=h.ob b _ hob;rw[hk]at g1;obtain rfl:k=k':=by grind
 have hst:=h.st.Pj (.mapIter (some k) clock #[] clock);refine⟨es,clock,h.st.mem _ _ q1,h.new (v:=ptr w.heap.size) hn hb hst ⟨w.heap.size,_,b7,RG ..,k,es,clock,#[],clock,clock,l,rfl,q1,q2,⟨Sc _,Sc _⟩,q2.2,by rw[Mz];exact q3,q4,q5,λkc hk=>by cases hk⟩⟩
theorem OW(h1:a.tmps.size=n)(h2:a.defers=[])(h:Rel w0 Γ0 fr ρ M lst (tv a) w)(hT:me P tb)(hd:d<n){t:Nat}{x:R4}(hr:R1 Is fr (cP x λs=>GZ P tb (fr.aV+d) t s) fs fo o):(⟨some d,.range t x,ty,pos,af,g⟩:Oper).wp P a w (aY n w0 Γ0 ρ M ((fr.bp (some d) o.v).aI o.ob)) Q:=by
 obtain⟨s,fs2,hr,hs⟩:=bI h hr;unfold GZ at hr;split at hr
 .rename_i e ag vs zs b hm;obtain⟨kt,hmb,hK,hzl,z,hz,hzr⟩:=uo hT hm;obtain⟨v,hv,k,hk,rfl⟩:=br hs (by unfold su;simp);change R1 Is fr (match fr.ob b with|some (.m t' ag' vs' n ds)=>_|some (.ms t' ag' vs' n ds)=>_|_=>_) _ _ _ at hr;split at hr
  .rename_i t' ag' vs' m ds hob;split at hr
   .rename_i hb;simp only[RP]at hb;have e1:=RD hb.1;have e2:ag=ag':=by grind
    have e3:=RD hb.2.2;subst e1 e2 e3;obtain⟨hn,fo',rfl⟩:=fL hr;obtain⟨M',lst',hs',hR⟩:=h.fixM hob;have hbne:b≠fr.aV+d:=λe=>by grind
    have hn':(fr.set b (.ms t ag vs m ds)).ob (fr.aV+d)=none:=by grind [cI]
    obtain⟨es,clock,w1,w2,w3⟩:=hR.walk (id:=fr.aV+d) (k:=k) (by rw[cI,J2 rfl]) hk hn' (SH _ _);refine bh h1 h2 rfl hd rfl hs' w2 w3 (v:=ptr w.heap.size) ⟨w.heap.size,b7,rfl⟩ ?_;simp[Sk,hv.eval,run_range_map w t kt e k es clock (kr hmb) w1]
   .exact hr.elim
  .rename_i t' ag' vs' m ds hob;split at hr
   .rename_i hb;simp only[RP]at hb;have e1:=RD hb.1;have e2:ag=ag':=by grind
    have e3:=RD hb.2.2;subst e1 e2 e3;obtain⟨hn,fo',rfl⟩:=fL hr;obtain⟨es,clock,w1,w2,w3⟩:=h.walk (id:=fr.aV+d) (k:=k) hob hk hn (SH _ _);refine bh h1 h2 rfl hd rfl (Sub.refl M) w2 w3 (v:=ptr w.heap.size) ⟨w.heap.size,b7,rfl⟩ ?_;simp[Sk,hv.eval,run_range_map w t kt e k es clock (kr hmb) w1]
   .exact hr.elim
  .exact hr.elim
 .exact hr.elim
theorem O3(h1:a.tmps.size=n)(h2:a.defers=[])(h:Rel w0 Γ0 fr ρ M lst (tv a) w)(hd:d<n){x:R4}(hr:R1 Is fr (cP x λs=>H0 s) fs fo o):(⟨some d,.entry x,ty,pos,af,g⟩:Oper).wp P a w (aY n w0 Γ0 ρ M ((fr.bp (some d) o.v).aI o.ob)) Q:=by
 obtain⟨s,fs2,hr,hs⟩:=bI h hr;unfold H0 at hr;split at hr
 .rename_i b;obtain⟨v,hv,k,hk,rfl⟩:=br hs (by unfold su;simp);change R1 Is fr (match fr.ob b with|some (.it ag vs (some kc) _ _)=>_|_=>_) _ _ _ at hr;split at hr
  .rename_i ag vs kc m ds hob;obtain⟨k',ob,g1,g2,kb,es,clock,seen,c0,since,l,rfl,q2,q3,q4,q5,q6,q7,q8,q9⟩:=h.ob b _ hob;rw[hk]at g1;obtain rfl:k=k':=by grind
   obtain⟨rfl,e,i,xs,e2,e3,e4,rfl,e6,e7⟩:=q9 kc rfl;have hr:o=⟨some (.t [.a 3 [.v (.int .i64 i.aH),.v (.int .i64 i.seq),.v (.int .i64 i.index)],Qi ag vs xs]),[],_,_⟩:=hr;subst hr;have hraw:=(h.st.all _ (List.mem_append_left _ (Ss g2))).2;obtain⟨seen',rfl⟩:=e3;refine bh h1 h2 rfl hd rfl (Sub.refl M) (Ext.refl ρ) h (v:=.tuple #[e.key,e.val]) ⟨[e.key,e.val],rfl,?_,?_,trivial⟩ ?_
   .rw[e4];exact⟨rfl,_,rfl,bz.cons ⟨rfl,rfl⟩ (bz.cons ⟨rfl,rfl⟩ (bz.cons ⟨rfl,rfl⟩ (bz.nil _)))⟩
   .cases ag with
    |true=>obtain⟨us,h3,h4⟩:=e7;exact⟨e6,us,h3,h4⟩
    |false=>obtain⟨x,h3,h4⟩:=e7;subst h3;exact h4
   .have e0:gd (some ⟨k,0,none⟩) 0=⟨k,0,none⟩:=rfl;rw[e0]at hv;have:=run_entry_at (P:=P) w k kb since seen' es c0 e hraw (h.st.mem _ _ q2) e2 q3.1;simp[Sk,hv.eval,this]
  .exact hr.elim
 .exact hr.elim
theorem MR.get{ag:Bool}{vs:Nat}:∀{l:List (av×RK)} {ds:List D} {i:Nat} {p:av×RK},MR M ag vs l ds->l[i]?=some p->∃xs,el ds (3+vs) i=.v (.int .i64 p.1.aH)::.v (.int .i64 p.1.seq)::.v (.int .i64 p.1.index)::xs/\xs.length=vs/\VR M ag xs p.2
 |[],_,i,p,_,h=>by simp at h
 |(k,v)::l,_,0,p,⟨xs,rest,h1,h2,h3,h4⟩,h=>by
  simp only[SE,RE]at h;subst h h1 h2;refine⟨xs,?_,rfl,h3⟩;unfold el
  grind
 |(k,v)::l,_,i+1,p,⟨xs,rest,h1,h2,h3,h4⟩,h=>by subst h1 h2;obtain⟨ys,g1,g2,g3⟩:=MR.get (i:=i) h4 (by simpa using h);refine⟨ys,?_,g2,g3⟩;rw[<-g1];unfold el;rw[show(i+1)*(3+xs.length)=(i*(3+xs.length)+xs.length)+1+1+1 by grind];rw[SV,SV,SV,WR,X9 Q0];simp
theorem MR.del{ag:Bool}{vs:Nat}:∀{l:List (av×RK)} {ds:List D} {i:Nat},MR M ag vs l ds->i<l.length->MR M ag vs (l.eraseIdx i) (mO ds (3+vs) i)
 |[],_,i,_,h=>by simp at h
 |(k,v)::l,_,0,⟨xs,rest,h1,h2,h3,h4⟩,h=>by
  grind [mO]
 |(k,v)::l,_,i+1,⟨xs,rest,h1,h2,h3,h4⟩,h=>by
  subst h1 h2;have ih:=MR.del (i:=i) h4 (by grind);refine⟨xs,_,?_,rfl,h3,ih⟩;unfold mO;rw[show(i+1)*(3+xs.length)=(xs.length+i*(3+xs.length))+1+1+1 by grind];rw[show(i+1+1)*(3+xs.length)=(xs.length+(i+1)*(3+xs.length))+1+1+1 by grind];rw[SV,SV,SV,SO,SO,SO,WR,Vg,X9 (show xs.length<=xs.length+_ by omega),Su (show xs.length<=xs.length+_ by omega)]
  grind
theorem Hr{α β:Type}(f:α->β):∀(l:List α) (i:Nat),(l.eraseIdx i).map f=(l.map f).eraseIdx i
 |[],_=>rfl
 |_::_,0=>rfl
 |x::l,i+1=>by simp[Hr f l i]
theorem HA{es:Array TJ}{seen:Array Nat}{e:TJ}(hn:(es.toList.map (·.born)).Nodup){i:Nat}(hi:(lP es seen)[i]?=some e):lP es (seen.push e.born)=(lP es seen).eraseIdx i:=by
 have h1:lP es (seen.push e.born)=(lP es seen).filter λx=>!(x.born == e.born):=by
  grind [lP,List.filter_filter]
 have h2:((lP es seen).map (·.born)).Nodup:=((TK (l:=es.toList)).map _).nodup hn;rw[h1];generalize lP es seen=l at hi h2 ⊢;induction l generalizing i with
 |nil=>simp at hi
 |cons y l ih =>
  rw[Sb,SG]at h2;cases i with
  |zero =>
   simp only[SE,RE]at hi;subst hi;rw[List.filter_cons_of_neg Q2,List.eraseIdx_cons_zero];exact Uu.2 λx hx=>by
    grind
  |succ i =>
   have hi':l[i]?=some e:=by grind
   have hne:y.born≠e.born:=λe2=>h2.1 (by grind);rw[List.filter_cons_of_pos (by grind),List.eraseIdx_cons_succ,ih hi' h2.2]
theorem aY.iW{ρ0:Nat->Option RK}{M0:Mem}(h:aY n w0 Γ0 ρ0 M0 fr a w)(k:Nat):aY n w0 Γ0 ρ0 M0 fr a {w with drawn:=k}:=by obtain⟨h1,h2,ρ,M,lst,h3,h4,h5⟩:=h;exact⟨h1,h2,ρ,M,lst,h3,h4,h5.sl,h5.ob,h5.vZ,h5.gq,h5.nd,h5.st.iW k,h5.gr⟩
theorem aY.oC{ρ0:Nat->Option RK}{M0:Mem}(h:aY n w0 Γ0 ρ0 M0 fr a w):aY n w0 Γ0 ρ0 M0 fr.oC a w:=by obtain⟨h1,h2,ρ,M,lst,h3,h4,h5⟩:=h;exact⟨h1,h2,ρ,M,lst,h3,h4,h5.sl,h5.ob,λb v hv=>(h5.vZ b v hv).imp (λh=>YZ h (SH _ _)) id,h5.gq,h5.nd,h5.st,h5.gr⟩
theorem next_ok{ρ0:Nat->Option RK}{M0:Mem}{ops:Array Oper}{id t e:Nat}{iW:Bool}{K:Fr->Prop}(hd:aY n w0 Γ0 ρ0 M0 fr a w)(hb:AH tb n iW ops.toList=some (d,t,e))(h:EO fr d t e λfr=>K fr.oC)
  (hQ:∀fr',K fr'->∀a w,aY n w0 Γ0 ρ0 M0 fr' a w->Q .normal a w):(Code.region id ops iW).wp P Q a w:=by
 unfold AH at hb;split at hb
 .rename_i d1 t1 ty1 pos1 af1 e1 d1' ty2 pos2 af2 _ hops;split at hb
  .rename_i hbb;simp only[RP]at hbb;simp only[RE,R6]at hb;obtain⟨rfl,rfl,rfl⟩:=hb;have hdd:=RD hbb.1;subst hdd;have hd1:d1<n:=Tz hbb.2.1;have he1:e1<n:=Tz hbb.2.2;obtain⟨h1,h2,ρ,M,lst,hM,hE,hR⟩:=hd;refine wp_region_list ?_;rw[hops];unfold EO at h;split at h
   .rename_i b hsl;split at h
    .rename_i ag vs cur m ds hob;obtain⟨v,hv,hsv⟩:=br (x:=.tmp t1) (hR.sl t1) (by rw[hsl];unfold su;simp);rw[hsl]at hsv;obtain⟨k,hk,rfl⟩:=hsv;have e0:gd (some ⟨k,0,none⟩) 0=⟨k,0,none⟩:=rfl;rw[e0]at hv;obtain⟨k',ob,g1,g2,kb,es,clock,seen,c0,since,l,rfl,q2,q3,q4,q5,q6,q7,q8,q9⟩:=hR.ob b _ hob;rw[hk]at g1;obtain rfl:k=k':=by grind
     have hraw:=(hR.st.all _ (List.mem_append_left _ (Ss g2))).2;have hlen:(lP es seen).length=m:=by grind [List.length_map]
     have hsz:(leftOf es seen).toList=lP es seen:=by unfold leftOf lP;simp
     have snd:∀(x:Bool) (vs':List RK) (a':Act) (w':R0) (fr':Fr),aY n w0 Γ0 ρ0 M0 fr' a' w'->a'.tmps[d1]?=some (.tuple (.bool x::vs').toArray)->K (fr'.put e1 (vb x)).oC->wpList P ops Q [⟨some e1,.extract (.tmp d1) 0,ty2,pos2,af2,none⟩] a' w':=by
      intro x vs' a' w' fr' hD ht hK;obtain⟨h1',h2',ρ',M',lst',hM',hE',hR'⟩:=hD;unfold wpList;rw[J2 (by simp[Tt])];refine .inl ?_;have hev:(a'.eval (.tmp d1))=.tuple (.bool x::vs').toArray:=by simp[Act.eval,ht]
      have hrun:(Sk a'.eval ⟨some e1,.extract (.tmp d1) 0,ty2,pos2,af2,none⟩).run P w'=.ok (.value (.bool x)) w':=by simp[Sk,hev,Instr.extract]
      unfold WY;rw[hrun,Vt];unfold wpList;exact hQ _ hK _ _ (aY.oC (aY.put h1' h2' hM' hE' hR' he1 (s:=vb x) (v:=.bool x) ⟨rfl,rfl⟩))
     unfold wpList;rw[J2 (by simp[Tt])];refine .inl ?_;unfold WY;have hev:a.eval (.tmp t1)=.pointer (some ⟨k,0,none⟩):=dN.eval hv;have hat:∀v:RK,(a.put (some d1) v).tmps[d1]?=some v:=λv=>by simp[Act.put,h1,hd1]
     rcases run_next_at (P:=P) w ty1 k kb since c0 seen es clock hraw (hR.st.mem _ _ q2) q5 q4.1 with⟨n0,hrun⟩|⟨e,he,w1,hw1,hrun⟩
     .have m0:m=0:=by rw[<-hlen,<-hsz];simpa using n0
      have hrun':(Sk a.eval ⟨some d1,.next (.tmp t1) false,ty1,pos1,af1,none⟩).run P w=.ok (.value (.tuple #[.bool false])) w:=by simp[Sk,hev,hrun]
      rw[hrun',Vt];exact snd false [] _ _ _ (aY.put h1 h2 hM hE hR hd1 (s:=.t [vb false]) (v:=.tuple #[.bool false]) ⟨[.bool false],rfl,⟨rfl,rfl⟩,trivial⟩) (hat _) (h.1 m0)
     .rw[hsz]at he;obtain⟨i,hi⟩:=List.getElem?_of_mem he;have hil:i<(lP es seen).length:=(List.getElem?_eq_some_iff.1 hi).1;have hrun':(Sk a.eval ⟨some d1,.next (.tmp t1) false,ty1,pos1,af1,none⟩).run P w=.ok (.value (.tuple #[.bool true,e.key,e.val])) (setBlock w1 k (.mapIter (some kb) since (seen.push e.born) clock)):=by simp[Sk,hev,hrun]
      rw[hrun',Vt];have hst1:St w0 M (lst.map Sg++Γ0) w1:=by
       rcases hw1 with rfl|rfl
       .exact hR.st
       .exact hR.st.iW _
      have hli:∃p,l[i]?=some p/\e.key=jI p.1/\e.val=p.2:=by
       have:=J4 (λx=>x[i]?) q6
       grind
      obtain⟨p,hp,hkey,hval⟩:=hli;obtain⟨xs,x1,x2,x3⟩:=q7.get hp;have hR':=hR.cB (o:=.it ag vs (some (el ds (3+vs) i)) (m-1) (mO ds (3+vs) i)) g2 ((hst1.fD (hR.mem g2)).setRaw (o':=.mapIter (some kb) since (seen.push e.born) clock))
       ⟨k,_,hk,RG ..,kb,es,clock,_,clock,since,l.eraseIdx i,rfl,q2,q3,⟨q4.2,q4.2⟩,q5,(by rw[HA q3.1 hi,vN,Hr,Hr,q6]),q7.del Q0,(by grind),λkc hkc=>by
        simp only[RE]at hkc;subst hkc
        exact⟨rfl,e,p.1,xs,(Sp.1 he).1,⟨seen,rfl⟩,hkey,x1,x2,by grind⟩⟩
      exact snd true [e.key,e.val] _ _ _ (aY.put h1 h2 hM hE hR' hd1 (s:=.t [vb true,su,su]) (v:=.tuple #[.bool true,e.key,e.val]) ⟨[.bool true,e.key,e.val],rfl,⟨rfl,rfl⟩,trivial,trivial,trivial⟩) (hat _) (h.2 i Q0)
    .exact h.elim
   .exact h.elim
  .cases hb
 .cases hb
end
section
variable {P:RV} {tb:Tb} {n:Nat} {w0:R0} {Γ0:List As} {fr:Fr} {ρ:Nat->Option RK} {M:Mem} {lst:List (Nat×As)} {a:Act} {w:R0} {fs fo:List Nat} {out:Out} {Q:Exit->Act->R0->Prop}
theorem zx.gM:∀{xs:List R4} {ss:List S},zx a M ρ xs ss->cz M ρ ss (xs.map a.eval)
 |[],[],_=>trivial
 |_::_,_::_,h=>⟨pY h.1,zx.gM h.2⟩
 |[],_::_,h=>h.elim
 |_::_,[],h=>h.elim
theorem cz.app:∀{xs ys:List S} {vs us:List RK},cz M ρ xs vs->cz M ρ ys us->cz M ρ (xs++ys) (vs++us)
 |[],_,[],_,_,k=>k
 |_::_,_,_::_,_,h,k=>⟨h.1,cz.app h.2 k⟩
 |[],_,_::_,_,h,_=>h.elim
 |_::_,_,[],_,h,_=>h.elim
theorem zV.gM:∀{cs:List C} {us:List RK},zV M ρ cs us->cz M ρ (cs.map S.c) us
 |[],[],_=>trivial
 |_::_,_::_,h=>⟨h.1.toCR,zV.gM h.2⟩
 |[],_::_,h=>h.elim
 |_::_,[],h=>h.elim
theorem M6{o:Oper}{f:FuncId}{x:R4}{us:List RK}{args:Array R4}{ts:Array RX}(ho:o.op=.call ⟨.value x,args,ts⟩)(hf:o3 P f=true)(hx:a.eval x=.func (.func f) #[] us.toArray) :
  (Sk a.eval o).run P w=.ok (.enter f (args.toList.map a.eval++us).toArray) w:=by
 have h1:args.map a.eval=(args.toList.map a.eval).toArray:=by rw[<-YW,SY]
 simp only[Sk,ho,resolve,h1,hx,Deferred.ofValue];simp[invoke,Ap hf]
theorem ok_call(h1:a.tmps.size=n)(h2:a.defers=[])(h:Rel w0 Γ0 fr ρ M lst (tv a) w){o:Oper}{d:Nat}(hdst:o.dst=some d)(hd:d<n){c:Call}{x:R4}(ho:o.op=.call c)(hc:c.callee=.value x)(hr:R1 (j3 P) fr (cP x λs=>(match s with
    |.c (.f g cs)=>M7 c.args.toList λxs=>KB P tb (fr.aV+d) g (xs++cs.map S.c)
    |_=>.no)) fs fo out):o.wp P a w (aY n w0 Γ0 ρ M ((fr.bp o.dst out.v).aI out.ob)) Q:=by
 obtain⟨s,fs1,hr,hs⟩:=bI h hr;split at hr
 .rename_i g cs;obtain⟨v,hv,us,rfl,hus⟩:=br hs (by unfold su;simp);obtain⟨ss,fs2,hr,hss⟩:=HY h _ hr;have hvals:=(zx.gM hss).app (zV.gM hus);obtain⟨hfB,hcall⟩:=call_ok h (SH _ _) hvals hr;obtain⟨callee,args,ts⟩:=c;simp only at hc;subst hc;unfold WY;rw[M6 ho hfB hv.eval,Oper.upon_enter];refine hcall.mono ?_;rintro e w' ⟨v,s,ρ',M',lst',rfl,hs,hM,hE,hsv,hR⟩;show aY n w0 Γ0 ρ M _ (a.put o.dst v) w';rw[hdst,hs];show aY n w0 Γ0 ρ M ((fr.put d s).aI out.ob) _ _;rw[kM];exact aY.put h1 h2 hM hE hR hd hsv
 .exact hr.elim
theorem op_ok(hT:me P tb)(h1:a.tmps.size=n)(h2:a.defers=[])(h:Rel w0 Γ0 fr ρ M lst (tv a) w)(o:Oper)(hr:R1 (j3 P) fr (opP P tb fr.aV o) fs fo out)(hfit:CO n o.dst out.v=true):o.wp P a w (aY n w0 Γ0 ρ M ((fr.bp o.dst out.v).aI out.ob)) Q:=by
 obtain⟨dst,op,ty,pos,af,g⟩:=o;unfold opP at hr;cases dst with
 |none =>
  simp only at hr;split at hr
  .exact OT h1 h2 h hr
  .exact Cl h1 h2 h hT hr
  .rename_i c;split at hr
   .rename_i hc;split at hr
    .rename_i x t hx ht;split at hr
     .obtain⟨callee,args,ts⟩:=c;simp only at hc hx ht;subst hc;have e1:args=#[x]:=by rw[<-SY (xs:=args),hx]
      have e2:ts=#[t]:=by rw[<-SY (xs:=ts),ht]
      subst e1 e2;exact O4 h1 h2 h hr
     .exact hr.elim
    .exact hr.elim
   .exact hr.elim
  .exact hr.elim
 |some d =>
  have hd:d<n:=by
   cases hv:out.v with
   |none=>rw[hv]at hfit;cases hfit
   |some v=>rw[hv]at hfit;exact Tz hfit
  simp only at hr;split at hr
  .split at hr
   .exact ok_trim h1 h2 h hd hr
   .exact ok_move h1 h2 h hd hr
  .exact Me h1 h2 h hd hr
  .exact ok_pick h1 h2 h hd hr
  .split at hr
   .split at hr
    .exact OZ hT h1 h2 h hd hr
    .exact JE hT h1 h2 h hd hr
   .exact ok_load h1 h2 h hd hr
  .exact O2 h1 h2 h hd hr
  .exact Md h1 h2 h hd hr
  .split at hr
   .exact O0 hT h1 h2 h hd hr
   .exact OX h1 h2 h hd hr
  .exact O7 h1 h2 h hd hr
  .exact ok_box h1 h2 h hd hr
  .exact O5 h1 h2 h hd hr
  .split at hr
   .exact EG h1 h2 h hd hr
   .exact zN h1 h2 h hd hr
  .split at hr
   .exact OV h1 h2 h hd hr
   .exact ok_binH h1 h2 h hd hT hr
  .exact ok_conv h1 h2 h hd hr
  .split at hr
   .exact Mc h1 h2 h hd hr
   .exact Mb h1 h2 h hd hr
  .exact ok_un h1 h2 h hd hr
  .exact Hi h1 h2 h hd hr
  .exact EF h1 h2 h hd hr
  .rename_i mx;split at hr
   .rename_i hcs;simp only[RP]at hcs;cases mx with
    |none=>exact L8 h1 h2 h hd hr
    |some _=>cases hcs.2
   .split at hr
    .exact OY hT h1 h2 h hd hr
    .exact L9 h1 h2 h hd hr
    .exact OU h1 h2 h hd hr
  .exact Hh h1 h2 h hd hr
  .exact Ma h1 h2 h hT hd hr
  .split at hr
   .exact OW h1 h2 h hT hd hr
   .exact hr.elim
  .exact O3 h1 h2 h hd hr
  .exact ok_make h1 h2 h hd hr
  .split at hr
   .rename_i hf;exact ok_fun h1 h2 h hd hf hr
   .exact hr.elim
  .rename_i c;split at hr
   .rename_i x hc;exact ok_call h1 h2 h rfl hd rfl hc hr
   .rename_i hc;split at hr
    .rename_i x t hx ht;obtain⟨callee,args,ts⟩:=c;simp only at hc hx ht;subst hc;have e1:args=#[x]:=by rw[<-SY (xs:=args),hx]
     have e2:ts=#[t]:=by rw[<-SY (xs:=ts),ht]
     subst e1 e2;exact ok_len h1 h2 h hd hr
    .exact hr.elim
   .rename_i hc;split at hr
    .rename_i x y t t' hx ht;split at hr
     .rename_i htt;have:=RD htt;subst this;obtain⟨callee,args,ts⟩:=c;simp only at hc hx ht;subst hc;have e1:args=#[x,y]:=by rw[<-SY (xs:=args),hx]
      have e2:ts=#[t,t]:=by rw[<-SY (xs:=ts),ht]
      subst e1 e2;split at hr
      .exact Hj h1 h2 h hd hr
      .exact Mf h1 h2 h hd hr
     .exact hr.elim
    .exact hr.elim
   .rename_i hc;split at hr
    .rename_i x y hx;obtain⟨callee,args,ts⟩:=c;simp only at hc hx;subst hc;have e1:args=#[x,y]:=by rw[<-SY (xs:=args),hx]
     subst e1;exact ok_min h1 h2 h hd hr
    .exact hr.elim
   .rename_i hc;split at hr
    .rename_i x y hx;obtain⟨callee,args,ts⟩:=c;simp only at hc hx;subst hc;have e1:args=#[x,y]:=by rw[<-SY (xs:=args),hx]
     subst e1;exact ok_max h1 h2 h hd hr
    .exact hr.elim
   .exact hr.elim
  .exact hr.elim
theorem ef{J:Cx}{h:Option S->List (Nat×O)->bn}:∀{p:bn} {fs fo:List Nat} {out:Out},R1 J fr (p.bind h) fs fo out->∃o1,R1 J fr p fs fo o1/\R1 J fr (h o1.v o1.ob) o1.fs o1.fo out
 |.no,_,_,_,hr=>hr.elim
 |.ret v ob,fs,fo,_,hr=>⟨⟨v,ob,fs,fo⟩,rfl,hr⟩
 |.LF t k,_,_,_,hr=>ef (p:=k (fr.sl t)) hr
 |.lZ b k,_,_,_,hr=>ef (p:=k (fr.ob b)) hr
 |.LG b k,_,_,_,hr=>ef (p:=k (bO (fr.ob b))) hr
 |.i _ k,_,_,_,⟨z,h1,h2⟩=>let⟨o,h3,h4⟩:=ef (p:=k z) h2;⟨o,⟨z,h1,h3⟩,h4⟩
 |.bo _ k,_,_,_,⟨z,h1,h2⟩=>let⟨o,h3,h4⟩:=ef (p:=k z) h2;⟨o,⟨z,h1,h3⟩,h4⟩
 |.st _ k,_,_,_,⟨z,h1,h2⟩=>let⟨o,h3,h4⟩:=ef (p:=k z) h2;⟨o,⟨z,h1,h3⟩,h4⟩
 |.ik _ _ k,_,_,_,⟨z,h1,h2⟩=>let⟨o,h3,h4⟩:=ef (p:=k z) h2;⟨o,⟨z,h1,h3⟩,h4⟩
 |.Gv _ _ k,_,_,_,⟨z,h1,h2⟩=>let⟨o,h3,h4⟩:=ef (p:=k z) h2;⟨o,⟨z,h1,h3⟩,h4⟩
 |.sc _ _ k,_,_,_,⟨n,cs,h1,h2⟩=>let⟨o,h3,h4⟩:=ef (p:=k n cs) h2;⟨o,⟨n,cs,h1,h3⟩,h4⟩
 |.wx _ p _,_,_,_,.inl ⟨h1,h2⟩=>let⟨o,h3,h4⟩:=ef (p:=p) h2;⟨o,.inl ⟨h1,h3⟩,h4⟩
 |.wx _ _ q,_,_,_,.inr ⟨h1,h2⟩=>let⟨o,h3,h4⟩:=ef (p:=q) h2;⟨o,.inr ⟨h1,h3⟩,h4⟩
 |.ck _ _ k,_,_,_,⟨h1,h2⟩=>let⟨o,h3,h4⟩:=ef (p:=k) h2;⟨o,⟨h1,h3⟩,h4⟩
 |.ca _ _ k,_,_,_,⟨r,h1,h2⟩=>let⟨o,h3,h4⟩:=ef (p:=k r) h2;⟨o,⟨r,h1,h3⟩,h4⟩
 |.inl _ _ _ _ k,_,_,_,⟨v,os,h1,h2⟩=>let⟨o,h3,h4⟩:=ef (p:=k v os) h2;⟨o,⟨v,os,h1,h3⟩,h4⟩
theorem IW{J:Cx}{gs:List Nat}{o:Oper}{p:bn}(hr:R1 J fr (Ae gs o p) fs fo out):R1 J fr p fs fo out:=by
 unfold Ae at hr;split at hr
 .split at hr
  .obtain⟨o1,h1,h2⟩:=ef hr;obtain⟨v,ob,fs1,fo1⟩:=o1;unfold tellP at h2;split at h2
   .obtain⟨z,e,h2⟩:=h2;rcases h2 with⟨rfl,h2⟩|⟨rfl,h2⟩
    .have h2:out=⟨some (.c (.d (.v (.bool true)))),ob,fs1,fo1⟩:=h2;rename_i x hv _;have hv:v=some (.c (.d x)):=hv;rw[h2,<-e,<-hv];exact h1
    .have h2:out=⟨some (.c (.d (.v (.bool false)))),ob,fs1,fo1⟩:=h2;rename_i x hv _;have hv:v=some (.c (.d x)):=hv;rw[h2,<-e,<-hv];exact h1
   .have h2:out=⟨v,ob,fs1,fo1⟩:=h2;rw[h2];exact h1
  .exact hr
 .exact hr
theorem aY.mono{M0:Mem}{ρ0:Nat->Option RK}(hM:Sub M0 M)(hE:Ext ρ0 ρ){fr':Fr}{a':Act}{w':R0}(h:aY n w0 Γ0 ρ M fr' a' w'):aY n w0 Γ0 ρ0 M0 fr' a' w':=by obtain⟨h1,h2,ρ',M',lst',h3,h4,h5⟩:=h;exact⟨h1,h2,ρ',M',lst',hM.trans h3,hE.trans h4,h5⟩
theorem OS(hT:me P tb){M0:Mem}{ρ0:Nat->Option RK}(hD:aY n w0 Γ0 ρ0 M0 fr a w){ops:Array Oper}{gs:List Nat}{o:Oper}(hr:R1 (j3 P) fr (nO P tb fr.aV ops gs o) fs fo out)(hfit:CO n o.dst out.v=true) :
  if Tt o (yielded ops a.tmps) then o.wp P a w (aY n w0 Γ0 ρ0 M0 ((fr.bp o.dst out.v).aI out.ob)) Q else aY n w0 Γ0 ρ0 M0 ((fr.bp o.dst out.v).aI out.ob) (a.put o.dst undef) w:=by
 obtain⟨h1,h2,ρ,M,lst,hM,hE,h⟩:=hD;have run:∀{fs:List Nat},R1 (j3 P) fr (Ae gs o (opH P tb fr.aV o)) fs fo out->o.wp P a w (aY n w0 Γ0 ρ0 M0 ((fr.bp o.dst out.v).aI out.ob)) Q:=λhr=>by
  have hr:=IW hr;unfold opH at hr;split at hr
  .obtain⟨o1,hr1,hr2⟩:=ef hr;have hr2:out=⟨_,o1.ob,o1.fs,o1.fo⟩:=hr2;subst hr2;have hfit1:CO n o.dst o1.v=true:=by cases hd:o.dst <;> cases hv:o1.v <;> (rw[hd,hv]at hfit;exact hfit)
   refine Xz (λa' w' hd=>?_) (op_ok hT h1 h2 h o hr1 hfit1);have hd:=aY.mono hM hE hd;obtain⟨v1,ob1,fs1,fo1⟩:=o1;cases v1 with
   |none=>exact hd
   |some s=>exact aY.norm (P:=P) (t:=o.type) (v:=some s) hd
  .exact Xz (λ_ _ hd=>aY.mono hM hE hd) (op_ok hT h1 h2 h o hr hfit)
 have skip:∀{fs:List Nat},R1 (j3 P) fr (.ret (match o.dst with
    |some _=>some (.c .z)
    |none=>none) []) fs fo out->aY n w0 Γ0 ρ0 M0 ((fr.bp o.dst out.v).aI out.ob) (a.put o.dst undef) w:=fun{fs} hr=>by
  have hr:out=⟨_,_,fs,fo⟩:=hr;subst hr;cases hd:o.dst with
  |none=>exact⟨h1,h2,ρ,M,lst,hM,hE,h⟩
  |some d =>
   rw[hd]at hfit;have hdn:d<n:=by simpa[CO,Nat.blt_eq]using hfit
   exact aY.put h1 h2 hM hE h hdn (s:=.c .z) rfl
 unfold nO at hr;split at hr
 .rename_i hg;have hw:Tt o (yielded ops a.tmps)=true:=by unfold Tt;rw[hg]
  rw[J2 hw];exact run hr
 .rename_i j want hg;have hw:Tt o (yielded ops a.tmps)=(yielded ops a.tmps j == some want):=by unfold Tt;rw[hg]
  split at hr
  .exact hr.elim
  .rename_i t ht;change R1 (j3 P) fr (match fr.sl t with|.c .z=>_|s=>_) _ _ _ at hr;rcases h.sl t with hsu|⟨v,hv,hs⟩
   .rw[hsu]at hr;exact hr.elim
   .split at hr
    .rename_i hz;rw[hz]at hs;obtain rfl:v=undef:=hs;have:yielded ops a.tmps j=none:=by unfold yielded;rw[ht];simp only[U6,show a.tmps[t]?=some undef from hv];rfl
     rw[this]at hw;have hw:Tt o (yielded ops a.tmps)=false:=hw;rw[J1 (by rw[hw];simp)];exact skip hr
    .obtain⟨z,e,hr⟩:=uJ hr;rw[e]at hs;have hs:Rd M (.v (.bool z)) v:=hs;simp only[Rd]at hs;obtain rfl:=hs.1;have:yielded ops a.tmps j=some z:=by unfold yielded;rw[ht];simp only[U6,show a.tmps[t]?=some (.bool z) from hv]
     rw[this]at hw;rcases hr with⟨hzw,hr⟩|⟨hzw,hr⟩
     .have hw:Tt o (yielded ops a.tmps)=true:=by rw[hw];simpa using hzw
      rw[J2 hw];exact run hr
     .have hw:Tt o (yielded ops a.tmps)=false:=by rw[hw];simpa using hzw
      rw[J1 (by rw[hw];simp)];exact skip hr
end
end Pm
