/- PmJ, PmK, PmL, PmLh, PmLi, PmM, PmN, PmO, PmP, PmPa, PmQ, PmMa, PmMb, PmR, put together. -/
import Derived.Test.YtmbboaapillefaaGreatDoorPk1
import Derived.Lib.AppendStr
import Derived.Maps.RangeRun
import Derived.Lib.SliceRun
import Derived.Laws.Cover3
import Derived.Lib.AppendZeros
open Array renaming toArray_toList->RJ,toList_map->XW,getElem?_eq_some_iff->RH,size_append->XM,toList_append->UU
open Bool renaming and_eq_true->QA,or_eq_false_iff->UW
open Go renaming Program->QE,World->QL,Value->Qw,TypeId->QH,Operand->QM,execOp->Rc,builtin->Tm,run_underlying->QN,asIntOf->YI,sizeOf->TS,typeInfo->TJ,maxLen->Ti,madeCells->U9,run_storeCells_at->YK,grownCap->To,run_firstCells_some->Yo,run_firstCells_none->Yp,grownCap_le_maxLen->Yy,size_zeroCells->TY,Calls->T8,MapEntry->Su
open Go.Addr renaming add_lit->YL,add->Uz
open Go.Builtin renaming lenOf->SU,firstCells->Sx,append_->RV,nextslicecap->W3,zeroCells->RD,clear_->XY
open Go.Instr renaming index->VC,alloc->YJ,sliceAt->Up,sureAddr->Sv,sliceBounds->RM,slice->S0,storeAt->UR,findAsking->Sn,findKey->S2,findNow->Uw,sameNow->WM,keyThatStays->Xy,sameBits->Wj,mapUpdate->VL,lookup->Ub,checkKey->TT
open Go.MapKept renaming run_getObj_map->Ux,run_setObj_map->WN
open Go.Oper renaming wp_mono->VK,wp->UH,upon_value->T7
open Go.Region renaming wanted->Sg
open Go.Result renaming andThen->TR,andThen_ok->Tr
open Go.Sem renaming run_bind->SD
open Go.Value renaming ownBlock->RN,int->Sa
open Go.Value.slice renaming injEq->Ri
open Iff renaming rfl->S4
open Int renaming eq_ofNat_of_zero_le->UK,toNat_natCast->Rx
open List renaming getElem?_cons_zero->Ru,map_cons->QT,eq_nil_of_length_eq_zero->Rg,getD_eq_getElem?_getD->RX,getElem?_eq_getElem->QQ,length_take->Rf,length_drop->RO,getElem?_take->R8,getElem?_drop->Sp,all_cons->Yx,mem_cons->Qz,mem_cons_of_mem->Qx,nodup_cons->Rw,mem_map->QP,mem_filter->Rq,filter_sublist->Ua,mem_cons_self->Qt,flatten_nil->X6,append_nil->QF,nil_append->Rk,length_flatten->Xw,sum_cons->SN,length_cons->QG,mem_map_of_mem->Rl,sublist_cons_self->Tn,take_of_length_le->Rj,length_append->QC,any_eq_false->Uq,replicate->QY,flatten_cons->TW,map_append->Rb,map_map->R3,replicate_succ->Xx,filterMap_cons->Rh,append_assoc->QU,drop_append->UE,drop_take->UM,drop_zero->RR,take_append->T4,take_take->Ui,take_left->UT,drop_drop->SE,any_cons->Xh,Perm->X5,nodup_append->R7,filter_eq_self->Tj,nodup_nil->Ur,mem_append->QK,flatMap_cons->QD,filter_append_perm->W4,find?_some->Yf,find?_eq_none->XN,mem_singleton->QI,eq_nil_iff_forall_not_mem->VE,drop_succ_cons->RS,drop_eq_nil_of_le->W6,take_succ_cons->RK
open List.Sublist renaming append->U8
open List.cons renaming injEq->SA
open Nat renaming eq_of_beq_eq_true->Qp,mul_le_mul_right->Rz,zero_add->Rn,add_mul->RA,one_mul->Ug,beq->Qy,le_add_right->Rv,add_zero->RY,add_assoc->RW,add_comm->S9,le_mul_of_pos_right->TN,mul_add->UP,mul_one->Td,eq_zero_or_pos->XV,blt->Sq,le_refl->QW,zero_le->Rr,zero_mul->TP,sub_zero->T9,sub_mul->Uv,min_eq_left->RU,pos_of_ne_zero->XX,lt_of_lt_of_le->XZ,ne_of_beq_eq_false->Xi,le_of_ble_eq_true->Sk
open Ne renaming symm->VD
open Option renaming isSome_iff_exists->R0,map_eq_some_iff->R9,bind_some->TV
open Option.some renaming injEq->Qq
open Prod renaming snd->Ra,fst->QZ
open Prod.mk renaming injEq->QR
open UInt8 renaming ofNat->YH
namespace Pm
open Go Xe
section
variable {Is:Cx} {P:QE} {tb:Tb} {n:Nat} {w0:QL} {Γ0:List As} {fr:Fr} {ρ:Nat->Option Qw} {M:Mem} {lst:List (Nat×As)} {a:Act} {w:QL} {fs fo:List Nat} {o:Out} {Q:Exit->Act->QL->Prop} {d:Nat} {ty:QH} {pos:String} {af:Array Edge} {g:Option (Nat×Bool)}
theorem bp{x:QM}{s:S}(hs:s=su\/∃v,eo a x v/\SR M ρ s v)(h:s≠su):∃v,eo a x v/\SR M ρ s v:=hs.resolve_left h
theorem wx.get:∀{l:List S} {vs:List Qw} {i:Nat} {s:S},wx M ρ l vs->l[i]?=some s->∃v,vs[i]?=some v/\SB M ρ s v
 |c::cs,u::us,0,_,h,hc=>by simp only[Ru,Qq]at hc;subst hc;exact⟨u,rfl,h.1⟩
 |_::cs,_::us,i+1,_,h,hc=>by
  obtain⟨u,h1,h2⟩:=wx.get (i:=i) h.2 (by simpa using hc)
  grind
 |[],[],_,_,_,hc=>by simp at hc
 |[],_::_,_,_,h,_=>h.elim
 |_::_,[],_,_,h,_=>h.elim
theorem SB.toSR{s:S}{v:Qw}(h:SB M ρ s v):SR M ρ s v:=by
 cases s with
 |t l=>exact h.elim
 |c _=>exact h
 |a _ _=>exact h
 |g _=>exact h
 |r _ _ _=>exact h
variable (h1:a.tmps.size=n) (h2:a.defers=[]) (h:Rel w0 Γ0 fr ρ M lst (tv a) w) (hd:d<n)
theorem ok_un(h1:a.tmps.size=n)(h2:a.defers=[])(h:Rel w0 Γ0 fr ρ M lst (tv a) w)(hd:d<n){op:UnOp}{x:QM}{t:QH}(hr:R1 Is fr (cK x λa=>unP P op t a) fs fo o):(⟨some d,.unOp op t x,ty,pos,af,g⟩:Oper).wp P a w (aX n w0 Γ0 ρ M ((fr.bl (some d) o.v).aJ o.ob)) Q:=by
 obtain⟨s,fs',hr,hs⟩:=bD h hr;unfold unP at hr;split at hr
 .obtain⟨z,e,hr⟩:=uA hr;exact jc h1 h2 h hd rfl (aR hr) rfl (Y.not (dU hs e).bm)
 .split at hr
  .obtain⟨z,e,hr⟩:=ee hr;exact jc h1 h2 h hd rfl (aR hr.2) rfl (Y.neg (dU hs e).bm hr.1)
  .exact hr.elim
 .split at hr
  .rename_i k hk;obtain⟨z,e,hr⟩:=kR1 hr;refine qK h1 h2 h hd hr ?_;simp only[Rc,(dU hs e).eval];cases hsg:k.signed <;> simp[Op.unary,hsg,intBits_xor]
  .exact hr.elim
 .exact hr.elim
theorem Gu(h1:a.tmps.size=n)(h2:a.defers=[])(h:Rel w0 Γ0 fr ρ M lst (tv a) w)(hd:d<n){x:QM}{i:Nat}(hr:R1 Is fr (cK x λs=>(match s with
   |.t l=>(match l[i]? with
    |some v=>cv v
    |none=>.no)
   |_=>.no)) fs fo o):(⟨some d,.extract x i,ty,pos,af,g⟩:Oper).wp P a w (aX n w0 Γ0 ρ M ((fr.bl (some d) o.v).aJ o.ob)) Q:=by
 obtain⟨s,fs',hr,hs⟩:=bD h hr;split at hr
 .rename_i l;obtain⟨v,hv,vs,rfl,hvs⟩:=bp hs (by unfold su;simp);split at hr
  .rename_i s' hi;obtain rfl:=aR hr;obtain⟨u,h3,h4⟩:=wx.get hvs hi;exact aS h1 h2 h rfl hd rfl rfl h4.toSR (Y.extract hv.bm h3)
  .exact hr.elim
 .exact hr.elim
theorem NT(h1:a.tmps.size=n)(h2:a.defers=[])(h:Rel w0 Γ0 fr ρ M lst (tv a) w)(hd:d<n){x:QM}{t i:Nat}(hr:R1 Is fr (cK x λs=>Hc P t s i) fs fo o):(⟨some d,.fieldAddr t x i,ty,pos,af,g⟩:Oper).wp P a w (aX n w0 Γ0 ρ M ((fr.bl (some d) o.v).aJ o.ob)) Q:=by
 obtain⟨s,fs',hr,hs⟩:=bD h hr;unfold Hc at hr;split at hr
 .exact hr.elim
 .rename_i off ft hf;have hfB:=ET hf;split at hr
  .rename_i m ds q;obtain rfl:=aR hr;obtain⟨v,hv,hl,ad,q',rfl,hseen⟩:=bp hs (by unfold su;simp);exact aS h1 h2 h rfl hd rfl rfl ⟨hl,ad,q',by grind,hseen⟩ (Y.field hv.bm hfB)
  .obtain rfl:=aR hr;obtain⟨v,hv,k,hk,rfl⟩:=bp hs (by unfold su;simp);exact aS h1 h2 h rfl hd rfl rfl ⟨k,hk,rfl⟩ (Y.field hv.bm hfB)
  .obtain rfl:=aR hr;obtain⟨v,hv,ad,m,c,hk,hkm,rfl⟩:=bp hs (by unfold su;simp);exact aS h1 h2 h rfl hd rfl rfl ⟨ad,m,c,hk,hkm,by grind⟩ (Y.field hv.bm hfB)
  .obtain rfl:=aR hr;obtain⟨v,hv,k,hk,rfl⟩:=bp hs (by unfold su;simp);exact aS h1 h2 h rfl hd rfl rfl ⟨k,hk,rfl⟩ (Y.field hv.bm hfB)
  .exact hr.elim
theorem If{ad:Option Addr}{nn c sz:Nat}{cs:List D}(hv:Rd M (.sl nn sz cs) (.slice ad nn c)){k:Nat}(hk:k<nn):(el cs sz k).length=sz/\Qd M ad (k*sz) (el cs sz k)/\ad.isSome=true:=by
 have hv':=hv;simp only[Rd]at hv;obtain⟨ad',c',e,h2,_,h4,h5,h6,h7⟩:=hv;simp only[Ri]at e;obtain⟨rfl,_,rfl⟩:=e;refine⟨Cm h5 hk,λi x hi=>?_,h6 Q0⟩;have hi':cs[k*sz+i]?=some x:=by
  unfold el at hi
  grind
 have:=o5.get cs 0 h7 _ x hi'
 grind
theorem IF:∀(m j:Nat) {z:Int} {k:Nat->bj} {fs fo:List Nat} {o:Out},R1 Is fr (NC m j z k) fs fo o->∃i:Nat,z=i/\R1 Is fr (k i) fs fo o
 |0,_,_,_,_,_,_,h=>h.elim
 |m+1,j,z,k,fs,fo,o,h=>by
  rcases h with⟨h1,h2⟩|⟨_,h2⟩
  .grind
  .exact IF m (j+1) h2
theorem mI{t m e sz:Nat}(h:CH P t=some (m,e,sz)):Ms P t m e sz=true/\0<sz/\m<=1000000:=by
 unfold CH at h;unfold Ms;split at h
 .rename_i m' e' hu;split at h
  .rename_i sz' hs;split at h
   .rename_i hb;simp only[QA]at hb;simp only[Qq,QR]at h;obtain⟨rfl,rfl,rfl⟩:=h
    first|rw[hu,gk hs,hb.2.1]|rw[gk hs,hb.2.1]
    simp_all
   .cases h
  .cases h
 .cases h
theorem JK{x:QM}{s:S}{k:Nat->Nat->bj}(hs:s=su\/∃v,eo a x v/\SR M ρ s v)(hr:R1 Is fr (JL s k) fs fo o):∃b q,R1 Is fr (k b q) fs fo o/\∃v,eo a x v/\∃kk,ρ b=some (ptr kk)/\v=.pointer (some (fT (some ⟨kk,0,none⟩) q)):=by
 unfold JL at hr;split at hr
 .rename_i b q;obtain⟨v,hv,k,hk,rfl⟩:=bp hs (by unfold su;simp)
  grind
 .rename_i b q;obtain⟨v,hv,k,hk,rfl⟩:=bp hs (by unfold su;simp)
  grind
 .exact hr.elim
theorem NP(h1:a.tmps.size=n)(h2:a.defers=[])(h:Rel w0 Γ0 fr ρ M lst (tv a) w)(hd:d<n){x i:QM}{t:Nat}(hr:R1 Is fr (cK x λs=>cK i λz=>GW P t s z) fs fo o):(⟨some d,.indexAddr t x i,ty,pos,af,g⟩:Oper).wp P a w (aX n w0 Γ0 ρ M ((fr.bl (some d) o.v).aJ o.ob)) Q:=by
 obtain⟨s,fs1,hr,hs⟩:=bD h hr;obtain⟨si,fs2,hr,hsi⟩:=bD h hr;unfold GW at hr;split at hr
 .split at hr
  .rename_i m e sz hel;obtain⟨b,q,hr,v,hv,k,hk,rfl⟩:=JK hs hr;obtain⟨z,ez,hr⟩:=ee hr;have hz:=dU hsi ez;obtain⟨hck,hr⟩:=hr;obtain rfl:=aR hr;exact aS h1 h2 h rfl hd rfl rfl ⟨k,hk,rfl⟩ (Y.Ez z.toNat hv.bm hz.bm Q0 Q0 (mI hel).1)
  .exact hr.elim
 .rename_i e sz hel;have hsl:=dA hel;split at hr
  .rename_i y;obtain⟨z,ez,hr⟩:=ee hr;have hz:=dU hsi ez;obtain⟨m,cs,rfl,hck,hr⟩:=hr;obtain rfl:=aR hr;obtain⟨v,hv,hrd⟩:=bp hs (by unfold su;simp);have hrd':Rd M (.sl m sz cs) v:=hrd;obtain⟨ad,c,rfl,_⟩:=hrd'.slice;obtain⟨h3,h4,h5⟩:=If hrd' (k:=z.toNat) Q0;exact aS h1 h2 h rfl hd rfl rfl ⟨h3,ad,z.toNat*sz,by grind,h4⟩ (Y.index z.toNat hv.bm hz.bm Q0 Q0 hsl λ_ _=>h5)
  .rename_i b _;obtain⟨z,ez,hr⟩:=ee hr;have hz:=dU hsi ez;obtain⟨v,hv,hb⟩:=bp hs (by unfold su;simp);have hbv:ρ b=some v:=hb.1;change R1 Is fr (match bI (fr.ob b) with|some (.w _ sz' n _)=>_|some (.s _ _ _)=>_|some (.x _ sz' n _)=>_|some (.v _ sz' n _)=>_|_=>_) _ _ _ at hr;split at hr
   .rename_i e' sz' m _ hob;obtain⟨ds,hob⟩:=Om hob;split at hr
    .rename_i hbe;have e2:=Qp hbe;subst e2;obtain⟨hck,hr⟩:=hr;obtain rfl:=aR hr;obtain⟨ad,c,us,h3,h4,h5,h6,h7,h8,h9⟩:=ph h (sz:=sz') (n:=m) (ds:=ds) (s:=.c (.w b)) hb (.inr (.inr ⟨b,rfl,.inl ⟨e',hob⟩⟩));subst h3;exact aS h1 h2 h rfl hd rfl rfl ⟨ad,m,c,hbv,Q0,by grind⟩ (Y.index z.toNat hv.bm hz.bm Q0 Q0 hsl λ_ _=>h8 Q0)
    .exact hr.elim
   .change R1 Is fr (match fr.ob b with|some (.s sz' n ds)=>_|_=>_) _ _ _ at hr;split at hr
    .rename_i sz' m ds hob;split at hr
     .rename_i hbe;have e2:=Qp hbe;subst e2;obtain⟨hck,hr⟩:=hr;obtain rfl:=aR hr;obtain⟨v',h3,h4⟩:=h.ob b _ hob;rw[hbv]at h3;simp only[Qq]at h3;subst h3;obtain⟨ad,c,rfl,_⟩:=h4.slice;obtain⟨h5,h6,h7⟩:=If h4 (k:=z.toNat) Q0;exact aS h1 h2 h rfl hd rfl rfl ⟨h5,ad,z.toNat*sz',by grind,h6⟩ (Y.index z.toNat hv.bm hz.bm Q0 Q0 hsl λ_ _=>h7)
     .exact hr.elim
    .exact hr.elim
   .rename_i e' sz' m _ hob;obtain⟨ds,hob⟩:=Ol hob;split at hr
    .rename_i hbe;have e2:=Qp hbe;subst e2;obtain⟨hck,hr⟩:=hr;obtain rfl:=aR hr;obtain⟨ad,c,us,h3,h4,h5,h6,h7,h8,h9⟩:=ph h (sz:=sz') (n:=m) (ds:=ds) (s:=.c (.w b)) hb (.inr (.inr ⟨b,rfl,.inr (.inr ⟨e',hob⟩)⟩));subst h3;exact aS h1 h2 h rfl hd rfl rfl ⟨ad,m,c,hbv,Q0,by grind⟩ (Y.index z.toNat hv.bm hz.bm Q0 Q0 hsl λ_ _=>h8 Q0)
    .exact hr.elim
   .rename_i e' sz' m _ hob;obtain⟨cs,hob⟩:=On hob;split at hr
    .rename_i hbe;have e2:=Qp hbe;subst e2;obtain⟨hck,hr⟩:=hr;obtain⟨i',ei,hr⟩:=IF m 0 hr;obtain rfl:=aR hr;obtain⟨ad,c,us,h3,h4,h5,h6,h7⟩:=h.ob b _ hob;rw[hbv]at h3;simp only[Qq]at h3;subst h3;have h8:=(CK h h4).2;exact aS h1 h2 h rfl hd rfl rfl ⟨ad,m,c,hbv,Q0,by grind⟩ (Y.index i' hv.bm hz.bm Q0 Q0 hsl λ_ _=>h8 Q0)
    .exact hr.elim
   .exact hr.elim
  .rename_i b q sz' l m _;obtain⟨z,ez,hr⟩:=ee hr;have hz:=dU hsi ez;obtain⟨v,hv,ad,c,rfl,hmc,hb⟩:=bp hs (by unfold su;simp);split at hr
   .rename_i hbe;have e2:=Qp hbe;subst e2;change R1 Is fr (match fr.ob b with|some (.w _ _ _ _)=>_|some (.x _ _ _ _)=>_|some (.a _ _ _)=>_|some (.b _ _)=>_|_=>_) _ _ _ at hr;have gh:∀k',ρ b=some (ptr k')->0<=z/\z<(m:Int)->∃k,ρ b=some (ptr k)/\ad=some (fT (some ⟨k,0,none⟩) (q+l*sz')):=λk' hk' hck=>by
     grind
    split at hr
    .rename_i e' s2 N' ds' hob;obtain⟨hck,hr⟩:=hr;obtain rfl:=aR hr;rcases hb with⟨k,hk,hb⟩|⟨a',N,C,hk,hq0,hl,hc,hb⟩
     .obtain⟨ad',c',us,h3,_⟩:=h.ob b _ hob;rw[hk]at h3;cases h3
     .have hb:=hb Q0;subst hb;refine aS h1 h2 h rfl hd rfl rfl ⟨a',N,C,hk,Q0,rfl⟩ ?_;have:=Y.index (P:=P) (w0:=w0) (L:=Lf a) (M:=M) (Γ:=lst.map Ra++Γ0) (d:=some d) (ty:=ty) (pos:=pos) (af:=af) (g:=g) z.toNat hv.bm hz.bm Q0 Q0 hsl λ_ _=>rfl;rw[<-lI]at this
      grind
    .rename_i e' s2 N' ds' hob;obtain⟨hck,hr⟩:=hr;obtain rfl:=aR hr;rcases hb with⟨k,hk,hb⟩|⟨a',N,C,hk,hq0,hl,hc,hb⟩
     .obtain⟨ad',c',us,h3,_⟩:=h.ob b _ hob;rw[hk]at h3;cases h3
     .have hb:=hb Q0;subst hb;refine aS h1 h2 h rfl hd rfl rfl ⟨a',N,C,hk,Q0,rfl⟩ ?_;have:=Y.index (P:=P) (w0:=w0) (L:=Lf a) (M:=M) (Γ:=lst.map Ra++Γ0) (d:=some d) (ty:=ty) (pos:=pos) (af:=af) (g:=g) z.toNat hv.bm hz.bm Q0 Q0 hsl λ_ _=>rfl;rw[<-lI]at this
      grind
    .rename_i e' N' ds' hob;obtain⟨hck,hr⟩:=hr;obtain rfl:=aR hr;obtain⟨k',us,h3,_⟩:=h.ob b _ hob;obtain⟨k,hk,rfl⟩:=gh k' h3 hck;refine aS h1 h2 h rfl hd rfl rfl ⟨k,hk,rfl⟩ ?_;have:=Y.index (P:=P) (w0:=w0) (L:=Lf a) (M:=M) (Γ:=lst.map Ra++Γ0) (d:=some d) (ty:=ty) (pos:=pos) (af:=af) (g:=g) z.toNat hv.bm hz.bm Q0 Q0 hsl λ_ _=>rfl;rw[<-lI]at this
     grind
    .rename_i e' cs' hob;obtain⟨hck,hr⟩:=hr;obtain rfl:=aR hr;obtain⟨k',us,h3,_⟩:=h.ob b _ hob;obtain⟨k,hk,rfl⟩:=gh k' h3 hck;refine aS h1 h2 h rfl hd rfl rfl ⟨k,hk,rfl⟩ ?_;have:=Y.index (P:=P) (w0:=w0) (L:=Lf a) (M:=M) (Γ:=lst.map Ra++Γ0) (d:=some d) (ty:=ty) (pos:=pos) (af:=af) (g:=g) z.toNat hv.bm hz.bm Q0 Q0 hsl λ_ _=>rfl;rw[<-lI]at this
     grind
    .exact hr.elim
   .exact hr.elim
  .exact hr.elim
theorem D1(h1:a.tmps.size=n)(h2:a.defers=[])(h:Rel w0 Γ0 fr ρ M lst (tv a) w)(hd:d<n){x:QM}(hr:R1 Is fr (cK x λs=>(match s with
   |.c (.p b o)=>cv (.c (.p b o))
   |.r n ds o=>cv (.r n ds o)
   |.c (.q b sz k j)=>cv (.c (.q b sz k j))
   |.c (.e b i)=>cv (.c (.e b i))
   |_=>.no)) fs fo o):(⟨some d,.nilCheck x,ty,pos,af,g⟩:Oper).wp P a w (aX n w0 Γ0 ρ M ((fr.bl (some d) o.v).aJ o.ob)) Q:=by
 obtain⟨s,fs1,hr,hs⟩:=bD h hr;split at hr
 .obtain rfl:=aR hr;obtain⟨v,hv,k,hk,rfl⟩:=bp hs (by unfold su;simp);exact aS h1 h2 h rfl hd rfl rfl ⟨k,hk,rfl⟩ (Y.nilCheck hv.bm)
 .obtain rfl:=aR hr;obtain⟨v,hv,hl,ad,q',rfl,hseen⟩:=bp hs (by unfold su;simp);exact aS h1 h2 h rfl hd rfl rfl ⟨hl,ad,q',rfl,hseen⟩ (Y.nilCheck hv.bm)
 .obtain rfl:=aR hr;obtain⟨v,hv,ad,m,c,hk,hkm,rfl⟩:=bp hs (by unfold su;simp);exact aS h1 h2 h rfl hd rfl rfl ⟨ad,m,c,hk,hkm,rfl⟩ (Y.nilCheck hv.bm)
 .obtain rfl:=aR hr;obtain⟨v,hv,k,hk,rfl⟩:=bp hs (by unfold su;simp);exact aS h1 h2 h rfl hd rfl rfl ⟨k,hk,rfl⟩ (Y.nilCheck hv.bm)
 .exact hr.elim
theorem ok_len(h1:a.tmps.size=n)(h2:a.defers=[])(h:Rel w0 Γ0 fr ρ M lst (tv a) w)(hd:d<n){x:QM}{t:Nat}(hr:R1 Is fr (cK x λs=>lenP P t s) fs fo o):(⟨some d,.call ⟨.builtin .len,#[x],#[t]⟩,ty,pos,af,g⟩:Oper).wp P a w (aX n w0 Γ0 ρ M ((fr.bl (some d) o.v).aJ o.ob)) Q:=by
 obtain⟨s,fs1,hr,hs⟩:=bD h hr;unfold lenP at hr;split at hr
 .rename_i e hu;split at hr
  .rename_i e' sz hel;have old:∀fo,R1 Is fr (Kh sz s λn _=>mY (n:Int)) fs1 fo o->(⟨some d,.call ⟨.builtin .len,#[x],#[t]⟩,ty,pos,af,g⟩:Oper).wp P a w (aX n w0 Γ0 ρ M ((fr.bl (some d) o.v).aJ o.ob)) Q:=λfo hr=>by
    obtain⟨m,ds,fo',hr,hk⟩:=F1 h hr;have hne:s≠su:=by rcases hk with rfl|⟨rfl,_⟩|⟨b,rfl,_⟩ <;> (unfold su;simp)
    obtain⟨v,hv,hs⟩:=bp hs hne;obtain⟨ad,c,us,rfl,_⟩:=ph h hs hk;exact jc h1 h2 h hd rfl (aR hr) rfl (Y.len hv.bm hu)
   split at hr
   .rename_i b;change R1 Is fr (match bI (fr.ob b) with|some (.v _ sz' n _)=>_|some (.w _ sz' n _)=>_|some (.s sz' n _)=>_|some (.x _ sz' n _)=>_|_=>_) _ _ _ at hr;have row:∀{fo} {m:Nat} {ds:List D},R1 Is fr (mY (m:Int)) fs1 fo o->((∃e,fr.ob b=some (.w e sz m ds))\/fr.ob b=some (.s sz m ds)\/∃e,fr.ob b=some (.x e sz m ds))->(⟨some d,.call ⟨.builtin .len,#[x],#[t]⟩,ty,pos,af,g⟩:Oper).wp P a w (aX n w0 Γ0 ρ M ((fr.bl (some d) o.v).aJ o.ob)) Q:=fun{_ _ _} hr hk=>by obtain⟨v,hv,hs⟩:=bp hs (by unfold su;simp);obtain⟨ad,c,us,rfl,_⟩:=ph h hs (.inr (.inr ⟨b,rfl,hk⟩));exact jc h1 h2 h hd rfl (aR hr) rfl (Y.len hv.bm hu)
    split at hr
    .rename_i e2 sz' m _ hob;obtain⟨cs,hob⟩:=On hob;split at hr
     .obtain⟨v,hv,hb⟩:=bp hs (by unfold su;simp);obtain⟨ad,c,us,h3,_⟩:=h.ob b _ hob;have h4:ρ b=some v:=hb.1;rw[h3]at h4;simp only[Qq]at h4;subst h4;exact jc h1 h2 h hd rfl (aR hr) rfl (Y.len hv.bm hu)
     .exact hr.elim
    .rename_i e2 sz' m _ hob;obtain⟨ds,hob⟩:=Om hob;split at hr
     .rename_i hbe;have e3:=Qp hbe;subst e3;exact row hr (.inl ⟨_,hob⟩)
     .exact hr.elim
    .rename_i sz' m _ hob;obtain⟨ds,hob⟩:=meta_s hob;split at hr
     .rename_i hbe;have e3:=Qp hbe
      grind
     .exact hr.elim
    .rename_i e2 sz' m _ hob;obtain⟨ds,hob⟩:=Ol hob;split at hr
     .rename_i hbe;have e3:=Qp hbe;subst e3;exact row hr (.inr (.inr ⟨_,hob⟩))
     .exact hr.elim
    .exact hr.elim
   .split at hr
    .obtain⟨v,hv,ad,c,rfl,_⟩:=bp hs (by unfold su;simp);exact jc h1 h2 h hd rfl (aR hr) rfl (Y.len hv.bm hu)
    .exact hr.elim
   .exact old _ hr
  .exact hr.elim
 .rename_i hu;obtain⟨z,e,hr⟩:=mS hr;exact jc h1 h2 h hd rfl (aR hr) rfl (λn ac w ha _=>by simp[Rc,resolve,invoke,Tm,Builtin.len_,ha.ev (dU hs e).bm,QN hu,goInt])
 .exact hr.elim
theorem yf:∀(zs:List Int) (r:ByteArray),zs.foldl (λr n=>r.push (YH n.toNat)) r=⟨r.data++(zs.map λz=>YH z.toNat).toArray⟩
 |[],r=>by simp
 |z::zs,r=>by rw[List.foldl_cons,yf zs,QT];simp_all
theorem ok_conv(h1:a.tmps.size=n)(h2:a.defers=[])(h:Rel w0 Γ0 fr ρ M lst (tv a) w)(hd:d<n){s t:QH}{x:QM}(hr:R1 Is fr (cK x λa=>PE P s t a) fs fo o):(⟨some d,.convert s t x,ty,pos,af,g⟩:Oper).wp P a w (aX n w0 Γ0 ρ M ((fr.bl (some d) o.v).aJ o.ob)) Q:=by
 obtain⟨sx,fs1,hr,hs⟩:=bD h hr;unfold PE at hr;split at hr
 .rename_i k k' hk hk';obtain⟨z,e1,hr⟩:=kR1 hr;exact qK h1 h2 h hd hr (by simp[Rc,(dU hs e1).eval,Go.convert,QN (nr hk),QN (nr hk'),Conv.intToInt])
 .split at hr
  .rename_i ht;split at hr
   .rename_i e hsl;split at hr
    .rename_i he;obtain⟨m,ds,fo',hr,hk⟩:=F1 h hr;obtain⟨zs,hb,hr⟩:=hr;have hne:sx≠su:=by rcases hk with rfl|⟨rfl,_⟩|⟨b,rfl,_⟩ <;> (unfold su;simp)
     obtain⟨v,hv,hs⟩:=bp hs hne;obtain⟨ad,c,us,rfl,hc,hrd,hlen,hlim,hpos,hcell⟩:=ph h hs hk;obtain rfl:=jF hb;have hus:=pR hrd;obtain rfl:=aR hr;refine ba h1 h2 rfl hd rfl (Sub.refl M) (Ext.refl ρ) h (v:=.string (strB zs)) (show Rd M (.v _) _ by unfold Rd;exact⟨rfl,rfl⟩) ?_;have r1:=run_convert_bytes_string (P:=P) w s t e ad m c hsl (nr he) ht;cases ad with
     |none =>
      have hm:m=0:=by
       grind
      have hz:zs=[]:=Rg (by grind);subst hz;simp only[Rc,hv.eval];simp only[SD,r1];simp[Conv.bytesToString,TR];rfl
     |some ad =>
      have hl:us.length=m:=Q0
      have r3:=run_loadCells_list (P:=P) w ad us (λj v hj=>by
       have:=hcell j v hj w h.st
       rwa [show fT (some ad) j=ad.add j from rfl]at this)
      rw[hl,hus]at r3;have r2:=run_bytesToString (P:=P) w ad m c zs r3;simp only[Rc,hv.eval];simp only[SD,r1,r2,TR];rw[yf];simp[strB]
    .exact hr.elim
   .rename_i hsl;obtain⟨z,e1,hr⟩:=mS hr;obtain rfl:=aR hr;exact ba h1 h2 rfl hd rfl (Sub.refl M) (Ext.refl ρ) h (v:=.string z) (show Rd M (.v _) _ by unfold Rd;exact⟨rfl,rfl⟩) (by simp[Rc,(dU hs e1).eval,Go.convert,QN hsl,QN ht])
   .exact hr.elim
  .exact hr.elim
theorem KW{t:QH}(h:oneB P t=true):Mw P t=some 1:=by
 unfold oneB at h;split at h
 all_goals simp_all
theorem yD{s:ByteArray}{i:Nat}(h:i<s.size):∃b:UInt8,s[i]?=some b/\Cv s i=(b.toNat:Int):=by
 refine⟨s[i],by simp[h],?_⟩;unfold Cv;have h':i<s.data.toList.length:=by simpa using h
 rw[RX,QQ h'];rfl
theorem E2(L:Lm)(v:Nat):bm L (.global v)=some (.pointer (some (fT (some ⟨v,0,none⟩) 0))):=by rw[cx];rfl
theorem NS(hT:lS P tb)(h1:a.tmps.size=n)(h2:a.defers=[])(h:Rel w0 Γ0 fr ρ M lst (tv a) w)(hd:d<n){t v:Nat}{i:QM}(hr:R1 Is fr (cK i λz=>G6 P tb v t z) fs fo o):(⟨some d,.indexAddr t (.global v) i,ty,pos,af,g⟩:Oper).wp P a w (aX n w0 Γ0 ρ M ((fr.bl (some d) o.v).aJ o.ob)) Q:=by
 obtain⟨si,fs1,hr,hsi⟩:=bD h hr;unfold G6 at hr;split at hr
 .rename_i ds m e sz hg hel;split at hr
  .rename_i hlen;obtain⟨z,ez,hr⟩:=ee hr;have hz:=dU hsi ez;obtain⟨hck,hr⟩:=hr;obtain rfl:=aR hr;obtain⟨us,h3,h4⟩:=hT.gl v ds hg M h.gr;have hl:=Qp hlen;have hzs:z.toNat*sz+sz<=m*sz:=by
    have:(z.toNat+1)*sz<=m*sz:=Rz _ Q0
    grind
   refine aS h1 h2 h rfl hd rfl rfl (v:=.pointer (some (fT (some ⟨v,0,none⟩) (0+z.toNat*sz)))) ⟨by unfold el;rw[Rf,RO];omega,some ⟨v,0,none⟩,0+z.toNat*sz,rfl,λj x hj=>?_⟩ (Y.Ez z.toNat (E2 _ _) hz.bm Q0 Q0 (mI hel).1);have hj':ds[z.toNat*sz+j]?=some x:=by
    unfold el at hj
    grind
   obtain⟨u,hu1,hu2⟩:=bz.get h3 hj';exact⟨u,by rw[Rn];exact h4 _ u hu1,hu2⟩
  .exact hr.elim
 .exact hr.elim
theorem Bf{t m:Nat}(h:FC P t m=true):mf P t m=true:=by unfold FC at h;simp only[QA]at h;exact h.2
theorem pk{w:QL}{t m o:Nat}{us:List Qw}(h:FC P t m=true):(part t us.toArray o).run P w=.ok (.agg ((us.drop o).take m).toArray) w:=by have h1:(isAgg t).run P w=.ok true w:=(DE h).1;unfold part;simp only[SD,h1,TR,if_true,gW (Bf h)];simp_all
theorem oM(h1:a.tmps.size=n)(h2:a.defers=[])(h:Rel w0 Γ0 fr ρ M lst (tv a) w)(hd:d<n){t:QH}{x i:QM}{sx si:S}(hs:sx=su\/∃v,eo a x v/\SR M ρ sx v)(hsi:si=su\/∃v,eo a i v/\SR M ρ si v)(hr:R1 Is fr (pB P t sx si) fs fo o) :
  (⟨some d,.index t x i,ty,pos,af,g⟩:Oper).wp P a w (aX n w0 Γ0 ρ M ((fr.bl (some d) o.v).aJ o.ob)) Q:=by
 unfold pB at hr;split at hr
 .rename_i hu;obtain⟨b,e1,hr⟩:=mS hr;obtain⟨z,e2,hr⟩:=ee hr;obtain⟨⟨hz0,hz1⟩,hr⟩:=hr;obtain⟨c,hc,hb⟩:=yD (s:=b) (i:=z.toNat) Q0;rw[hb]at hr;exact qK h1 h2 h hd hr (by simp[Rc,(dU hs e1).eval,(dU hsi e2).eval,VC,YI,QN hu,hz0,hc])
 .rename_i m e hu;split at hr
  .rename_i m' ds;split at hr
   .rename_i hb;simp only[QA]at hb;have em:=Qp hb.1.1;subst em;obtain⟨z,e2,hr⟩:=ee hr;obtain⟨⟨hz0,hz1⟩,hr⟩:=hr;obtain⟨v,hv,hl,us,rfl,hrd⟩:=bp hs (by unfold su;simp);obtain rfl:=aR hr;obtain⟨u,hu1,hu2⟩:=bz.get hrd (th (ds:=ds) (i:=z.toNat) Q0);refine ba h1 h2 rfl hd rfl (Sub.refl M) (Ext.refl ρ) h (v:=u) hu2 ?_;have hp:(part e us.toArray z.toNat).run P w=.ok u w:=by unfold part;simp only[SD,w9 hb.1.2,TR];simp[hu1]
    simp[Rc,hv.eval,(dU hsi e2).eval,VC,YI,QN hu,hz0,hz1,gW (gk (KW hb.2)),hp]
   .exact hr.elim
  .exact hr.elim
 .exact hr.elim
theorem K0(h1:a.tmps.size=n)(h2:a.defers=[])(h:Rel w0 Γ0 fr ρ M lst (tv a) w)(hd:d<n){t:QH}{x i:QM}(hr:R1 Is fr (cK x λa=>cK i λz=>pB P t a z) fs fo o):(⟨some d,.index t x i,ty,pos,af,g⟩:Oper).wp P a w (aX n w0 Γ0 ρ M ((fr.bl (some d) o.v).aJ o.ob)) Q:=by obtain⟨sx,fs1,hr1,hs⟩:=bD h hr;obtain⟨si,fs2,hr2,hsi⟩:=bD h hr1;exact oM h1 h2 h hd hs hsi hr2
theorem La(h1:a.tmps.size=n)(h2:a.defers=[])(h:Rel w0 Γ0 fr ρ M lst (tv a) w)(hd:d<n){t:QH}{x i:QM}(hr:R1 Is fr (cK x λa=>cK i λz=>Cc P t a z) fs fo o):(⟨some d,.index t x i,ty,pos,af,g⟩:Oper).wp P a w (aX n w0 Γ0 ρ M ((fr.bl (some d) o.v).aJ o.ob)) Q:=by
 obtain⟨sx,fs1,hr1,hs⟩:=bD h hr;obtain⟨si,fs2,hr2,hsi⟩:=bD h hr1;unfold Cc at hr2;split at hr2
 .rename_i kd z hu;obtain⟨b,e1,hr2⟩:=mS hr2;obtain⟨⟨hz0,hz1⟩,hr2⟩:=hr2;obtain⟨c,hc,hb⟩:=yD (s:=b) (i:=z.toNat) Q0;rw[hb]at hr2;exact qK h1 h2 h hd hr2 (by simp[Rc,(dU hs e1).eval,(dU hsi rfl).eval,VC,YI,QN hu,hz0,hc])
 .rename_i n' e z hu;split at hr2
  .rename_i sz m ds hf hg;split at hr2
   .rename_i hb;have e1:=Qp hb;obtain⟨⟨hz0,hz1⟩,hr2⟩:=hr2;obtain rfl:=aR hr2;obtain⟨v,hv,hl,us,rfl,hrd⟩:=bp hs (by unfold su;simp);have hle:(z.toNat+1)*sz<=n'*sz:=Rz _ Q0;rw[RA,Ug]at hle;have vz:us.length=n'*sz:=by rw[hrd.1,hl,e1]
    have hp:=pk (P:=P) (w:=w) (us:=us) (o:=z.toNat*sz) (ij hg);refine ba h1 h2 rfl hd rfl (Sub.refl M) (Ext.refl ρ) h (v:=.agg ((us.drop (z.toNat*sz)).take sz).toArray) ⟨by unfold sub;simp[Rf,RO,hl,e1];omega,_,rfl,?_⟩ ?_
    .refine⟨by unfold sub;simp[Rf,RO,hrd.1],λk d u hd1 hu1=>?_⟩;unfold sub at hd1;rw[R8]at hd1 hu1;split at hd1
     .rename_i hk;rw[J2 hk,Sp]at hu1;rw[Sp]at hd1;exact hrd.2 _ d u hd1 hu1
     .cases hd1
    .simp[Rc,hv.eval,(dU hsi rfl).eval,VC,YI,QN hu,hz0,hz1,gW (Bf (ij hg)),hp]
   .exact hr2.elim
  .exact oM h1 h2 h hd hs hsi hr2
 .exact oM h1 h2 h hd hs hsi hr2
theorem ok_min(h1:a.tmps.size=n)(h2:a.defers=[])(h:Rel w0 Γ0 fr ρ M lst (tv a) w)(hd:d<n){x y:QM}{ts:Array QH}(hr:R1 Is fr (cK x λa=>cK y λb=>vV false a b) fs fo o):(⟨some d,.call ⟨.builtin .min,#[x,y],ts⟩,ty,pos,af,g⟩:Oper).wp P a w (aX n w0 Γ0 ρ M ((fr.bl (some d) o.v).aJ o.ob)) Q:=by obtain⟨s,fs1,hr,hs⟩:=bD h hr;obtain⟨s',fs2,hr,hs'⟩:=bD h hr;obtain⟨p,e1,hr⟩:=ee hr;obtain⟨q,e2,hr⟩:=ee hr;exact jc h1 h2 h hd rfl (aR hr) rfl (Y.min2 (dU hs e1).bm (dU hs' e2).bm)
theorem ok_max(h1:a.tmps.size=n)(h2:a.defers=[])(h:Rel w0 Γ0 fr ρ M lst (tv a) w)(hd:d<n){x y:QM}{ts:Array QH}(hr:R1 Is fr (cK x λa=>cK y λb=>vV true a b) fs fo o):(⟨some d,.call ⟨.builtin .max,#[x,y],ts⟩,ty,pos,af,g⟩:Oper).wp P a w (aX n w0 Γ0 ρ M ((fr.bl (some d) o.v).aJ o.ob)) Q:=by obtain⟨s,fs1,hr,hs⟩:=bD h hr;obtain⟨s',fs2,hr,hs'⟩:=bD h hr;obtain⟨p,e1,hr⟩:=ee hr;obtain⟨q,e2,hr⟩:=ee hr;exact jc h1 h2 h hd rfl (aR hr) rfl (Y.max2 (dU hs e1).bm (dU hs' e2).bm)
def yV(a:Act)(M:Mem)(ρ:Nat->Option Qw):List QM->List S->Prop
 |[],[]=>True
 |x::xs,s::ss=>(s=su\/∃v,eo a x v/\SR M ρ s v)/\yV a M ρ xs ss
 |_,_=>False
theorem He(h:Rel w0 Γ0 fr ρ M lst (tv a) w):∀(xs:List QM) {k:List S->bj} {fs fo:List Nat} {o:Out},R1 Is fr (L9 xs k) fs fo o->∃ss fs',R1 Is fr (k ss) fs' fo o/\yV a M ρ xs ss
 |[],k,fs,fo,o,hr=>⟨[],fs,hr,trivial⟩
 |x::xs,k,fs,fo,o,hr=>by obtain⟨s,fs1,hr,hs⟩:=bD h hr;obtain⟨ss,fs2,hr,hss⟩:=He h xs hr;exact⟨s::ss,fs2,hr,hs,hss⟩
theorem PN:∀{xs:List QM} {ss:List S} {cs:List C},yV a M ρ xs ss->Fk ss=some cs->∃us,E0 (Lf a) xs=some us/\zr M ρ cs us
 |[],[],cs,_,hc=>by simp only[Fk,Qq]at hc;subst hc;exact⟨[],rfl,trivial⟩
 |x::xs,s::ss,cs,he,hc=>by
  have key:∀c,s=.c c->(∀v,SR M ρ s v->CB M ρ c v)->Ae c=true->(∃cs',Fk ss=some cs'/\cs=c::cs')->∃us,E0 (Lf a) (x::xs)=some us/\zr M ρ cs us:=by
   rintro c rfl hcb hok ⟨cs',h3,rfl⟩;obtain⟨us,h4,h5⟩:=PN he.2 h3
   obtain⟨v,hv,hs⟩:=bp he.1 (by
    intro e;unfold su at e;simp only[S.c.injEq]at e;subst e
    simp[Ae]at hok)
   exact⟨v::us,by simp[Xe.E0,hv.bm,h4],hcb v hs,h5⟩
  cases s with
  |c c =>
   cases c with
   |f g cs=>simp[Fk]at hc
   |_ =>
    simp only[Fk]at hc;split at hc
    .rename_i cs' hok hcs;simp only[Qq]at hc;exact key _ rfl (λv hv=>hv) hok ⟨cs',hcs,hc.symm⟩
    .cases hc
  |_=>simp[Fk]at hc
 |[],_::_,_,he,_=>he.elim
 |_::_,[],_,he,_=>he.elim
theorem ok_fun(h1:a.tmps.size=n)(h2:a.defers=[])(h:Rel w0 Γ0 fr ρ M lst (tv a) w)(hd:d<n){f:FuncId}{cs:Array QM}{first:Array QM}(hf:first.toList=[])(hr:R1 Is fr (L9 cs.toList λxs=>funP f xs) fs fo o):(⟨some d,.makeFunc (.func f) first cs,ty,pos,af,g⟩:Oper).wp P a w (aX n w0 Γ0 ρ M ((fr.bl (some d) o.v).aJ o.ob)) Q:=by
 obtain⟨ss,fs1,hr,hss⟩:=He h _ hr;unfold funP at hr;split at hr
 .rename_i cs' hc;obtain rfl:=aR hr;obtain⟨us,h3,h4⟩:=PN hss hc;have:=Y.makeFunc (P:=P) (w0:=w0) (L:=Lf a) (M:=M) (Γ:=lst.map Ra++Γ0) (d:=some d) (ty:=ty) (pos:=pos) (af:=af) (g:=g) (f:=f) (first:=[]) (cap:=cs.toList) (vs:=[]) (us:=us) rfl h3;rw[show([]:List QM).toArray=first by grind,RJ]at this;exact aS h1 h2 h rfl hd rfl rfl ⟨us,rfl,h4⟩ this
 .exact hr.elim
theorem CR.one{c:C}{v:Qw}(h:CR M ρ c v)(hc:Ae c=true):v.oneCell'=true:=by
 cases c with
 |d x=>exact Rd.one (show Rd M x v from h)
 |n=>obtain rfl:v=.slice none 0 0:=h;rfl
 |l _=>obtain rfl:v=.slice none 0 0:=h;rfl
 |p b o=>obtain⟨k,_,rfl⟩:=h;rfl
 |q b sz k j=>obtain⟨_,_,_,_,_,rfl⟩:=h;rfl
 |w b=>obtain⟨_,_,_,_,rfl⟩:=h;rfl
 |m b=>obtain⟨k,_,rfl⟩:=h;rfl
 |f g cs=>obtain⟨us,rfl,_⟩:=h;rfl
 |z=>simp[Ae]at hc
 |u=>simp[Ae]at hc
 |e b i=>obtain⟨k,_,rfl⟩:=h;rfl
 |y b q sz l n=>obtain⟨_,_,rfl,_⟩:=h;rfl
 |k g=>obtain⟨⟨_,rfl⟩,_⟩:=h;rfl
theorem dr.one:∀{cs:List C} {us:List Qw},dr M ρ cs us->cs.all Ae=true->∀u∈us,u.oneCell'=true
 |[],[],_,_,u,hu=>by simp at hu
 |c::cs,v::us,h,hc,u,hu=>by
  simp only[Yx,QA]at hc;rcases Qz.1 hu with rfl|hu
  .exact CR.one h.1 hc.1
  .exact dr.one h.2 hc.2 u hu
 |[],_::_,h,_,_,_=>h.elim
 |_::_,[],h,_,_,_=>h.elim
theorem P6(ds:List D):(ds.map C.d).all Ae=true:=by simp[Ae]
theorem mG{s:S}{cs:List C}{v:Qw}(hc:gQ s=some cs)(hs:SR M ρ s v):∃us,v.cells=us.toArray/\fI v=us/\dr M ρ cs us/\cs.all Ae=true:=by
 unfold gQ at hc;split at hc
 .rename_i c;split at hc
  .rename_i hok;simp only[Qq]at hc;subst hc;have h1:=CR.one hs hok;have e:=AW h1;have e2:fI v=[v]:=by
    have:=lD v
    grind
   exact⟨[v],e,e2,⟨hs,trivial⟩,by simp[hok]⟩
  .cases hc
 .rename_i m ds;simp only[Qq]at hc;subst hc;obtain⟨hl,us,rfl,hr⟩:=hs;rw[te hl];exact⟨us,rfl,by simp[fI],dr.data hr,P6 ds⟩
 .rename_i cs';split at hc
  .rename_i hall;simp only[Qq]at hc;subst hc;obtain⟨us,rfl,hr⟩:=hs;exact⟨us,rfl,by simp[fI],hr,hall⟩
  .cases hc
 .cases hc
theorem vN{cs vs:List C}{us xs:List Qw}{o:Nat}(h:dr M ρ cs us)(k:dr M ρ vs xs):dr M ρ (Bw cs o vs) (dY us o xs):=by unfold Bw dY;rw[<-dr.len k];exact((dr.take o h).app k).app (dr.drop _ h)
theorem DS(h:Rel w0 Γ0 fr ρ M lst (tv a) w){t:Nat}{pl:List (Nat×Nat)}:∀(ps:List (Nat×QM)) {cs:List C} {us:List Qw} {k:List C->bj} {fs fo:List Nat} {o:Out},R1 Is fr (BK P t pl ps cs k) fs fo o->dr M ρ cs us ->
  ∃cs' out vs fs',R1 Is fr (k cs') fs' fo o/\BO (Lf a) ps=some vs/\jI (pl[·]?) us (vs.map λp=>(p.1,fI p.2))=some out/\dr M ρ cs' out
 |[],cs,us,k,fs,fo,o,hr,hc=>⟨cs,us,[],fs,hr,rfl,rfl,hc⟩
 |(i,x)::ps,cs,us,k,fs,fo,o,hr,hc=>by
  unfold BK at hr;split at hr
  .rename_i off m ft hpl hft;obtain⟨s,fs1,hr,hs⟩:=bD h hr;split at hr
   .rename_i vs hvs;split at hr
    .rename_i hb;simp only[QA]at hb;have e1:=Qp hb.1;have e2:off+m<=cs.length:=by simp_all
     have hne:s≠su:=by rintro rfl;simp[fU,su,gQ,Ae]at hvs
     obtain⟨v,hv,hs⟩:=bp hs hne;obtain⟨xs,h3,h4,h5,_⟩:=mG hvs (dt hs);obtain⟨cs',out,vs',fs2,hr,h6,h7,h8⟩:=DS h ps hr (vN (o:=off) hc h5);refine⟨cs',out,(i,v)::vs',fs2,hr,by simp[BO,hv.bm,h6],?_,h8⟩;simp only[QT,jI,hpl];rw[h4,J2 ⟨by rw[dr.len h5,e1],by rw[dr.len hc];exact e2⟩];exact h7
    .exact hr.elim
   .exact hr.elim
  .exact hr.elim
theorem zC_ok{t:QH}{v:Qw}{x:C}(hz:zC P t v=some x):CR M ρ x v:=by
 unfold zC at hz;split at hz
 .simp only[Qq]at hz;subst hz;exact rfl
 .split at hz
  .rename_i hone;simp only[Qq]at hz;subst hz;show Rd M (.v _) _;unfold Rd;exact⟨rfl,hone⟩
  .cases hz
theorem CS:∀{ts:List QH} {vs:List Qw} {cs:List C},wz P ts vs=some cs->dr M ρ cs vs
 |[],[],cs,hz=>by simp only[wz,Qq]at hz;subst hz;exact trivial
 |t::ts,v::vs,cs,hz=>by
  unfold wz at hz;split at hz
  .rename_i x ds' h3 h4;simp only[Qq]at hz;subst hz;exact⟨zC_ok h3,CS h4⟩
  .cases hz
 |[],_::_,_,hz=>by simp[wz]at hz
 |_::_,[],_,hz=>by simp[wz]at hz
theorem fN{t:QH}{cs:List C}(hz:ir P t=some cs):∃v,jV P t=some v/\dr M ρ cs v.cells.toList:=by
 unfold ir at hz;split at hz
 .rename_i v hv;exact⟨v,hv,CS hz⟩
 .cases hz
theorem nT:∀{cs:List C} {vs:List Qw} {ds:List D},dr M ρ cs vs->vE cs=some ds->bz M ds vs
 |[],[],ds,_,hz=>by simp only[vE,Qq]at hz;subst hz;exact bz.nil _
 |.d x::cs,v::vs,ds,h,hz=>by
  simp only[vE]at hz;split at hz
  .rename_i ds' h4;simp only[Qq]at hz;subst hz;exact bz.cons h.1 (nT h.2 h4)
  .cases hz
 |.l sz::cs,v::vs,ds,h,hz=>by
  simp only[vE]at hz;split at hz
  .rename_i ds' h4;simp only[Qq]at hz;subst hz;obtain rfl:v=.slice none 0 0:=h.1;exact bz.cons Rd.sf (nT h.2 h4)
  .cases hz
 |[],_::_,_,h,_=>h.elim
 |.d _::_,[],_,h,_=>h.elim
 |.l _::_,[],_,h,_=>h.elim
 |.n::_,_,_,_,hz=>by simp[vE]at hz
 |.p _ _::_,_,_,_,hz=>by simp[vE]at hz
 |.q _ _ _ _::_,_,_,_,hz=>by simp[vE]at hz
 |.w _::_,_,_,_,hz=>by simp[vE]at hz
 |.m _::_,_,_,_,hz=>by simp[vE]at hz
 |.f _ _::_,_,_,_,hz=>by simp[vE]at hz
 |.z::_,_,_,_,hz=>by simp[vE]at hz
 |.u::_,_,_,_,hz=>by simp[vE]at hz
 |.e _ _::_,_,_,_,hz=>by simp[vE]at hz
 |.y _ _ _ _ _::_,_,_,_,hz=>by simp[vE]at hz
theorem yn{p q:Nat->Option (Nat×Nat)}(hpq:∀i x,p i=some x->q i=some x):∀(vs:List (Nat×List Qw)) (zs out:List Qw),jI p zs vs=some out->jI q zs vs=some out
 |[],_,_,h=>h
 |(i,v)::vs,zs,out,h=>by
  unfold jI at h ⊢;cases hp:p i with
  |none=>simp[hp]at h
  |some x =>
   rw[hp]at h;rw[hpq i x hp];revert h;dsimp only;split
   .exact λh=>yn hpq vs _ _ h
   .exact λh=>h
theorem buildA{t e n sz:Nat}{parts:List (Nat×QM)}{vs:List (Nat×Qw)}{zs:List Qw}{L:Lm}{Γ:List As}{d:Option Nat}(out:List Qw)(hp:BO L parts=some vs)(hz:jV P t=some (.agg zs.toArray))(hu:P.underlying t=some (.array n e))(hs:Mw P e=some sz)
  (hf:jI (λi=>some (i*sz,sz)) zs (vs.map λp=>(p.1,fI p.2))=some out):Yq P w0 L M Γ ⟨d,.build t parts.toArray,ty,pos,af,g⟩ (.agg out.toArray):=λn a w ha _=>by
 have hsz:(TS e).run P w=.ok sz w:=by
  unfold Mw at hs;cases hi:P.info? e with
  |none=>simp[hi]at hs
  |some i =>
   rw[hi]at hs;obtain rfl:i.size=sz:=by grind
   simp[TS,TJ,hi]
 have h2:=sS (λi=>some (i*sz,sz)) vs zs out hf;have h3:(parts.toArray.map λx=>(x.1,a.eval x.2))=vs.toArray:=by rw[List.map_toArray,ha.BO hp]
 simp only[Rc,h3];simp only[Instr.build,SD,iZ hz,Tr,QN hu,Value.cells,hsz,h2,Sem.run_pure]
theorem NW(h1:a.tmps.size=n)(h2:a.defers=[])(h:Rel w0 Γ0 fr ρ M lst (tv a) w)(hd:d<n){t:Nat}{ps:Array (Nat×QM)}(hr:R1 Is fr (Hs P t ps.toList) fs fo o):(⟨some d,.build t ps,ty,pos,af,g⟩:Oper).wp P a w (aX n w0 Γ0 ρ M ((fr.bl (some d) o.v).aJ o.ob)) Q:=by
 unfold Hs at hr;split at hr
 .rename_i pl zs hpl hz hag;obtain⟨v,hv,hrd⟩:=fN (M:=M) (ρ:=ρ) hz;rw[hv]at hag;cases v with
  |agg cs0 =>
   obtain⟨cs',out,vs,fs',hr,h3,h4,h5⟩:=DS h _ hr hrd;obtain rfl:=aR hr;have:Yq P w0 (Lf a) M (lst.map Ra++Γ0) ⟨some d,.build t ps.toList.toArray,ty,pos,af,g⟩ (.agg out.toArray):=by
    unfold IE at hpl;split at hpl
    .rename_i m e sz hm;simp only[Qq]at hpl;subst hpl;unfold CH at hm;split at hm
     .rename_i m' e' hu;split at hm
      .rename_i sz' hsz;split at hm
       .simp only[Qq,QR]at hm;obtain⟨rfl,rfl,rfl⟩:=hm;refine buildA (zs:=cs0.toList) out h3 Q0 hu hsz (yn (λi x hx=>?_) _ _ _ h4)
        grind
       .cases hm
      .cases hm
     .cases hm
    .exact Y.build (P:=P) (w0:=w0) (L:=Lf a) (M:=M) (Γ:=lst.map Ra++Γ0) (d:=some d) (ty:=ty) (pos:=pos) (af:=af) (g:=g) (t:=t) (parts:=ps.toList) (vs:=vs) (zs:=cs0.toList) (pl:=pl) out h3 Q0 hpl h4
   rw[RJ]at this;exact aS h1 h2 h rfl hd rfl rfl ⟨out,rfl,h5⟩ this
  |_=>simp[GU]at hag
 .exact hr.elim
end
open Go Xe Go.Lib
def MH(ρ:Nat->Option Qw)(b:Nat)(v:Qw):Nat->Option Qw:=λk=>if k=b then some v else ρ k
theorem o9{ρ:Nat->Option Qw}{b:Nat}{v:Qw}(h:ρ b=none):Ext ρ (MH ρ b v):=λk x hk=>by
 unfold MH
 grind
theorem bT{ρ:Nat->Option Qw}{b:Nat}{v:Qw}:MH ρ b v b=some v:=by simp[MH]
section
variable {w0:QL} {Γ0:List As} {fr:Fr} {ρ:Nat->Option Qw} {M:Mem} {lst:List (Nat×As)} {val:Nat->Option Qw} {w w':QL}
theorem Rel.fresh(h:Rel w0 Γ0 fr ρ M lst val w){b:Nat}(hb:fr.ob b=none)(hg:fr.aQ<=b):ρ b=none:=by
 cases hv:ρ b with
 |none=>rfl
 |some v =>
  rcases h.vP b v hv with h1|h1
  .omega
  .rw[hb]at h1;cases h1
theorem Rel.new(h:Rel w0 Γ0 fr ρ M lst val w){b:Nat}(hb:fr.ob b=none)(hg:fr.aQ<=b){x:As}{v:Qw}{o:O}(hst:St w0 M (x::(lst.map Ra++Γ0)) w')(ho:OR M (MH ρ b v) ((b,x)::lst) b o) :
  Ext ρ (MH ρ b v)/\Rel w0 Γ0 (fr.set b o) (MH ρ b v) M ((b,x)::lst) val w':=by
 have hn:=h.fresh hb hg;have hE:Ext ρ (MH ρ b v):=o9 hn;refine⟨hE,⟨λt=>?_,λk o' hk=>?_,λk u hk=>?_,λp hp=>?_,?_,hst,h.gr⟩⟩
 .rcases h.sl t with h6|⟨v,h6,h7⟩
  .exact .inl h6
  .exact .inr ⟨v,h6,SR.mono (Sub.refl M) hE h7⟩
 .rw[cu]at hk;by_cases e:k=b
  .subst e;rw[J2 rfl]at hk;simp only[Qq]at hk;subst hk;exact ho
  .rw[J1 e]at hk;exact OR.mono (Sub.refl M) hE (λx hx=>Qx _ hx) (h.ob k o' hk)
 .rw[cu];by_cases e:k=b
  .right;rw[J2 e];rfl
  .unfold MH at hk;rw[J1 e]at hk;rw[J1 e];exact h.vP k u hk
 .rcases Qz.1 hp with rfl|hp
  .rw[bT];rfl
  .have:=h.gg p hp;obtain⟨u,hu⟩:=R0.1 this;rw[hE _ _ hu];rfl
 .rw[QT];refine Rw.2 ⟨λhm=>?_,h.nd⟩;obtain⟨p,hp,e⟩:=QP.1 hm;have h1:=h.gg p hp;have e':p.1=b:=e;rw[e',hn]at h1;cases h1
theorem Rel.cQ(h:Rel w0 Γ0 fr ρ M lst val w){b:Nat}{x x':As}{o:O}(hm:(b,x)∈lst)(hst:St w0 M (x'::((lst.filter λp=>!Qy p.1 b).map Ra++Γ0)) w')(ho:OR M ρ ((b,x')::lst.filter λp=>!Qy p.1 b) b o) :
  Rel w0 Γ0 (fr.set b o) ρ M ((b,x')::lst.filter λp=>!Qy p.1 b) val w':=by
 refine⟨h.sl,λk o' hk=>?_,λk u hk=>?_,λp hp=>?_,?_,hst,h.gr⟩
 .rw[cu]at hk;by_cases e:k=b
  .subst e;rw[J2 rfl]at hk;simp only[Qq]at hk;subst hk;exact ho
  .rw[J1 e]at hk;exact OR.mono (Sub.refl M) (Ext.refl ρ) (λx hx=>Qx _ (ib hx e)) (h.ob k o' hk)
 .rcases h.vP k u hk with h6|h6
  .exact .inl h6
  .right;rw[cu];by_cases e:k=b
   .rw[J2 e];rfl
   .rw[J1 e];exact h6
 .rcases Qz.1 hp with rfl|hp
  .exact h.gg (b,x) hm
  .exact h.gg p (Rq.1 hp).1
 .rw[QT];refine Rw.2 ⟨λhm'=>?_,kl h.nd b⟩;obtain⟨p,hp,e⟩:=QP.1 hm';exact ym (k:=p.1) (x:=p.2) hp e
theorem Rel.drop(h:Rel w0 Γ0 fr ρ M lst val w)(b:Nat):Rel w0 Γ0 (fr.set b .bW) ρ M (lst.filter λp=>!Qy p.1 b) val w:=by
 refine⟨h.sl,λk o' hk=>?_,λk u hk=>?_,λp hp=>h.gg p (Rq.1 hp).1,kl h.nd b,h.st.sub (U8 ((Ua).map _) (List.Sublist.refl _)),h.gr⟩
 .rw[cu]at hk;by_cases e:k=b
  .subst e;rw[J2 rfl]at hk;simp only[Qq]at hk;subst hk;exact trivial
  .rw[J1 e]at hk;exact OR.mono (Sub.refl M) (Ext.refl ρ) (λx hx=>ib hx e) (h.ob k o' hk)
 .rcases h.vP k u hk with h6|h6
  .exact .inl h6
  .right;rw[cu]
   grind
end
section
variable {Is:Cx} {P:QE} {tb:Tb} {n:Nat} {w0:QL} {Γ0:List As} {fr:Fr} {ρ:Nat->Option Qw} {M:Mem} {lst:List (Nat×As)} {a:Act} {w:QL} {fs fo:List Nat} {o:Out} {Q:Exit->Act->QL->Prop} {d:Nat} {ty:QH} {pos:String} {af:Array Edge} {g:Option (Nat×Bool)}
theorem fv{id:Nat}{s:S}{os:List (Nat×O)}{x:O}(hr:R1 Is fr (jD id s os x) fs fo o):fr.ob id=none/\∃fo',o=⟨some s,os++[(id,x)],fs,fo'⟩:=by
 unfold jD at hr;change R1 Is fr (match fr.ob id with|none=>_|some _=>_) _ _ _ at hr;split at hr
 .rename_i hn;exact⟨hn,_,hr⟩
 .exact hr.elim
theorem iw:∀(os:List (Nat×O)) {fr:Fr} {k:Nat},(∀p∈os,p.1≠k)->(fr.aJ os).ob k=fr.ob k
 |[],_,_,_=>rfl
 |(b,x)::os,fr,k,h=>by rw[Fr.aJ,iw os λp hp=>h p (Qx _ hp),cu,J1 (VD (h (b,x) (Qt ..)))]
theorem fj.ne{os:List (Nat×O)}(h:fj fr os){k:Nat}(hk:fr.ob k=none):∀p∈os,p.1≠k:=λp hp e=>by
 have:=h p hp
 grind
variable (h1:a.tmps.size=n) (h2:a.defers=[]) (h:Rel w0 Γ0 fr ρ M lst (tv a) w) (hd:d<n)
theorem NY(h1:a.tmps.size=n)(h2:a.defers=[])(h:Rel w0 Γ0 fr ρ M lst (tv a) w)(hd:d<n){t:Nat}(hr:R1 Is fr (HB P (fr.aQ+d) t) fs fo o):(⟨some d,.alloc t,ty,pos,af,g⟩:Oper).wp P a w (aX n w0 Γ0 ρ M ((fr.bl (some d) o.v).aJ o.ob)) Q:=by
 unfold HB at hr;split at hr
 .rename_i zs hz;obtain⟨v,hv,hrd⟩:=fN (M:=M) (ρ:=ρ) hz;split at hr
  .rename_i ds _ hzd;obtain⟨hn,fo',rfl⟩:=fv hr;have hst:=h.st.alloc t v.cells.toList;have hdd:=nT hrd hzd;obtain⟨hE,hR⟩:=h.new (v:=ptr w.heap.size) (o:=.a t zs.length ds) hn (Rv _ _) hst ⟨w.heap.size,v.cells.toList,bT,Qt ..,hdd,by rw[<-hdd.1,dr.len hrd]⟩;refine ba h1 h2 rfl hd rfl (Sub.refl M) hE hR (v:=.pointer (some ⟨w.heap.size,0,none⟩)) ⟨w.heap.size,bT,by rw[cx]⟩ ?_;simp[Rc,YJ,iZ hv,newVar,newRow]
  obtain⟨hn,fo',rfl⟩:=fv hr;have hst:=h.st.alloc t v.cells.toList;obtain⟨hE,hR⟩:=h.new (v:=ptr w.heap.size) (o:=.b t zs) hn (Rv _ _) hst ⟨w.heap.size,v.cells.toList,bT,Qt ..,dr.mono (Sub.refl M) (o9 (h.fresh hn (Rv _ _))) hrd⟩;refine ba h1 h2 rfl hd rfl (Sub.refl M) hE hR (v:=.pointer (some ⟨w.heap.size,0,none⟩)) ⟨w.heap.size,bT,by rw[cx]⟩ ?_;simp[Rc,YJ,iZ hv,newVar,newRow]
 .exact hr.elim
theorem ok_box(h1:a.tmps.size=n)(h2:a.defers=[])(h:Rel w0 Γ0 fr ρ M lst (tv a) w)(hd:d<n){x:QM}{t:Nat}(hr:R1 Is fr (cK x λs=>boxP P (fr.aQ+d) t s) fs fo o):(⟨some d,.box t x,ty,pos,af,g⟩:Oper).wp P a w (aX n w0 Γ0 ρ M ((fr.bl (some d) o.v).aJ o.ob)) Q:=by
 obtain⟨s,fs1,hr,hs⟩:=bD h hr;unfold boxP at hr;have key:∀(O1:O) (us:List Qw) (v:Qw),eo a x v->v.cells=us.toArray->fr.ob (fr.aQ+d)=none->(∀ρ' lst',ρ' (fr.aQ+d)=some (ptr w.heap.size)->Ext ρ ρ'->(fr.aQ+d,As.own w.heap.size t us)∈lst'->OR M ρ' lst' (fr.aQ+d) O1) ->
   (⟨some d,.box t x,ty,pos,af,g⟩:Oper).wp P a w (aX n w0 Γ0 ρ M ((fr.bl (some d) (some (.c (.p (fr.aQ+d) 0)))).aJ [(fr.aQ+d,O1)])) Q:=by
  intro O1 us v hv hc hn ho;have hst:=h.st.alloc t us;obtain⟨hE,hR⟩:=h.new (v:=ptr w.heap.size) (o:=O1) hn (Rv _ _) hst (ho _ _ bT (o9 (h.fresh hn (Rv _ _))) (Qt ..));refine ba (out:=⟨some (.c (.p (fr.aQ+d) 0)),[(fr.aQ+d,O1)],[],[]⟩) h1 h2 rfl hd rfl (Sub.refl M) hE hR (v:=.pointer (some ⟨w.heap.size,0,none⟩)) ⟨w.heap.size,bT,by rw[cx]⟩ ?_;simp[Rc,hv.eval,Instr.box,newVar,newRow,hc]
 split at hr
 .rename_i m ds hty;obtain⟨hn,fo',rfl⟩:=fv hr;have hne:s≠su:=by rintro rfl;cases hty
  obtain⟨v,hv,hs⟩:=bp hs hne;have hs':SR M ρ (fU P t s) v:=dt hs;rw[hty]at hs';obtain⟨hl,us,rfl,hrd⟩:=hs';exact key (.a t m ds) us _ hv rfl hn λρ' lst' hp _ hm=>⟨_,us,hp,hm,hrd,hl⟩
 .split at hr
  .rename_i cs hcs;obtain⟨hn,fo',rfl⟩:=fv hr;have hne:s≠su:=by rintro rfl;simp[fU,su,gQ,Ae]at hcs
   obtain⟨v,hv,hs⟩:=bp hs hne;obtain⟨us,h3,_,h5,_⟩:=mG hcs (dt hs);exact key (.b t cs) us _ hv h3 hn λρ' lst' hp hE hm=>⟨_,us,hp,hm,dr.mono (Sub.refl M) hE h5⟩
  .exact hr.elim
theorem xI(h:Rel w0 Γ0 fr ρ M lst (tv a) w){o:Oper}{out:Out}{os rest:List (Nat×O)}(hos:out.ob=os++rest)(hf:fj fr os)(k:∀M1 lst1,Sub M M1->mM ρ M1 os->Rel w0 Γ0 (fr.aJ os) ρ M1 lst1 (tv a) w->o.wp P a w (aX n w0 Γ0 ρ M1 (((fr.aJ os).bl o.dst out.v).aJ rest)) Q) :
  o.wp P a w (aX n w0 Γ0 ρ M ((fr.bl o.dst out.v).aJ out.ob)) Q:=by
 obtain⟨M1,lst1,hs,hfa,hR⟩:=Rel.Jq os h hf;refine VK (λa' w' hD=>?_) (k M1 lst1 hs hfa hR);obtain⟨k1,k2,ρ',M',lst',hM,hE,hRel⟩:=hD;refine⟨k1,k2,ρ',M',lst',hs.trans hM,hE,?_⟩;rw[hos,wI];have e:(fr.aJ os).bl o.dst out.v=(fr.bl o.dst out.v).aJ os:=by
  unfold Fr.bl;split
  .rw[ky]
  .rfl
 rw[<-e];exact hRel
theorem gR{t e sz:Nat}(he:AP P t=some (e,sz))(hb:j7 P e sz=true):gj P t e sz (fJ P e):=by
 obtain⟨hu,_⟩:=dR (dA he);unfold j7 at hb;unfold fJ;cases hi:P.info? e with
 |none=>simp[hi]at hb
 |some i =>
  rw[hi]at hb;simp only[QA]at hb;obtain⟨⟨hb1,hb2⟩,hb3⟩:=hb;cases hz:i.zero with
  |none=>simp[hz]at hb2
  |some z=>rw[hz]at hb2;exact⟨hu,⟨i,z,hi,hz,Qp hb1,rfl,Qp hb2⟩,by simp_all⟩
def vf:Nat->List (List Qw)->List (Nat×List Qw)
 |_,[]=>[]
 |j,x::l=>(j,x)::vf (j+1) l
theorem uv{sz:Nat}:∀(xs:List (List Qw)) (j:Nat) (cells acc:List Qw),cells.length=(j+xs.length)*sz->acc.length=j*sz->cells.take (j*sz)=acc->(∀x∈xs,x.length=sz) ->
  jI (λi=>some (i*sz,sz)) cells (vf j xs)=some (acc++xs.flatten)
 |[],j,cells,acc,hl,ha,ht,_=>by
  simp only[List.length_nil,RY]at hl;simp only[vf,jI,X6,QF]
  grind
 |x::xs,j,cells,acc,hl,ha,ht,hx=>by
  have hx0:=hx x (Qt ..);have hle:(j+1)*sz<=cells.length:=by rw[hl];exact Rz _ Q2
  have e:(j+1)*sz=j*sz+sz:=by grind
  simp only[vf,jI];rw[J2 ⟨hx0,Q0⟩];rw[uv xs (j+1) (dY cells (j*sz) x) (acc++x) (by rw[yZ Q0,hl];simp[RW,S9 1]) (by grind) ?_ λy hy=>hx y (Qx _ hy)]
  .simp
  .unfold dY
   grind
theorem DU(h:Rel w0 Γ0 fr ρ M lst (tv a) w){hp:Bool}{e sz:Nat}:∀(ps:List (Nat×QM)) (j:Nat) {k:List D->List (Nat×O)->bj} {fs fo:List Nat} {o:Out},R1 Is fr (BM P hp e sz j ps k) fs fo o ->
  ∃ds os fs' fo',R1 Is fr (k ds os) fs' fo' o/\fj fr os/\∃vs,BO (Lf a) ps=some vs/\∀M',Sub M M'->mM ρ M' os->∃xs:List (List Qw),(vs.map λp=>(p.1,fI p.2))=vf j xs/\xs.length=ps.length/\(∀x∈xs,x.length=sz)/\bz M' ds xs.flatten
 |[],j,k,fs,fo,o,hr=>⟨[],[],fs,fo,hr,fj.nil,[],rfl,λM' _ _=>⟨[],rfl,rfl,λx hx=>by simp at hx,bz.nil _⟩⟩
 |(i,x)::ps,j,k,fs,fo,o,hr=>by
  unfold BM at hr;split at hr
  .rename_i hb;have e1:=Qp hb;subst e1;obtain⟨s,fs1,hr,hs⟩:=bD h hr;obtain⟨m,ds,os,fo1,hr,hf,hv,hne⟩:=FM h hr;split at hr
   .rename_i hm;have e2:=Qp hm;subst e2;obtain⟨ds',os',fs2,fo2,hr,hf',vs,hvs,hk⟩:=DU h ps (i+1) hr;have hsu:s≠su:=by rintro rfl;exact hne se
    obtain⟨v,hev,hsv⟩:=bp hs hsu;refine⟨ds++ds',os++os',fs2,fo2,hr,hf.app hf',(i,v)::vs,by simp[BO,hev.bm,hvs],λM' hM hfa=>?_⟩;obtain⟨us,h3,h4,h5⟩:=hv M' v hM hfa.app1 (pz (dt hsv));obtain⟨xs,h6,h7,h8,h9⟩:=hk M' hM hfa.app2;have e3:fI v=us:=by
     have:=lD v
     grind
    refine⟨us::xs,by simp[vf,e3,h6],by simp[h7],λy hy=>?_,by simpa using h4.append h9⟩
    grind
   .exact hr.elim
  .exact hr.elim
theorem zg(h1:a.tmps.size=n)(h2:a.defers=[])(h:Rel w0 Γ0 fr ρ M lst (tv a) w)(hd:d<n){t len:Nat}{ps:Array (Nat×QM)}(hr:R1 Is fr (oW P tb.hp (fr.aQ+d) t len ps.toList) fs fo o):(⟨some d,.buildSlice t len ps,ty,pos,af,g⟩:Oper).wp P a w (aX n w0 Γ0 ρ M ((fr.bl (some d) o.v).aJ o.ob)) Q:=by
 unfold oW at hr;split at hr
 .rename_i e sz hel;split at hr
  .rename_i hb;simp only[QA]at hb;have hlen:=Qp hb.1.1;have hE:=gR hel hb.2;obtain⟨ds,os,fs1,fo1,hr,hf,vs,hvs,hk⟩:=DU h _ 0 hr;obtain⟨hn,fo',rfl⟩:=fv hr;refine xI h (o:=⟨some d,.buildSlice t len ps,ty,pos,af,g⟩) rfl hf λM1 lst1 hM hfa hR=>?_;obtain⟨xs,h3,h4,h5,h6⟩:=hk M1 hM hfa;have hn1:(fr.aJ os).ob (fr.aQ+d)=none:=by rw[iw os (hf.ne hn)];exact hn
   have hbase:(fr.aJ os).aQ<=fr.aQ+d:=by rw[ka];exact Rv _ _
   have hle:len*sz<=16777216:=by simp_all
   have hfill:∀zs:List Qw,zs.length=len*sz->jI (λi=>some (i*sz,sz)) zs (vs.map λp=>(p.1,fI p.2))=some xs.flatten:=λzs hz=>by rw[h3,uv xs 0 zs [] (by grind) Q2 Q2 h5,Rk]
   have hrun:=om (P:=P) (w:=w) hE hb.1.2 hfill;have hfl:xs.flatten.length=len*sz:=by
    rw[Xw,<-hlen,<-h4];clear h3 h4 h6 hfill hrun;induction xs with
    |nil=>simp
    |cons x xs ih=>simp only[QT,SN,QG,RA,Ug,ih λy hy=>h5 y (Qx _ hy),h5 x (Qt ..)];omega
   have hlim:len<=Ti:=by have:len<=len*sz:=TN _ hE.pos;unfold Ti;omega
   have hst:=(hR.st.alloc e xs.flatten).BP hfl hlim
   obtain⟨hEx,hR'⟩:=hR.new (v:=.slice (some ⟨w.heap.size,0,none⟩) len len) (o:=.w e sz len ds) hn1 hbase hst ⟨_,_,xs.flatten,bT,Qt ..,h6,hfl,by
    have:len<=len*sz:=TN _ hE.pos
    unfold lim;omega⟩
   refine ba (fr:=fr.aJ os) (out:=⟨some (.c (.w (fr.aQ+d))),[(fr.aQ+d,.w e sz len ds)],[],[]⟩) h1 h2 rfl hd rfl (Sub.refl M1) hEx hR' (v:=.slice (some ⟨w.heap.size,0,none⟩) len len) ⟨bT,_,_,_,rfl⟩ ?_;have hmap:(ps.map λx=>(x.1,a.eval x.2))=vs.toArray:=by
    have:=(uH h1 h2).BO hvs
    grind
   simp only[Rc,hmap];simp[hrun]
  .exact hr.elim
 .exact hr.elim
theorem grow_R1{e sz:Nat}{s:S}{k:Nat->List D->List (Nat×O)->bj}(hr:R1 Is fr (Aw e sz s k) fs fo o):∃m ds os fo',R1 Is fr (k m ds os) fs fo' o/\s≠su /\
  ((m=0/\ds=[]/\os=[]/\∀v,SR M ρ s v->v=.slice none 0 0)\/∃b,s=.c (.w b)/\fr.ob b=some (.w e sz m ds)/\os=[(b,.bW)]):=by
 unfold Aw at hr;split at hr
 .exact⟨0,[],[],fo,hr,by unfold su;simp,.inl ⟨rfl,rfl,rfl,λv hv=>hv⟩⟩
 .split at hr
  .exact⟨0,[],[],fo,hr,by unfold su;simp,.inl ⟨rfl,rfl,rfl,λv hv=>hv⟩⟩
  .exact hr.elim
 .rename_i b;change R1 Is fr (match fr.ob b with|some (.w e' sz' n ds)=>_|_=>_) _ _ _ at hr;split at hr
  .rename_i e' sz' m ds hob;split at hr
   .rename_i hb;simp only[QA]at hb;have e1:=Qp hb.1;have e2:=Qp hb.2;subst e1 e2;exact⟨m,ds,_,_,hr,by unfold su;simp,.inr ⟨b,rfl,hob,rfl⟩⟩
   .exact hr.elim
  .exact hr.elim
 .exact hr.elim
theorem CU(h:Rel w0 Γ0 fr ρ M lst (tv a) w){e sz:Nat}:∀(ps:List (Nat×QM)) (j:Nat) {k:List C->bj} {fs fo:List Nat} {o:Out},R1 Is fr (Bl P e sz j ps k) fs fo o ->
  ∃cs fs',R1 Is fr (k cs) fs' fo o/\∃vs,BO (Lf a) ps=some vs/\∃xs:List (List Qw),(vs.map λp=>(p.1,fI p.2))=vf j xs/\xs.length=ps.length/\(∀x∈xs,x.length=sz)/\dr M ρ cs xs.flatten
 |[],j,k,fs,fo,o,hr=>⟨[],fs,hr,[],rfl,[],rfl,rfl,λx hx=>by simp at hx,trivial⟩
 |(i,x)::ps,j,k,fs,fo,o,hr=>by
  unfold Bl at hr;split at hr
  .rename_i hb;have e1:=Qp hb;subst e1;obtain⟨s,fs1,hr,hs⟩:=bD h hr;split at hr
   .rename_i cs hcs;split at hr
    .rename_i hm;have e2:=Qp hm;obtain⟨cs',fs2,hr,vs,hvs,xs,h6,h7,h8,h9⟩:=CU h ps (i+1) hr;have hsu:s≠su:=by rintro rfl;have hcs:gQ su=some cs:=hcs;simp[su,gQ,Ae]at hcs
     obtain⟨v,hev,hsv⟩:=bp hs hsu;obtain⟨us,_,k6,k7,_⟩:=mG hcs (dt (P:=P) (t:=e) hsv);refine⟨cs++cs',fs2,hr,(i,v)::vs,by simp[BO,hev.bm,hvs],us::xs,by simp[vf,k6,h6],by simp[h7],λy hy=>?_,by simpa using dr.app k7 h9⟩;rcases Qz.1 hy with rfl|hy
     .rw[k7.len,e2]
     .exact h8 y hy
    .exact hr.elim
   .exact hr.elim
  .exact hr.elim
theorem D2(h1:a.tmps.size=n)(h2:a.defers=[])(h:Rel w0 Γ0 fr ρ M lst (tv a) w)(hd:d<n){t len:Nat}{ps:Array (Nat×QM)}(hr:R1 Is fr (uz P (fr.aQ+d) t len ps.toList) fs fo o):(⟨some d,.buildSlice t len ps,ty,pos,af,g⟩:Oper).wp P a w (aX n w0 Γ0 ρ M ((fr.bl (some d) o.v).aJ o.ob)) Q:=by
 unfold uz at hr;split at hr
 .rename_i e sz hel;split at hr
  .rename_i hb;simp only[QA]at hb;have hlen:=Qp hb.1.1;have hE:=gR hel hb.2;obtain⟨cs,fs1,hr,vs,hvs,xs,h3,h4,h5,h6⟩:=CU h _ 0 hr;obtain⟨hn,fo',rfl⟩:=fv hr;have hle:len*sz<=16777216:=by simp_all
   have hfill:∀zs:List Qw,zs.length=len*sz->jI (λi=>some (i*sz,sz)) zs (vs.map λp=>(p.1,fI p.2))=some xs.flatten:=λzs hz=>by rw[h3,uv xs 0 zs [] (by grind) Q2 Q2 h5,Rk]
   have hrun:=om (P:=P) (w:=w) hE hb.1.2 hfill;have hfl:xs.flatten.length=len*sz:=by
    rw[Xw,<-hlen,<-h4];clear h3 h4 h6 hfill hrun;induction xs with
    |nil=>simp
    |cons x xs ih=>simp only[QT,SN,QG,RA,Ug,ih λy hy=>h5 y (Qx _ hy),h5 x (Qt ..)];omega
   have hlim:len<=Ti:=by have:len<=len*sz:=TN _ hE.pos;unfold Ti;omega
   have hst:=(h.st.alloc e xs.flatten).BP hfl hlim;have hEx:=o9 (v:=.slice (some ⟨w.heap.size,0,none⟩) len len) (h.fresh hn (Rv _ _))
   obtain⟨hEx,hR'⟩:=h.new (v:=.slice (some ⟨w.heap.size,0,none⟩) len len) (o:=.v e sz len cs) hn (Rv _ _) hst ⟨_,_,xs.flatten,bT,Qt ..,dr.mono (Sub.refl M) hEx h6,hfl,by
    have:len<=len*sz:=TN _ hE.pos
    unfold lim;omega⟩
   refine ba (fr:=fr) (out:=⟨some (.c (.w (fr.aQ+d))),[(fr.aQ+d,.v e sz len cs)],[],[]⟩) h1 h2 rfl hd rfl (Sub.refl M) hEx hR' (v:=.slice (some ⟨w.heap.size,0,none⟩) len len) ⟨bT,_,_,_,rfl⟩ ?_;have hmap:(ps.map λx=>(x.1,a.eval x.2))=vs.toArray:=by
    have:=(uH h1 h2).BO hvs
    grind
   simp only[Rc,hmap];simp[hrun]
  .exact hr.elim
 .exact hr.elim
theorem G3{e sz:Nat}{s:S}{k:Nat->List C->List (Nat×O)->bj}(hr:R1 Is fr (sM e sz s k) fs fo o):∃m cs os fo',R1 Is fr (k m cs os) fs fo' o/\s≠su /\
  ((m=0/\cs=[]/\os=[]/\∀v,SR M ρ s v->v=.slice none 0 0)\/∃b,s=.c (.w b)/\fr.ob b=some (.v e sz m cs)/\os=[(b,.bW)]):=by
 unfold sM at hr;split at hr
 .exact⟨0,[],[],fo,hr,by unfold su;simp,.inl ⟨rfl,rfl,rfl,λv hv=>hv⟩⟩
 .split at hr
  .exact⟨0,[],[],fo,hr,by unfold su;simp,.inl ⟨rfl,rfl,rfl,λv hv=>hv⟩⟩
  .exact hr.elim
 .rename_i b;change R1 Is fr (match fr.ob b with|some (.v e' sz' n cs)=>_|_=>_) _ _ _ at hr;split at hr
  .rename_i e' sz' m cs hob;split at hr
   .rename_i hb;simp only[QA]at hb;have e1:=Qp hb.1;have e2:=Qp hb.2;subst e1 e2;exact⟨m,cs,_,_,hr,by unfold su;simp,.inr ⟨b,rfl,hob,rfl⟩⟩
   .exact hr.elim
  .exact hr.elim
 .exact hr.elim
theorem BU(h1:a.tmps.size=n)(h2:a.defers=[])(h:Rel w0 Γ0 fr ρ M lst (tv a) w)(hd:d<n){t e sz m b2:Nat}{vs:List C}{x y:QM}{s:S}(hE:gj P t e sz (fJ P e))(hs:s=su\/∃v,eo a x v/\SR M ρ s v)(hs':S.c (.w b2)=su\/∃v,eo a y v/\SR M ρ (.c (.w b2)) v)(hob2:fr.ob b2=some (.v e sz m vs))(hvs:vs.all Ae=true)
  (hr:R1 Is fr (sM e sz s λn cs os=>jg (aO (n+m) (fJ P e+1)) (jD (fr.aQ+d) (.c (.w (fr.aQ+d))) os (.v e sz (n+m) (cs++vs)))) fs fo o):(⟨some d,.call ⟨.builtin .append,#[x,y],#[t,t]⟩,ty,pos,af,g⟩:Oper).wp P a w (aX n w0 Γ0 ρ M ((fr.bl (some d) o.v).aJ o.ob)) Q:=by
 obtain⟨q,cs,os,fo1,hr,hne,hg⟩:=G3 (M:=M) (ρ:=ρ) hr;obtain⟨hroom,hr⟩:=hr;obtain⟨hn,fo',rfl⟩:=fv hr;obtain⟨v,hv,hsv⟩:=bp hs hne;obtain⟨v',hv',hsv'⟩:=bp hs' (by unfold su;simp);obtain⟨ad,c,us,h3,h4,h5,h6,h7⟩:=h.ob b2 _ hob2;have e3:ρ b2=some v':=hsv'.1;rw[h3]at e3;simp only[Qq]at e3;subst e3;have hm:As.acc (.slice ad m c) e sz m us∈lst.map Ra++Γ0:=List.mem_append_left _ (Rl h4);have hroom1:(q+m)*fJ P e<=140737488355328:=by
  unfold aO at hroom
  grind
 have hroom2:q+m<=lim:=by unfold aO at hroom;rw[UP,Td]at hroom;unfold lim;omega
 have hsrc:∀Γ,(∀w',St w0 M Γ w'->St w0 M (lst.map Ra++Γ0) w')->gz w0 M Γ (.slice ad m c) sz m us:=λΓ hΓ=>by
  refine⟨h6,dr.one h5 hvs,?_⟩;cases ad with
  |none =>
   have:m=0:=by
    rcases XV m with h0|h0
    .exact h0
    .have:=(CK h h4).2 h0;simp at this
   exact .inr ⟨this,c,by rw[this]⟩
  |some p=>exact .inl ⟨p,c,rfl,λw' hw' j u hj=>((hΓ w' hw').o3 hm hj).2⟩
 rcases hg with⟨rfl,rfl,rfl,hnil⟩|⟨b,rfl,hob,rfl⟩
 .obtain rfl:=hnil v hsv;have hst:=h.st.tl e sz;obtain⟨u',w',hrun,hst'⟩:=kY (P:=P) (ty:=ty) hE hst (hsrc _ λw' hw'=>hw'.sub (Tn _ _)) hroom1 hroom2;obtain⟨ad',c',e3,hc'⟩:=ji (hst'.all _ (Qt ..));subst e3;rw[Rk]at hst';have hEx:=o9 (v:=.slice ad' (0+m) c') (h.fresh hn (Rv _ _));obtain⟨hEx,hR'⟩:=h.new (w':=w') (v:=.slice ad' (0+m) c') (o:=.v e sz (0+m) ([]++vs)) hn (Rv _ _) hst' ⟨_,_,us,bT,Qt ..,dr.mono (Sub.refl M) hEx h5,by grind,hroom2⟩;refine ba h1 h2 rfl hd rfl (Sub.refl M) hEx hR' (v:=.slice ad' (0+m) c') ⟨bT,_,_,_,rfl⟩ ?_;simp[Rc,resolve,invoke,Tm,hv.eval,hv'.eval,hrun]
 .obtain⟨ad0,c0,us0,k1,k2,k3,k4,k5⟩:=h.ob b _ hob;have hvb:ρ b=some v:=hsv.1;rw[k1]at hvb;simp only[Qq]at hvb;subst hvb;have hperm:=h.mem k2;obtain⟨u',w',hrun,hst'⟩:=kY (P:=P) (ty:=ty) hE (h.st.fP hperm) (hsrc _ λw' hw'=>hw'.fP hperm.symm) hroom1 hroom2;obtain⟨ad',c',e3,hc'⟩:=ji (hst'.all _ (Qt ..));subst e3;have hdr:=h.drop b;have hbne:b≠fr.aQ+d:=by grind
  have hn1:(fr.set b .bW).ob (fr.aQ+d)=none:=by rw[cu,J1 (VD hbne)];exact hn
  have hEx:=o9 (v:=.slice ad' (q+m) c') (hdr.fresh hn1 (Rv _ _));obtain⟨hEx,hR'⟩:=hdr.new (w':=w') (v:=.slice ad' (q+m) c') (o:=.v e sz (q+m) (cs++vs)) hn1 (Rv _ _) hst' ⟨_,_,us0++us,bT,Qt ..,dr.mono (Sub.refl M) hEx (dr.app k3 h5),by grind,hroom2⟩;refine ba h1 h2 rfl hd rfl (Sub.refl M) hEx hR' (v:=.slice ad' (q+m) c') ⟨bT,_,_,_,rfl⟩ ?_;simp[Rc,resolve,invoke,Tm,hv.eval,hv'.eval,hrun]
end
theorem Y.Dl{P:QE}{w0:QL}{L:Lm}{M:Mem}{Γ:List As}{d:Option Nat}{ty:QH}{pos:String}{af:Array Edge}{g:Option (Nat×Bool)}{x:QM}{lo hi:Option QM}{t e sz n:Nat}{ad:Addr}{l h:Nat}
  (hx:bm L x=some (.pointer (some ad))) (hlo:jN L lo 0 l) (hhi:jN L hi n h) (h1:l<=h) (h2:h<=n) (ht:Ms P t n e sz=true) :
  Yq P w0 L M Γ ⟨d,.slice t x lo hi none,ty,pos,af,g⟩ (.slice (some (if n=l then ad else ad.add (l*sz))) (h-l) (n-l)):=λk ac w ha _=>by
 obtain⟨hu,hs,_⟩:=Bb ht;have r3:=gW (P:=P) (w:=w) hs;have hl:lo=none/\l=0\/∃y z,lo=some y/\ac.eval y=.int .i64 z/\z=(l:Int):=by
  cases lo with
  |none=>exact .inl ⟨rfl,hlo⟩
  |some y=>obtain⟨z,hz,e⟩:=hlo;exact .inr ⟨y,z,rfl,ha.ev hz,e⟩
 cases hi with
 |none =>
  simp only[jN]at hhi;subst hhi;rcases hl with⟨rfl,rfl⟩|⟨y,z,rfl,hy,hz⟩
  .simp[Rc,ha.ev hx,Up,QN hu,Sv,RM,r3]
  .simp[Rc,ha.ev hx,Up,QN hu,Sv,RM,r3,hy,bh hz h1]
 |some y =>
  obtain⟨z,hz,e⟩:=hhi;rcases hl with⟨rfl,rfl⟩|⟨y',z',rfl,hy,hz'⟩
  .simp[Rc,ha.ev hx,Up,QN hu,Sv,RM,r3,ha.ev hz,bh e h2]
  .simp[Rc,ha.ev hx,Up,QN hu,Sv,RM,r3,ha.ev hz,hy,bh e h2,bh hz' h1]
theorem Y.sliceS{P:QE}{w0:QL}{L:Lm}{M:Mem}{Γ:List As}{d:Option Nat}{ty:QH}{pos:String}{af:Array Edge}{g:Option (Nat×Bool)}{x:QM}{lo hi:Option QM}{t:Nat}{b:ByteArray}{l h:Nat}
  (hx:bm L x=some (.string b)) (hlo:jN L lo 0 l) (hhi:jN L hi b.size h) (h1:l<=h) (h2:h<=b.size) (hu:P.underlying t=some .string) :
  Yq P w0 L M Γ ⟨d,.slice t x lo hi none,ty,pos,af,g⟩ (.string (b.extract l h)):=λk ac w ha _=>by
 have key:(S0 t (.string b) (lo.map ac.eval) (hi.map ac.eval) none).run P w=.ok (.string (b.extract l h)) w:=by
  have hl:lo=none/\l=0\/∃y z,lo=some y/\ac.eval y=.int .i64 z/\z=(l:Int):=by
   cases lo with
   |none=>exact .inl ⟨rfl,hlo⟩
   |some y=>obtain⟨z,hz,e⟩:=hlo;exact .inr ⟨y,z,rfl,ha.ev hz,e⟩
  cases hi with
  |none =>
   simp only[jN]at hhi;subst hhi;rcases hl with⟨rfl,rfl⟩|⟨y,z,rfl,hy,hz⟩
   .simp[S0,QN hu,RM]
   .simp[S0,QN hu,RM,hy,bh hz h1]
  |some y =>
   obtain⟨z,hz,e⟩:=hhi;rcases hl with⟨rfl,rfl⟩|⟨y',z',rfl,hy,hz'⟩
   .simp[S0,QN hu,RM,ha.ev hz,bh e h2]
   .simp[S0,QN hu,RM,ha.ev hz,hy,bh e h2,bh hz' h1]
 simp[Rc,ha.ev hx,Up,QN hu,key]
section
variable {Is:Cx} {P:QE} {tb:Tb} {n:Nat} {w0:QL} {Γ0:List As} {fr:Fr} {ρ:Nat->Option Qw} {M:Mem} {lst:List (Nat×As)} {a:Act} {w:QL} {fs fo:List Nat} {o:Out} {Q:Exit->Act->QL->Prop} {d:Nat} {ty:QH} {pos:String} {af:Array Edge} {g:Option (Nat×Bool)}
theorem AX{b:Nat}{x:O}{e:Nat}{cs:List C}(hc:rf x=some (e,cs))(ho:OR M ρ lst b x):∃k us,ρ b=some (ptr k)/\(b,As.own k e us)∈lst/\dr M ρ cs us:=by
 unfold rf at hc;split at hc
 .rename_i e' m ds;simp only[Qq,QR]at hc;obtain⟨rfl,rfl⟩:=hc;obtain⟨k,us,h1,h2,h3,h4⟩:=ho;rw[te h4];exact⟨k,us,h1,h2,dr.data h3⟩
 .simp only[Qq,QR]at hc;obtain⟨rfl,rfl⟩:=hc;exact ho
 .cases hc
theorem FP{ds vs:List D}{us xs:List Qw}(h:bz M ds us)(k:bz M vs xs)(q:Nat):bz M (cQ ds q vs) (us.take q++xs++us.drop (q+xs.length)):=by
 unfold cQ;rw[k.1];have h1:bz M (ds.take q) (us.take q):=by have:=h.cut 0 q;simpa using this
 have h2:bz M (ds.drop (q+vs.length)) (us.drop (q+vs.length)):=by have:=h.cut (q+vs.length) ds.length;rw[Rj Q2,Rj (by simp[h.1])]at this;exact this
 exact(h1.append k).append h2
theorem LZ{s:S}{m:Nat}{vs:List D}{v:Qw}(hf:Jo s=some (m,vs))(hv:SR M ρ s v):s≠su/\∃xs,v.cells=xs.toArray/\xs.length=m/\(∀u∈xs,u.oneCell'=true)/\bz M vs xs:=by
 unfold Jo at hf;split at hf
 .simp only[Qq,QR]at hf;obtain⟨rfl,rfl⟩:=hf;obtain⟨hl,xs,rfl,hrd⟩:=hv;exact⟨by unfold su;simp,xs,rfl,by rw[hrd.1,hl],bz.one hrd,hrd⟩
 .rename_i x;simp only[Qq,QR]at hf;obtain⟨rfl,rfl⟩:=hf;have h1:=Rd.one (show Rd M x v from hv);exact⟨by unfold su;simp,[v],by cases v <;> first|rfl|(simp[Value.oneCell']at h1),rfl,by grind,bz.cons hv (bz.nil _)⟩
 .cases hf
theorem wQ{us xs:List Qw}{q:Nat}:dY us q xs=us.take q++xs++us.drop (q+xs.length):=by simp[dY]
theorem J0{m q:Nat}{x y:O}(h:qu m x q su=some y):False:=by
 unfold qu at h;have hb:Mp m x q su=none:=by
  unfold Mp;cases x with
  |a e n ds=>dsimp only;cases hB:(Sq 40 n && Bool.not (Qy m n)) <;> rfl
  |_=>rfl
 rw[hb]at h;dsimp only at h;split at h
 .cases h
 .simp[su,gQ,Ae]at h
theorem J8{m q:Nat}{x y:O}{s:S}{v:Qw}{b:Nat}(hs:qu m x q s=some y)(ho:OR M ρ lst b x)(hv:SR M ρ s v) :
  s≠su/\∃k e us xs,ρ b=some (ptr k)/\(b,As.own k e us)∈lst/\v.cells=xs.toArray/\xs.length=m/\q+m<=us.length/\(∀u∈xs,u.oneCell'=true)/\∀lst',(b,As.own k e (dY us q xs))∈lst'->OR M ρ lst' b y:=by
 unfold qu at hs;cases hbig:Mp m x q s with
 |some y' =>
  rw[hbig]at hs;simp only[Qq]at hs;subst hs;unfold Mp at hbig;cases x with
  |a e n' ds =>
   dsimp only at hbig;cases hB:(Sq 40 n' && Bool.not (Qy m n')) with
   |false=>rw[hB]at hbig;cases hbig
   |true =>
    rw[hB]at hbig;cases hfl:Jo s with
    |none=>rw[hfl]at hbig;cases hbig
    |some p =>
     obtain⟨m',vs⟩:=p;rw[hfl]at hbig;dsimp only at hbig;split at hbig
     .rename_i hb;simp only[QA]at hb;have e0:=Qp hb.1;have e1:q+m<=n':=by simp_all
      simp only[Qq]at hbig;subst hbig e0;obtain⟨k,us,h1,h2,h3,h4⟩:=ho;obtain⟨h5,xs,h6,h7,h8,h9⟩:=LZ hfl hv;refine⟨h5,k,e,us,xs,h1,h2,h6,h7,by rw[h3.1];omega,h8,λlst' hm=>⟨k,_,h1,hm,?_,?_⟩⟩
      .rw[wQ];exact FP h3 h9 q
      .have:=h9.1;unfold cQ;simp only[QC,Rf,RO];omega
     .cases hbig
  |_=>cases hbig
 |none =>
 rw[hbig]at hs;clear hbig;dsimp only at hs;split at hs
 .cases hs
 .rename_i e us0 hc;obtain⟨k,us,h1,h2,h3⟩:=AX hc ho;have hlen:=dr.len h3;split at hs
  .rename_i m' vs;obtain⟨hl,xs,rfl,hrd⟩:=hv;have hxl:xs.length=m':=by rw[hrd.1,hl]
   refine⟨by unfold su;simp,k,e,us,xs,h1,h2,rfl,?_⟩;split at hs
   .rename_i hb;simp only[QA]at hb;have e0:=Qp hb.1.1;have e1:=Qp hb.1.2;have e2:=Qp hb.2;simp only[Qq]at hs;subst hs;refine⟨Q0,Q0,bz.one hrd,λlst' hm=>⟨k,xs,h1,?_,hrd,hl⟩⟩;have:dY us q xs=xs:=by unfold dY;simp_all
    rw[<-this];exact hm
   .split at hs
    .rename_i hb;simp only[QA]at hb;have e0:=Qp hb.1;have e1:q+m<=us0.length:=by simp_all
     simp only[Qq]at hs;subst hs;rw[te hl];exact⟨Q0,Q0,bz.one hrd,λlst' hm=>⟨k,_,h1,hm,vN h3 (dr.data hrd)⟩⟩
    .cases hs
  .split at hs
   .rename_i cs hcs;split at hs
    .rename_i hb;simp only[QA]at hb;have e0:=Qp hb.1;have e1:q+m<=us0.length:=by simp_all
     simp only[Qq]at hs;subst hs;obtain⟨xs,h4,_,h5,h6⟩:=mG hcs hv;refine⟨by rintro rfl;simp[su,gQ,Ae]at hcs,k,e,us,xs,h1,h2,h4,by rw[dr.len h5,e0],Q0,dr.one h5 h6,λlst' hm=>⟨k,_,h1,hm,vN h3 h5⟩⟩
    .cases hs
   .cases hs
theorem j1{t:QH}{ad:Addr}{v:Qw}{xs:List Qw}{w w':QL}(hv:v.cells=xs.toArray)(ht:mf P t xs.length=true)(h:(storeCells ad xs 0).run P w=.ok () w'):(storeVar t ad v).run P w=.ok () w':=by simp[storeVar,hv,gW ht,h]
variable (h1:a.tmps.size=n) (h2:a.defers=[]) (h:Rel w0 Γ0 fr ρ M lst (tv a) w)
theorem NL(h1:a.tmps.size=n)(h2:a.defers=[])(h:Rel w0 Γ0 fr ρ M lst (tv a) w){t:Nat}{x y:QM}(hr:R1 Is fr (cK x λs=>cK y λv=>wN P t s (sf tb.hp (fU P t v))) fs fo o):(⟨none,.store t x y,ty,pos,af,g⟩:Oper).wp P a w (aX n w0 Γ0 ρ M ((fr.bl none o.v).aJ o.ob)) Q:=by
 obtain⟨s,fs1,hr,hs⟩:=bD h hr;obtain⟨sv,fs2,hr,hsv⟩:=bD h hr;unfold wN at hr;split at hr
 .exact hr.elim
 .rename_i m hm;split at hr
  .rename_i b q _;change R1 Is fr (match fr.ob b with|some x=>_|none=>_) _ _ _ at hr;obtain⟨v,hv,kk,hk,rfl⟩:=bp hs (by unfold su;simp);split at hr
   .rename_i x0 hob;split at hr
    .rename_i y0 hst;have hr:o=⟨none,[(b,y0)],_,_⟩:=hr;subst hr;have hne:sv≠su:=by rintro rfl;rw[se]at hst;exact J0 hst
     obtain⟨u,hu,hsu⟩:=bp hsv hne;obtain⟨_,k,e,us,xs,k1,k2,k3,k4,k5,k6,k7⟩:=J8 hst (h.ob b _ hob) (pz (dt hsu));rw[hk]at k1;obtain rfl:kk=k:=by grind
     have hown:=(h.st.all _ (List.mem_append_left _ (Rl k2))).2;have hrun:=kC (P:=P) xs 0 w kk e us q hown Q0 k6;simp only[RY]at hrun;have hst':=(h.st.fP (h.mem k2)).write (dY us q xs) _ rfl;have hR:=h.cQ (x':=.own kk e (dY us q xs)) (o:=y0) k2 hst' (k7 _ (Qt ..));refine rU (out:=⟨none,[(b,y0)],fs2,(2*b)::fo⟩) h1 h2 rfl (Sub.refl M) (Ext.refl ρ) hR ?_;have:=j1 (P:=P) (t:=t) k3 (by rw[k4];exact gk hm) hrun;simp[Rc,hv.eval,hu.eval,UR,Sv,this];simp[dY]
    .exact hr.elim
   .exact hr.elim
  .rename_i b sz k j _;obtain⟨v,hv,ad,nn,c,hk,hkn,rfl⟩:=bp hs (by unfold su;simp);change R1 Is fr (match fr.ob b with|some (.v e sz' n us)=>_|_=>_) _ _ _ at hr;split at hr
   .rename_i e sz' n' cs0 hob;split at hr
    .rename_i cs hcs;split at hr
     .rename_i hb;simp only[QA]at hb;have e2:=Qp hb.1.2;subst e2;have e3:=Qp hb.1.1;have hjm:j+m<=sz:=by simp_all
      have hr:o=⟨none,[(b,.v e sz n' (Bw cs0 (k*sz+j) cs))],_,_⟩:=hr;subst hr;have hsu:sv≠su:=by rintro rfl;rw[se]at hcs;have hcs:gQ su=some cs:=hcs;simp[su,gQ,Ae]at hcs
      obtain⟨u,hu,hsv⟩:=bp hsv hsu;obtain⟨xs,k6,_,k7,k8⟩:=mG hcs (pz (dt (P:=P) (t:=t) hsv));obtain⟨ad',c',us,k1,k2,k3,k4,k5⟩:=h.ob b _ hob;rw[hk]at k1;simp only[Qq,Ri]at k1;obtain⟨rfl,rfl,rfl⟩:=k1;have hxl:=k7.len;have hle:(k+1)*sz<=nn*sz:=Rz _ hkn;rw[RA,Ug]at hle;obtain⟨w',r1,r2⟩:=gH (P:=P) (q:=k*sz+j) xs 0 w us (h.st.fP (h.mem k2)) Q0 (dr.one k7 k8);simp only[RY]at r2;have hR':=h.cQ (x':=.acc (.slice ad nn c) e sz nn (us.take (k*sz+j)++xs++us.drop (k*sz+j+xs.length))) (o:=.v e sz nn (Bw cs0 (k*sz+j) cs)) k2 r2
       ⟨ad,c,_,hk,Qt ..,vN k3 k7,by grind,k5⟩
      refine rU (fr:=fr) (out:=⟨none,[(b,.v e sz nn (Bw cs0 (k*sz+j) cs))],[],[]⟩) h1 h2 rfl (Sub.refl M) (Ext.refl ρ) hR' ?_;have:=j1 (P:=P) (t:=t) k6 (by rw[hxl,e3];exact gk hm) r1;simp[Rc,hv.eval,hu.eval,UR,Sv,this]
     .exact hr.elim
    .exact hr.elim
   obtain⟨m',vs,os,fo1,hr,hf,hval,hne⟩:=FM h hr;split at hr
   .rename_i hmm;have e1:=Qp hmm;subst e1;change R1 Is fr (match fr.ob b with|some (.w e sz' n ds)=>_|_=>_) _ _ _ at hr;split at hr
    .rename_i e sz' n' ds hob;split at hr
     .rename_i hb;simp only[QA]at hb;have e2:=Qp hb.1;subst e2;have hjm:j+m<=sz:=by simp_all
      split at hr
      .exact hr.elim
      .rename_i hany;have hr:o=⟨none,os++[(b,.w e sz n' (cQ ds (k*sz+j) vs))],_,_⟩:=hr;subst hr;have hsu:sv≠su:=by rintro rfl;exact hne se
       obtain⟨u,hu,hsv⟩:=bp hsv hsu;refine xI h (o:=⟨none,.store t x y,ty,pos,af,g⟩) rfl hf λM1 lst1 hM hfa hR=>?_;have hbne:∀p∈os,p.1≠b:=λp hp e=>by have:=Uq.1 hany p hp;simp_all
       have hob1:(fr.aJ os).ob b=some (.w e sz n' ds):=by rw[iw os hbne];exact hob
       obtain⟨ad',c',us,k1,k2,k3,k4,k5⟩:=hR.ob b _ hob1;rw[hk]at k1;simp only[Qq,Ri]at k1;obtain⟨rfl,rfl,rfl⟩:=k1;obtain⟨xs,k6,k7,k8⟩:=hval M1 u hM hfa (pz (dt hsv));have hle:(k+1)*sz<=nn*sz:=Rz _ hkn;rw[RA,Ug]at hle;obtain⟨w',r1,r2⟩:=gH (P:=P) (q:=k*sz+j) xs 0 w us (hR.st.fP (hR.mem k2)) Q0 (bz.one k7);simp only[RY]at r2;have hR':=hR.cQ (x':=.acc (.slice ad nn c) e sz nn (us.take (k*sz+j)++xs++us.drop (k*sz+j+xs.length))) (o:=.w e sz nn (cQ ds (k*sz+j) vs)) k2 r2
        ⟨ad,c,_,hk,Qt ..,FP k3 k7 _,by grind,k5⟩
       refine rU (fr:=fr.aJ os) (out:=⟨none,[(b,.w e sz nn (cQ ds (k*sz+j) vs))],[],[]⟩) h1 h2 rfl (Sub.refl M1) (Ext.refl ρ) hR' ?_;have:=j1 (P:=P) (t:=t) k6 (by rw[k8];exact gk hm) r1;simp[Rc,hv.eval,hu.eval,UR,Sv,this]
     .exact hr.elim
    .exact hr.elim
   .exact hr.elim
  .rename_i b q _;obtain⟨v,hv,kk,hk,rfl⟩:=bp hs (by unfold su;simp);obtain⟨m',vs,os,fo1,hr,hf,hval,hne⟩:=FM h hr;have hsu:sv≠su:=by rintro rfl;exact hne se
   obtain⟨u,hu,hsv⟩:=bp hsv hsu;have key:∀(e n':Nat) (ds:List D),(os.any λp=>Qy p.1 b)=false->o=⟨none,os++[(b,.a e n' (cQ ds q vs))],fs2,(2*b)::fo1⟩->m=m'->q+m<=n' ->
     (∀M1 lst1,Sub M M1->Rel w0 Γ0 (fr.aJ os) ρ M1 lst1 (tv a) w->∃k us,ρ b=some (ptr k)/\(b,As.own k e us)∈lst1/\bz M1 ds us/\ds.length=n') ->
     (⟨none,.store t x y,ty,pos,af,g⟩:Oper).wp P a w (aX n w0 Γ0 ρ M ((fr.bl none o.v).aJ o.ob)) Q:=by
    intro e n' ds hany hr e1 hq how;subst hr e1;refine xI h (o:=⟨none,.store t x y,ty,pos,af,g⟩) rfl hf λM1 lst1 hM hfa hR=>?_;obtain⟨k,us,k1,k2,k3,k4⟩:=how M1 lst1 hM hR;rw[hk]at k1;obtain rfl:kk=k:=by grind
    obtain⟨xs,k6,k7,k8⟩:=hval M1 u hM hfa (pz (dt hsv));have hown:=(hR.st.all _ (List.mem_append_left _ (Rl k2))).2;have hrun:=kC (P:=P) xs 0 w kk e us q hown (by rw[RY,k8,k3.1];omega) (bz.one k7);simp only[RY]at hrun;have hst':=(hR.st.fP (hR.mem k2)).write (dY us q xs) _ rfl
    have hR':=hR.cQ (x':=.own kk e (dY us q xs)) (o:=.a e n' (cQ ds q vs)) k2 hst' ⟨kk,_,hk,Qt ..,by rw[wQ];exact FP k3 k7 q,by
     have:=k7.1;unfold cQ;simp only[QC,Rf,RO]
     omega⟩
    refine rU (fr:=fr.aJ os) (out:=⟨none,[(b,.a e n' (cQ ds q vs))],[],[]⟩) h1 h2 rfl (Sub.refl M1) (Ext.refl ρ) hR' ?_;have:=j1 (P:=P) (t:=t) k6 (by rw[k8];exact gk hm) hrun;simp[Rc,hv.eval,hu.eval,UR,Sv,this];simp[dY]
   split at hr
   .rename_i hmm;have e1:=Qp hmm;change R1 Is fr (match os.any λp=>Qy p.1 b with|true=>_|false=>match fr.ob b with|some (.a e n ds)=>_|some (.b e cs)=>_|_=>_) _ _ _ at hr;split at hr
    .exact hr.elim
    .rename_i hany;have hbne:∀p∈os,p.1≠b:=λp hp e=>by have:=Uq.1 hany p hp;rw[e]at this;exact this (cW b)
     split at hr
     .rename_i e n' ds hob;obtain⟨hq,hr⟩:=hr;refine key e n' ds hany hr e1 hq λM1 lst1 hM hR=>?_;have hob1:(fr.aJ os).ob b=some (.a e n' ds):=by rw[iw os hbne];exact hob
      exact hR.ob b _ hob1
     .rename_i e cs hob;split at hr
      .rename_i ds hz;obtain⟨hq,hr⟩:=hr;refine key e cs.length ds hany hr e1 hq λM1 lst1 hM hR=>?_;have hob1:(fr.aJ os).ob b=some (.b e cs):=by rw[iw os hbne];exact hob
       obtain⟨k,us,k1,k2,k3⟩:=hR.ob b _ hob1;obtain⟨k4,k5⟩:=vD k3 hz
       grind
      .exact hr.elim
     .exact hr.elim
   .exact hr.elim
  .exact hr.elim
theorem uh(z:Array Qw)(k sz:Nat)(hz:z.size=sz):(U9 z (k*sz)).toList=(QY k z.toList).flatten:=by
 induction k with
 |zero=>simp[U9]
 |succ k ih =>
  rw[List.replicate_succ',List.flatten_append,<-ih];unfold U9;simp only[XW,Array.toList_range,TW,X6,QF];rw[RA,Ug,List.range_add,Rb,R3]
  congr 1
  apply List.ext_getElem
  .simp[hz]
  .intro i h3 h4;have hi:i<sz:=by grind
   simp only[List.getElem_map,List.getElem_range,Function.comp];have:(k*sz+i) % z.size=i:=by rw[hz,S9,Nat.mul_comm,Nat.add_mul_mod_self_left,Nat.mod_eq_of_lt hi]
   rw[this];simp[hz,hi]
theorem BC{ds:List D}{us:List Qw}(hr:bz M ds us):∀k:Nat,bz M (QY k ds).flatten (QY k us).flatten
 |0=>bz.nil _
 |k+1=>by rw[Xx,Xx,TW,TW];exact hr.append (BC hr k)
theorem ok_make(h1:a.tmps.size=n)(h2:a.defers=[])(h:Rel w0 Γ0 fr ρ M lst (tv a) w)(hd:d<n){t:Nat}{x y:QM}(hr:R1 Is fr (cK x λa=>cK y λb=>Ov P (fr.aQ+d) t a b) fs fo o):(⟨some d,.makeSlice t x y,ty,pos,af,g⟩:Oper).wp P a w (aX n w0 Γ0 ρ M ((fr.bl (some d) o.v).aJ o.ob)) Q:=by
 obtain⟨s,fs1,hr,hs⟩:=bD h hr;obtain⟨s',fs2,hr,hs'⟩:=bD h hr;unfold Ov at hr;split at hr
 .rename_i e sz hel;split at hr
  .rename_i zs hz hby;have hE:=gR hel hby;obtain⟨p,e1,hr⟩:=ee hr;obtain⟨q,e2,hr⟩:=ee hr;obtain⟨⟨hp0,rfl,hroom⟩,hr⟩:=hr;obtain⟨hn,fo',rfl⟩:=fv hr;obtain⟨k,rfl⟩:=UK hp0;simp only[Rx]at hroom ⊢;have hx:=dU hs e1;have hy:=dU hs' e2;obtain⟨zc,hz1,hz2⟩:∃zc,ir P e=some zc/\vE zc=some zs:=by
    cases hzc:ir P e with
    |none=>simp[hzc]at hz
    |some zc=>rw[hzc]at hz;exact⟨zc,rfl,hz⟩
   obtain⟨zv,hzv,hzr⟩:=fN (M:=M) (ρ:=ρ) hz1;have hzrd:=nT hzr hz2;have hsz:zv.cells.size=sz:=by
    obtain⟨_,⟨i,z,hi,hzz,_,_,hzs⟩,_⟩:=hE;have:zv=z:=by simp[jV,hi,hzz]at hzv;exact hzv.symm
    rw[this];exact hzs
   have hroom1:fJ P e*k<=281474976710656:=by
    unfold aO at hroom
    grind
   have hlim:k<=lim:=by unfold aO at hroom;rw[UP,Td]at hroom;unfold lim;omega
   have hrun:(Rc a.eval ⟨some d,.makeSlice t x y,ty,pos,af,g⟩).run P w=.ok (.value (.slice (some ⟨w.heap.size,0,none⟩) k k)) {w with heap:=w.heap.push (.cells (U9 zv.cells (k*sz)) e (0,0))}:=by
    obtain⟨ht,⟨i,z',hi,hz',hsize,hby',hzs⟩,hpos⟩:=hE;have:z'=zv:=by simp[jV,hi,hz']at hzv;exact hzv
    subst this;have hl63:(k:Int)<=9223372036854775807:=by unfold lim at hlim;omega
    have hkb':(i.bytes:Int)*(k:Int)<=281474976710656:=by
     grind
    have hr:=run_make (P:=P) w t e i z' ht hi hz' .i64 .i64 k k Q0 (Int.le_refl _) hkb' hl63;simp only[Rc,hx.eval,hy.eval,SD,hr,Rx,hsize];rfl
   have hfl:=uh zv.cells k sz hsz;have hlen:(U9 zv.cells (k*sz)).toList.length=k*sz:=by simp_all
   have hst:=(h.st.alloc e (U9 zv.cells (k*sz)).toList).BP hlen (by unfold lim at hlim;unfold Ti;omega);obtain⟨hEx,hR'⟩:=h.new (v:=.slice (some ⟨w.heap.size,0,none⟩) k k) (o:=.w e sz k (QY k zs).flatten) hn (Rv _ _) hst ⟨_,_,_,bT,Qt ..,by rw[hfl];exact BC hzrd k,hlen,hlim⟩;refine ba (fr:=fr) (out:=⟨some (.c (.w (fr.aQ+d))),[(fr.aQ+d,.w e sz k (QY k zs).flatten)],[],[]⟩) h1 h2 rfl hd rfl (Sub.refl M) hEx hR' (v:=.slice (some ⟨w.heap.size,0,none⟩) k k) ⟨bT,_,_,_,rfl⟩ ?_;rw[hrun]
  .exact hr.elim
 .exact hr.elim
theorem gf(h:Rel w0 Γ0 fr ρ M lst (tv a) w){m:Nat}{x:Option QM}{k:Int->bj}(hr:R1 Is fr (nj m x k) fs fo o):∃z fs',R1 Is fr (k z) fs' fo o/\(∀q:Nat,z=(q:Int)->jN (Lf a) x m q):=by
 unfold nj at hr;split at hr
 .exact⟨_,fs,hr,λq hq=>by
   have:m=q:=Q0
   exact this.symm⟩
 .obtain⟨s,fs1,hr,hs⟩:=bD h hr;obtain⟨z,e1,hr⟩:=ee hr;exact⟨z,fs1,hr,λq hq=>⟨z,(dU hs e1).bm,hq⟩⟩
theorem tY(h1:a.tmps.size=n)(h2:a.defers=[])(h:Rel w0 Γ0 fr ρ M lst (tv a) w)(hd:d<n){t:Nat}{x:QM}{lo hi mx:Option QM}{s:S}(hs:s=su\/∃v,eo a x v/\SR M ρ s v)(hr:R1 Is fr (tC P t s lo hi mx) fs fo o):(⟨some d,.slice t x lo hi mx,ty,pos,af,g⟩:Oper).wp P a w (aX n w0 Γ0 ρ M ((fr.bl (some d) o.v).aJ o.ob)) Q:=by
 unfold tC at hr;split at hr
 .exact hr.elim
 .split at hr
  rotate_left
  .split at hr
   .rename_i m e sz hel;obtain⟨b,q,hr,v,hv,k,hk,rfl⟩:=JK hs hr;obtain⟨l,fs2,hr,hlo⟩:=gf h hr;obtain⟨q2,fs3,hr,hhi⟩:=gf h hr;obtain⟨⟨hl0,hlq,hqm⟩,hr⟩:=hr;obtain rfl:=aR hr;exact aS h1 h2 h rfl hd rfl rfl (show CR M ρ (.y b q sz l.toNat (q2.toNat-l.toNat)) _ from⟨_,m-l.toNat,rfl,⟨Q0,by have:=(mI hel).2.2;unfold Ti;omega⟩,.inl ⟨k,hk,λhn=>by rw[J1 Q0,eu]⟩⟩) (Y.Dl hv.bm (hlo _ Q0) (hhi _ Q0) Q0 Q0 (mI hel).1)
   split at hr
   .rename_i hu;obtain⟨b,e1,hr⟩:=mS hr;obtain⟨l,fs2,hr,hlo⟩:=gf h hr;obtain⟨q,fs3,hr,hhi⟩:=gf h hr;obtain⟨⟨hl0,hlq,hqm⟩,hr⟩:=hr;obtain rfl:=aR hr;exact jc h1 h2 h hd rfl rfl rfl (Y.sliceS (dU hs e1).bm (hlo _ Q0) (hhi _ Q0) Q0 Q0 hu)
   .exact hr.elim
  .rename_i e sz hel;split at hr
   .rename_i b q sz' l0 m;obtain⟨v,hv,ad,c,rfl,hmc,hb⟩:=bp hs (by unfold su;simp);split at hr
    .rename_i hbe;have e2:=Qp hbe;subst e2;obtain⟨l,fs2,hr,hlo⟩:=gf h hr;obtain⟨q2,fs3,hr,hhi⟩:=gf h hr;obtain⟨⟨hl0,hlq,hqm⟩,hr⟩:=hr;obtain rfl:=aR hr;have hy:=Y.slice (P:=P) (w0:=w0) (L:=Lf a) (M:=M) (Γ:=lst.map Ra++Γ0) (d:=some d) (ty:=ty) (pos:=pos) (af:=af) (g:=g) (mx:=none) l.toNat q2.toNat c hv.bm (hlo _ Q0) (hhi _ Q0) rfl (.inr rfl) Q0 Q0 (QW _) (dA hel);refine aS h1 h2 h rfl hd rfl rfl (show CR M ρ (.y b q sz' (l0+l.toNat) (q2.toNat-l.toNat)) _ from ?_) hy;refine⟨_,c-l.toNat,rfl,⟨Q0,Q0⟩,?_⟩;rcases hb with⟨k,hk,hb⟩|⟨a',N,C,hk,hq0,hl,hc,hb⟩
     .refine .inl ⟨k,hk,λhn=>?_⟩;rw[J1 Q0,hb Q0];simp[eu,RA,RW]
     .refine .inr ⟨a',N,C,hk,hq0,Q0,Q0,λhn=>?_⟩;rw[J1 Q0,hb Q0];simp[eu,RA]
    .exact hr.elim
   .rename_i c _;obtain⟨xd,os,fo1,hr,hf,hdat,hne⟩:=Cq h hr;obtain⟨m,cs,rfl,hr⟩:=hr;obtain⟨l,fs2,hr,hlo⟩:=gf h hr;obtain⟨q,fs3,hr,hhi⟩:=gf h hr;obtain⟨⟨hl0,hlq,hqm⟩,hr⟩:=hr;have hr:o=⟨some (.c (.d (.sl (q.toNat-l.toNat) sz (sub cs (l.toNat*sz) ((q.toNat-l.toNat)*sz))))),os,_,_⟩:=hr;subst hr;obtain⟨v,hv,hsv⟩:=bp hs (by unfold su;simpa using hne);refine xI h (o:=⟨some d,.slice t x lo hi none,ty,pos,af,g⟩) (rest:=[]) Q2 hf λM1 lst1 hM hfa hR=>?_;have hrd:=hdat M1 v hM hfa hsv;obtain⟨ad,c',rfl,hmc,_⟩:=hrd.slice;have hcut:=Rd.cut hrd l.toNat q.toNat c' Q0 Q0 (QW _) Q0;have hy:=Y.slice (P:=P) (w0:=w0) (L:=Lf a) (M:=M1) (Γ:=lst1.map Ra++Γ0) (d:=some d) (ty:=ty) (pos:=pos) (af:=af) (g:=g) (mx:=none) l.toNat q.toNat c' hv.bm (hlo _ Q0) (hhi _ Q0) rfl (.inr rfl) Q0 Q0 (QW _) (dA hel);exact aS (fr:=fr.aJ os) (out:=⟨_,[],[],[]⟩) h1 h2 hR rfl hd rfl rfl hcut hy
   .exact hr.elim
theorem NM(h1:a.tmps.size=n)(h2:a.defers=[])(h:Rel w0 Γ0 fr ρ M lst (tv a) w)(hd:d<n){t:Nat}{x:QM}{lo hi mx:Option QM}(hr:R1 Is fr (cK x λs=>tC P t s lo hi mx) fs fo o):(⟨some d,.slice t x lo hi mx,ty,pos,af,g⟩:Oper).wp P a w (aX n w0 Γ0 ρ M ((fr.bl (some d) o.v).aJ o.ob)) Q:=by obtain⟨s,fs1,hr,hs⟩:=bD h hr;exact tY h1 h2 h hd hs hr
theorem NQ(hT:lS P tb)(h1:a.tmps.size=n)(h2:a.defers=[])(h:Rel w0 Γ0 fr ρ M lst (tv a) w)(hd:d<n){t v:Nat}{lo hi mx:Option QM}(hr:R1 Is fr (G4 P tb v t lo hi mx) fs fo o):(⟨some d,.slice t (.global v) lo hi mx,ty,pos,af,g⟩:Oper).wp P a w (aX n w0 Γ0 ρ M ((fr.bl (some d) o.v).aJ o.ob)) Q:=by
 unfold G4 at hr;split at hr
 .rename_i ds m e sz hg hel;split at hr
  .rename_i hb;have e1:=Qp hb;obtain rfl:=aR hr;obtain⟨us,h3,h4⟩:=hT.gl v ds hg M h.gr;obtain⟨ha,hsz,hm⟩:=mI hel;have hy:=Y.Dl (P:=P) (w0:=w0) (L:=Lf a) (M:=M) (Γ:=lst.map Ra++Γ0) (d:=some d) (ty:=ty) (pos:=pos) (af:=af) (g:=g) (lo:=none) (hi:=none) (l:=0) (h:=m) (E2 (Lf a) v) rfl rfl (Rr _) (QW _) ha;have e2:(if m=0 then fT (some ⟨v,0,none⟩) 0 else(fT (some ⟨v,0,none⟩) 0).add (0*sz))=(⟨v,0,none⟩:Addr):=by rw[TP,eu,cx];simp
   rw[e2,T9]at hy;refine aS h1 h2 h rfl hd rfl rfl ?_ hy;show Rd M (.sl m sz ds) _;simp only[Rd];refine⟨_,_,rfl,QW _,by unfold Ti;omega,by unfold lim;omega,e1,λ_=>rfl,o5.mk ds 0 λk x hk=>?_⟩;obtain⟨u,hu1,hu2⟩:=bz.get h3 hk;exact⟨u,by rw[Rn];exact h4 k u hu1,hu2⟩
  .exact hr.elim
 .exact hr.elim
end
open Go.ChangeMaps (setBlock)
theorem _root_.Xe.St.Gz{w0 w:QL}{M:Mem}{Γ:List As}(h:St w0 M Γ w)(o:Obj):St w0 M (.raw w.heap.size o::Γ) (w.alloc o):=by
 have hold:∀b,b<w.heap.size->(w.alloc o).heap[b]?=w.heap[b]?:=λb hb=>heap_alloc_old w o hb;refine⟨h.os,h.tape,h.output,by show _<=(w.heap.push o).size;simp;have:=h.size;omega,λb o hb=>?_,λx hx=>?_,?_⟩
 .rw[hold b (h.lt hb)];exact h.mem b o hb
 .rcases Qz.1 hx with rfl|hx
  .exact⟨h.fresh,heap_alloc_new w o⟩
  .exact As.fy (h.all x hx) (Sub.refl M) λb hb=>⟨hold b (As.bg (h.all x hx) hb).1,(As.bg (h.all x hx) hb).2⟩
 .simp only[Rh,As.gh];refine Rw.2 ⟨λhm=>?_,h.nodup⟩;obtain⟨x,hx,hb⟩:=List.mem_filterMap.1 hm;have:=(As.bg (h.all x hx) hb).1;omega
theorem _root_.Xe.St.setRaw{w0 w:QL}{M:Mem}{Γ:List As}{b:Nat}{o o':Obj}(h:St w0 M (.raw b o::Γ) w):St w0 M (.raw b o'::Γ) (setBlock w b o'):=by
 obtain⟨hM,hb⟩:=h.all _ (Qt ..);have hlt:b<w.heap.size:=(RH.1 hb).1;have hne:∀c,c≠b->(setBlock w b o').heap[c]?=w.heap[c]?:=λc hc=>by
  show(w.heap.setIfInBounds b o')[c]?=_
  grind
 have hnd:=h.nodup;simp only[Rh,As.gh]at hnd;refine⟨h.os,h.tape,h.output,by show _<=(w.heap.setIfInBounds b o').size;simp;exact h.size,λc x hc=>?_,λx hx=>?_,by simpa[Rh,As.gh]using h.nodup⟩
 .rw[hne c (λe=>by grind)];exact h.mem c x hc
 .rcases Qz.1 hx with rfl|hm
  .exact⟨hM,by show(w.heap.setIfInBounds b o')[b]?=_;simp[hlt]⟩
  .have hx':=h.all x (Qx _ hm);refine As.fy hx' (Sub.refl M) λc hc=>⟨hne c λe=>?_,(As.bg hx' hc).2⟩
   grind
theorem _root_.Xe.St.wY{w0 w:QL}{M:Mem}{Γ:List As}{b:Nat}{cur cur':Array Qw}{e:QH}(h:St w0 M (.raw b (.cells cur e (0,0))::Γ) w):St w0 M (.raw b (.cells cur' e (0,0))::Γ) (w.setRow b cur'):=by
 obtain⟨hM,hb⟩:=h.all _ (Qt ..);have hb':=setRow_heap w b cur cur' e (0,0) hb;have hne:∀c,c≠b->(w.setRow b cur').heap[c]?=w.heap[c]?:=λc hc=>setRow_other w b c cur' hc;have hnd:=h.nodup;simp only[Rh,As.gh]at hnd;refine⟨h.os,h.tape,h.output,by show _<=(w.heap.modify b _).size;simp;exact h.size,λc x hc=>?_,λx hx=>?_,by simpa[Rh,As.gh]using h.nodup⟩
 .rw[hne c (λe=>by grind)];exact h.mem c x hc
 .rcases Qz.1 hx with rfl|hm
  .exact⟨hM,hb'⟩
  .have hx':=h.all x (Qx _ hm);refine As.fy hx' (Sub.refl M) λc hc=>⟨hne c λe=>?_,(As.bg hx' hc).2⟩
   grind
theorem _root_.Xe.St.Iv{w0 w:QL}{M:Mem}{Γ:List As}{b n c sz:Nat}{cur:Array Qw}{e:QH}{us:List Qw}(h:St w0 M (.raw b (.cells cur e (0,0))::Γ) w)(hnc:n<=c)(hcm:c<=Ti)(hs:cur.size=c*sz)(hl:us.length=n*sz)(ht:cur.toList.take (n*sz)=us) :
  St w0 M (.acc (.slice (some ⟨b,0,none⟩) n c) e sz n us::Γ) w:=by
 obtain⟨hM,hb⟩:=h.all _ (Qt ..);refine⟨h.os,h.tape,h.output,h.size,h.mem,λx hx=>?_,by simpa[Rh,As.gh,RN]using h.nodup⟩;rcases Qz.1 hx with rfl|hx
 .exact⟨⟨hl,.inr ⟨b,c,cur,rfl,Rr _,hb,hnc,hcm,hs,ht⟩⟩,λk hk=>by
   simp only[RN,Qq]at hk
   rw[<-hk];exact hM⟩
 .exact h.all x (Qx _ hx)
section
variable {P:QE} {w:QL}
theorem qd(t ty e:QH)(i:TypeInfo)(ht:P.underlying t=some (.slice e))(hi:P.info? e=some i)(g o sLen sCap:Nat)(cur:Array Qw)(e2:QH)(hg:w.heap[g]?=some (.cells cur e2 (0,0)))
  (x:Qw) (m:Nat) (news:List Qw) (hlen:(SU x).run P w=.ok m w) (hf:(Sx i.size m x).run P w=.ok news.toArray w) (h1:∀u∈news,u.oneCell'=true)
  (hroom:sLen+m<=sCap) (hfit:o+sLen*i.size+news.length<=cur.size) :
  (RV #[t,t] ty #[.slice (some ⟨g,o,none⟩) sLen sCap,x]).run P w =
   .ok (.slice (some ⟨g,o,none⟩) (sLen+m) sCap) (w.setRow g (cur.toList.take (o+sLen*i.size)++news++cur.toList.drop (o+sLen*i.size+news.length)).toArray):=by
 have hst:=YK P g (o+sLen*i.size) e2 news 0 cur w hg Q0 h1;simp only[RY]at hst;have ha:(⟨g,o,none⟩:Addr).add (sLen*i.size)=⟨g,o+sLen*i.size,none⟩:=by rw[YL]
 simp[RV,QN ht,TS,TJ,hi,hlen,hroom,hf,ha,hst]
theorem jO(t ty e:QH)(i:TypeInfo)(ht:P.underlying t=some (.slice e))(hi:P.info? e=some i)(ad:Option Addr)(sLen sCap:Nat)
  (x:Qw) (hlen:(SU x).run P w=.ok 0 w) (hf:(Sx i.size 0 x).run P w=.ok #[] w) (hroom:sLen<=sCap) :
  (RV #[t,t] ty #[.slice ad sLen sCap,x]).run P w=.ok (.slice ad sLen sCap) w:=by
 cases ad with
 |none=>simp[RV,QN ht,TS,TJ,hi,hlen,hroom,hf]
 |some a=>simp[RV,QN ht,TS,TJ,hi,hlen,hroom,hf,storeCells]
theorem xa(t ty e:QH)(i:TypeInfo)(z:Qw)(ht:P.underlying t=some (.slice e))(hi:P.info? e=some i)(hz:i.zero=some z)
  (ad:Option Addr) (sLen sCap:Nat) (olds:List Qw) (ho:(Sx i.size sLen (.slice ad sLen sCap)).run P w.drew=.ok olds.toArray w.drew)
  (x:Qw) (n:Nat) (news:List Qw) (hlen:(SU x).run P w=.ok n w) (hf:(Sx i.size n x).run P w.drew=.ok news.toArray w.drew)
  (hg:sCap<sLen+n) (h63:((sLen+n:Nat):Int)<=9223372036854775807) (hfit:W3 (sLen+n) sCap*i.bytes<=281474976710656) :
  (RV #[t,t] ty #[.slice ad sLen sCap,x]).run P w =
   .ok (.slice (some ⟨w.heap.size,0,none⟩) (sLen+n) (To w (sLen+n) sCap e))
    (w.drew.alloc (.cells (olds.toArray++news.toArray++RD z.cells (To w (sLen+n) sCap e-(sLen+n))) e)):=by
 have hn:¬(sLen+n<=sCap):=Q0;have h63':¬(9223372036854775807<((sLen:Int)+(n:Int))):=Q0;have h48':¬(281474976710656<W3 (sLen+n) sCap*i.bytes):=Q0;simp[RV,QN ht,TS,TJ,zeroValue,hi,hz,hlen,hn,h63',h48',Question.forced,hf,ho,newRow,To]
 congr 2
 apply Array.ext';simp[QU]
end
theorem gz.run{P:QE}{w0 w:QL}{M:Mem}{Γ:List As}{x:Qw}{sz m:Nat}{news:List Qw}(hs:gz w0 M Γ x sz m news)(hw:St w0 M Γ w):(SU x).run P w=.ok m w/\(Sx sz m x).run P w=.ok news.toArray w:=by
 obtain⟨hl,h1,hsrc⟩:=hs;rcases hsrc with⟨p,c,rfl,hnews⟩|⟨rfl,c,rfl⟩
 .exact⟨by simp[SU],Yo w sz m p m c news hl (hnews w hw)⟩
 .have e0:news=[]:=Rg Q0;subst e0;exact⟨by simp[SU],Yp w sz 0 0 c⟩
section
variable {P:QE} {tb:Tb} {Is:Cx} {n:Nat} {w0:QL} {Γ0:List As} {fr:Fr} {ρ:Nat->Option Qw} {M:Mem} {lst:List (Nat×As)} {a:Act} {w:QL} {fs fo:List Nat} {o:Out} {Q:Exit->Act->QL->Prop} {ty:QH} {pos:String} {af:Array Edge} {g:Option (Nat×Bool)} {d:Nat}
def xe(fr:Fr)(b e sz N:Nat)(ds:List D):Prop:=fr.ob b=some (.w e sz N ds)\/fr.ob b=some (.x e sz N ds)
theorem Bz(h:Rel w0 Γ0 fr ρ M lst (tv a) w){b e sz N:Nat}{ds:List D}(hob:xe fr b e sz N ds):∃ad c us,ρ b=some (.slice ad N c)/\bz M ds us/\us.length=N*sz/\N<=lim/\tm lst b e sz N ad c us:=by
 rcases hob with hob|hob
 .obtain⟨ad,c,us,h1,h2,h3,h4,h5⟩:=h.ob b _ hob;exact⟨ad,c,us,h1,h3,h4,h5,.inl h2⟩
 .exact h.ob b _ hob
theorem BA{sz:Nat}{s:S}{k:Nat->Nat->Nat->Nat->Nat->List D->bj}{nzz:bj}(hr:R1 Is fr (Nl sz s k nzz) fs fo o) :
  (∃fo',R1 Is fr nzz fs fo' o/\((∃b,s=.c (.w b)/\∀e N ds,¬xe fr b e sz N ds)\/(∃b q sz' l n,s=.c (.y b q sz' l n))\/(∀b,s≠.c (.w b)))) \/
  ∃b l n N e ds fo',R1 Is fr (k b l n N e ds) fs fo' o/\xe fr b e sz N ds/\((s=.c (.w b)/\l=0/\n=N)\/s=.c (.y b 0 sz l n)):=by
 unfold Nl at hr;split at hr
 .rename_i b;change R1 Is fr (match fr.ob b with|some (.w e sz' N ds)=>_|some (.x e sz' N ds)=>_|_=>_) _ _ _ at hr;split at hr
  .rename_i e sz' N ds hob;split at hr
   .rename_i hb;have e1:=Qp hb;subst e1;exact .inr ⟨b,0,N,N,e,ds,_,hr,.inl hob,.inl ⟨rfl,rfl,rfl⟩⟩
   .exact hr.elim
  .rename_i e sz' N ds hob;split at hr
   .rename_i hb;have e1:=Qp hb;subst e1;exact .inr ⟨b,0,N,N,e,ds,_,hr,.inr hob,.inl ⟨rfl,rfl,rfl⟩⟩
   .exact hr.elim
  .rename_i x h1 h2;refine .inl ⟨_,hr,.inl ⟨b,rfl,λe N ds hob=>?_⟩⟩;rcases hob with hob|hob
   .exact h1 _ _ _ _ hob
   .exact h2 _ _ _ _ hob
 .rename_i b q sz' l n;change R1 Is fr (match fr.ob b with|some (.w e sz' N ds)=>_|some (.x e sz' N ds)=>_|_=>_) _ _ _ at hr;split at hr
  .rename_i e sz2 N ds hob;split at hr
   .rename_i hb;simp only[QA]at hb;have e1:=Qp hb.1;have e2:=Qp hb.2.1;have e3:=Qp hb.2.2;subst e1 e2 e3;exact .inr ⟨b,l,n,N,e,ds,_,hr,.inl hob,.inr rfl⟩
   .exact hr.elim
  .rename_i e sz2 N ds hob;split at hr
   .rename_i hb;simp only[QA]at hb;have e1:=Qp hb.1;have e2:=Qp hb.2.1;have e3:=Qp hb.2.2;subst e1 e2 e3;exact .inr ⟨b,l,n,N,e,ds,_,hr,.inr hob,.inr rfl⟩
   .exact hr.elim
  .exact .inl ⟨_,hr,.inr (.inl ⟨b,q,sz',l,n,rfl⟩)⟩
 .rename_i hne _;exact .inl ⟨_,hr,.inr (.inr λb e=>hne b e)⟩
theorem nb(h:Rel w0 Γ0 fr ρ M lst (tv a) w){b e sz N l m:Nat}{ds:List D}(hob:xe fr b e sz N ds){s:S}{v:Qw}(hs:(s=.c (.w b)/\l=0/\m=N)\/s=.c (.y b 0 sz l m))(hv:SR M ρ s v) :
  ∃ad0 c0 us ad c,ρ b=some (.slice ad0 N c0)/\bz M ds us/\us.length=N*sz/\N<=lim/\tm lst b e sz N ad0 c0 us/\v=.slice ad m c/\l+m<=N/\l+c=c0/\m<=c/\(N<=c0/\c0<=Ti)/\(0<c->ad=some (fT ad0 (l*sz))):=by
 obtain⟨ad0,c0,us,h1,h2,h3,h4,h5⟩:=Bz h hob;have hc:=h5.cap h.st;rcases hs with⟨rfl,rfl,rfl⟩|rfl
 .have e1:ρ b=some v:=hv.1;rw[h1]at e1;simp only[Qq]at e1;subst e1;refine⟨ad0,c0,us,ad0,c0,h1,h2,h3,h4,h5,rfl,Q0,Q0,hc.1,hc,λhc0=>?_⟩;rcases h5 with h5|⟨_,_,g,l0,cur,h7,_⟩
  .obtain⟨⟨_,hh⟩,_⟩:=h.st.all _ (List.mem_append_left _ (Rl h5));rcases hh with⟨e4,e5⟩|⟨b',cap,cur,e4,_⟩
   .simp only[Ri]at e4;omega
   .simp only[Ri]at e4;rw[e4.1,TP];rfl
  .rw[h7 hc0,TP];rfl
 .obtain⟨ad,c,rfl,hmc,hb⟩:=hv;rcases hb with⟨k,hk,_⟩|⟨a',N',C,hk,_,hl,hcC,hb⟩
  .rw[h1]at hk;cases hk
  .rw[h1]at hk;simp only[Qq,Ri]at hk;obtain⟨rfl,rfl,rfl⟩:=hk;exact⟨ad0,c0,us,ad,c,h1,h2,h3,h4,h5,rfl,hl,hcC,hmc.1,hc,hb⟩
theorem KY(h1:a.tmps.size=n)(h2:a.defers=[])(h:Rel w0 Γ0 fr ρ M lst (tv a) w)(hd:d<n){t:Nat}{x:QM}{lo hi mx:Option QM}(hr:R1 Is fr (cK x λs=>Bt P t s lo hi mx) fs fo o):(⟨some d,.slice t x lo hi mx,ty,pos,af,g⟩:Oper).wp P a w (aX n w0 Γ0 ρ M ((fr.bl (some d) o.v).aJ o.ob)) Q:=by
 have hr0:=bD h hr;clear hr;obtain⟨s,fs1,hr,hs⟩:=hr0;unfold Bt at hr;split at hr
 .exact tY h1 h2 h hd hs hr
 .rename_i e sz hel;split at hr
  .rename_i sz';split at hr
   .rename_i hbe;have e2:=Qp hbe;subst e2;obtain⟨l,fs2,hr2,hlo⟩:=gf h hr;obtain⟨q2,fs3,hr3,hhi⟩:=gf h hr2;obtain⟨⟨rfl,rfl⟩,hr4⟩:=hr3;obtain rfl:=aR hr4;obtain⟨v,hv,hv2⟩:=bp hs (by unfold su;simp);obtain rfl:v=.slice none 0 0:=hv2;have hy:=Y.slice (P:=P) (w0:=w0) (L:=Lf a) (M:=M) (Γ:=lst.map Ra++Γ0) (d:=some d) (ty:=ty) (pos:=pos) (af:=af) (g:=g) (mx:=none) 0 0 0 hv.bm (hlo 0 rfl) (hhi 0 rfl) rfl (.inr rfl) (QW _) (QW _) (QW _) (dA hel);exact aS h1 h2 h rfl hd rfl rfl (show CR M ρ (.l sz') _ from rfl) hy
   .exact hr.elim
  .rename_i hnl;rcases BA hr with⟨fo',hr,_⟩|⟨b,l0,m,N,e',ds,fo',hr,hob,hsb⟩
   .exact tY h1 h2 h hd hs hr
   .have hne:s≠su:=by rcases hsb with⟨rfl,_⟩|rfl <;> (unfold su;simp)
    obtain⟨v,hv,hsv⟩:=bp hs hne;obtain⟨ad0,c0,us,ad,c,k1,k2,k3,k4,k5,rfl,k7,k8,k9,k10,k11⟩:=nb h hob hsb hsv;obtain⟨l,fs2,hr2,hlo⟩:=gf h hr;obtain⟨q2,fs3,hr3,hhi⟩:=gf h hr2;clear hr hr2;cases mx with
    |none=>have hr:=hr3;obtain⟨⟨hl0,hlq,hqm⟩,hr⟩:=hr;obtain rfl:=aR hr;have hy:=Y.slice (P:=P) (w0:=w0) (L:=Lf a) (M:=M) (Γ:=lst.map Ra++Γ0) (d:=some d) (ty:=ty) (pos:=pos) (af:=af) (g:=g) (mx:=none) l.toNat q2.toNat c hv.bm (hlo _ Q0) (hhi _ Q0) rfl (.inr rfl) Q0 Q0 (QW _) (dA hel);refine aS h1 h2 h rfl hd rfl rfl (show CR M ρ (.y b 0 sz (l0+l.toNat) (q2.toNat-l.toNat)) _ from ?_) hy;refine⟨_,c-l.toNat,rfl,⟨Q0,Q0⟩,.inr ⟨ad0,N,c0,k1,rfl,Q0,Q0,λhn=>?_⟩⟩;rw[J1 Q0,k11 Q0];simp[eu,RA]
    |some mo=>have hr:=hr3;obtain⟨m3,fs4,hr,hmx⟩:=gf h hr;obtain⟨⟨hi1,hl0,hlq,hqm,hm⟩,hr⟩:=hr;obtain rfl:=aR hr;have hmx2:jN (Lf a) (some mo) c m3.toNat:=hmx _ Q0;have hy:=Y.slice (P:=P) (w0:=w0) (L:=Lf a) (M:=M) (Γ:=lst.map Ra++Γ0) (d:=some d) (ty:=ty) (pos:=pos) (af:=af) (g:=g) (mx:=some mo) l.toNat q2.toNat m3.toNat hv.bm (hlo _ Q0) (hhi _ Q0) hmx2 (.inl hi1) Q0 Q0 Q0 (dA hel);exact aS h1 h2 h rfl hd rfl rfl (SR_su _) hy
theorem Rel.Nv(h:Rel w0 Γ0 fr ρ M lst (tv a) w){b e sz N:Nat}{ad0:Option Addr}{c0:Nat}{us:List Qw}(_:us.length=N*sz)(hX:tm lst b e sz N ad0 c0 us)(hc:0<c0) :
  ∃g0 l0 cur,ad0=some ⟨g0,l0*sz,none⟩/\cur.size=(l0+c0)*sz/\(cur.toList.drop (l0*sz)).take (N*sz)=us/\w.heap[g0]?=some (.cells cur e (0,0))/\M g0=none /\
   ∃R,St w0 M (.raw g0 (.cells cur e (0,0))::((lst.filter λp=>!Qy p.1 b).map Ra++Γ0)) w/\R=():=by
 rcases hX with hX|⟨_,_,g0,l0,cur,h7,h8,h9,h10⟩
 .have hp:=h.st.fP (h.mem hX);obtain⟨⟨hl,hh⟩,hM⟩:=hp.all _ (Qt ..);rcases hh with⟨e4,e5⟩|⟨g0,cap,cur,e4,_,hb,hnc,hcm,hcs,htk⟩
  .simp only[Ri]at e4;omega
  .simp only[Ri]at e4;obtain⟨rfl,_,rfl⟩:=e4;have hMg:=hM g0 rfl;refine⟨g0,0,cur,Q2,by grind,by grind,hb,hMg,(),?_,rfl⟩;refine⟨hp.os,hp.tape,hp.output,hp.size,hp.mem,λx hx=>?_,by simpa[Rh,As.gh,RN]using hp.nodup⟩;rcases Qz.1 hx with rfl|hx
   .exact⟨hMg,hb⟩
   .exact hp.all x (Qx _ hx)
 .have hp:=h.st.fP (h.mem h8);obtain⟨hM,hb⟩:=hp.all _ (Qt ..);exact⟨g0,l0,cur,h7 hc,h9,h10,hb,hM,(),hp,rfl⟩
theorem bz.sub{M:Mem}{ds:List D}{us:List Qw}(h:bz M ds us)(o n:Nat):bz M (Pm.sub ds o n) ((us.drop o).take n):=by
 refine⟨by simp[Pm.sub,h.1],λk d u h1 h2=>?_⟩;unfold Pm.sub at h1;rw[R8,Sp]at h1 h2;split at h1
 .rename_i hk;rw[J2 hk]at h2;exact h.2 _ d u h1 h2
 .cases h1
theorem bz.takeP{M:Mem}{ds:List D}{us:List Qw}(h:bz M ds us)(n:Nat):bz M (ds.take n) (us.take n):=by have:=bz.sub h 0 n;unfold Pm.sub at this;simpa using this
theorem bz.dropP{M:Mem}{ds:List D}{us:List Qw}(h:bz M ds us)(n:Nat):bz M (ds.drop n) (us.drop n):=by refine⟨by simp[h.1],λk d u h1 h2=>?_⟩;rw[Sp]at h1 h2;exact h.2 _ d u h1 h2
theorem gz.xJ{w0:QL}{M:Mem}{Γ:List As}{ad:Option Addr}{m c sz:Nat}{us:List Qw}{ds:List D}(hr:bz M ds us)(hl:us.length=m*sz)(hs:0<m->ad.isSome=true)(hc:∀w,St w0 M Γ w->∀j u,us[j]?=some u->w.cell? (fT ad j)=some u):gz w0 M Γ (.slice ad m c) sz m us:=by
 refine⟨hl,bz.one hr,?_⟩;cases ad with
 |none =>
  have:m=0:=by
   grind
  exact .inr ⟨this,c,by rw[this]⟩
 |some p=>exact .inl ⟨p,c,rfl,λw' hw' j u hj=>hc w' hw' j u hj⟩
theorem FV(h:Rel w0 Γ0 fr ρ M lst (tv a) w){sz:Nat}{s:S}{k:Nat->List D->bj}(hr:R1 Is fr (C8 sz s k) fs fo o):∃m vs fo',R1 Is fr (k m vs) fs fo' o/\s≠su /\
  ∀v,SR M ρ s v->∃us,bz M vs us/\us.length=m*sz/\∀Γ,(∀w',St w0 M Γ w'->St w0 M (lst.map Ra++Γ0) w')->gz w0 M Γ v sz m us:=by
 unfold C8 at hr;split at hr
 .rename_i b q sz' l n;rcases BA hr with⟨fo',hr,_⟩|⟨b',l',m,N,e,ds,fo',hr,hob,hsb⟩
  .exact hr.elim
  .refine⟨m,_,fo',hr,by unfold su;simp,λv hv=>?_⟩;obtain⟨ad0,c0,us,ad,c,k1,k2,k3,k4,k5,rfl,k7,k8,k9,k10,k11⟩:=nb h hob hsb hv;refine⟨(us.drop (l'*sz)).take (m*sz),?_,?_,λΓ hΓ=>?_⟩
   .exact bz.sub k2 (l'*sz) (m*sz)
   .rw[Rf,RO,k3,<-Uv];exact RU (Rz _ Q0)
   .refine gz.xJ (ds:=sub ds (l'*sz) (m*sz)) (bz.sub k2 _ _) ?_ (λhm=>?_) (λw' hw' j u hj=>?_)
    .rw[Rf,RO,k3,<-Uv];exact RU (Rz _ Q0)
    .rw[k11 Q0];rfl
    .rw[R8,Sp]at hj;split at hj
     .rename_i hjm;have hm:0<m:=by
       grind
      rw[k11 Q0,<-lI];exact(k5.cell (hΓ w' hw') k3 hj).2
     .cases hj
 .obtain⟨m,vs,fo',hr,hk⟩:=F1 h hr;have hne:s≠su:=by rcases hk with rfl|⟨rfl,_⟩|⟨b,rfl,_⟩ <;> (unfold su;simp)
  refine⟨m,vs,fo',hr,hne,λv hv=>?_⟩;obtain⟨ad,c,us,rfl,hc,h3,h4,h5,h6,h7⟩:=ph h hv hk;exact⟨us,h3,h4,λΓ hΓ=>gz.xJ h3 h4 h6 λw' hw' j u hj=>h7 j u hj w' (hΓ w' hw')⟩
theorem BV(h1:a.tmps.size=n)(h2:a.defers=[])(h:Rel w0 Γ0 fr ρ M lst (tv a) w)(hd:d<n){t e sz:Nat}{x y:QM}{s s':S}(hE:gj P t e sz (fJ P e))(hs:s=su\/∃v,eo a x v/\SR M ρ s v)(hs':s'=su\/∃v,eo a y v/\SR M ρ s' v)
  (hr:R1 Is fr (Aw e sz s λn ds os=>C8 sz s' λm vs=>jg (aO (n+m) (fJ P e+1)) (jD (fr.aQ+d) (.c (.w (fr.aQ+d))) os (.w e sz (n+m) (ds++vs)))) fs fo o):(⟨some d,.call ⟨.builtin .append,#[x,y],#[t,t]⟩,ty,pos,af,g⟩:Oper).wp P a w (aX n w0 Γ0 ρ M ((fr.bl (some d) o.v).aJ o.ob)) Q:=by
 obtain⟨m,ds,os,fo1,hr,hne,hg⟩:=grow_R1 (M:=M) (ρ:=ρ) hr;obtain⟨q,xs,fo2,hr,hne',hsrc0⟩:=FV h hr;obtain⟨hroom,hr⟩:=hr;obtain⟨hn,fo',rfl⟩:=fv hr;obtain⟨v,hv,hsv⟩:=bp hs hne;obtain⟨v',hv',hsv'⟩:=bp hs' hne';obtain⟨us,h3,h4,hsrc⟩:=hsrc0 v' hsv';have hroom1:(m+q)*fJ P e<=140737488355328:=by
  unfold aO at hroom
  grind
 have hroom2:m+q<=lim:=by unfold aO at hroom;rw[UP,Td]at hroom;unfold lim;omega
 rcases hg with⟨rfl,rfl,rfl,hnil⟩|⟨b,rfl,hob,rfl⟩
 .obtain rfl:=hnil v hsv;have hst:=h.st.tl e sz;obtain⟨u',w',hrun,hst'⟩:=kY (P:=P) (ty:=ty) hE hst (hsrc _ λw' hw'=>hw'.sub (Tn _ _)) hroom1 hroom2;obtain⟨ad',c',e3,hc'⟩:=ji (hst'.all _ (Qt ..));subst e3;rw[Rk]at hst';obtain⟨hEx,hR'⟩:=h.new (w':=w') (v:=.slice ad' (0+q) c') (o:=.w e sz (0+q) ([]++xs)) hn (Rv _ _) hst' ⟨_,_,us,bT,Qt ..,h3,by grind,hroom2⟩;refine ba h1 h2 rfl hd rfl (Sub.refl M) hEx hR' (v:=.slice ad' (0+q) c') ⟨bT,_,_,_,rfl⟩ ?_;simp[Rc,resolve,invoke,Tm,hv.eval,hv'.eval,hrun]
 .obtain⟨ad0,c0,us0,k1,k2,k3,k4,k5⟩:=h.ob b _ hob;have hvb:ρ b=some v:=hsv.1;rw[k1]at hvb;simp only[Qq]at hvb;subst hvb;have hperm:=h.mem k2;obtain⟨u',w',hrun,hst'⟩:=kY (P:=P) (ty:=ty) hE (h.st.fP hperm) (hsrc _ λw' hw'=>hw'.fP hperm.symm) hroom1 hroom2;obtain⟨ad',c',e3,hc'⟩:=ji (hst'.all _ (Qt ..));subst e3;have hdr:=h.drop b;have hbne:b≠fr.aQ+d:=by grind
  have hn1:(fr.set b .bW).ob (fr.aQ+d)=none:=by rw[cu,J1 (VD hbne)];exact hn
  obtain⟨hEx,hR'⟩:=hdr.new (w':=w') (v:=.slice ad' (m+q) c') (o:=.w e sz (m+q) (ds++xs)) hn1 (Rv _ _) hst' ⟨_,_,us0++us,bT,Qt ..,k3.append h3,by grind,hroom2⟩;refine ba h1 h2 rfl hd rfl (Sub.refl M) hEx hR' (v:=.slice ad' (m+q) c') ⟨bT,_,_,_,rfl⟩ ?_;simp[Rc,resolve,invoke,Tm,hv.eval,hv'.eval,hrun]
theorem ng(h1:a.tmps.size=n)(h2:a.defers=[])(h:Rel w0 Γ0 fr ρ M lst (tv a) w)(hd:d<n){t:Nat}{x y:QM}{s s':S}(hs:s=su\/∃v,eo a x v/\SR M ρ s v)(hs':s'=su\/∃v,eo a y v/\SR M ρ s' v)(hr:R1 Is fr (nD P (fr.aQ+d) t s s') fs fo o):(⟨some d,.call ⟨.builtin .append,#[x,y],#[t,t]⟩,ty,pos,af,g⟩:Oper).wp P a w (aX n w0 Γ0 ρ M ((fr.bl (some d) o.v).aJ o.ob)) Q:=by
 unfold nD at hr;split at hr
 .exact hr.elim
 .rename_i e sz hel;split at hr
  .exact hr.elim
  .rename_i hby;have hE:=gR hel hby;have old:∀fo,R1 Is fr (Aw e sz s λn ds os=>C8 sz s' λm vs=>jg (aO (n+m) (fJ P e+1)) (jD (fr.aQ+d) (.c (.w (fr.aQ+d))) os (.w e sz (n+m) (ds++vs)))) fs fo o ->
     (⟨some d,.call ⟨.builtin .append,#[x,y],#[t,t]⟩,ty,pos,af,g⟩:Oper).wp P a w (aX n w0 Γ0 ρ M ((fr.bl (some d) o.v).aJ o.ob)) Q:=λfo hr=>BV h1 h2 h hd hE hs hs' hr
   split at hr
   .rename_i b2;change R1 Is fr (match fr.ob b2 with|some (.v e2 sz2 m vs)=>_|_=>_) _ _ _ at hr;split at hr
    .rename_i e2 sz2 m vs hob2;split at hr
     .rename_i hb;simp only[QA]at hb;have e1:=Qp hb.1.1;have e2:=Qp hb.1.2;subst e1 e2;exact BU h1 h2 h hd hE hs hs' hob2 hb.2 hr
     .exact hr.elim
    .exact old _ hr
   .exact old _ hr
theorem Le(h1:a.tmps.size=n)(h2:a.defers=[])(h:Rel w0 Γ0 fr ρ M lst (tv a) w)(hd:d<n){t:Nat}{x y:QM}(hr:R1 Is fr (cK x λs=>cK y λv=>nD P (fr.aQ+d) t s v) fs fo o):(⟨some d,.call ⟨.builtin .append,#[x,y],#[t,t]⟩,ty,pos,af,g⟩:Oper).wp P a w (aX n w0 Γ0 ρ M ((fr.bl (some d) o.v).aJ o.ob)) Q:=by obtain⟨s,fs1,hr,hs⟩:=bD h hr;obtain⟨s',fs2,hr,hs'⟩:=bD h hr;exact ng h1 h2 h hd hs hs' hr
theorem C9{cur:List Qw}{o k:Nat}{news us:List Qw}(hl:o+k+news.length<=cur.length)(hu:us=(cur.drop o).take k):((cur.take (o+k)++news++cur.drop (o+k+news.length)).drop o).take (k+news.length)=us++news:=by subst hu;rw[QU,UE,Rf,UM,show o+k-o=k by omega,show o-min (o+k) cur.length=0 by omega,RR];rw[T4,Rf,RO,Ui,show min (k+news.length) k=k by omega,show k+news.length-min k (cur.length-o)=news.length by omega,UT]
theorem Da(cur:Array Qw)(p:Nat)(news:List Qw)(h:p+news.length<=cur.size):(cur.toList.take p++news++cur.toList.drop (p+news.length)).toArray.size=cur.size:=by
 grind
theorem O8(h:Rel w0 Γ0 fr ρ M lst (tv a) w){b e t sz N l m q bts id:Nat}{ds vs:List D}(hid:fr.aQ<=id)(hfree:fr.ob id=none)(hE:gj P t e sz bts)(hob:xe fr b e sz N ds){s:S}{v x:Qw}(hs:(s=.c (.w b)/\l=0/\m=N)\/s=.c (.y b 0 sz l m))(hv:SR M ρ s v)(hlm:l+m=N)(hq:0<q)
  (hsrc:∃us,bz M vs us/\us.length=q*sz/\∀Γ,(∀w',St w0 M Γ w'->St w0 M (lst.map Ra++Γ0) w')->gz w0 M Γ x sz q us) (hroom1:(m+q)*bts<=140737488355328) (hroom2:m+q<=lim) :
  ∃w' u ρ' lst',(RV #[t,t] ty #[v,x]).run P w=.ok u w'/\Ext ρ ρ'/\ρ' id=some u/\(∃a' n' c',u=.slice a' n' c')/\Rel w0 Γ0 ((fr.set b .bW).set id (.x e sz (m+q) (sub ds (l*sz) (m*sz)++vs))) ρ' M lst' (tv a) w':=by
 obtain⟨ht,⟨i,z,hi,hz,hsize,hby,hzs⟩,hpos⟩:=hE;obtain⟨ad0,c0,us,ad,c,k1,k2,k3,k4,k5,rfl,k7,k8,k9,k10,k11⟩:=nb h hob hs hv;obtain⟨news,n1,n2,n3⟩:=hsrc;have hlim:m+q<=Ti:=by unfold lim at hroom2;unfold Ti;omega
 have hso:=n3 _ (λ_ h=>h);obtain⟨r1,r2⟩:=Pm.gz.run (P:=P) hso h.st;have hold:((us.drop (l*sz)).take (m*sz)).length=m*sz:=by
  rw[Rf,RO,k3,<-Uv]
  grind
 have hdr:=h.drop b;have hbne:b≠id:=by rintro rfl;rcases hob with hob|hob <;> (rw[hfree]at hob;cases hob)
 have hn1:(fr.set b .bW).ob id=none:=by rw[cu,J1 (VD hbne)];exact hfree
 have hdata:bz M (sub ds (l*sz) (m*sz)++vs) ((us.drop (l*sz)).take (m*sz)++news):=(bz.sub k2 _ _).append n1;have hlen2:((us.drop (l*sz)).take (m*sz)++news).length=(m+q)*sz:=by grind
 subst hsize;subst hby;by_cases hroom:m+q<=c
 .obtain⟨g0,l0,cur,q1,q2,q3,q4,q5,_,q6,_⟩:=h.Nv k3 k5 Q0;have had:ad=some ⟨g0,(l0+l)*i.size,none⟩:=by rw[k11 Q0,q1,cx,RA]
  subst had;have hsz:(l0+l)*i.size+m*i.size+news.length<=cur.size:=by rw[q2,n2,<-RA,<-RA];exact Rz _ Q0
  have hrun:=qd (P:=P) (w:=w) t ty e i ht hi g0 ((l0+l)*i.size) m c cur e q4 x q news r1 r2 hso.2.1 hroom hsz;have hst:=q6.wY (cur':=(cur.toList.take ((l0+l)*i.size+m*i.size)++news++cur.toList.drop ((l0+l)*i.size+m*i.size+news.length)).toArray);obtain⟨hEx,hR'⟩:=hdr.new (w':=w.setRow g0 _) (v:=.slice (some ⟨g0,(l0+l)*i.size,none⟩) (m+q) c) (o:=.x e i.size (m+q) (sub ds (l*i.size) (m*i.size)++vs)) hn1 hid hst
   ⟨_,_,_,bT,hdata,hlen2,hroom2,.inr ⟨hroom,Q0,g0,l0+l,_,λ_=>rfl,Qt ..,by rw[Da _ _ _ hsz,q2];congr 1;omega,by
    rw[show(m+q)*i.size=m*i.size+news.length by grind];refine C9 Q0 ?_;rw[<-q3,UM,SE,Ui,<-RA]
    congr 1
    rw[<-Uv,RU (Rz _ Q0)]⟩⟩
  exact⟨_,_,_,_,hrun,hEx,bT,⟨_,_,_,rfl⟩,hR'⟩
 .have hrm:c<m+q:=Q0;have hfit:=growslice_fits (need:=m+q) (old:=c) (bytes:=i.bytes) hrm hroom1;have hstd:=h.st.iM (w.drawn+1);obtain⟨_,r2'⟩:=Pm.gz.run (P:=P) hso hstd;have hof:(Sx i.size m (.slice ad m c)).run P w.drew=.ok ((us.drop (l*i.size)).take (m*i.size)).toArray w.drew:=by
   have:=gz.xJ (w0:=w0) (M:=M) (Γ:=lst.map Ra++Γ0) (ad:=ad) (c:=c) (ds:=sub ds (l*i.size) (m*i.size)) (bz.sub k2 (l*i.size) (m*i.size)) hold (λhm=>by grind) (λw' hw' j u hj=>by
    rw[R8,Sp]at hj;split at hj
    .rename_i hjm;have hm:0<m:=by
      grind
     rw[k11 Q0,<-lI];exact(k5.cell hw' k3 hj).2
    .cases hj)
   exact(Pm.gz.run (P:=P) this hstd).2
  have hrun:=xa (P:=P) (w:=w) t ty e i z ht hi hz ad m c _ hof x q news r1 r2' hrm (by unfold lim at hroom2;omega) hfit;have hge:=grownCap_ge w (m+q) c e;have hcm:To w (m+q) c e<=Ti:=Yy w (m+q) c e hlim;have hst:=(hdr.st.iM (w.drawn+1)).Gz (.cells (((us.drop (l*i.size)).take (m*i.size)).toArray++news.toArray++RD z.cells (To w (m+q) c e-(m+q))) e);obtain⟨hEx,hR'⟩:=hdr.new (w':=w.drew.alloc _) (v:=.slice (some ⟨w.heap.size,0,none⟩) (m+q) (To w (m+q) c e)) (o:=.x e i.size (m+q) (sub ds (l*i.size) (m*i.size)++vs)) hn1 hid hst
   ⟨_,_,_,bT,hdata,hlen2,hroom2,.inr ⟨hge,hcm,w.heap.size,0,_,λ_=>by grind,Qt ..,by
    simp only[XM,List.size_toArray,TY,hzs,hold,n2,<-RA]
    congr 1
    omega,by
    rw[TP,RR];simp only[UU,QU];rw[<-QU,<-hlen2]
    exact UT⟩⟩
  exact⟨_,_,_,_,hrun,hEx,bT,⟨_,_,_,rfl⟩,hR'⟩
theorem rB{cur:List Qw}{p k:Nat}{news:List Qw}(h1:p+news.length<=k)(h2:k<=cur.length):(cur.take p++news++cur.drop (p+news.length)).take k=(cur.take k).take p++news++(cur.take k).drop (p+news.length):=by rw[QU,T4,T4,Rf,Ui,Ui,UM,QU];rw[show min k p=p by omega,show min p k=p by omega,show min p cur.length=p by omega,Rj (show news.length<=k-p by omega),show k-p-news.length=k-(p+news.length) by omega]
theorem Rel.Nx(h:Rel w0 Γ0 fr ρ M lst (tv a) w){b e sz N:Nat}{ad0:Option Addr}{c0:Nat}{us:List Qw}(_:us.length=N*sz)(hX:(b,As.acc (.slice ad0 N c0) e sz N us)∈lst)(hc:0<c0) :
  ∃g0 cur,ad0=some ⟨g0,0,none⟩/\cur.size=c0*sz/\cur.toList.take (N*sz)=us/\w.heap[g0]?=some (.cells cur e (0,0))/\St w0 M (.raw g0 (.cells cur e (0,0))::((lst.filter λp=>!Qy p.1 b).map Ra++Γ0)) w:=by
 have hp:=h.st.fP (h.mem hX);obtain⟨⟨hl,hh⟩,hM⟩:=hp.all _ (Qt ..);rcases hh with⟨e4,e5⟩|⟨g0,cap,cur,e4,_,hb,hnc,hcm,hcs,htk⟩
 .simp only[Ri]at e4;omega
 .simp only[Ri]at e4;obtain⟨rfl,_,rfl⟩:=e4;have hMg:=hM g0 rfl;refine⟨g0,cur,rfl,hcs,htk,hb,?_⟩;refine⟨hp.os,hp.tape,hp.output,hp.size,hp.mem,λx hx=>?_,by simpa[Rh,As.gh,RN]using hp.nodup⟩;rcases Qz.1 hx with rfl|hx
  .exact⟨hMg,hb⟩
  .exact hp.all x (Qx _ hx)
theorem Iw{k q bts:Nat}(h:aO (k+q) (bts+1)):(k+q)*bts<=140737488355328/\k+q<=lim:=by unfold aO at h;rw[UP,Td]at h;unfold lim;omega
theorem Gv(h1:a.tmps.size=n)(h2:a.defers=[])(h:Rel w0 Γ0 fr ρ M lst (tv a) w)(hd:d<n){t:Nat}{x y:QM}(hr:R1 Is fr (cK x λs=>cK y λv=>yL P (fr.aQ+d) t s v) fs fo o):(⟨some d,.call ⟨.builtin .append,#[x,y],#[t,t]⟩,ty,pos,af,g⟩:Oper).wp P a w (aX n w0 Γ0 ρ M ((fr.bl (some d) o.v).aJ o.ob)) Q:=by
 have hr0:=bD h hr;clear hr;obtain⟨s,fs1,hr1,hs⟩:=hr0;have hr0:=bD h hr1;clear hr1;obtain⟨s',fs2,hr,hs'⟩:=hr0;unfold yL at hr;split at hr
 .rename_i b0 q0 sz0 l0 n0;split at hr
  .rename_i e0 sz hel;split at hr
   .rename_i hby;have hE:=gR hel hby;rcases BA hr with⟨fo',hr,_⟩|⟨b,l,m,N,e,ds,fo1,hr2,hob,hsb⟩
    .exact hr.elim
    .clear hr;obtain⟨q,vs,fo2,hr,hne',hsrc⟩:=FV h hr2;clear hr2;obtain⟨v,hv,hsv⟩:=bp hs (by unfold su;simp);obtain⟨v',hv',hsv'⟩:=bp hs' hne';have hsrc:=hsrc v' hsv';have hsb':S.c (C.y b0 q0 sz0 l0 n0)=.c (.y b 0 sz l m):=by
      grind
     simp only[S.c.injEq,C.y.injEq]at hsb';obtain⟨e1,e2,e3,e4,e5⟩:=hsb';have e1:=e1.symm;have e3:=e3.symm;have e4:=e4.symm;have e5:=e5.symm;subst e1 e2 e3 e4 e5;rcases hr with⟨hq,hr⟩|⟨hq,hr⟩
     .-- nothing
      have hq:=J7 hq;subst hq;obtain rfl:=aR hr;obtain⟨ad0,c0,us,ad,c,k1,k2,k3,k4,k5,rfl,k7,k8,k9,k10,k11⟩:=nb h hob hsb hsv;obtain⟨news,n1,n2,n3⟩:=hsrc;obtain⟨ht,⟨i,z,hi,hz,hsize,hby',hzs⟩,hpos⟩:=hE;have hso:=n3 _ (λ_ h=>h);obtain⟨r1,r2⟩:=Pm.gz.run (P:=P) hso h.st;have e0:news=[]:=Rg Q0;subst e0;subst hsize;have hrun:=jO (P:=P) (w:=w) t ty _ i ht hi ad m c v' r1 r2 k9;refine ba h1 h2 rfl hd rfl (Sub.refl M) (Ext.refl ρ) h (v:=.slice ad m c) hsv ?_;simp[Rc,resolve,invoke,Tm,hv.eval,hv'.eval,hrun]
     .have hq:0<q:=XX (of_decide_eq_false hq);rcases hr with⟨hin,hr⟩|⟨hin,hr⟩
      .have hin:=J7 hin;have hw:fr.ob b=some (.w e sz N ds)/\o=⟨some (.c (.y b 0 sz l (m+q))),[(b,.w e sz N (cQ ds ((l+m)*sz) vs))],o.fs,o.fo⟩:=by
        unfold rowH at hr;change R1 Is fr (match fr.ob b with|some (.w e sz2 N ds)=>_|_=>_) _ _ _ at hr;split at hr
        .rename_i e2 sz2 N2 ds2 hob2;split at hr
         .have hr':o=_:=hr;rcases hob with hob|hob
          all_goals grind
         .exact hr.elim
        .exact hr.elim
       obtain⟨hw,ho⟩:=hw;generalize o.fs=ofs at ho;generalize o.fo=ofo at ho;subst ho;obtain⟨ad0,c0,_,ad,c,k1,_,_,_,_,rfl,k7,k8,k9,k10,k11⟩:=nb h hob hsb hsv;obtain⟨ad1,c1,us,p1,p2,p3,p4,p5⟩:=h.ob b _ hw;rw[k1]at p1;simp only[Qq,Ri,true_and]at p1;obtain⟨rfl,rfl⟩:=p1;obtain⟨news,n1,n2,n3⟩:=hsrc;obtain⟨ht,⟨i,z,hi,hz,hsize,hby',hzs⟩,hpos⟩:=hE;have hso:=n3 _ (λ_ h=>h);obtain⟨r1,r2⟩:=Pm.gz.run (P:=P) hso h.st;subst hsize;obtain⟨g0,cur,q1,q2,q3,q4,q6⟩:=h.Nx p4 p2 Q0;have had:ad=some ⟨g0,l*i.size,none⟩:=by rw[k11 Q0,q1,cx,Rn]
       subst had;have hsz0:l*i.size+m*i.size+news.length<=N*i.size:=by rw[n2,<-RA,<-RA];exact Rz _ Q0
       have hNc:N*i.size<=cur.size:=by grind
       have hsz:l*i.size+m*i.size+news.length<=cur.size:=Q0;have hrun:=qd (P:=P) (w:=w) t ty _ i ht hi g0 (l*i.size) m c cur e q4 v' q news r1 r2 hso.2.1 Q0 hsz;have hst:=q6.wY (cur':=(cur.toList.take (l*i.size+m*i.size)++news++cur.toList.drop (l*i.size+m*i.size+news.length)).toArray)
       have hst2:=hst.Iv (n:=N) (c:=c0) (sz:=i.size) (us:=us.take (l*i.size+m*i.size)++news++us.drop (l*i.size+m*i.size+news.length)) Q0 Q0 (by grind) (by
         simp only[QC,Rf,RO,p4];omega) (by
         rw[<-q3]
         exact rB hsz0 Q0)
       rw[<-q1]at hst2
       have hR':=h.cQ (o:=.w e i.size N (cQ ds ((l+m)*i.size) vs)) p2 hst2 ⟨ad0,c0,_,k1,Qt ..,(by
        unfold cQ;rw[RA,n1.1.symm]
        exact((bz.takeP p3 _).append n1).append (bz.dropP p3 _)),(by grind),p5⟩
       refine ba h1 h2 rfl hd rfl (Sub.refl M) (Ext.refl ρ) hR' (v:=.slice (some ⟨g0,l*i.size,none⟩) (m+q) c) ⟨_,c,rfl,⟨Q0,Q0⟩,.inr ⟨ad0,N,c0,k1,rfl,Q0,k8,k11⟩⟩ ?_;simp[Rc,resolve,invoke,Tm,hv.eval,hv'.eval,hrun]
      .obtain⟨⟨hlm,hroom⟩,hr⟩:=hr;split at hr
       .rename_i hee;have hee:=Qp hee;subst hee;obtain⟨hn,fo',rfl⟩:=fv hr;obtain⟨hrm1,hrm2⟩:=Iw hroom;obtain⟨w',u,ρ',lst',g1,g2,g3,g4,g5⟩:=O8 (P:=P) (ty:=ty) h (Rv _ _) hn hE hob hsb hsv hlm hq hsrc hrm1 hrm2;refine ba h1 h2 rfl hd rfl (Sub.refl M) g2 g5 (v:=u) ⟨g3,g4⟩ ?_;simp[Rc,resolve,invoke,Tm,hv.eval,hv'.eval,g1]
       .exact hr.elim
   .exact hr.elim
  .exact hr.elim
 .rename_i sz0;split at hr
  .rename_i e0 sz hnone hel;split at hr
   .rename_i hbe;have e2:=Qp hbe;subst e2;obtain rfl:=aR hr;obtain⟨v,hv,hv2⟩:=bp hs (by unfold su;simp);obtain rfl:v=.slice none 0 0:=hv2;have hne':s'≠su:=by rintro rfl;cases hnone
    obtain⟨v',hv',hsv'⟩:=bp hs' hne';obtain⟨hu,hsz⟩:=dR (dA hel);have hnil:∃a' c',v'=.slice a' 0 c':=by
     unfold noneH at hnone;split at hnone
     .exact⟨none,0,hsv'⟩
     .rename_i n' _ _;have e0:=Qp hnone;subst e0;obtain⟨a',c',hx,_⟩:=Rd.slice (show Rd M (.sl 0 _ _) v' from hsv');exact⟨a',c',hx⟩
     .cases hnone
    obtain⟨a',c',rfl⟩:=hnil;obtain⟨i,hi⟩:∃i,P.info? e0=some i:=by
     unfold mf at hsz
     grind
    have hfc:(Sx i.size 0 (.slice a' 0 c')).run P w=.ok #[] w:=by
     cases a' with
     |none=>exact Yp w _ _ _ _
     |some p=>exact Yo w _ 0 p 0 c' [] Q2 Q2
    have hrun:=jO (P:=P) (w:=w) t ty _ i hu hi none 0 0 (.slice a' 0 c') (by simp[SU]) hfc (QW _);refine ba h1 h2 rfl hd rfl (Sub.refl M) (Ext.refl ρ) h (v:=.slice none 0 0) (show CR M ρ (.l sz) _ from rfl) ?_;simp[Rc,resolve,invoke,Tm,hv.eval,hv'.eval,hrun]
   .exact hr.elim
  .exact ng h1 h2 h hd hs hs' hr
 .rename_i b;change R1 Is fr (match fr.ob b with|some (.x e sz n ds)=>_|_=>_) _ _ _ at hr;split at hr
  .rename_i e sz N ds hob;split at hr
   .rename_i e0 sz0 hel;split at hr
    .rename_i hbb;simp only[QA]at hbb;have hE:=gR hel hbb.1;have e1:=Qp hbb.2.1;have e2:=Qp hbb.2.2;subst e1 e2;obtain⟨q,vs,fo2,hr2,hne',hsrc⟩:=FV h hr;clear hr;have hr:=hr2;clear hr2;obtain⟨v,hv,hsv⟩:=bp hs (by unfold su;simp);obtain⟨v',hv',hsv'⟩:=bp hs' hne';have hsrc:=hsrc v' hsv';rcases hr with⟨hq,hr⟩|⟨hq,hr⟩
     .have hq:=J7 hq;subst hq;obtain rfl:=aR hr;obtain⟨ad0,c0,us,ad,c,k1,k2,k3,k4,k5,rfl,k7,k8,k9,k10,k11⟩:=nb h (.inr hob) (.inl ⟨rfl,rfl,rfl⟩) hsv;obtain⟨news,n1,n2,n3⟩:=hsrc;obtain⟨ht,⟨i,z,hi,hz,hsize,hby',hzs⟩,hpos⟩:=hE;have hso:=n3 _ (λ_ h=>h);obtain⟨r1,r2⟩:=Pm.gz.run (P:=P) hso h.st;have e0:news=[]:=Rg Q0;subst e0;subst hsize;have hrun:=jO (P:=P) (w:=w) t ty _ i ht hi ad N c v' r1 r2 k9;refine ba h1 h2 rfl hd rfl (Sub.refl M) (Ext.refl ρ) h (v:=.slice ad N c) hsv ?_;simp[Rc,resolve,invoke,Tm,hv.eval,hv'.eval,hrun]
     .have hq:0<q:=XX (of_decide_eq_false hq);obtain⟨hroom,hr⟩:=hr;obtain⟨hn,fo',rfl⟩:=fv hr;obtain⟨hrm1,hrm2⟩:=Iw hroom;obtain⟨w',u,ρ',lst',g1,g2,g3,g4,g5⟩:=O8 (P:=P) (ty:=ty) h (Rv _ _) hn hE (.inr hob) (.inl ⟨rfl,rfl,rfl⟩) hsv (Rn _) hq hsrc hrm1 hrm2;have hds:sub ds (0*sz) (N*sz)=ds:=by obtain⟨ad0,c0,us,k1,k2,k3,_⟩:=h.ob b _ hob;unfold sub;rw[TP,RR];exact Rj (by rw[<-k2.1,k3];exact QW _)
      rw[hds]at g5;refine ba h1 h2 rfl hd rfl (Sub.refl M) g2 g5 (v:=u) ⟨g3,g4⟩ ?_;simp[Rc,resolve,invoke,Tm,hv.eval,hv'.eval,g1]
    .exact hr.elim
   .exact hr.elim
  .exact ng h1 h2 h hd hs hs' hr
 .exact ng h1 h2 h hd hs hs' hr
end
section
variable {P:QE} {tb:Tb} {Is:Cx} {n:Nat} {w0:QL} {Γ0:List As} {fr:Fr} {ρ:Nat->Option Qw} {M:Mem} {lst:List (Nat×As)} {a:Act} {w:QL} {fs fo:List Nat} {o:Out} {Q:Exit->Act->QL->Prop} {ty:QH} {pos:String} {af:Array Edge} {g:Option (Nat×Bool)} {d:Nat}
theorem IV(_:Rel w0 Γ0 fr ρ M lst (tv a) w){t e:QH}(hu:P.underlying t=some (.slice e)){v:Qw}{b:Bool}(hv:∃ad n c,v=.slice ad n c/\b=ad.isNone):(Go.binOp .eql t v (.slice none 0 0)).run P w=.ok (.bool b) w/\(Go.binOp .neq t v (.slice none 0 0)).run P w=.ok (.bool (!b)) w:=by obtain⟨ad,n,c,rfl,rfl⟩:=hv;exact⟨Go.Lib.run_eql_slice_nil w t e ad n c 0 0 hu,Go.run_neq_slice_nil w t e ad n c hu⟩
theorem nil_R1(h:Rel w0 Γ0 fr ρ M lst (tv a) w){t:Nat}{s1 s2:S}{k:Bool->bj}{nzz:bj}(hr:R1 Is fr (N7 P t s1 s2 k nzz) fs fo o):(∃fo',R1 Is fr nzz fs fo' o)\/∃b fo' e,R1 Is fr (k b) fs fo' o/\P.underlying t=some (.slice e)/\s1≠su/\s2=.c .n/\∀v,SR M ρ s1 v->∃ad n c,v=.slice ad n c/\b=ad.isNone:=by
 unfold N7 at hr;split at hr
 .rename_i p sz hel;exact .inr ⟨true,fo,_,hr,(dR (dA hel)).1,by unfold su;simp,rfl,λv hv=>⟨none,0,0,hv,rfl⟩⟩
 .rename_i p hel;exact .inr ⟨true,fo,_,hr,(dR (dA hel)).1,by unfold su;simp,rfl,λv hv=>⟨none,0,0,hv,rfl⟩⟩
 .rename_i p b hel;change R1 Is fr (match fr.ob b with|some (.w _ _ n _)=>_|_=>_) _ _ _ at hr;split at hr
  .rename_i e sz m ds hob;split at hr
   .exact hr.elim
   .rename_i m';refine .inr ⟨false,_,_,hr,(dR (dA hel)).1,by unfold su;simp,rfl,λv hv=>?_⟩;obtain⟨ad,c,us,h1,h2,h3,h4,h5⟩:=h.ob b _ hob;have e1:ρ b=some v:=hv.1;rw[h1]at e1;simp only[Qq]at e1;subst e1;refine⟨ad,_,c,rfl,?_⟩;have:=(CK h h2).2 Q0;simp_all
  .exact hr.elim
 .rename_i p m sz ds hel;split at hr
  .exact hr.elim
  .rename_i m';refine .inr ⟨false,_,_,hr,(dR (dA hel)).1,by unfold su;simp,rfl,λv hv=>?_⟩;have hv:Rd M (.sl (m'+1) sz ds) v:=hv;simp only[Rd]at hv;obtain⟨ad,c,rfl,_,_,_,_,h6,_⟩:=hv;simp_all
 .exact .inl ⟨fo,hr⟩
theorem D4{s:S}{ds:List D}(hs:IU s=some ds){v:Qw}(hv:SR M ρ s v):∃us,v=.agg us.toArray/\bz M ds us:=by
 unfold IU at hs;split at hs
 .simp only[Qq]at hs;subst hs;obtain⟨_,us,h1,h2⟩:=hv;exact⟨us,h1,h2⟩
 .obtain⟨us,h1,h2⟩:=hv;exact⟨us,h1,(vD h2 hs).1⟩
 .cases hs
theorem ok_binH(h1:a.tmps.size=n)(h2:a.defers=[])(h:Rel w0 Γ0 fr ρ M lst (tv a) w)(hd:d<n)(hT:lS P tb){op:BinOp}{x y:QM}{t t':QH}(hr:R1 Is fr (match Qy t t' with
    |true=>cK x λa=>cK y λb=>(match tb.hp,op with
     |true,.eql=>Ma P tb t a b mg (CC P tb op t a b)
     |true,.neq=>Ma P tb t a b (λb=>mg (!b)) (CC P tb op t a b)
     |_,_=>CC P tb op t a b)
    |false=>.no) fs fo o):(⟨some d,.binOp op t x y t',ty,pos,af,g⟩:Oper).wp P a w (aX n w0 Γ0 ρ M ((fr.bl (some d) o.v).aJ o.ob)) Q:=by
 cases ht:Qy t t' with
 |false=>rw[ht]at hr;exact hr.elim
 |true =>
  rw[ht]at hr;have e:=Qp ht;subst e;have hr0:=bD h hr;clear hr;obtain⟨s1,fs1,hr1,hs1⟩:=hr0;have hr0:=bD h hr1;clear hr1;obtain⟨s2,fs2,hr,hs2⟩:=hr0;have core:∀(k:Bool->bj) (bo:Bool->Bool) (hk:∀b fs fo o,R1 Is fr (k b) fs fo o->o=⟨some (.c (.d (.v (.bool (bo b))))),[],fs,fo⟩) (opn:BinOp) (ho:op=opn) (hE:∀(t n:Nat),EqA P t n .i64->∀a' b':List Int,a'.length=n->b'.length=n->bm (Lf a) x=some (.agg (a'.map (Sa .i64)).toArray)->bm (Lf a) y=some (.agg (b'.map (Sa .i64)).toArray)->Yq P w0 (Lf a) M (lst.map Ra++Γ0) ⟨some d,.binOp opn t x y t,ty,pos,af,g⟩ (.bool (bo (decide (a'=b')))))
    (hN:∀(e:Nat) (v:Qw) (b:Bool),P.underlying t=some (.slice e)->(∃ad n c,v=.slice ad n c/\b=ad.isNone)->eo a x v->eo a y (.slice none 0 0)->(Rc a.eval ⟨some d,.binOp opn t x y t,ty,pos,af,g⟩).run P w=.ok (.value (.bool (bo b))) w),
    R1 Is fr (Ma P tb t s1 s2 k (CC P tb op t s1 s2)) fs2 fo o->(⟨some d,.binOp op t x y t,ty,pos,af,g⟩:Oper).wp P a w (aX n w0 Γ0 ρ M ((fr.bl (some d) o.v).aJ o.ob)) Q:=by
   intro k bo hk opn ho hE hN hr;unfold Ma at hr;split at hr
   .rename_i m da db hf hn1 hn2;obtain⟨za,hza,zb,hzb,⟨hl1,hl2⟩,hr⟩:=hr;have hne1:s1≠su:=by rintro rfl;cases hn1
    have hne2:s2≠su:=by rintro rfl;cases hn2
    obtain⟨v1,hv1,hsv1⟩:=bp hs1 hne1;obtain⟨v2,hv2,hsv2⟩:=bp hs2 hne2;obtain⟨us1,rfl,hrd1⟩:=D4 hn1 hsv1;obtain⟨us2,rfl,hrd2⟩:=D4 hn2 hsv2;obtain rfl:=jF hza;obtain rfl:=jF hzb;rw[pR hrd1]at hv1;rw[pR hrd2]at hv2;rw[ho];exact jc h1 h2 h hd rfl (hk _ _ _ _ hr) rfl (hE t m (hT.eqs t m hf) za zb hl1 hl2 hv1.bm hv2.bm)
   .rcases nil_R1 h hr with⟨fo',hr2⟩|⟨b,fo',e,hr2,hu,hne,e2,hv⟩
    .exact IT h1 h2 h hd hT hs1 hs2 hr2
    .subst e2;obtain⟨v1,hv1,hsv1⟩:=bp hs1 hne;obtain⟨v2,hv2,hsv2⟩:=bp hs2 (by unfold su;simp);obtain rfl:v2=.slice none 0 0:=hsv2;have:=hk _ _ _ _ hr2;subst this;rw[ho];exact ba h1 h2 rfl hd rfl (Sub.refl M) (Ext.refl ρ) h (v:=.bool (bo b)) ⟨rfl,rfl⟩ (hN e v1 b hu (hv v1 hsv1) hv1 hv2)
  split at hr
  .exact core mg id (λ_ _ _ _ h=>h) .eql rfl (λt n hE a' b' l1 l2 v1 v2=>(hE w0 (Lf a) M _ (some d) ty pos af g x y a' b' l1 l2 v1 v2).1) (λe v b hu hv hx hy=>by
    simp only[Rc,hx.eval,hy.eval];have:=(IV h hu hv).1;obtain⟨ad,n',c,rfl,rfl⟩:=hv
    simp[eqGuard,this]) hr
  .exact core (λb=>mg (!b)) (λb=>!b) (λ_ _ _ _ h=>h) .neq rfl (λt n hE a' b' l1 l2 v1 v2=>(hE w0 (Lf a) M _ (some d) ty pos af g x y a' b' l1 l2 v1 v2).2) (λe v b hu hv hx hy=>by
    simp only[Rc,hx.eval,hy.eval];have:=(IV h hu hv).2;obtain⟨ad,n',c,rfl,rfl⟩:=hv
    simp[eqGuard,this]) hr
  .exact IT h1 h2 h hd hT hs1 hs2 hr
theorem cut_x(h:Rel w0 Γ0 fr ρ M lst (tv a) w){b e sz N l q id:Nat}{ds:List D}(hid:fr.aQ<=id)(hfree:fr.ob id=none)(hob:xe fr b e sz N ds){ad0:Option Addr}{c0:Nat}(hk:ρ b=some (.slice ad0 N c0))(hlq:l+q<=N)(hN:0<N) :
  ∃ρ' lst',Ext ρ ρ'/\ρ' id=some (lq ad0 l (l+q) c0 sz)/\Rel w0 Γ0 ((fr.set b .bW).set id (.x e sz q (sub ds (l*sz) (q*sz)))) ρ' M lst' (tv a) w:=by
 obtain⟨ad1,c1,us,k1,k2,k3,k4,k5⟩:=Bz h hob;rw[hk]at k1;simp only[Qq,Ri,true_and]at k1;obtain⟨rfl,rfl⟩:=k1;have hcap:=k5.cap h.st;have hdr:=h.drop b;have hbne:b≠id:=by rintro rfl;rcases hob with hob|hob <;> (rw[hfree]at hob;cases hob)
 have hn1:(fr.set b .bW).ob id=none:=by rw[cu,J1 (VD hbne)];exact hfree
 obtain⟨g0,l0,cur,q1,q2,q3,q4,q5,_,q6,_⟩:=h.Nv k3 k5 Q0;have hv:lq ad0 l (l+q) c0 sz=.slice (if c0=l then ad0 else ad0.map (·.add (l*sz))) q (c0-l):=by
  unfold lq
  grind
 rw[hv];obtain⟨hEx,hR'⟩:=hdr.new (w':=w) (v:=.slice (if c0=l then ad0 else ad0.map (·.add (l*sz))) q (c0-l)) (o:=.x e sz q (sub ds (l*sz) (q*sz))) hn1 hid q6
  ⟨_,_,_,bT,bz.sub k2 (l*sz) (q*sz),(by
   rw[Rf,RO,k3,<-Uv]
   exact RU (Rz _ Q0)),Q0,.inr ⟨Q0,Q0,g0,l0+l,cur,λhc=>(by
    rw[J1 Q0,q1];simp only[Option.map_some,YL];rw[RA]),Qt ..,by grind,(by
    rw[<-q3,UM,SE,Ui,<-RA]
    congr 1
    rw[<-Uv,RU (Rz _ Q0)])⟩⟩
 exact⟨_,_,hEx,bT,hR'⟩
theorem cut_w(h:Rel w0 Γ0 fr ρ M lst (tv a) w){b e sz N q id:Nat}{ds:List D}(hid:fr.aQ<=id)(hfree:fr.ob id=none)(hob:fr.ob b=some (.w e sz N ds)){ad0:Option Addr}{c0:Nat}(hk:ρ b=some (.slice ad0 N c0))(hq:q<=N) :
  ∃ρ' lst',Ext ρ ρ'/\ρ' id=some (lq ad0 0 q c0 sz)/\Rel w0 Γ0 ((fr.set b .bW).set id (.w e sz q (sub ds (0*sz) (q*sz)))) ρ' M lst' (tv a) w:=by
 obtain⟨ad1,c1,us,k1,k2,k3,k4,k5⟩:=h.ob b _ hob;rw[hk]at k1;simp only[Qq,Ri,true_and]at k1;obtain⟨rfl,rfl⟩:=k1;have hdr:=h.drop b;have hbne:b≠id:=by grind
 have hn1:(fr.set b .bW).ob id=none:=by rw[cu,J1 (VD hbne)];exact hfree
 have hp:=h.st.fP (h.mem k2);have hv:lq ad0 0 q c0 sz=.slice ad0 q c0:=by
  unfold lq;rw[TP,T9,T9]
  congr 1
  split
  .rfl
  .cases ad0 with
   |none=>rfl
   |some p=>simp[Uz]
 rw[hv];have hlen:((us.drop (0*sz)).take (q*sz)).length=q*sz:=by simp_all
 have hst:St w0 M (.acc (.slice ad0 q c0) e sz q ((us.drop (0*sz)).take (q*sz))::((lst.filter λp=>!Qy p.1 b).map Ra++Γ0)) w:=by
  obtain⟨⟨hl,hh⟩,hM⟩:=hp.all _ (Qt ..);refine⟨hp.os,hp.tape,hp.output,hp.size,hp.mem,λx hx=>?_,?_⟩
  .rcases Qz.1 hx with rfl|hx
   .refine⟨⟨hlen,?_⟩,λk hk=>hM k (by cases ad0 <;> first|exact hk|(simp[RN]at hk))⟩
    grind
   .exact hp.all x (Qx _ hx)
  .have:=hp.nodup;cases ad0 <;> simpa[Rh,As.gh,RN]using this
 obtain⟨hEx,hR'⟩:=hdr.new (w':=w) (v:=.slice ad0 q c0) (o:=.w e sz q (sub ds (0*sz) (q*sz))) hn1 hid hst ⟨ad0,c0,_,bT,Qt ..,bz.sub k3 _ _,hlen,Q0⟩;exact⟨_,_,hEx,bT,hR'⟩
theorem KX(h1:a.tmps.size=n)(h2:a.defers=[])(h:Rel w0 Γ0 fr ρ M lst (tv a) w)(hd:d<n){t:Nat}{x:QM}{lo hi:Option QM}(hr:R1 Is fr (cK x λs=>Bs P (fr.aQ+d) t s lo hi) fs fo o):(⟨some d,.slice t x lo hi none,ty,pos,af,g⟩:Oper).wp P a w (aX n w0 Γ0 ρ M ((fr.bl (some d) o.v).aJ o.ob)) Q:=by
 have hr0:=bD h hr;clear hr;obtain⟨s,fs1,hr,hs⟩:=hr0;unfold Bs at hr;split at hr
 .rename_i e0 sz b hel;obtain⟨v,hv,hsv⟩:=bp hs (by unfold su;simp);have hsv1:ρ b=some v:=hsv.1
  have hr0:R1 Is fr (nj 0 lo λl=>(match fr.ob b with
   |some (.w e sz' N ds)=>_
   |some (.x e sz' N ds)=>_
   |_=>_)) fs1 (2*b::fo) o:=hr
  clear hr;obtain⟨l,fs2,hr,hlo⟩:=gf h hr0;clear hr0;have fin:∀{e N:Nat} {ds:List D} {l q2:Int},xe fr b e sz N ds->(∀k:Nat,l=(k:Int)->jN (Lf a) lo 0 k)->(∀k:Nat,q2=(k:Int)->jN (Lf a) hi N k)->0<=l/\l<=q2/\q2<=(N:Int)/\0<N->∀{fs fo},R1 Is fr (jD (fr.aQ+d) (.c (.w (fr.aQ+d))) [(b,.bW)] (.x e sz (q2.toNat-l.toNat) (sub ds (l.toNat*sz) ((q2.toNat-l.toNat)*sz)))) fs fo o ->
    (⟨some d,.slice t x lo hi none,ty,pos,af,g⟩:Oper).wp P a w (aX n w0 Γ0 ρ M ((fr.bl (some d) o.v).aJ o.ob)) Q:=by
   intro e N ds l q2 hob hlo hhi ⟨c1,c2,c3,c4⟩ fs fo hr;obtain⟨hn,fo',rfl⟩:=fv hr;obtain⟨ad0,c0,us,k1,k2,k3,k4,k5⟩:=Bz h hob;rw[hsv1]at k1;simp only[Qq]at k1;subst k1;have hcap:=k5.cap h.st;obtain⟨ρ',lst',g1,g2,g3⟩:=cut_x h (l:=l.toNat) (q:=q2.toNat-l.toNat) (Rv _ _) hn hob hsv1 Q0 c4;have hy:=Y.slice (P:=P) (w0:=w0) (L:=Lf a) (M:=M) (Γ:=lst.map Ra++Γ0) (d:=some d) (ty:=ty) (pos:=pos) (af:=af) (g:=g) (mx:=none) l.toNat q2.toNat c0 hv.bm (hlo _ Q0) (hhi _ Q0) rfl (.inr rfl) Q0 Q0 (QW _) (dA hel);rw[show l.toNat+(q2.toNat-l.toNat)=q2.toNat by omega]at g2;refine ba h1 h2 rfl hd rfl (Sub.refl M) g1 g3 (v:=lq ad0 l.toNat q2.toNat c0 sz) ⟨g2,_,_,_,rfl⟩ ?_;exact hy n a w (uH h1 h2) h.st
  split at hr
  .rename_i e sz' N ds hob;split at hr
   .rename_i hbe;have e2:=Qp hbe;subst e2;obtain⟨q2,fs3,hr2,hhi⟩:=gf h hr;clear hr;cases lo with
    |none=>obtain⟨hck,hr⟩:=hr2;obtain⟨hn,fo',rfl⟩:=fv hr;obtain⟨ad0,c0,us,k1,k2,k3,k4,k5⟩:=Bz h (.inl hob);rw[hsv1]at k1;simp only[Qq]at k1;subst k1;have hcap:=k5.cap h.st;obtain⟨ρ',lst',g1,g2,g3⟩:=cut_w h (q:=q2.toNat) (Rv _ _) hn hob hsv1 Q0;have hy:=Y.slice (P:=P) (w0:=w0) (L:=Lf a) (M:=M) (Γ:=lst.map Ra++Γ0) (d:=some d) (ty:=ty) (pos:=pos) (af:=af) (g:=g) (lo:=none) (mx:=none) 0 q2.toNat c0 hv.bm rfl (hhi _ Q0) rfl (.inr rfl) Q0 Q0 (QW _) (dA hel);refine ba h1 h2 rfl hd rfl (Sub.refl M) g1 g3 (v:=lq ad0 0 q2.toNat c0 sz') ⟨g2,_,_,_,rfl⟩ ?_;exact hy n a w (uH h1 h2) h.st
    |some lo'=>obtain⟨hck,hr⟩:=hr2;exact fin (.inl hob) hlo hhi hck hr
   .exact hr.elim
  .rename_i e sz' N ds hob;split at hr
   .rename_i hbe;have e2:=Qp hbe;subst e2;obtain⟨q2,fs3,hr2,hhi⟩:=gf h hr;obtain⟨hck,hr3⟩:=hr2;exact fin (.inr hob) hlo hhi hck hr3
   .exact hr.elim
  .exact hr.elim
 .exact hr.elim
theorem ok_trim(h1:a.tmps.size=n)(h2:a.defers=[])(h:Rel w0 Γ0 fr ρ M lst (tv a) w)(hd:d<n){x:QM}(hr:R1 Is fr (cK x λs=>ML (fr.aQ+d) (fU P ty s)) fs fo o):(⟨some d,.move x,ty,pos,af,g⟩:Oper).wp P a w (aX n w0 Γ0 ρ M ((fr.bl (some d) o.v).aJ o.ob)) Q:=by
 have hr0:=bD h hr;clear hr;obtain⟨s,fs1,hr,hs⟩:=hr0;have hv:=dt (P:=P) (t:=ty) (pL hs);generalize fU P ty s=s1 at hr hv;unfold ML at hr;split at hr
 .rename_i b q sz l m;change R1 Is fr (match fr.ob b with|some (.w e sz' N ds)=>_|_=>_) _ _ _ at hr;split at hr
  .rename_i e sz' N ds hob;split at hr
   .rename_i hb;simp only[QA]at hb;have e1:=Qp hb.1;have e2:=Qp hb.2.1;have e3:=Qp hb.2.2;subst e1 e2 e3;obtain⟨⟨c1,c2⟩,hr⟩:=hr;obtain⟨hn,fo',rfl⟩:=fv hr;obtain⟨ad0,c0,us,k1,k2,k3,k4,k5⟩:=h.ob b _ hob;obtain⟨ad,c,hu,hnc,hy⟩:=hv;have hp:=h.st.fP (h.mem k2);obtain⟨⟨_,hh⟩,_⟩:=hp.all _ (Qt ..);have hval:a.eval x=lq ad0 0 m c0 sz':=by
     rcases hy with⟨k,hk,_⟩|⟨A,N',C,hA,_,hl,hC,hAd⟩
     .grind
     .rw[k1]at hA;simp only[Qq,Ri]at hA;obtain⟨rfl,rfl,rfl⟩:=hA;rcases hh with⟨e4,e5⟩|⟨g0,cap,cur,e4,hg,hb',hnc',hcm,hcs,htk⟩
      .omega
      .simp only[Ri]at e4;obtain⟨rfl,_,rfl⟩:=e4;have hcc:c=c0:=Q0;subst hcc;have:=hAd Q0;rw[hu,this];unfold lq;simp[cx,Uz]
    obtain⟨ρ',lst',g1,g2,g3⟩:=cut_w h (q:=m) (Rv _ _) hn hob k1 c2;refine ba h1 h2 rfl hd rfl (Sub.refl M) g1 g3 (v:=lq ad0 0 m c0 sz') ⟨g2,_,_,_,rfl⟩ ?_;rw[<-hval];simp[Rc]
   .exact hr.elim
  .exact hr.elim
 .obtain rfl:=aR hr;exact rV h1 h2 h hd (x:=x) rfl rfl rfl hv rfl (by simp[Rc])
theorem NV(h1:a.tmps.size=n)(h2:a.defers=[])(h:Rel w0 Γ0 fr ρ M lst (tv a) w){t:Nat}{x:QM}(hr:R1 Is fr (cK x λs=>Cu P t s) fs fo o):(⟨none,.call ⟨.builtin .clear,#[x],#[t]⟩,ty,pos,af,g⟩:Oper).wp P a w (aX n w0 Γ0 ρ M ((fr.bl none o.v).aJ o.ob)) Q:=by
 have hr0:=bD h hr;clear hr;obtain⟨s,fs1,hr,hs⟩:=hr0;unfold Cu at hr;split at hr
 .rename_i b0 q0 sz0 l0 n0 e0 sz hel;split at hr
  .rename_i zs hz;have hrow:∃e N ds fs' fo',fr.ob b0=some (.w e sz N ds)/\q0=0/\sz0=sz/\(zs.length=sz/\l0+n0<=N/\n0<=1000000000000000)/\o=⟨none,[(b0,.w e sz N (cQ ds (l0*sz) (QY n0 zs).flatten))],fs',fo'⟩:=by
    unfold rowH at hr;change R1 Is fr (match fr.ob b0 with|some (.w e sz2 N ds)=>_|_=>_) _ _ _ at hr;split at hr
    .rename_i e sz2 N ds hob;split at hr
     .rename_i hb;simp only[QA]at hb;have e1:=Qp hb.1;have e2:=Qp hb.2.1;have e3:=Qp hb.2.2;obtain⟨hck,hr2⟩:=hr;exact⟨e,N,ds,_,_,by rw[hob,e3],e1,e2,hck,hr2⟩
     .exact hr.elim
    .exact hr.elim
   clear hr;obtain⟨e,N,ds,fs',fo',hob,rfl,rfl,⟨hzl,hln,hn6⟩,rfl⟩:=hrow;obtain⟨v,hv,hsv⟩:=bp hs (by unfold su;simp);obtain⟨ad0,c0,_,ad,c,k1,_,_,_,_,rfl,k7,k8,k9,k10,k11⟩:=nb h (.inl hob) (.inr rfl) hsv;obtain⟨ad1,c1,us,p1,p2,p3,p4,p5⟩:=h.ob b0 _ hob;rw[k1]at p1;simp only[Qq,Ri,true_and]at p1;obtain⟨rfl,rfl⟩:=p1;obtain⟨zc,hz1,hz2⟩:∃zc,ir P e0=some zc/\vE zc=some zs:=by
    cases hzc:ir P e0 with
    |none=>simp[hzc]at hz
    |some zc=>rw[hzc]at hz;exact⟨zc,rfl,hz⟩
   obtain⟨zv,hzv,hzr⟩:=fN (M:=M) (ρ:=ρ) hz1;have hzrd:=nT hzr hz2;have hzsz:zv.cells.size=sz0:=by rw[<-hzl,<-hzrd.1];simp
   obtain⟨hu,_⟩:=dR (dA hel);have hflat:(RD zv.cells n0).toList=(QY n0 zv.cells.toList).flatten:=by have:=uh zv.cells n0 sz0 hzsz;rw[<-this,<-hzsz];rfl
   rcases XV n0 with hn0|hn0
   .subst hn0;have hup:cQ ds (l0*sz0) (QY 0 zs).flatten=ds:=by unfold cQ;simp
    rw[hup];have hR':=h.cQ (o:=.w e sz0 N ds) (x':=.acc (.slice ad0 N c0) e sz0 N us) p2 (h.st.fP (h.mem p2)) ⟨ad0,c0,us,k1,Qt ..,p3,p4,p5⟩;have hrun:(Rc a.eval ⟨none,.call ⟨.builtin .clear,#[x],#[t]⟩,ty,pos,af,g⟩).run P w=.ok (.value (.tuple #[])) w:=by cases ad <;> simp[Rc,resolve,invoke,Tm,XY,hv.eval,QN hu]
    unfold UH;rw[hrun,T7];exact⟨h1,h2,ρ,M,_,Sub.refl M,Ext.refl ρ,hR'⟩
   .obtain⟨g0,cur,q1,q2,q3,q4,q6⟩:=h.Nx p4 p2 Q0;have had:ad=some ⟨g0,l0*sz0,none⟩:=by rw[k11 Q0,q1,cx,Rn]
    subst had;have hzlen:((QY n0 zv.cells.toList).flatten).length=n0*sz0:=by simp[hzsz]
    have hzrep:=BC hzrd n0;have hsz0:l0*sz0+n0*sz0<=N*sz0:=by rw[<-RA];exact Rz _ Q0
    have hNc:N*sz0<=cur.size:=by grind
    have hst0:=YK P g0 (l0*sz0) e ((QY n0 zv.cells.toList).flatten) 0 cur w q4 Q0 (bz.one hzrep);simp only[RY]at hst0;have hst:=q6.wY (cur':=(cur.toList.take (l0*sz0)++(QY n0 zv.cells.toList).flatten++cur.toList.drop (l0*sz0+((QY n0 zv.cells.toList).flatten).length)).toArray)
    have hst2:=hst.Iv (n:=N) (c:=c0) (sz:=sz0) (us:=us.take (l0*sz0)++(QY n0 zv.cells.toList).flatten++us.drop (l0*sz0+((QY n0 zv.cells.toList).flatten).length)) Q0 Q0 (by grind) (by
      simp only[QC,Rf,RO,p4,hzlen];omega) (by
      rw[<-q3]
      exact rB Q0 Q0)
    rw[<-q1]at hst2
    have hR':=h.cQ (o:=.w e sz0 N (cQ ds (l0*sz0) (QY n0 zs).flatten)) p2 hst2 ⟨ad0,c0,_,k1,Qt ..,(by
     unfold cQ;rw[hzrep.1.symm]
     exact((bz.takeP p3 _).append hzrep).append (bz.dropP p3 _)),(by grind),p5⟩
    have hzero:(zeroValue e0).run P w=.ok zv w:=iZ hzv;have hrun:(Rc a.eval ⟨none,.call ⟨.builtin .clear,#[x],#[t]⟩,ty,pos,af,g⟩).run P w=.ok (.value (.tuple #[])) (w.setRow g0 (cur.toList.take (l0*sz0)++(QY n0 zv.cells.toList).flatten++cur.toList.drop (l0*sz0+((QY n0 zv.cells.toList).flatten).length)).toArray):=by obtain⟨m',rfl⟩:∃m',n0=m'+1:=⟨n0-1,Q0⟩;simp[Rc,resolve,invoke,Tm,XY,hv.eval,QN hu,hzero,hflat,hst0]
    unfold UH;rw[hrun,T7];exact⟨h1,h2,ρ,M,_,Sub.refl M,Ext.refl ρ,hR'⟩
  .exact hr.elim
 .exact hr.elim
theorem aX.norm{P:QE}{t:QH}{d:Option Nat}{v:Option S}{ob:List (Nat×O)}(h:aX n w0 Γ0 ρ M ((fr.bl d v).aJ ob) a w):aX n w0 Γ0 ρ M ((fr.bl d (match v with|some s=>some (xM P t s)|none=>none)).aJ ob) a w:=by
 cases d with
 |none=>cases v <;> exact h
 |some d =>
  cases v with
  |none=>exact h
  |some s =>
   obtain⟨h1,h2,ρ',M',lst',h3,h4,h5⟩:=h;refine⟨h1,h2,ρ',M',lst',h3,h4,?_⟩;have e1:(fr.bl (some d) (some s)).aJ ob=((fr.aJ ob).put d s):=ky ..;have e2:(fr.bl (some d) (some (xM P t s))).aJ ob=((fr.aJ ob).put d (xM P t s)):=ky ..;show Rel w0 Γ0 ((fr.bl (some d) (some (xM P t s))).aJ ob) ρ' M' lst' (tv a) w;rw[e2];rw[e1]at h5;refine⟨λk=>?_,h5.ob,h5.vP,h5.gg,h5.nd,h5.st,h5.gr⟩;have:=h5.sl k;rw[BG]at this ⊢;by_cases e:k=d
   .rw[J2 e]at this ⊢;rcases this with hs|⟨u,hu,hs⟩
    .subst hs;exact .inl rfl
    .exact .inr ⟨u,hu,N4 hs⟩
   .rw[J1 e]at this ⊢;exact this
theorem ok_appendZ(h1:a.tmps.size=n)(h2:a.defers=[])(h:Rel w0 Γ0 fr ρ M lst (tv a) w)(hd:d<n){t t':Nat}{x y:QM}(hr:R1 Is fr (cK x λs=>cK y λv=>Fx P (fr.aQ+d) t t' s v) fs fo o):(⟨some d,.call ⟨.builtin .append,#[x,y],#[t,t']⟩,ty,pos,af,g⟩:Oper).wp P a w (aX n w0 Γ0 ρ M ((fr.bl (some d) o.v).aJ o.ob)) Q:=by
 have hr0:=bD h hr;clear hr;obtain⟨s,fs1,hr1,hs⟩:=hr0;have hr0:=bD h hr1;clear hr1;obtain⟨s',fs2,hr,hs'⟩:=hr0;unfold Fx at hr;split at hr
 .rename_i sz' e sz kd hel hu';split at hr
  .rename_i zs hz hbb;simp only[QA]at hbb;have e2:=Qp hbb.2;subst e2;have hE:=gR hel hbb.1;obtain⟨z,ez,⟨hz0,hroom⟩,hr⟩:=ee hr;obtain⟨hn,fo',rfl⟩:=fv hr;have hy:=dU hs' ez;obtain⟨v,hv,hv2⟩:=bp hs (by unfold su;simp);obtain rfl:v=.slice none 0 0:=hv2;obtain⟨k,rfl⟩:=UK (Int.le_of_lt hz0);simp only[Rx]at hroom ⊢;obtain⟨zc,hz1,hz2⟩:∃zc,ir P e=some zc/\vE zc=some zs:=by
    cases hzc:ir P e with
    |none=>simp[hzc]at hz
    |some zc=>rw[hzc]at hz;exact⟨zc,rfl,hz⟩
   obtain⟨zv,hzv,hzr⟩:=fN (M:=M) (ρ:=ρ) hz1;have hzrd:=nT hzr hz2;obtain⟨ht,⟨i,z',hi,hz',hsize,hby',hzs⟩,hpos⟩:=hE;have hzz:z'=zv:=by simp[jV,hi,hz']at hzv;exact hzv
   subst hzz;subst hsize;have hroom1:k*i.bytes<=281474976710656:=by
    unfold aO at hroom
    grind
   have hlim:k<=lim:=by unfold aO at hroom;rw[UP,Td]at hroom;unfold lim;omega
   have hrun:=Lib.run_append_nil_zeros (P:=P) w t t' ty e i z' .i64 kd ht hu' hi hz' k Q0 hpos (by unfold lim at hlim;omega) hroom1;have hge:=grownCap_ge w k 0 e;have hcm:To w k 0 e<=Ti:=Yy w k 0 e (by unfold lim at hlim;unfold Ti;omega);have hflat:(RD z'.cells k).toList=(QY k z'.cells.toList).flatten:=by have:=uh z'.cells k i.size hzs;rw[<-this,<-hzs];rfl
   have hlen:((QY k z'.cells.toList).flatten).length=k*i.size:=by simp[hzs]
   have hst:=((h.st.iM (w.drawn+1)).Gz (.cells (RD z'.cells k++RD z'.cells (To w k 0 e-k)) e)).Iv (n:=k) (c:=To w k 0 e) (sz:=i.size) (us:=(QY k z'.cells.toList).flatten) hge hcm (by
    simp only[XM,TY,hzs,<-RA]
    congr 1
    omega) hlen (by
    rw[UU,hflat,<-hlen]
    exact UT)
   obtain⟨hEx,hR'⟩:=h.new (w':=w.drew.alloc _) (v:=.slice (some ⟨w.heap.size,0,none⟩) k (To w k 0 e)) (o:=.w e i.size k (QY k zs).flatten) hn (Rv _ _) hst ⟨_,_,_,bT,Qt ..,BC hzrd k,hlen,hlim⟩;refine ba (fr:=fr) (out:=⟨some (.c (.w (fr.aQ+d))),[(fr.aQ+d,.w e i.size k (QY k zs).flatten)],[],[]⟩) h1 h2 rfl hd rfl (Sub.refl M) hEx hR' (v:=.slice (some ⟨w.heap.size,0,none⟩) k (To w k 0 e)) ⟨bT,_,_,_,rfl⟩ ?_;simp[Rc,resolve,invoke,Tm,hv.eval,hy.eval,hrun]
  .exact hr.elim
 .exact hr.elim
theorem Hb{s i off ft:Nat}(h:qZ P s i=some (off,ft)):∃fs f,P.underlying s=some (.struct fs)/\fs[i]?=some f/\f.type=ft/\f.offset=off:=by
 unfold qZ at h
 grind
theorem zP{w:QL}{t o:Nat}{us:List Qw}{u:Qw}(h:jZ P t=true)(hu:us[o]?=some u):(part t us.toArray o).run P w=.ok u w:=by unfold part;simp only[SD,w9 h,TR];simp[hu]
theorem Lb(h1:a.tmps.size=n)(h2:a.defers=[])(h:Rel w0 Γ0 fr ρ M lst (tv a) w)(hd:d<n){t:Nat}{x:QM}{i:Nat}(hr:R1 Is fr (cK x λs=>Cj P t s i) fs fo o):(⟨some d,.field t x i,ty,pos,af,g⟩:Oper).wp P a w (aX n w0 Γ0 ρ M ((fr.bl (some d) o.v).aJ o.ob)) Q:=by
 have hr0:=bD h hr;clear hr;obtain⟨s,fs1,hr,hs⟩:=hr0;unfold Cj at hr;split at hr
 .exact hr.elim
 .rename_i off ft hf;obtain⟨fs',f,e1,e2,e3,e4⟩:=Hb hf;subst e3 e4;have fin:∀(us:List Qw) (u:Qw) (s':S),eo a x (.agg us.toArray)->o=⟨some s',[],fs1,fo⟩->(part f.type us.toArray f.offset).run P w=.ok u w->SR M ρ s' u->(⟨some d,.field t x i,ty,pos,af,g⟩:Oper).wp P a w (aX n w0 Γ0 ρ M ((fr.bl (some d) o.v).aJ o.ob)) Q:=λus u s' hv ho hp hsr=>by subst ho;refine ba h1 h2 rfl hd rfl (Sub.refl M) (Ext.refl ρ) h (v:=u) hsr ?_;simp[Rc,hv.eval,Instr.field,QN e1,e2,asAgg,hp]
  split at hr
  .rename_i m ds;obtain⟨v,hv,hl,us,rfl,hrd⟩:=bp hs (by unfold su;simp);obtain⟨s',e5,ho⟩:=nf hr;unfold nJ at e5;split at e5
   .rename_i hfl;split at e5
    .rename_i hlt;simp only[Qq]at e5;subst e5;obtain⟨u,hu1,hu2⟩:=bz.get hrd (th (ds:=ds) (i:=f.offset) (by simp_all));exact fin us u _ hv ho (zP hfl hu1) hu2
    .cases e5
   .split at e5
    .rename_i k hag;split at e5
     .rename_i hbb;simp only[QA]at hbb;have q1:=Qp hbb.1;have q2:=Qp hbb.2;simp only[Qq]at e5;subst e5;have hp:=pk (P:=P) (w:=w) (us:=us) (o:=f.offset) (ij hag);rw[q1,RR,Rj (by rw[hrd.1,hl];omega)]at hp;exact fin us _ _ hv ho (by grind) ⟨hl,us,rfl,hrd⟩
     .split at e5
      .rename_i hle;have hle:f.offset+k<=m:=by simp_all
       simp only[Qq]at e5;subst e5;exact fin us _ _ hv ho (pk (ij hag)) ⟨by unfold sub;simp[hl];omega,_,rfl,hrd.cut _ _⟩
      .cases e5
    .cases e5
  .rename_i cs;obtain⟨v,hv,us,rfl,hrd⟩:=bp hs (by unfold su;simp);obtain⟨s',e5,ho⟩:=nf hr;unfold sA at e5;split at e5
   .rename_i hfl;split at e5
    .rename_i c hc;simp only[Qq]at e5;subst e5;obtain⟨u,hu1,hu2⟩:=dr.get hrd hc;exact fin us u _ hv ho (zP hfl hu1) hu2
    .cases e5
   .split at e5
    .rename_i k hag;split at e5
     .simp only[Qq]at e5;subst e5;exact fin us _ _ hv ho (pk (ij hag)) ⟨_,rfl,dr.take k (dr.drop _ hrd)⟩
     .cases e5
    .cases e5
  .exact hr.elim
end
def yQ(ob:Ob)(fx:List Nat)(b sz n:Nat)(cs:List D):Prop :=
 ((∃e,ob b=some (.w e sz n cs))/\b∈fx\/ob b=some (.s sz n cs))\/∃e ws bs,ob b=some (.v e sz n ws)/\rG ob ws=some (cs,bs)/\b∈fx/\∀x∈bs,x∈fx
theorem yQ.mono{ob:Ob}{fx fx':List Nat}(hf:∀b,b∈fx->b∈fx'){b sz n:Nat}{cs:List D}(h:yQ ob fx b sz n cs):yQ ob fx' b sz n cs:=by
 rcases h with h|⟨e,ws,bs,h1,h2,h3,h4⟩
 .exact .inl (h.imp (λh=>⟨h.1,hf _ h.2⟩) id)
 .exact .inr ⟨e,ws,bs,h1,h2,hf _ h3,λx hx=>hf _ (h4 x hx)⟩
theorem qX{ob:Ob}{fx:List Nat}{b e sz n:Nat}{ws:List C}{cs:List D}{bs:List Nat}(h1:ob b=some (.v e sz n ws))(h2:rG ob ws=some (cs,bs))(h3:∀x∈bs,x∈fx):∀{l:List Nat},b∈l->(b,O.s sz n cs)∈gN ob fx l
 |c::l,hb=>by
  have ha:(bs.all λx=>fx.any (Qy x))=true:=List.all_eq_true.2 λx hx=>List.any_eq_true.2 ⟨x,h3 x hx,cW x⟩;unfold gN;rcases Qz.1 hb with rfl|hb
  .grind
  .have ih:=qX h1 h2 h3 hb
   grind
theorem qW{ob:Ob}{fx:List Nat}:∀{l:List Nat} {p:Nat×O},p∈gN ob fx l->∃e sz n ws ds bs,p.2=.s sz n ds/\ob p.1=some (.v e sz n ws)/\rG ob ws=some (ds,bs)/\(∀x∈bs,x∈fx)/\p.1∈l
 |c::l,p,h=>by
  have rest:p∈gN ob fx l->∃e sz n ws ds bs,p.2=.s sz n ds/\ob p.1=some (.v e sz n ws)/\rG ob ws=some (ds,bs)/\(∀x∈bs,x∈fx)/\p.1∈c::l:=λh=>by
   obtain⟨e,sz,n,ws,ds,bs,h1,h2,h3,h4,h5⟩:=qW h
   grind
  unfold gN at h;split at h
  .rename_i e sz n ws hob;split at h
   .rename_i ds bs hrow;split at h
    .rename_i ha;rcases Qz.1 h with rfl|h
     .refine⟨e,sz,n,ws,ds,bs,rfl,hob,hrow,λx hx=>?_,Qt ..⟩;simp_all
     .exact rest h
    .exact rest h
   .exact rest h
  .exact rest h
theorem yQ.plain{ob:Ob}{fx:List Nat}{b sz n:Nat}{cs:List D}(h:yQ ob fx b sz n cs)(hv:gN ob fx fx=[]):(∃e,ob b=some (.w e sz n cs))/\b∈fx\/ob b=some (.s sz n cs):=by
 rcases h with h|⟨e,ws,bs,h1,h2,h3,h4⟩
 .exact h
 .have:=qX h1 h2 h4 h3
  grind
section
variable (ob:Ob) (mp:List (Nat×Tg)) (fx:List Nat)
def qa:jt->C->List D->Prop
 |.d,.d x,ds=>ds=[x]
 |.d,.w b,ds=>∃sz n cs,ds=[.sl n sz cs]/\yQ ob fx b sz n cs
 |.d,.l sz,ds=>ds=[.sl 0 sz []]
 |.i,.d x,ds=>ds=[x]
 |.bo,.d x,ds=>ds=[x]
 |.p i off,.p b off',ds=>off=off'/\ds=[]/\bH mp i=some (.ob b)
 |.w i,.w b,ds=>ds=[]/\bH mp i=some (.ob b)
 |.w i,.l sz,ds=>ds=[]/\bH mp i=some (.nil sz)
 |.m i,.m b,ds=>ds=[]/\bH mp i=some (.ob b)
 |.y i sz,.y b q sz' l n,ds=>q=0/\sz=sz'/\ds=[.v (.int .i64 (l:Int)),.v (.int .i64 (n:Int))]/\bH mp i=some (.ob b)
 |_,_,_=>False
def qn:List jt->List C->List D->Prop
 |[],[],ds=>ds=[]
 |s::ss,c::cs,ds=>∃d1 d2,ds=d1++d2/\qa ob mp fx s c d1/\qn ss cs d2
 |_,_,_=>False
def o6:jt->C->List D->Prop
 |.f g cs,.f g' cs',ds=>g=g'/\qn ob mp fx cs cs' ds
 |s,c,ds=>qa ob mp fx s c ds
def gA:List jt->List C->List D->Prop
 |[],[],ds=>ds=[]
 |s::ss,c::cs,ds=>∃d1 d2,ds=d1++d2/\o6 ob mp fx s c d1/\gA ss cs d2
 |_,_,_=>False
def rj:lL->S->List D->Prop
 |.c s,.c x,ds=>o6 ob mp fx s x ds
 |.a n,.a m ds',ds=>n=m/\ds=ds'
 |.a n,.g cs,ds=>gA ob mp fx (dsh n) cs ds
 |.g ss,.g cs,ds=>gA ob mp fx ss cs ds
 |.g ss,.a n ds',ds=>gA ob mp fx ss ((cells n ds').map C.d) ds
 |_,_,_=>False
def qm(sl:Nat->S):List (Nat×lL)->bR->Prop
 |[],r=>r=[]
 |(t,s)::l,r=>∃ds r',rj ob mp fx s (sl t) ds/\qm sl l r'/\r=(match uq s with
  |true=>ds::r'
  |false=>r')
def yU(i:Nat)(o:lV)(ds:List D):Prop :=
 (∃b x,bH mp i=some (.ob b)/\ob b=some x/\(match o with
  |.b e cs=>∃cs',rf x=some (e,cs')/\gA ob mp fx cs cs' ds
  |.a e n=>(x=.a e n ds)\/∃cs',x=.b e cs'/\gA ob mp fx (dsh n) cs' ds
  |.w e sz=>∃n cs,x=.w e sz n cs/\ds=[.sl n sz cs]
  |.v e sz n cs=>∃cs',x=.v e sz n cs'/\gA ob mp fx cs cs' ds
  |.m t ag vs=>∃n cs,x=.m t ag vs n cs/\ds=[.sl n (3+vs) cs]
  |.ms t ag vs=>∃n cs,x=.ms t ag vs n cs/\ds=[.sl n (3+vs) cs]
  |.x e sz=>∃n cs,(x=.x e sz n cs\/x=.w e sz n cs)/\ds=[.sl n sz cs]
  |.it ag vs=>∃cur n cs,x=.it ag vs cur n cs/\ds=[.sl n (3+vs) cs])) \/
 (∃e sz,bH mp i=some (.nil sz)/\o=.w e sz/\ds=[.sl 0 sz []])
def FE:List (Nat×lV)->bR->Prop
 |[],r=>r=[]
 |(i,o)::l,r=>∃ds r',yU ob mp fx i o ds/\FE l r'/\r=(match Ce o with
  |true=>ds::r'
  |false=>r')
end
def zo(mp:List (Nat×Tg)):Prop:=∀i j b,bH mp i=some (.ob b)->bH mp j=some (.ob b)->i=j
structure fM(k k':Pk):Prop where
 mp:∀i x,bH k.mp i=some x->bH k'.mp i=some x
 fix:∀b,b∈k.fix->b∈k'.fix
 inj:zo k.mp->zo k'.mp
theorem fM.refl(k:Pk):fM k k:=⟨λ_ _ h=>h,λ_ h=>h,id⟩
theorem fM.trans{a b c:Pk}(h:fM a b)(k:fM b c):fM a c:=⟨λi x hx=>k.mp i x (h.mp i x hx),λb hb=>k.fix b (h.fix b hb),λhi=>k.inj (h.inj hi)⟩
theorem dO{i:Nat}{x:Tg}{l:List (Nat×Tg)}{j:Nat}:bH ((i,x)::l) j=if j=i then some x else bH l j:=by
 show(match Qy j i with
  |true=>some x
  |false=>bH l j)=_
 by_cases e:j=i
 .simp_all
 .rw[gS e,J1 e]
theorem wg{b:Nat}:∀{l:List (Nat×Tg)} {i:Nat},bH l i=some (.ob b)->G2 l b=true
 |[],_,h=>by simp[bH]at h
 |(j,x)::l,i,h=>by
  rw[dO]at h;by_cases e:i=j
  .rw[J2 e]at h;simp only[Qq]at h;subst h
   show(match Qy b b with
    |true=>true
    |false=>G2 l b)=true
   rw[cW]
  .rw[J1 e]at h;have:=wg h;cases x with
   |ob b' =>
    show(match Qy b b' with
     |true=>true
     |false=>G2 l b)=true
    split
    .rfl
    .exact this
   |nil sz=>exact this
theorem wa{k k':Pk}{i b:Nat}(h:k.LB i b=some k'):fM k k'/\bH k'.mp i=some (.ob b):=by
 unfold Pk.LB at h;split at h
 .rename_i b' hg;split at h
  .rename_i hb;have e:=Qp hb;subst e;simp only[Qq]at h;subst h;exact⟨fM.refl k,hg⟩
  .cases h
 .cases h
 .rename_i hg;split at h
  .cases h
  .rename_i hnt;simp only[Qq]at h;subst h;refine⟨⟨λj x hx=>?_,λ_ hb=>hb,λhi j q c hj hq=>?_⟩,by rw[dO,J2 rfl]⟩
   .rw[dO]
    grind
   .rw[dO]at hj hq;by_cases e1:j=i <;> by_cases e2:q=i
    .rw[e1,e2]
    .rw[J2 e1]at hj;rw[J1 e2]at hq;simp only[Qq,Tg.ob.injEq]at hj;subst hj;rw[wg hq]at hnt;cases hnt
    .rw[J1 e1]at hj;rw[J2 e2]at hq;simp only[Qq,Tg.ob.injEq]at hq;subst hq;rw[wg hj]at hnt;cases hnt
    .rw[J1 e1]at hj;rw[J1 e2]at hq;exact hi j q c hj hq
theorem GK{k k':Pk}{i sz:Nat}(h:k.Ca i sz=some k'):fM k k'/\bH k'.mp i=some (.nil sz):=by
 unfold Pk.Ca at h;split at h
 .cases h
 .rename_i hg;simp only[Qq]at h;subst h;refine⟨⟨λj x hx=>?_,λ_ hb=>hb,λhi j q c hj hq=>?_⟩,by rw[dO,J2 rfl]⟩
  .rw[dO]
   grind
  .rw[dO]at hj hq;by_cases e1:j=i
   .grind
   .by_cases e2:q=i
    .grind
    .rw[J1 e1]at hj;rw[J1 e2]at hq;exact hi j q c hj hq
section
variable {ob:Ob} {mp mp':List (Nat×Tg)} {fx fx':List Nat}
section
variable (hm:∀i x,bH mp i=some x->bH mp' i=some x) (hf:∀b,b∈fx->b∈fx')
theorem qa.mono(hm:∀i x,bH mp i=some x->bH mp' i=some x)(hf:∀b,b∈fx->b∈fx'){s:jt}{c:C}{ds:List D}(h:qa ob mp fx s c ds):qa ob mp' fx' s c ds:=by
 unfold qa at h ⊢;split at h
 .exact h
 .obtain⟨sz,n,cs,h1,h2⟩:=h;exact⟨sz,n,cs,h1,h2.mono hf⟩
 all_goals grind
theorem qn.mono(hm:∀i x,bH mp i=some x->bH mp' i=some x)(hf:∀b,b∈fx->b∈fx'):∀{s:List jt} {c:List C} {ds:List D},qn ob mp fx s c ds->qn ob mp' fx' s c ds
 |[],[],_,h=>h
 |_::_,_::_,_,⟨d1,d2,h1,h2,h3⟩=>⟨d1,d2,h1,qa.mono hm hf h2,qn.mono hm hf h3⟩
 |[],_::_,_,h=>h.elim
 |_::_,[],_,h=>h.elim
theorem o6.mono(hm:∀i x,bH mp i=some x->bH mp' i=some x)(hf:∀b,b∈fx->b∈fx'){s:jt}{c:C}{ds:List D}(h:o6 ob mp fx s c ds):o6 ob mp' fx' s c ds:=by
 unfold o6 at h;split at h
 .exact⟨h.1,qn.mono hm hf h.2⟩
 .rename_i hne;unfold o6;split
  .grind
  .exact qa.mono hm hf h
theorem gA.mono(hm:∀i x,bH mp i=some x->bH mp' i=some x)(hf:∀b,b∈fx->b∈fx'):∀{s:List jt} {c:List C} {ds:List D},gA ob mp fx s c ds->gA ob mp' fx' s c ds
 |[],[],_,h=>h
 |_::_,_::_,_,⟨d1,d2,h1,h2,h3⟩=>⟨d1,d2,h1,o6.mono hm hf h2,gA.mono hm hf h3⟩
 |[],_::_,_,h=>h.elim
 |_::_,[],_,h=>h.elim
theorem rj.mono(hm:∀i x,bH mp i=some x->bH mp' i=some x)(hf:∀b,b∈fx->b∈fx'){s:lL}{c:S}{ds:List D}(h:rj ob mp fx s c ds):rj ob mp' fx' s c ds:=by
 unfold rj at h ⊢;split at h
 .exact o6.mono hm hf h
 .exact h
 .exact gA.mono hm hf h
 .exact gA.mono hm hf h
 .exact gA.mono hm hf h
 .exact h.elim
theorem qm.mono(hm:∀i x,bH mp i=some x->bH mp' i=some x)(hf:∀b,b∈fx->b∈fx'){sl:Nat->S}:∀{l:List (Nat×lL)} {r:bR},qm ob mp fx sl l r->qm ob mp' fx' sl l r
 |[],_,h=>h
 |(_,_)::_,_,⟨ds,r',h1,h2,h3⟩=>⟨ds,r',rj.mono hm hf h1,qm.mono hm hf h2,h3⟩
theorem yU.mono(hm:∀i x,bH mp i=some x->bH mp' i=some x)(hf:∀b,b∈fx->b∈fx'){i:Nat}{o:lV}{ds:List D}(h:yU ob mp fx i o ds):yU ob mp' fx' i o ds:=by
 rcases h with⟨b,x,h1,h2,h3⟩|⟨e,sz,h1,h2⟩
 .refine .inl ⟨b,x,hm _ _ h1,h2,?_⟩;cases o with
  |b e cs=>obtain⟨cs',h4,h5⟩:=h3;exact⟨cs',h4,gA.mono hm hf h5⟩
  |a e n=>exact h3.imp id fun⟨cs',h4,h5⟩=>⟨cs',h4,gA.mono hm hf h5⟩
  |w e sz=>exact h3
  |v e sz n cs=>obtain⟨cs',h4,h5⟩:=h3;exact⟨cs',h4,gA.mono hm hf h5⟩
  |m t ag vs=>exact h3
  |ms t ag vs=>exact h3
  |it ag vs=>exact h3
  |x e sz=>exact h3
 .exact .inr ⟨e,sz,hm _ _ h1,h2⟩
end
theorem Aa{k k':Pk}{s:jt}{c:C}{ds:List D}(h:II ob k s c=some (ds,k')):fM k k'/\qa ob k'.mp k'.fix s c ds:=by
 unfold II at h;split at h
 .simp only[Qq,QR]at h;obtain⟨rfl,rfl⟩:=h;exact⟨fM.refl k,rfl⟩
 .simp only[Qq,QR]at h;obtain⟨rfl,rfl⟩:=h;exact⟨fM.refl k,rfl⟩
 .simp only[Qq,QR]at h;obtain⟨rfl,rfl⟩:=h;exact⟨fM.refl k,rfl⟩
 .simp only[Qq,QR]at h;obtain⟨rfl,rfl⟩:=h;exact⟨fM.refl k,rfl⟩
 .rename_i b;split at h
  .rename_i e sz n cs hob;simp only[Qq,QR]at h;obtain⟨rfl,rfl⟩:=h;exact⟨⟨λ_ _ h=>h,λ_ h=>Qx _ h,id⟩,sz,n,cs,rfl,.inl (.inl ⟨⟨e,hob⟩,Qt ..⟩)⟩
  .rename_i sz n cs hob;simp only[Qq,QR]at h;obtain⟨rfl,rfl⟩:=h;exact⟨fM.refl k,sz,n,cs,rfl,.inl (.inr hob)⟩
  .rename_i e sz n ws hob;split at h
   .rename_i ds' bs hrow;simp only[Qq,QR]at h;obtain⟨rfl,rfl⟩:=h;exact⟨⟨λ_ _ h=>h,λ_ h=>List.mem_append_right _ (Qx _ h),id⟩,sz,n,ds',rfl,.inr ⟨e,ws,bs,hob,hrow,List.mem_append_right _ (Qt ..),λx hx=>List.mem_append_left _ hx⟩⟩
   .cases h
  .cases h
 .split at h
  .rename_i hb;have e:=Qp hb;subst e;rw[R9]at h;obtain⟨k1,h1,h2⟩:=h;simp only[QR]at h2;obtain⟨rfl,rfl⟩:=h2;obtain⟨h3,h4⟩:=wa h1;exact⟨h3,rfl,rfl,h4⟩
  .cases h
 .rw[R9]at h;obtain⟨k1,h1,h2⟩:=h;simp only[QR]at h2;obtain⟨rfl,rfl⟩:=h2;obtain⟨h3,h4⟩:=wa h1;exact⟨h3,rfl,h4⟩
 .rw[R9]at h;obtain⟨k1,h1,h2⟩:=h;simp only[QR]at h2;obtain⟨rfl,rfl⟩:=h2;obtain⟨h3,h4⟩:=GK h1;exact⟨h3,rfl,h4⟩
 .rw[R9]at h;obtain⟨k1,h1,h2⟩:=h;simp only[QR]at h2;obtain⟨rfl,rfl⟩:=h2;obtain⟨h3,h4⟩:=wa h1;exact⟨h3,rfl,h4⟩
 .split at h
  .rename_i hb;simp only[QA]at hb;rw[R9]at h;obtain⟨k1,h1,h2⟩:=h;simp only[QR]at h2;obtain⟨rfl,rfl⟩:=h2;obtain⟨h3,h4⟩:=wa h1;exact⟨h3,Qp hb.1,Qp hb.2,rfl,h4⟩
  .cases h
 .cases h
theorem xB:∀{ss:List jt} {cs:List C} {k k':Pk} {ds:List D},qI ob k ss cs=some (ds,k')->fM k k'/\qn ob k'.mp k'.fix ss cs ds
 |[],[],k,k',ds,h=>by simp only[qI,Qq,QR]at h;obtain⟨rfl,rfl⟩:=h;exact⟨fM.refl k,rfl⟩
 |s::ss,c::cs,k,k',ds,h=>by
  unfold qI at h;split at h
  .rename_i d1 k1 h1;split at h
   .rename_i d2 k2 h2;simp only[Qq,QR]at h;obtain⟨rfl,rfl⟩:=h;obtain⟨a1,a2⟩:=Aa h1;obtain⟨a3,a4⟩:=xB h2;exact⟨a1.trans a3,d1,d2,rfl,qa.mono a3.mp a3.fix a2,a4⟩
   .cases h
  .cases h
 |[],_::_,_,_,_,h=>by simp[qI]at h
 |_::_,[],_,_,_,h=>by simp[qI]at h
theorem z6{k k':Pk}{s:jt}{c:C}{ds:List D}(h:IH ob k s c=some (ds,k')):fM k k'/\o6 ob k'.mp k'.fix s c ds:=by
 unfold IH at h;split at h
 .split at h
  .rename_i hb;have e:=Qp hb;obtain⟨h1,h2⟩:=xB h;exact⟨h1,e,h2⟩
  .cases h
 .rename_i hne;obtain⟨h1,h2⟩:=Aa h;refine⟨h1,?_⟩;unfold o6
  grind
theorem fF:∀{ss:List jt} {cs:List C} {k k':Pk} {ds:List D},jb ob k ss cs=some (ds,k')->fM k k'/\gA ob k'.mp k'.fix ss cs ds
 |[],[],k,k',ds,h=>by simp only[jb,Qq,QR]at h;obtain⟨rfl,rfl⟩:=h;exact⟨fM.refl k,rfl⟩
 |s::ss,c::cs,k,k',ds,h=>by
  unfold jb at h;split at h
  .rename_i d1 k1 h1;split at h
   .rename_i d2 k2 h2;simp only[Qq,QR]at h;obtain⟨rfl,rfl⟩:=h;obtain⟨a1,a2⟩:=z6 h1;obtain⟨a3,a4⟩:=fF h2;exact⟨a1.trans a3,d1,d2,rfl,o6.mono a3.mp a3.fix a2,a4⟩
   .cases h
  .cases h
 |[],_::_,_,_,_,h=>by simp[jb]at h
 |_::_,[],_,_,_,h=>by simp[jb]at h
theorem KK{k k':Pk}{s:lL}{c:S}{ds:List D}(h:ND ob k s c=some (ds,k')):fM k k'/\rj ob k'.mp k'.fix s c ds:=by
 unfold ND at h;unfold rj;split at h
 .exact z6 h
 .split at h
  .rename_i hb;have e:=Qp hb;simp only[Qq,QR]at h;obtain⟨rfl,rfl⟩:=h;exact⟨fM.refl k,e,rfl⟩
  .cases h
 .exact fF h
 .exact fF h
 .exact fF h
 .cases h
theorem qG{sl:Nat->S}:∀{l:List (Nat×lL)} {k k':Pk} {r:bR},ow ob sl k l=some (r,k')->fM k k'/\qm ob k'.mp k'.fix sl l r
 |[],k,k',r,h=>by simp only[ow,Qq,QR]at h;obtain⟨rfl,rfl⟩:=h;exact⟨fM.refl k,rfl⟩
 |(t,s)::l,k,k',r,h=>by
  unfold ow at h;split at h
  .rename_i ds k1 h1;obtain⟨a1,a2⟩:=KK h1;split at h
   .rename_i r' k2 h2;obtain⟨a3,a4⟩:=qG h2;split at h
    .rename_i hs;simp only[Qq,QR]at h;obtain⟨rfl,rfl⟩:=h;exact⟨a1.trans a3,ds,r',rj.mono a3.mp a3.fix a2,a4,by rw[hs]⟩
    .rename_i hs;simp only[Qq,QR]at h;obtain⟨rfl,rfl⟩:=h;exact⟨a1.trans a3,ds,r',rj.mono a3.mp a3.fix a2,a4,by rw[hs]⟩
   .cases h
  .cases h
theorem KL{k k':Pk}{i:Nat}{o:lV}{ds:List D}(h:NF ob k i o=some (ds,k')):fM k k'/\yU ob k'.mp k'.fix i o ds:=by
 unfold NF at h;split at h
 .rename_i b hg;split at h
  .rename_i e cs e' cs' hob;split at h
   .rename_i hb;have e1:=Qp hb;subst e1;obtain⟨a1,a2⟩:=fF h;exact⟨a1,.inl ⟨b,_,a1.mp _ _ hg,hob,cs',rfl,a2⟩⟩
   .cases h
  .rename_i e cs e' n ds' hob;split at h
   .rename_i hb;have e1:=Qp hb;subst e1;obtain⟨a1,a2⟩:=fF h;exact⟨a1,.inl ⟨b,_,a1.mp _ _ hg,hob,_,rfl,a2⟩⟩
   .cases h
  .rename_i e n e' n' ds' hob;split at h
   .rename_i hb;have e1:=Qp hb;subst e1;split at h
    .rename_i hb;have e1:=Qp hb;subst e1;simp only[Qq,QR]at h;obtain⟨rfl,rfl⟩:=h;exact⟨fM.refl k,.inl ⟨b,_,hg,hob,.inl rfl⟩⟩
    .cases h
   .cases h
  .rename_i e n e' cs' hob;split at h
   .rename_i hb;have e1:=Qp hb;subst e1;obtain⟨a1,a2⟩:=fF h;exact⟨a1,.inl ⟨b,_,a1.mp _ _ hg,hob,.inr ⟨cs',rfl,a2⟩⟩⟩
   .cases h
  .rename_i e sz e' sz' n ds' hob;split at h
   .rename_i hb;have e1:=Qp hb;subst e1;split at h
    .rename_i hb;have e1:=Qp hb;subst e1;simp only[Qq,QR]at h;obtain⟨rfl,rfl⟩:=h;exact⟨fM.refl k,.inl ⟨b,_,hg,hob,n,ds',rfl,rfl⟩⟩
    .cases h
   .cases h
  .rename_i e sz n cs e' sz' n' cs' hob;split at h
   .rename_i hb;simp only[QA]at hb;have e1:=Qp hb.1.1;have e2:=Qp hb.1.2;have e3:=Qp hb.2;subst e1 e2 e3;obtain⟨a1,a2⟩:=fF h;exact⟨a1,.inl ⟨b,_,a1.mp _ _ hg,hob,cs',rfl,a2⟩⟩
   .cases h
  .rename_i t ag vs t' ag' vs' n ds' hob;split at h
   .rename_i hb;simp only[QA]at hb;have e1:=Qp hb.1;have e2:ag=ag':=by grind
    have e3:=Qp hb.2.2;subst e1 e2 e3;simp only[Qq,QR]at h;obtain⟨rfl,rfl⟩:=h;exact⟨fM.refl k,.inl ⟨b,_,hg,hob,n,ds',rfl,rfl⟩⟩
   .cases h
  .rename_i t ag vs t' ag' vs' n ds' hob;split at h
   .rename_i hb;simp only[QA]at hb;have e1:=Qp hb.1;have e2:ag=ag':=by grind
    have e3:=Qp hb.2.2;subst e1 e2 e3;simp only[Qq,QR]at h;obtain⟨rfl,rfl⟩:=h;exact⟨fM.refl k,.inl ⟨b,_,hg,hob,n,ds',rfl,rfl⟩⟩
   .cases h
  .rename_i e sz e' sz' n ds' hob;split at h
   .rename_i hb;simp only[QA]at hb;have e1:=Qp hb.1;have e2:=Qp hb.2;subst e1 e2;simp only[Qq,QR]at h;obtain⟨rfl,rfl⟩:=h;exact⟨fM.refl k,.inl ⟨b,_,hg,hob,n,ds',.inl rfl,rfl⟩⟩
   .cases h
  .rename_i e sz e' sz' n ds' hob;split at h
   .rename_i hb;simp only[QA]at hb;have e1:=Qp hb.1;have e2:=Qp hb.2;subst e1 e2;simp only[Qq,QR]at h;obtain⟨rfl,rfl⟩:=h;exact⟨fM.refl k,.inl ⟨b,_,hg,hob,n,ds',.inr rfl,rfl⟩⟩
   .cases h
  .rename_i ag vs ag' vs' cur n ds' hob;split at h
   .rename_i hb;simp only[QA]at hb;have e2:ag=ag':=by grind
    have e3:=Qp hb.2;subst e2 e3;simp only[Qq,QR]at h;obtain⟨rfl,rfl⟩:=h;exact⟨fM.refl k,.inl ⟨b,_,hg,hob,cur,n,ds',rfl,rfl⟩⟩
   .cases h
  .cases h
 .rename_i sz hg;split at h
  .rename_i e sz';split at h
   .rename_i hb;have e1:=Qp hb;subst e1;simp only[Qq,QR]at h;obtain⟨rfl,rfl⟩:=h;exact⟨fM.refl k,.inr ⟨e,sz,hg,rfl,rfl⟩⟩
   .cases h
  .cases h
 .cases h
theorem qH:∀{l:List (Nat×lV)} {k k':Pk} {r:bR},oz ob k l=some (r,k')->fM k k'/\FE ob k'.mp k'.fix l r
 |[],k,k',r,h=>by simp only[oz,Qq,QR]at h;obtain⟨rfl,rfl⟩:=h;exact⟨fM.refl k,rfl⟩
 |(i,o)::l,k,k',r,h=>by
  unfold oz at h;split at h
  .rename_i ds k1 h1;obtain⟨a1,a2⟩:=KL h1;split at h
   .rename_i r' k2 h2;obtain⟨a3,a4⟩:=qH h2;split at h
    .rename_i hs;simp only[Qq,QR]at h;obtain⟨rfl,rfl⟩:=h;exact⟨a1.trans a3,ds,r',yU.mono a3.mp a3.fix a2,a4,by rw[hs]⟩
    .rename_i hs;simp only[Qq,QR]at h;obtain⟨rfl,rfl⟩:=h;exact⟨a1.trans a3,ds,r',yU.mono a3.mp a3.fix a2,a4,by rw[hs]⟩
   .cases h
  .cases h
end
def eh(mp:List (Nat×Tg))(ρ:Nat->Option Qw):Nat->Option Qw:=λi=>match bH mp i with
 |some (.ob b)=>ρ b
 |some (.nil _)=>some (.slice none 0 0)
 |none=>none
theorem cG{mp:List (Nat×Tg)}{ρ:Nat->Option Qw}{i b:Nat}(h:bH mp i=some (.ob b)):eh mp ρ i=ρ b:=by unfold eh;rw[h]
theorem ui{mp:List (Nat×Tg)}{ρ:Nat->Option Qw}{i sz:Nat}(h:bH mp i=some (.nil sz)):eh mp ρ i=some (.slice none 0 0):=by unfold eh;rw[h]
def iQ(ρ:Nat->Option Qw)(M:Mem)(ob:Ob)(fx:List Nat):Prop:=∀b sz n cs,yQ ob fx b sz n cs->∃v,ρ b=some v/\Rd M (.sl n sz cs) v
def At(X:List D)(j:Nat)(ds:List D):Prop:=∀i d,ds[i]?=some d->X[j+i]?=some d
theorem At.cell{X:List D}{j:Nat}{x:D}(h:At X j [x]):cell X j=x:=by
 have:=h 0 x rfl;unfold Pm.cell
 grind
theorem At.left{X:List D}{j:Nat}{d1 d2:List D}(h:At X j (d1++d2)):At X j d1:=λi d hi=>by
 refine h i d ?_
 grind
theorem At.right{X:List D}{j:Nat}{d1 d2:List D}(h:At X j (d1++d2)):At X (j+d1.length) d2:=λi d hi=>by rw[RW];exact h (d1.length+i) d (by grind)
theorem At.M7(ds:List D):At ds 0 ds:=λi d hi=>by grind
section
variable {ob:Ob} {mp:List (Nat×Tg)} {fx:List Nat} {ρ:Nat->Option Qw} {M:Mem}
section
variable (hrows:iQ ρ M ob fx)
theorem Js(hrows:iQ ρ M ob fx){s:jt}{c:C}{ds:List D}{v:Qw}{X:List D}{j:Nat}{K:C->Nat->Prop}(hf:qa ob mp fx s c ds)(hv:CB M ρ c v)(hX:At X j ds)(hu:unB bc X j s K):∃c',K c' (j+ds.length)/\CB M (eh mp ρ) c' v:=by
 unfold qa at hf;split at hf
 .subst hf;exact⟨_,hu,by rw[hX.cell];exact hv⟩
 .obtain⟨sz,n,cs,rfl,h1⟩:=hf;obtain⟨v',h2,h3⟩:=hrows _ _ _ _ h1;have hv':=hv.1;rw[h2]at hv';simp only[Qq]at hv';subst hv';exact⟨_,hu,by rw[hX.cell];exact h3⟩
 .subst hf;obtain rfl:v=.slice none 0 0:=hv;exact⟨_,hu,by rw[hX.cell];exact Rd.sf⟩
 .subst hf;obtain⟨z,h1,h2⟩:=oL hu;rw[hX.cell]at h1;subst h1;exact⟨_,h2,hv⟩
 .subst hf;obtain⟨z,h1,h2⟩:=kW hu;rw[hX.cell]at h1;subst h1;exact⟨_,h2,hv⟩
 .obtain⟨rfl,rfl,h1⟩:=hf;obtain⟨k,h2,h3⟩:=hv;exact⟨_,hu,k,by rw[cG h1];exact h2,h3⟩
 .obtain⟨rfl,h1⟩:=hf;exact⟨_,hu,by rw[cG h1];exact hv.1,hv.2⟩
 .obtain⟨rfl,h1⟩:=hf;obtain rfl:v=.slice none 0 0:=hv;exact⟨_,hu,ui h1,none,0,0,rfl⟩
 .obtain⟨rfl,h1⟩:=hf;obtain⟨k,h2,h3⟩:=hv;exact⟨_,hu,k,by rw[cG h1];exact h2,h3⟩
 .obtain⟨rfl,rfl,rfl,h1⟩:=hf;rename_i i sz b l n;have e1:cell X j=.v (.int .i64 (l:Int)):=At.cell (At.left (d1:=[_]) (d2:=[_]) hX);have e2:cell X (j+1)=.v (.int .i64 (n:Int)):=At.cell (At.right (d1:=[_]) (d2:=[_]) hX);have hu:aw (cell X j) (λl=>aw (cell X (j+1)) λn=>K (.y i 0 sz l.toNat n.toNat) (j+2)):=hu;rw[e1,e2]at hu;have hu:K (.y i 0 sz l n) (j+2):=hu;obtain⟨ad,c,rfl,hnc,hy⟩:=hv;exact⟨_,hu,ad,c,rfl,hnc,by rw[cG h1];exact hy⟩
 .exact hf.elim
theorem EN(hrows:iQ ρ M ob fx):∀{ss:List jt} {cs:List C} {ds:List D} {vs:List Qw} {X:List D} {j:Nat} {K:List C->Nat->Prop},qn ob mp fx ss cs ds->zr M ρ cs vs->At X j ds->Bp bc X j ss K->∃cs',K cs' (j+ds.length)/\zr M (eh mp ρ) cs' vs
 |[],[],ds,vs,X,j,K,hf,hv,_,hu=>by
  obtain rfl:ds=[]:=hf;cases vs with
  |nil=>exact⟨[],hu,trivial⟩
  |cons _ _=>exact hv.elim
 |s::ss,c::cs,ds,v::vs,X,j,K,⟨d1,d2,hd,h1,h2⟩,hv,hX,hu=>by subst hd;obtain⟨c',h3,h4⟩:=Js hrows h1 hv.1 hX.left hu;obtain⟨cs',h5,h6⟩:=EN hrows h2 hv.2 hX.right h3;exact⟨c'::cs',by grind,h4,h6⟩
 |_::_,_::_,_,[],_,_,_,_,hv,_,_=>hv.elim
 |[],_::_,_,_,_,_,_,hf,_,_,_=>hf.elim
 |_::_,[],_,_,_,_,_,hf,_,_,_=>hf.elim
theorem CB.toCR:∀{c:C} {v:Qw},CB M ρ c v->CR M ρ c v
 |.f _ _,_,h=>h.elim
 |.d _,_,h=>h
 |.n,_,h=>h
 |.l _,_,h=>h
 |.p _ _,_,h=>h
 |.q _ _ _ _,_,h=>h
 |.w _,_,h=>h
 |.m _,_,h=>h
 |.z,_,h=>h
 |.u,_,h=>h
 |.e _ _,_,h=>h
 |.y _ _ _ _ _,_,h=>h
 |.k _,_,h=>h
theorem qa.notF{s:jt}{c:C}{ds:List D}(h:qa ob mp fx s c ds){v:Qw}(hv:CR M ρ c v):CB M ρ c v:=by
 cases c with
 |f g cs=>cases s <;> exact h.elim
 |d _=>exact hv
 |n=>exact hv
 |l _=>exact hv
 |p _ _=>exact hv
 |q _ _ _ _=>exact hv
 |w _=>exact hv
 |m _=>exact hv
 |z=>exact hv
 |u=>exact hv
 |e _ _=>exact hv
 |y _ _ _ _ _=>exact hv
 |k _=>exact hv
theorem Jr(hrows:iQ ρ M ob fx){s:jt}{c:C}{ds:List D}{v:Qw}{X:List D}{j:Nat}{K:C->Nat->Prop}(hf:o6 ob mp fx s c ds)(hv:CR M ρ c v)(hX:At X j ds)(hu:unC bc X j s K):∃c',K c' (j+ds.length)/\CR M (eh mp ρ) c' v:=by
 unfold o6 at hf;split at hf
 .obtain⟨rfl,hf⟩:=hf;obtain⟨us,rfl,hv⟩:=hv;obtain⟨cs',h1,h2⟩:=EN hrows hf hv hX hu;exact⟨_,h1,us,rfl,h2⟩
 .rename_i hne;have hu':unB bc X j s K:=by
   unfold unC at hu;split at hu
   .rename_i g cs;cases c <;> first|exact hf.elim|exact(hne _ _ _ _ rfl rfl).elim
   .exact hu
  obtain⟨c',h1,h2⟩:=Js hrows hf (hf.notF hv) hX hu';exact⟨c',h1,h2.toCR⟩
theorem oS(hrows:iQ ρ M ob fx):∀{ss:List jt} {cs:List C} {ds:List D} {vs:List Qw} {X:List D} {j:Nat} {K:List C->Nat->Prop},gA ob mp fx ss cs ds->dr M ρ cs vs->At X j ds->wH bc X j ss K->∃cs',K cs' (j+ds.length)/\dr M (eh mp ρ) cs' vs
 |[],[],ds,vs,X,j,K,hf,hv,_,hu=>by
  obtain rfl:ds=[]:=hf;cases vs with
  |nil=>exact⟨[],hu,trivial⟩
  |cons _ _=>exact hv.elim
 |s::ss,c::cs,ds,v::vs,X,j,K,⟨d1,d2,hd,h1,h2⟩,hv,hX,hu=>by subst hd;obtain⟨c',h3,h4⟩:=Jr hrows h1 hv.1 hX.left hu;obtain⟨cs',h5,h6⟩:=oS hrows h2 hv.2 hX.right h3;exact⟨c'::cs',by grind,h4,h6⟩
 |_::_,_::_,_,[],_,_,_,_,hv,_,_=>hv.elim
 |[],_::_,_,_,_,_,_,hf,_,_,_=>hf.elim
 |_::_,[],_,_,_,_,_,hf,_,_,_=>hf.elim
theorem yj(hrows:iQ ρ M ob fx):∀{n:Nat} {cs:List C} {ds:List D} {vs:List Qw},gA ob mp fx (dsh n) cs ds->dr M ρ cs vs->ds.length=n/\bz M ds vs
 |0,[],ds,vs,hf,hv=>by
  obtain rfl:ds=[]:=hf;cases vs with
  |nil=>exact⟨rfl,bz.nil _⟩
  |cons _ _=>exact hv.elim
 |n+1,c::cs,ds,v::vs,⟨d1,d2,hd,h1,h2⟩,hv=>by
  subst hd;obtain⟨h3,h4⟩:=yj hrows h2 hv.2;have key:∃x,d1=[x]/\Rd M x v:=by
   cases c with
   |d x=>exact⟨x,h1,hv.1⟩
   |w b=>obtain⟨sz,n,cs,h5,h6⟩:=h1;obtain⟨v',h7,h8⟩:=hrows _ _ _ _ h6;have hv':ρ b=some v:=hv.1.1;rw[h7]at hv';simp only[Qq]at hv';subst hv';exact⟨_,h5,h8⟩
   |l sz=>obtain rfl:v=.slice none 0 0:=hv.1;exact⟨_,h1,Rd.sf⟩
   |n=>exact h1.elim
   |p _ _=>exact h1.elim
   |q _ _ _ _=>exact h1.elim
   |m _=>exact h1.elim
   |f _ _=>exact h1.elim
   |z=>exact h1.elim
   |u=>exact h1.elim
   |e _ _=>exact h1.elim
   |y _ _ _ _ _=>exact h1.elim
   |k _=>exact h1.elim
  obtain⟨x,rfl,hx⟩:=key;exact⟨by simp[h3],bz.cons hx h4⟩
 |_+1,_::_,_,[],_,hv=>hv.elim
 |0,_::_,_,_,hf,_=>hf.elim
 |_+1,[],_,_,hf,_=>hf.elim
theorem fitS_un(hrows:iQ ρ M ob fx){s:lL}{c:S}{ds:List D}{v:Qw}{K:S->Prop}(hf:rj ob mp fx s c ds)(hv:SR M ρ c v)(hu:Mv bc ds s K):∃c',K c'/\SR M (eh mp ρ) c' v:=by
 unfold rj at hf;split at hf
 .obtain⟨c',h1,h2⟩:=Jr (K:=λc _=>K (.c c)) hrows hf hv (At.M7 ds) hu;exact⟨_,h1,h2⟩
 .obtain⟨rfl,rfl⟩:=hf;obtain⟨h1,us,h2,h3⟩:=hv;exact⟨_,hu,h1,us,h2,h3⟩
 .obtain⟨us,rfl,hv⟩:=hv;obtain⟨h1,h2⟩:=yj hrows hf hv;exact⟨_,hu,h1,us,rfl,h2⟩
 .obtain⟨us,rfl,hv⟩:=hv;obtain⟨c',h1,h2⟩:=oS (K:=λc _=>K (.g c)) hrows hf hv (At.M7 ds) hu;exact⟨_,h1,us,rfl,h2⟩
 .obtain⟨h1,us,rfl,h2⟩:=hv;rw[te h1]at hf;obtain⟨c',h3,h4⟩:=oS (K:=λc _=>K (.g c)) hrows hf (dr.data h2) (At.M7 ds) hu;exact⟨_,h3,us,rfl,h4⟩
 .exact hf.elim
end
theorem EO{s:jt}{c:C}{ds:List D}(hf:qa ob mp fx s c ds)(h:isD s=false):ds=[]:=by unfold qa at hf;split at hf <;> first|exact hf.1|exact hf.2.1|exact hf.elim|cases h
theorem AL:∀{ss:List jt} {cs:List C} {ds:List D},qn ob mp fx ss cs ds->ss.any isD=false->ds=[]
 |[],[],_,hf,_=>hf
 |s::ss,c::cs,ds,⟨d1,d2,hd,h1,h2⟩,h=>by simp only[Xh,UW]at h;rw[hd,EO h1 h.1,AL h2 h.2];rfl
 |[],_::_,_,hf,_=>hf.elim
 |_::_,[],_,hf,_=>hf.elim
theorem EM{s:jt}{c:C}{ds:List D}(hf:o6 ob mp fx s c ds)(h:LU s=false):ds=[]:=by
 unfold o6 at hf;split at hf
 .exact AL hf.2 h
 .rename_i hne;refine EO hf ?_;cases s with
  |d=>cases h
  |i=>cases h
  |bo=>cases h
  |y _ _=>cases h
  |_=>rfl
theorem mC:∀{ss:List jt} {cs:List C} {ds:List D},gA ob mp fx ss cs ds->ss.any LU=false->ds=[]
 |[],[],_,hf,_=>hf
 |s::ss,c::cs,ds,⟨d1,d2,hd,h1,h2⟩,h=>by simp only[Xh,UW]at h;rw[hd,EM h1 h.1,mC h2 h.2];rfl
 |[],_::_,_,hf,_=>hf.elim
 |_::_,[],_,hf,_=>hf.elim
theorem Po{s:lL}{c:S}{ds:List D}(hf:rj ob mp fx s c ds)(h:uq s=false):ds=[]:=by
 unfold rj at hf;split at hf
 .exact EM hf h
 .cases h
 .cases h
 .exact mC hf h
 .exact mC hf h
 .exact hf.elim
theorem Jv{r:bR}{pre:bR}{e:List D}{post:bR}(h:r=pre++e::post):ab r pre.length=e:=by
 unfold ab
 grind
theorem yk(hrows:iQ ρ M ob fx){sl:Nat->S}{val:Nat->Option Qw}(hsl:∀t,sl t=su\/∃v,val t=some v/\SR M ρ (sl t) v) :
  ∀{l:List (Nat×lL)} {rl:bR} {r pre post:bR} {f:Nat->S} {K:(Nat->S)->Nat->Prop},qm ob mp fx sl l rl->r=pre++(rl++post)->(∀t,f t=su\/∃v,val t=some v/\SR M (eh mp ρ) (f t) v)->qq bc r pre.length l f K ->
   ∃sl',K sl' (pre++rl).length/\∀t,sl' t=su\/∃v,val t=some v/\SR M (eh mp ρ) (sl' t) v
 |[],rl,r,pre,post,f,K,hf,_,hff,hu=>by obtain rfl:rl=[]:=hf;exact⟨f,by rw[QF];exact hu,hff⟩
 |(t,s)::l,rl,r,pre,post,f,K,⟨ds,r',h1,h2,h3⟩,hr,hff,hu=>by
  have hsu:sl t≠su\/ds=[]/\False:=by
   left;intro e;rw[e]at h1;cases s with
   |c c=>unfold rj o6 at h1;cases c <;> exact h1.elim
   |a n=>exact h1.elim
   |g cs=>exact h1.elim
   |t l=>exact h1.elim
  have hk:∃v,val t=some v/\SR M ρ (sl t) v:=by
   grind
  obtain⟨v,hv,hs⟩:=hk;have key:∀{pre':bR} {K':S->Prop},Mv bc ds s K'->∃c',K' c'/\SR M (eh mp ρ) c' v:=λhu=>fitS_un hrows h1 hs hu
  have step:∀(c':S),SR M (eh mp ρ) c' v->∀q,(match Qy q t with
   |true=>c'
   |false=>f q)=su\/∃v,val q=some v/\SR M (eh mp ρ) (match Qy q t with
   |true=>c'
   |false=>f q) v:=λc' hc' q=>by
   by_cases e:q=t
   .subst e;rw[cW];exact .inr ⟨v,hv,hc'⟩
   .rw[gS e];exact hff q
  cases hb:uq s with
  |true =>
   rw[hb]at h3;subst h3;unfold qq at hu;rw[hb]at hu;have he:ab r pre.length=ds:=Jv (by rw[hr];rfl);rw[show(fe true r pre.length).1=ds from he]at hu;obtain⟨c',h4,h5⟩:=key (pre':=pre) hu;have e2:(fe true r pre.length).2=(pre++[ds]).length:=by simp[fe]
   rw[e2]at h4;obtain⟨sl',h6,h7⟩:=yk hrows hsl h2 (pre:=pre++[ds]) (post:=post) (by grind) (step c' h5) h4;exact⟨sl',by grind,h7⟩
  |false=>rw[hb]at h3;subst h3;unfold qq at hu;rw[hb]at hu;have hd:ds=[]:=Po h1 hb;rw[show(fe false r pre.length).1=ds from hd.symm]at hu;obtain⟨c',h4,h5⟩:=key (pre':=pre) hu;obtain⟨sl',h6,h7⟩:=yk hrows hsl h2 (pre:=pre) (post:=post) hr (step c' h5) h4;exact⟨sl',h6,h7⟩
end
theorem KI{lst:List (Nat×As)}(hnd:(lst.map QZ).Nodup){b:Nat}{x:As}(hm:(b,x)∈lst):X5 (lst.map Ra) (x::(lst.filter λp=>!Qy p.1 b).map Ra):=by
 obtain⟨l1,l2,rfl⟩:=List.append_of_mem hm;rw[Rb,QT]at hnd;have hn1:∀p∈l1,Qy p.1 b=false:=λp hp=>gS ((R7.1 hnd).2.2 p.1 (Rl hp) b (Qt ..));have hn2:∀p∈l2,Qy p.1 b=false:=λp hp=>gS λe=>by
  grind
 have f1:l1.filter (λp=>!Qy p.1 b)=l1:=Tj.2 λp hp=>by grind
 have f2:l2.filter (λp=>!Qy p.1 b)=l2:=Tj.2 λp hp=>by grind
 rw[List.filter_append,List.filter_cons,f1,f2,cW];simp_all
theorem tZ:∀{l:List (Nat×lV)},nh l=true->(l.map QZ).Nodup
 |[],_=>Ur
 |(i,o)::l,h=>by
  unfold nh at h;split at h
  .cases h
  .rename_i hn;rw[QT];refine Rw.2 ⟨λhm=>?_,tZ h⟩;obtain⟨p,hp,e⟩:=QP.1 hm;have:=Uq.1 hn p hp;simp_all
theorem fk{obs:List (Nat×lV)}:∀{mp:List (Nat×Tg)} {i:Nat} {x:Tg},oG obs mp=true->bH mp i=some x->i∈obs.map QZ
 |[],_,_,_,h=>by simp[bH]at h
 |(j,y)::mp,i,x,hl,h=>by
  unfold oG at hl;split at hl
  .rename_i ha;rw[dO]at h;by_cases e:i=j
   .simp_all
   .rw[J1 e]at h;exact fk hl h
  .cases hl
theorem CF:∀{obs:List (Nat×lV)} {i:Nat},i∈obs.map QZ->i<rh obs
 |[],_,h=>by simp at h
 |(j,_)::l,i,h=>by
  rw[QT]at h;unfold rh;rcases Qz.1 h with e|h
  .grind
  .exact XZ (CF h) (Nat.le_max_right _ _)
theorem tk(b:Nat)(o:O)(f:Ob)(k:Nat):CJ b o f k=if k=b then some o else f k:=by
 unfold CJ;by_cases e:k=b
 .simp_all
 .rw[gS e,J1 e]
section
variable {ob:Ob} {mp:List (Nat×Tg)} {fx:List Nat} {ρ:Nat->Option Qw} {M:Mem} {lst:List (Nat×As)} {w0:QL} {Γ:List As}
def Src(mp:List (Nat×Tg))(lst:List (Nat×As))(i:Nat)(x:As):Prop:=(∃b,bH mp i=some (.ob b)/\(b,x)∈lst)\/∃e sz s,bH mp i=some (.nil s)/\x=.acc (.slice none 0 0) e sz 0 []
theorem fitO_un(hrows:iQ ρ M ob fx)(hobs:∀i b x,bH mp i=some (.ob b)->ob b=some x->OR M ρ lst b x){i:Nat}{o:lV}{ds:List D}{K:O->Prop}(hf:yU ob mp fx i o ds)(hu:unO bc ds o K) :
  ∃o' x,K o'/\Src mp lst i x/\∀lst',(i,x)∈lst'->OR M (eh mp ρ) lst' i o':=by
 rcases hf with⟨b,x,h1,h2,h3⟩|⟨e,sz,h1,rfl,rfl⟩
 .have ho:=hobs i b x h1 h2;cases o with
  |b e cs=>obtain⟨cs',h4,h5⟩:=h3;obtain⟨k,us,h6,h7,h8⟩:=AX h4 ho;obtain⟨cs'',h9,h10⟩:=oS (K:=λcs _=>K (.b e cs)) hrows h5 h8 (At.M7 ds) hu;exact⟨_,_,h9,.inl ⟨b,h1,h7⟩,λlst' hm=>⟨k,us,by rw[cG h1];exact h6,hm,h10⟩⟩
  |a e n =>
   rcases h3 with rfl|⟨cs',rfl,h5⟩
   .obtain⟨k,us,h6,h7,h8,h9⟩:=ho;exact⟨_,_,hu,.inl ⟨b,h1,h7⟩,λlst' hm=>⟨k,us,by rw[cG h1];exact h6,hm,h8,h9⟩⟩
   .obtain⟨k,us,h6,h7,h8⟩:=ho;obtain⟨h9,h10⟩:=yj hrows h5 h8;exact⟨_,_,hu,.inl ⟨b,h1,h7⟩,λlst' hm=>⟨k,us,by rw[cG h1];exact h6,hm,h10,h9⟩⟩
  |w e sz=>obtain⟨n,cs,rfl,rfl⟩:=h3;obtain⟨a,c,us,h6,h7,h8,h9,h10⟩:=ho;obtain⟨n',cs',h11,h12⟩:=iz (sz:=sz) (x:=Pm.cell [D.sl n sz cs] 0) (k:=λn cs=>K (.w e sz n cs)) hu;have h11':D.sl n sz cs=.sl n' sz cs':=h11;simp only[D.sl.injEq]at h11';obtain⟨rfl,_,rfl⟩:=h11';exact⟨_,_,h12,.inl ⟨b,h1,h7⟩,λlst' hm=>⟨a,c,us,by rw[cG h1];exact h6,hm,h8,h9,h10⟩⟩
  |v e sz n cs=>obtain⟨cs',rfl,h5⟩:=h3;obtain⟨a,c,us,h6,h7,h8,h8',h8''⟩:=ho;obtain⟨cs'',h9,h10⟩:=oS (K:=λcs _=>K (.v e sz n cs)) hrows h5 h8 (At.M7 ds) hu;exact⟨_,_,h9,.inl ⟨b,h1,h7⟩,λlst' hm=>⟨a,c,us,by rw[cG h1];exact h6,hm,h10,h8',h8''⟩⟩
  |m t ag vs=>obtain⟨n,cs,rfl,rfl⟩:=h3;obtain⟨k,l,h6,h7,h8,h9⟩:=ho;obtain⟨n',cs',h11,h12⟩:=iz (sz:=3+vs) (x:=Pm.cell [D.sl n (3+vs) cs] 0) (k:=λn cs=>K (.m t ag vs n cs)) hu;have h11':D.sl n (3+vs) cs=.sl n' (3+vs) cs':=h11;simp only[D.sl.injEq]at h11';obtain⟨rfl,_,rfl⟩:=h11';exact⟨_,_,h12,.inl ⟨b,h1,h7⟩,λlst' hm=>⟨k,l,by rw[cG h1];exact h6,hm,h8,h9⟩⟩
  |ms t ag vs=>obtain⟨n,cs,rfl,rfl⟩:=h3;obtain⟨k,h6,h7,h8⟩:=ho;obtain⟨n',cs',h11,h12⟩:=iz (sz:=3+vs) (x:=Pm.cell [D.sl n (3+vs) cs] 0) (k:=λn cs=>K (.ms t ag vs n cs)) hu;have h11':D.sl n (3+vs) cs=.sl n' (3+vs) cs':=h11;simp only[D.sl.injEq]at h11';obtain⟨rfl,_,rfl⟩:=h11';exact⟨_,_,h12,.inl ⟨b,h1,h7⟩,λlst' hm=>⟨k,by rw[cG h1];exact h6,hm,h8⟩⟩
  |x e sz =>
   obtain⟨n,cs,hx,rfl⟩:=h3;obtain⟨n',cs',h11,h12⟩:=iz (sz:=sz) (x:=Pm.cell [D.sl n sz cs] 0) (k:=λn cs=>K (.x e sz n cs)) hu;have h11':D.sl n sz cs=.sl n' sz cs':=h11;simp only[D.sl.injEq]at h11';obtain⟨rfl,_,rfl⟩:=h11';rcases hx with rfl|rfl
   .obtain⟨a,c,us,h6,h8,h9,h10,h7⟩:=ho;obtain⟨y,h7,h13⟩:=h7.src;exact⟨_,_,h12,.inl ⟨b,h1,h7⟩,λlst' hm=>⟨a,c,us,by rw[cG h1];exact h6,h8,h9,h10,h13 _ _ hm⟩⟩
   .obtain⟨a,c,us,h6,h7,h8,h9,h10⟩:=ho;exact⟨_,_,h12,.inl ⟨b,h1,h7⟩,λlst' hm=>⟨a,c,us,by rw[cG h1];exact h6,h8,h9,h10,.inl hm⟩⟩
  |it ag vs=>obtain⟨cur,n,cs,rfl,rfl⟩:=h3;obtain⟨k,o,h6,h7,h8⟩:=ho;obtain⟨n',cs',h11,h12⟩:=iz (sz:=3+vs) (x:=Pm.cell [D.sl n (3+vs) cs] 0) (k:=λn cs=>K (.it ag vs none n cs)) hu;have h11':D.sl n (3+vs) cs=.sl n' (3+vs) cs':=h11;simp only[D.sl.injEq]at h11';obtain⟨rfl,_,rfl⟩:=h11';exact⟨_,_,h12,.inl ⟨b,h1,h7⟩,λlst' hm=>⟨k,o,by rw[cG h1];exact h6,hm,h8.nQ⟩⟩
 .obtain⟨n',cs',h11,h12⟩:=iz (sz:=sz) (x:=Pm.cell [D.sl 0 sz []] 0) (k:=λn cs=>K (.w e sz n cs)) hu;have h11':D.sl 0 sz []=.sl n' sz cs':=h11;simp only[D.sl.injEq]at h11';obtain⟨rfl,_,rfl⟩:=h11';exact⟨_,_,h12,.inr ⟨e,sz,sz,h1,rfl⟩,λlst' hm=>⟨none,0,[],ui h1,hm,bz.nil _,Q2,Rr _⟩⟩
theorem Pp{i:Nat}{o:lV}{ds:List D}(hf:yU ob mp fx i o ds)(h:Ce o=false):ds=[]:=by
 rcases hf with⟨b,x,h1,h2,h3⟩|⟨e,sz,h1,rfl,rfl⟩
 .cases o with
  |b e cs=>obtain⟨cs',h4,h5⟩:=h3;exact mC h5 h
  |a e n=>cases h
  |w e sz=>cases h
  |v e sz n cs=>obtain⟨cs',h4,h5⟩:=h3;exact mC h5 h
  |m t ag vs=>cases h
  |ms t ag vs=>cases h
  |it ag vs=>cases h
  |x e sz=>cases h
 .cases h
def HF(mp:List (Nat×Tg))(ρ:Nat->Option Qw)(M:Mem)(w0:QL)(Γ:List As)(is:List Nat)(f:Ob)(lst0 rem:List (Nat×As))(K:Ob->Prop):Prop :=
 ∃(ob':Ob) (lst1 rem':List (Nat×As)),K ob'/\(∀k o,ob' k=some o->OR M (eh mp ρ) lst1 k o)/\(∀k,(f k).isSome=true\/k∈is->(ob' k).isSome=true)/\(lst1.map QZ).Nodup/\(∀p∈lst1,p∈lst0\/p.1∈is/\(eh mp ρ p.1).isSome=true) /\
  (rem'.map QZ).Nodup/\(∀p∈rem',p∈rem/\∀i∈is,bH mp i≠some (.ob p.1))/\(∀p∈rem,(∀i∈is,bH mp i≠some (.ob p.1))->p∈rem') /\
  ∀w,St w0 M (lst0.map Ra++(rem.map Ra++Γ)) w->St w0 M (lst1.map Ra++(rem'.map Ra++Γ)) w
theorem EJ(hrows:iQ ρ M ob fx)(hobs:∀i b x,bH mp i=some (.ob b)->ob b=some x->OR M ρ lst b x)(hinj:zo mp)(hlst:(lst.map QZ).Nodup)(hkeys:∀p∈lst,(ρ p.1).isSome=true) :
  ∀{l:List (Nat×lV)} {rl r pre:bR} {f:Ob} {K:Ob->Prop} {lst0 rem:List (Nat×As)},FE ob mp fx l rl->r=pre++rl->vu bc r pre.length l f K ->
   (l.map QZ).Nodup->(lst0.map QZ).Nodup->(∀p∈lst0,p.1 ∉ l.map QZ)->(rem.map QZ).Nodup->(∀i∈l.map QZ,∀b x,bH mp i=some (.ob b)->(b,x)∈lst->(b,x)∈rem)->(∀k o,f k=some o->OR M (eh mp ρ) lst0 k o) ->
   HF mp ρ M w0 Γ (l.map QZ) f lst0 rem K
 |[],rl,r,pre,f,K,lst0,rem,hf,_,hu,_,hn0,_,hnr,_,hff=>⟨f,lst0,rem,hu,hff,λk hk=>hk.resolve_right Q2,hn0,λp hp=>.inl hp,hnr,λp hp=>⟨hp,λi hi=>by simp at hi⟩,λp hp _=>hp,λw hw=>hw⟩
 |(i,o)::l,rl,r,pre,f,K,lst0,rem,⟨ds,r',h1,h2,h3⟩,hr,hu,hnl,hn0,hdis,hnr,hav,hff=>by
  have hnl':=Rw.1 (show(i::l.map QZ).Nodup from hnl)
  -- qt thing itself
  have key:∀{q:Nat} {pre':bR} (_:q=pre'.length) (_:r=pre'++r') (_:unO bc ds o λx=>vu bc r q l (CJ i x f) K),HF mp ρ M w0 Γ (i::l.map QZ) f lst0 rem K:=by
   intro q pre' hq hr' hu';subst hq;obtain⟨o',x,h4,hsrc,h5⟩:=fitO_un hrows hobs h1 hu';have hn1:(((i,x)::lst0).map QZ).Nodup:=by
    grind
   have hdis1:∀p∈(i,x)::lst0,p.1 ∉ l.map QZ:=λp hp=>by
    grind
   have hff1:∀k o,CJ i o' f k=some o->OR M (eh mp ρ) ((i,x)::lst0) k o:=λk o ho=>by
    rw[tk]at ho;by_cases e:k=i
    .grind
    .rw[J1 e]at ho;exact OR.mono (Sub.refl M) (Ext.refl _) (λy hy=>Qx _ hy) (hff k o ho)
   have fin:∀rem1:List (Nat×As),(rem1.map QZ).Nodup->(∀j∈l.map QZ,∀b y,bH mp j=some (.ob b)->(b,y)∈lst->(b,y)∈rem1)->(∀p∈rem1,p∈rem/\bH mp i≠some (.ob p.1))->(∀p∈rem,bH mp i≠some (.ob p.1)->p∈rem1) ->
     (∀w,St w0 M (lst0.map Ra++(rem.map Ra++Γ)) w->St w0 M (((i,x)::lst0).map Ra++(rem1.map Ra++Γ)) w)->HF mp ρ M w0 Γ (i::l.map QZ) f lst0 rem K:=by
    intro rem1 hnr1 hav1 hsub hsup hw1;obtain⟨ob',lst1,rem',k1,k2,k3,k4,k5,k6,k7,k8,k9⟩:=EJ hrows hobs hinj hlst hkeys h2 hr' h4 hnl'.2 hn1 hdis1 hnr1 hav1 hff1;refine⟨ob',lst1,rem',k1,k2,λk hk=>k3 k ?_,k4,λp hp=>?_,k6,λp hp=>⟨(hsub p (k7 p hp).1).1,λj hj=>?_⟩,λp hp hj=>k8 p (hsup p hp (hj i (Qt ..))) λj hjl=>hj j (Qx _ hjl),λw hw=>k9 w (hw1 w hw)⟩
    .rcases hk with hk|hk
     .left;rw[tk];split
      .rfl
      .exact hk
     .rcases Qz.1 hk with rfl|hk
      .left;rw[tk,J2 rfl];rfl
      .exact .inr hk
    .rcases k5 p hp with h6|h6
     .rcases Qz.1 h6 with rfl|h6
      .refine .inr ⟨Qt ..,?_⟩;rcases hsrc with⟨b,hb,hm⟩|⟨e,sz,s,hb,_⟩
       .rw[cG hb];exact hkeys _ hm
       .rw[ui hb];rfl
      .exact .inl h6
     .exact .inr ⟨Qx _ h6.1,h6.2⟩
    .rcases Qz.1 hj with rfl|hj
     .exact(hsub p (k7 p hp).1).2
     .exact(k7 p hp).2 j hj
   rcases hsrc with⟨b,hb,hm⟩|⟨e,sz,s,hb,rfl⟩
   .have hmr:=hav i (Qt ..) b x hb hm;refine fin (rem.filter λp=>!Qy p.1 b) (kl hnr b) (λj hj b' y hb' hy=>ib (hav j (Qx _ hj) b' y hb' hy) λe=>?_) (λp hp=>⟨(Rq.1 hp).1,λe=>?_⟩) (λp hp hne=>Rq.2 ⟨hp,?_⟩) λw hw=>?_
    .subst e;exact hnl'.1 (by rw[hinj i j b' hb hb'];exact hj)
    .rw[hb]at e;simp only[Qq,Tg.ob.injEq]at e;exact ym (k:=p.1) (x:=p.2) hp e.symm
    .rw[gS λe=>hne (by rw[hb,e])];rfl
    .refine hw.fP ?_;have h6:=KI hnr hmr;rw[QT];refine((h6.append_right Γ).append_left (lst0.map Ra)).trans ?_;rw[List.cons_append];exact List.perm_middle
   .refine fin rem hnr (λj hj=>hav j (Qx _ hj)) (λp hp=>⟨hp,by grind⟩) (λp hp _=>hp) λw hw=>?_;exact hw.tl e sz
  cases hb:Ce o with
  |true=>rw[hb]at h3;subst h3;unfold vu at hu;rw[hb]at hu;have he:ab r pre.length=ds:=Jv hr;rw[show(fe true r pre.length).1=ds from he]at hu;exact key (q:=(fe true r pre.length).2) (pre':=pre++[ds]) (by simp[fe]) (by grind) hu
  |false=>rw[hb]at h3;subst h3;unfold vu at hu;rw[hb]at hu;have hd:ds=[]:=Pp h1 hb;rw[show(fe false r pre.length).1=ds from hd.symm]at hu;exact key (q:=(fe false r pre.length).2) (pre':=pre) rfl hr hu
theorem tu{Γ0:List As}{val:Nat->Option Qw}{w:QL}(hobs:∀i b x,bH mp i=some (.ob b)->ob b=some x->OR M ρ lst b x)(hlst:(lst.map QZ).Nodup)(hkeys:∀p∈lst,(ρ p.1).isSome=true)(hst:St w0 M (lst.map Ra++Γ0) w)(hgr:yT M)(hrows:iQ ρ M ob fx)
  {sl:Nat->S} (hsl:∀t,sl t=su\/∃v,val t=some v/\SR M ρ (sl t) v) {sh:Sh} {r r':bR} (h1:qm ob mp fx sl sh.sl r) (h2:FE ob mp fx sh.ob r') (hl:oG sh.ob mp=true) (hn:nh sh.ob=true) (hinj:zo mp)
  {K:Fr->Prop} (hu:ct bc sh (r++r') K) :
  ∃(fr':Fr) (lst' rem:List (Nat×As)),K fr'/\fr'.aQ=rh sh.ob/\Rel w0 (rem.map Ra++Γ0) fr' (eh mp ρ) M lst' val w/\(∀p∈lst',p.1∈sh.ob.map QZ)/\(rem.map QZ).Nodup/\(∀p∈rem,p∈lst/\∀i∈sh.ob.map QZ,bH mp i≠some (.ob p.1)) /\
   (∀p∈lst,(∀i∈sh.ob.map QZ,bH mp i≠some (.ob p.1))->p∈rem):=by
 unfold ct at hu;obtain⟨sl',h3,h4⟩:=yk hrows hsl h1 (pre:=[]) (post:=r') rfl (λt=>.inl rfl) hu;rw[Rk]at h3;obtain⟨ob',lst1,rem',k1,k2,k3,k4,k5,k6,k7,k8,k9⟩:=EJ (w0:=w0) (Γ:=Γ0) (lst0:=[]) (rem:=lst) hrows hobs hinj hlst hkeys h2 rfl h3 (tZ hn) Ur (λp hp=>by simp at hp) hlst (λi hi b x hb hx=>hx) (λk o ho=>by cases ho);refine⟨_,lst1,rem',k1,rfl,⟨h4,k2,λi v hv=>.inl ?_,λp hp=>((k5 p hp).resolve_left Q2).2,k4,k9 w hst,hgr⟩,λp hp=>((k5 p hp).resolve_left Q2).1,k6,k7,k8⟩
 .unfold eh at hv;split at hv
  .rename_i hg;exact CF (fk hl hg)
  .rename_i hg;exact CF (fk hl hg)
  .cases hv
end
theorem zo.nil:zo []:=λi j b h=>by simp[bH]at h
theorem yM{mp:List (Nat×Tg)}:∀{l:List Nat} {b i:Nat},ri mp l=true->b∈l->bH mp i≠some (.ob b)
 |c::l,b,i,h,hb=>by
  unfold ri at h;split at h
  .cases h
  .rename_i hc;rcases Qz.1 hb with rfl|hb
   .intro e;rw[wg e]at hc;cases hc
   .exact yM h hb
theorem uu{fr:Fr}{ob:Ob}(hob:∀b x,ob b=some x->fr.ob b=some x):∀(l:List Nat),fj fr (gq ob l)
 |[]=>fj.nil
 |b::l=>by
  unfold gq;split
  .rename_i e sz n ds hb;intro p hp;rcases Qz.1 hp with rfl|hp
   .grind
   .exact uu hob l p hp
  .exact uu hob l
theorem ur{ob:Ob}:∀{l:List Nat} {b e sz n:Nat} {ds:List D},b∈l->ob b=some (.w e sz n ds)->(b,O.s sz n ds)∈gq ob l
 |c::l,b,e,sz,n,ds,hb,hob=>by
  unfold gq;rcases Qz.1 hb with rfl|hb
  .grind
  .split
   .exact Qx _ (ur hb hob)
   .exact ur hb hob
theorem pJ{ob:Ob}:∀{l:List Nat} {p:Nat×O},p∈gq ob l->p.1∈l
 |c::l,p,h=>by
  unfold gq at h;split at h
  .rcases Qz.1 h with rfl|h
   .grind
   .exact Qx _ (pJ h)
  .exact Qx _ (pJ h)
section
variable {w0:QL} {Γ0:List As} {fr:Fr} {ρ:Nat->Option Qw} {M:Mem} {lst:List (Nat×As)} {val:Nat->Option Qw} {w:QL}
theorem Rel.nQ{R:List As}(h:Rel w0 (R++Γ0) fr ρ M lst val w):Rel w0 Γ0 fr ρ M lst val w :=
 ⟨h.sl,h.ob,h.vP,h.gg,h.nd,h.st.sub (U8 (List.Sublist.refl _) (List.sublist_append_right _ _)),h.gr⟩
theorem rF{ob:Ob}{fx:List Nat}(hrow:∀b sz n ds,((∃e,ob b=some (.w e sz n ds))/\b∈fx\/ob b=some (.s sz n ds))->∃v,ρ b=some v/\Rd M (.sl n sz ds) v):∀{ws:List C} {cs:List D} {bs:List Nat} {us:List Qw},rG ob ws=some (cs,bs)->(∀x∈bs,x∈fx)->dr M ρ ws us->bz M cs us
 |[],cs,bs,us,h,_,hu=>by
  simp only[rG,Qq,QR]at h;obtain⟨rfl,rfl⟩:=h;cases us with
  |nil=>exact bz.nil _
  |cons _ _=>exact hu.elim
 |c::ws,cs,bs,[],_,_,hu=>hu.elim
 |c::ws,cs,bs,u::us,h,hb,hu=>by
  unfold rG at h;split at h
  .grind
  .rename_i x l he;simp only[SA]at he;obtain⟨rfl,rfl⟩:=he;split at h
   .rename_i ds bs' hr;simp only[Qq,QR]at h;obtain⟨rfl,rfl⟩:=h;exact bz.cons hu.1 (rF hrow hr hb hu.2)
   .cases h
  .rename_i sz l he;simp only[SA]at he;obtain⟨rfl,rfl⟩:=he;split at h
   .rename_i ds bs' hr;simp only[Qq,QR]at h;obtain⟨rfl,rfl⟩:=h;obtain rfl:u=.slice none 0 0:=hu.1;exact bz.cons Rd.sf (rF hrow hr hb hu.2)
   .cases h
  .rename_i b l he;simp only[SA]at he;obtain⟨rfl,rfl⟩:=he;have hub:ρ b=some u:=hu.1.1;split at h
   .rename_i e sz n xs hob;split at h
    .rename_i ds bs' hr;simp only[Qq,QR]at h;obtain⟨rfl,rfl⟩:=h;obtain⟨v,h1,h2⟩:=hrow b sz n xs (.inl ⟨⟨e,hob⟩,hb _ (Qt ..)⟩);rw[hub]at h1;simp only[Qq]at h1;subst h1;exact bz.cons h2 (rF hrow hr (λx hx=>hb _ (Qx _ hx)) hu.2)
    .cases h
   .rename_i sz n xs hob;split at h
    .rename_i ds bs' hr;simp only[Qq,QR]at h;obtain⟨rfl,rfl⟩:=h;obtain⟨v,h1,h2⟩:=hrow b sz n xs (.inr hob);rw[hub]at h1;simp only[Qq]at h1;subst h1;exact bz.cons h2 (rF hrow hr hb hu.2)
    .cases h
   .cases h
  .cases h
theorem Cf{ob:Ob}:∀{l:List Nat} {p:Nat×O},p∈gq ob l->∃e sz n ds,ob p.1=some (.w e sz n ds)
 |c::l,p,h=>by
  unfold gq at h;split at h
  .rename_i e sz n ds hob;rcases Qz.1 h with rfl|h
   .exact⟨e,sz,n,ds,hob⟩
   .exact Cf h
  .exact Cf h
def goalV(ob:Ob)(b:Nat):Option O:=match ob b with
 |some (.v _ sz n ws)=>(match rG ob ws with
  |some (ds,_)=>some (.s sz n ds)
  |none=>none)
 |_=>none
theorem wZ(h:Rel w0 Γ0 fr ρ M lst val w){ob:Ob}(hob:∀b x,ob b=some x->fr.ob b=some x)(fx:List Nat):∃M1 lst1,Sub M M1/\Rel w0 Γ0 (fr.aJ (gq ob fx++gN ob fx fx)) ρ M1 lst1 val w/\iQ ρ M1 ob fx:=by
 obtain⟨M1,lst1,hM,hfa,hR⟩:=Rel.Jq (gq ob fx) h (uu hob fx);have plain:∀b sz n cs,((∃e,ob b=some (.w e sz n cs))/\b∈fx\/ob b=some (.s sz n cs))->∃v,ρ b=some v/\Rd M1 (.sl n sz cs) v:=λb sz n cs hb=>by
  rcases hb with⟨⟨e,hb⟩,hm⟩|hb
  .exact hfa _ (ur hm hb)
  .obtain⟨v,h1,h2⟩:=h.ob b _ (hob b _ hb);exact⟨v,h1,Rd.mono hM _ _ h2⟩
 obtain⟨M2,lst2,hM2,hfa2,hR2⟩:=Rel.Pn (goalV ob) (gN ob fx fx) hR λp hp=>by
  obtain⟨e,sz,n,ws,ds,bs,h1,h2,h3,h4,_⟩:=qW hp;refine⟨by unfold goalV;rw[h2];simp only[h3,h1],e,sz,n,ws,ds,h1,.inl ?_,λM' us hM' hu=>rF (M:=M') (fx:=fx) (λb sz n ds hb=>?_) h3 h4 hu⟩
  .rw[iw _ λq hq e=>?_]
   .exact hob _ _ h2
   .obtain⟨_,_,_,_,h5⟩:=Cf hq
    grind
  .obtain⟨v,h5,h6⟩:=plain b sz n ds hb;exact⟨v,h5,Rd.mono hM' _ _ h6⟩
 refine⟨M2,lst2,hM.trans hM2,by rw[wI];exact hR2,λb sz n cs hb=>?_⟩;rcases hb with hb|⟨e,ws,bs,h1,h2,h3,h4⟩
 .obtain⟨v,h5,h6⟩:=plain b sz n cs hb;exact⟨v,h5,Rd.mono hM2 _ _ h6⟩
 .exact hfa2 _ (qX h1 h2 h4 h3) sz n cs rfl
theorem Kk(h:Rel w0 Γ0 fr ρ M lst val w){ob:Ob}(hob:∀b x,ob b=some x->fr.ob b=some x)(fx:List Nat)(hv:gN ob fx fx=[]):∃M1 lst1,Sub M M1/\Rel w0 Γ0 (fr.aJ (gq ob fx)) ρ M1 lst1 val w/\iQ ρ M1 ob fx:=by
 obtain⟨M1,lst1,h1,h2,h3⟩:=wZ h hob fx
 grind
theorem F4{ob:Ob}{l:List Nat}{p:Nat×O}(h:p∈gq ob l++gN ob l l):p.1∈l:=by
 rcases QK.1 h with h|h
 .exact pJ h
 .obtain⟨_,_,_,_,_,_,_,_,_,_,h5⟩:=qW h;exact h5
end
def CM(s:lL)(v:Qw)(vs:List Qw):Prop:=match s with
 |.t l=>v=.tuple vs.toArray/\vs.length=l.length
 |_=>vs=[v]
def jB(s:bA):Sh:=⟨sW 0 (tX s.out),s.jl⟩
def gF(vs:List Qw):Nat->Option Qw:=λt=>vs[t]?
def Left(w0:QL)(Γ0:List As)(ρ:Nat->Option Qw)(M:Mem)(s:bA)(r:bR)(e:Ending)(w':QL):Prop :=
 ∃v vs ρ' M' lst' fr',e=.returned v/\CM s.out v vs/\Sub M M'/\(∀i u,ρ i=some u->i∈s.jl.map QZ->ρ' i=some u)/\(∀i,(ρ' i).isSome=true->i∈s.jl.map QZ)/\(∀p∈lst',p.1∈s.jl.map QZ) /\
  ct bc (jB s) r (λx=>x=fr')/\Rel w0 Γ0 fr' ρ' M' lst' (gF vs) w'
def HJ(P:QE)(s:bA)(fr:Fr)(r:bR):Prop:=∀(w0:QL) (Γ0:List As) (ρ:Nat->Option Qw) (M:Mem) (lst:List (Nat×As)) (vs:List Qw) (w:QL),vs.length=s.ins.sl.length->(∀i,(ρ i).isSome=true->i∈s.ins.ob.map QZ)->Rel w0 Γ0 fr ρ M lst (gF vs) w ->
 T8 P s.f vs.toArray w (Left w0 Γ0 ρ M s r)
def Is(P:QE)(s:bA)(a r:bR):Prop:=ct bc s.ins a λfr=>HJ P s fr r
def cz(M:Mem)(ρ:Nat->Option Qw):List S->List Qw->Prop
 |[],[]=>True
 |s::ss,v::vs=>SR M ρ s v/\cz M ρ ss vs
 |_,_=>False
def Qo(w0:QL)(Γ0:List As)(ρ:Nat->Option Qw)(M:Mem)(v:S)(os:List (Nat×O))(e:Ending)(w':QL):Prop :=
 ∃u ρ' M' lst',e=.returned u/\Sub M M'/\Ext ρ ρ'/\SR M' ρ' v u/\Rel w0 Γ0 ⟨λ_=>su,nv os,0⟩ ρ' M' lst' (λ_=>none) w'
def FD(P:QE)(f:Nat)(xs:List S)(ob:List (Nat×O))(v:S)(os:List (Nat×O)):Prop:=∀(w0:QL) (Γ0:List As) (ρ:Nat->Option Qw) (M:Mem) (lst:List (Nat×As)) (us:List Qw) (w:QL),
 cz M ρ xs us->Rel w0 Γ0 ⟨λ_=>su,nv ob,0⟩ ρ M lst (λ_=>none) w->T8 P f us.toArray w (Qo w0 Γ0 ρ M v os)
def la(P:QE):Cx:=⟨Is P,FD P⟩
section
variable {J:Cx} {fr:Fr}
theorem lu{ds:List D}{j:Nat}{s:jt}{k:C->Nat->bj}{fs fo:List Nat}{o:Out}(hr:R1 J fr (unB qb ds j s k) fs fo o):∃c q,(∀K:C->Nat->Prop,unB bc ds j s K↔K c q)/\R1 J fr (k c q) fs fo o:=by
 cases s with
 |i=>obtain⟨z,h1,h2⟩:=hr;refine⟨_,_,λK=>?_,h2⟩;show aw (cell ds j) _↔_;rw[h1];exact S4
 |bo=>obtain⟨z,h1,h2⟩:=hr;refine⟨_,_,λK=>?_,h2⟩;show oX (cell ds j) _↔_;rw[h1];exact S4
 |d=>exact⟨_,_,λK=>S4,hr⟩
 |p b o=>exact⟨_,_,λK=>S4,hr⟩
 |w b=>exact⟨_,_,λK=>S4,hr⟩
 |m b=>exact⟨_,_,λK=>S4,hr⟩
 |f g cs=>exact⟨_,_,λK=>S4,hr⟩
 |y b sz=>obtain⟨l,h1,n,h2,h3⟩:=hr;refine⟨_,_,λK=>?_,h3⟩;show aw (cell ds j) (λl=>aw (cell ds (j+1)) λn=>K (.y b 0 sz l.toNat n.toNat) (j+2))↔_;rw[h1,h2];exact S4
theorem C1:∀{ss:List jt} {ds:List D} {j:Nat} {k:List C->Nat->bj} {fs fo:List Nat} {o:Out},R1 J fr (Bp qb ds j ss k) fs fo o->∃c q,(∀K:List C->Nat->Prop,Bp bc ds j ss K↔K c q)/\R1 J fr (k c q) fs fo o
 |[],ds,j,k,fs,fo,o,hr=>⟨[],j,λK=>S4,hr⟩
 |s::ss,ds,j,k,fs,fo,o,hr=>by obtain⟨c,q,h1,hr⟩:=lu hr;obtain⟨cs,q',h2,hr⟩:=C1 (ss:=ss) hr;exact⟨c::cs,q',λK=>(h1 _).trans (h2 _),hr⟩
theorem HY{ds:List D}{j:Nat}{s:jt}{k:C->Nat->bj}{fs fo:List Nat}{o:Out}(hr:R1 J fr (unC qb ds j s k) fs fo o):∃c q,(∀K:C->Nat->Prop,unC bc ds j s K↔K c q)/\R1 J fr (k c q) fs fo o:=by
 cases s with
 |f g cs=>obtain⟨c,q,h1,hr⟩:=C1 (ss:=cs) (ds:=ds) (j:=j) (k:=λcs j=>k (.f g cs) j) hr;exact⟨.f g c,q,λK=>h1 (λcs j=>K (.f g cs) j),hr⟩
 |i=>exact lu (s:=.i) (ds:=ds) (j:=j) (k:=k) hr
 |bo=>exact lu (s:=.bo) (ds:=ds) (j:=j) (k:=k) hr
 |d=>exact lu (s:=.d) (ds:=ds) (j:=j) (k:=k) hr
 |p b o=>exact lu (s:=.p b o) (ds:=ds) (j:=j) (k:=k) hr
 |w b=>exact lu (s:=.w b) (ds:=ds) (j:=j) (k:=k) hr
 |m b=>exact lu (s:=.m b) (ds:=ds) (j:=j) (k:=k) hr
 |y b sz=>exact lu (s:=.y b sz) (ds:=ds) (j:=j) (k:=k) hr
theorem ru:∀{ss:List jt} {ds:List D} {j:Nat} {k:List C->Nat->bj} {fs fo:List Nat} {o:Out},R1 J fr (wH qb ds j ss k) fs fo o->∃c q,(∀K:List C->Nat->Prop,wH bc ds j ss K↔K c q)/\R1 J fr (k c q) fs fo o
 |[],ds,j,k,fs,fo,o,hr=>⟨[],j,λK=>S4,hr⟩
 |s::ss,ds,j,k,fs,fo,o,hr=>by obtain⟨c,q,h1,hr⟩:=HY hr;obtain⟨cs,q',h2,hr⟩:=ru (ss:=ss) hr;exact⟨c::cs,q',λK=>(h1 _).trans (h2 _),hr⟩
theorem HT{ds:List D}{s:lL}{k:S->bj}{fs fo:List Nat}{o:Out}(hr:R1 J fr (Mv qb ds s k) fs fo o):∃x,(∀K:S->Prop,Mv bc ds s K↔K x)/\(∀l,x≠.t l)/\R1 J fr (k x) fs fo o:=by
 cases s with
 |c s=>obtain⟨c,q,h1,hr⟩:=HY (s:=s) (ds:=ds) (j:=0) (k:=λc _=>k (.c c)) hr;exact⟨.c c,λK=>h1 (λc _=>K (.c c)),Q2,hr⟩
 |a n=>exact⟨_,λK=>S4,Q2,hr⟩
 |g cs=>obtain⟨c,q,h1,hr⟩:=ru (ss:=cs) (ds:=ds) (j:=0) (k:=λc _=>k (.g c)) hr;exact⟨.g c,λK=>h1 (λc _=>K (.g c)),Q2,hr⟩
 |t l=>exact⟨su,λK=>S4,by simp[su],hr⟩
theorem unO_det{ds:List D}{s:lV}{k:O->bj}{fs fo:List Nat}{o:Out}(hr:R1 J fr (unO qb ds s k) fs fo o):∃x,(∀K:O->Prop,unO bc ds s K↔K x)/\R1 J fr (k x) fs fo o:=by
 cases s with
 |b e cs=>obtain⟨c,q,h1,hr⟩:=ru (ss:=cs) (ds:=ds) (j:=0) (k:=λc _=>k (.b e c)) hr;exact⟨.b e c,λK=>h1 (λc _=>K (.b e c)),hr⟩
 |a e n=>exact⟨_,λK=>S4,hr⟩
 |v e sz n cs=>obtain⟨c,q,h1,hr⟩:=ru (ss:=cs) (ds:=ds) (j:=0) (k:=λc _=>k (.v e sz n c)) hr;exact⟨.v e sz n c,λK=>h1 (λc _=>K (.v e sz n c)),hr⟩
 |m t ag vs =>
  obtain⟨n,cs,h1,hr⟩:=hr;refine⟨.m t ag vs n cs,λK=>?_,hr⟩;show aH (3+vs) (cell ds 0) _↔_;rw[h1]
  show(match Qy (3+vs) (3+vs) with
   |true=>K (.m t ag vs n cs)
   |false=>False)↔_
  rw[cW]
 |ms t ag vs =>
  obtain⟨n,cs,h1,hr⟩:=hr;refine⟨.ms t ag vs n cs,λK=>?_,hr⟩;show aH (3+vs) (cell ds 0) _↔_;rw[h1]
  show(match Qy (3+vs) (3+vs) with
   |true=>K (.ms t ag vs n cs)
   |false=>False)↔_
  rw[cW]
 |x e sz =>
  obtain⟨n,cs,h1,hr⟩:=hr;refine⟨.x e sz n cs,λK=>?_,hr⟩;show aH sz (cell ds 0) _↔_;rw[h1]
  show(match Qy sz sz with
   |true=>K (.x e sz n cs)
   |false=>False)↔_
  rw[cW]
 |it ag vs =>
  obtain⟨n,cs,h1,hr⟩:=hr;refine⟨.it ag vs none n cs,λK=>?_,hr⟩;show aH (3+vs) (cell ds 0) _↔_;rw[h1]
  show(match Qy (3+vs) (3+vs) with
   |true=>K (.it ag vs none n cs)
   |false=>False)↔_
  rw[cW]
 |w e sz =>
  obtain⟨n,cs,h1,hr⟩:=hr;refine⟨.w e sz n cs,λK=>?_,hr⟩;show aH sz (cell ds 0) _↔_;rw[h1]
  show(match Qy sz sz with
   |true=>K (.w e sz n cs)
   |false=>False)↔_
  rw[cW]
def cy:Nat->List S->(Nat->S)->(Nat->S)
 |_,[],f=>f
 |j,x::l,f=>cy (j+1) l (λi=>match Qy i j with
  |true=>x
  |false=>f i)
theorem C0{r:bR}:∀{ss:List lL} {j:Nat} {k:List S->Nat->bj} {fs fo:List Nat} {o:Out},R1 J fr (unRs r j ss k) fs fo o->∃xs q,xs.length=ss.length/\(∀x∈xs,∀l,x≠S.t l)/\(∀(n:Nat) (f:Nat->S) (K:(Nat->S)->Nat->Prop),qq bc r j (sW n ss) f K↔K (cy n xs f) q)/\R1 J fr (k xs q) fs fo o
 |[],j,k,fs,fo,o,hr=>⟨[],j,rfl,Q2,λn f K=>S4,hr⟩
 |s::ss,j,k,fs,fo,o,hr=>by
  obtain⟨x,h1,hx,hr⟩:=HT hr;obtain⟨xs,q,hl,hxs,h2,hr⟩:=C0 (ss:=ss) hr;refine⟨x::xs,q,by simp[hl],λy hy=>?_,λn f K=>(h1 _).trans (h2 _ _ _),hr⟩
  grind
def Kw:lL->List S->S
 |.t _,xs=>.t xs
 |_,xs=>xs.getD 0 su
theorem HU{r:bR}{s:lL}{k:S->Nat->bj}{fs fo:List Nat}{o:Out}(hr:R1 J fr (unR r s k) fs fo o) :
  ∃xs q,xs.length=(tX s).length/\(∀x∈xs,∀l,x≠S.t l)/\(∀(f:Nat->S) (K:(Nat->S)->Nat->Prop),qq bc r 0 (sW 0 (tX s)) f K↔K (cy 0 xs f) q)/\R1 J fr (k (Kw s xs) q) fs fo o:=by
 have one:∀(s:lL) (_:tX s=[s]),R1 J fr (Mv qb (fe (uq s) r 0).1 s λx=>k x (fe (uq s) r 0).2) fs fo o ->
   ∃xs q,xs.length=(tX s).length/\(∀x∈xs,∀l,x≠S.t l)/\(∀(f:Nat->S) (K:(Nat->S)->Nat->Prop),qq bc r 0 (sW 0 (tX s)) f K↔K (cy 0 xs f) q)/\R1 J fr (k (xs.getD 0 su) q) fs fo o:=by
  intro s hs hr;obtain⟨x,h1,hx,hr⟩:=HT hr;refine⟨[x],_,by rw[hs];rfl,λy hy=>by grind,λf K=>?_,hr⟩;rw[hs];exact h1 _
 cases s with
 |t l=>obtain⟨xs,q,hl,hxs,h2,hr⟩:=C0 (ss:=l) hr;exact⟨xs,q,hl,hxs,λf K=>h2 0 f K,hr⟩
 |c _=>exact one _ rfl hr
 |a _=>exact one _ rfl hr
 |g _=>exact one _ rfl hr
theorem tB:∀(xs:List S) (n:Nat) (f:Nat->S) (t:Nat),cy n xs f t=if n<=t/\t<n+xs.length then xs.getD (t-n) su else f t
 |[],n,f,t=>by rw[J1 Q2];rfl
 |x::xs,n,f,t=>by
  rw[cy,tB xs (n+1)];by_cases e:t=n
  .subst e;rw[J1 Q0,cW,J2 Q2];simp
  .rw[gS e]
   grind
def obF:List (Nat×O)->Ob->Ob
 |[],f=>f
 |(b,x)::l,f=>obF l (CJ b x f)
def Qg(J:Cx)(fr:Fr)(mp:List (Nat×Tg))(d:Nat)(r:bR)(os:List (Nat×lV))(j:Nat)(l:List (Nat×O))(k:List (Nat×O)->bj)(fs:List Nat)(o:Out):Prop :=
 ∃(xs:List (Nat×O)) (fo':List Nat),xs.map QZ=os.map QZ/\(∀(f:Ob) (K:Ob->Prop),vu bc r j os f K↔K (obF xs f))/\R1 J fr (k (l++xs.map λp=>(bx mp d p.1,A5 mp d p.2))) fs fo' o/\∀i∈os.map QZ,(∃b,bH mp i=some (.ob b))\/fr.ob (d+10000*(i+1))=none
theorem zB{mp:List (Nat×Tg)}{d:Nat}{r:bR}:∀{os:List (Nat×lV)} {j:Nat} {l:List (Nat×O)} {k:List (Nat×O)->bj} {fs fo:List Nat} {o:Out},R1 J fr (HX mp d r j os l k) fs fo o->Qg J fr mp d r os j l k fs o
 |[],j,l,k,fs,fo,o,hr=>⟨[],fo,rfl,λf K=>S4,by rw[List.map_nil,QF];exact hr,λi hi=>by simp at hi⟩
 |(b,s)::os,j,l,k,fs,fo,o,hr=>by
  obtain⟨x,h1,hr⟩:=unO_det (fo:=fo) hr;have key:∀fo1,R1 J fr (HX mp d r (fe (Ce s) r j).2 os (l++[(bx mp d b,A5 mp d x)]) k) fs fo1 o->((∃c,bH mp b=some (.ob c))\/fr.ob (d+10000*(b+1))=none)->Qg J fr mp d r ((b,s)::os) j l k fs o:=λfo1 hr hb=>by
   obtain⟨xs,fo',hl,h2,hr,h3⟩:=zB (os:=os) hr;refine⟨(b,x)::xs,fo',by simp[hl],λf K=>(h1 _).trans (h2 _ _),by grind,λi hi=>?_⟩
   grind
  unfold freeP at hr;split at hr
  .grind
  .change R1 J fr (match fr.ob (d+10000*(b+1)) with|none=>_|some _=>_) _ _ _ at hr;split at hr
   .grind
   .exact hr.elim
theorem xo:∀(n:Nat) {l seen:List Nat} {k:Ob->bj} {f:Ob} {fs fo:List Nat} {o:Out},(∀b x,f b=some x->fr.ob b=some x)->R1 J fr (xp n l seen k f) fs fo o->∃ob fo',(∀b x,ob b=some x->fr.ob b=some x)/\R1 J fr (k ob) fs fo' o
 |0,_,_,_,f,_,fo,_,hf,hr=>⟨f,fo,hf,hr⟩
 |_+1,[],_,_,f,_,fo,_,hf,hr=>⟨f,fo,hf,hr⟩
 |n+1,b::l,seen,k,f,fs,fo,o,hf,hr=>by
  unfold xp at hr;split at hr
  .exact xo n hf hr
  .refine xo n (λc x hc=>?_) hr;by_cases e:c=b
   .grind
   .simp only[gS e]at hc;exact hf c x hc
end
theorem EE:∀{l:List (Nat×O)} {b:Nat} {o:O},nv l b=some o->(b,o)∈l
 |(i,x)::l,b,o,h=>by
  unfold nv at h;split at h
  .simp_all
  .exact Qx _ (EE h)
theorem kO:∀{l:List (Nat×O)} {b:Nat},cM l b=true↔(nv l b).isSome=true
 |[],b=>by simp[cM,nv]
 |(i,x)::l,b=>by
  unfold cM nv;cases Qy b i with
  |true=>simp
  |false=>exact kO
theorem oO:∀{l:List (Nat×O)} {b:Nat},cM l b=true↔b∈l.map QZ
 |[],b=>by simp[cM]
 |(i,x)::l,b=>by
  unfold cM;cases hb:Qy b i with
  |true=>rw[Qp hb];simp
  |false=>have hne:b≠i:=Xi hb;simp[hne,oO (l:=l)]
theorem pe{acc:List (Nat×O)}:∀{l:List Nat},wL acc l=true->∀b∈l,cM acc b=true
 |c::l,h,b,hb=>by
  unfold wL at h;split at h
  .rename_i hc;rcases Qz.1 hb with rfl|hb
   .exact hc
   .exact pe h b hb
  .cases h
theorem Ds{acc:List (Nat×O)}:∀{l:List (Nat×O)},uO acc l=true->∀p∈l,∀b∈Ns p.2,cM acc b=true
 |(i,o)::l,h,p,hp=>by
  unfold uO at h;split at h
  .rename_i hc;rcases Qz.1 hp with rfl|hp
   .exact pe hc
   .exact Ds h p hp
  .cases h
def p8(N:Nat->Bool)(ρ:Nat->Option Qw):Nat->Option Qw:=λb=>match N b with
 |true=>ρ b
 |false=>none
theorem cZ{N:Nat->Bool}{ρ:Nat->Option Qw}{b:Nat}(h:N b=true):p8 N ρ b=ρ b:=by unfold p8;rw[h]
theorem Me{N:Nat->Bool}{ρ:Nat->Option Qw}{b:Nat}{v:Qw}(h:p8 N ρ b=some v):N b=true/\ρ b=some v:=by
 unfold p8 at h
 grind
section
variable {M:Mem} {ρ:Nat->Option Qw} {N:Nat->Bool}
theorem CB.cut:∀{c:C} {v:Qw},CB M ρ c v->(∀b∈xl c,N b=true)->CB M (p8 N ρ) c v
 |.d _,_,h,_=>h
 |.n,_,h,_=>h
 |.l _,_,h,_=>h
 |.p b _,_,⟨k,h1,h2⟩,hn=>⟨k,by rw[cZ (hn b (by simp[xl]))];exact h1,h2⟩
 |.q b _ _ _,_,⟨a,n,c,h1,h2⟩,hn=>⟨a,n,c,by rw[cZ (hn b (by simp[xl]))];exact h1,h2⟩
 |.w b,_,h,hn=>⟨by rw[cZ (hn b (by simp[xl]))];exact h.1,h.2⟩
 |.m b,_,⟨k,h1,h2⟩,hn=>⟨k,by rw[cZ (hn b (by simp[xl]))];exact h1,h2⟩
 |.z,_,h,_=>h
 |.u,_,_,_=>trivial
 |.e b _,_,⟨k,h1,h2⟩,hn=>⟨k,by rw[cZ (hn b (by simp[xl]))];exact h1,h2⟩
 |.y b _ _ _ _,_,⟨ad,c,h1,h2,.inl ⟨k,h3,h4⟩⟩,hn=>⟨ad,c,h1,h2,.inl ⟨k,by rw[cZ (hn b (by simp[xl]))];exact h3,h4⟩⟩
 |.y b _ _ _ _,_,⟨ad,c,h1,h2,.inr ⟨a,n,C,h3,h4⟩⟩,hn=>⟨ad,c,h1,h2,.inr ⟨a,n,C,by rw[cZ (hn b (by simp[xl]))];exact h3,h4⟩⟩
 |.k _,_,h,_=>h
 |.f _ _,_,h,_=>h
theorem zr.cut:∀{c:List C} {v:List Qw},zr M ρ c v->(∀b∈c.flatMap xl,N b=true)->zr M (p8 N ρ) c v
 |[],[],_,_=>trivial
 |_::_,_::_,h,hn=>⟨h.1.cut λb hb=>hn b (by simp[hb]),zr.cut h.2 λb hb=>hn b (by
   rw[QD];exact List.mem_append_right _ hb)⟩
 |[],_::_,h,_=>h.elim
 |_::_,[],h,_=>h.elim
theorem CR.cut:∀{c:C} {v:Qw},CR M ρ c v->(∀b∈DL c,N b=true)->CR M (p8 N ρ) c v
 |.f _ _,_,⟨us,h1,h2⟩,hn=>⟨us,h1,h2.cut hn⟩
 |.d x,_,h,hn=>CB.cut (M:=M) (ρ:=ρ) (c:=.d x) h hn
 |.n,_,h,hn=>CB.cut (M:=M) (ρ:=ρ) (c:=.n) h hn
 |.l sz,_,h,hn=>CB.cut (M:=M) (ρ:=ρ) (c:=.l sz) h hn
 |.p b o,_,h,hn=>CB.cut (M:=M) (ρ:=ρ) (c:=.p b o) h hn
 |.q b s k j,_,h,hn=>CB.cut (M:=M) (ρ:=ρ) (c:=.q b s k j) h hn
 |.w b,_,h,hn=>CB.cut (M:=M) (ρ:=ρ) (c:=.w b) h hn
 |.m b,_,h,hn=>CB.cut (M:=M) (ρ:=ρ) (c:=.m b) h hn
 |.z,_,h,hn=>CB.cut (M:=M) (ρ:=ρ) (c:=.z) h hn
 |.u,_,_,_=>trivial
 |.e b i,_,h,hn=>CB.cut (M:=M) (ρ:=ρ) (c:=.e b i) h hn
 |.y b q sz l n,_,h,hn=>CB.cut (M:=M) (ρ:=ρ) (c:=.y b q sz l n) h hn
 |.k g,_,h,hn=>CB.cut (M:=M) (ρ:=ρ) (c:=.k g) h hn
theorem dr.cut:∀{c:List C} {v:List Qw},dr M ρ c v->(∀b∈c.flatMap DL,N b=true)->dr M (p8 N ρ) c v
 |[],[],_,_=>trivial
 |_::_,_::_,h,hn=>⟨h.1.cut λb hb=>hn b (by simp[hb]),dr.cut h.2 λb hb=>hn b (by
   rw[QD];exact List.mem_append_right _ hb)⟩
 |[],_::_,h,_=>h.elim
 |_::_,[],h,_=>h.elim
theorem SB.cut{s:S}{v:Qw}(h:SB M ρ s v)(hn:∀b∈pY s,N b=true):SB M (p8 N ρ) s v:=by
 cases s with
 |c c=>exact CR.cut h hn
 |a n ds=>exact h
 |g cs=>obtain⟨us,h1,h2⟩:=h;exact⟨us,h1,h2.cut hn⟩
 |r n ds o=>exact h
 |t l=>exact h
theorem SR.cut{s:S}{v:Qw}(h:SR M ρ s v)(hn:∀b∈pY s,N b=true):SR M (p8 N ρ) s v:=by
 cases s with
 |t l =>
  obtain⟨vs,h1,h2⟩:=h;refine⟨vs,h1,?_⟩;have key:∀(l:List S) (vs:List Qw),wx M ρ l vs->(∀b∈pY (.t l),N b=true)->wx M (p8 N ρ) l vs:=by
   intro l;induction l with
   |nil=>intro vs h _;cases vs with
    |nil=>trivial
    |cons _ _=>exact h.elim
   |cons s l ih =>
    intro vs h hn;cases vs with
    |nil=>exact h.elim
    |cons v vs =>
     have h0:∀b∈pY s,N b=true:=λb hb=>hn b (by
      cases s with
      |t _=>exact J3 h.1 (λx=>x.elim)
      |c c=>simp only[pY,QD];exact List.mem_append_left _ hb
      |g c=>simp only[pY,QD];exact List.mem_append_left _ hb
      |a _ _=>simp[pY]at hb
      |r _ _ _=>simp[pY]at hb)
     refine⟨h.1.cut h0,ih vs h.2 λb hb=>hn b ?_⟩;simp only[pY,QD]at hb ⊢;exact List.mem_append_right _ hb
  exact key l vs h2 hn
 |c c=>exact SB.cut (s:=.c c) h hn
 |a n ds=>exact h
 |g cs=>exact SB.cut (s:=.g cs) h hn
 |r n ds o=>exact h
theorem OR.cut{lst lst':List (Nat×As)}{b:Nat}(hb:N b=true)(hl:∀x,(b,x)∈lst->(b,x)∈lst'){o:O}(h:OR M ρ lst b o)(hn:∀c∈Ns o,N c=true):OR M (p8 N ρ) lst' b o:=by
 cases o with
 |b e cs=>obtain⟨k,us,h1,h2,h3⟩:=h;exact⟨k,us,by rw[cZ hb];exact h1,hl _ h2,h3.cut hn⟩
 |a e n ds=>obtain⟨k,us,h1,h2,h3,h4⟩:=h;exact⟨k,us,by rw[cZ hb];exact h1,hl _ h2,h3,h4⟩
 |w e sz n ds=>obtain⟨a,c,us,h1,h2,h3,h4⟩:=h;exact⟨a,c,us,by rw[cZ hb];exact h1,hl _ h2,h3,h4⟩
 |v e sz n cs=>obtain⟨a,c,us,h1,h2,h3,h4⟩:=h;exact⟨a,c,us,by rw[cZ hb];exact h1,hl _ h2,h3.cut hn,h4⟩
 |s sz n ds=>obtain⟨v,h1,h2⟩:=h;exact⟨v,by rw[cZ hb];exact h1,h2⟩
 |m t ag vs n ds=>obtain⟨k,l,h1,h2,h3,h4⟩:=h;exact⟨k,l,by rw[cZ hb];exact h1,hl _ h2,h3,h4⟩
 |ms t ag vs n ds=>obtain⟨k,h1,h2,h3⟩:=h;exact⟨k,by rw[cZ hb];exact h1,hl _ h2,h3⟩
 |x e sz n ds=>obtain⟨a,c,us,h1,h2,h3,h4,h5⟩:=h;exact⟨a,c,us,by rw[cZ hb];exact h1,h2,h3,h4,h5.mono hl⟩
 |it ag vs cur n ds=>obtain⟨k,o,h1,h2,h3⟩:=h;exact⟨k,o,by rw[cZ hb];exact h1,hl _ h2,h3⟩
 |bW=>trivial
theorem cz.cut:∀{xs:List S} {vs:List Qw},cz M ρ xs vs->(∀b∈xs.flatMap pY,N b=true)->cz M (p8 N ρ) xs vs
 |[],[],_,_=>trivial
 |_::_,_::_,h,hn=>⟨h.1.cut λb hb=>hn b (by simp[hb]),cz.cut h.2 λb hb=>hn b (by
   rw[QD];exact List.mem_append_right _ hb)⟩
 |[],_::_,h,_=>h.elim
 |_::_,[],h,_=>h.elim
end
theorem Rel.cut{w0:QL}{Γ0:List As}{fr:Fr}{ρ:Nat->Option Qw}{M:Mem}{lst:List (Nat×As)}{val:Nat->Option Qw}{w:QL}(h:Rel w0 Γ0 fr ρ M lst val w){os:List (Nat×O)}(ho:∀p∈os,fr.ob p.1=some p.2)(hs:uO os os=true) :
  Rel w0 ((lst.filter λp=>!cM os p.1).map Ra++Γ0) ⟨λ_=>su,nv os,0⟩ (p8 (cM os) ρ) M (lst.filter λp=>cM os p.1) (λ_=>none) w:=by
 refine⟨λt=>.inl rfl,λb o hb=>?_,λb v hv=>.inr (kO.1 (Me hv).1),λp hp=>?_,?_,?_,h.gr⟩
 .have hm:=EE hb;have hN:cM os b=true:=oO.2 (Rl hm);exact OR.cut hN (λx hx=>Rq.2 ⟨hx,hN⟩) (h.ob b o (ho _ hm)) λc hc=>Ds hs _ hm c hc
 .obtain⟨h1,h2⟩:=Rq.1 hp;rw[cZ h2];exact h.gg p h1
 .exact h.nd.sublist ((Ua).map QZ)
 .refine h.st.fP ?_;rw[<-QU,<-Rb];exact(((W4 (λp:Nat×As=>cM os p.1) lst).map Ra).append_right Γ0).symm
section
variable {J:Cx} {fr:Fr} {fs fo:List Nat} {o:Out}
theorem tO:∀(n:Nat) {l:List Nat} {acc:List (Nat×O)} {k:List (Nat×O)->bj} {fo:List Nat},(∀p∈acc,fr.ob p.1=some p.2)->R1 J fr (xq n l acc k) fs fo o->∃acc' fo',(∀p∈acc',fr.ob p.1=some p.2)/\R1 J fr (k acc') fs fo' o
 |0,_,_,_,_,_,hr=>hr.elim
 |_+1,[],acc,k,fo,ha,hr=>⟨acc,fo,ha,hr⟩
 |n+1,b::l,acc,k,fo,ha,hr=>by
  unfold xq at hr;split at hr
  .exact tO n ha hr
  .change R1 J fr (match fr.ob b with|some o=>_|none=>_) fs (2*b::fo) o at hr;split at hr
   .rename_i x hx
    exact tO n (λp hp=>by
     rcases Qz.1 hp with rfl|hp
     .exact hx
     .exact ha p hp) hr
   .exact hr.elim
theorem xQ{id:Nat}{acc:List (Nat×O)}:∀{l:List (Nat×O)} {k:bj} {fo:List Nat},R1 J fr (Eb id acc l k) fs fo o->(∀p∈l,cM acc p.1=false->id<=p.1/\fr.ob p.1=none)/\∃fo',R1 J fr k fs fo' o
 |[],k,fo,hr=>⟨λ_ hp=>(by cases hp),fo,hr⟩
 |(b,x)::l,k,fo,hr=>by
  unfold Eb at hr;split at hr
  .rename_i hb;obtain⟨h1,h2⟩:=xQ hr
   grind
  .obtain⟨h0,hr⟩:=hr;change R1 J fr (match fr.ob b with|none=>_|some _=>_) fs (2*b::fo) o at hr;split at hr
   .rename_i hx;obtain⟨h1,h2⟩:=xQ hr
    grind
   .exact hr.elim
end
theorem LV(i:Nat)(x:O)(l:List (Nat×O))(b:Nat):nv ((i,x)::l) b=match Qy b i with
  |true=>some x
  |false=>nv l b:=rfl
theorem tz:∀{os:List (Nat×O)},uT os=true->∀(fr:Fr) (b:Nat),(fr.aJ os).ob b=match nv os b with
  |some o=>some o
  |none=>fr.ob b
 |[],_,fr,b=>rfl
 |(i,x)::l,h,fr,b=>by
  unfold uT at h;split at h
  .cases h
  .rename_i hi;rw[Fr.aJ,tz h,LV];cases hb:Qy b i with
   |true =>
    have e:=Qp hb;subst e;have:nv l b=none:=by
     cases hg:nv l b with
     |none=>rfl
     |some y=>rw[kO.2 (by rw[hg];rfl)]at hi;cases hi
    rw[this];show(fr.set b x).ob b=some x;rw[cu,J2 rfl]
   |false =>
    cases hg:nv l b with
    |some y=>rfl
    |none=>show(fr.set i x).ob b=fr.ob b;rw[cu,J1 (Xi hb)]
theorem Rel.uncut{w0:QL}{Γ0:List As}{fr:Fr}{ρ ρ':Nat->Option Qw}{M M':Mem}{lst lst':List (Nat×As)}{val:Nat->Option Qw}{w w':QL}(h:Rel w0 Γ0 fr ρ M lst val w){acc os:List (Nat×O)}{id:Nat}(hid:fr.aQ<=id)
  (hM:Sub M M') (hE:Ext (p8 (cM acc) ρ) ρ') (h':Rel w0 ((lst.filter λp=>!cM acc p.1).map Ra++Γ0) ⟨λ_=>su,nv os,0⟩ ρ' M' lst' (λ_=>none) w') (h1:uT os=true) (hsub:∀b,cM acc b=true->cM os b=true)
  (hnew:∀p∈os,cM acc p.1=false->id<=p.1/\fr.ob p.1=none) :
  ∃ρ'',Ext ρ ρ''/\Ext ρ' ρ''/\Rel w0 Γ0 (fr.aJ os) ρ'' M' (lst'++lst.filter λp=>!cM acc p.1) val w':=by
 have hdom:∀b v,ρ' b=some v->cM os b=true:=λb v hv=>by
  rcases h'.vP b v hv with e|e
  .grind
  .exact kO.2 e
 have hnone:∀b,cM os b=true->cM acc b=false->ρ b=none:=λb hb ha=>by
  obtain⟨p,hp,e⟩:=QP.1 (oO.1 hb);subst e;obtain⟨g1,g2⟩:=hnew p hp ha;cases hr:ρ p.1 with
  |none=>rfl
  |some v =>
   rcases h.vP _ _ hr with e|e
   .omega
   .rw[g2]at e;cases e
 have hX:Ext ρ (λb=>match ρ' b with|some v=>some v|none=>ρ b):=λb v hv=>by
  cases hr:ρ' b with
  |none=>simp only[hr];exact hv
  |some u =>
   simp only[hr];cases ha:cM acc b with
   |true=>have:=hE b v (by rw[cZ ha];exact hv);rw[hr]at this;exact this
   |false=>rw[hnone b (hdom b u hr) ha]at hv;cases hv
 have hX':Ext ρ' (λb=>match ρ' b with|some v=>some v|none=>ρ b):=λb v hv=>by grind
 refine⟨_,hX,hX',⟨λt=>?_,λb o hb=>?_,λb v hv=>?_,λp hp=>?_,?_,?_,h'.gr⟩⟩
 .rw[rv];rcases h.sl t with e|⟨v,e1,e2⟩
  .exact .inl e
  .exact .inr ⟨v,e1,SR.mono hM hX e2⟩
 .rw[tz h1]at hb;split at hb
  .rename_i x hx;cases hb;exact OR.mono (Sub.refl _) hX' (λx hx=>List.mem_append_left _ hx) (h'.ob b _ hx)
  .rename_i hx;have hos:cM os b=false:=by
    cases hh:cM os b with
    |false=>rfl
    |true=>rw[kO]at hh;rw[show(nv os b)=none from hx]at hh;cases hh
   have hac:cM acc b=false:=by
    grind
   exact OR.mono hM hX (λx hx=>List.mem_append_right _ (Rq.2 ⟨hx,by simp[hac]⟩)) (h.ob b o hb)
 .rw[ka,tz h1];cases hr:ρ' b with
  |some u=>have:=kO.1 (hdom b u hr);right;obtain⟨x,hx⟩:=R0.1 this;rw[hx];rfl
  |none =>
   simp only[hr]at hv;rcases h.vP b v hv with e|e
   .exact .inl e
   .right;cases nv os b with
    |some _=>rfl
    |none=>exact e
 .rcases QK.1 hp with hp|hp
  .obtain⟨v,hv⟩:=R0.1 (h'.gg p hp);have e:(match ρ' p.1 with|some v=>some v|none=>ρ p.1)=some v:=hX' _ _ hv;rw[e];rfl
  .obtain⟨v,hv⟩:=R0.1 (h.gg p (Rq.1 hp).1);have e:(match ρ' p.1 with|some v=>some v|none=>ρ p.1)=some v:=hX _ _ hv;rw[e];rfl
 .rw[Rb];refine R7.2 ⟨h'.nd,h.nd.sublist ((Ua).map QZ),λa ha b hb e=>?_⟩;subst e;obtain⟨p,hp,rfl⟩:=QP.1 ha;obtain⟨q,hq,e⟩:=QP.1 hb;obtain⟨hq1,hq2⟩:=Rq.1 hq;obtain⟨v,hv⟩:=R0.1 (h'.gg p hp);have hq3:cM acc q.1=false:=by grind
  have:=hnone q.1 (by grind) hq3;have hk:=h.gg q hq1;rw[this]at hk;cases hk
 .have:=h'.st;rw[Rb,QU];exact this
theorem cz.len{M:Mem}{ρ:Nat->Option Qw}:∀{xs:List S} {vs:List Qw},cz M ρ xs vs->vs.length=xs.length
 |[],[],_=>rfl
 |_::_,_::_,h=>by simp[cz.len h.2]
 |[],_::_,h=>h.elim
 |_::_,[],h=>h.elim
theorem cz.mono{M M':Mem}{ρ:Nat->Option Qw}(hM:Sub M M'):∀{xs:List S} {vs:List Qw},cz M ρ xs vs->cz M' ρ xs vs
 |[],[],_=>trivial
 |_::_,_::_,h=>⟨SR.mono hM (Ext.refl ρ) h.1,cz.mono hM h.2⟩
 |[],_::_,h=>h.elim
 |_::_,[],h=>h.elim
theorem tw{P:QE}{M:Mem}{ρ:Nat->Option Qw}:∀{ts:List QH} {xs:List S} {vs:List Qw},cz M ρ xs vs->cz M ρ (kx P ts xs) vs
 |[],_,_,h=>by unfold kx;exact h
 |_::_,[],_,h=>by unfold kx;exact h
 |_::_,_::_,_::_,h=>⟨dt h.1,tw h.2⟩
 |_::_,_::_,[],h=>h.elim
theorem oA{M:Mem}{ρ:Nat->Option Qw}:∀{xs:List S} {vs:List Qw} (j:Nat) (t:Nat),cz M ρ xs vs->cB j xs t=su\/∃v,j<=t/\vs[t-j]?=some v/\SR M ρ (cB j xs t) v
 |[],[],j,t,_=>.inl rfl
 |x::xs,v::vs,j,t,h=>by
  show(match Qy t j with
   |true=>x
   |false=>cB (j+1) xs t)=su\/_
  by_cases e:t=j
  .subst e;right;refine⟨v,QW _,Q2,?_⟩
   show SR M ρ (match Qy t t with
    |true=>x
    |false=>cB (t+1) xs t) v
   rw[cW];exact h.1
  .rw[gS e];rcases oA (j+1) t h.2 with h1|⟨u,h1,h2,h3⟩
   .exact .inl h1
   .right;refine⟨u,Q0,by grind,?_⟩
    show SR M ρ (match Qy t j with
     |true=>x
     |false=>cB (j+1) xs t) u
    rw[gS e];exact h3
 |[],_::_,_,_,h=>h.elim
 |_::_,[],_,_,h=>h.elim
theorem AI:∀{l:List (Nat×lL)} {xs:List S},AJ l xs=true->l.length=xs.length
 |[],[],_=>rfl
 |(_,_)::l,_::xs,h=>by simp only[AJ,QA]at h;simp[AI h.2]
 |[],_::_,h=>by simp[AJ]at h
 |_::_,[],h=>by simp[AJ]at h
theorem Ha{tb:Tb}{ob:Ob}{f:Nat}{xs:List S}{s:bA}(h:Ci tb ob f xs=some s):s.f=f/\s.ins.sl.length=xs.length:=by unfold Ci at h;have:=Yf h;simp only[QA]at this;exact⟨Qp this.1.1,AI this.1.2⟩
section
variable {M:Mem} {ρ ρ':Nat->Option Qw} {mp:List (Nat×Tg)} {d:Nat} (hb:∀i u,ρ i=some u->ρ' (bx mp d i)=some u)
theorem jL(hb:∀i u,ρ i=some u->ρ' (bx mp d i)=some u){c:C}{v:Qw}(h:CB M ρ c v):CB M ρ' (JM mp d c) v:=by
 cases c with
 |p b o=>obtain⟨k,h1,h2⟩:=h;exact⟨k,hb _ _ h1,h2⟩
 |w b=>exact⟨hb _ _ h.1,h.2⟩
 |m b=>obtain⟨k,h1,h2⟩:=h;exact⟨k,hb _ _ h1,h2⟩
 |q b sz k j=>exact trivial
 |e b i=>exact trivial
 |y b q sz l n=>exact trivial
 |k g=>exact h
 |d x=>exact h
 |n=>exact h
 |l _=>exact h
 |f _ _=>exact h.elim
 |z=>exact h
 |u=>exact trivial
theorem A7(hb:∀i u,ρ i=some u->ρ' (bx mp d i)=some u):∀{cs:List C} {vs:List Qw},zr M ρ cs vs->zr M ρ' (cs.map (JM mp d)) vs
 |[],[],_=>trivial
 |_::_,_::_,h=>⟨jL hb h.1,A7 hb h.2⟩
 |[],_::_,h=>h.elim
 |_::_,[],h=>h.elim
theorem Fv(hb:∀i u,ρ i=some u->ρ' (bx mp d i)=some u):∀{c:C} {v:Qw},CR M ρ c v->CR M ρ' (A6 mp d c) v
 |.f _ _,_,⟨us,h1,h2⟩=>⟨us,h1,A7 hb h2⟩
 |.d x,_,h=>(jL (M:=M) hb (c:=.d x) h)
 |.n,_,h=>(jL (M:=M) hb (c:=.n) h)
 |.l s,_,h=>(jL (M:=M) hb (c:=.l s) h)
 |.p b o,_,h=>(jL (M:=M) hb (c:=.p b o) h)
 |.q _ _ _ _,_,_=>trivial
 |.e _ _,_,_=>trivial
 |.y _ _ _ _ _,_,_=>trivial
 |.w b,_,h=>(jL (M:=M) hb (c:=.w b) h)
 |.k _,_,h=>h
 |.m b,_,h=>(jL (M:=M) hb (c:=.m b) h)
 |.z,_,h=>(jL (M:=M) hb (c:=.z) h)
 |.u,_,_=>trivial
theorem pU(hb:∀i u,ρ i=some u->ρ' (bx mp d i)=some u):∀{cs:List C} {vs:List Qw},dr M ρ cs vs->dr M ρ' (cs.map (A6 mp d)) vs
 |[],[],_=>trivial
 |_::_,_::_,h=>⟨Fv hb h.1,pU hb h.2⟩
 |[],_::_,h=>h.elim
 |_::_,[],h=>h.elim
theorem Ft(hb:∀i u,ρ i=some u->ρ' (bx mp d i)=some u){s:S}{v:Qw}(h:SB M ρ s v):SB M ρ' (Fu mp d s) v:=by
 cases s with
 |c c=>exact Fv hb (c:=c) h
 |a n ds=>exact h
 |g cs=>obtain⟨us,h1,h2⟩:=h;exact⟨us,h1,pU hb h2⟩
 |r n ds o=>exact h
 |t l=>exact h.elim
theorem P3(hb:∀i u,ρ i=some u->ρ' (bx mp d i)=some u){lst lst':List (Nat×As)}{i:Nat}{o:O}(hl:∀x,(i,x)∈lst->(bx mp d i,x)∈lst')(h:OR M ρ lst i o):OR M ρ' lst' (bx mp d i) (A5 mp d o):=by
 cases o with
 |b e cs=>obtain⟨k,us,h1,h2,h3⟩:=h;exact⟨k,us,hb _ _ h1,hl _ h2,pU hb h3⟩
 |a e n ds=>obtain⟨k,us,h1,h2,h3⟩:=h;exact⟨k,us,hb _ _ h1,hl _ h2,h3⟩
 |w e sz n ds=>obtain⟨a,c,us,h1,h2,h3⟩:=h;exact⟨a,c,us,hb _ _ h1,hl _ h2,h3⟩
 |v e sz n cs=>obtain⟨a,c,us,h1,h2,h3,h4⟩:=h;exact⟨a,c,us,hb _ _ h1,hl _ h2,pU hb h3,h4⟩
 |s sz n ds=>obtain⟨v,h1,h2⟩:=h;exact⟨v,hb _ _ h1,h2⟩
 |m t ag vs n ds=>obtain⟨k,l,h1,h2,h3⟩:=h;exact⟨k,l,hb _ _ h1,hl _ h2,h3⟩
 |ms t ag vs n ds=>obtain⟨k,h1,h2,h3⟩:=h;exact⟨k,hb _ _ h1,hl _ h2,h3⟩
 |it ag vs cur n ds=>obtain⟨k,o,h1,h2,h3⟩:=h;exact⟨k,o,hb _ _ h1,hl _ h2,h3⟩
 |x e sz n ds=>obtain⟨a,c,us,h1,h2,h3,h4,h5⟩:=h;exact⟨a,c,us,hb _ _ h1,h2,h3,h4,h5.mono hl⟩
 |bW=>trivial
end
theorem SR.toSB{M:Mem}{ρ:Nat->Option Qw}{s:S}{v:Qw}(h:SR M ρ s v)(hs:∀l,s≠.t l):SB M ρ s v:=by
 cases s with
 |t l=>exact(hs l rfl).elim
 |c _=>exact h
 |a _ _=>exact h
 |g _=>exact h
 |r _ _ _=>exact h
def qj(ρ ρ':Nat->Option Qw)(d:Nat)(news:List Nat):Nat->Option Qw:=λb=>match ρ b with
 |some v=>some v
 |none=>if b=d+10000*((b-d) / 10000-1+1)/\(b-d) / 10000-1∈news then ρ' ((b-d) / 10000-1) else none
theorem LH{ρ ρ':Nat->Option Qw}{d:Nat}{news:List Nat}:Ext ρ (qj ρ ρ' d news):=λb v h=>by unfold qj;rw[h]
theorem LI{ρ ρ':Nat->Option Qw}{d:Nat}{news:List Nat}{i:Nat}(hi:i∈news)(hn:ρ (d+10000*(i+1))=none):qj ρ ρ' d news (d+10000*(i+1))=ρ' i:=by
 unfold qj
 grind
theorem Ey{ρ ρ':Nat->Option Qw}{d:Nat}{news:List Nat}{b:Nat}{v:Qw}(h:qj ρ ρ' d news b=some v):ρ b=some v\/∃i∈news,b=d+10000*(i+1)/\ρ' i=some v:=by
 unfold qj at h
 grind
theorem N1:∀(l:List (Nat×O)) (f:Ob) (k:Nat),(l.map QZ).Nodup->obF l f k=match l.find? λp=>Qy p.1 k with
  |some p=>some p.2
  |none=>f k
 |[],_,_,_=>rfl
 |(b,x)::l,f,k,hn=>by
  have hn':=Rw.1 (show(b::l.map QZ).Nodup from hn);rw[obF,N1 l _ k hn'.2,List.find?_cons];by_cases e:b=k
  .subst e;simp only[cW];have:l.find? (λp=>Qy p.1 b)=none:=XN.2 λp hp hb=>hn'.1 (by rw[<-Qp hb];exact Rl hp);rw[this,tk,J2 rfl]
  .simp only[gS e];cases hf:l.find? (λp=>Qy p.1 k) with
   |some p=>rfl
   |none=>simp only[];rw[tk,J1 (VD e)]
theorem obF_mem{l:List (Nat×O)}{f:Ob}{k:Nat}{x:O}(hn:(l.map QZ).Nodup)(hm:(k,x)∈l):obF l f k=some x:=by
 rw[N1 l f k hn];cases hf:l.find? (λp=>Qy p.1 k) with
 |none=>have:=XN.1 hf _ hm;simp at this
 |some p =>
  have h1:=List.mem_of_find?_eq_some hf;have h2:=Qp (Yf (p:=λp:Nat×O=>Qy p.1 k) hf);have:p.2=x:=by
   clear hf;induction l with
   |nil=>cases hm
   |cons z l ih =>
    have hn':=Rw.1 (show(z.1::l.map QZ).Nodup from hn);rcases Qz.1 hm with e1|hm <;> rcases Qz.1 h1 with e2|h1
    .rw[e2,<-e1]
    .exact(hn'.1 (by grind)).elim
    .exact(hn'.1 (by grind)).elim
    .exact ih hn'.2 hm h1
  show some p.2=some x;rw[this]
theorem C3:∀(os:List (Nat×O)) {fr:Fr} {k:Nat} {o:O},(fr.aJ os).ob k=some o->(k,o)∈os\/fr.ob k=some o/\∀p∈os,p.1≠k
 |[],_,_,_,h=>.inr ⟨h,λp hp=>by simp at hp⟩
 |(b,x)::os,fr,k,o,h=>by
  rw[Fr.aJ]at h;rcases C3 os h with h1|⟨h1,h2⟩
  .grind
  .rw[cu]at h1
   grind
theorem tx:∀(os:List (Nat×O)) {fr:Fr} {k:Nat},(fr.ob k).isSome=true\/k∈os.map QZ->((fr.aJ os).ob k).isSome=true
 |[],_,_,h=>h.resolve_right Q2
 |(b,x)::os,fr,k,h=>by
  rw[Fr.aJ];refine tx os ?_;rw[cu]
  grind
theorem sN{jl:List (Nat×lV)}:∀{mp:List (Nat×Tg)} {p:Nat×O},p∈bW jl mp->p.2=.bW
 |(i,.ob b)::mp,p,h=>by
  unfold bW at h;split at h
  .exact sN h
  .rcases Qz.1 h with rfl|h
   .rfl
   .exact sN h
 |(i,.nil _)::mp,p,h=>sN (mp:=mp) h
theorem ED{jl:List (Nat×lV)}:∀{mp:List (Nat×Tg)} {i b:Nat},bH mp i=some (.ob b)->i ∉ jl.map QZ->b∈(bW jl mp).map QZ
 |(j,x)::mp,i,b,h,hn=>by
  rw[dO]at h;by_cases e:i=j
  .subst e;rw[J2 rfl]at h;simp only[Qq]at h;subst h;unfold bW;split
   all_goals simp_all
  .rw[J1 e]at h;have:=ED h hn;cases x with
   |ob c =>
    unfold bW;split
    .exact this
    .exact Qx _ this
   |nil sz=>exact this
 |[],_,_,h,_=>by simp[bH]at h
theorem rX{α β:Type}{f:α->β}:∀{l:List α},(∀x∈l,∀y∈l,f x=f y->x=y)->l.Nodup->(l.map f).Nodup
 |[],_,_=>Ur
 |x::l,h,hn=>by
  have hn':=Rw.1 hn;rw[QT];refine Rw.2 ⟨λhm=>?_,rX (λy hy z hz=>h y (Qx _ hy) z (Qx _ hz)) hn'.2⟩
  grind
theorem AH{ob:Ob}:∀{l:List Nat} {p:Nat×O},p∈gq ob l->∃e sz n ds,p.2=.s sz n ds/\ob p.1=some (.w e sz n ds)/\p.1∈l
 |c::l,p,h=>by
  have rest:p∈gq ob l->∃e sz n ds,p.2=.s sz n ds/\ob p.1=some (.w e sz n ds)/\p.1∈c::l:=λh=>by
   obtain⟨e,sz,n,ds,h1,h2,h3⟩:=AH h
   grind
  unfold gq at h
  grind
theorem AK{ob:Ob}{mp:List (Nat×Tg)}{fx:List Nat}:∀{l:List (Nat×lV)} {r:bR} {i:Nat},FE ob mp fx l r->i∈l.map QZ->∃o ds,yU ob mp fx i o ds
 |(j,o)::l,r,i,⟨ds,r',h1,h2,_⟩,hi=>by
  rcases Qz.1 (show i∈j::l.map QZ from hi) with rfl|hi
  .exact⟨o,ds,h1⟩
  .exact AK h2 hi
theorem L3{ob:Ob}{mp:List (Nat×Tg)}{fx:List Nat}{i b:Nat}{o:lV}{ds:List D}(hf:yU ob mp fx i o ds)(hg:bH mp i=some (.ob b)):∃x,ob b=some x/\x≠.bW:=by
 rcases hf with⟨b',x,h1,h2,h3⟩|⟨e,sz,h1,_⟩
 .rw[hg]at h1;simp only[Qq,Tg.ob.injEq]at h1;subst h1;refine⟨x,h2,?_⟩;rintro rfl;cases o with
  |b e cs=>obtain⟨cs',h4,_⟩:=h3;simp[rf]at h4
  |a e n=>rcases h3 with h3|⟨_,h3,_⟩ <;> cases h3
  |w e sz=>obtain⟨n,cs,h4,_⟩:=h3;cases h4
  |v e sz n cs=>obtain⟨cs',h4,_⟩:=h3;cases h4
  |m t ag vs=>obtain⟨n,cs,h4,_⟩:=h3;cases h4
  |ms t ag vs=>obtain⟨n,cs,h4,_⟩:=h3;cases h4
  |it ag vs=>obtain⟨cur,n,cs,h4,_⟩:=h3;cases h4
  |x e sz=>obtain⟨n,cs,h4,_⟩:=h3;rcases h4 with h4|h4 <;> cases h4
 .rw[hg]at h1;cases h1
theorem OR_some{M:Mem}{ρ:Nat->Option Qw}{lst:List (Nat×As)}{b:Nat}{x:O}(h:OR M ρ lst b x)(hx:x≠.bW):∃v,ρ b=some v:=by
 cases x with
 |b e cs=>obtain⟨k,us,h1,_⟩:=h;exact⟨_,h1⟩
 |a e n ds=>obtain⟨k,us,h1,_⟩:=h;exact⟨_,h1⟩
 |w e sz n ds=>obtain⟨a,c,us,h1,_⟩:=h;exact⟨_,h1⟩
 |v e sz n cs=>obtain⟨a,c,us,h1,_⟩:=h;exact⟨_,h1⟩
 |s sz n ds=>obtain⟨v,h1,_⟩:=h;exact⟨_,h1⟩
 |m t ag vs n ds=>obtain⟨k,l,h1,_⟩:=h;exact⟨_,h1⟩
 |ms t ag vs n ds=>obtain⟨k,h1,_⟩:=h;exact⟨_,h1⟩
 |it ag vs cur n ds=>obtain⟨k,o,h1,_⟩:=h;exact⟨_,h1⟩
 |x e sz n ds=>obtain⟨a,c,us,h1,_⟩:=h;exact⟨_,h1⟩
 |bW=>exact(hx rfl).elim
def ia(mp:List (Nat×Tg))(i:Nat):Bool:=match bH mp i with
 |some (.ob _)=>false
 |_=>true
def IL:As->Bool
 |.own ..=>true
 |.acc ..=>true
 |_=>false
theorem NI{x:As}(h:IL x=true):x.owns:=by cases x <;> first|trivial|cases h
def HI(x:S):Prop:=(∃u,x=.c (.d (.v u)))\/∃n ds,x=.a n ds/\P7 ds=true
theorem JP{M M':Mem}:∀{ds:List D},P7 ds=true->∀{k:Nat} {d:D} {u:Qw},ds[k]?=some d->Rd M d u->Rd M' d u
 |.v x::ds,h,0,d,u,hk,hr=>by simp only[Ru,Qq]at hk;subst hk;simpa[Rd]using hr
 |.v x::ds,h,k+1,d,u,hk,hr=>JP (ds:=ds) h (k:=k) (by grind) hr
theorem Ph{M M':Mem}{ρ ρ':Nat->Option Qw}{x:S}{v:Qw}(hx:HI x)(h:SB M ρ x v):SB M' ρ' x v:=by
 rcases hx with⟨u,rfl⟩|⟨n,ds,rfl,ha⟩
 .exact h
 .obtain⟨h0,us,h1,h2,h3⟩:=h;exact⟨h0,us,h1,h2,λk d u h4 h5=>JP ha h4 (h3 k d u h4 h5)⟩
theorem AE{M M':Mem}{ρ ρ':Nat->Option Qw}:∀{xs:List S} {vs:List Qw},(∀x∈xs,HI x)->wx M ρ xs vs->wx M' ρ' xs vs
 |[],[],_,_=>trivial
 |_::_,_::_,hx,h=>⟨Ph (hx _ (Qt ..)) h.1,AE (λx hm=>hx x (Qx _ hm)) h.2⟩
 |[],_::_,_,h=>h.elim
 |_::_,[],_,h=>h.elim
theorem Nq{M:Mem}{ρ:Nat->Option Qw}{s:lL}{xs:List S}{v:Qw}{vs:List Qw}(hl:xs.length=(tX s).length)(hv:CM s v vs)(hx:∀x∈xs,∀l,x≠S.t l)(h:wx M ρ xs vs):SR M ρ (Kw s xs) v:=by
 have one:xs.length=1->vs=[v]->SR M ρ (xs.getD 0 su) v:=λh1 h2=>by
  subst h2
  match xs,h1,h,hx with
  |[x],_,h,hx=>exact h.1.toSR
 unfold CM at hv;cases s with
 |t l=>exact⟨vs,hv.1,h⟩
 |c _=>exact one hl hv
 |a _=>exact one hl hv
 |g _=>exact one hl hv
theorem zA{r:bR}:∀{ss:List lL} {n j:Nat} {f:Nat->S} {K:(Nat->S)->Nat->Prop},ss.all w4=true->qq bc r j (sW n ss) f K->∃sl q,K sl q/\(∀t,n<=t->t<n+ss.length->HI (sl t))/\∀t,t<n->sl t=f t
 |[],n,j,f,K,_,h=>⟨f,j,h,λt h1 h2=>by grind,λ_ _=>rfl⟩
 |s::ss,n,j,f,K,hs,h=>by
  simp only[Yx,QA]at hs
  have key:∀(x:S),HI x->qq bc r (fe (uq s) r j).2 (sW (n+1) ss) (λi=>match Qy i n with
   |true=>x
   |false=>f i) K->∃sl q,K sl q/\(∀t,n<=t->t<n+(s::ss).length->HI (sl t))/\∀t,t<n->sl t=f t:=by
   intro x hx h;obtain⟨sl,q,h1,h2,h3⟩:=zA hs.2 h;refine⟨sl,q,h1,λt h4 h5=>?_,λt h4=>?_⟩
   .by_cases e:t=n
    .subst e;rw[h3 t Q0];simp only[cW];exact hx
    .exact h2 t Q0 (by grind)
   .rw[h3 t Q0];simp only[gS (show t≠n by omega)]
  cases s with
  |c x =>
   cases x with
   |i=>obtain⟨z,_,h⟩:=oL h;exact key _ (.inl ⟨_,rfl⟩) h
   |bo=>obtain⟨z,_,h⟩:=kW h;exact key _ (.inl ⟨_,rfl⟩) h
   |_=>simp[w4]at hs
  |_=>simp[w4]at hs
theorem KT{M:Mem}{b:Nat}{e:QH}{ds:List D}{us:List Qw}(hm:M b=some (.cells us.toArray e (0,0)))(hr:bz M ds us){o n c:Nat}{ad:Option Addr}(hn:o+n<=ds.length)(hc:n<=c)(hx:c<=Ti)(hl:n<=1000000)(ha:0<n->ad=some (fT (some ⟨b,0,none⟩) o)):Rd M (.sl n 1 (sub ds o n)) (.slice ad n c):=by
 unfold Rd;have hlen:(sub ds o n).length=n:=by unfold sub;simp;omega
 refine⟨ad,c,rfl,hc,hx,by unfold lim;omega,Q0,λh=>by grind,o5.mk _ _ λk d hk=>?_⟩;have hkn:k<n:=by
  grind
 have hd:ds[o+k]?=some d:=by
  unfold sub at hk
  grind
 have hu:o+k<us.length:=by rw[hr.1];omega
 refine⟨us[o+k],?_,hr.2 _ _ _ hd (QQ hu)⟩;rw[ha Q0,Rn];show dW M ((fT (some ⟨b,0,none⟩) o).add k)=_;rw[eu,cx];unfold dW;simp[hm,hu]
theorem I9{M M1:Mem}{ρ:Nat->Option Qw}{lst:List (Nat×As)}{ob:Ob}(hs:Sub M M1)(hob:∀b x,ob b=some x->OR M ρ lst b x):∀{xs:List S} {vs:List Qw},(∀b k e us,b∈yBs xs->(b,As.own k e us)∈lst->M1 k=some (.cells us.toArray e (0,0)))->cz M ρ xs vs->cz M1 ρ (xs.map (yS ob)) vs
 |[],[],_,_=>trivial
 |[],_::_,_,h=>h.elim
 |_::_,[],_,h=>h.elim
 |x::xs,v::vs,hm,h=>by
  refine⟨?_,I9 hs hob (λb k e us hb=>hm b k e us ?_) h.2⟩
  .have old:SR M1 ρ x v:=SR.mono hs (Ext.refl ρ) h.1;unfold yS;split
   .rename_i b q sz l n;split
    .rename_i e m ds hb;split
     .rename_i hc;simp only[QA]at hc;have hsz:=Qp hc.1;subst hsz;have h1:=Sk hc.2.1;have h2:=Sk hc.2.2;obtain⟨k,us,g1,g2,g3,g4⟩:=hob b _ hb;obtain⟨ad,c,rfl,hnc,hy⟩:=h.1;have hk:=hm b k e us (Qt ..) g2;rcases hy with⟨k',g5,g6⟩|⟨a,N,C,g5,_⟩
      .rw[g1]at g5;obtain rfl:k=k':=by grind
       exact KT hk (g3.mono hs) Q0 hnc.1 hnc.2 h2 g6
      all_goals grind
     .exact old
    .exact old
   .exact old
  .cases x with
   |c c=>cases c with
    |y _ _ _ _ _=>exact Qx _ hb
    |_=>exact hb
   |_=>exact hb
def After(w0:QL)(Γ0:List As)(ρ:Nat->Option Qw)(M:Mem)(fr:Fr)(val:Nat->Option Qw)(o:Out)(e:Ending)(w':QL):Prop :=
 ∃v s ρ' M' lst',e=.returned v/\o.v=some s/\Sub M M'/\Ext ρ ρ'/\SR M' ρ' s v/\Rel w0 Γ0 (fr.aJ o.ob) ρ' M' lst' val w'
section
variable {P:QE} {tb:Tb} {w0:QL} {Γ0:List As} {fr:Fr} {ρ:Nat->Option Qw} {M:Mem} {lst:List (Nat×As)} {val:Nat->Option Qw} {w:QL} {fs fo:List Nat} {o:Out}
theorem Iy{M:Mem}{ρ:Nat->Option Qw}{s:lL}{xs:List S}{v:Qw}{vs:List Qw}(hl:xs.length=(tX s).length)(hv:CM s v vs)(hx:∀x∈xs,∀l,x≠S.t l)(h:∀t,cy 0 xs (λ_=>su) t=su\/∃u,gF vs t=some u/\SR M ρ (cy 0 xs (λ_=>su) t) u):wx M ρ xs vs:=by
 have key:∀(xs:List S) (vs:List Qw),vs.length=xs.length->(∀(i:Nat) (s:S),xs[i]?=some s->s=su\/∃u,vs[i]?=some u/\SB M ρ s u)->wx M ρ xs vs:=by
  intro xs;induction xs with
  |nil=>intro vs hl _;cases vs with
   |nil=>exact trivial
   |cons _ _=>simp at hl
  |cons x xs ih =>
   intro vs hl hs;cases vs with
   |nil=>simp at hl
   |cons u us =>
    refine⟨?_,ih us (by grind) λi s hi=>by simpa using hs (i+1) s (by simpa using hi)⟩;rcases hs 0 x rfl with rfl|⟨u',h1,h2⟩
    .exact trivial
    .simp only[Ru,Qq]at h1;subst h1;exact h2
 have hvs:vs.length=xs.length:=by
  rw[hl];unfold CM at hv;cases s with
  |t l=>exact hv.2
  |c _=>rw[hv];rfl
  |a _=>rw[hv];rfl
  |g _=>rw[hv];rfl
 refine key xs vs hvs λi s' hi=>?_;have hlt:i<xs.length:=by
  grind
 have e:cy 0 xs (λ_=>su) i=s':=by rw[tB,J2 Q0,T9,RX,hi];rfl
 have hmem:s'∈xs:=List.mem_of_getElem? hi;rcases h i with h1|⟨u,h1,h2⟩
 .grind
 .rw[e]at h2;exact .inr ⟨u,h1,h2.toSB (hx s' hmem)⟩
theorem Nr{M:Mem}{ρ ρ':Nat->Option Qw}{mp:List (Nat×Tg)}{d:Nat}(hb:∀i u,ρ i=some u->ρ' (bx mp d i)=some u){s:lL}{xs:List S}{v:Qw}{vs:List Qw}(hl:xs.length=(tX s).length)(hv:CM s v vs)(hx:∀x∈xs,∀l,x≠S.t l)(h:wx M ρ xs vs):SR M ρ' (A4 mp d (Kw s xs)) v:=by
 have one:xs.length=1->vs=[v]->SR M ρ' (A4 mp d (xs.getD 0 su)) v:=λh1 h2=>by
  subst h2
  match xs,h1,h,hx with
  |[x],_,h,hx =>
   have:A4 mp d ([x].getD 0 su)=Fu mp d x:=by
    show A4 mp d x=_;cases x with
    |t l=>exact(hx _ (QI.2 rfl) l rfl).elim
    |c _=>rfl
    |a _ _=>rfl
    |g _=>rfl
    |r _ _ _=>rfl
   rw[this];exact(Ft hb h.1).toSR
 have many:∀{xs:List S} {vs:List Qw},wx M ρ xs vs->wx M ρ' (xs.map (Fu mp d)) vs:=by
  intro xs;induction xs with
  |nil=>intro vs h;cases vs with
   |nil=>exact trivial
   |cons _ _=>exact h.elim
  |cons x xs ih=>intro vs h;cases vs with
   |nil=>exact h.elim
   |cons u us=>exact⟨Ft hb h.1,ih h.2⟩
 unfold CM at hv;cases s with
 |t l=>exact⟨vs,hv.1,many h⟩
 |c _=>exact one hl hv
 |a _=>exact one hl hv
 |g _=>exact one hl hv
theorem KU{s:bA}{r:bR}{xs:List S}{q:Nat}{ys:List (Nat×O)}{fr':Fr}(h1:∀(f:Nat->S) (K:(Nat->S)->Nat->Prop),qq bc r 0 (sW 0 (tX s.out)) f K↔K (cy 0 xs f) q)(h2:∀(f:Ob) (K:Ob->Prop),vu bc r q s.jl f K↔K (obF ys f))
  (h:ct bc (jB s) r (λx=>x=fr')):fr'.sl=cy 0 xs (λ_=>su)/\fr'.ob=obF ys (λ_=>none):=by
 unfold ct jB at h;rw[h1,h2]at h;rw[<-h];exact⟨rfl,rfl⟩
theorem PO(h:Rel w0 Γ0 fr ρ M lst val w){id f:Nat}(hid:fr.aQ<=id){xs:List S}{vs:List Qw}(hxs:cz M ρ xs vs)(hr:R1 (la P) fr (PQ P id f xs) fs fo o) :
  oP P f=true/\T8 P f vs.toArray w (After w0 Γ0 ρ M fr val o):=by
 unfold PQ at hr;split at hr
 .rename_i fn hfn hfB;refine⟨hfB,?_⟩;have hty:=tw (P:=P) (ts:=fn.params.toList) hxs;generalize kx P fn.params.toList xs=xt at hr hty;obtain⟨acc,fo1,hacc,hr⟩:=tO 100000 (λp hp=>by cases hp) hr;split at hr
  .rename_i hb;simp only[QA]at hb;obtain⟨v,os,hin,hr⟩:=hr;dsimp only at hr;split at hr
   .rename_i hc;simp only[QA]at hc;obtain⟨hnew,fo2,hr⟩:=xQ hr;have hr:o=⟨some v,os,fs,fo2⟩:=hr;subst hr;have hcut:=h.cut hacc hb.2.1;have hin':FD P f xt acc v os:=hin;refine(hin' _ _ _ _ _ _ _ (hty.cut λb hb'=>pe hb.1 b hb') hcut).mono ?_;rintro e w' ⟨u,ρ',M',lst',rfl,hM,hE,hs,hR⟩;obtain⟨ρ'',g1,g2,g3⟩:=h.uncut hid hM hE hR hc.2.2.1 (λb hb'=>pe hc.2.2.2 b (oO.1 hb')) hnew;exact⟨u,v,ρ'',M',_,rfl,rfl,hM,g1,SR.mono (Sub.refl _) g2 hs,g3⟩
   .exact hr.elim
  .exact hr.elim
 .exact hr.elim
theorem call_ok(h:Rel w0 Γ0 fr ρ M lst val w){id f:Nat}(hid:fr.aQ<=id){xs:List S}{vs:List Qw}(hxs:cz M ρ xs vs)(hr:R1 (la P) fr (JF P tb id f xs) fs fo o) :
  oP P f=true/\T8 P f vs.toArray w (After w0 Γ0 ρ M fr val o):=by
 unfold JF at hr;split at hr
 .exact PO h hid hxs hr
 split at hr
 .exact hr.elim
 .exact hr.elim
 .rename_i fn hfn hfB;refine⟨hfB,?_⟩;obtain⟨ob,fo1,hob,hr⟩:=xo 12 (fr:=fr) (λb x hb=>by cases hb) hr;split at hr
  .exact hr.elim
  .rename_i s hs;obtain⟨hsf,hslen⟩:=Ha hs;have hty:=tw (P:=P) (ts:=fn.params.toList) hxs;generalize kx P fn.params.toList xs=xt at hr hs hslen hty;split at hr
   .exact hr.elim
   .rename_i a k hpk;have hvl:vs.length=s.ins.sl.length:=by rw[hslen,hty.len]
    unfold Gn at hpk;split at hpk
    .rename_i r1 k1 p1;split at hpk
     .rename_i r2 k2 p2;split at hpk
      .rename_i hb;simp only[QA]at hb;simp only[Qq,QR]at hpk;obtain⟨rfl,rfl⟩:=hpk;obtain⟨a1,a2⟩:=qG p1;obtain⟨a3,a4⟩:=qH p2;have hinj:=a3.inj (a1.inj zo.nil);have hfit:=qm.mono a3.mp a3.fix a2;have hnum:∀M1 l,cz M1 ρ l vs->∀t,cB 0 l t=su\/∃v,gF vs t=some v/\SR M1 ρ (cB 0 l t) v:=λM1 l hl t=>by
        rcases oA 0 t hl with h1|⟨v,_,h1,h2⟩
        .exact .inl h1
        .exact .inr ⟨v,h1,h2⟩
       have hlinkdom:∀i,(eh k2.mp ρ i).isSome=true->i∈s.ins.ob.map QZ:=λi hi=>by
        unfold eh at hi;split at hi
        .rename_i hg;exact fk hb.1.1 hg
        .rename_i hg;exact fk hb.1.1 hg
        .cases hi
       split at hr
       .exact hr.elim
       rename_i hvx;split at hr
       .-- lent
        rename_i hlend;split at hr
        .rename_i hlb;obtain⟨r,hIs,hr⟩:=hr;change Is P s _ r at hIs;obtain⟨ys,q,hyl,hyt,hy,hr⟩:=HU hr;unfold lendB at hlb;simp only[QA,List.isEmpty_iff]at hlb;obtain⟨⟨hio,hoo⟩,hsc⟩:=hlb;have hflat:(∀y∈ys,HI y)/\o.v=some (Kw s.out ys)/\o.ob=[]:=by
          have fin:∀{k:bj} {v:S} {fs fo:List Nat},R1 (la P) fr (Gk v k) fs fo o->(∀n ds,v=.a n ds->P7 ds=true)/\R1 (la P) fr k fs fo o:=fun{k v fs fo} hr=>by
           unfold Gk at hr;split at hr
           .exact⟨λn ds e=>by simp only[S.a.injEq]at e;rw[<-e.2];exact hr.1,hr.2⟩
           all_goals grind
          obtain⟨hpl,hr⟩:=fin hr;have hr:o=⟨some (Kw s.out ys),[],_,_⟩:=hr;refine⟨?_,by rw[hr],by rw[hr]⟩;have many:(tX s.out).all w4=true->∀y∈ys,HI y:=λhall=>by obtain⟨sl,q',e,hfl,_⟩:=zA hall ((hy (λ_=>su) (λsl _=>sl=cy 0 ys (λ_=>su))).2 rfl);intro y hym;obtain⟨i,hi,rfl⟩:=List.getElem_of_mem hym;have:=hfl i (Rr _) Q0;rw[e,tB,J2 Q0,T9,RX,QQ hi]at this;exact this
          cases hso:s.out with
          |t l=>rw[hso]at hsc;exact many (by rw[hso];exact hsc)
          |c _=>rw[hso]at hsc;exact many (by rw[hso];simp[tX];exact hsc)
          |g _=>rw[hso]at hsc;simp[w4]at hsc
          |a m =>
           have h0:cy 0 ys (λ_=>su) 0=.a m (fe true r 0).1:=by have:=(hy (λ_=>su) (λsl _=>sl 0=cy 0 ys (λ_=>su) 0)).2 rfl;rw[hso]at this;exact this.symm
           rw[hso]at hyl hpl;intro y hym
           match ys,hyl,hym with
           |[x],_,hym=>obtain rfl:=QI.1 hym;have h1:y=.a m (fe true r 0).1:=h0;exact .inr ⟨m,_,h1,hpl m _ h1⟩
         obtain⟨ov,jl,ofs,ofo⟩:=o;obtain⟨hflat,hov,hoob⟩:=hflat;simp only at hov hoob;subst hov hoob
         -- qt rows that are lent
         let pr:Nat×As->Bool:=λp=>decide (p.1∈k2.fix\/p.1∈yBs xt) && IL p.2;have hperm:X5 (lst.filter pr++lst.filter (λp=>!pr p)) lst:=W4 _ _
         have hst:St w0 M ((lst.filter pr).map Ra++((lst.filter (λp=>!pr p)).map Ra++Γ0)) w:=h.st.fP (by
          rw[<-QU,<-Rb]
          exact((hperm.map Ra).append_right Γ0).symm)
         have ho:∀x∈(lst.filter pr).map Ra,x.owns:=λx hx=>by obtain⟨p,hp,rfl⟩:=QP.1 hx;have:=(Rq.1 hp).2;simp only[pr,QA]at this;exact NI this.2
         obtain⟨M1,hl,hst1⟩:=St.Ep _ ho hst;have hrows:iQ ρ M1 ob k2.fix:=λb sz n cs hb=>by
          rcases hb.plain hvx with⟨⟨e,hb⟩,hm⟩|hb
          .obtain⟨ad,c,us,h1,h2,h3,h4,h5⟩:=h.ob b _ (hob b _ hb);exact⟨_,h1,hl.acc (QP.2 ⟨_,Rq.2 ⟨h2,by simp[pr,hm,IL]⟩,rfl⟩) (h3.mono hl.sub) h5⟩
          .obtain⟨v,h1,h2⟩:=h.ob b _ (hob b _ hb);exact⟨v,h1,Rd.mono hl.sub _ _ h2⟩
         have hvals1:cz M1 ρ (Ja s.Ep ob xt) vs:=by rw[hlend];refine I9 hl.sub (λb x hb=>h.ob b x (hob b x hb)) (λb k e us hb hm=>?_) hty;obtain⟨w1,hw1,hw2⟩:=hl.wit;have hmem:As.own k e us∈(lst.filter pr).map Ra:=QP.2 ⟨_,Rq.2 ⟨hm,by simp[pr,hb,IL]⟩,rfl⟩;rw[hw2 _ hmem k rfl];exact(hw1.all _ (List.mem_append_left _ hmem)).2
         have hnol:∀i x,bH k2.mp i≠some x:=λi x hg=>by
          have:=fk hb.1.1 hg
          grind
         obtain⟨fr',lst',rem,hcall,hbase,hR',hl',hrn,hrem,hrem2⟩:=tu (w0:=w0) (lst:=[]) (Γ0:=(lst.filter (λp=>!pr p)).map Ra++Γ0) (λi b x hi hx=>(hnol i _ hi).elim) Ur (λp hp=>by simp at hp) hst1 (h.gr.mono hl.sub) hrows (hnum M1 _ hvals1) hfit a4 hb.1.1 hb.2 hinj hIs;have hrem0:rem=[]:=VE.2 λp hp=>by
          grind
         subst hrem0;have hc:=hcall w0 _ (eh k2.mp ρ) M1 lst' vs w hvl hlinkdom hR';rw[hsf]at hc;refine hc.mono ?_;rintro e w' ⟨v,vs',ρ',M',lst2,fr2,rfl,hres,hM2,hext,hdom,hl2,hun,hR2⟩;have hl20:lst2=[]:=VE.2 λp hp=>by
          grind
         subst hl20;have hsl2:fr2.sl=cy 0 ys (λ_=>su):=by have h9:=hun;unfold ct jB at h9;rw[hy,hoo]at h9;rw[<-show _=fr2 from h9]
         have hsb:wx M' ρ' ys vs':=Iy hyl hres hyt (by rw[<-hsl2];exact hR2.sl);obtain⟨b1,b2,b3⟩:=hl.back ho hM2 (by simpa using hR2.st);refine⟨v,_,ρ,_,lst,rfl,rfl,b1,Ext.refl ρ,Nq hyl hres hyt (AE hflat hsb),⟨λt=>?_,λk o hk=>OR.mono b1 (Ext.refl ρ) (λx hx=>hx) (h.ob k o hk),h.vP,h.gg,h.nd,b3.fP ?_,h.gr.mono b1⟩⟩
         .rcases h.sl t with h1|⟨u,h1,h2⟩
          .exact .inl h1
          .exact .inr ⟨u,h1,SR.mono b1 (Ext.refl ρ) h2⟩
         .rw[<-QU,<-Rb];exact(hperm.map Ra).append_right Γ0
        .exact hr.elim
       .-- for good
        rename_i hgood;split at hr
        rotate_left
        .exact hr.elim
        rename_i hnd;obtain⟨r,hIs,hr⟩:=hr;change Is P s _ r at hIs;obtain⟨ys,q,hyl,hyt,hy,hr⟩:=HU hr;obtain⟨zs,fo2,hzl,hz,hr,hfree⟩:=zB hr;have hr:o=⟨some (A4 k2.mp id (Kw s.out ys)),gq ob k2.fix++bW s.jl k2.mp++zs.map λp=>(bx k2.mp id p.1,A5 k2.mp id p.2),_,_⟩:=hr;subst hr;obtain⟨M1,lst1,hM1,hR1,hrows⟩:=Kk h hob k2.fix hvx;have hvals1:cz M1 ρ (Ja s.Ep ob xt) vs:=by rw[hgood];exact hty.mono hM1
        have hkeep:∀i b,bH k2.mp i=some (.ob b)->∀x,ob b=some x->(fr.aJ (gq ob k2.fix)).ob b=some x:=λi b hi x hx=>by
         rw[iw _ λp hp e=>?_]
         .exact hob b x hx
         .have:=pJ hp;rw[e]at this;exact yM hb.1.2 this hi
        obtain⟨fr',lst',rem,hcall,hbase,hR',hl',hrn,hrem,hrem2⟩:=tu (w0:=w0) (Γ0:=Γ0) (λi b x hi hx=>hR1.ob b x (hkeep i b hi x hx)) hR1.nd hR1.gg hR1.st hR1.gr hrows (hnum M1 _ hvals1) hfit a4 hb.1.1 hb.2 hinj hIs;have hc:=hcall w0 (rem.map Ra++Γ0) (eh k2.mp ρ) M1 lst' vs w hvl hlinkdom hR';rw[hsf]at hc;refine hc.mono ?_;rintro e w' ⟨v,vs',ρ',M',lst2,fr2,rfl,hres,hM2,hext,hdom,hl2,hun,hR2⟩;obtain⟨hsl2,hob2⟩:=KU hy hz hun;have hsb:wx M' ρ' ys vs':=Iy hyl hres hyt (by rw[<-hsl2];exact hR2.sl);have hnone:∀i∈s.jl.map QZ,ia k2.mp i=true->ρ (id+10000*(i+1))=none:=λi hi hnew=>by
         rcases hfree i hi with⟨b,hg⟩|hfr
         .unfold ia at hnew;rw[hg]at hnew;cases hnew
         .exact h.fresh hfr Q0
        have hsomeb:∀i b,bH k2.mp i=some (.ob b)->∃v,ρ b=some v:=λi b hg=>by obtain⟨o',ds',hf'⟩:=AK a4 (fk hb.1.1 hg);obtain⟨x,hx,hne⟩:=L3 hf' hg;exact OR_some (h.ob b x (hob b x hx)) hne
        have hEn:Ext ρ (qj ρ ρ' id ((s.jl.map QZ).filter (ia k2.mp))):=LH;have hbN:∀i u,ρ' i=some u->qj ρ ρ' id ((s.jl.map QZ).filter (ia k2.mp)) (bx k2.mp id i)=some u:=λi u hu=>by
         have hio:=hdom i (by rw[hu];rfl);unfold bx;split
         .rename_i b hg;obtain⟨v0,hv0⟩:=hsomeb i b hg;have h7:=hext i v0 (by rw[cG hg];exact hv0) hio;rw[hu]at h7;rw[hEn _ _ hv0,h7]
         .rename_i hg;have hnew:ia k2.mp i=true:=by
           unfold ia
           grind
          rw[LI (Rq.2 ⟨hio,hnew⟩) (hnone i hio hnew),hu]
        have hMM:Sub M M':=hM1.trans hM2;have hkeyz:∀i∈s.jl.map QZ,bx k2.mp id i∈(gq ob k2.fix++bW s.jl k2.mp++zs.map λp=>(bx k2.mp id p.1,A5 k2.mp id p.2)).map QZ:=λi hi=>by
         grind
        have hznd:(zs.map QZ).Nodup:=by rw[hzl];exact tZ hnd
        refine⟨v,_,qj ρ ρ' id ((s.jl.map QZ).filter (ia k2.mp)),M',lst2.map (λp=>(bx k2.mp id p.1,p.2))++rem,rfl,rfl,hMM,hEn,Nr hbN hyl hres hyt hsb,⟨λt=>?_,λk o hk=>?_,λk u hk=>?_,λp hp=>?_,?_,?_,h.gr.mono hMM⟩⟩
        .rw[rv];rcases h.sl t with h1|⟨u,h1,h2⟩
         .exact .inl h1
         .exact .inr ⟨u,h1,SR.mono hMM hEn h2⟩
        .rcases C3 _ hk with hk|⟨hk,hne⟩
         .rcases QK.1 hk with hk|hk
          .rcases QK.1 hk with hk|hk
           .obtain⟨e,sz,n,ds,e1,e2,e3⟩:=AH hk;have e1:o=.s sz n ds:=e1;subst e1;obtain⟨u,e4,e5⟩:=hrows k sz n ds (.inl (.inl ⟨⟨e,e2⟩,e3⟩));exact⟨u,hEn _ _ e4,Rd.mono hM2 _ _ e5⟩
           .have e1:o=.bW:=sN hk;subst e1;exact trivial
          .obtain⟨p,hp,e⟩:=QP.1 hk;simp only[QR]at e;obtain⟨rfl,rfl⟩:=e;have:=hR2.ob p.1 p.2 (by rw[hob2];exact obF_mem hznd hp);exact P3 hbN (λx hx=>List.mem_append_left _ (QP.2 ⟨_,hx,rfl⟩)) this
         .have h9:=hR1.ob k o (by rw[iw _ λp hp=>hne p (List.mem_append_left _ (List.mem_append_left _ hp))];exact hk);refine OR.mono hM2 hEn (λx hx=>List.mem_append_right _ (hrem2 _ hx λi hi hg=>?_)) h9;by_cases hio:i∈s.jl.map QZ
          .have:=hkeyz i hio;obtain⟨p,hp,e⟩:=QP.1 this;have e2:bx k2.mp id i=k:=by unfold bx;rw[hg]
           exact hne p hp (by rw[e,e2])
          .obtain⟨p,hp,e⟩:=QP.1 (ED hg hio);exact hne p (List.mem_append_left _ (List.mem_append_right _ hp)) e
        .rw[ka];rcases Ey hk with hk|⟨i,hi,rfl,_⟩
         .rcases h.vP k u hk with h1|h1
          .exact .inl h1
          .exact .inr (tx _ (.inl h1))
         .right;obtain⟨hi1,hi2⟩:=Rq.1 hi;have:=hkeyz i hi1;have e2:bx k2.mp id i=id+10000*(i+1):=by
           unfold ia at hi2;unfold bx
           grind
          rw[e2]at this;exact tx _ (.inr this)
        .rcases QK.1 hp with hp|hp
         .obtain⟨p',hp',rfl⟩:=QP.1 hp;obtain⟨u,hu⟩:=R0.1 (hR2.gg p' hp');show(qj ρ ρ' id _ (bx k2.mp id p'.1)).isSome=true;rw[hbN _ _ hu];rfl
         .obtain⟨u,hu⟩:=R0.1 (hR1.gg p (hrem p hp).1);rw[hEn _ _ hu];rfl
        .rw[Rb,R3];have hinjN:∀x∈lst2.map QZ,∀y∈lst2.map QZ,bx k2.mp id x=bx k2.mp id y->x=y:=λx hx y hy' e=>by
          obtain⟨px,hpx,rfl⟩:=QP.1 hx;obtain⟨py,hpy,rfl⟩:=QP.1 hy';have ox:=hl2 px hpx;have oy:=hl2 py hpy;cases hgx:bH k2.mp px.1 with
          |none =>
           have ex:bx k2.mp id px.1=id+10000*(px.1+1):=by unfold bx;rw[hgx]
           have nx:ia k2.mp px.1=true:=by unfold ia;rw[hgx]
           cases hgy:bH k2.mp py.1 with
           |none =>
            have ey:bx k2.mp id py.1=id+10000*(py.1+1):=by unfold bx;rw[hgy]
            omega
           |some t=>cases t with
            |nil sz =>
             have ey:bx k2.mp id py.1=id+10000*(py.1+1):=by unfold bx;rw[hgy]
             omega
            |ob b =>
             have ey:bx k2.mp id py.1=b:=by unfold bx;rw[hgy]
             obtain⟨v0,hv0⟩:=hsomeb _ _ hgy;rw[<-ey,<-e,ex,hnone _ ox nx]at hv0;cases hv0
          |some t=>cases t with
           |nil sz =>
            have ex:bx k2.mp id px.1=id+10000*(px.1+1):=by unfold bx;rw[hgx]
            have nx:ia k2.mp px.1=true:=by unfold ia;rw[hgx]
            cases hgy:bH k2.mp py.1 with
            |none =>
             have ey:bx k2.mp id py.1=id+10000*(py.1+1):=by unfold bx;rw[hgy]
             omega
            |some t=>cases t with
             |nil sz =>
              have ey:bx k2.mp id py.1=id+10000*(py.1+1):=by unfold bx;rw[hgy]
              omega
             |ob b =>
              have ey:bx k2.mp id py.1=b:=by unfold bx;rw[hgy]
              obtain⟨v0,hv0⟩:=hsomeb _ _ hgy;rw[<-ey,<-e,ex,hnone _ ox nx]at hv0;cases hv0
           |ob b =>
            have ex:bx k2.mp id px.1=b:=by unfold bx;rw[hgx]
            obtain⟨v0,hv0⟩:=hsomeb _ _ hgx;cases hgy:bH k2.mp py.1 with
            |none =>
             have ey:bx k2.mp id py.1=id+10000*(py.1+1):=by unfold bx;rw[hgy]
             have ny:ia k2.mp py.1=true:=by unfold ia;rw[hgy]
             rw[<-ex,e,ey,hnone _ oy ny]at hv0;cases hv0
            |some t=>cases t with
             |nil sz =>
              have ey:bx k2.mp id py.1=id+10000*(py.1+1):=by unfold bx;rw[hgy]
              have ny:ia k2.mp py.1=true:=by unfold ia;rw[hgy]
              rw[<-ex,e,ey,hnone _ oy ny]at hv0;cases hv0
             |ob b' =>
              have ey:bx k2.mp id py.1=b':=by unfold bx;rw[hgy]
              have:b=b':=Q0;subst this;exact hinj _ _ _ hgx hgy
         have h8:(lst2.map (QZ ∘ λp=>(bx k2.mp id p.1,p.2)))=(lst2.map QZ).map (bx k2.mp id):=by rw[R3];rfl
         rw[h8];refine R7.2 ⟨rX hinjN hR2.nd,hrn,λx hx y hy' e=>?_⟩;subst e;obtain⟨i,hi,rfl⟩:=QP.1 hx;obtain⟨pi,hpi,rfl⟩:=QP.1 hi;obtain⟨q,hq,e⟩:=QP.1 hy';have oi:=hl2 pi hpi;cases hgx:bH k2.mp pi.1 with
         |none =>
          have ex:bx k2.mp id pi.1=id+10000*(pi.1+1):=by unfold bx;rw[hgx]
          have nx:ia k2.mp pi.1=true:=by unfold ia;rw[hgx]
          have:=hR1.gg q (hrem q hq).1;rw[e,ex,hnone _ oi nx]at this;cases this
         |some t=>cases t with
          |nil sz =>
           have ex:bx k2.mp id pi.1=id+10000*(pi.1+1):=by unfold bx;rw[hgx]
           have nx:ia k2.mp pi.1=true:=by unfold ia;rw[hgx]
           have:=hR1.gg q (hrem q hq).1;rw[e,ex,hnone _ oi nx]at this;cases this
          |ob b =>
           have ex:bx k2.mp id pi.1=b:=by unfold bx;rw[hgx]
           exact(hrem q hq).2 pi.1 (fk hb.1.1 hgx) (by grind)
        .rw[Rb,R3,QU];exact hR2.st
      .cases hpk
     .cases hpk
    .cases hpk
end
def pX(k:ar)(v:Qw):List (ar×Qw)->List (ar×Qw)
 |[]=>[(k,v)]
 |p::l=>if k=p.1 then(p.1,v)::l else p::pX k v l
section
variable {P:QE} {kt:QH} (hK:ql P kt jH)
theorem Ba(hK:ql P kt jH)(k:ar)(v:Qw):∀(l:List (ar×Qw)) (es:List Su) (i:Nat) (w:QL),es.map (λe=>(e.key,e.val))=vw jH l ->
  (gu k l=none/\(Sn kt (jH k) es i).run P w=.ok none w/\vw jH (pX k v l)=vw jH l++[(jH k,v)]) \/
  ∃j u e,(Sn kt (jH k) es i).run P w=.ok (some (i+j,u)) w/\gu k l=some u/\es[j]?=some e/\e.key=jH k/\(es.modify j λe=>{e with key:=jH k,val:=v}).map (λe=>(e.key,e.val))=vw jH (pX k v l)
 |[],[],i,w,_=>.inl ⟨rfl,by simp[Sn],rfl⟩
 |p::l,e::es,i,w,h=>by
  simp only[vw,QT,SA,QR]at h;obtain⟨⟨h0,h00⟩,ht⟩:=h;have h1:=hK.eq k p.1 w;by_cases he:k=p.1
  .refine .inr ⟨0,e.val,e,?_,by simp[gu,he,h00],rfl,by rw[h0,he],?_⟩
   .rw[J5 he]at h1;simp only[Sn,h0];simp[h1]
   .simp only[pX]
    grind
  .rw[J6 he]at h1;rcases Ba hK k v l es (i+1) w ht with⟨g1,g2,g3⟩|⟨j,u,e',g1,g2,g3,g4,g5⟩
   .refine .inl ⟨by simp only[gu];rw[J1 he];exact g1,?_,?_⟩
    .simp only[Sn,h0];simp[h1,g2]
    .simp only[pX]
     grind
   .refine .inr ⟨j+1,u,e',?_,by simp only[gu];rw[J1 he];exact g2,by grind,g4,?_⟩
    .simp only[Sn,h0];simp[h1,g1];omega
    .simp only[pX]
     grind
 |[],_::_,_,_,h=>by grind
 |_::_,[],_,_,h=>by grind
theorem key_at(hK:ql P kt jH)(k:ar)(v:Qw)(l:List (ar×Qw))(es:List Su)(w:QL)(h:es.map (λe=>(e.key,e.val))=vw jH l) :
  (gu k l=none/\(S2 kt (jH k) es).run P w=.ok none w/\vw jH (pX k v l)=vw jH l++[(jH k,v)]) \/
  ∃j u e,(S2 kt (jH k) es).run P w=.ok (some (j,u)) w/\gu k l=some u/\es[j]?=some e/\e.key=jH k/\(es.modify j λe=>{e with key:=jH k,val:=v}).map (λe=>(e.key,e.val))=vw jH (pX k v l):=by
 obtain⟨fs,hfs⟩:=hK.kind;cases es with
 |nil =>
  cases l with
  |nil=>exact .inl ⟨rfl,by simp[S2,QN hfs,Uw],rfl⟩
  |cons p l=>simp[vw]at h
 |cons e es =>
  have e1:(S2 kt (jH k) (e::es)).run P w=(Sn kt (jH k) (e::es)).run P w:=by simp[S2,QN hfs,Uw,WM]
  rcases Ba hK k v l (e::es) 0 w h with⟨g1,g2,g3⟩|⟨j,u,e',g1,g2,g3⟩
  .exact .inl ⟨g1,by grind,g3⟩
  .rw[Rn]at g1;exact .inr ⟨j,u,e',by grind,g2,g3⟩
theorem stays(k:ar)(w:QL):(Xy (jH k) (jH k)).run P w=.ok (jH k) w:=by
 have:Wj 10000 (jH k) (jH k)=true:=by show Wj (9998+1+1) (.agg #[lX k.aD,lX k.seq,lX k.index]) (.agg #[lX k.aD,lX k.seq,lX k.index])=true;simp[Wj]
 simp[Xy,this]
theorem ze(hK:ql P kt jH){w0:QL}{M:Mem}{R:List As}{t e b:Nat}{l:List (ar×Qw)}{k:ar}{v:Qw}{w:QL}(ht:GG P t kt e=true)(hw:St w0 M (.mp b (vw jH l)::R) w) :
  ∃w',(VL t (.map (some b)) (jH k) v).run P w=.ok () w'/\St w0 M (.mp b (vw jH (pX k v l))::R) w':=by
 obtain⟨hM,es,clock,hb,hes,hst⟩:=hw.all _ (Qt ..);have h3:=λb=>hK.check k b w;have h4:(getObj b).run P w=.ok (.map es clock) w:=Ux hb;have hlt:b<w.heap.size:=(RH.1 hb).1;have put:∀(es':Array Su) (clock':Nat),es'.toList.map (λe=>(e.key,e.val))=vw jH (pX k v l)->nN es' clock'->St w0 M (.mp b (vw jH (pX k v l))::R) {w with heap:=w.heap.setIfInBounds b (.map es' clock')}:=λes' clock' he hst'=>by
  have hne:∀c,c≠b->(w.heap.setIfInBounds b (.map es' clock'))[c]?=w.heap[c]?:=λc hc=>Array.getElem?_setIfInBounds_ne Q0;have hnd:=hw.nodup;simp only[Rh,As.gh]at hnd;refine⟨hw.os,hw.tape,hw.output,by simp;exact hw.size,λc o hc=>?_,λx hx=>?_,by simpa[Rh,As.gh]using hw.nodup⟩
  .rw[hne c (λe=>by grind)];exact hw.mem c o hc
  .rcases Qz.1 hx with rfl|hm
   .exact⟨hM,es',clock',by simp[hlt],he,hst'⟩
   .have hx':=hw.all x (Qx _ hm);refine As.fy hx' (Sub.refl M) λc hc=>⟨hne c λe=>?_,(As.bg hx' hc).2⟩
    grind
 rcases key_at hK k v l es.toList w hes with⟨g1,g2,g3⟩|⟨j,u,e',g1,g2,g3,g4,g5⟩
 .refine⟨{w with heap:=w.heap.setIfInBounds b (.map (es.push {key:=jH k,val:=v,born:=clock}) (clock+1))},?_,put _ _ (by grind) (hst.push _)⟩;simp[VL,QN (kh ht),h4,h3,g2,WN _ hb]
 .refine⟨{w with heap:=w.heap.setIfInBounds b (.map (es.modify j λe=>{e with key:=jH k,val:=v}) clock)},?_,put _ _ (by grind) (hst.modify (f:=λe=>{e with key:=jH k,val:=v}) (λ_=>rfl) j)⟩;have g3':es[j]?=some e':=by grind
  have hk:((es[j]?).map (·.key)).getD (jH k)=jH k:=by grind
  simp only[VL,SD,QN (kh ht),Tr,h4,h3,g1,hk,stays k w,WN _ hb]
end
theorem Cb{i:ar}{a b c:Int}{ds:List D}:x9 a b c (.v (.int .i64 i.aD)::.v (.int .i64 i.seq)::.v (.int .i64 i.index)::ds)=decide ((⟨a,b,c⟩:ar)=i):=by
 unfold x9;show decide (i.aD=a/\i.seq=b/\i.index=c)=_;refine decide_eq_decide.2 ⟨λh=>?_,λh=>?_⟩
 .obtain⟨rfl,rfl,rfl⟩:=h;rfl
 all_goals grind
section
variable {M:Mem} {ag:Bool} {vs:Nat} {k:ar}
theorem Ek:∀{l:List (ar×Qw)} {ds:List D},MR M ag vs l ds->(gu k l=none/\bu (3+vs) k.aD k.seq k.index l.length ds=none)\/∃v xs,gu k l=some v/\bu (3+vs) k.aD k.seq k.index l.length ds=some xs/\xs.length=vs/\VR M ag xs v
 |[],ds,_=>.inl ⟨rfl,rfl⟩
 |(i,v)::l,ds,⟨xs,rest,h1,h2,h3,h4⟩=>by
  subst h1;have hd:(D.v (.int .i64 i.aD)::.v (.int .i64 i.seq)::.v (.int .i64 i.index)::(xs++rest)).drop (3+vs)=rest:=by
   grind
  have htk:((D.v (.int .i64 i.aD)::.v (.int .i64 i.seq)::.v (.int .i64 i.index)::(xs++rest)).take (3+vs)).drop 3=xs:=by
   grind
  by_cases e:k=i
  .subst e;refine .inr ⟨v,xs,by simp[gu],?_,h2,h3⟩;rw[QG,bu,Cb,J5 (show(⟨k.aD,k.seq,k.index⟩:ar)=k from rfl)];simp only[htk]
  .have hm:bu (3+vs) k.aD k.seq k.index ((i,v)::l).length (.v (.int .i64 i.aD)::.v (.int .i64 i.seq)::.v (.int .i64 i.index)::(xs++rest))=bu (3+vs) k.aD k.seq k.index l.length rest:=by rw[QG,bu,Cb,J6 (show ¬(⟨k.aD,k.seq,k.index⟩:ar)=i from e)];simp only[hd]
   rw[hm,gu,J1 e];exact Ek h4
theorem map_set{v:Qw}{xs:List D}(hv:VR M ag xs v)(hx:xs.length=vs):∀{l:List (ar×Qw)} {ds:List D},MR M ag vs l ds->MR M ag vs (pX k v l) (cS (3+vs) k.aD k.seq k.index xs l.length ds)/\(pX k v l).length=fH (3+vs) k.aD k.seq k.index l.length ds
 |[],ds,h=>by obtain rfl:ds=[]:=h;exact⟨⟨xs,[],rfl,hx,hv,rfl⟩,rfl⟩
 |(i,u)::l,ds,⟨ys,rest,h1,h2,h3,h4⟩=>by
  subst h1;have hd:(D.v (.int .i64 i.aD)::.v (.int .i64 i.seq)::.v (.int .i64 i.index)::(ys++rest)).drop (3+vs)=rest:=by
   grind
  have htk:(D.v (.int .i64 i.aD)::.v (.int .i64 i.seq)::.v (.int .i64 i.index)::(ys++rest)).take (3+vs)=.v (.int .i64 i.aD)::.v (.int .i64 i.seq)::.v (.int .i64 i.index)::ys:=by
   grind
  by_cases e:k=i
  .subst e;simp only[pX];rw[J2 trivial];unfold fH;rw[QG,cS,bu,Cb,J5 (show(⟨k.aD,k.seq,k.index⟩:ar)=k from rfl)];simp only[hd];exact⟨⟨xs,rest,Q2,hx,hv,h4⟩,Q2⟩
  .obtain⟨g1,g2⟩:=map_set hv hx h4;simp only[pX];rw[J1 e];unfold fH at g2 ⊢;rw[QG,cS,bu,Cb,J6 (show ¬(⟨k.aD,k.seq,k.index⟩:ar)=i from e)];simp only[hd,htk];refine⟨⟨ys,_,Q2,h2,h3,g1⟩,?_⟩;rw[QG,g2];split <;> rfl
end
section
variable {Is:Cx} {P:QE} {tb:Tb} {n:Nat} {w0:QL} {Γ0:List As} {fr:Fr} {ρ:Nat->Option Qw} {M:Mem} {lst:List (Nat×As)} {a:Act} {w:QL} {fs fo:List Nat} {o:Out} {Q:Exit->Act->QL->Prop} {d:Nat} {ty:QH} {pos:String} {af:Array Edge} {g:Option (Nat×Bool)}
theorem ug(hT:lS P tb){t e:Nat}{ag:Bool}{vs:Nat}{zs:List D}(h:Ly P tb t=some (e,ag,vs,zs)):∃k,GG P t k e=true/\ql P k jH/\zs.length=vs/\∃z,jV P e=some z/\∀M,VR M ag zs z:=by
 unfold Ly at h;split at h
 .rename_i k e' hu;split at h
  .rename_i zs' hk hz;have hb:GG P t k e'=true:=by unfold GG;simp_all
   obtain⟨zc,hzc,hzd⟩:=Option.bind_eq_some_iff.1 hz;have hkey:=hT.key k hk;split at h
   .rename_i hag;simp only[Qq,QR]at h;obtain⟨rfl,rfl,rfl,rfl⟩:=h;obtain⟨z,hz1,_⟩:=fN (M:=λ_=>none) (ρ:=λ_=>none) hzc;refine⟨k,hb,hkey,rfl,z,hz1,λM=>?_⟩;obtain⟨z',hz2,hz3⟩:=fN (M:=M) (ρ:=λ_=>none) hzc;rw[hz1]at hz2 hag;simp only[Qq]at hz2;subst hz2;cases z with
    |agg us=>exact⟨us.toList,Q2,nT hz3 hzd⟩
    |_=>cases hag
   .rename_i hag;split at h
    .rename_i z1;simp only[Qq,QR]at h;obtain⟨rfl,rfl,rfl,rfl⟩:=h;obtain⟨z,hz1,_⟩:=fN (M:=λ_=>none) (ρ:=λ_=>none) hzc;refine⟨k,hb,hkey,rfl,z,hz1,λM=>?_⟩;obtain⟨z',hz2,hz3⟩:=fN (M:=M) (ρ:=λ_=>none) hzc;rw[hz1]at hz2 hag;simp only[Qq]at hz2;subst hz2;have hrd:=nT hz3 hzd;have hc:z.cells=#[z]:=by cases z <;> first|rfl|cases hag
     rw[hc]at hrd;exact⟨z1,rfl,hrd.2 0 _ _ rfl rfl⟩
    .cases h
  .cases h
 .cases h
theorem Jc{s:S}{k:Int->Int->Int->bj}(hr:R1 Is fr (Ar s k) fs fo o){v:Qw}(hs:SR M ρ s v):∃i:ar,v=jH i/\R1 Is fr (k i.aD i.seq i.index) fs fo o:=by
 unfold Ar at hr;split at hr
 .rename_i h3;obtain⟨x,y,z,hr,u1,u2,u3,rfl,r1,r2,r3⟩:=Gd hr h3 hs;obtain⟨a,e1,hr⟩:=hr;obtain⟨b,e2,hr⟩:=hr;obtain⟨c,e3,hr⟩:=hr;have e1:x=.v (.int .i64 a):=e1;have e2:y=.v (.int .i64 b):=e2;have e3:z=.v (.int .i64 c):=e3;subst e1 e2 e3;refine⟨⟨a,b,c⟩,?_,hr⟩;rw[r1.1,r2.1,r3.1];rfl
 .exact hr.elim
theorem ent_R1{t:QH}{ag:Bool}{vs:Nat}{s:S}{k:Nat->Nat->List D->bj}(hr:R1 Is fr (entP t ag vs s k) fs fo o):∃b m ds fo',s=.c (.m b)/\fr.ob b=some (.m t ag vs m ds)/\R1 Is fr (k b m ds) fs fo' o:=by
 unfold entP at hr;split at hr
 .rename_i b;change R1 Is fr (match fr.ob b with|some (.m t' ag' vs' n ds)=>_|_=>_) _ _ _ at hr;split at hr
  .rename_i t' ag' vs' m ds hob;split at hr
   .rename_i hb;simp only[QA]at hb;have e1:=Qp hb.1;have e2:ag=ag':=by grind
    have e3:=Qp hb.2.2
    grind
   .exact hr.elim
  .exact hr.elim
 .exact hr.elim
theorem entR_R1{t:QH}{ag:Bool}{vs:Nat}{s:S}{k:Nat->List D->bj}(hr:R1 Is fr (entR t ag vs s k) fs fo o):∃b m ds fo',s=.c (.m b)/\(fr.ob b=some (.m t ag vs m ds)\/fr.ob b=some (.ms t ag vs m ds))/\R1 Is fr (k m ds) fs fo' o:=by
 unfold entR at hr;split at hr
 .rename_i b;change R1 Is fr (match fr.ob b with|some (.m t' ag' vs' n ds)=>_|some (.ms t' ag' vs' n ds)=>_|_=>_) _ _ _ at hr;split at hr
  .rename_i t' ag' vs' m ds hob;split at hr
   .rename_i hb;simp only[QA]at hb;have e1:=Qp hb.1;have e2:ag=ag':=by grind
    have e3:=Qp hb.2.2
    grind
   .exact hr.elim
  .rename_i t' ag' vs' m ds hob;split at hr
   .rename_i hb;simp only[QA]at hb;have e1:=Qp hb.1;have e2:ag=ag':=by grind
    have e3:=Qp hb.2.2
    grind
   .exact hr.elim
  .exact hr.elim
 .exact hr.elim
theorem Ou{val:Nat->Option Qw}(h:Rel w0 Γ0 fr ρ M lst val w){b t m vs:Nat}{ag:Bool}{ds:List D}(hob:fr.ob b=some (.m t ag vs m ds)\/fr.ob b=some (.ms t ag vs m ds)) :
  ∃k es clock l,ρ b=some (.map (some k))/\w.heap[k]?=some (.map es clock)/\nN es clock/\es.toList.map (λe=>(e.key,e.val))=vw jH l/\MR M ag vs l ds/\l.length=m:=by
 rcases hob with hob|hob
 .obtain⟨k,l,g1,g2,g3,g4⟩:=h.ob b _ hob;obtain⟨_,es,clock,q1,q2,q3⟩:=h.st.all _ (List.mem_append_left _ (Rl g2));exact⟨k,es,clock,l,g1,q1,q3,q2,g3,g4⟩
 .obtain⟨k,g1,_,es,clock,l,q1,q2,q3,q4,q5⟩:=h.ob b _ hob;exact⟨k,es,clock,l,g1,h.st.mem _ _ q1,q2,q3,q4,q5⟩
theorem uP{w:QL}{t kt e b clock:Nat}{es:Array Su}{l:List (ar×Qw)}{k:ar}{z:Qw}(hK:ql P kt jH)(ht:GG P t kt e=true)(hz:jV P e=some z)(hb:w.heap[b]?=some (.map es clock))(hes:es.toList.map (λe=>(e.key,e.val))=vw jH l)(cm:Bool) :
  (Ub t (.map (some b)) (jH k) cm).run P w=.ok (if cm then .tuple #[(gu k l).getD z,.bool (gu k l).isSome] else(gu k l).getD z) w:=by
 obtain⟨r,h1,h2⟩:=DD hK k l es.toList w hes;have h3:=λb=>hK.check k b w;have h4:(getObj b).run P w=.ok (.map es clock) w:=Ux hb;rw[<-h2];cases r with
 |none=>cases cm <;> simp[Ub,QN (kh ht),h4,h3,h1,iZ hz]
 |some r=>cases cm <;> simp[Ub,QN (kh ht),h4,h3,h1]
theorem mval_R1(h:Rel w0 Γ0 fr ρ M lst (tv a) w){ag:Bool}{s:S}{k:Nat->List D->List (Nat×O)->bj}(hr:R1 Is fr (Oh ag s k) fs fo o) :
  ∃m ds os fo',R1 Is fr (k m ds os) fs fo' o/\fj fr os/\(∀M' v,Sub M M'->mM ρ M' os->SR M ρ s v->VR M' ag ds v/\ds.length=m)/\s≠su:=by
 unfold Oh at hr;split at hr
 .rename_i c;obtain⟨x,os,fo1,hr,hf,hd,hne⟩:=Cq h hr;exact⟨1,[x],os,fo1,hr,hf,λM' v hM hfa hs=>⟨⟨x,rfl,hd M' v hM hfa hs⟩,rfl⟩,by unfold su;simpa using hne⟩
 .rename_i m ds;refine⟨m,ds,[],fo,hr,fj.nil,λM' v hM _ hs=>?_,by unfold su;simp⟩;obtain⟨hl,us,rfl,hr2⟩:=hs;exact⟨⟨us,rfl,hr2.mono hM⟩,hl⟩
 .rename_i cs;obtain⟨ds,os,fo1,hr,hf,hd⟩:=Cp h cs hr;refine⟨cs.length,ds,os,fo1,hr,hf,λM' v hM hfa hs=>?_,by unfold su;simp⟩;obtain⟨us,rfl,hr2⟩:=hs;have hrd:=hd M' us hM hfa hr2;exact⟨⟨us,rfl,hrd⟩,by rw[<-hrd.1,dr.len hr2]⟩
 .exact hr.elim
variable (h1:a.tmps.size=n) (h2:a.defers=[]) (h:Rel w0 Γ0 fr ρ M lst (tv a) w)
theorem Gt(h1:a.tmps.size=n)(h2:a.defers=[])(h:Rel w0 Γ0 fr ρ M lst (tv a) w)(hd:d<n){t:Nat}(hr:R1 Is fr (xV P tb (fr.aQ+d) t) fs fo o):(⟨some d,.makeMap t none,ty,pos,af,g⟩:Oper).wp P a w (aX n w0 Γ0 ρ M ((fr.bl (some d) o.v).aJ o.ob)) Q:=by
 unfold xV at hr;split at hr
 .rename_i e ag vs zs hm;obtain⟨hn,fo',rfl⟩:=fv hr;have hst:=h.st.newMap;obtain⟨hE,hR⟩:=h.new (v:=.map (some w.heap.size)) (o:=.m t ag vs 0 []) hn (Rv _ _) hst ⟨w.heap.size,[],bT,Qt ..,rfl,rfl⟩;refine ba h1 h2 rfl hd rfl (Sub.refl M) hE hR (v:=.map (some w.heap.size)) ⟨w.heap.size,bT,rfl⟩ ?_;have:(Instr.makeMap t none).run P w=.ok (.map (some w.heap.size)) {w with heap:=w.heap.push (.map #[] 0)}:=rfl;simp[Rc,this]
 .exact hr.elim
theorem Em(h1:a.tmps.size=n)(h2:a.defers=[])(h:Rel w0 Γ0 fr ρ M lst (tv a) w)(hT:lS P tb)(hd:d<n){t:Nat}{x y:QM}{cm:Bool}{s sk:S}{fs2:List Nat}(hs:s=su\/∃v,eo a x v/\SR M ρ s v)(hsk:sk=su\/∃v,eo a y v/\SR M ρ sk v)(hr:R1 Is fr (v7 P tb t s sk cm) fs2 fo o) :
  (⟨some d,.lookup t x y cm,ty,pos,af,g⟩:Oper).wp P a w (aX n w0 Γ0 ρ M ((fr.bl (some d) o.v).aJ o.ob)) Q:=by
 unfold v7 at hr;split at hr
 .rename_i e ag vs zs hm;obtain⟨kt,hmb,hK,hzl,z,hz,hzr⟩:=ug hT hm;obtain⟨b,m,ds,fo',rfl,hob,hr⟩:=entR_R1 hr;obtain⟨v,hv,k,hk,rfl⟩:=bp hs (by unfold su;simp);have hne:sk≠su:=by
   rintro rfl;unfold Ar at hr;split at hr
   .exact hr.elim
   .exact hr.elim
  obtain⟨kv,hkv,hskv⟩:=bp hsk hne;obtain⟨i,rfl,hr⟩:=Jc hr hskv;obtain⟨k',es,clock,l,g1,g2,_,g2',g3,g4⟩:=Ou h hob;rw[hk]at g1;obtain rfl:k=k':=by grind
  subst g4;have hit:∀{xs:List D} {u:Qw},VR M ag xs u->SB M ρ (O6 ag xs.length xs) u:=fun{xs u} hv=>by
   cases ag with
   |true=>obtain⟨us,h3,h4⟩:=hv;exact⟨rfl,us,h3,h4⟩
   |false=>obtain⟨x,h3,h4⟩:=hv;subst h3;exact h4
  have fin:∀(xs:List D) (u:Qw) (ok:Bool),(gu i l).getD z=u->(gu i l).isSome=ok->VR M ag xs u->xs.length=vs->o=⟨some (luS cm (O6 ag vs xs) ok),[],fs2,fo'⟩->(⟨some d,.lookup t x y cm,ty,pos,af,g⟩:Oper).wp P a w (aX n w0 Γ0 ρ M ((fr.bl (some d) o.v).aJ o.ob)) Q:=λxs u ok e1 e2 hvr hxl ho=>by
   subst ho;subst hxl;cases cm with
   |true=>refine ba h1 h2 rfl hd rfl (Sub.refl M) (Ext.refl ρ) h (v:=.tuple [u,.bool ok].toArray) ⟨[u,.bool ok],rfl,hit hvr,⟨rfl,rfl⟩,trivial⟩ ?_;have:=uP (k:=i) hK hmb hz g2 g2' true;rw[e1,e2]at this;simp only[if_true]at this;simp[Rc,hv.eval,hkv.eval,this]
   |false=>refine ba h1 h2 rfl hd rfl (Sub.refl M) (Ext.refl ρ) h (v:=u) (by have:=hit hvr;cases ag <;> exact this) ?_;have:=uP (k:=i) hK hmb hz g2 g2' false;rw[e1]at this;simp only[Bool.false_eq_true,if_false]at this;simp[Rc,hv.eval,hkv.eval,this]
  rcases Ek (k:=i) g3 with⟨f1,f2⟩|⟨u,xs,f1,f2,f3,f4⟩
  .have hr:o=_:=hr;rw[f2]at hr;exact fin zs z false (by rw[f1];rfl) (by rw[f1];rfl) (hzr M) hzl hr
  .have hr:o=_:=hr;rw[f2]at hr;exact fin xs u true (by rw[f1];rfl) (by rw[f1];rfl) f4 f3 hr
 .exact hr.elim
theorem ve{z:Int}:∀(l:List (Int×Int)) (es:List Su) (i:Nat),(es.map λe=>(e.key,e.val))=(l.map λp=>(Sa .i64 p.1,Sa .i64 p.2)) ->
  ∃r,Uw (.int .i64) (.int .i64 z) es i=some r/\r.map (·.2)=(xY z l).map λv=>Sa .i64 v
 |[],[],i,_=>⟨none,rfl,rfl⟩
 |[],_::_,_,h=>by simp at h
 |_::_,[],_,h=>by simp at h
 |(p,q)::l,e::es,i,h=>by
  simp only[QT,SA,QR]at h;obtain⟨⟨hk,hv⟩,ht⟩:=h;unfold Uw xY;rw[hk];by_cases hz:z=p
  .subst hz;refine⟨some (i,e.val),by simp[WM],by simp[hv]⟩
  .obtain⟨r,h1,h2⟩:=ve (z:=z) l es (i+1) ht;refine⟨r,?_,?_⟩
   .have:(z == p)=false:=by grind
    simp[WM,this,h1]
   all_goals grind
theorem B9{z v:Int}:∀{l:List (Int×Int)},(l.map QZ).Nodup->(xY z l=some v↔(z,v)∈l)
 |[],_=>by simp[xY]
 |(a,b)::l,h=>by
  rw[QT,Rw]at h;unfold xY;by_cases hz:z=a
  .grind
  .rw[J6 hz];simp only[Qz,QR,hz,false_and,false_or];exact B9 h.2
theorem OB(z:Int){l l':List (Int×Int)}(h:l'.Perm l)(hn:(l.map QZ).Nodup):xY z l'=xY z l:=by have hn':(l'.map QZ).Nodup:=(h.map QZ).nodup_iff.2 hn;apply Option.ext;intro v;rw[B9 hn,B9 hn',h.mem_iff]
theorem DC{w:QL}{t b kt e:Nat}{l:List (Int×Int)}{z:Int}{es:Array Su}{c:Nat}(ht:P.underlying t=some (.map kt e))(hk:P.underlying kt=some (.int .i64))(hz:jV P e=some (.int .i64 0))(hb:w.heap[b]?=some (.map es c))
  (he:(es.toList.map λe=>(e.key,e.val))=l.map λp=>(Sa .i64 p.1,Sa .i64 p.2)) (cm:Bool) :
  (Ub t (.map (some b)) (.int .i64 z) cm).run P w=.ok (if cm then .tuple #[.int .i64 ((xY z l).getD 0),.bool (xY z l).isSome] else .int .i64 ((xY z l).getD 0)) w:=by
 obtain⟨r,h1,h2⟩:=ve (z:=z) l es.toList 0 he;have h3:∀b,(TT b 10000 kt (.int .i64 z)).run P w=.ok () w:=λb=>by show(TT b (9999+1) kt (.int .i64 z)).run P w=.ok () w;unfold TT;simp[QN hk]
 have h4:(getObj b).run P w=.ok (.map es c) w:=Ux hb;have h5:(S2 kt (.int .i64 z) es.toList).run P w=.ok r w:=by simp[S2,QN hk,h1]
 cases hl:xY z l with
 |none =>
  rw[hl]at h2;obtain rfl:r=none:=by simpa using h2
  cases cm <;> simp[Ub,QN ht,h4,h3,h5,iZ hz]
 |some v=>rw[hl]at h2;obtain⟨p,rfl,hp⟩:=R9.1 h2;cases cm <;> simp[Ub,QN ht,h4,h3,h5,hp]
theorem KZ(h1:a.tmps.size=n)(h2:a.defers=[])(h:Rel w0 Γ0 fr ρ M lst (tv a) w)(hT:lS P tb)(hd:d<n){t:Nat}{x y:QM}{cm:Bool}(hr:R1 Is fr (cK x λs=>cK y λk=>(match s with|.c (.k g)=>xW P tb t g k cm|s=>v7 P tb t s k cm)) fs fo o):(⟨some d,.lookup t x y cm,ty,pos,af,g⟩:Oper).wp P a w (aX n w0 Γ0 ρ M ((fr.bl (some d) o.v).aJ o.ob)) Q:=by
 obtain⟨s,fs1,hr,hs⟩:=bD h hr;obtain⟨sk,fs2,hr,hsk⟩:=bD h hr;split at hr
 .rename_i gv _;unfold xW at hr;split at hr
  .rename_i l hg hb;obtain⟨z,ez,hr⟩:=ee hr;obtain rfl:=aR hr;obtain⟨u,hu,⟨m,rfl⟩,hc⟩:=bp hs (by unfold su;simp);have hz:=dU hsk ez;obtain⟨m',es,c,l',e1,e2,e3,e4,e5⟩:=hT.gm gv l hg M h.gr;rw[hc]at e1;obtain rfl:m=m':=by grind
   unfold OP at hb;split at hb
   .rename_i kt e ht;simp only[QA]at hb;have hk:P.underlying kt=some (.int .i64):=by
     have:=hb.1;unfold OQ at this
     grind
    have hzz:jV P e=some (.int .i64 0):=by
     grind
    have hrun:=λcm=>DC (P:=P) (w:=w) (z:=z) ht hk hzz (h.st.mem _ _ e2) e3 cm;rw[OB z e4 e5]at hrun;refine ba h1 h2 rfl hd rfl (Sub.refl M) (Ext.refl ρ) h (v:=if cm then .tuple #[.int .i64 ((xY z l).getD 0),.bool (xY z l).isSome] else .int .i64 ((xY z l).getD 0)) ?_ ?_
    .cases cm with
     |true=>exact⟨[_,_],rfl,⟨rfl,rfl⟩,⟨rfl,rfl⟩,trivial⟩
     |false=>exact⟨rfl,rfl⟩
    .simp[Rc,hu.eval,hz.eval,hrun cm]
   .cases hb
  .exact hr.elim
 .exact Em h1 h2 h hT hd hs hsk hr
theorem BT(h1:a.tmps.size=n)(h2:a.defers=[])(h:Rel w0 Γ0 fr ρ M lst (tv a) w)(hT:lS P tb){t:Nat}{x y z:QM}(hr:R1 Is fr (cK x λs=>cK y λk=>cK z λv=>qP P tb t s k v) fs fo o):(⟨none,.mapUpdate t x y z,ty,pos,af,g⟩:Oper).wp P a w (aX n w0 Γ0 ρ M ((fr.bl none o.v).aJ o.ob)) Q:=by
 obtain⟨s,fs1,hr,hs⟩:=bD h hr;obtain⟨sk,fs2,hr,hsk⟩:=bD h hr;obtain⟨sv,fs3,hr,hsv⟩:=bD h hr;unfold qP at hr;split at hr
 .rename_i e ag vs zs hm;obtain⟨kt,hmb,hK,hzl,z0,hz,hzr⟩:=ug hT hm;obtain⟨b,m,ds,fo',rfl,hob,hr⟩:=ent_R1 hr;obtain⟨v,hv,k,hk,rfl⟩:=bp hs (by unfold su;simp);have hne:sk≠su:=by
   rintro rfl;unfold Ar at hr;split at hr
   .exact hr.elim
   .exact hr.elim
  obtain⟨kv,hkv,hskv⟩:=bp hsk hne;obtain⟨i,rfl,hr⟩:=Jc hr hskv;obtain⟨m',xs,os,fo2,hr,hf,hval,hne2⟩:=mval_R1 h hr;split at hr
  .rename_i hbb;simp only[QA,Bool.not_eq_true']at hbb;have em:=Qp hbb.1;subst em;have hany:=hbb.2;have hsu:sv≠su:=by rintro rfl;exact hne2 (by cases tb.hp <;> rfl)
   obtain⟨u,hu,hsvu⟩:=bp hsv hsu;have hr:o=⟨none,os++[(b,.m t ag m' (fH (3+m') i.aD i.seq i.index m ds) (cS (3+m') i.aD i.seq i.index xs m ds))],_,_⟩:=hr;subst hr;refine xI h (o:=⟨none,.mapUpdate t x y z,ty,pos,af,g⟩) rfl hf λM1 lst1 hM hfa hR=>?_;have hbne:∀p∈os,p.1≠b:=λp hp e=>by have:=Uq.1 hany p hp;simp_all
   have hob1:(fr.aJ os).ob b=some (.m t ag m' m ds):=by rw[iw os hbne];exact hob
   obtain⟨k',l,g1,g2,g3,g4⟩:=hR.ob b _ hob1;rw[hk]at g1;obtain rfl:k=k':=by grind
   subst g4;obtain⟨hvr,hxl⟩:=hval M1 u hM hfa (pz (dt hsvu));obtain⟨q1,q2⟩:=map_set (k:=i) hvr hxl g3;obtain⟨w',r1,r2⟩:=ze hK (v:=u) (k:=i) hmb (hR.st.fP (hR.mem g2));have hR':=hR.cQ (x':=.mp k (vw jH (pX i u l))) (o:=.m t ag m' (fH (3+m') i.aD i.seq i.index l.length ds) (cS (3+m') i.aD i.seq i.index xs l.length ds)) g2 r2 ⟨k,_,hk,Qt ..,q1,q2⟩;refine rU (fr:=fr.aJ os) (out:=⟨none,[(b,.m t ag m' (fH (3+m') i.aD i.seq i.index l.length ds) (cS (3+m') i.aD i.seq i.index xs l.length ds))],[],[]⟩) h1 h2 rfl (Sub.refl M1) (Ext.refl ρ) hR' ?_;simp[Rc,hv.eval,hkv.eval,hu.eval,r1]
  .exact hr.elim
 .exact hr.elim
end
section
variable {P:QE} {tb:Tb} {Is:Cx} {n:Nat} {w0:QL} {Γ0:List As} {fr:Fr} {ρ:Nat->Option Qw} {M:Mem} {lst:List (Nat×As)} {a:Act} {w:QL} {fs fo:List Nat} {o:Out} {Q:Exit->Act->QL->Prop} {ty:QH} {pos:String} {af:Array Edge} {g:Option (Nat×Bool)} {d:Nat}
theorem Rel.fixM{val:Nat->Option Qw}(h:Rel w0 Γ0 fr ρ M lst val w){b t m vs:Nat}{ag:Bool}{ds:List D}(hob:fr.ob b=some (.m t ag vs m ds)):∃M' lst',Sub M M'/\Rel w0 Γ0 (fr.set b (.ms t ag vs m ds)) ρ M' lst' val w:=by
 obtain⟨k,l,g1,g2,g3,g4⟩:=h.ob b _ hob;have hp:=h.st.fP (h.mem g2);obtain⟨hMk,es,clock,q1,q2,q3⟩:=hp.all _ (Qt ..);have hst:=hp.qB (b:=k) rfl q1;have hs:Sub M (M.put k (.map es clock)):=Mem.rO hMk;have hfix:Rel w0 Γ0 fr ρ (M.put k (.map es clock)) lst val w->True:=λ_=>trivial;refine⟨M.put k (.map es clock),(b,As.rds [] [])::lst.filter λp=>!Qy p.1 b,hs,⟨λt=>?_,λi x hi=>?_,λi v hi=>?_,λp hp=>?_,?_,?_,h.gr.mono hs⟩⟩
 .rcases h.sl t with h6|⟨v,h6,h7⟩
  .exact .inl h6
  .exact .inr ⟨v,h6,SR.mono hs (Ext.refl ρ) h7⟩
 .rw[cu]at hi;by_cases e:i=b
  .subst e;rw[J2 rfl]at hi;simp only[Qq]at hi;subst hi;exact⟨k,g1,Qt ..,es,clock,l,by simp[Mem.put],q3,q2,g3.mono hs,g4⟩
  .rw[J1 e]at hi;exact OR.mono hs (Ext.refl ρ) (λx hx=>Qx _ (ib hx e)) (h.ob i x hi)
 .rcases h.vP i v hi with h6|h6
  .exact .inl h6
  .right;rw[cu]
   grind
 .rcases Qz.1 hp with rfl|hp
  .grind
  .exact h.gg p (Rq.1 hp).1
 .rw[QT];refine Rw.2 ⟨λhm'=>?_,kl h.nd b⟩;simp_all
 .exact hst.add (x:=.rds [] []) (bz.nil _) rfl
theorem LD{es:Array Su}:lA es #[]=es.toList:=Tj.2 λx _=>by simp
theorem Rel.walk{val:Nat->Option Qw}(h:Rel w0 Γ0 fr ρ M lst val w){id b t m vs k:Nat}{ag:Bool}{ds:List D}(hob:fr.ob b=some (.ms t ag vs m ds))(hk:ρ b=some (.map (some k)))(hn:fr.ob id=none)(hb:fr.aQ<=id) :
  ∃es clock,w.heap[k]?=some (.map es clock)/\Ext ρ (MH ρ id (ptr w.heap.size))/\Rel w0 Γ0 (fr.set id (.it ag vs none m ds)) (MH ρ id (ptr w.heap.size)) M ((id,.raw w.heap.size (.mapIter (some k) clock #[] clock))::lst) val (w.alloc (.mapIter (some k) clock #[] clock)):=by
 obtain⟨k',g1,_,es,clock,l,q1,q2,q3,q4,q5⟩:=h.ob b _ hob;rw[hk]at g1;obtain rfl:k=k':=by grind
 have hst:=h.st.Gz (.mapIter (some k) clock #[] clock);refine⟨es,clock,h.st.mem _ _ q1,h.new (v:=ptr w.heap.size) hn hb hst ⟨w.heap.size,_,bT,Qt ..,k,es,clock,#[],clock,clock,l,rfl,q1,q2,⟨QW _,QW _⟩,q2.2,by rw[LD];exact q3,q4,q5,λkc hk=>by cases hk⟩⟩
theorem NO(h1:a.tmps.size=n)(h2:a.defers=[])(h:Rel w0 Γ0 fr ρ M lst (tv a) w)(hT:lS P tb)(hd:d<n){t:Nat}{x:QM}(hr:R1 Is fr (cK x λs=>Gb P tb (fr.aQ+d) t s) fs fo o):(⟨some d,.range t x,ty,pos,af,g⟩:Oper).wp P a w (aX n w0 Γ0 ρ M ((fr.bl (some d) o.v).aJ o.ob)) Q:=by
 obtain⟨s,fs2,hr,hs⟩:=bD h hr;unfold Gb at hr;split at hr
 .rename_i e ag vs zs b hm;obtain⟨kt,hmb,hK,hzl,z,hz,hzr⟩:=ug hT hm;obtain⟨v,hv,k,hk,rfl⟩:=bp hs (by unfold su;simp);change R1 Is fr (match fr.ob b with|some (.m t' ag' vs' n ds)=>_|some (.ms t' ag' vs' n ds)=>_|_=>_) _ _ _ at hr;split at hr
  .rename_i t' ag' vs' m ds hob;split at hr
   .rename_i hb;simp only[QA]at hb;have e1:=Qp hb.1;have e2:ag=ag':=by grind
    have e3:=Qp hb.2.2;subst e1 e2 e3;obtain⟨hn,fo',rfl⟩:=fv hr;obtain⟨M',lst',hs',hR⟩:=h.fixM hob;have hbne:b≠fr.aQ+d:=λe=>by grind
    have hn':(fr.set b (.ms t ag vs m ds)).ob (fr.aQ+d)=none:=by rw[cu,J1 (λe=>hbne e.symm)];exact hn
    obtain⟨es,clock,w1,w2,w3⟩:=hR.walk (id:=fr.aQ+d) (k:=k) (by rw[cu,J2 rfl]) hk hn' (Rv _ _);refine ba h1 h2 rfl hd rfl hs' w2 w3 (v:=ptr w.heap.size) ⟨w.heap.size,bT,rfl⟩ ?_;simp[Rc,hv.eval,run_range_map w t kt e k es clock (kh hmb) w1]
   .exact hr.elim
  .rename_i t' ag' vs' m ds hob;split at hr
   .rename_i hb;simp only[QA]at hb;have e1:=Qp hb.1;have e2:ag=ag':=by grind
    have e3:=Qp hb.2.2;subst e1 e2 e3;obtain⟨hn,fo',rfl⟩:=fv hr;obtain⟨es,clock,w1,w2,w3⟩:=h.walk (id:=fr.aQ+d) (k:=k) hob hk hn (Rv _ _);refine ba h1 h2 rfl hd rfl (Sub.refl M) w2 w3 (v:=ptr w.heap.size) ⟨w.heap.size,bT,rfl⟩ ?_;simp[Rc,hv.eval,run_range_map w t kt e k es clock (kh hmb) w1]
   .exact hr.elim
  .exact hr.elim
 .exact hr.elim
theorem NU(h1:a.tmps.size=n)(h2:a.defers=[])(h:Rel w0 Γ0 fr ρ M lst (tv a) w)(hd:d<n){x:QM}(hr:R1 Is fr (cK x λs=>Hf s) fs fo o):(⟨some d,.entry x,ty,pos,af,g⟩:Oper).wp P a w (aX n w0 Γ0 ρ M ((fr.bl (some d) o.v).aJ o.ob)) Q:=by
 obtain⟨s,fs2,hr,hs⟩:=bD h hr;unfold Hf at hr;split at hr
 .rename_i b;obtain⟨v,hv,k,hk,rfl⟩:=bp hs (by unfold su;simp);change R1 Is fr (match fr.ob b with|some (.it ag vs (some kc) _ _)=>_|_=>_) _ _ _ at hr;split at hr
  .rename_i ag vs kc m ds hob;obtain⟨k',ob,g1,g2,kb,es,clock,seen,c0,since,l,rfl,q2,q3,q4,q5,q6,q7,q8,q9⟩:=h.ob b _ hob;rw[hk]at g1;obtain rfl:k=k':=by grind
   obtain⟨rfl,e,i,xs,e2,e3,e4,rfl,e6,e7⟩:=q9 kc rfl;have hr:o=⟨some (.t [.a 3 [.v (.int .i64 i.aD),.v (.int .i64 i.seq),.v (.int .i64 i.index)],O6 ag vs xs]),[],_,_⟩:=hr;subst hr;have hraw:=(h.st.all _ (List.mem_append_left _ (Rl g2))).2;obtain⟨seen',rfl⟩:=e3;refine ba h1 h2 rfl hd rfl (Sub.refl M) (Ext.refl ρ) h (v:=.tuple #[e.key,e.val]) ⟨[e.key,e.val],rfl,?_,?_,trivial⟩ ?_
   .rw[e4];exact⟨rfl,_,rfl,bz.cons ⟨rfl,rfl⟩ (bz.cons ⟨rfl,rfl⟩ (bz.cons ⟨rfl,rfl⟩ (bz.nil _)))⟩
   .cases ag with
    |true=>obtain⟨us,h3,h4⟩:=e7;exact⟨e6,us,h3,h4⟩
    |false=>obtain⟨x,h3,h4⟩:=e7;subst h3;exact h4
   .have e0:fT (some ⟨k,0,none⟩) 0=⟨k,0,none⟩:=rfl;rw[e0]at hv;have:=run_entry_at (P:=P) w k kb since seen' es c0 e hraw (h.st.mem _ _ q2) e2 q3.1;simp[Rc,hv.eval,this]
  .exact hr.elim
 .exact hr.elim
theorem MR.get{ag:Bool}{vs:Nat}:∀{l:List (ar×Qw)} {ds:List D} {i:Nat} {p:ar×Qw},MR M ag vs l ds->l[i]?=some p->∃xs,el ds (3+vs) i=.v (.int .i64 p.1.aD)::.v (.int .i64 p.1.seq)::.v (.int .i64 p.1.index)::xs/\xs.length=vs/\VR M ag xs p.2
 |[],_,i,p,_,h=>by simp at h
 |(k,v)::l,_,0,p,⟨xs,rest,h1,h2,h3,h4⟩,h=>by
  simp only[Ru,Qq]at h;subst h h1 h2;refine⟨xs,?_,rfl,h3⟩;unfold el
  grind
 |(k,v)::l,_,i+1,p,⟨xs,rest,h1,h2,h3,h4⟩,h=>by subst h1 h2;obtain⟨ys,g1,g2,g3⟩:=MR.get (i:=i) h4 (by simpa using h);refine⟨ys,?_,g2,g3⟩;rw[<-g1];unfold el;rw[show(i+1)*(3+xs.length)=(i*(3+xs.length)+xs.length)+1+1+1 by grind];rw[RS,RS,RS,UE,W6 Q0];simp
theorem MR.del{ag:Bool}{vs:Nat}:∀{l:List (ar×Qw)} {ds:List D} {i:Nat},MR M ag vs l ds->i<l.length->MR M ag vs (l.eraseIdx i) (mF ds (3+vs) i)
 |[],_,i,_,h=>by simp at h
 |(k,v)::l,_,0,⟨xs,rest,h1,h2,h3,h4⟩,h=>by
  subst h1 h2;unfold mF
  grind
 |(k,v)::l,_,i+1,⟨xs,rest,h1,h2,h3,h4⟩,h=>by
  subst h1 h2;have ih:=MR.del (i:=i) h4 (by grind);refine⟨xs,_,?_,rfl,h3,ih⟩;unfold mF;rw[show(i+1)*(3+xs.length)=(xs.length+i*(3+xs.length))+1+1+1 by grind];rw[show(i+1+1)*(3+xs.length)=(xs.length+(i+1)*(3+xs.length))+1+1+1 by grind];rw[RS,RS,RS,RK,RK,RK,UE,T4,W6 (show xs.length<=xs.length+_ by omega),Rj (show xs.length<=xs.length+_ by omega)]
  grind
theorem GF{α β:Type}(f:α->β):∀(l:List α) (i:Nat),(l.eraseIdx i).map f=(l.map f).eraseIdx i
 |[],_=>rfl
 |_::_,0=>rfl
 |x::l,i+1=>by simp[GF f l i]
theorem GN{es:Array Su}{seen:Array Nat}{e:Su}(hn:(es.toList.map (·.born)).Nodup){i:Nat}(hi:(lA es seen)[i]?=some e):lA es (seen.push e.born)=(lA es seen).eraseIdx i:=by
 have h1:lA es (seen.push e.born)=(lA es seen).filter λx=>!(x.born == e.born):=by
  unfold lA;rw[List.filter_filter]
  grind
 have h2:((lA es seen).map (·.born)).Nodup:=((Ua (l:=es.toList)).map _).nodup hn;rw[h1];generalize lA es seen=l at hi h2 ⊢;induction l generalizing i with
 |nil=>simp at hi
 |cons y l ih =>
  rw[QT,Rw]at h2;cases i with
  |zero =>
   simp only[Ru,Qq]at hi;subst hi;rw[List.filter_cons_of_neg Q2,List.eraseIdx_cons_zero];exact Tj.2 λx hx=>by
    grind
  |succ i =>
   have hi':l[i]?=some e:=by grind
   have hne:y.born≠e.born:=λe2=>h2.1 (by grind);rw[List.filter_cons_of_pos (by grind),List.eraseIdx_cons_succ,ih hi' h2.2]
theorem aX.iM{ρ0:Nat->Option Qw}{M0:Mem}(h:aX n w0 Γ0 ρ0 M0 fr a w)(k:Nat):aX n w0 Γ0 ρ0 M0 fr a {w with drawn:=k}:=by obtain⟨h1,h2,ρ,M,lst,h3,h4,h5⟩:=h;exact⟨h1,h2,ρ,M,lst,h3,h4,h5.sl,h5.ob,h5.vP,h5.gg,h5.nd,h5.st.iM k,h5.gr⟩
theorem aX.ou{ρ0:Nat->Option Qw}{M0:Mem}(h:aX n w0 Γ0 ρ0 M0 fr a w):aX n w0 Γ0 ρ0 M0 fr.ou a w:=by obtain⟨h1,h2,ρ,M,lst,h3,h4,h5⟩:=h;exact⟨h1,h2,ρ,M,lst,h3,h4,h5.sl,h5.ob,λb v hv=>(h5.vP b v hv).imp (λh=>XZ h (Rv _ _)) id,h5.gg,h5.nd,h5.st,h5.gr⟩
theorem next_ok{ρ0:Nat->Option Qw}{M0:Mem}{ops:Array Oper}{id t e:Nat}{iM:Bool}{K:Fr->Prop}(hd:aX n w0 Γ0 ρ0 M0 fr a w)(hb:Ah tb n iM ops.toList=some (d,t,e))(h:Ea fr d t e λfr=>K fr.ou)
  (hQ:∀fr',K fr'->∀a w,aX n w0 Γ0 ρ0 M0 fr' a w->Q .normal a w):(Code.region id ops iM).wp P Q a w:=by
 unfold Ah at hb;split at hb
 .rename_i d1 t1 ty1 pos1 af1 e1 d1' ty2 pos2 af2 _ hops;split at hb
  .rename_i hbb;simp only[QA]at hbb;simp only[Qq,QR]at hb;obtain⟨rfl,rfl,rfl⟩:=hb;have hdd:=Qp hbb.1;subst hdd;have hd1:d1<n:=Sk hbb.2.1;have he1:e1<n:=Sk hbb.2.2;obtain⟨h1,h2,ρ,M,lst,hM,hE,hR⟩:=hd;refine wp_region_list ?_;rw[hops];unfold Ea at h;split at h
   .rename_i b hsl;split at h
    .rename_i ag vs cur m ds hob;obtain⟨v,hv,hsv⟩:=bp (x:=.tmp t1) (hR.sl t1) (by rw[hsl];unfold su;simp);rw[hsl]at hsv;obtain⟨k,hk,rfl⟩:=hsv;have e0:fT (some ⟨k,0,none⟩) 0=⟨k,0,none⟩:=rfl;rw[e0]at hv;obtain⟨k',ob,g1,g2,kb,es,clock,seen,c0,since,l,rfl,q2,q3,q4,q5,q6,q7,q8,q9⟩:=hR.ob b _ hob;rw[hk]at g1;obtain rfl:k=k':=by grind
     have hraw:=(hR.st.all _ (List.mem_append_left _ (Rl g2))).2;have hlen:(lA es seen).length=m:=by rw[<-q8,<-List.length_map,q6];simp
     have hsz:(leftOf es seen).toList=lA es seen:=by unfold leftOf lA;simp
     have snd:∀(x:Bool) (vs':List Qw) (a':Act) (w':QL) (fr':Fr),aX n w0 Γ0 ρ0 M0 fr' a' w'->a'.tmps[d1]?=some (.tuple (.bool x::vs').toArray)->K (fr'.put e1 (vb x)).ou->wpList P ops Q [⟨some e1,.extract (.tmp d1) 0,ty2,pos2,af2,none⟩] a' w':=by
      intro x vs' a' w' fr' hD ht hK;obtain⟨h1',h2',ρ',M',lst',hM',hE',hR'⟩:=hD;unfold wpList;rw[J2 (by simp[Sg])];refine .inl ?_;have hev:(a'.eval (.tmp d1))=.tuple (.bool x::vs').toArray:=by simp[Act.eval,ht]
      have hrun:(Rc a'.eval ⟨some e1,.extract (.tmp d1) 0,ty2,pos2,af2,none⟩).run P w'=.ok (.value (.bool x)) w':=by simp[Rc,hev,Instr.extract]
      unfold UH;rw[hrun,T7];unfold wpList;exact hQ _ hK _ _ (aX.ou (aX.put h1' h2' hM' hE' hR' he1 (s:=vb x) (v:=.bool x) ⟨rfl,rfl⟩))
     unfold wpList;rw[J2 (by simp[Sg])];refine .inl ?_;unfold UH;have hev:a.eval (.tmp t1)=.pointer (some ⟨k,0,none⟩):=eo.eval hv;have hat:∀v:Qw,(a.put (some d1) v).tmps[d1]?=some v:=λv=>by simp[Act.put,h1,hd1]
     rcases run_next_at (P:=P) w ty1 k kb since c0 seen es clock hraw (hR.st.mem _ _ q2) q5 q4.1 with⟨n0,hrun⟩|⟨e,he,w1,hw1,hrun⟩
     .have m0:m=0:=by rw[<-hlen,<-hsz];simpa using n0
      have hrun':(Rc a.eval ⟨some d1,.next (.tmp t1) false,ty1,pos1,af1,none⟩).run P w=.ok (.value (.tuple #[.bool false])) w:=by simp[Rc,hev,hrun]
      rw[hrun',T7];exact snd false [] _ _ _ (aX.put h1 h2 hM hE hR hd1 (s:=.t [vb false]) (v:=.tuple #[.bool false]) ⟨[.bool false],rfl,⟨rfl,rfl⟩,trivial⟩) (hat _) (h.1 m0)
     .rw[hsz]at he;obtain⟨i,hi⟩:=List.getElem?_of_mem he;have hil:i<(lA es seen).length:=(List.getElem?_eq_some_iff.1 hi).1;have hrun':(Rc a.eval ⟨some d1,.next (.tmp t1) false,ty1,pos1,af1,none⟩).run P w=.ok (.value (.tuple #[.bool true,e.key,e.val])) (setBlock w1 k (.mapIter (some kb) since (seen.push e.born) clock)):=by simp[Rc,hev,hrun]
      rw[hrun',T7];have hst1:St w0 M (lst.map Ra++Γ0) w1:=by
       rcases hw1 with rfl|rfl
       .exact hR.st
       .exact hR.st.iM _
      have hli:∃p,l[i]?=some p/\e.key=jH p.1/\e.val=p.2:=by
       have:=J4 (λx=>x[i]?) q6
       grind
      obtain⟨p,hp,hkey,hval⟩:=hli;obtain⟨xs,x1,x2,x3⟩:=q7.get hp;have hR':=hR.cQ (o:=.it ag vs (some (el ds (3+vs) i)) (m-1) (mF ds (3+vs) i)) g2 ((hst1.fP (hR.mem g2)).setRaw (o':=.mapIter (some kb) since (seen.push e.born) clock))
       ⟨k,_,hk,Qt ..,kb,es,clock,_,clock,since,l.eraseIdx i,rfl,q2,q3,⟨q4.2,q4.2⟩,q5,(by rw[GN q3.1 hi,vw,GF,GF,q6]),q7.del Q0,(by grind),λkc hkc=>by
        simp only[Qq]at hkc;subst hkc
        exact⟨rfl,e,p.1,xs,(Rq.1 he).1,⟨seen,rfl⟩,hkey,x1,x2,by grind⟩⟩
      exact snd true [e.key,e.val] _ _ _ (aX.put h1 h2 hM hE hR' hd1 (s:=.t [vb true,su,su]) (v:=.tuple #[.bool true,e.key,e.val]) ⟨[.bool true,e.key,e.val],rfl,⟨rfl,rfl⟩,trivial,trivial,trivial⟩) (hat _) (h.2 i Q0)
    .exact h.elim
   .exact h.elim
  .cases hb
 .cases hb
end
section
variable {P:QE} {tb:Tb} {n:Nat} {w0:QL} {Γ0:List As} {fr:Fr} {ρ:Nat->Option Qw} {M:Mem} {lst:List (Nat×As)} {a:Act} {w:QL} {fs fo:List Nat} {out:Out} {Q:Exit->Act->QL->Prop}
theorem yV.gF:∀{xs:List QM} {ss:List S},yV a M ρ xs ss->cz M ρ ss (xs.map a.eval)
 |[],[],_=>trivial
 |_::_,_::_,h=>⟨pL h.1,yV.gF h.2⟩
 |[],_::_,h=>h.elim
 |_::_,[],h=>h.elim
theorem cz.app:∀{xs ys:List S} {vs us:List Qw},cz M ρ xs vs->cz M ρ ys us->cz M ρ (xs++ys) (vs++us)
 |[],_,[],_,_,k=>k
 |_::_,_,_::_,_,h,k=>⟨h.1,cz.app h.2 k⟩
 |[],_,_::_,_,h,_=>h.elim
 |_::_,_,[],_,h,_=>h.elim
theorem zr.gF:∀{cs:List C} {us:List Qw},zr M ρ cs us->cz M ρ (cs.map S.c) us
 |[],[],_=>trivial
 |_::_,_::_,h=>⟨h.1.toCR,zr.gF h.2⟩
 |[],_::_,h=>h.elim
 |_::_,[],h=>h.elim
theorem L8{o:Oper}{f:FuncId}{x:QM}{us:List Qw}{args:Array QM}{ts:Array QH}(ho:o.op=.call ⟨.value x,args,ts⟩)(hf:oP P f=true)(hx:a.eval x=.func (.func f) #[] us.toArray) :
  (Rc a.eval o).run P w=.ok (.enter f (args.toList.map a.eval++us).toArray) w:=by
 have h1:args.map a.eval=(args.toList.map a.eval).toArray:=by rw[<-XW,RJ]
 simp only[Rc,ho,resolve,h1,hx,Deferred.ofValue];simp[invoke,zQ hf]
theorem ok_call(h1:a.tmps.size=n)(h2:a.defers=[])(h:Rel w0 Γ0 fr ρ M lst (tv a) w){o:Oper}{d:Nat}(hdst:o.dst=some d)(hd:d<n){c:Call}{x:QM}(ho:o.op=.call c)(hc:c.callee=.value x)(hr:R1 (la P) fr (cK x λs=>(match s with
    |.c (.f g cs)=>L9 c.args.toList λxs=>JF P tb (fr.aQ+d) g (xs++cs.map S.c)
    |_=>.no)) fs fo out):o.wp P a w (aX n w0 Γ0 ρ M ((fr.bl o.dst out.v).aJ out.ob)) Q:=by
 obtain⟨s,fs1,hr,hs⟩:=bD h hr;split at hr
 .rename_i g cs;obtain⟨v,hv,us,rfl,hus⟩:=bp hs (by unfold su;simp);obtain⟨ss,fs2,hr,hss⟩:=He h _ hr;have hvals:=(yV.gF hss).app (zr.gF hus);obtain⟨hfB,hcall⟩:=call_ok h (Rv _ _) hvals hr;obtain⟨callee,args,ts⟩:=c;simp only at hc;subst hc;unfold UH;rw[L8 ho hfB hv.eval,Oper.upon_enter];refine hcall.mono ?_;rintro e w' ⟨v,s,ρ',M',lst',rfl,hs,hM,hE,hsv,hR⟩;show aX n w0 Γ0 ρ M _ (a.put o.dst v) w';rw[hdst,hs];show aX n w0 Γ0 ρ M ((fr.put d s).aJ out.ob) _ _;rw[ky];exact aX.put h1 h2 hM hE hR hd hsv
 .exact hr.elim
theorem op_ok(hT:lS P tb)(h1:a.tmps.size=n)(h2:a.defers=[])(h:Rel w0 Γ0 fr ρ M lst (tv a) w)(o:Oper)(hr:R1 (la P) fr (opP P tb fr.aQ o) fs fo out)(hfit:Cg n o.dst out.v=true):o.wp P a w (aX n w0 Γ0 ρ M ((fr.bl o.dst out.v).aJ out.ob)) Q:=by
 obtain⟨dst,op,ty,pos,af,g⟩:=o;unfold opP at hr;cases dst with
 |none =>
  simp only at hr;split at hr
  .exact NL h1 h2 h hr
  .exact BT h1 h2 h hT hr
  .rename_i c;split at hr
   .rename_i hc;split at hr
    .rename_i x t hx ht;split at hr
     .obtain⟨callee,args,ts⟩:=c;simp only at hc hx ht;subst hc;have e1:args=#[x]:=by rw[<-RJ (xs:=args),hx]
      have e2:ts=#[t]:=by rw[<-RJ (xs:=ts),ht]
      subst e1 e2;exact NV h1 h2 h hr
     .exact hr.elim
    .exact hr.elim
   .exact hr.elim
  .exact hr.elim
 |some d =>
  have hd:d<n:=by
   cases hv:out.v with
   |none=>rw[hv]at hfit;cases hfit
   |some v=>rw[hv]at hfit;exact Sk hfit
  simp only at hr;split at hr
  .split at hr
   .exact ok_trim h1 h2 h hd hr
   .exact ok_move h1 h2 h hd hr
  .exact Ld h1 h2 h hd hr
  .exact ok_pick h1 h2 h hd hr
  .split at hr
   .split at hr
    .exact NR hT h1 h2 h hd hr
    .exact IQ hT h1 h2 h hd hr
   .exact ok_load h1 h2 h hd hr
  .exact NT h1 h2 h hd hr
  .exact Lb h1 h2 h hd hr
  .split at hr
   .exact NS hT h1 h2 h hd hr
   .exact NP h1 h2 h hd hr
  .exact NY h1 h2 h hd hr
  .exact ok_box h1 h2 h hd hr
  .exact NW h1 h2 h hd hr
  .split at hr
   .exact D2 h1 h2 h hd hr
   .exact zg h1 h2 h hd hr
  .split at hr
   .exact NN h1 h2 h hd hr
   .exact ok_binH h1 h2 h hd hT hr
  .exact ok_conv h1 h2 h hd hr
  .split at hr
   .exact La h1 h2 h hd hr
   .exact K0 h1 h2 h hd hr
  .exact ok_un h1 h2 h hd hr
  .exact Gu h1 h2 h hd hr
  .exact D1 h1 h2 h hd hr
  .rename_i mx;split at hr
   .rename_i hcs;simp only[QA]at hcs;cases mx with
    |none=>exact KX h1 h2 h hd hr
    |some _=>cases hcs.2
   .split at hr
    .exact NQ hT h1 h2 h hd hr
    .exact KY h1 h2 h hd hr
    .exact NM h1 h2 h hd hr
  .exact Gt h1 h2 h hd hr
  .exact KZ h1 h2 h hT hd hr
  .split at hr
   .exact NO h1 h2 h hT hd hr
   .exact hr.elim
  .exact NU h1 h2 h hd hr
  .exact ok_make h1 h2 h hd hr
  .split at hr
   .rename_i hf;exact ok_fun h1 h2 h hd hf hr
   .exact hr.elim
  .rename_i c;split at hr
   .rename_i x hc;exact ok_call h1 h2 h rfl hd rfl hc hr
   .rename_i hc;split at hr
    .rename_i x t hx ht;obtain⟨callee,args,ts⟩:=c;simp only at hc hx ht;subst hc;have e1:args=#[x]:=by rw[<-RJ (xs:=args),hx]
     have e2:ts=#[t]:=by rw[<-RJ (xs:=ts),ht]
     subst e1 e2;exact ok_len h1 h2 h hd hr
    .exact hr.elim
   .rename_i hc;split at hr
    .rename_i x y t t' hx ht;split at hr
     .rename_i htt;have:=Qp htt;subst this;obtain⟨callee,args,ts⟩:=c;simp only at hc hx ht;subst hc;have e1:args=#[x,y]:=by rw[<-RJ (xs:=args),hx]
      have e2:ts=#[t,t]:=by rw[<-RJ (xs:=ts),ht]
      subst e1 e2;split at hr
      .exact Gv h1 h2 h hd hr
      .exact Le h1 h2 h hd hr
     .exact hr.elim
    .exact hr.elim
   .rename_i hc;split at hr
    .rename_i x y hx;obtain⟨callee,args,ts⟩:=c;simp only at hc hx;subst hc;have e1:args=#[x,y]:=by rw[<-RJ (xs:=args),hx]
     subst e1;exact ok_min h1 h2 h hd hr
    .exact hr.elim
   .rename_i hc;split at hr
    .rename_i x y hx;obtain⟨callee,args,ts⟩:=c;simp only at hc hx;subst hc;have e1:args=#[x,y]:=by rw[<-RJ (xs:=args),hx]
     subst e1;exact ok_max h1 h2 h hd hr
    .exact hr.elim
   .exact hr.elim
  .exact hr.elim
theorem dX{J:Cx}{h:Option S->List (Nat×O)->bj}:∀{p:bj} {fs fo:List Nat} {out:Out},R1 J fr (p.bind h) fs fo out->∃o1,R1 J fr p fs fo o1/\R1 J fr (h o1.v o1.ob) o1.fs o1.fo out
 |.no,_,_,_,hr=>hr.elim
 |.ret v ob,fs,fo,_,hr=>⟨⟨v,ob,fs,fo⟩,rfl,hr⟩
 |.Kz t k,_,_,_,hr=>dX (p:=k (fr.sl t)) hr
 |.lU b k,_,_,_,hr=>dX (p:=k (fr.ob b)) hr
 |.KA b k,_,_,_,hr=>dX (p:=k (bI (fr.ob b))) hr
 |.i _ k,_,_,_,⟨z,h1,h2⟩=>let⟨o,h3,h4⟩:=dX (p:=k z) h2;⟨o,⟨z,h1,h3⟩,h4⟩
 |.bo _ k,_,_,_,⟨z,h1,h2⟩=>let⟨o,h3,h4⟩:=dX (p:=k z) h2;⟨o,⟨z,h1,h3⟩,h4⟩
 |.st _ k,_,_,_,⟨z,h1,h2⟩=>let⟨o,h3,h4⟩:=dX (p:=k z) h2;⟨o,⟨z,h1,h3⟩,h4⟩
 |.ik _ _ k,_,_,_,⟨z,h1,h2⟩=>let⟨o,h3,h4⟩:=dX (p:=k z) h2;⟨o,⟨z,h1,h3⟩,h4⟩
 |.FJ _ _ k,_,_,_,⟨z,h1,h2⟩=>let⟨o,h3,h4⟩:=dX (p:=k z) h2;⟨o,⟨z,h1,h3⟩,h4⟩
 |.sc _ _ k,_,_,_,⟨n,cs,h1,h2⟩=>let⟨o,h3,h4⟩:=dX (p:=k n cs) h2;⟨o,⟨n,cs,h1,h3⟩,h4⟩
 |.we _ p _,_,_,_,.inl ⟨h1,h2⟩=>let⟨o,h3,h4⟩:=dX (p:=p) h2;⟨o,.inl ⟨h1,h3⟩,h4⟩
 |.we _ _ q,_,_,_,.inr ⟨h1,h2⟩=>let⟨o,h3,h4⟩:=dX (p:=q) h2;⟨o,.inr ⟨h1,h3⟩,h4⟩
 |.ck _ _ k,_,_,_,⟨h1,h2⟩=>let⟨o,h3,h4⟩:=dX (p:=k) h2;⟨o,⟨h1,h3⟩,h4⟩
 |.ca _ _ k,_,_,_,⟨r,h1,h2⟩=>let⟨o,h3,h4⟩:=dX (p:=k r) h2;⟨o,⟨r,h1,h3⟩,h4⟩
 |.inl _ _ _ _ k,_,_,_,⟨v,os,h1,h2⟩=>let⟨o,h3,h4⟩:=dX (p:=k v os) h2;⟨o,⟨v,os,h1,h3⟩,h4⟩
theorem H2{J:Cx}{gs:List Nat}{o:Oper}{p:bj}(hr:R1 J fr (zF gs o p) fs fo out):R1 J fr p fs fo out:=by
 unfold zF at hr;split at hr
 .split at hr
  .obtain⟨o1,h1,h2⟩:=dX hr;obtain⟨v,ob,fs1,fo1⟩:=o1;unfold tellP at h2;split at h2
   .obtain⟨z,e,h2⟩:=h2;rcases h2 with⟨rfl,h2⟩|⟨rfl,h2⟩
    .have h2:out=⟨some (.c (.d (.v (.bool true)))),ob,fs1,fo1⟩:=h2;rename_i x hv _;have hv:v=some (.c (.d x)):=hv;rw[h2,<-e,<-hv];exact h1
    .have h2:out=⟨some (.c (.d (.v (.bool false)))),ob,fs1,fo1⟩:=h2;rename_i x hv _;have hv:v=some (.c (.d x)):=hv;rw[h2,<-e,<-hv];exact h1
   .have h2:out=⟨v,ob,fs1,fo1⟩:=h2;rw[h2];exact h1
  .exact hr
 .exact hr
theorem aX.mono{M0:Mem}{ρ0:Nat->Option Qw}(hM:Sub M0 M)(hE:Ext ρ0 ρ){fr':Fr}{a':Act}{w':QL}(h:aX n w0 Γ0 ρ M fr' a' w'):aX n w0 Γ0 ρ0 M0 fr' a' w':=by obtain⟨h1,h2,ρ',M',lst',h3,h4,h5⟩:=h;exact⟨h1,h2,ρ',M',lst',hM.trans h3,hE.trans h4,h5⟩
theorem NK(hT:lS P tb){M0:Mem}{ρ0:Nat->Option Qw}(hD:aX n w0 Γ0 ρ0 M0 fr a w){ops:Array Oper}{gs:List Nat}{o:Oper}(hr:R1 (la P) fr (nI P tb fr.aQ ops gs o) fs fo out)(hfit:Cg n o.dst out.v=true) :
  if Sg o (yielded ops a.tmps) then o.wp P a w (aX n w0 Γ0 ρ0 M0 ((fr.bl o.dst out.v).aJ out.ob)) Q else aX n w0 Γ0 ρ0 M0 ((fr.bl o.dst out.v).aJ out.ob) (a.put o.dst undef) w:=by
 obtain⟨h1,h2,ρ,M,lst,hM,hE,h⟩:=hD;have run:∀{fs:List Nat},R1 (la P) fr (zF gs o (opH P tb fr.aQ o)) fs fo out->o.wp P a w (aX n w0 Γ0 ρ0 M0 ((fr.bl o.dst out.v).aJ out.ob)) Q:=λhr=>by
  have hr:=H2 hr;unfold opH at hr;split at hr
  .obtain⟨o1,hr1,hr2⟩:=dX hr;have hr2:out=⟨_,o1.ob,o1.fs,o1.fo⟩:=hr2;subst hr2;have hfit1:Cg n o.dst o1.v=true:=by cases hd:o.dst <;> cases hv:o1.v <;> (rw[hd,hv]at hfit;exact hfit)
   refine VK (λa' w' hd=>?_) (op_ok hT h1 h2 h o hr1 hfit1);have hd:=aX.mono hM hE hd;obtain⟨v1,ob1,fs1,fo1⟩:=o1;cases v1 with
   |none=>exact hd
   |some s=>exact aX.norm (P:=P) (t:=o.type) (v:=some s) hd
  .exact VK (λ_ _ hd=>aX.mono hM hE hd) (op_ok hT h1 h2 h o hr hfit)
 have skip:∀{fs:List Nat},R1 (la P) fr (.ret (match o.dst with
    |some _=>some (.c .z)
    |none=>none) []) fs fo out->aX n w0 Γ0 ρ0 M0 ((fr.bl o.dst out.v).aJ out.ob) (a.put o.dst undef) w:=fun{fs} hr=>by
  have hr:out=⟨_,_,fs,fo⟩:=hr;subst hr;cases hd:o.dst with
  |none=>exact⟨h1,h2,ρ,M,lst,hM,hE,h⟩
  |some d =>
   rw[hd]at hfit;have hdn:d<n:=by simpa[Cg,Nat.blt_eq]using hfit
   exact aX.put h1 h2 hM hE h hdn (s:=.c .z) rfl
 unfold nI at hr;split at hr
 .rename_i hg;have hw:Sg o (yielded ops a.tmps)=true:=by unfold Sg;rw[hg]
  rw[J2 hw];exact run hr
 .rename_i j want hg;have hw:Sg o (yielded ops a.tmps)=(yielded ops a.tmps j == some want):=by unfold Sg;rw[hg]
  split at hr
  .exact hr.elim
  .rename_i t ht;change R1 (la P) fr (match fr.sl t with|.c .z=>_|s=>_) _ _ _ at hr;rcases h.sl t with hsu|⟨v,hv,hs⟩
   .rw[hsu]at hr;exact hr.elim
   .split at hr
    .rename_i hz;rw[hz]at hs;obtain rfl:v=undef:=hs;have:yielded ops a.tmps j=none:=by unfold yielded;rw[ht];simp only[TV,show a.tmps[t]?=some undef from hv];rfl
     rw[this]at hw;have hw:Sg o (yielded ops a.tmps)=false:=hw;rw[J1 (by rw[hw];simp)];exact skip hr
    .obtain⟨z,e,hr⟩:=uA hr;rw[e]at hs;have hs:Rd M (.v (.bool z)) v:=hs;simp only[Rd]at hs;obtain rfl:=hs.1;have:yielded ops a.tmps j=some z:=by unfold yielded;rw[ht];simp only[TV,show a.tmps[t]?=some (.bool z) from hv]
     rw[this]at hw;rcases hr with⟨hzw,hr⟩|⟨hzw,hr⟩
     .have hw:Sg o (yielded ops a.tmps)=true:=by rw[hw];simpa using hzw
      rw[J2 hw];exact run hr
     .have hw:Sg o (yielded ops a.tmps)=false:=by rw[hw];simpa using hzw
      rw[J1 (by rw[hw];simp)];exact skip hr
end
end Pm
