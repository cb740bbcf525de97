/- Wgn10, Wgn11, Wgn12, Zru, Zrq, Zrt, Zrv, Zrs, Ev25, Ev26, Ev27, Ev28, Ev30, Ev31, Ev32, Ev33, Wp1, Wo1, Wq1, Wq2, Wp2, Wq3, Wq4, Wx9, Wo2, Wo3, Wo4, Wo5, Wo6, Wo7, WoS, Wx4, Wx5, Wx1, put together. -/
import Derived.Test.YtmbboaapillefaaGreatDoorPb3
import Derived.KernelRfl
import Derived.Shelf.SlSortCmp.NoneTotal
import Derived.Shelf.SlicesG.Cmp
import Derived.StillTailTactics
import Derived.Shelf.SlSortCmp.QuietGrown
import Derived.StillTail
import Derived.Shelf.SlicesE.Clone
open Array renaming append_assoc->YF
open Bool renaming true_eq_false->YO,not_true->SJ,not_false->Tq,and_eq_true->RP
open ByteArray renaming mk->Se
open Go renaming World->R0,Calls->UU,rounds_succ->Ux,Value->RK,wp_region_still_tail->Zg,Program->RV,ready_mono->ZA,wpQuiet->ZQ,getD_replicate_false->Zi,GrownBy->ZR,cell_grown->Yl
open Go.Calls renaming grown_of->Zj
open Go.Code renaming region->Z0
open Go.IntKind renaming bits->Uo,wrap->SD
open Go.Lib renaming compareInt->RR
open Go.Proofs.AnyG renaming cmp_Compare_int->TU
open Go.Proofs.SlBodyN renaming n41_ntmps->ZS
open Go.Proofs.SlLaysC2 renaming n5->Yk
open Go.Proofs.SlLaysE0 renaming n41->UL
open Go.Proofs.SlLaysF0 renaming n6->UQ
open Go.Proofs.Tryz renaming prog->RH,func157->WJ,func209->WK,func210->WL,func239->WM,func240->WN,underlying0->VJ,isAgg0->WU,sizeOf0->WO,zeroValue0->VS,underlying3->Ta,isAgg3->Uf,sizeOf3->T0,zeroValue3->TT,underlying4->Tc,isAgg4->TH,sizeOf4->Tv,zeroValue4->Tj,underlying5->VK,isAgg5->WV,sizeOf5->WQ,zeroValue5->VT,underlying9->VL,isAgg9->WW,sizeOf9->U5,zeroValue9->VU,underlying207->Vi,isAgg207->Wt,sizeOf207->Wf,zeroValue207->Vv,underlying248->Vj,isAgg248->Wu,sizeOf248->Wg,zeroValue248->Vw,underlying249->Vk,isAgg249->Wv,sizeOf249->Wh,zeroValue249->Vx,underlying253->Vl,isAgg253->Ww,sizeOf253->Wi,zeroValue253->Vy,underlying256->Vm,isAgg256->Wx,sizeOf256->Wj,zeroValue256->Vz,underlying258->Vn,isAgg258->Wy,sizeOf258->Wl,zeroValue258->VA,underlying279->Vo,isAgg279->Wz,sizeOf279->Wm,zeroValue279->VB,underlying283->Vp,isAgg283->WA,sizeOf283->Wn,zeroValue283->VC,underlying293->Vq,isAgg293->WB,sizeOf293->Wo,zeroValue293->VD,underlying183->Vr,isAgg183->WC,sizeOf183->Wp,zeroValue183->VE,func54->X0,ntmps54->XS
open Go.Region renaming Mode->Zz,ready->Up,sinkB->Zq,chainB->Zh,binds->Ud,lexHead->XG,lexTailB->Xx
open Go.Shelf renaming Ren->UN
open Go.Sort renaming grow->Za
open Go.World renaming cell?->SU
open Iff renaming rfl->Ul
open Int renaming toNat->RF,mul_nonneg->Ue,mul_le_mul_of_nonneg_right->XC,natCast_zero->Vd,add_zero->WS,le_refl->SM,toNat_natCast->SF
open List renaming flatten->T6,replicate->Sj,map_congr_left->TM,flatMap_append->Sd,flatMap_cons->RT,take_append->Vg,drop_append->WR,take_of_length_le->Su,getElem_set_self->T9,getElem_mem->RQ,take_succ_eq_append_getElem->RJ,flatMap_nil->Sw,append_nil->RW,length_set->TF,length_nil->UB,map_nil->Tr,nil_append->Sv,length_take->Sn,take_length->Sl,length_append->RS,length_cons->RU,take_zero->TB,sum_nil->ZP,getD_eq_getElem?_getD->S9,getElem?_eq_getElem->R5,drop->TG,mem_cons_self->RG,mem_cons_of_mem->RM,mem_iff_getElem->R8,mem_singleton->RZ,mem_cons->RO,not_mem_nil->Sx,nodup_append->Td,mem_append->RY,getElem_cons_zero->W3,nodup_cons->SG,length_map->Sa,getElem_map->S0,map_cons->Sb,map_map->SP,pairwise_cons->Ur,foldl_cons->XF,pairwise_append->Ug,pairwise_singleton->Um,take_succ_cons->SO,drop_succ_cons->SV,set_eq_take_append_cons_drop->Xg,cons_append->SA,append_assoc->R9,length_filter_le->UK,findIdx?_eq_some_iff_getElem->U3,map_append->Si,drop_zero->Te,filter_eq_self->Uu,drop_drop->TR,length_singleton->UE,take_set_of_le->YD,drop_set_of_lt->YE
open List.Pairwise renaming nil->TZ,filter->Y1,imp->We
open List.Perm renaming refl->S5
open Nat renaming zero_le->Sy,not_lt_zero->S6,le_refl->Sc,min_eq_left->Tf,add_zero->S2,le_trans->TQ,add_mul->SK,add_comm->Un,zero_add->Sz,add_assoc->S8,lt_or_ge->Xc
open Option.some renaming inj->TW
namespace Go.Proofs.YtmbboaapillefaaGreatDoor
open Xe Pm
def oO(Is:Cx)(K:bT->Prop):bT->Prop:=Lp (λwa j0=>ar (cell (ae j0 0) 0) λz234=>ar (cell (ae j0 1) 0) λz235=>aG 31 (cell (ae j0 5) 0) λn236 c237
 => ax (decide (z235<(n236:Int))) (az (0<=z235/\z235<(n236:Int)) (ar (cell (el c237 31 (RF z235)) 3) λz238=>ax (decide
 (z238=(0:Int))) (az (aZ (z235+1)) (wa [[vI z234],[vI (z235+1)],ae j0 2,[cell (ae j0 3) 0],cls (ae j0 4) 0 10 [],[.sl
 n236 31 c237]])) (ar (cell (el c237 31 (RF z235)) 3) λz239=>ax (decide (z239=(1:Int))) (az (aZ (z235+1)) (wa [[vI z234],
 [vI (z235+1)],ae j0 2,[cell (ae j0 3) 0],cls (ae j0 4) 0 10 [],[.sl n236 31 c237]])) (Lp (λCu ib=>ar (cell (ae
 ib 0) 0) λz242=>ar (cell (ae ib 1) 0) λz243=>ar (cell (ae ib 2) 0) λz244=>aG 9 (cell (ae ib 7) 0) λn245 c246
 => aG 31 (cell (ae ib 8) 0) λn247 c248=>aG 11 (cell (ae ib 6) 8) λn249 _=>ax (decide (z244<(n249:Int))) (aG 11 (cell
 (ae ib 6) 8) λn251 c252=>az (0<=z244/\z244<(n251:Int)) (aG 11 (cell (ae ib 6) 8) λn253 c254=>az (0<=z244/\z244<(n253
 : Int)) (az (aL (n245+1) 89) (az (aZ (z244+1)) (Cu [[vI z242],[vI z243],[vI (z244+1)],ae ib 3,[cell (ae ib 4) 0],cls
 (ae ib 5) 0 10 [],ae ib 6,[.sl (n245+1) 9 (c246++(cls (sub (el c252 11 (RF z244)) 0 3) 0 3 (vI 0::cls (sub (el c254 11
 (RF z244)) 4 5) 0 5 [])))],[.sl n247 31 c248]]))))) (aA Is lC [sub (ae ib 6) 9 5,[.sl n245 9 c246],[vI 4],cls (ae ib 5) 0 4 (vI
 14::vI z243::cls (sub (ae ib 6) 4 3) 0 3 [vI 0]),[.sl n247 31 c248]] λr255=>aG 1 (cell (ae r255 1) 0) λn256 c257=>aG 31
 (cell (ae r255 3) 0) λn258 c259=>az (0<=z243/\z243<(n258:Int)) (az (0<=z243/\z243<(n258:Int)) (aA Is s33 [sub (el (cB c259
 ((RF z243)*31+14) (cls (ae r255 0) 0 14 [.sl n256 1 c257])) 31 (RF z243)) 14 15] λr260=>ar (cell (ae r260 0) 0) λz261
 => ax (decide ((30:Int)<z261)) (aA Is lC [sub (ae ib 6) 9 5,[.sl n245 9 c246],[vI 0],cls (ae r255 2) 0 4 (vI 0::cls (ae r255 2) 5
 5 []),[.sl n258 31 (cB c259 ((RF z243)*31+14) (cls (ae r255 0) 0 14 [.sl n256 1 c257]))]] λr262=>aG 1 (cell (ae r262 1) 0) fun
 n263 c264=>aG 31 (cell (ae r262 3) 0) λn265 c266=>az (0<=z243/\z243<(n265:Int)) (az (aZ (z243+1)) (wa [[vI z242],[vI
 (z243+1)],ae ib 3,[cell (ae ib 4) 0],cls (ae r262 2) 0 10 [],[.sl n265 31 (cB c266 ((RF z243)*31+14) (cls (ae r262 0) 0
 14 [.sl n263 1 c264]))]]))) (az (aZ (z243+1)) (wa [[vI z242],[vI (z243+1)],ae ib 3,[cell (ae ib 4) 0],cls (ae r255 2) 0 10
 [],[.sl n258 31 (cB c259 ((RF z243)*31+14) (cls (ae r255 0) 0 14 [.sl n256 1 c257]))]])))))) [[vI z234],[vI z235],[vI 0],ae j0
 2,[cell (ae j0 3) 0],cls (ae j0 4) 0 10 [],el c237 31 (RF z235),[.sl 0 9 []],[.sl n236 31 c237]])))) (ar (cell (ae j0 4)
 3) λz267=>ar (cell (ae j0 4) 3) λz268=>az (0<=z267/\z267=z268/\aL (RF z267) 25) (Lp (λj6 oo=>ar (cell
 (ae oo 0) 0) λz271=>ar (cell (ae oo 1) 0) λz272=>aG 3 (cell (ae oo 4) 0) λn273 c274=>aG 31 (cell (ae oo 5) 0)
 λn275 c276=>ax (decide (z272<(n275:Int))) (az (0<=z272/\z272<(n275:Int)) (ar (cell (el c276 31 (RF z272)) 3) λz277 =>
 ax (decide (z277=(0:Int))) (az (aZ (z272+1)) (j6 [[vI z271],[vI (z272+1)],ae oo 2,[cell (ae oo 3) 0],[.sl n273 3 c274],
 [.sl n275 31 c276]])) (az (0<=z272/\z272<(n275:Int)) (ar (cell (el c276 31 (RF z272)) 3) λz278=>ax (decide (z278=(1:Int)))
 (az (aZ (z272+1)) (j6 [[vI z271],[vI (z272+1)],ae oo 2,[cell (ae oo 3) 0],[.sl n273 3 c274],[.sl n275 31 c276]])) (az (0 <=
 z272/\z272<(n275:Int)) (aA Is s34 [sub (el c276 31 (RF z272)) 14 15,[.sl 0 1 []]] λr279=>aG 1 (cell (ae r279 0) 0) λn280
 c281=>Lp (λCt ql=>ar (cell (ae ql 0) 0) λz284=>ar (cell (ae ql 1) 0) λz285=>ar (cell (ae ql 2) 0) fun
 z286=>aG 3 (cell (ae ql 5) 0) λn287 c288=>aG 1 (cell (ae ql 6) 0) λn289 c290=>aG 31 (cell (ae ql 7) 0) λn291 c292
 => ax (decide (z286<(n289:Int))) (az (0<=z286/\z286<(n289:Int)) (aA Is nN [[vI z284]] λr293=>ar (cell (el c290 1 (RF
 z286)) 0) λz294=>az (0<=z294/\z294<(n287:Int)) (az (aZ (z284+1)) (az (aZ (z286+1)) (Ct [[vI (z284+1)],[vI z285],[vI
 (z286+1)],ae ql 3,[cell (ae ql 4) 0],[.sl n287 3 (cB c288 ((RF z294)*3+0) (ae r293 0))],[.sl n289 1 c290],[.sl n291 31
 c292]]))))) (az (0<=z285/\z285<(n291:Int)) (aA Is s35 [sub (el c292 31 (RF z285)) 14 15,[.sl n287 3 c288]] λr295=>aG 15 (cell
 (ae r295 1) 0) λn296 c297=>aG 3 (cell (ae r295 2) 0) λn298 c299=>az (0<=z285/\z285<(n291:Int)) (az (aZ (z285+1)) (j6
 [[vI z284],[vI (z285+1)],ae ql 3,[cell (ae ql 4) 0],[.sl n298 3 c299],[.sl n291 31 (cB c292 ((RF z285)*31+14) (cls (ae
 r295 0) 0 13 [.sl n296 15 c297,cell (ae r295 0) 13]))]]))))) [[vI z271],[vI z272],[vI 0],ae oo 2,[cell (ae oo 3) 0],[.sl n273 3
 c274],[.sl n280 1 c281],[.sl n275 31 c276]])))))) (K [[cell (ae oo 3) 0,.sl n275 31 c276]])) [[vI z234],[vI 0],ae j0 2,[cell (ae
 j0 3) 0],[.sl (RF z267) 3 (T6 (Sj (RF z267) [vI 0,vI 0,vI 0]))],[.sl n236 31 c237]])))
theorem sV{α:Type}{enc:α->List D}{sz:Nat}(he:∀x,(enc x).length=sz)(xs:List α){k:Nat}(hk:k<xs.length){o:Nat}{vs:List D}{x':α}(hx:enc x'=(enc xs[k]).take o++vs++(enc xs[k]).drop (o+vs.length))(ho:o+vs.length<=sz):cB (xs.flatMap enc) (k*sz+o) vs=(xs.set k x').flatMap enc:=by
 have e:xs=xs.take k++xs[k]::xs.drop (k+1):=by simp_all
 have hl:(xs.take k).length=k:=by grind
 have hA:((xs.take k).flatMap enc).length=k*sz:=by rw[List.length_flatMap,TM (g:=λ_=>sz) (λx _=>he x),List.map_const',List.sum_replicate_nat,hl]
 have e2:xs.set k x'=xs.take k++x'::xs.drop (k+1):=by grind
 have e3:xs.flatMap enc=(xs.take k).flatMap enc++(enc xs[k]++(xs.drop (k+1)).flatMap enc):=by
  grind
 rw[e2,Sd,RT,e3,hx];generalize(xs.take k).flatMap enc=A at hA ⊢;generalize(xs.drop (k+1)).flatMap enc=B;have hk':=he xs[k];generalize enc xs[k]=X at hk' ⊢;unfold cB
 rw[Vg,WR,hA,Su (show A.length<=k*sz+o by omega),List.drop_eq_nil_of_le (show A.length<=k*sz+o+vs.length by omega),show k*sz+o-k*sz=o by omega,show k*sz+o+vs.length-k*sz=o+vs.length by omega,
  List.take_append_of_le_length Q0,List.drop_append_of_le_length Q0]
 simp
theorem wX(ds:List an){k:Nat}(hk:k<ds.length)(e:Ex):cB (ds.flatMap an.enc) (k*31+14) e.enc=(ds.set k (ds[k].bH e)).flatMap an.enc:=by refine sV an.aP ds hk ?_ (by rw[Ex.aP];decide);rw[Ex.aD];rfl
theorem upd_id(ids:List av){k:Nat}(hk:k<ids.length)(i:av):cB (ids.flatMap av.enc) (k*3+0) i.enc=(ids.set k i).flatMap av.enc :=
 sV (enc:=av.enc) (λ_=>rfl) ids hk rfl (show 0+3<=3 by decide)
theorem Qe(n:Nat):T6 (Sj n [vI 0,vI 0,vI 0])=(Sj n kx).flatMap av.enc:=by rw[List.flatMap_def,List.map_replicate];rfl
theorem sR{α:Type}{l:List α}{k:Nat}{d:α}(h:k<l.length):l.getD k d=l[k]:=by grind
section
variable {l:List Int} {K:bT->Prop}
structure BI(l:List Int)(ms:List aO)(ds0:List an)(z:List an×b6)(i:Nat)(ds:List an)(s:b6):Prop where
 le:i<=ds0.length
 lk:cU ds ds0
 go:bu ms l (ds0.length-i) i ds s=z
 us:0<=s.pos/\s.pos+(ds0.length-i:Nat)*(2*9 ^ 9)<=100000000000/\0<=s.bj/\s.bj+(ds0.length-i:Nat)*(2*9 ^ 9)<=100000000000
 nm:∀k (hk:k<ds.length),k<i->¬bare ds[k]->AV s.bj ds[k].body/\ds[k].body.size<=100000000000
theorem No(_:∀x∈l,lX x){ms:List aO}{ds0:List an}{z:List an×b6}(_:0<ms.length)(_:kj ⟨ms,ds0⟩ 5)(_:ja ⟨ms,ds0⟩)(hd8:ds0.length<=8){nx:Int}{zp:List D}(_:∀d∈ds0,∀x∈d.ah,x.id.seq≠0)
  (hgo:bu ms l ds0.length 0 ds0 ⟨24,0,0,0⟩=z) {B:(bT->Prop)->bT->Prop} {s0:bT} (e0:s0=[[vI nx],[vI 0],zp,[.sl ms.length 6 (ms.flatMap aO.enc)],gA ⟨⟨ms,ds0⟩,l,0,kx⟩ ⟨24,0,0,0⟩,[.sl ds0.length 31 (ds0.flatMap an.enc)]])
  (h:∀(i:Nat) (ds:List an) (s:b6) (own:Int) (ka:av) (next:bT->Prop),BI l ms ds0 z i ds s ->
   (∀ds' s' own' home',BI l ms ds0 z (i+1) ds' s'->next [[vI nx],[vI (i+1:Nat)],zp,[.sl ms.length 6 (ms.flatMap aO.enc)],gA ⟨⟨ms,ds'⟩,l,own',home'⟩ s',[.sl ds'.length 31 (ds'.flatMap an.enc)]]) ->
   B next [[vI nx],[vI (i:Nat)],zp,[.sl ms.length 6 (ms.flatMap aO.enc)],gA ⟨⟨ms,ds⟩,l,own,ka⟩ s,[.sl ds.length 31 (ds.flatMap an.enc)]]):Lp B s0:=by
 refine cY (σ:=Nat×List an×b6×Int×av) (λy=>[[vI nx],[vI (y.1:Nat)],zp,[.sl ms.length 6 (ms.flatMap aO.enc)],gA ⟨⟨ms,y.2.1⟩,l,y.2.2.2.1,y.2.2.2.2⟩ y.2.2.1,[.sl y.2.1.length 31 (y.2.1.flatMap an.enc)]]) (λy=>ds0.length-y.1) (λy=>BI l ms ds0 z y.1 y.2.1 y.2.2.1)
  (0,ds0,⟨24,0,0,0⟩,0,kx) ⟨Sy _,cU.refl _,hgo,⟨by grind,by grind,by grind,by grind⟩,λk _ hk=>J3 hk (S6 _)⟩ e0 ?_
 rintro⟨i,ds,s,own,ka⟩ next hI hnx
 dsimp only at hI hnx ⊢;refine h i ds s own ka next hI λds' s' own' home' hI'=>?_
 have:=hI'.le;exact hnx (i+1,ds',s',own',home') Q0 hI'
theorem BI.skip{ms:List aO}{ds0 ds:List an}{z:List an×b6}{i:Nat}{s:b6}(h:BI l ms ds0 z i ds s)(hi:i<ds.length)(hb:bare ds[i]):BI l ms ds0 z (i+1) ds s:=by
 have hlen:=h.lk.len;have hle:=h.le;obtain⟨m,hm⟩:∃m,ds0.length-i=m+1:=⟨ds0.length-i-1,Q0⟩;have hgo:=h.go;have hus:=h.us;rw[hm]at hgo hus;rw[bu,sR hi,J2 hb]at hgo;have e1:((m+1:Nat):Int)*(2*9 ^ 9)=m*(2*9 ^ 9)+2*9 ^ 9:=Q0;have h9:(9:Int) ^ 9=387420489:=Q1;refine⟨Q0,h.lk,by grind,Q0,λk hk hlt hnb=>?_⟩;by_cases e:k=i
 .grind
 .exact h.nm k hk Q0 hnb
theorem BI.step{ms:List aO}{ds0 ds:List an}{z:List an×b6}{i:Nat}{s:b6}(h:BI l ms ds0 z i ds s)(hd8:ds0.length<=8)(hi:i<ds.length)(hnb:¬bare ds[i])(hb:kj ⟨ms,ds⟩ 5)(hn:ja ⟨ms,ds⟩)(hsl:∀d∈ds,∀x∈d.ah,x.id.seq≠0) :
  BI l ms ds0 z (i+1) (ds.set i (ds[i].bH (fQ ⟨⟨ms,ds⟩,l,i,ds[i].mod⟩ ds[i] ⟨s.pos,s.bj,14,0⟩).1)) (fQ ⟨⟨ms,ds⟩,l,i,ds[i].mod⟩ ds[i] ⟨s.pos,s.bj,14,0⟩).2:=by
 have hlen:=h.lk.len;have hle:=h.le;obtain⟨m,hm⟩:∃m,ds0.length-i=m+1:=⟨ds0.length-i-1,Q0⟩;have hgo:=h.go;have hus:=h.us;rw[hm]at hgo hus;rw[bu,sR hi,J1 hnb]at hgo;have e1:((m+1:Nat):Int)*(2*9 ^ 9)=m*(2*9 ^ 9)+2*9 ^ 9:=Q0;have h9:(9:Int) ^ 9=387420489:=Q1;have hmn:(0:Int)<=m*(2*9 ^ 9):=Ue Q0 Q0;have hu:Us (100000000000-(m*(2*9 ^ 9)+2*9 ^ 9)) ⟨s.pos,s.bj,14,0⟩:=by
  grind [XC,Us]
 obtain⟨hu2,T,hT,hmk⟩:=KD (c:=⟨⟨ms,ds⟩,l,i,ds[i].mod⟩) hb hn hi rfl rfl hu Q0;generalize fQ ⟨⟨ms,ds⟩,l,i,ds[i].mod⟩ ds[i] ⟨s.pos,s.bj,14,0⟩=r at hgo hu2 hmk ⊢;dsimp only at hT;have hin:AV r.2.bj r.1:=hmk.AV Q0 λb hb' hs=>by
  grind [kA]
 have hlt:=hmk.lt;have hsz:=hmk.size;unfold Us at hu2;refine⟨Q0,h.lk.set hi _,by grind,Q0,λk hk hlt2 hnb'=>?_⟩;by_cases e:k=i
 .subst e;simp only[T9];refine⟨hin,?_⟩;show r.1.size<=100000000000;omega
 .have hk':k<ds.length:=by simpa using hk
  have eg:(ds.set i (ds[i].bH r.1))[k]=ds[k]:=by grind
  rw[eg]at hnb' ⊢;have:=h.nm k hk' Q0 hnb';exact⟨cp Q0 this.1,this.2⟩
end
set_option maxHeartbeats 1000000
section
variable {l:List Int} {K:bT->Prop}
structure RI(ds0:List an)(N:Nat)(out:List an)(i:Nat)(ds:List an)(ids:List av)(nx:Int):Prop where
 le:i<=ds0.length
 lk:cU ds ds0
 go:dv (ds0.length-i) i ds ids nx=out
 len:ids.length=N
 nx0:0<=nx
 nx1:nx+(ds0.length-i:Nat)*1000000000000<=100000000000000
 nm:∀k (hk:k<ds.length),i<=k->¬bare ds[k]->AV N ds[k].body/\ds[k].body.size<=100000000000
theorem RI.skip{ds0 ds out:List an}{N i:Nat}{ids:List av}{nx:Int}(h:RI ds0 N out i ds ids nx)(hi:i<ds.length)(hb:bare ds[i]):RI ds0 N out (i+1) ds ids nx:=by have hlen:=h.lk.len;have hle:=h.le;obtain⟨m,hm⟩:∃m,ds0.length-i=m+1:=⟨ds0.length-i-1,Q0⟩;have hgo:=h.go;have hnx:=h.nx1;rw[hm]at hgo hnx;rw[dv,sR hi,J2 hb]at hgo;exact⟨Q0,h.lk,by grind,h.len,h.nx0,Q0,λk hk hlt=>h.nm k hk Q0⟩
theorem RI.step{ds0 ds out:List an}{N i:Nat}{ids:List av}{nx:Int}(h:RI ds0 N out i ds ids nx)(hi:i<ds.length)(hnb:¬bare ds[i]) :
  RI ds0 N out (i+1) (ds.set i (ds[i].bH (b8 (bE ids ds[i].body.post nx) ds[i].body))) (bE ids ds[i].body.post nx) (nx+ds[i].body.post.length):=by
 have hlen:=h.lk.len;have hle:=h.le;obtain⟨m,hm⟩:∃m,ds0.length-i=m+1:=⟨ds0.length-i-1,Q0⟩;have hgo:=h.go;have hnx:=h.nx1;have hn0:=h.nx0;have hsz:=(h.nm i hi (Sc _) hnb).2;have hpl:=Ex.sd ds[i].body;rw[hm]at hgo hnx;rw[dv,sR hi,J1 hnb]at hgo;refine⟨Q0,h.lk.set hi _,by grind,by rw[jf];exact h.len,Q0,Q0,λk hk hlt hnb'=>?_⟩;have hk':k<ds.length:=by grind
 have eg:(ds.set i (ds[i].bH (b8 (bE ids ds[i].body.post nx) ds[i].body)))[k]=ds[k]:=by grind
 rw[eg]at hnb' ⊢;exact h.nm k hk' Q0 hnb'
theorem Pp{ds0 ds out:List an}{ids:List av}{nx:Int}{N:Nat}(hI0:RI ds0 N out 0 ds ids nx){zp md:List D}{B:(bT->Prop)->bT->Prop}{s0:bT}(e0:s0=[[vI nx],[vI 0],zp,md,[.sl N 3 (ids.flatMap av.enc)],[.sl ds.length 31 (ds.flatMap an.enc)]])
  (h:∀(i:Nat) (ds:List an) (ids:List av) (nx:Int) (next:bT->Prop),RI ds0 N out i ds ids nx ->
   (∀ds' ids' nx',RI ds0 N out (i+1) ds' ids' nx'->next [[vI nx'],[vI (i+1:Nat)],zp,md,[.sl N 3 (ids'.flatMap av.enc)],[.sl ds'.length 31 (ds'.flatMap an.enc)]]) ->
   B next [[vI nx],[vI (i:Nat)],zp,md,[.sl N 3 (ids.flatMap av.enc)],[.sl ds.length 31 (ds.flatMap an.enc)]]):Lp B s0:=by
 refine cY (σ:=Nat×List an×List av×Int) (λy=>[[vI y.2.2.2],[vI (y.1:Nat)],zp,md,[.sl N 3 (y.2.2.1.flatMap av.enc)],[.sl y.2.1.length 31 (y.2.1.flatMap an.enc)]]) (λy=>ds0.length-y.1) (λy=>RI ds0 N out y.1 y.2.1 y.2.2.1 y.2.2.2) (0,ds,ids,nx) hI0 e0 ?_;rintro⟨i,ds,ids,nx⟩ next hI hnx
 dsimp only at hI hnx ⊢;refine h i ds ids nx next hI λds' ids' nx' hI'=>?_
 have:=hI'.le;exact hnx (i+1,ds',ids',nx') Q0 hI'
theorem vi(hl:∀x∈l,lX x){ms:List aO}{ds0:List an}(hm:0<ms.length)(hb:kj ⟨ms,ds0⟩ 5)(hn:ja ⟨ms,ds0⟩)(hd8:ds0.length<=8){nx:Int}(hnx0:0<=nx/\nx<=1000000)(hsl:∀d∈ds0,∀x∈d.ah,x.id.seq≠0){zp:List D}
  (hK:K [[.sl ms.length 6 (ms.flatMap aO.enc),.sl (dv ds0.length 0 (bu ms l ds0.length 0 ds0 ⟨24,0,0,0⟩).1 (Sj (bu ms l ds0.length 0 ds0 ⟨24,0,0,0⟩).2.bj.toNat kx) nx).length 31 ((dv ds0.length 0 (bu ms l ds0.length 0 ds0 ⟨24,0,0,0⟩).1 (Sj (bu ms l ds0.length 0 ds0 ⟨24,0,0,0⟩).2.bj.toNat kx) nx).flatMap an.enc)]]) :
  oO (j3 RH) K [[vI nx],[vI 0],zp,[.sl ms.length 6 (ms.flatMap aO.enc)],gA ⟨⟨ms,ds0⟩,l,0,kx⟩ ⟨24,0,0,0⟩,[.sl ds0.length 31 (ds0.flatMap an.enc)]]:=by
 unfold oO;generalize hz:bu ms l ds0.length 0 ds0 ⟨24,0,0,0⟩=z at hK;refine No hl hm hb hn hd8 hsl hz rfl λi ds s own ka next hI hnx=>?_
 have hlen:=hI.lk.len;have hle:=hI.le;have hbd:kj ⟨ms,ds⟩ 5:=hb.mG hI.lk;have hnd:ja ⟨ms,ds⟩:=hn.mG hI.lk;simp only[ai,dh];refine⟨λh=>?_,λh=>?_⟩
 .have hi:i<ds.length:=Q0;rw[gE _ hi];simp only[ai,aF];have hmem:=RQ hi;refine⟨Q0,λk0=>⟨Q4,hnx ds s own ka (hI.skip hi (.inl k0))⟩,λk0=>⟨λk1=>⟨Q4,hnx ds s own ka (hI.skip hi (.inr k1))⟩,λk1=>?_⟩⟩;have hnb:¬bare ds[i]:=λh=>h.elim k0 k1;have h3:=hbd.gen.fJ _ hmem;refine bc ds[i].ah.length (λk=>[[vI nx],[vI (i:Nat)],[vI (k:Nat)],zp,[.sl ms.length 6 (ms.flatMap aO.enc)],gA ⟨⟨ms,ds⟩,l,own,ka⟩ s,ds[i].enc,[.sl k 9 (((bR ds[i]).take k).flatMap cg.enc)],[.sl ds.length 31 (ds.flatMap an.enc)]]) (λ_=>True) trivial rfl λk lO hk _ hn2=>?_;simp only[ai,dh,aF];refine⟨λhk1=>?_,λhk1=>?_⟩
  .have hk2:k<ds[i].ah.length:=Q0;rw[mN _ hk2];simp only[ai,aF];have:=hn2 hk2 trivial;have he:k<(bR ds[i]).length:=by rw[uF];exact hk2
   rw[RJ he,Sd,RT,Sw,RW]at this;have eb:(bR ds[i])[k]=⟨ds[i].ah[k].id,0,ds[i].ah[k].ty⟩:=by simp[bR]
   rw[eb]at this;exact⟨Q0,Q0,Qa,Q4,this⟩
  .obtain rfl:k=ds[i].ah.length:=Q0;have el:ds[i].ah.length=(bR ds[i]).length:=(uF _).symm;rw[Su Q0];have hc:Ctx ⟨⟨ms,ds⟩,l,i,ds[i].mod⟩ 5:=⟨hbd.gen,hl,hm,hbd.d0,hbd.d1,hbd.sty,hbd.rty⟩
   have fit:∀dp:Int,sf ⟨ms,ds⟩ 5 9 ds[i].aq dp->(0<=dp/\dp<=4)->Fit ⟨⟨ms,ds⟩,l,i,ds[i].mod⟩ 5 9 ds[i].aq (bR ds[i]) dp:=λdp ho hr=>⟨by have:=hbd.e0 _ hmem;omega,Q0,λb hb'=>by
     obtain⟨x,hx,rfl⟩:=kA hb';exact hbd.gen.DX _ hmem x hx,λb hb'=>by
     obtain⟨x,hx,rfl⟩:=kA hb'
     exact hbd.sty _ hmem x hx,hbd.rty _ hmem,ho,Q0⟩
   have hus:=hI.us;have h9:(9:Int) ^ 9=387420489:=Q1;have hm0:(0:Int)<=(ds0.length-i:Nat)*(2*9 ^ 9):=Ue Q0 Q0;have hu:Us 100000000000 ⟨s.pos,s.bj,14,0⟩:=by grind [Us]
   have hw:=hbd.resA _ hmem;refine ab (by rw[el];exact yO hc 9 ds[i].aq (bR ds[i]) 4 ⟨s.pos,s.bj,14,0⟩ (fit 4 (O8 hw) Q0) (hu.bd Q0)) ?_;have hu1:=Gy (dD (c:=⟨⟨ms,ds⟩,l,i,ds[i].mod⟩) hbd.gen.fJ 9) (show(0:Int)<=9 ^ 9 by omega) (t:=ds[i].aq) (env:=bR ds[i]) (d:=4) hu Q0
   have hmk:=sY (c:=⟨⟨ms,ds⟩,l,i,ds[i].mod⟩) (hbd.gctx hnd) 9 ds[i].aq (bR ds[i]) 4 ⟨s.pos,s.bj,14,0⟩ (by have:=hbd.e0 _ hmem;omega) (λb hb'=>by
     obtain⟨x,hx,rfl⟩:=kA hb'
     exact⟨hbd.gen.DX _ hmem x hx,hnd.gs _ hmem x hx⟩) (O8 hw) (hnd.gr _ hmem)
   have hst:=hI.step hd8 hi hnb hbd hnd (GI hI.lk hsl);have hbo:fQ ⟨⟨ms,ds⟩,l,i,ds[i].mod⟩ ds[i] ⟨s.pos,s.bj,14,0⟩=if 30<(aB ⟨⟨ms,ds⟩,l,i,ds[i].mod⟩ 9 ds[i].aq (bR ds[i]) 4 ⟨s.pos,s.bj,14,0⟩).1.size then aB ⟨⟨ms,ds.set i (ds[i].bH (aB ⟨⟨ms,ds⟩,l,i,ds[i].mod⟩ 9 ds[i].aq (bR ds[i]) 4 ⟨s.pos,s.bj,14,0⟩).1)⟩,l,i,ds[i].mod⟩ 9 ds[i].aq (bR ds[i]) 0 ⟨(aB ⟨⟨ms,ds⟩,l,i,ds[i].mod⟩ 9 ds[i].aq (bR ds[i]) 4 ⟨s.pos,s.bj,14,0⟩).2.pos,(aB ⟨⟨ms,ds⟩,l,i,ds[i].mod⟩ 9 ds[i].aq (bR ds[i]) 4 ⟨s.pos,s.bj,14,0⟩).2.bj,0,(aB ⟨⟨ms,ds⟩,l,i,ds[i].mod⟩ 9 ds[i].aq (bR ds[i]) 4 ⟨s.pos,s.bj,14,0⟩).2.name⟩ else aB ⟨⟨ms,ds⟩,l,i,ds[i].mod⟩ 9 ds[i].aq (bR ds[i]) 4 ⟨s.pos,s.bj,14,0⟩:=rfl
   rw[hbo]at hst;have hsz:=hmk.size;generalize aB ⟨⟨ms,ds⟩,l,i,ds[i].mod⟩ 9 ds[i].aq (bR ds[i]) 4 ⟨s.pos,s.bj,14,0⟩=r at hu1 hst hsz ⊢;simp only[ai,dh];refine⟨Q0,Q0,?_⟩;rw[sM,wX ds hi,gE _ (show i<(ds.set i (ds[i].bH r.1)).length by grind)];simp only[aF,T9];have hu1':=hu1;unfold Us at hu1';dsimp only at hsz;refine ab (EK r.1 Q0) ?_;simp only[ai];refine⟨λh30=>?_,λh30=>?_⟩
   .rw[J2 Q0]at hst;have hlk:=hI.lk.set hi r.1;have hbd2:kj ⟨ms,ds.set i (ds[i].bH r.1)⟩ 5:=hb.mG hlk;have hc2:Ctx ⟨⟨ms,ds.set i (ds[i].bH r.1)⟩,l,i,ds[i].mod⟩ 5:=⟨hbd2.gen,hl,hm,hbd2.d0,hbd2.d1,hbd2.sty,hbd2.rty⟩;have hl2:cU (ds.set i (ds[i].bH r.1)) ds:=(cU.refl ds).set hi r.1;have fit2:Fit ⟨⟨ms,ds.set i (ds[i].bH r.1)⟩,l,i,ds[i].mod⟩ 5 9 ds[i].aq (bR ds[i]) 0:=by have f:=fit 0 (O9 hw) Q0;exact⟨f.e0,f.e1,λb hb'=>hl2.wf _ _ (f.ew b hb'),f.es,f.ts,O9 (hl2.wf _ _ hw),f.dp⟩
    have hu0:Us (100000000000+9 ^ 9) ⟨r.2.pos,r.2.bj,0,r.2.name⟩:=by grind [Us]
    have hcall:=yO hc2 9 ds[i].aq (bR ds[i]) 0 ⟨r.2.pos,r.2.bj,0,r.2.name⟩ fit2 (hu0.bd Q0);simp only[dh,cj,TF,<-el]at hcall;refine ab hcall ?_;clear hcall;generalize aB ⟨⟨ms,ds.set i (ds[i].bH r.1)⟩,l,i,ds[i].mod⟩ 9 ds[i].aq (bR ds[i]) 0 ⟨r.2.pos,r.2.bj,0,r.2.name⟩=r2 at hst ⊢;simp only[ai];rw[sM,wX (ds.set i (ds[i].bH r.1)) (show i<(ds.set i (ds[i].bH r.1)).length by grind)];have:=hnx _ _ i ds[i].mod hst;refine⟨Q0,Q4,?_⟩;simp only[T9,List.set_set];rw[TF]at this;exact this
   .rw[J1 Q0]at hst;have:=hnx _ _ i ds[i].mod hst;refine⟨Q4,?_⟩;rw[TF]at this;exact this
 .have hiL:i=ds0.length:=Q0;have hgo:=hI.go;rw[hiL,Nat.sub_self,bu]at hgo;obtain⟨ht0,ht1⟩:0<=s.bj/\s.bj<=100000000000:=by have hus:=hI.us;omega
  have hN:(s.bj.toNat:Int)=s.bj:=Q0;have hnm:=hI.nm;rw[<-hgo]at hK;dsimp only at hK;refine⟨⟨ht0,trivial,Qa⟩,?_⟩;rw[Qe];refine Pp (out:=dv ds0.length 0 ds (Sj s.bj.toNat kx) nx) (N:=s.bj.toNat) (ds0:=ds0) ⟨Sy _,hI.lk,by grind,Q2,hnx0.1,Q0,λk hk _ hnb=>by grind⟩ rfl λi ds ids nx next hI2 hnx2=>?_
  clear hnx hgo hnm hI hlen hle hiL;have hlen:=hI2.lk.len;have hle:=hI2.le;have hn0:=hI2.nx0;have hn1:=hI2.nx1;have hm0:(0:Int)<=(ds0.length-i:Nat)*1000000000000:=Q0;simp only[ai];refine⟨λh=>?_,λh=>?_⟩
  .have hi:i<ds.length:=Q0;rw[gE _ hi];simp only[ai,aF];refine⟨Q0,λk0=>⟨Q4,hnx2 ds ids nx (hI2.skip hi (.inl k0))⟩,λk0=>⟨Q0,λk1=>⟨Q4,hnx2 ds ids nx (hI2.skip hi (.inr k1))⟩,λk1=>⟨Q0,?_⟩⟩⟩;have hnb:¬bare ds[i]:=λh=>h.elim k0 k1;obtain⟨hin,hsz⟩:=hI2.nm i hi (Sc _) hnb;have hpl:=Ex.sd ds[i].body;have hnum:=AF ds[i].body [] Qc;simp only[bY,UB,Tr,Sv]at hnum;refine ab hnum ?_;simp only[ai];have hst:=hI2.step hi hnb;have hln:=hI2.len;refine bc ds[i].body.post.length (λk=>[[vI (nx+(k:Nat))],[vI (i:Nat)],[vI (k:Nat)],zp,[.sl ms.length 6 (ms.flatMap aO.enc)],[.sl s.bj.toNat 3 ((bE ids (ds[i].body.post.take k) nx).flatMap av.enc)],[.sl ds[i].body.post.length 1 (ds[i].body.post.map aj)],[.sl ds.length 31 (ds.flatMap an.enc)]]) (λ_=>True) trivial (by rw[Vd,WS];rfl) λk JJ hk _ hn3=>?_;simp only[ai];refine⟨λhk1=>?_,λhk1=>?_⟩
   .have hk2:k<ds[i].body.post.length:=Q0;rw[uG _ hk2];simp only[ai];have hr:=Ff hin _ (RQ hk2);have hpl2:ds[i].body.post.length<=100000000000:=Q0;refine⟨Q0,ab (lY Q0 (by unfold lX;omega)) ?_⟩;simp only[ai];have hkl:(ds[i].body.post[k]).toNat<(bE ids (ds[i].body.post.take k) nx).length:=by rw[jf,hln];omega
    rw[upd_id _ hkl];have:=hn3 hk2 trivial;rw[RJ hk2,qn,Sn,Tf Q0]at this;rw[show nx+(k:Int)+1=nx+((k+1:Nat):Int) by omega];exact⟨Q0,Q4,Q4,this⟩
   .obtain rfl:k=ds[i].body.post.length:=Q0;rw[Sl];have hlp:(bE ids ds[i].body.post nx).length=s.bj.toNat:=by rw[jf,hln]
    have hren:=xF (bE ids ds[i].body.post nx) ds[i].body (by grind) Q0;simp only[rnR]at hren;rw[hlp]at hren;rw[gE _ hi];simp only[aF];refine⟨Q0,ab hren ?_⟩;simp only[ai];have:=hnx2 _ _ _ hst;rw[sM,wX _ hi];rw[TF]at this;exact⟨Q0,Q4,this⟩
  .have hgo2:=hI2.go;rw[show ds0.length-i=0 by omega,dv]at hgo2;rw[<-hgo2]at hK;exact hK
end
set_option maxHeartbeats 1000000
def g8c(Is:Cx)(a:bT)(K:bT->Prop):Prop:=aA Is rC [[cell (ae a 0) 0],[vI 0],[vI 2]] λr1=>ar (cell (ae r1 0) 0) λz2=>az (aZ (1+z2)) (ax (decide ((0:Int)<(1+z2)))
 (aA Is nN [[vI 0]] λr3=>az (0<=(0:Int)/\(0:Int)<(2:Int)) (az (aL (0+1) 89) (az (aZ (0+1:Int)) (ax (decide ((1:Int) <
 (1+z2))) (aA Is nN [[vI 1]] λr4=>az (0<=(1:Int)/\(1:Int)<(2:Int)) (aA Is nN [[vI 0]] λr5=>az (aL (1+1) 89) (az (aZ
 (1+1:Int)) (ax (decide ((2:Int)<(1+z2))) (aA Is nN [[vI 2]] λ_=>az (0<=(2:Int)/\(2:Int)<(2:Int)) (az (aL (2+1) 89)
 (az (aZ (2+1:Int)) (False)))) (aA Is s31 [[cell (ae a 0) 0],[vI (1+z2)]] λr7=>aG 11 (cell (ae r7 0) 0) λn8 c9=>az (aZ ((1
 + z2)+(n8:Int))) (Lp (λsA jB=>ar (cell (ae jB 1) 0) λz186=>ar (cell (ae jB 2) 0) λz187=>ar (cell (ae jB
 3) 0) λz188=>aG 11 (cell (ae jB 5) 0) λn189 c190=>aG 31 (cell (ae jB 7) 0) λn191 c192=>aG 3 (cell (ae jB 8) 0) fun
 n193 c194=>aG 3 (cell (ae jB 9) 0) λn195 c196=>aG 3 (cell (ae jB 10) 0) λn197 c198=>ax (decide (z188<(n189:Int))) (az
 (aZ (z186+z188)) (aA Is nN [[vI (z186+z188)]] λr199=>az (0<=z188/\z188<(n189:Int)) (az (0<=z188/\z188<(n189:Int)) (aA Is
 nN [[cell (el c190 11 (RF z188)) 10]] λr200=>az (0<=z188/\z188<(n189:Int)) (az (0<=z188/\z188<(n189:Int)) (Lp (fun
 sy dx=>ar (cell (ae dx 1) 0) λz203=>ar (cell (ae dx 2) 0) λz204=>ar (cell (ae dx 3) 0) λz205=>ar (cell
 (ae dx 4) 0) λz206=>aG 11 (cell (ae dx 6) 0) λn207 c208=>aG 31 (cell (ae dx 9) 0) λn209 c210=>aG 11 (cell (ae
 dx 10) 0) λn211 c212=>aG 3 (cell (ae dx 11) 0) λn213 c214=>aG 3 (cell (ae dx 12) 0) λn215 c216=>aG 3 (cell (ae
 dx 13) 0) λn217 c218=>az (0<=z205/\z205<(n207:Int)) (aG 5 (cell (el c208 11 (RF z205)) 2) λn219 _=>ax (decide (z206 <
 (n219:Int))) (aA Is nN [[vI z204]] λr221=>az (0<=z205/\z205<(n207:Int)) (aG 1 (cell (el c208 11 (RF z205)) 3) λn222 c223
 => az (0<=z206/\z206<(n222:Int)) (az (0<=z205/\z205<(n207:Int)) (aG 5 (cell (el c208 11 (RF z205)) 2) λn224 c225=>az (0
 <= z206/\z206<(n224:Int)) (ar (cell (ae dx 7) 3) λz226=>ax (decide (z226=(4:Int))) (az (0<=z205/\z205<(n207:Int)) (aG 1
 (cell (el c208 11 (RF z205)) 4) λn227 c228=>az (0<=z206/\z206<(n227:Int)) (az (aL (n211+1) 113) (az (aZ (z204+1)) (az
 (aZ (z206+1)) (sy [[cell (ae dx 0) 0],[vI z203],[vI (z204+1)],[vI z205],[vI (z206+1)],ae dx 5,[.sl n207 11 c208],cls (ae
 dx 7) 0 30 [],cls (ae dx 8) 0 9 [],[.sl n209 31 c210],[.sl (n211+1) 11 (c212++(cls (ae r221 0) 0 3 (cell (el c223 1 (RF z206))
 0::cls (el c225 5 (RF z206)) 0 5 [cell (el c228 1 (RF z206)) 0,vI z206])))],[.sl n213 3 c214],[.sl n215 3 c216],[.sl n217 3
 c218]])))))) (az (aL (n211+1) 113) (az (aZ (z204+1)) (az (aZ (z206+1)) (sy [[cell (ae dx 0) 0],[vI z203],[vI (z204+1)],
 [vI z205],[vI (z206+1)],ae dx 5,[.sl n207 11 c208],cls (ae dx 7) 0 30 [],cls (ae dx 8) 0 9 [],[.sl n209 31 c210],[.sl (n211 +
 1) 11 (c212++(cls (ae r221 0) 0 3 (cell (el c223 1 (RF z206)) 0::cls (el c225 5 (RF z206)) 0 5 [vI 0,vI z206])))],[.sl n213 3
 c214],[.sl n215 3 c216],[.sl n217 3 c218]]))))))))) (az (aL (n209+1) 353) (az (0<=z205/\z205<(n207:Int)) (az (0<=z205/\z205<(n207
 : Int)) (ar (cell (el c208 11 (RF z205)) 10) λz229=>az (0<=z229/\z229<((2:Nat):Int)) (ax (decide (z229=((0:Nat):Int)))
 (az (aL (n213+1) 25) (ar (cell (el c208 11 (RF z205)) 10) λz230=>az (0<=z230/\z230<((2:Nat):Int)) (ax (decide (z230 =
 ((0:Nat):Int))) (az (aZ (z205+1)) (sA [[cell (ae dx 0) 0],[vI z203],[vI z204],[vI (z205+1)],ae dx 5,[.sl n207 11 c208],
 cls (ae dx 8) 0 9 [],[.sl (n209+1) 31 (c210++(cls (ae dx 7) 0 8 (.sl n211 11 c212::cls (ae dx 7) 8 22 [])))],[.sl (n213+1) 3
 (c214++(cls (ae dx 7) 0 3 []))],[.sl n215 3 c216],[.sl n217 3 c218]])) (ax (decide (z230=((1:Nat):Int))) (az (aZ (z205+1))
 (False)) (False))))) (ax (decide (z229=((1:Nat):Int))) (az (aL (n217+1) 25) (ar (cell (el c208 11 (RF z205)) 10) λz231 =>
 az (0<=z231/\z231<((2:Nat):Int)) (ax (decide (z231=((0:Nat):Int))) (az (aZ (z205+1)) (False)) (ax (decide (z231=((1:Nat) :
 Int))) (az (aZ (z205+1)) (sA [[cell (ae dx 0) 0],[vI z203],[vI z204],[vI (z205+1)],ae dx 5,[.sl n207 11 c208],cls (ae
 dx 8) 0 9 [],[.sl (n209+1) 31 (c210++(cls (ae dx 7) 0 8 (.sl n211 11 c212::cls (ae dx 7) 8 22 [])))],[.sl n213 3 c214],[.sl n215
 3 c216],[.sl (n217+1) 3 (c218++(cls (ae dx 7) 0 3 []))]])) (False))))) (False))))))))) [[cell (ae jB 0) 0],[vI z186],[vI z187],[vI
 z188],[vI 0],ae jB 4,[.sl n189 11 c190],cls (ae r199 0) 0 3 (cell (el c190 11 (RF z188)) 0::cls (ae r200 0) 0 3 (cell (el c190 11
 (RF z188)) 1::cls (sub (el c190 11 (RF z188)) 5 5) 0 5 ([vI 0,vI 0,vI 0,vI 0,vI 0,vI 0,vI 0,vI 0,vI 0,vI 0,vI 0,vI 0,.sl
 0 5 [],.sl 0 15 [],.sl 0 1 [],vI 0,.sl 0 1 []]))),cls (ae jB 6) 0 9 [],[.sl n191 31 c192],[.sl 0 11 []],[.sl n193 3 c194],[.sl n195 3
 c196],[.sl n197 3 c198]])))))) (oO Is K [[vI z187],[vI 0],ae jB 4,[.sl 2 6 (cls (ae jB 6) 0 5 (.sl n193 3 c194::cls (ae jB
 6) 5 4 [.sl n195 3 c196,.sl n197 3 c198]))],[.sl 2 6 (cls (ae jB 6) 0 5 (.sl n193 3 c194::cls (ae jB 6) 5 4 [.sl n195 3 c196,.sl n197 3
 c198])),cell (ae jB 0) 0,vI 24,vI 0,vI 0,vI 0,vI 0,vI 0,vI 0,vI 0],[.sl n191 31 c192]])) [[cell (ae a 0) 0],[vI (1+z2)],[vI ((1 +
 z2)+(n8:Int))],[vI 0],[.sl 0 6 [],.sl 0 31 []],[.sl n8 11 c9],cls (ae r3 0) 0 3 (cell (el ([vS (Se #[99,111,114,101]),vS
 (Se #[109,105,108,108])]) 1 0) 0::.sl 0 3 []::cls (ae r4 0) 0 3 ([cell (el ([vS (Se #[99,111,114,101]),vS
 (Se #[109,105,108,108])]) 1 1) 0])),[.sl 0 31 []],[.sl 0 3 []],[.sl 1 3 ((ae r5 0)++[])],[.sl 0 3 []]])))))) (aA Is s31 [[cell
 (ae a 0) 0],[vI (1+z2)]] λr300=>aG 11 (cell (ae r300 0) 0) λn301 c302=>az (aZ ((1+z2)+(n301:Int))) (Lp (λCs mn
 => ar (cell (ae mn 1) 0) λz438=>ar (cell (ae mn 2) 0) λz439=>ar (cell (ae mn 3) 0) λz440=>aG 11 (cell (ae mn
 5) 0) λn441 c442=>aG 31 (cell (ae mn 7) 0) λn443 c444=>aG 3 (cell (ae mn 8) 0) λn445 c446=>ax (decide (z440<(n441 :
 Int))) (az (aZ (z438+z440)) (aA Is nN [[vI (z438+z440)]] λr447=>az (0<=z440/\z440<(n441:Int)) (az (0<=z440/\z440<(n441 :
 Int)) (aA Is nN [[cell (el c442 11 (RF z440)) 10]] λr448=>az (0<=z440/\z440<(n441:Int)) (az (0<=z440/\z440<(n441:Int))
 (Lp (λsw fH=>ar (cell (ae fH 1) 0) λz451=>ar (cell (ae fH 2) 0) λz452=>ar (cell (ae fH 3) 0) λz453 =>
 ar (cell (ae fH 4) 0) λz454=>aG 11 (cell (ae fH 6) 0) λn455 c456=>aG 31 (cell (ae fH 9) 0) λn457 c458=>aG 11
 (cell (ae fH 10) 0) λn459 c460=>aG 3 (cell (ae fH 11) 0) λn461 c462=>az (0<=z453/\z453<(n455:Int)) (aG 5 (cell (el c456
 11 (RF z453)) 2) λn463 _=>ax (decide (z454<(n463:Int))) (aA Is nN [[vI z452]] λr465=>az (0<=z453/\z453<(n455:Int))
 (aG 1 (cell (el c456 11 (RF z453)) 3) λn466 c467=>az (0<=z454/\z454<(n466:Int)) (az (0<=z453/\z453<(n455:Int)) (aG 5
 (cell (el c456 11 (RF z453)) 2) λn468 c469=>az (0<=z454/\z454<(n468:Int)) (ar (cell (ae fH 7) 3) λz470=>ax (decide
 (z470=(4:Int))) (az (0<=z453/\z453<(n455:Int)) (aG 1 (cell (el c456 11 (RF z453)) 4) λn471 c472=>az (0<=z454/\z454 <
 (n471:Int)) (az (aL (n459+1) 113) (az (aZ (z452+1)) (az (aZ (z454+1)) (sw [[cell (ae fH 0) 0],[vI z451],[vI (z452+1)],
 [vI z453],[vI (z454+1)],ae fH 5,[.sl n455 11 c456],cls (ae fH 7) 0 30 [],cls (ae fH 8) 0 5 [],[.sl n457 31 c458],[.sl (n459 +
 1) 11 (c460++(cls (ae r465 0) 0 3 (cell (el c467 1 (RF z454)) 0::cls (el c469 5 (RF z454)) 0 5 [cell (el c472 1 (RF z454))
 0,vI z454])))],[.sl n461 3 c462]])))))) (az (aL (n459+1) 113) (az (aZ (z452+1)) (az (aZ (z454+1)) (sw [[cell (ae fH 0) 0],
 [vI z451],[vI (z452+1)],[vI z453],[vI (z454+1)],ae fH 5,[.sl n455 11 c456],cls (ae fH 7) 0 30 [],cls (ae fH 8) 0 5 [],[.sl
 n457 31 c458],[.sl (n459+1) 11 (c460++(cls (ae r465 0) 0 3 (cell (el c467 1 (RF z454)) 0::cls (el c469 5 (RF z454)) 0 5 [vI 0,
 vI z454])))],[.sl n461 3 c462]]))))))))) (az (aL (n457+1) 353) (az (0<=z453/\z453<(n455:Int)) (az (0<=z453/\z453<(n455:Int))
 (ar (cell (el c456 11 (RF z453)) 10) λz473=>az (0<=z473/\z473<((1:Nat):Int)) (ax (decide (z473=((0:Nat):Int))) (az
 (aL (n461+1) 25) (ar (cell (el c456 11 (RF z453)) 10) λz474=>az (0<=z474/\z474<((1:Nat):Int)) (ax (decide (z474=((0 :
 Nat):Int))) (az (aZ (z453+1)) (Cs [[cell (ae fH 0) 0],[vI z451],[vI z452],[vI (z453+1)],ae fH 5,[.sl n455 11 c456],cls
 (ae fH 8) 0 5 [],[.sl (n457+1) 31 (c458++(cls (ae fH 7) 0 8 (.sl n459 11 c460::cls (ae fH 7) 8 22 [])))],[.sl (n461+1) 3 (c462
 ++ (cls (ae fH 7) 0 3 []))]])) (False)))) (False)))))))) [[cell (ae mn 0) 0],[vI z438],[vI z439],[vI z440],[vI 0],ae mn 4,[.sl
 n441 11 c442],cls (ae r447 0) 0 3 (cell (el c442 11 (RF z440)) 0::cls (ae r448 0) 0 3 (cell (el c442 11 (RF z440)) 1::cls (sub
 (el c442 11 (RF z440)) 5 5) 0 5 ([vI 0,vI 0,vI 0,vI 0,vI 0,vI 0,vI 0,vI 0,vI 0,vI 0,vI 0,vI 0,.sl 0 5 [],.sl 0 15 [],.sl 0 1
 [],vI 0,.sl 0 1 []]))),cls (ae mn 6) 0 5 [],[.sl n443 31 c444],[.sl 0 11 []],[.sl n445 3 c446]])))))) (oO Is K [[vI z439],[vI 0],
 ae mn 4,[.sl 1 6 (cls (ae mn 6) 0 5 [.sl n445 3 c446])],[.sl 1 6 (cls (ae mn 6) 0 5 [.sl n445 3 c446]),cell (ae mn 0) 0,vI 24,
 vI 0,vI 0,vI 0,vI 0,vI 0,vI 0,vI 0],[.sl n443 31 c444]])) [[cell (ae a 0) 0],[vI (1+z2)],[vI ((1+z2)+(n301:Int))],[vI 0],[.sl 0
 6 [],.sl 0 31 []],[.sl n301 11 c302],cls (ae r3 0) 0 3 ([cell (el ([vS (Se #[99,111,114,101]),vS (Se #[109,105,108,
 108])]) 1 0) 0,.sl 0 3 []]),[.sl 0 31 []],[.sl 0 3 []]])))))) (aA Is s31 [[cell (ae a 0) 0],[vI (1+z2)]] λr543=>aG 11 (cell (ae r543
 0) 0) λn544 c545=>az (aZ ((1+z2)+(n544:Int))) (Lp (λ_ nM=>ar (cell (ae nM 1) 0) λz548=>ar (cell (ae nM 2) 0)
 λz549=>ar (cell (ae nM 3) 0) λz550=>aG 11 (cell (ae nM 6) 0) λn551 c552=>aG 31 (cell (ae nM 7) 0) λn553 c554 =>
 ax (decide (z550<(n551:Int))) (az (aZ (z548+z550)) (aA Is nN [[vI (z548+z550)]] λr555=>az (0<=z550/\z550<(n551:Int)) (az
 (0<=z550/\z550<(n551:Int)) (aA Is nN [[cell (el c552 11 (RF z550)) 10]] λr556=>az (0<=z550/\z550<(n551:Int)) (az (0 <=
 z550/\z550<(n551:Int)) (Lp (λsr jA=>ar (cell (ae jA 1) 0) λz584=>ar (cell (ae jA 2) 0) λz585=>ar (cell
 (ae jA 3) 0) λz586=>ar (cell (ae jA 4) 0) λz587=>aG 11 (cell (ae jA 7) 0) λn588 c589=>aG 31 (cell (ae jA 9) 0)
 λn590 c591=>aG 11 (cell (ae jA 10) 0) λn592 c593=>az (0<=z586/\z586<(n588:Int)) (aG 5 (cell (el c589 11 (RF z586))
 2) λn594 _=>ax (decide (z587<(n594:Int))) (aA Is nN [[vI z585]] λr596=>az (0<=z586/\z586<(n588:Int)) (aG 1 (cell (el c589
 11 (RF z586)) 3) λn597 c598=>az (0<=z587/\z587<(n597:Int)) (az (0<=z586/\z586<(n588:Int)) (aG 5 (cell (el c589 11
 (RF z586)) 2) λn599 c600=>az (0<=z587/\z587<(n599:Int)) (ar (cell (ae jA 8) 3) λz601=>ax (decide (z601=(4:Int)))
 (az (0<=z586/\z586<(n588:Int)) (aG 1 (cell (el c589 11 (RF z586)) 4) λn602 c603=>az (0<=z587/\z587<(n602:Int)) (az
 (aL (n592+1) 113) (az (aZ (z585+1)) (az (aZ (z587+1)) (sr [[cell (ae jA 0) 0],[vI z584],[vI (z585+1)],[vI z586],[vI (z587
 + 1)],ae jA 5,[cell (ae jA 6) 0],[.sl n588 11 c589],cls (ae jA 8) 0 30 [],[.sl n590 31 c591],[.sl (n592+1) 11 (c593++(cls (ae
 r596 0) 0 3 (cell (el c598 1 (RF z587)) 0::cls (el c600 5 (RF z587)) 0 5 [cell (el c603 1 (RF z587)) 0,vI z587])))]]))))))
 (az (aL (n592+1) 113) (az (aZ (z585+1)) (az (aZ (z587+1)) (sr [[cell (ae jA 0) 0],[vI z584],[vI (z585+1)],[vI z586],[vI
 (z587+1)],ae jA 5,[cell (ae jA 6) 0],[.sl n588 11 c589],cls (ae jA 8) 0 30 [],[.sl n590 31 c591],[.sl (n592+1) 11 (c593 ++
 (cls (ae r596 0) 0 3 (cell (el c598 1 (RF z587)) 0::cls (el c600 5 (RF z587)) 0 5 [vI 0,vI z587])))]]))))))))) (az (aL (n590 +
 1) 353) (az (0<=z586/\z586<(n588:Int)) (az (0<=z586/\z586<(n588:Int)) (ar (cell (el c589 11 (RF z586)) 10) λz604=>aG 6
 (cell (ae jA 6) 0) λn605 _=>az (0<=z604/\z604<(n605:Int)) (False))))))) [[cell (ae nM 0) 0],[vI z548],[vI z549],[vI z550],
 [vI 0],ae nM 4,[cell (ae nM 5) 0],[.sl n551 11 c552],cls (ae r555 0) 0 3 (cell (el c552 11 (RF z550)) 0::cls (ae r556 0) 0 3
 (cell (el c552 11 (RF z550)) 1::cls (sub (el c552 11 (RF z550)) 5 5) 0 5 ([vI 0,vI 0,vI 0,vI 0,vI 0,vI 0,vI 0,vI 0,vI 0,vI
 0,vI 0,vI 0,.sl 0 5 [],.sl 0 15 [],.sl 0 1 [],vI 0,.sl 0 1 []]))),[.sl n553 31 c554],[.sl 0 11 []]])))))) (oO Is K [[vI z549],[vI
 0],ae nM 4,[cell (ae nM 5) 0],[cell (ae nM 5) 0,cell (ae nM 0) 0,vI 24,vI 0,vI 0,vI 0,vI 0,vI 0,vI 0,vI 0],[.sl n553 31
 c554]])) [[cell (ae a 0) 0],[vI (1+z2)],[vI ((1+z2)+(n544:Int))],[vI 0],[.sl 0 6 [],.sl 0 31 []],[.sl 0 6 []],[.sl n544 11 c545],
 [.sl 0 31 []]])))
theorem g8_eq(Is:Cx)(a:bT)(K:bT->Prop):g8 Is a K=g8c Is a K:=rfl
theorem p8(p:aN)(i:Nat):cell p.enc i=cell [aj p.kind,bM p.name,.sl p.types.length 5 (p.types.flatMap Ty.enc),.sl p.aJ.length 1 (p.aJ.map bM),.sl p.ly.length 1 (p.ly.map aj),aj p.aq.kind,aj p.aq.df.aH,aj p.aq.df.seq,aj p.aq.df.index,.sl p.aq.kids.length 5 (p.aq.kids.flatMap Ty.enc),aj p.mod] i:=by cases p;rw[aN.iN];rfl
theorem NS(p:aN):sub p.enc 5 5=p.aq.enc:=by cases p;rw[aN.iN,Ty.aD];rfl
def dL(d:an):List D:=[aj d.id.aH,aj d.id.seq,aj d.id.index,aj d.kind,aj d.mod.aH,aj d.mod.seq,aj d.mod.index,bM d.name,aj d.aq.kind,aj d.aq.df.aH,aj d.aq.df.seq,aj d.aq.df.index,.sl d.aq.kids.length 5 (d.aq.kids.flatMap Ty.enc),
 aj d.body.id.aH,aj d.body.id.seq,aj d.body.id.index,aj d.body.kind,aj d.body.n,aj d.body.ref.aH,aj d.body.ref.seq,aj d.body.ref.index,aj d.body.ty.kind,aj d.body.ty.df.aH,aj d.body.ty.df.seq,aj d.body.ty.df.index,
  .sl d.body.ty.kids.length 5 (d.body.ty.kids.flatMap Ty.enc),.sl d.body.kids.length 15 (d.body.kids.flatMap Ex.enc),.sl d.body.aJ.length 1 (d.body.aJ.map bM),aj d.bm,.sl d.bF.length 1 (d.bF.map bM)]
theorem xW{p:aN}{nx:Int}{k:Nat}(hk:k<p.types.length)(hn:p.types.length<=p.aJ.length)(hk':k<(cO p nx).length):(cO p nx)[k]=⟨fA (nx+k),p.aJ[k]'Q0,p.types[k],if p.kind=4 then p.ly.getD k 0 else 0,k⟩:=by
 unfold cO
 grind
theorem kW(m:Int):∀(ps:List aN) (i:Int),(bN m ps i).length<=ps.length
 |[],_=>Sc _
 |p::ps,i=>by rw[bN,RS,RU];have:=kW m ps (i+1);split <;> simp <;> omega
theorem oN(m:Int){ps:List aN}{k:Nat}(hk:k<ps.length)(i:Int):bN m (ps.take (k+1)) i=bN m (ps.take k) i++(if ps[k].mod=m then[fA (i+k)] else[]):=by rw[RJ hk,qq,Sn,Tf Q0,bN,bN,RW]
theorem xX{ps:List aN}{k:Nat}(hk:k<ps.length)(i nx:Int):bx (ps.take (k+1)) i nx=bx (ps.take k) i nx++[jR ps[k] (i+k) (nx+dQ (ps.take k))]:=by
 grind [RJ,nv,Sn,Tf,bx]
theorem tZ{ps:List aN}{k:Nat}(hk:k<ps.length):dQ (ps.take (k+1))=dQ (ps.take k)+ps[k].types.length:=by rw[RJ hk,u9,mB];rfl
theorem Jx{ps:List aN}(h:∀p∈ps,p.types.length<=3):∀k,dQ (ps.take k)<=3*k:=by
 intro k;induction k with
 |zero=>simp[dQ]
 |succ k ih =>
  by_cases hk:k<ps.length
  .rw[tZ hk];have:=h _ (RQ hk);omega
  .rw[Su Q0]at ih ⊢;omega
theorem prog_is{l:List Int}(hl:∀x∈l,lX x):IS s8 [[bY l]] [(aK l).enc]:=by
 refine w8.is ?_;rw[g8_eq];unfold g8c;simp only[ai];refine ab (RB Q1 hl) ?_;simp only[ai];have h2:=eO l 0 2 Q0;have hM:ay l=1+eH l 0 2:=rfl;have hn1:1<=ay l:=Q0;refine⟨Q4,λ_=>ab (lY Q1 (by unfold lX;omega)) ?_,λh=>J3 (show(0:Int)<1+eH l 0 2 by omega) h⟩;simp only[ai];refine⟨Q1,by unfold aL;decide,by unfold aZ;decide,λhw=>?_,λhw=>?_⟩
 .refine ab (lY Q1 (by unfold lX;omega)) ?_;simp only[ai];refine⟨Q1,ab (lY Q1 (by unfold lX;omega)) ⟨by unfold aL;decide,by unfold aZ;decide,λh=>J3 h Q0,λ_=>?_⟩⟩;have hN:ay l=2:=Q0;rw[<-hM];refine ab (Eu hl Q0) ?_;simp only[ai];have hok:=jD (l:=l) hn1;have hlen:=eK l (ay l);have hpt:=Jx λp hp=>(hok p hp).t3;have hb:=By l;have hnm:=ui l;have hsq:=qJ l;have hfin:(aK l).enc=[.sl (bU l).length 6 ((bU l).flatMap aO.enc),.sl (dv (aX l).length 0 (bu (bU l) l (aX l).length 0 (aX l) ⟨24,0,0,0⟩).1 (Sj (bu (bU l) l (aX l).length 0 (aX l) ⟨24,0,0,0⟩).2.bj.toNat kx) (ig l)).length 31 ((dv (aX l).length 0 (bu (bU l) l (aX l).length 0 (aX l) ⟨24,0,0,0⟩).1 (Sj (bu (bU l) l (aX l).length 0 (aX l) ⟨24,0,0,0⟩).2.bj.toNat kx) (ig l)).flatMap an.enc)]:=rfl;rw[hfin];have hpm:bU l=[⟨fA 0,qp,[],bN 0 (bw l (ay l)) (ay l)⟩,⟨fA 1,AL,[fA 0],bN 1 (bw l (ay l)) (ay l)⟩]:=by grind [bU]
  have hds:aX l=bx (bw l (ay l)) (ay l) (ay l+(bw l (ay l)).length):=rfl;have hnx:ig l=ay l+(bw l (ay l)).length+dQ (bw l (ay l)):=rfl;rw[hds]at hb hnm hsq ⊢;rw[hnx];rw[hpm]at hb hnm ⊢;clear hfin hds hnx hpm;generalize bw l (ay l)=ps at hok hlen hpt hb hnm hsq ⊢;generalize ay l=n at hn1 hN hok hb hnm hsq ⊢;refine⟨Q4,?_⟩;refine bc ps.length (λi=>[[bY l],[vI n],[vI (n+ps.length+dQ (ps.take i))],[vI (i:Nat)],[.sl 0 6 [],.sl 0 31 []],[.sl ps.length 11 (ps.flatMap aN.enc)],[aj (fA 0).aH,aj (fA 0).seq,aj (fA 0).index,vS qp,.sl 0 3 [],aj (fA 1).aH,aj (fA 1).seq,aj (fA 1).index,vS AL],[.sl (bx (ps.take i) n (n+ps.length)).length 31 ((bx (ps.take i) n (n+ps.length)).flatMap an.enc)],[.sl (bN 0 (ps.take i) n).length 3 ((bN 0 (ps.take i) n).flatMap av.enc)],[.sl 1 3 ((fA 0).enc++[])],[.sl (bN 1 (ps.take i) n).length 3 ((bN 1 (ps.take i) n).flatMap av.enc)]]) (λ_=>True) trivial (by rw[TB];simp only[dQ,bx,bN,Tr,ZP,Vd,WS];rfl) λi next hi _ hnext=>?_
  have h0:=kW 0 (ps.take i) n;have h1:=kW 1 (ps.take i) n;rw[Sn,Tf hi]at h0 h1;simp only[ai];refine⟨λh=>?_,λh=>?_⟩
  .have hk:i<ps.length:=Q0;have ok:=hok _ (RQ hk);have hnx:=hnext hk trivial;have hpi:=hpt i;rw[xX hk,tZ hk,oN 0 hk,oN 1 hk]at hnx;have hep:=el_Pl ps hk;rw[hep];simp only[ai,p8];generalize hnxt:n+(ps.length:Int)+(dQ (ps.take i):Int)=nxt at hnx ⊢;generalize ps[i]=p at ok hnx hep ⊢;refine⟨Q4,ab (lY Q0 (by unfold lX;omega)) ⟨Q0,Q0,ab (lY ok.mod.1 (by unfold lX;have:=ok.mod;omega)) ⟨Q0,Q0,?_⟩⟩⟩;have ok3:=ok.t3;refine bc p.types.length (λk=>[[bY l],[vI n],[vI (nxt+k)],[vI (i:Nat)],[vI (k:Nat)],[.sl 0 6 [],.sl 0 31 []],[.sl ps.length 11 (ps.flatMap aN.enc)],dL (jR p (n+i) nxt),[aj (fA 0).aH,aj (fA 0).seq,aj (fA 0).index,vS qp,.sl 0 3 [],aj (fA 1).aH,aj (fA 1).seq,aj (fA 1).index,vS AL],[.sl (bx (ps.take i) n (n+ps.length)).length 31 ((bx (ps.take i) n (n+ps.length)).flatMap an.enc)],[.sl k 11 (((cO p nxt).take k).flatMap aC.enc)],[.sl (bN 0 (ps.take i) n).length 3 ((bN 0 (ps.take i) n).flatMap av.enc)],[.sl 1 3 ((fA 0).enc++[])],[.sl (bN 1 (ps.take i) n).length 3 ((bN 1 (ps.take i) n).flatMap av.enc)]]) (λ_=>True) trivial (by simp only[ai,aF,NS,Vd,WS];rfl) λk lO hkl _ hn2=>?_;simp only[ai];rw[hep];simp only[ai,p8];have hnames:=ok.aJ;have hpsl:=cw p nxt;refine⟨Q0,λh=>?_,λh=>?_⟩
   .have hk2:k<p.types.length:=Q0;refine ab (lY Q0 (by unfold lX;omega)) ?_;rw[uG p.aJ (show k<p.aJ.length by omega),yT _ hk2];simp only[ai,dL];have hgo:=hn2 hk2 trivial;rw[RJ (show k<(cO p nxt).length by omega),Sd,RT,Sw,RW,xW hk2 hnames]at hgo;have hkd:(jR p (n+i) nxt).kind=p.kind:=rfl;have hkk:((nxt+(k:Int))+1)=nxt+((k+1:Nat):Int):=Q0;refine⟨Q0,Q0,Q0,Q0,λh4=>⟨Q0,?_⟩,λh4=>?_⟩
    .have hbs:=ok.ly Q0;rw[uG p.ly (show k<p.ly.length by omega)];simp only[ai];rw[J2 (show p.kind=4 by omega),S9,R5 (show k<p.ly.length by omega)]at hgo;refine⟨Q0,Qa,Q4,Q4,?_⟩;rw[hkk];exact hgo
    .rw[J1 (show ¬p.kind=4 by omega)]at hgo;refine⟨Qa,Q4,Q4,?_⟩;rw[hkk];exact hgo
   .obtain rfl:k=p.types.length:=Q0;rw[Su (show(cO p nxt).length<=p.types.length by omega)];have hdl2:(bx (ps.take i) n (n+ps.length)).length=i:=by rw[cG,Sn];omega
    have hmod:=ok.mod;rw[show n+(ps.length:Int)+((dQ (ps.take i)+p.types.length:Nat):Int)=nxt+(p.types.length:Int) by omega,Sd,RT,Sw,RW]at hnx;simp only[RS,RU,UB]at hnx;simp only[ai,dL];refine⟨Qa,Q0,Q0,Q0,λhm0=>⟨Qa,Q0,λ_=>⟨Q4,?_⟩,λh=>J3 hm0 h⟩,λhm0=>⟨λhm1=>⟨Qa,Q0,λh=>J3 h hm0,λ_=>⟨λ_=>⟨Q4,?_⟩,λh=>J3 hm1 h⟩⟩,λhm1=>by omega⟩⟩
    .rw[J2 (show p.mod=0 from hm0),J1 (show ¬p.mod=1 by omega)]at hnx;simp only[Sd,RT,Sw,RW,RU,UB,S2]at hnx;rw[<-hpsl];rw[<-hpsl]at hnx;exact hnx
    .rw[J1 (show ¬p.mod=0 from hm0),J2 (show p.mod=1 from hm1)]at hnx;simp only[Sd,RT,Sw,RW,RU,UB,S2]at hnx;rw[<-hpsl];rw[<-hpsl]at hnx;exact hnx
  .obtain rfl:i=ps.length:=Q0;rw[Sl];refine vi hl Q2 hb hnm (by rw[cG];omega) (by grind) hsq ?_;rfl
 .have hN:ay l=1:=Q0;rw[<-hM];refine ab (Eu hl Q0) ?_;simp only[ai];have hok:=jD (l:=l) hn1;have hlen:=eK l (ay l);have hpt:=Jx λp hp=>(hok p hp).t3;have hb:=By l;have hnm:=ui l;have hsq:=qJ l;have hfin:(aK l).enc=[.sl (bU l).length 6 ((bU l).flatMap aO.enc),.sl (dv (aX l).length 0 (bu (bU l) l (aX l).length 0 (aX l) ⟨24,0,0,0⟩).1 (Sj (bu (bU l) l (aX l).length 0 (aX l) ⟨24,0,0,0⟩).2.bj.toNat kx) (ig l)).length 31 ((dv (aX l).length 0 (bu (bU l) l (aX l).length 0 (aX l) ⟨24,0,0,0⟩).1 (Sj (bu (bU l) l (aX l).length 0 (aX l) ⟨24,0,0,0⟩).2.bj.toNat kx) (ig l)).flatMap an.enc)]:=rfl;rw[hfin];have hpm:bU l=[⟨fA 0,qp,[],bN 0 (bw l (ay l)) (ay l)⟩]:=by grind [bU]
  have hds:aX l=bx (bw l (ay l)) (ay l) (ay l+(bw l (ay l)).length):=rfl;have hnx:ig l=ay l+(bw l (ay l)).length+dQ (bw l (ay l)):=rfl;rw[hds]at hb hnm hsq ⊢;rw[hnx];rw[hpm]at hb hnm ⊢;clear hfin hds hnx hpm;generalize bw l (ay l)=ps at hok hlen hpt hb hnm hsq ⊢;generalize ay l=n at hn1 hN hok hb hnm hsq ⊢;refine⟨Q4,?_⟩;refine bc ps.length (λi=>[[bY l],[vI n],[vI (n+ps.length+dQ (ps.take i))],[vI (i:Nat)],[.sl 0 6 [],.sl 0 31 []],[.sl ps.length 11 (ps.flatMap aN.enc)],[aj (fA 0).aH,aj (fA 0).seq,aj (fA 0).index,vS qp,.sl 0 3 []],[.sl (bx (ps.take i) n (n+ps.length)).length 31 ((bx (ps.take i) n (n+ps.length)).flatMap an.enc)],[.sl (bN 0 (ps.take i) n).length 3 ((bN 0 (ps.take i) n).flatMap av.enc)]]) (λ_=>True) trivial (by rw[TB];simp only[dQ,bx,bN,Tr,ZP,Vd,WS];rfl) λi next hi _ hnext=>?_
  have h0:=kW 0 (ps.take i) n;have h1:=kW 1 (ps.take i) n;rw[Sn,Tf hi]at h0 h1;simp only[ai];refine⟨λh=>?_,λh=>?_⟩
  .have hk:i<ps.length:=Q0;have ok:=hok _ (RQ hk);have hnx:=hnext hk trivial;have hpi:=hpt i;rw[xX hk,tZ hk,oN 0 hk]at hnx;have hep:=el_Pl ps hk;rw[hep];simp only[ai,p8];generalize hnxt:n+(ps.length:Int)+(dQ (ps.take i):Int)=nxt at hnx ⊢;generalize ps[i]=p at ok hnx hep ⊢;refine⟨Q4,ab (lY Q0 (by unfold lX;omega)) ⟨Q0,Q0,ab (lY ok.mod.1 (by unfold lX;have:=ok.mod;omega)) ⟨Q0,Q0,?_⟩⟩⟩;have ok3:=ok.t3;refine bc p.types.length (λk=>[[bY l],[vI n],[vI (nxt+k)],[vI (i:Nat)],[vI (k:Nat)],[.sl 0 6 [],.sl 0 31 []],[.sl ps.length 11 (ps.flatMap aN.enc)],dL (jR p (n+i) nxt),[aj (fA 0).aH,aj (fA 0).seq,aj (fA 0).index,vS qp,.sl 0 3 []],[.sl (bx (ps.take i) n (n+ps.length)).length 31 ((bx (ps.take i) n (n+ps.length)).flatMap an.enc)],[.sl k 11 (((cO p nxt).take k).flatMap aC.enc)],[.sl (bN 0 (ps.take i) n).length 3 ((bN 0 (ps.take i) n).flatMap av.enc)]]) (λ_=>True) trivial (by simp only[ai,aF,NS,Vd,WS];rfl) λk lO hkl _ hn2=>?_;simp only[ai];rw[hep];simp only[ai,p8];have hnames:=ok.aJ;have hpsl:=cw p nxt;refine⟨Q0,λh=>?_,λh=>?_⟩
   .have hk2:k<p.types.length:=Q0;refine ab (lY Q0 (by unfold lX;omega)) ?_;rw[uG p.aJ (show k<p.aJ.length by omega),yT _ hk2];simp only[ai,dL];have hgo:=hn2 hk2 trivial;rw[RJ (show k<(cO p nxt).length by omega),Sd,RT,Sw,RW,xW hk2 hnames]at hgo;have hkd:(jR p (n+i) nxt).kind=p.kind:=rfl;have hkk:((nxt+(k:Int))+1)=nxt+((k+1:Nat):Int):=Q0;refine⟨Q0,Q0,Q0,Q0,λh4=>⟨Q0,?_⟩,λh4=>?_⟩
    .have hbs:=ok.ly Q0;rw[uG p.ly (show k<p.ly.length by omega)];simp only[ai];rw[J2 (show p.kind=4 by omega),S9,R5 (show k<p.ly.length by omega)]at hgo;refine⟨Q0,Qa,Q4,Q4,?_⟩;rw[hkk];exact hgo
    .rw[J1 (show ¬p.kind=4 by omega)]at hgo;refine⟨Qa,Q4,Q4,?_⟩;rw[hkk];exact hgo
   .obtain rfl:k=p.types.length:=Q0;rw[Su (show(cO p nxt).length<=p.types.length by omega)];have hdl2:(bx (ps.take i) n (n+ps.length)).length=i:=by rw[cG,Sn];omega
    have hmod:=ok.mod;rw[show n+(ps.length:Int)+((dQ (ps.take i)+p.types.length:Nat):Int)=nxt+(p.types.length:Int) by omega,Sd,RT,Sw,RW]at hnx;simp only[RS,RU,UB]at hnx;simp only[ai,dL];refine⟨Qa,Q0,Q0,Q0,λhm0=>⟨Qa,Q0,λ_=>⟨Q4,?_⟩,λh=>J3 hm0 h⟩,λhm0=>by omega⟩
    .rw[J2 (show p.mod=0 from hm0)]at hnx;simp only[Sd,RT,Sw,RW,RU,UB]at hnx;rw[<-hpsl];rw[<-hpsl]at hnx;exact hnx
  .obtain rfl:i=ps.length:=Q0;rw[Sl];refine vi hl Q2 hb hnm (by rw[cG];omega) (by grind) hsq ?_;rfl
open Go Xe Pm
set_option maxRecDepth 100000
abbrev s15:bC:=⟨15,⟨[(0,.a 2)],[]⟩,.t [.c (.w 0),.c (.w 1)],[hR 0 42 3,hR 1 42 3],false⟩
abbrev s63:bC:=⟨63,⟨[(0,.a 2)],[]⟩,.c (.w 0),[hR 0 42 3],false⟩
abbrev s78:bC:=⟨78,⟨[hW 0 0,(1,.c (.f 55 []))],[hR 0 42 3]⟩,.t [],[hR 0 42 3],false⟩
abbrev s79:bC:=⟨79,⟨[hW 0 0],[hR 0 42 3]⟩,.c (.w 1),[hR 1 42 3],false⟩
abbrev s18:bC:=⟨18,⟨[(0,.a 2),(1,.a 3)],[]⟩,.c (.w 0),[hR 0 42 3],false⟩
abbrev Gt:bC:=⟨46,⟨[(0,.a 2),(1,.a 3)],[]⟩,.t [.a 31,.c .bo],[],false⟩
abbrev s146:bC:=⟨146,⟨[hD 0,(1,.c (.f 147 [.p 0 0]))],[hA 0 42 3]⟩,.c .i,[hA 0 42 3],false⟩
abbrev s147:bC:=⟨147,⟨[(0,.a 31),hP 1 0],[hA 0 42 3]⟩,.c .bo,[hA 0 42 3],false⟩
abbrev s73:bC:=⟨73,⟨[(0,.a 5)],[]⟩,.c (.w 0),[hR 0 42 3],false⟩
abbrev s49:bC:=⟨49,⟨[(0,.a 31)],[]⟩,.c .bo,[],true⟩
abbrev s74:bC:=⟨74,⟨[(0,.a 15),(1,.c (.f 75 [.p 0 0]))],[(0,.b 36 [.w 1]),hR 1 42 3]⟩,.t [],[(0,.b 36 [.w 2]),hR 2 42 3],false⟩
abbrev s75:bC:=⟨75,⟨[(0,.a 15),hP 1 0],[(0,.b 36 [.w 1]),hR 1 42 3]⟩,.t [],[(0,.b 36 [.w 2]),hR 2 42 3],false⟩
abbrev s76:bC:=⟨76,⟨[hW 0 0,(1,.c (.f 77 [.p 1 0]))],[hR 0 42 3,hA 1 26 2]⟩,.c (.w 2),[hR 2 42 3,hA 1 26 2],false⟩
abbrev s64:bC:=⟨64,⟨[hW 0 0,(1,.c (.f 77 [.p 1 0]))],[hR 0 42 3,hA 1 26 2]⟩,.c .i,[hR 0 42 3,hA 1 26 2],false⟩
abbrev Jg:bC:=⟨64,⟨[hW 0 0,(1,.c (.f 65 [.p 1 0,.p 2 0]))],[hR 0 42 3,(1,.b 122 [.m 3]),(2,.b 36 [.w 4]),(3,.m 122 false 1),hR 4 42 3]⟩,.c .i,[hR 0 42 3,(1,.b 122 [.m 3]),(2,.b 36 [.w 4]),(3,.m 122 false 1),hR 4 42 3],false⟩
abbrev Jf:bC:=⟨64,⟨[hD 0,(1,.c (.f 67 [.p 0 0]))],[(0,.b 36 [.w 1]),hR 1 42 3]⟩,.c .i,[(0,.b 36 [.w 1]),hR 1 42 3],false⟩
abbrev s77:bC:=⟨77,⟨[(0,.a 3),hP 1 0],[hA 0 26 2]⟩,.c .bo,[hA 0 26 2],false⟩
abbrev s65:bC:=⟨65,⟨[(0,.a 3),hP 1 0,hP 2 1],[(0,.b 122 [.m 2]),(1,.b 36 [.w 3]),(2,.m 122 false 1),hR 3 42 3]⟩,.c .bo,[(0,.b 122 [.m 2]),(1,.b 36 [.w 3]),(2,.m 122 false 1),hR 3 42 3],false⟩
abbrev s66:bC:=⟨66,⟨[hD 0,(1,.c (.f 67 [.p 0 0]))],[(0,.b 36 [.w 1]),hR 1 42 3]⟩,.c .bo,[(0,.b 36 [.w 1]),hR 1 42 3],false⟩
abbrev s67:bC:=⟨67,⟨[(0,.a 3),hP 1 0],[(0,.b 36 [.w 1]),hR 1 42 3]⟩,.c .bo,[(0,.b 36 [.w 1]),hR 1 42 3],false⟩
abbrev s68:bC:=⟨68,⟨[hW 0 0,(1,.a 3)],[hR 0 42 3]⟩,.c .bo,[hR 0 42 3],false⟩
abbrev s160:bC:=⟨160,⟨[hW 0 0,(1,.a 3)],[hR 0 42 3]⟩,.c .i,[hR 0 42 3],false⟩
abbrev s69:bC:=⟨69,⟨[hW 0 0,hI 1,hI 2],[hR 0 42 3]⟩,.c (.w 1),[hR 1 42 3],false⟩
abbrev s27:bC:=⟨27,⟨[hI 0],[]⟩,.c .bo,[],true⟩
abbrev s20:bC:=⟨20,⟨[hD 0,(1,.a 3)],[]⟩,.c .bo,[],true⟩
abbrev s17:bC:=⟨17,⟨[hD 0,hD 1],[]⟩,.c .bo,[],true⟩
abbrev s14:bC:=⟨14,⟨[],[]⟩,.c .bo,[],false⟩
def g15:Tx:=λIs a K=>aA Is s63 [ae a 0] λU=>sK 3 U 0 λS V=>jn (λW=>Lp (λi b=>iK b 0 λT=>iK b 1 λh=>sK 3 b 3 λj c=>sK 3 b 4 λr s=>sK 4 b 5 λl m=>ax (decide (h<T)) (kI h j (aA Is s18 [ae b 2,eT c 3 h] λx=>sK 3 x 0 λy z=>ar (cell (eT c 3 h) 0) λt=>ar (cell (eT c 3 h) 1) λu=>ar (cell (eT c 3 h) 2) λv=>oK h (i [[vI T],[vI (h+1)],ae b 2,[.sl j 3 c],[.sl r 3 s],[.sl (fM 4 t u v l m) 4 (dc 4 t u v [.sl y 3 z] l m)]]))) (W [[.sl j 3 c],[.sl r 3 s],[.sl l 4 m]])) [[vI S],[vI 0],ae a 0,[.sl S 3 V],[.sl 0 3 []],[.sl 0 4 []]]) (λn=>sK 3 n 0 λA B=>sK 3 n 1 λC D=>sK 4 n 2 λE F=>Lp (λf e=>sK 3 e 0 λG H=>sK 3 e 1 λI J=>sK 4 e 2 λL M=>aA Is Jg [[.sl G 3 H],[.sl L 4 M],[.sl I 3 J]] λg=>iK g 0 λd=>sK 3 g 1 λo p=>sK 4 g 2 λN O=>sK 3 g 3 λq w=>ax (decide (d<(0:Int))) (K [[.sl q 3 w],[.sl o 3 p]]) (kI d o (az (aL (q+1) 25) (oK d (aA Is s69 [[vI d],[vI (d+1)],[.sl o 3 p]] λP=>sK 3 P 0 λQ R=>f [[.sl Q 3 R],[.sl (q+1) 3 (w++((eT p 3 d)++[]))],[.sl N 4 O]]))))) [[.sl A 3 B],[.sl C 3 D],[.sl E 4 F]])
theorem w15:Wd (cF [s18,s63,Jg,s69]) ⟨[(5,⟨[hP 1 0,hP 4 1,hW 5 2,hP 6 3,hW 13 2,hI 14,hI 15],[hA 0 26 2,(1,.b 36 [.w 4]),hR 2 42 3,(3,.b 122 [.m 5]),hR 4 42 3,(5,.m 122 false 1)]⟩),(9,⟨[hP 4 0,hW 5 1,hP 6 2],[(0,.b 36 [.w 3]),hR 1 42 3,(2,.b 122 [.m 4]),hR 3 42 3,(4,.m 122 false 1)]⟩)],[(9,⟨[hP 4 0,hW 5 1,hP 6 2],[(0,.b 36 [.w 3]),hR 1 42 3,(2,.b 122 [.m 4]),hR 3 42 3,(4,.m 122 false 1)]⟩)],[]⟩ s15 g15:=Wk
def g63:Tx:=λIs a K=>jn (λt=>aG 31 (cell (ae a 0) 1) λu _=>Lp (λc b=>iK b 1 λs=>iK b 2 λd=>sK 3 b 3 λf e=>ax (decide (d<s)) (sK 31 b 0 λg h=>kI d g (az (aL (f+1) 25) (oK d (c [[Cz b 0],[vI s],[vI (d+1)],[.sl (f+1) 3 (e++((sub (eT h 31 d) 0 3)++[]))]])))) (t [[.sl f 3 e]])) [[cell (ae a 0) 1],[vI u],[vI 0],[.sl 0 3 []]]) (λi=>sK 3 i 0 λj l=>aA Is s78 [[.sl j 3 l]] λm=>sK 3 m 0 λn o=>aA Is s79 [[.sl n 3 o]] λp=>sK 3 p 0 λq r=>K [[.sl q 3 r]])
theorem w63:Wd (cF [s78,s79]) ⟨[(3,⟨[hW 3 0,hD 7,hI 8,hI 9],[hR 0 42 3]⟩)],[(7,⟨[hW 3 0],[hR 0 42 3]⟩)],[]⟩ s63 g63:=Wk
def g79:Tx:=λ_ a K=>sK 3 a 0 λs I=>ax (decide ((s:Int)<(2:Int))) (K [[.sl s 3 I]]) (Lp (λo p=>iK p 0 λg=>sK 3 p 1 λl m=>lK g l (kI g l (az (aZ (g-1)) (az (0<=(g-1)/\(g-1)<(l:Int)) (ar (cell (eT m 3 g) 0) λJ=>ar (cell (eT m 3 g) 1) λL=>ar (cell (eT m 3 g) 2) λt=>ar (cell (el m 3 (RF (g-1))) 0) λu=>ar (cell (el m 3 (RF (g-1))) 1) λv=>ar (cell (el m 3 (RF (g-1))) 2) λw=>ax (decide (J=u/\L=v/\t=w)) (az (0<=g/\g<=(l:Int)/\((0:Nat):Int)+l<=((l:Nat):Int)) (Lp (λn h=>iK h 0 λc=>iK h 1 λf=>ar (cell (ae h 1) 1) λj=>iK h 2 λb=>sK 3 h 3 λd e=>ax (decide (b<(((RF j):Nat):Int))) (jn (λq=>az (0<=b/\b<(((RF j):Nat):Int)) (az (aZ (b-1)) (az (0<=(b-1)/\(b-1)<(((RF j):Nat):Int)) (ar (cell (el e 3 ((RF f)+(RF b))) 0) λx=>ar (cell (el e 3 ((RF f)+(RF b))) 1) λy=>ar (cell (el e 3 ((RF f)+(RF b))) 2) λz=>ar (cell (el e 3 ((RF f)+(RF (b-1)))) 0) λA=>ar (cell (el e 3 ((RF f)+(RF (b-1)))) 1) λB=>ar (cell (el e 3 ((RF f)+(RF (b-1)))) 2) λC=>ax (!(decide (x=A/\y=B/\z=C))) (az (0<=b/\b<(((RF j):Nat):Int)) (kI c d (oK c (q [[vI (c+1)],[vI (((RF f):Nat):Int),vI (((RF j):Nat):Int)],[vI b],[.sl d 3 (cB e ((RF c)*3+0) (el e 3 ((RF f)+(RF b))))]])))) (q [[vI c],[vI (((RF f):Nat):Int),vI (((RF j):Nat):Int)],[vI b],[.sl d 3 e]]))))) (λi=>iK i 0 λD=>iK i 1 λE=>ar (cell (ae i 1) 1) λF=>iK i 2 λr=>sK 3 i 3 λG H=>oK r (n [[vI D],[vI (((RF E):Nat):Int),vI (((RF F):Nat):Int)],[vI (r+1)],[.sl G 3 H]]))) (az (0<=c/\c<=(d:Int)/\((0:Nat):Int)+d<=((d:Nat):Int)) (az (3=3/\((0+(RF c))+((RF (d:Int))-(RF c)))<=d/\((RF (d:Int))-(RF c))<=1000000000000000) (az (0<=c/\c<=((d:Nat):Int)) (K [[.sl (RF c) 3 (sub (cB e ((0+(RF c))*3) (T6 (Sj ((RF (d:Int))-(RF c)) [vI 0,vI 0,vI 0]))) (0*3) ((RF c)*3))]]))))) [[vI g],[vI (((0+(RF g)):Nat):Int),vI ((((RF (l:Int))-(RF g)):Nat):Int)],[vI 1],[.sl l 3 m]])) (oK g (o [[vI (g+1)],[.sl l 3 m]])))))) (K [[.sl l 3 m]])) [[vI 1],[.sl s 3 I]])
theorem w79:Wd ⟨[],[42],[],[],lF,lE,true,gh,false,false,[59]⟩ ⟨[(4,⟨[hW 0 0,hI 3],[hR 0 42 3]⟩),(9,⟨[hW 0 0,hI 3,(4,.c (.y 0 3)),hI 5],[hR 0 42 3]⟩)],[(10,⟨[hW 0 0,hI 3,(4,.c (.y 0 3)),hI 5],[hR 0 42 3]⟩)],[]⟩ s79 g79:=Wk
def g18:Tx:=λIs a K=>aA Is Gt [ae a 0,ae a 1] λh=>bK h 1 λG=>ax (!G) (K [[.sl 0 3 []]]) (aA Is s73 [sub (ae h 0) 9 5] λH=>sK 3 H 0 λI J=>aG 11 (cell (ae h 0) 8) λL _=>Lp (λf b=>iK b 1 λi=>iK b 2 λc=>sK 3 b 5 λd g=>ax (decide (c<i)) (sK 11 b 0 λm n=>kI c m (aA Is s73 [sub (eT n 11 c) 4 5] λo=>sK 3 o 0 λj p=>az (aL (d+j) 25) (oK c (f [[Cz b 0],[vI i],[vI (c+1)],ae b 3,ae b 4,[.sl (d+j) 3 (g++p)]])))) (jn (λl=>aA Is s49 [ae b 4] λq=>bK q 0 λr=>ax r (aA Is s74 [sub (ae b 4) 14 15,[.sl d 3 g]] λs=>sK 3 s 0 λt u=>l [ae b 3,[.sl t 3 u]]) (l [ae b 3,[.sl d 3 g]])) (λe=>sK 3 e 1 λv w=>aA Is s76 [[.sl v 3 w],ae e 0] λx=>sK 3 x 0 λy z=>aA Is s78 [[.sl y 3 z]] λA=>sK 3 A 0 λB C=>aA Is s79 [[.sl B 3 C]] λD=>sK 3 D 0 λE F=>K [[.sl E 3 F]]))) [[cell (ae h 0) 8],[vI L],[vI 0],ae a 0,ae h 0,[.sl I 3 J]])
theorem w18:Wd (cF [Gt,s49,s73,s74,s76,s78,s79]) ⟨[(6,⟨[hP 2 0,hP 5 1,hP 7 2,hD 22,hI 23,hI 24],[hA 0 26 2,hA 1 52 31,(2,.b 36 [.w 3]),hR 3 42 3]⟩)],[(12,⟨[hP 2 0,hP 7 1],[hA 0 26 2,(1,.b 36 [.w 2]),hR 2 42 3]⟩)],[]⟩ s18 g18:=Wk
def g46:Tx:=λIs a K=>aA Is s146 [[cell (ae a 0) 1],ae a 1] λc=>iK c 0 λb=>ax (decide (b<(0:Int))) (K [[vI 0,vI 0,vI 0,vI 0,vI 0,vI 0,vI 0,.v (.string (Se #[])),.sl 0 11 [],vI 0,vI 0,vI 0,vI 0,.sl 0 5 [],vI 0,vI 0,vI 0,vI 0,vI 0,vI 0,vI 0,vI 0,vI 0,vI 0,vI 0,vI 0,.sl 0 5 [],.sl 0 15 [],.sl 0 1 [],vI 0,.sl 0 1 []],[vB false]]) (aG 31 (cell (ae a 0) 1) λd e=>kI b d (K [eT e 31 b,[vB true]]))
theorem w46:Wd (cF [s146]) hZ Gt g46:=Wk
def g146:Tx:=λIs a K=>sK 31 a 0 λh _=>Lp (λc b=>iK b 1 λg=>iK b 2 λd=>ax (decide (d<g)) (sK 31 b 0 λi j=>kI d i (aA Is s147 [eT j 31 d,ae b 3] λe=>bK e 0 λf=>ax f (K [[vI d],ae e 1]) (oK d (c [[Cz b 0],[vI g],[vI (d+1)],ae e 1])))) (K [[vI (-1)],ae b 3])) [[Cz a 0],[vI h],[vI 0],ae a 1]
theorem w146:Wd (cF [s147]) ⟨[(2,⟨[hD 0,(1,.c (.f 147 [.p 0 0])),hI 7,hI 8],[hA 0 42 3]⟩)],[],[]⟩ s146 g146:=Wk
def g147:Tx:=λ_ a K=>tK (sub (ae a 0) 0 3) λb c d=>iK a 1 λe=>ar (cell (ae a 1) 1) λf=>ar (cell (ae a 1) 2) λg=>K [[vB (decide (b=e/\c=f/\d=g))],ae a 1]
theorem w147:Wd (cF []) hZ s147 g147:=Wk
def g73:Tx:=λIs a K=>jn (λo=>iK a 0 λp=>ax (decide (p=(3:Int))) (az (aL (0+1) 25) (o [ae a 0,[.sl (0+1) 3 ((sub (ae a 0) 1 3)++[])]])) (o [ae a 0,[.sl 0 3 []]])) (λd=>sK 3 d 1 λq r=>aG 5 (cell (ae d 0) 4) λs _=>Lp (λe b=>iK b 1 λg=>iK b 2 λc=>sK 3 b 3 λf h=>ax (decide (c<g)) (sK 5 b 0 λj l=>kI c j (aA Is s73 [eT l 5 c] λm=>sK 3 m 0 λi n=>az (aL (f+i) 25) (oK c (e [[Cz b 0],[vI g],[vI (c+1)],[.sl (f+i) 3 (h++n)]])))) (K [[.sl f 3 h]])) [[cell (ae d 0) 4],[vI s],[vI 0],[.sl q 3 r]])
theorem w73:Wd (cF [s73]) ⟨[(5,⟨[hW 3 0,hD 15,hI 16,hI 17],[hR 0 42 3]⟩)],[(4,⟨[hP 1 0,hW 3 1],[hA 0 46 5,hR 1 42 3]⟩)],[]⟩ s73 g73:=Wk
def g49:Tx:=λ_ a K=>ar (cell (ae a 0) 3) λb=>ax (decide (b=(2:Int))) (K [[vB true]]) (ar (cell (ae a 0) 3) λc=>ax (decide (c=(3:Int))) (K [[vB true]]) (ar (cell (ae a 0) 3) λd=>ax (decide (d=(4:Int))) (K [[vB true]]) (ar (cell (ae a 0) 3) λe=>K [[vB (decide (e=(5:Int)))]])))
theorem w49:Wd (cF []) hZ s49 g49:=Wk
def g74:Tx:=λIs a K=>sK 3 a 1 λn o=>aA Is s75 [ae a 0,[.sl n 3 o]] λp=>sK 3 p 0 λq r=>aG 15 (cell (ae a 0) 13) λs _=>Lp (λd b=>iK b 1 λe=>iK b 2 λc=>sK 3 b 3 λf g=>ax (decide (c<e)) (sK 15 b 0 λh i=>kI c h (aA Is s74 [eT i 15 c,[.sl f 3 g]] λj=>sK 3 j 0 λl m=>oK c (d [[Cz b 0],[vI e],[vI (c+1)],[.sl l 3 m]]))) (K [[.sl f 3 g]])) [[cell (ae a 0) 13],[vI s],[vI 0],[.sl q 3 r]]
theorem w74:Wd (cF [s74,s75]) ⟨[(3,⟨[(1,.c (.f 75 [.p 0 0])),hD 10,hI 11,hI 12],[(0,.b 36 [.w 1]),hR 1 42 3]⟩)],[],[]⟩ s74 g74:=Wk
def g75:Tx:=λIs a K=>sK 3 a 1 λd g=>jn (λh=>ar (cell (ae a 0) 3) λj=>ax (!(decide (((yp j iM).getD 0)=(0:Int)))) (az (aL (d+1) 25) (h [ae a 0,[.sl (d+1) 3 (g++((sub (ae a 0) 5 3)++[]))]])) (h [ae a 0,[.sl d 3 g]])) (λb=>sK 3 b 1 λe i=>ar (cell (ae b 0) 3) λl=>ax (decide (l=(11:Int))) (aA Is s73 [sub (ae b 0) 8 5] λm=>sK 3 m 0 λc f=>az (aL (e+c) 25) (K [[.sl (e+c) 3 (i++f)]])) (K [[.sl e 3 i]]))
theorem w75:Wd ⟨[s73],[42],[],[],lF,lE,true,gh,false,false,[]⟩ ⟨[],[(3,⟨[hP 1 0,hP 2 1],[(0,.b 36 [.w 2]),hA 1 50 15,hR 2 42 3]⟩)],[]⟩ s75 g75:=Wk
def g76:Tx:=λIs a K=>sK 3 a 0 λu v=>aA Is s64 [[.sl u 3 v],ae a 1] λm=>iK m 0 λn=>sK 3 m 1 λs t=>ax (decide (n=(-1:Int))) (K [[.sl s 3 t],ae m 2]) (oK n (Lp (λh f=>iK f 0 λc=>iK f 1 λe=>sK 3 f 2 λb g=>lK e b (jn (λj=>kI e b (aA Is s77 [eT g 3 e,ae f 3] λi=>bK i 0 λo=>ax (!o) (kI c b (oK c (j [[vI (c+1)],[vI e],[.sl b 3 (cB g ((RF c)*3+0) (eT g 3 e))],ae i 1]))) (j [[vI c],[vI e],[.sl b 3 g],ae i 1]))) (λd=>iK d 0 λp=>iK d 1 λl=>sK 3 d 2 λq r=>oK l (h [[vI p],[vI (l+1)],[.sl q 3 r],ae d 3]))) (az (0<=c/\c<=(b:Int)/\((0:Nat):Int)+b<=((b:Nat):Int)) (az (3=3/\((0+(RF c))+((RF (b:Int))-(RF c)))<=b/\((RF (b:Int))-(RF c))<=1000000000000000) (az (0<=c/\c<=((b:Nat):Int)) (K [[.sl (RF c) 3 (sub (cB g ((0+(RF c))*3) (T6 (Sj ((RF (b:Int))-(RF c)) [vI 0,vI 0,vI 0]))) (0*3) ((RF c)*3))],ae f 3]))))) [[vI n],[vI (n+1)],[.sl s 3 t],ae m 2]))
theorem w76:Wd ⟨[s64,s77],[42],[],[],lF,lE,true,gh,false,false,[41]⟩ ⟨[(5,⟨[hW 0 2,(1,.c (.f 77 [.p 1 0])),hI 5,hI 6],[hR 2 42 3,hA 1 26 2]⟩)],[(6,⟨[hW 0 2,(1,.c (.f 77 [.p 1 0])),hI 5,hI 6],[hR 2 42 3,hA 1 26 2]⟩)],[]⟩ s76 g76:=Wk
def g64:Tx:=λIs a K=>sK 3 a 0 λi l=>Lp (λc b=>iK b 0 λj=>iK b 1 λd=>sK 3 b 2 λe f=>ax (decide (d<j)) (kI d e (aA Is s77 [eT f 3 d,ae b 3] λg=>bK g 0 λh=>ax h (K [[vI d],[.sl e 3 f],ae g 1]) (oK d (c [[vI j],[vI (d+1)],[.sl e 3 f],ae g 1])))) (K [[vI (-1)],[.sl e 3 f],ae b 3])) [[vI i],[vI 0],[.sl i 3 l],ae a 1]
theorem w64:Wd (cF [s77]) ⟨[(2,⟨[hW 0 0,(1,.c (.f 77 [.p 1 0])),hI 7,hI 8],[hR 0 42 3,hA 1 26 2]⟩)],[],[]⟩ s64 g64:=Wk
def g64_1:Tx:=λIs a K=>sK 3 a 0 λr t=>sK 4 a 1 λu v=>sK 3 a 2 λw x=>Lp (λf c=>iK c 0 λs=>iK c 1 λb=>sK 3 c 2 λd e=>sK 4 c 3 λh i=>sK 3 c 4 λj l=>ax (decide (b<s)) (kI b d (aA Is s65 [eT e 3 b,[.sl h 4 i],[.sl j 3 l]] λg=>bK g 0 λq=>sK 4 g 1 λm n=>sK 3 g 2 λo p=>ax q (K [[vI b],[.sl d 3 e],[.sl m 4 n],[.sl o 3 p]]) (oK b (f [[vI s],[vI (b+1)],[.sl d 3 e],[.sl m 4 n],[.sl o 3 p]])))) (K [[vI (-1)],[.sl d 3 e],[.sl h 4 i],[.sl j 3 l]])) [[vI r],[vI 0],[.sl r 3 t],[.sl u 4 v],[.sl w 3 x]]
theorem w64_1:Wd (cF [s65]) ⟨[(2,⟨[hW 0 0,(1,.c (.f 65 [.p 1 0,.p 2 0])),hI 7,hI 8],[hR 0 42 3,(1,.b 122 [.m 3]),(2,.b 36 [.w 4]),(3,.m 122 false 1),hR 4 42 3]⟩)],[],[]⟩ Jg g64_1:=Wk
def Qo:Tx:=λIs a K=>sK 3 a 1 λo p=>sK 3 a 0 λq _=>Lp (λc b=>iK b 1 λm=>iK b 2 λd=>sK 3 b 3 λn e=>ax (decide (d<m)) (sK 3 b 0 λi j=>kI d i (aA Is s67 [eT j 3 d,[.sl n 3 e]] λf=>bK f 0 λl=>sK 3 f 1 λg h=>ax l (K [[vI d],[.sl g 3 h]]) (oK d (c [[Cz b 0],[vI m],[vI (d+1)],[.sl g 3 h]])))) (K [[vI (-1)],[.sl n 3 e]])) [[Cz a 0],[vI q],[vI 0],[.sl o 3 p]]
theorem w64_2:Wd (cF [s67]) ⟨[(2,⟨[hD 0,(1,.c (.f 67 [.p 0 0])),hI 7,hI 8],[(0,.b 36 [.w 1]),hR 1 42 3]⟩)],[],[]⟩ Jf Qo:=Wk
def g77:Tx:=λIs a K=>aA Is Gt [ae a 1,ae a 0] λb=>bK b 1 λc=>K [[vB (!c)],ae a 1]
theorem w77:Wd (cF [Gt]) hZ s77 g77:=Wk
def g65:Tx:=λIs a K=>sK 4 a 1 λd e=>sK 3 a 2 λg h=>tK (ae a 0) λi j l=>aA Is s66 [[cell ((bA 4 i j l d e).getD [.sl 0 3 []]) 0],[.sl g 3 h]] λf=>bK f 0 λm=>sK 3 f 1 λb c=>K [[vB (!m)],[.sl d 4 e],[.sl b 3 c]]
theorem w65:Wd (cF [s66]) hZ s65 g65:=Wk
def g66:Tx:=λIs a K=>sK 3 a 1 λc d=>aA Is Jf [[Cz a 0],[.sl c 3 d]] λb=>iK b 0 λe=>sK 3 b 1 λf g=>K [[vB (decide ((0:Int)<=e))],[.sl f 3 g]]
theorem w66:Wd (cF [Jf]) hZ s66 g66:=Wk
def g67:Tx:=λIs a K=>sK 3 a 1 λc d=>aA Is s68 [ae a 0,[.sl c 3 d]] λb=>bK b 0 λe=>sK 3 b 1 λf g=>K [[vB (!e)],[.sl f 3 g]]
theorem w67:Wd (cF [s68]) hZ s67 g67:=Wk
def g68:Tx:=λIs a K=>sK 3 a 1 λc d=>aA Is s160 [ae a 0,[.sl c 3 d]] λb=>iK b 0 λe=>sK 3 b 1 λf g=>K [[vB (decide ((0:Int)<=e))],[.sl f 3 g]]
theorem w68:Wd (cF [s160]) hZ s68 g68:=Wk
def g160:Tx:=λ_ a K=>sK 3 a 1 λm o=>Lp (λd b=>iK b 0 λn=>iK b 1 λc=>sK 3 b 2 λf e=>ax (decide (c<n)) (kI c f (iK b 3 λp=>ar (cell (ae b 3) 1) λg=>ar (cell (ae b 3) 2) λh=>ar (cell (eT e 3 c) 0) λi=>ar (cell (eT e 3 c) 1) λj=>ar (cell (eT e 3 c) 2) λl=>ax (decide (p=i/\g=j/\h=l)) (K [[vI c],[.sl f 3 e]]) (oK c (d [[vI n],[vI (c+1)],[.sl f 3 e],ae b 3])))) (K [[vI (-1)],[.sl f 3 e]])) [[vI m],[vI 0],[.sl m 3 o],ae a 0]
theorem w160:Wd (cF []) ⟨[(2,⟨[hW 0 0,hP 3 1,hI 7,hI 8],[hR 0 42 3,hA 1 42 3]⟩)],[],[]⟩ s160 g160:=Wk
def g69:Tx:=λ_ a K=>iK a 0 λc=>iK a 1 λd=>sK 3 a 2 λb e=>az (true=true/\0<=c/\c<=d/\d<=(b:Int)/\((0:Nat):Int)+b<=((b:Nat):Int)) (ax (decide (c=d)) (K [[.sl b 3 e]]) (az (0<=(0:Int)/\(0:Int)<=c/\((0:Nat):Int)+c<=((b:Nat):Int)) (az (0<=d/\d<=(b:Int)/\((0:Nat):Int)+b<=((b:Nat):Int)) (ax (decide (((RF (b:Int))-(RF d))=0)) (az (0<=((((RF c)-0):Nat):Int)/\((((RF c)-0):Nat):Int)<=(b:Int)/\((0:Nat):Int)+b<=((b:Nat):Int)) (az (3=3/\((0+(RF ((((RF c)-0):Nat):Int)))+((RF (b:Int))-(RF ((((RF c)-0):Nat):Int))))<=b/\((RF (b:Int))-(RF ((((RF c)-0):Nat):Int)))<=1000000000000000) (az (0<b/\((RF c)-0)<=b) (K [[.sl ((RF c)-0) 3 (sub (cB e ((0+(RF ((((RF c)-0):Nat):Int)))*3) (T6 (Sj ((RF (b:Int))-(RF ((((RF c)-0):Nat):Int))) [vI 0,vI 0,vI 0]))) (0*3) (((RF c)-0)*3))]])))) (ax (decide (((0+((RF c)-0))+((RF (b:Int))-(RF d)))<=b)) (az (0<=(((((RF c)-0)+((RF (b:Int))-(RF d))):Nat):Int)/\(((((RF c)-0)+((RF (b:Int))-(RF d))):Nat):Int)<=(b:Int)/\((0:Nat):Int)+b<=((b:Nat):Int)) (az (3=3/\((0+(RF (((((RF c)-0)+((RF (b:Int))-(RF d))):Nat):Int)))+((RF (b:Int))-(RF (((((RF c)-0)+((RF (b:Int))-(RF d))):Nat):Int))))<=b/\((RF (b:Int))-(RF (((((RF c)-0)+((RF (b:Int))-(RF d))):Nat):Int)))<=1000000000000000) (az (0<b/\(((RF c)-0)+((RF (b:Int))-(RF d)))<=b) (K [[.sl (((RF c)-0)+((RF (b:Int))-(RF d))) 3 (sub (cB (cB e ((0+((RF c)-0))*3) (sub e ((0+(RF d))*3) (((RF (b:Int))-(RF d))*3))) ((0+(RF (((((RF c)-0)+((RF (b:Int))-(RF d))):Nat):Int)))*3) (T6 (Sj ((RF (b:Int))-(RF (((((RF c)-0)+((RF (b:Int))-(RF d))):Nat):Int))) [vI 0,vI 0,vI 0]))) (0*3) ((((RF c)-0)+((RF (b:Int))-(RF d)))*3))]])))) (az ((0+((RF c)-0))=b/\aL ((((RF c)-0)+((RF (b:Int))-(RF d)))) 25) (az (0<=(((((RF c)-0)+((RF (b:Int))-(RF d))):Nat):Int)/\(((((RF c)-0)+((RF (b:Int))-(RF d))):Nat):Int)<=(b:Int)/\((0:Nat):Int)+b<=(((((RF c)-0)+((RF (b:Int))-(RF d))):Nat):Int)) (False))))))))
theorem w69:Wd ⟨[],[42],[],[],lF,lE,true,gh,false,false,[32]⟩ hZ s69 g69:=Wk
def g27:Tx:=λ_ a K=>iK a 0 λb=>ax (decide (b=(2:Int))) (K [[vB true]]) (ax (decide (b=(3:Int))) (K [[vB true]]) (ax (decide (b=(4:Int))) (K [[vB true]]) (K [[vB (decide (b=(5:Int)))]])))
theorem w27:Wd (cF []) hZ s27 g27:=Wk
def g20:Tx:=λ_ a K=>Lp (λc b=>iK b 1 λd=>sK 3 b 0 λj _=>lK d j (sK 3 b 0 λl e=>kI d l (ar (cell (eT e 3 d) 0) λm=>ar (cell (eT e 3 d) 1) λn=>ar (cell (eT e 3 d) 2) λf=>iK b 2 λg=>ar (cell (ae b 2) 1) λh=>ar (cell (ae b 2) 2) λi=>ax (decide (m=g/\n=h/\f=i)) (K [[vB true]]) (oK d (c [[Cz b 0],[vI (d+1)],ae b 2])))) (K [[vB false]])) [[Cz a 0],[vI 0],ae a 1]
theorem w20:Wd (cF []) ⟨[(2,⟨[hD 0,hP 3 0,hI 5],[hA 0 42 3]⟩)],[],[]⟩ s20 g20:=Wk
def g17:Tx:=λ_ a K=>sK 3 a 0 λp _=>sK 3 a 1 λq _=>ax (!(decide ((p:Int)=(q:Int)))) (K [[vB false]]) (Lp (λd b=>iK b 2 λc=>sK 3 b 0 λr _=>lK c r (sK 3 b 0 λg e=>kI c g (sK 3 b 1 λh f=>kI c h (ar (cell (eT e 3 c) 0) λi=>ar (cell (eT e 3 c) 1) λj=>ar (cell (eT e 3 c) 2) λl=>ar (cell (eT f 3 c) 0) λm=>ar (cell (eT f 3 c) 1) λn=>ar (cell (eT f 3 c) 2) λo=>ax (!(decide (i=m/\j=n/\l=o))) (K [[vB false]]) (oK c (d [[Cz b 0],[Cz b 1],[vI (c+1)]]))))) (K [[vB true]])) [[Cz a 0],[Cz a 1],[vI 0]])
theorem w17:Wd (cF []) ⟨[(4,⟨[hD 0,hD 1,hI 5],[]⟩)],[],[]⟩ s17 g17:=Wk
set_option maxRecDepth 100000
abbrev D7:bC:=⟨78,⟨[hW 0 0,(1,.c (.f 95 []))],[hR 0 42 3]⟩,.t [],[hR 0 42 3],false⟩
abbrev Je:bC:=⟨68,⟨[hD 0,(1,.a 3)],[]⟩,.c .bo,[],true⟩
abbrev B0:bC:=⟨160,⟨[hD 0,(1,.a 3)],[]⟩,.c .i,[],true⟩
abbrev s12:bC:=⟨12,⟨[(0,.a 2)],[]⟩,.c (.w 0),[hR 0 57 6],false⟩
abbrev s44:bC:=⟨44,⟨[(0,.a 2)],[]⟩,.c (.w 0),[hR 0 57 6],false⟩
abbrev s25:bC:=⟨25,⟨[(0,.a 2)],[]⟩,.c (.w 0),[hR 0 70 38],false⟩
abbrev s85:bC:=⟨85,⟨[hD 0],[]⟩,.c (.w 0),[hR 0 42 3],false⟩
abbrev Jd:bC:=⟨86,⟨[(0,.a 5)],[]⟩,.g [.d,.d,.d,.d,.w 0],[hR 0 46 5],false⟩
abbrev s175:bC:=⟨175,⟨[hD 0],[]⟩,.c (.w 0),[hR 0 46 5],false⟩
abbrev s87:bC:=⟨87,⟨[hD 0],[]⟩,.c (.w 0),[hR 0 9 1],false⟩
abbrev s88:bC:=⟨88,⟨[hI 0],[]⟩,.c .bo,[],true⟩
abbrev s89:bC:=⟨89,⟨[(0,.a 15),(1,.c (.f 90 [.p 0 0]))],[(0,.b 65 [.w 1]),hR 1 70 38]⟩,.t [],[(0,.b 65 [.w 2]),hR 2 70 38],false⟩
abbrev s90:bC:=⟨90,⟨[(0,.a 15),hP 1 0],[(0,.b 65 [.w 1]),hR 1 70 38]⟩,.t [],[(0,.b 65 [.w 2]),hR 2 70 38],false⟩
abbrev s91:bC:=⟨91,⟨[(0,.a 15)],[]⟩,.g (ds 9++[.w 0,.w 1,.w 2]),[hR 0 46 5,hR 1 42 3,hR 2 9 1],false⟩
abbrev s92:bC:=⟨92,⟨[hD 0],[]⟩,.c (.w 0),[hR 0 70 38],false⟩
abbrev s93:bC:=⟨93,⟨[hW 0 0,(1,.c (.f 94 []))],[hR 0 70 38]⟩,.t [],[hR 0 70 38],false⟩
abbrev s26:bC:=⟨26,⟨[hD 0],[]⟩,.t [.g [.w 0,.w 1],.c (.w 2)],[hR 0 60 6,hR 1 52 31,hR 2 57 6],false⟩
abbrev s96:bC:=⟨96,⟨[hD 0],[]⟩,.c (.m 0),[(0,.m 148 true 38)],false⟩
abbrev s97:bC:=⟨97,⟨[(0,.c (.m 0)),hI 1,(2,.c (.f 98 [])),(3,.c (.f 99 []))],[(0,.m 148 true 38)]⟩,.c (.w 1),[hR 1 70 38,(0,.ms 148 true 38)],false⟩
abbrev Jc:bC:=⟨97,⟨[(0,.c (.m 0)),hI 1,(2,.c (.f 98 [])),(3,.c (.f 99 []))],[(0,.ms 148 true 38)]⟩,.c (.w 1),[hR 1 70 38,(0,.ms 148 true 38)],false⟩
abbrev Jb:bC:=⟨97,⟨[(0,.c (.m 0)),hI 1,(2,.c (.f 182 [.p 1 0])),(3,.c (.f 107 []))],[(0,.ms 148 true 38),hA 1 42 3]⟩,.c (.w 2),[hR 2 70 38,(0,.ms 148 true 38),hA 1 42 3],false⟩
abbrev Ja:bC:=⟨97,⟨[(0,.c (.m 0)),hI 1,(2,.c (.f 106 [.p 1 0])),(3,.c (.f 107 []))],[(0,.ms 148 true 38),hA 1 70 38]⟩,.c (.w 2),[hR 2 70 38,(0,.ms 148 true 38),hA 1 70 38],false⟩
abbrev s98:bC:=⟨98,⟨[(0,.a 38)],[]⟩,.c .bo,[],true⟩
abbrev BZ:bC:=⟨178,⟨[hW 0 0,(1,.c (.f 99 []))],[hR 0 70 38]⟩,.t [],[hR 0 70 38],false⟩
abbrev kR:bC:=⟨178,⟨[hW 0 0,(1,.c (.f 107 []))],[hR 0 70 38]⟩,.t [],[hR 0 70 38],false⟩
abbrev s100:bC:=⟨100,⟨[hP 0 0,hD 1,hD 2],[(0,.b 152 [.m 1,.w 2,.m 3,.w 4]),(1,.ms 148 true 38),hR 2 57 6,(3,.m 150 false 1),hR 4 42 3]⟩,.t [],[(0,.b 152 [.m 1,.w 5,.m 3,.w 6]),(1,.ms 148 true 38),(3,.m 150 false 1),hR 5 57 6,hR 6 42 3],false⟩
abbrev tN:bC:=⟨104,⟨[hP 0 0,hI 1,(2,.a 3),hI 3],[(0,.b 152 [.m 1,.w 2,.m 3,.w 4]),(1,.ms 148 true 38),hR 2 57 6,(3,.m 150 false 1),hR 4 42 3]⟩,.t [],[(0,.b 152 [.m 1,.w 5,.m 3,.w 6]),(1,.ms 148 true 38),(3,.m 150 false 1),hR 5 57 6,hR 6 42 3],false⟩
abbrev Ed:bC:=⟨105,⟨[(0,.c (.m 0)),(1,.a 3),hD 2],[(0,.ms 148 true 38)]⟩,.c .bo,[(0,.ms 148 true 38)],false⟩
abbrev s184:bC:=⟨184,⟨[hD 0,hI 1],[]⟩,.c .bo,[],true⟩
abbrev s226:bC:=⟨226,⟨[hD 0,hI 1],[]⟩,.c .i,[],true⟩
abbrev Lz:bC:=⟨102,⟨[hP 0 0,(1,.a 3)],[(0,.b 152 [.m 1,.w 2,.m 3,.w 4]),(1,.ms 148 true 38),hR 2 57 6,(3,.m 150 false 1),hR 4 42 3]⟩,.c (.w 5),[hR 5 70 38,(0,.b 152 [.m 1,.w 6,.m 3,.w 7]),(1,.ms 148 true 38),(3,.m 150 false 1),hR 6 57 6,hR 7 42 3],false⟩
abbrev s182:bC:=⟨182,⟨[(0,.a 38),hP 1 0],[hA 0 42 3]⟩,.c .bo,[hA 0 42 3],false⟩
abbrev N6:bC:=⟨179,⟨[hP 0 0,(1,.a 3)],[(0,.b 152 [.m 1,.w 2,.m 3,.w 4]),(1,.ms 148 true 38),hR 2 57 6,(3,.m 150 false 1),hR 4 42 3]⟩,.t [],[(0,.b 152 [.m 1,.w 5,.m 3,.w 6]),(1,.ms 148 true 38),(3,.m 150 false 1),hR 5 57 6,hR 6 42 3],false⟩
abbrev s101:bC:=⟨101,⟨[hP 0 0],[(0,.b 152 [.m 1,.w 2,.m 3,.w 4]),(1,.ms 148 true 38),hR 2 57 6,(3,.m 150 false 1),hR 4 42 3]⟩,.c (.w 5),[hR 5 57 6],false⟩
abbrev Ji:bC:=⟨52,⟨[hW 0 0,(1,.c (.f 53 []))],[hR 0 57 6]⟩,.t [],[hR 0 57 6],false⟩
abbrev Jh:bC:=⟨58,⟨[hW 0 0,(1,.c (.f 59 []))],[hR 0 57 6]⟩,.c (.w 1),[hR 1 57 6],false⟩
abbrev s95:bC:=⟨95,⟨[(0,.a 3),(1,.a 3)],[]⟩,.c .i,[],true⟩
abbrev N4:bC:=⟨56,⟨[hI 0,hI 1],[]⟩,.c .i,[],true⟩
abbrev N7:bC:=⟨158,⟨[hI 0],[]⟩,.c .bo,[],true⟩
abbrev s54:bC:=⟨54,⟨[hD 0],[]⟩,.c .i,[],true⟩
abbrev Ly:bC:=⟨103,⟨[hP 0 0,(1,.a 3)],[(0,.b 152 [.m 1,.w 2,.m 3,.w 4]),(1,.ms 148 true 38),hR 2 57 6,(3,.m 150 false 1),hR 4 42 3]⟩,.t [.g (ds 12++[.w 5,.w 6,.w 7]),.c .i,.c .i],[hR 5 46 5,hR 6 50 15,hR 7 9 1,(0,.b 152 [.m 1,.w 8,.m 3,.w 9]),(1,.ms 148 true 38),(3,.m 150 false 1),hR 8 57 6,hR 9 42 3],false⟩
abbrev s183:bC:=⟨183,⟨[(0,.a 12)],[]⟩,.g (ds 9++[.w 0,.w 1,.w 2]),[hR 0 46 5,hR 1 42 3,hR 2 9 1],false⟩
abbrev s106:bC:=⟨106,⟨[(0,.a 38),hP 1 0],[hA 0 70 38]⟩,.c .bo,[hA 0 70 38],false⟩
abbrev s140:bC:=⟨140,⟨[hD 0,hD 1,(2,.c (.f 141 []))],[]⟩,.c .bo,[],true⟩
abbrev N9:bC:=⟨141,⟨[(0,.a 38),(1,.a 38)],[]⟩,.c .bo,[],true⟩
abbrev Ea:bC:=⟨136,⟨[hD 0,hD 1],[]⟩,.c .bo,[],true⟩
abbrev zI:bC:=⟨192,⟨[(0,.a 5),(1,.a 5)],[]⟩,.c .bo,[],true⟩
abbrev s236:bC:=⟨236,⟨[hD 0,hD 1,(2,.c (.f 192 []))],[]⟩,.c .bo,[],true⟩
abbrev Ls:bC:=⟨193,⟨[hD 0,hD 1],[]⟩,.c .bo,[],true⟩
abbrev s194:bC:=⟨194,⟨[(0,.a 12),(1,.a 12)],[]⟩,.c .bo,[],true⟩
abbrev s142:bC:=⟨142,⟨[hD 0,hD 1,(2,.c (.f 135 []))],[]⟩,.c .bo,[],true⟩
abbrev Od:bC:=⟨135,⟨[(0,.a 6),(1,.a 6)],[]⟩,.c .bo,[],true⟩
abbrev s143:bC:=⟨143,⟨[hD 0,hD 1,(2,.c (.f 138 [.p 0 0]))],[(0,.b 187 [.f 137 []])]⟩,.c .bo,[(0,.b 187 [.f 137 []])],false⟩
abbrev Oa:bC:=⟨138,⟨[(0,.a 31),(1,.a 31),hP 2 0],[(0,.b 187 [.f 137 []])]⟩,.c .bo,[(0,.b 187 [.f 137 []])],false⟩
abbrev s139:bC:=⟨139,⟨[hD 0,hD 1,(2,.c (.f 137 []))],[]⟩,.c .bo,[],true⟩
abbrev Oc:bC:=⟨137,⟨[(0,.a 11),(1,.a 11)],[]⟩,.c .bo,[],true⟩
abbrev s45:bC:=⟨45,⟨[hP 0 0,hD 1,hD 2],[(0,.b 107 [.d,.d,.w 1]),hR 1 57 6]⟩,.t [],[(0,.b 107 [.d,.d,.w 2]),hR 2 57 6],false⟩
abbrev qQ:bC:=⟨144,⟨[hD 0],[]⟩,.c .bo,[],false⟩
abbrev zH:bC:=⟨48,⟨[hP 0 0,hI 1,(2,.a 3),hI 3],[(0,.b 107 [.d,.d,.w 1]),hR 1 57 6]⟩,.t [],[(0,.b 107 [.d,.d,.w 2]),hR 2 57 6],false⟩
abbrev N8:bC:=⟨145,⟨[hD 0,hD 1],[]⟩,.c .bo,[],true⟩
abbrev s197:bC:=⟨197,⟨[hD 0,hD 1],[]⟩,.c .i,[],true⟩
abbrev s47:bC:=⟨47,⟨[(0,.a 2),(1,.a 5)],[]⟩,.c .bo,[],true⟩
abbrev s50:bC:=⟨50,⟨[hP 0 0,(1,.a 31)],[(0,.b 107 [.d,.d,.w 1]),hR 1 57 6]⟩,.t [],[(0,.b 107 [.d,.d,.w 2]),hR 2 57 6],false⟩
abbrev Lu:bC:=⟨148,⟨[(0,.a 15),hD 1,hP 2 0,hP 3 1],[(0,.b 105 [.p 2 0]),(1,.b 198 [.f 148 [.p 0 0,.p 1 0]]),(2,.b 107 [.d,.d,.w 3]),hR 3 57 6]⟩,.t [],[(0,.b 105 [.p 2 0]),(1,.b 198 [.f 148 [.p 0 0,.p 1 0]]),(2,.b 107 [.d,.d,.w 4]),hR 4 57 6],false⟩
abbrev s149:bC:=⟨149,⟨[hP 0 0,(1,.a 15)],[(0,.b 107 [.d,.d,.w 1]),hR 1 57 6]⟩,.t [.c .bo,.c .bo],[(0,.b 107 [.d,.d,.w 1]),hR 1 57 6],false⟩
abbrev s150:bC:=⟨150,⟨[hD 0,(1,.a 4)],[]⟩,.c .bo,[],true⟩
abbrev s198:bC:=⟨198,⟨[hD 0,(1,.a 4)],[]⟩,.c .i,[],true⟩
abbrev s151:bC:=⟨151,⟨[(0,.a 15)],[]⟩,.c .i,[],true⟩
abbrev s152:bC:=⟨152,⟨[hD 0,(1,.c (.f 153 []))],[]⟩,.c .bo,[],true⟩
abbrev s199:bC:=⟨199,⟨[hD 0,(1,.c (.f 153 []))],[]⟩,.c .i,[],true⟩
abbrev s153:bC:=⟨153,⟨[hD 0],[]⟩,.c .bo,[],true⟩
abbrev s155:bC:=⟨155,⟨[(0,.a 15),hI 1],[]⟩,.c (.w 0),[hR 0 197 4],false⟩
abbrev Lt:bC:=⟨154,⟨[hD 0],[]⟩,.c (.w 0),[hR 0 197 4],false⟩
abbrev s51:bC:=⟨51,⟨[hP 0 0],[(0,.b 107 [.d,.d,.w 1]),hR 1 57 6]⟩,.t [],[(0,.b 107 [.d,.d,.w 2]),hR 2 57 6],false⟩
abbrev s59:bC:=⟨59,⟨[(0,.a 6),(1,.a 6)],[]⟩,.c .bo,[],true⟩
def g68_1:Tx:=λIs a K=>aA Is B0 [[Cz a 0],ae a 1] λb=>iK b 0 λc=>K [[vB (decide ((0:Int)<=c))]]
theorem w68_1:Wd (cF [B0]) hZ Je g68_1:=Wk
def HS:Tx:=λ_ a K=>sK 3 a 0 λm _=>Lp (λd b=>iK b 1 λl=>iK b 2 λc=>ax (decide (c<l)) (sK 3 b 0 λn e=>kI c n (iK b 3 λo=>ar (cell (ae b 3) 1) λf=>ar (cell (ae b 3) 2) λg=>ar (cell (eT e 3 c) 0) λh=>ar (cell (eT e 3 c) 1) λi=>ar (cell (eT e 3 c) 2) λj=>ax (decide (o=h/\f=i/\g=j)) (K [[vI c]]) (oK c (d [[Cz b 0],[vI l],[vI (c+1)],ae b 3])))) (K [[vI (-1)]])) [[Cz a 0],[vI m],[vI 0],ae a 1]
theorem w160_1:Wd (cF []) ⟨[(2,⟨[hD 0,hP 3 0,hI 7,hI 8],[hA 0 42 3]⟩)],[],[]⟩ B0 HS:=Wk
def g12:Tx:=λIs a K=>aA Is s44 [ae a 0] λr1=>sK 6 r1 0 λn2 c3=>ax (decide ((0:Int)<(n2:Int))) (K [[.sl n2 6 c3]]) (jn (λk4=>sK 6 a 0 λn6 _=>Lp (λF i=>iK i 1 λX=>iK i 2 λq=>sK 3 i 5 λG Y=>sK 1 i 6 λH Z=>sK 6 i 7 λn16 c17=>(λV5=>ax (decide (q<X)) (sK 6 i 0 λn18 c19=>kI q n18 (az (aL (G+1) 25) (az (aL (H+1) 17) (oK q (F [[Cz i 0],[vI X],[vI (q+1)],ae i 3,V5,[.sl (G+1) 3 (Y++((sub (eT c19 6 q) 0 3)++[]))],[.sl (H+1) 1 (Z++[cell (eT c19 6 q) 3])],[.sl n16 6 c17]]))))) (k4 [ae i 3,V5,[.sl G 3 Y],[.sl H 1 Z],[.sl n16 6 c17]])) [Cz i 4,cell (ae i 4) 1]) [[Cz a 0],[vI n6],[vI 0],ae a 0,[Cz a 0,cell (ae a 0) 1],[.sl 0 3 []],[.sl 0 1 []],[.sl 0 6 []]]) (λm=>sK 3 m 2 λn20 c21=>sK 1 m 3 λn22 c23=>sK 6 m 4 λn24 c25=>aA Is s45 [[.sl n20 3 c21],[.sl n22 1 c23],[Cz m 1,cell (ae m 1) 1],[.sl n24 6 c25]] λI=>sK 6 I 1 λn27 c28=>sK 6 m 0 λn29 _=>Lp (λz e=>iK e 1 λz33=>iK e 2 λr=>sK 6 e 5 λn35 c36=>(λV7=>ax (decide (r<z33)) (sK 6 e 0 λn37 J=>kI r n37 (jn (λk39=>aG 3 (cell (eT J 6 r) 5) λn41 _=>Lp (λA c=>iK c 1 λz45=>iK c 2 λz46=>iK c 4 λz47=>iK c 5 λu=>sK 1 c 9 λL c50=>sK 6 c 10 λn51 c52=>(λV8=>ax (decide (u<z47)) (sK 3 c 3 λn53 c54=>kI u n53 (aA Is Gt [ae c 6,eT c54 3 u] λr55=>bK r55 1 λ_=>az (aL (L+1) 17) (oK u (A [[Cz c 0],[vI z45],[vI z46],[Cz c 3],[vI z47],[vI (u+1)],ae c 6,V8,ae c 8,[.sl (L+1) 1 (c50++[cell (ae r55 0) 7])],[.sl n51 6 c52]])))) (k39 [[Cz c 0],[vI z45],[vI z46],ae c 6,V8,ae c 8,[.sl L 1 c50],[.sl n51 6 c52]])) [Cz c 7,cell (ae c 7) 1]) [[Cz e 0],[vI z33],[vI r],[cell (eT J 6 r) 5],[vI n41],[vI 0],ae e 3,V7,eT J 6 r,[.sl 0 1 []],[.sl n35 6 c36]]) (λh=>iK h 1 λz57=>iK h 2 λz58=>sK 1 h 6 λn59 c60=>sK 6 h 7 λn61 c62=>aA Is s45 [[cell (ae h 5) 5],[.sl n59 1 c60],[Cz h 4,cell (ae h 4) 1],[.sl n61 6 c62]] λM=>sK 6 M 1 λn64 c65=>oK z58 (z [[Cz h 0],[vI z57],[vI (z58+1)],ae h 3,[Cz M 0,cell (ae M 0) 1],[.sl n64 6 c65]])))) (aG 31 (cell (ae e 3) 1) λn66 _=>Lp (λn g=>iK g 1 λz70=>iK g 2 λs=>sK 6 g 5 λn72 c73=>(λV6=>ax (decide (s<z70)) (sK 31 g 0 λn74 N=>kI s n74 (jn (λk76=>aG 11 (cell (eT N 31 s) 8) λn78 _=>Lp (λo b=>iK b 1 λO=>iK b 2 λP=>iK b 4 λQ=>iK b 5 λj=>sK 3 b 9 λB R=>sK 1 b 10 λC S=>sK 6 b 11 λT U=>(λV3=>ax (decide (j<Q)) (sK 11 b 3 λn92 t=>kI j n92 (az (aL (B+1) 25) (az (aL (C+1) 17) (aA Is s47 [ae b 6,sub (eT t 11 j) 4 5] λr94=>bK r94 0 λb95=>(λV1=>(λV4=>ax (!b95) (aA Is zH [[vI 14],sub (eT t 11 j) 0 3,[vI 9],V3,[.sl T 6 U]] λV=>sK 6 V 1 λn97 c98=>oK j (o [[Cz b 0],[vI O],[vI P],[Cz b 3],[vI Q],[vI (j+1)],ae b 6,[Cz V 0,cell (ae V 0) 1],ae b 8,V1,V4,[.sl n97 6 c98]])) (oK j (o [[Cz b 0],[vI O],[vI P],[Cz b 3],[vI Q],[vI (j+1)],ae b 6,V3,ae b 8,V1,V4,[.sl T 6 U]]))) [.sl (C+1) 1 (S++[cell (eT t 11 j) 3])]) [.sl (B+1) 3 (R++((sub (eT t 11 j) 0 3)++[]))])))) (k76 [[Cz b 0],[vI O],[vI P],ae b 6,V3,ae b 8,[.sl B 3 R],[.sl C 1 S],[.sl T 6 U]])) [Cz b 7,cell (ae b 7) 1]) [[Cz g 0],[vI z70],[vI s],[cell (eT N 31 s) 8],[vI n78],[vI 0],ae g 3,V6,eT N 31 s,[.sl 0 3 []],[.sl 0 1 []],[.sl n72 6 c73]]) (λd=>iK d 1 λW=>iK d 2 λp=>sK 3 d 6 λn101 c102=>sK 1 d 7 λn103 c104=>sK 6 d 8 λn105 c106=>aA Is s45 [[.sl n101 3 c102],[.sl n103 1 c104],[Cz d 4,cell (ae d 4) 1],[.sl n105 6 c106]] λl=>sK 6 l 1 λv w=>aA Is s49 [ae d 5] λr110=>bK r110 0 λb111=>(λV2=>ax b111 (jn (λD=>aA Is s47 [ae d 3,sub (ae d 5) 9 5] λr114=>bK r114 0 λb115=>ax (!b115) (aA Is zH [[vI 14],sub (ae d 5) 0 3,[vI 10],V2,[.sl v 6 w]] λx=>sK 6 x 1 λn117 c118=>D [[Cz d 0],[vI W],[vI p],ae d 3,[Cz x 0,cell (ae x 0) 1],ae d 5,[.sl n117 6 c118]]) (D [[Cz d 0],[vI W],[vI p],ae d 3,V2,ae d 5,[.sl v 6 w]])) (λf=>iK f 1 λz119=>iK f 2 λE=>sK 6 f 6 λn121 c122=>aA Is s50 [ae f 5,[Cz f 4,cell (ae f 4) 1],[.sl n121 6 c122]] λy=>sK 6 y 1 λn124 c125=>oK E (n [[Cz f 0],[vI z119],[vI (E+1)],ae f 3,[Cz y 0,cell (ae y 0) 1],[.sl n124 6 c125]]))) (oK p (n [[Cz d 0],[vI W],[vI (p+1)],ae d 3,V2,[.sl v 6 w]]))) [Cz l 0,cell (ae l 0) 1]))) (aA Is s51 [V6,[.sl n72 6 c73]] λr126=>sK 6 r126 1 λn127 c128=>aA Is Ji [[.sl n127 6 c128]] λr129=>sK 6 r129 0 λn130 c131=>aA Is Jh [[.sl n130 6 c131]] λr132=>sK 6 r132 0 λn133 c134=>K [[.sl n133 6 c134]])) [Cz g 4,cell (ae g 4) 1]) [[cell (ae e 3) 1],[vI n66],[vI 0],ae e 3,V7,[.sl n35 6 c36]])) [Cz e 4,cell (ae e 4) 1]) [[Cz m 0],[vI n29],[vI 0],ae m 0,[Cz I 0,cell (ae I 0) 1],[.sl n27 6 c28]]))
theorem w12:Wd (cF [s44,s45,Gt,s47,zH,s49,s50,s51,Ji,Jh]) ⟨[(8,⟨[hP 1 0,hP 4 1,hW 5 2,hW 6 3,hD 32,hI 33,hI 34],[hA 0 26 2,(1,.b 107 [.d,.d,.w 4]),hR 2 42 3,hR 3 9 1,hR 4 57 6]⟩),(15,⟨[hP 1 0,hP 4 1,hD 54,hI 55,hI 56],[hA 0 26 2,(1,.b 107 [.d,.d,.w 2]),hR 2 57 6]⟩),(19,⟨[hP 1 0,hP 4 1,hP 10 2,hW 11 3,hD 54,hI 55,hI 56,hD 61,hI 62,hI 63],[hA 0 26 2,(1,.b 107 [.d,.d,.w 4]),hA 2 60 6,hR 3 9 1,hR 4 57 6]⟩),(27,⟨[hP 1 0,hP 4 1,hD 86,hI 87,hI 88],[hA 0 26 2,(1,.b 107 [.d,.d,.w 2]),hR 2 57 6]⟩),(32,⟨[hP 1 0,hP 4 1,hP 17 2,hW 18 3,hW 19 4,hD 86,hI 87,hI 88,hD 93,hI 94,hI 95],[hA 0 26 2,(1,.b 107 [.d,.d,.w 5]),hA 2 52 31,hR 3 42 3,hR 4 9 1,hR 5 57 6]⟩)],[(13,⟨[hP 1 0,hP 4 1,hW 5 2,hW 6 3],[hA 0 26 2,(1,.b 107 [.d,.d,.w 4]),hR 2 42 3,hR 3 9 1,hR 4 57 6]⟩),(24,⟨[hP 1 0,hP 4 1,hP 10 2,hW 11 3,hD 54,hI 55,hI 56],[hA 0 26 2,(1,.b 107 [.d,.d,.w 4]),hA 2 60 6,hR 3 9 1,hR 4 57 6]⟩),(39,⟨[hP 1 0,hP 4 1,hP 17 2,hW 18 3,hW 19 4,hD 86,hI 87,hI 88],[hA 0 26 2,(1,.b 107 [.d,.d,.w 5]),hA 2 52 31,hR 3 42 3,hR 4 9 1,hR 5 57 6]⟩),(43,⟨[hP 1 0,hP 4 1,hP 17 2,hD 86,hI 87,hI 88],[hA 0 26 2,(1,.b 107 [.d,.d,.w 3]),hA 2 52 31,hR 3 57 6]⟩)],[]⟩ s12 g12:=Wk
def g44:Tx:=λIs a K=>aA Is s25 [ae a 0] λu=>sK 38 u 0 λn o=>aA Is s26 [[.sl n 38 o]] λb=>sK 6 b 0 λp q=>sK 31 b 1 λr s=>sK 6 b 2 λt c=>ax (decide ((0:Int)<(t:Int))) (K [[.sl t 6 c]]) (aA Is s25 [[.sl p 6 q,.sl r 31 s]] λd=>sK 38 d 0 λe f=>aA Is s140 [[.sl n 38 o],[.sl e 38 f]] λg=>bK g 0 λh=>(λV1=>ax (!h) (K V1) (aA Is s142 [[Cz a 0],[.sl p 6 q]] λi=>bK i 0 λj=>ax (!j) (K V1) (aA Is s143 [[cell (ae a 0) 1],[.sl r 31 s]] λl=>bK l 0 λm=>ax (!m) (K V1) (K [[.sl 0 6 []]])))) [[.sl 1 6 ([vI 2,vI 0,vI 0,vI 0,vI 14,.sl 0 3 []])]])
theorem w44:Wd (cF [s25,s26,s140,s142,s143]) hZ s44 g44:=Wk
def g25:Tx:=λIs a K=>jn (λk1=>sK 6 a 0 λn3 _=>Lp (λq g=>iK g 1 λz7=>iK g 2 λr=>sK 38 g 4 λn9 u=>sK 38 g 5 λv w=>sK 38 g 6 λx y=>sK 38 g 7 λz A=>ax (decide (r<z7)) (sK 6 g 0 λn17 s=>kI r n17 (aA Is s85 [[cell (eT s 6 r) 4]] λr19=>sK 3 r19 0 λn20 c21=>az (aL (n9+1) 425) (oK r (q [[Cz g 0],[vI z7],[vI (r+1)],ae g 3,[.sl (n9+1) 38 (u++(cls (sub (eT s 6 r) 0 3) 0 3 ([vI 0,cell (eT s 6 r) 3,.sl n20 3 c21,vI 0,vI 0,vI 0,vI 0,vI 0,vI 0,vI 0,vI 0,vI 0,.sl 0 5 [],vI 0,vI 0,vI 0,.sl 0 1 [],vI 0,vI 0,vI 0,vI 0,.sl 0 5 [],vI 0,vI 0,vI 0,vI 0,vI 0,vI 0,vI 0,vI 0,vI 0,vI 0,.sl 0 5 [],.sl 0 3 [],.sl 0 1 []])))],[.sl v 38 w],[.sl x 38 y],[.sl z 38 A]])))) (k1 [ae g 3,[.sl n9 38 u],[.sl v 38 w],[.sl x 38 y],[.sl z 38 A]])) [[Cz a 0],[vI n3],[vI 0],ae a 0,[.sl 0 38 []],[.sl 0 38 []],[.sl 0 38 []],[.sl 0 38 []]]) (λj=>sK 38 j 1 λn22 c23=>sK 38 j 2 λn24 c25=>sK 38 j 3 λn26 c27=>sK 38 j 4 λn28 c29=>aG 31 (cell (ae j 0) 1) λn30 _=>Lp (λm f=>iK f 1 λB=>iK f 2 λe=>sK 38 f 3 λC D=>sK 38 f 4 λE F=>sK 38 f 5 λG H=>sK 38 f 6 λI J=>ax (decide (e<B)) (sK 31 f 0 λn44 h=>kI e n44 (aA Is Jd [sub (eT h 31 e) 9 5] λL=>sK 5 L 1 λn47 c48=>aA Is s87 [[cell (eT h 31 e) 30]] λr49=>sK 1 r49 0 λn50 c51=>jn (λk52=>aG 11 (cell (eT h 31 e) 8) λn54 _=>Lp (λn b=>iK b 1 λM=>iK b 2 λN=>iK b 4 λO=>iK b 5 λi=>sK 38 b 6 λP Q=>sK 38 b 7 λR S=>sK 38 b 8 λt T=>sK 38 b 11 λU V=>sK 5 b 12 λW X=>sK 1 b 13 λY Z=>ax (decide (i<O)) (sK 11 b 3 λn74 l=>kI i n74 (aA Is Jd [sub (eT l 11 i) 4 5] λr76=>sK 5 r76 1 λn77 c78=>az (aL (t+1) 425) (oK i (n [[Cz b 0],[vI M],[vI N],[Cz b 3],[vI O],[vI (i+1)],[.sl P 38 Q],[.sl R 38 S],[.sl (t+1) 38 (T++(cls (sub (eT l 11 i) 0 3) 0 3 (vI 3::cell (eT l 11 i) 3::.sl 0 3 []::vI 0::cls (sub (ae b 9) 0 3) 0 3 (cell (eT l 11 i) 10::vI 0::vI 0::vI 0::vI 0::.sl 0 5 []::vI 0::vI 0::vI 0::.sl 0 1 []::cls (ae r76 0) 0 4 ([.sl n77 5 c78,cell (eT l 11 i) 9,vI 0,vI 0,vI 0,vI 0,vI 0,vI 0,vI 0,vI 0,vI 0,.sl 0 5 [],.sl 0 3 [],.sl 0 1 []])))))],ae b 9,cls (ae b 10) 0 36 [],[.sl U 38 V],[.sl W 5 X],[.sl Y 1 Z]])))) (k52 [[Cz b 0],[vI M],[vI N],[.sl P 38 Q],[.sl R 38 S],[.sl t 38 T],ae b 9,cls (ae b 10) 0 36 [],[.sl U 38 V],[.sl W 5 X],[.sl Y 1 Z]])) [[Cz f 0],[vI B],[vI e],[cell (eT h 31 e) 8],[vI n54],[vI 0],[.sl C 38 D],[.sl E 38 F],[.sl G 38 H],eT h 31 e,cls (sub (eT h 31 e) 0 3) 0 3 (vI 2::cell (eT h 31 e) 7::.sl 0 3 []::cell (eT h 31 e) 3::cls (sub (eT h 31 e) 4 3) 0 3 (cell (eT h 31 e) 29::cls (ae L 0) 0 4 ([vI 0,vI 0,vI 0,vI 0,vI 0,vI 0,vI 0,.sl 0 5 [],vI 0,vI 0,vI 0,vI 0,vI 0,vI 0,vI 0,vI 0,vI 0,vI 0,.sl 0 5 [],.sl 0 3 [],.sl 0 1 []]))),[.sl I 38 J],[.sl n47 5 c48],[.sl n50 1 c51]]) (λc=>iK c 1 λz79=>iK c 2 λz80=>sK 38 c 3 λn81 c82=>sK 38 c 4 λn83 c84=>sK 38 c 5 λn85 c86=>sK 38 c 8 λn87 c88=>sK 5 c 9 λn89 c90=>sK 1 c 10 λn91 c92=>jn (λk93=>aA Is s88 [[cell (ae c 6) 3]] λr95=>bK r95 0 λb96=>ax b96 (aA Is s89 [sub (ae c 6) 14 15,[.sl n87 38 c88]] λr97=>sK 38 r97 0 λn98 c99=>k93 [[Cz c 0],[vI z79],[vI z80],[.sl n81 38 c82],[.sl n83 38 c84],[.sl n85 38 c86],cls (ae c 7) 0 15 (cls (sub (ae c 6) 14 3) 0 3 (cls (ae c 7) 18 18 [])),[.sl n98 38 c99],[.sl n89 5 c90],[.sl n91 1 c92]]) (k93 [[Cz c 0],[vI z79],[vI z80],[.sl n81 38 c82],[.sl n83 38 c84],[.sl n85 38 c86],cls (ae c 7) 0 36 [],[.sl n87 38 c88],[.sl n89 5 c90],[.sl n91 1 c92]])) (λd=>iK d 1 λz100=>iK d 2 λo=>sK 38 d 3 λn102 c103=>sK 38 d 4 λp c105=>sK 38 d 5 λn106 c107=>sK 38 d 7 λn108 c109=>sK 5 d 8 λn110 c111=>sK 1 d 9 λn112 c113=>az (aL (p+1) 425) (oK o (m [[Cz d 0],[vI z100],[vI (o+1)],[.sl n102 38 c103],[.sl (p+1) 38 (c105++(cls (ae d 6) 0 15 (.sl n110 5 c111::cls (ae d 6) 15 3 (.sl n112 1 c113::cls (ae d 6) 18 18 []))))],[.sl n106 38 c107],[.sl n108 38 c109]])))))) (aA Is s92 [[.sl 4 1 [.sl C 38 D,.sl E 38 F,.sl G 38 H,.sl I 38 J]]] λr114=>sK 38 r114 0 λn115 c116=>aA Is s93 [[.sl n115 38 c116]] λr117=>sK 38 r117 0 λn118 c119=>K [[.sl n118 38 c119]])) [[cell (ae j 0) 1],[vI n30],[vI 0],[.sl n22 38 c23],[.sl n24 38 c25],[.sl n26 38 c27],[.sl n28 38 c29]])
theorem w25:Wd (cF [s85,Jd,s87,s88,s89,s92,s93]) ⟨[(3,⟨[hP 1 0,hW 3 1,hW 4 2,hW 5 3,hP 6 4,hD 16,hI 17,hI 18],[hA 0 26 2,hR 1 70 38,hR 2 70 38,hR 3 70 38,(4,.b 65 [.w 5]),hR 5 70 38]⟩),(8,⟨[hW 3 0,hW 4 1,hW 5 2,hP 6 3,hD 35,hI 36,hI 37],[hR 0 70 38,hR 1 70 38,hR 2 70 38,(3,.b 65 [.w 4]),hR 4 70 38]⟩),(12,⟨[hW 3 0,hW 4 1,hW 5 2,hP 6 3,hP 10 4,hP 11 5,hD 35,hI 36,hI 37,hD 59,hI 60,hI 61],[hR 0 70 38,hR 1 70 38,hR 2 70 38,(3,.b 65 [.w 6]),hA 4 52 31,(5,.b 70 (.d::.d::.d::.d::.d::.d::.d::.d::.d::.d::.d::.d::.d::.d::.d::.w 7::.d::.d::.d::.w 8::ds 18)),hR 6 70 38,hR 7 46 5,hR 8 9 1]⟩)],[(7,⟨[hP 1 0,hW 3 1,hW 4 2,hW 5 3,hP 6 4],[hA 0 26 2,hR 1 70 38,hR 2 70 38,hR 3 70 38,(4,.b 65 [.w 5]),hR 5 70 38]⟩),(16,⟨[hW 3 0,hW 4 1,hW 5 2,hP 6 3,hP 10 4,hP 11 5,hD 35,hI 36,hI 37],[hR 0 70 38,hR 1 70 38,hR 2 70 38,(3,.b 65 [.w 6]),hA 4 52 31,(5,.b 70 (.d::.d::.d::.d::.d::.d::.d::.d::.d::.d::.d::.d::.d::.d::.d::.w 7::.d::.d::.d::.w 8::ds 18)),hR 6 70 38,hR 7 46 5,hR 8 9 1]⟩),(19,⟨[hW 3 0,hW 4 1,hW 5 2,hP 6 3,hP 11 4,hD 35,hI 36,hI 37],[hR 0 70 38,hR 1 70 38,hR 2 70 38,(3,.b 65 [.w 5]),(4,.b 70 (.d::.d::.d::.d::.d::.d::.d::.d::.d::.d::.d::.d::.d::.d::.d::.w 6::.d::.d::.d::.w 7::ds 18)),hR 5 70 38,hR 6 46 5,hR 7 9 1]⟩)],[]⟩ s25 g25:=Wk
def g86:Tx:=λIs a K=>aA Is s175 [[cell (ae a 0) 4]] λm=>sK 5 m 0 λl n=>Lp (λd b=>iK b 0 λg=>iK b 1 λc=>sK 5 b 4 λe f=>ax (decide (c<g)) (kI c e (aA Is Jd [eT f 5 c] λh=>sK 5 h 1 λi j=>kI c e (oK c (d [[vI g],[vI (c+1)],cls (ae b 2) 0 4 [],ae b 3,[.sl e 5 (cB f ((RF c)*5+0) (cls (ae h 0) 0 4 [.sl i 5 j]))]])))) (K [cls (ae b 2) 0 4 [],[.sl e 5 f]])) [[vI l],[vI 0],cls (ae a 0) 0 4 [],[vI 0,vI 0,vI 0,vI 0,.sl 0 5 []],[.sl l 5 n]]
theorem w86:Wd (cF [Jd,s175]) ⟨[(3,⟨[hP 1 0,hP 2 1,hW 10 2,hI 11,hI 12],[(0,.b 46 [.d,.d,.d,.d,.w 2]),hA 1 46 5,hR 2 46 5]⟩)],[],[]⟩ Jd g86:=Wk
def g88:Tx:=λ_ a K=>iK a 0 λb=>ax (decide (b=(2:Int))) (K [[vB true]]) (ax (decide (b=(3:Int))) (K [[vB true]]) (ax (decide (b=(4:Int))) (K [[vB true]]) (K [[vB (decide (b=(5:Int)))]])))
theorem w88:Wd (cF []) hZ s88 g88:=Wk
def g89:Tx:=λIs a K=>sK 38 a 1 λq r=>aG 15 (cell (ae a 0) 13) λs _=>Lp (λc b=>iK b 1 λo=>iK b 2 λd=>sK 38 b 4 λp e=>ax (decide (d<o)) (sK 15 b 0 λf g=>kI d f (aA Is s89 [eT g 15 d,[.sl p 38 e]] λh=>sK 38 h 0 λi j=>oK d (c [[Cz b 0],[vI o],[vI (d+1)],ae b 3,[.sl i 38 j]]))) (aA Is s90 [ae b 3,[.sl p 38 e]] λl=>sK 38 l 0 λm n=>K [[.sl m 38 n]])) [[cell (ae a 0) 13],[vI s],[vI 0],ae a 0,[.sl q 38 r]]
theorem w89:Wd (cF [s89,s90]) ⟨[(2,⟨[(1,.c (.f 90 [.p 0 0])),hP 2 1,hD 7,hI 8,hI 9],[(0,.b 65 [.w 2]),hA 1 50 15,hR 2 70 38]⟩)],[],[]⟩ s89 g89:=Wk
def g90:Tx:=λIs a K=>sK 38 a 1 λc d=>aA Is s91 [ae a 0] λb=>sK 5 b 1 λe f=>sK 3 b 2 λg h=>sK 1 b 3 λi j=>az (aL (c+1) 425) (K [[.sl (c+1) 38 (d++(cls (sub (ae a 0) 0 3) 0 3 (vI 4::.v (.string (Se #[]))::.sl 0 3 []::vI 0::vI 0::vI 0::vI 0::vI 0::vI 0::vI 0::vI 0::vI 0::.sl 0 5 []::vI 0::vI 0::vI 0::.sl 0 1 []::vI 0::vI 0::vI 0::vI 0::.sl 0 5 []::vI 0::cls (ae b 0) 0 9 [.sl e 5 f,.sl g 3 h,.sl i 1 j])))]])
theorem w90:Wd (cF [s91]) hZ s90 g90:=Wk
def g91:Tx:=λIs a K=>aA Is Jd [sub (ae a 0) 8 5] λo=>sK 5 o 1 λp q=>aA Is s87 [[cell (ae a 0) 14]] λr=>sK 1 r 0 λs t=>aG 15 (cell (ae a 0) 13) λu _=>Lp (λd b=>iK b 1 λf=>iK b 2 λc=>sK 5 b 5 λg h=>sK 3 b 6 λe i=>sK 1 b 7 λj l=>ax (decide (c<f)) (sK 15 b 0 λm n=>kI c m (az (aL (e+1) 25) (oK c (d [[Cz b 0],[vI f],[vI (c+1)],ae b 3,cls (ae b 4) 0 9 [],[.sl g 5 h],[.sl (e+1) 3 (i++((sub (eT n 15 c) 0 3)++[]))],[.sl j 1 l]])))) (K [cls (ae b 4) 0 9 [],[.sl g 5 h],[.sl e 3 i],[.sl j 1 l]])) [[cell (ae a 0) 13],[vI u],[vI 0],[vI 0,vI 0,vI 0,vI 0,vI 0,vI 0,vI 0,vI 0,vI 0,.sl 0 5 [],.sl 0 3 [],.sl 0 1 []],cell (ae a 0) 3::cell (ae a 0) 4::cls (sub (ae a 0) 5 3) 0 3 (cls (ae o 0) 0 4 []),[.sl p 5 q],[.sl 0 3 []],[.sl s 1 t]]
theorem w91:Wd (cF [Jd,s87]) ⟨[(3,⟨[hP 2 0,hP 3 1,hD 20,hI 21,hI 22],[hA 0 68 12,(1,.b 68 (ds 9++[.w 2,.w 3,.w 4])),hR 2 46 5,hR 3 42 3,hR 4 9 1]⟩)],[],[]⟩ s91 g91:=Wk
def g26:Tx:=λIs a K=>aA Is s96 [[Cz a 0]] λr1=>sK 41 r1 0 λn2 c3=>aA Is s97 [[vI 0],[.sl n2 41 c3]] λr4=>sK 38 r4 0 λn5 c6=>sK 41 r4 1 λn7 c8=>aA Is Jc [[vI 2],[.sl n7 41 c8]] λr9=>sK 38 r9 0 λn10 c11=>sK 41 r9 1 λn12 c13=>aA Is s100 [[.sl n5 38 c6],[.sl n10 38 c11],[.sl n12 41 c13],[.sl 0 6 []],[.sl 0 4 []],[.sl 0 3 []]] λr14=>sK 41 r14 0 λn15 c16=>sK 4 r14 1 λn17 c18=>sK 6 r14 2 λn19 c20=>sK 3 r14 3 λn21 c22=>ax (decide ((0:Int)<(n19:Int))) (aA Is s101 [[.sl n15 41 c16],[.sl n19 6 c20],[.sl n17 4 c18],[.sl n21 3 c22]] λr23=>sK 6 r23 0 λn24 c25=>K [[.sl 0 6 []],[.sl 0 31 []],[.sl n24 6 c25]]) (jn (λk26=>Lp (λnext28 i=>iK i 2 λz30=>iK i 3 λo=>sK 41 i 5 λn32 c33=>sK 6 i 6 λn34 c35=>sK 4 i 7 λn36 c37=>sK 3 i 8 λn38 c39=>sK 6 i 9 λn40 c41=>sK 31 i 10 λn42 c43=>ax (decide (o<z30)) (sK 38 i 1 λn44 p=>kI o n44 (aA Is Jd [sub (eT p 38 o) 11 5] λr46=>sK 5 r46 1 λn47 c48=>aA Is s87 [[cell (eT p 38 o) 19]] λr49=>sK 1 r49 0 λn50 c51=>jn (λk52=>aA Is Lz [sub (eT p 38 o) 0 3,[.sl n32 41 c33],[.sl n34 6 c35],[.sl n36 4 c37],[.sl n38 3 c39]] λJ=>sK 38 J 0 λn55 c56=>sK 41 J 1 λn57 c58=>sK 4 J 2 λn59 c60=>sK 6 J 3 λn61 c62=>sK 3 J 4 λn63 c64=>Lp (λnext65 e=>iK e 2 λz67=>iK e 3 λz68=>iK e 4 λz69=>iK e 5 λq=>sK 38 e 9 λn71 I=>sK 41 e 10 λn73 c74=>sK 6 e 11 λn75 c76=>sK 4 e 12 λn77 c78=>sK 3 e 13 λn79 c80=>sK 6 e 14 λn81 c82=>sK 31 e 15 λn83 c84=>sK 11 e 16 λn85 c86=>sK 5 e 17 λn87 c88=>sK 1 e 18 λn89 c90=>ax (decide (q<z69)) (kI q n71 (aA Is Jd [sub (eT I 38 q) 20 5] λr91=>sK 5 r91 1 λn92 c93=>az (aL (n85+1) 113) (oK q (next65 [[Cz e 0],[Cz e 1],[vI z67],[vI z68],[vI z69],[vI (q+1)],ae e 6,ae e 7,cls (ae e 8) 0 28 [],[.sl n71 38 I],[.sl n73 41 c74],[.sl n75 6 c76],[.sl n77 4 c78],[.sl n79 3 c80],[.sl n81 6 c82],[.sl n83 31 c84],[.sl (n85+1) 11 (c86++(cls (sub (eT I 38 q) 0 3) 0 3 (cell (eT I 38 q) 4::cls (ae r91 0) 0 4 [.sl n92 5 c93,cell (eT I 38 q) 25,cell (eT I 38 q) 10])))],[.sl n87 5 c88],[.sl n89 1 c90]])))) (k52 [[Cz e 0],[Cz e 1],[vI z67],[vI z68],ae e 6,ae e 7,cls (ae e 8) 0 28 [],[.sl n73 41 c74],[.sl n75 6 c76],[.sl n77 4 c78],[.sl n79 3 c80],[.sl n81 6 c82],[.sl n83 31 c84],[.sl n85 11 c86],[.sl n87 5 c88],[.sl n89 1 c90]])) [[Cz i 0],[Cz i 1],[vI z30],[vI o],[vI n55],[vI 0],ae i 4,eT p 38 o,cls (sub (eT p 38 o) 0 3) 0 3 (cell (eT p 38 o) 6::cls (sub (eT p 38 o) 7 3) 0 3 (cell (eT p 38 o) 4::cls (ae r46 0) 0 4 ([vI 0,vI 0,vI 0,vI 0,vI 0,vI 0,vI 0,vI 0,vI 0,vI 0,vI 0,vI 0,.sl 0 5 [],.sl 0 15 [],.sl 0 1 [],cell (eT p 38 o) 10]))),[.sl n55 38 c56],[.sl n57 41 c58],[.sl n61 6 c62],[.sl n59 4 c60],[.sl n63 3 c64],[.sl n40 6 c41],[.sl n42 31 c43],[.sl 0 11 []],[.sl n47 5 c48],[.sl n50 1 c51]]) (λc=>iK c 2 λz94=>iK c 3 λz95=>sK 41 c 7 λn96 c97=>sK 6 c 8 λn98 c99=>sK 4 c 9 λn100 c101=>sK 3 c 10 λn102 c103=>sK 6 c 11 λu v=>sK 31 c 12 λw x=>sK 11 c 13 λy z=>sK 5 c 14 λA B=>sK 1 c 15 λC D=>jn (λE=>aA Is s88 [[cell (ae c 5) 6]] λr116=>bK r116 0 λb117=>ax b117 (aA Is Ly [sub (ae c 5) 16 3,[.sl n96 41 c97],[.sl n98 6 c99],[.sl n100 4 c101],[.sl n102 3 c103]] λj=>iK j 1 λz119=>iK j 2 λz120=>sK 5 j 3 λL M=>sK 15 j 4 λN O=>sK 1 j 5 λP Q=>sK 41 j 6 λR S=>sK 4 j 7 λT U=>sK 6 j 8 λV W=>sK 3 j 9 λX Y=>(λV1=>(λV2=>ax (decide ((128:Int)<z119)) (aA Is tN V2 λF=>sK 41 F 0 λn136 c137=>sK 4 F 1 λn138 c139=>sK 6 F 2 λn140 c141=>sK 3 F 3 λn142 c143=>E [[Cz c 0],[Cz c 1],[vI z94],[vI z95],ae c 4,cls (ae c 6) 0 12 V1,[.sl n136 41 c137],[.sl n140 6 c141],[.sl n138 4 c139],[.sl n142 3 c143],[.sl u 6 v],[.sl w 31 x],[.sl y 11 z],[.sl A 5 B],[.sl C 1 D]]) (ax (decide ((24:Int)<z120)) (aA Is tN V2 λG=>sK 41 G 0 λn145 c146=>sK 4 G 1 λn147 c148=>sK 6 G 2 λn149 c150=>sK 3 G 3 λn151 c152=>E [[Cz c 0],[Cz c 1],[vI z94],[vI z95],ae c 4,cls (ae c 6) 0 12 V1,[.sl n145 41 c146],[.sl n149 6 c150],[.sl n147 4 c148],[.sl n151 3 c152],[.sl u 6 v],[.sl w 31 x],[.sl y 11 z],[.sl A 5 B],[.sl C 1 D]]) (E [[Cz c 0],[Cz c 1],[vI z94],[vI z95],ae c 4,cls (ae c 6) 0 12 V1,[.sl R 41 S],[.sl V 6 W],[.sl T 4 U],[.sl X 3 Y],[.sl u 6 v],[.sl w 31 x],[.sl y 11 z],[.sl A 5 B],[.sl C 1 D]]))) [[vI 4],sub (ae c 5) 0 3,[vI 11],[.sl R 41 S],[.sl V 6 W],[.sl T 4 U],[.sl X 3 Y]]) (cls (ae j 0) 0 12 [.sl L 5 M,.sl N 15 O,.sl P 1 Q,cell (ae c 6) 27])) (E [[Cz c 0],[Cz c 1],[vI z94],[vI z95],ae c 4,cls (ae c 6) 0 28 [],[.sl n96 41 c97],[.sl n98 6 c99],[.sl n100 4 c101],[.sl n102 3 c103],[.sl u 6 v],[.sl w 31 x],[.sl y 11 z],[.sl A 5 B],[.sl C 1 D]])) (λf=>iK f 2 λz153=>iK f 3 λz154=>sK 41 f 6 λn155 c156=>sK 6 f 7 λn157 c158=>sK 4 f 8 λn159 c160=>sK 3 f 9 λn161 c162=>sK 6 f 10 λn163 c164=>sK 31 f 11 λn165 c166=>sK 11 f 12 λn167 c168=>sK 5 f 13 λn169 c170=>sK 1 f 14 λn171 c172=>az (aL (n165+1) 353) (oK z154 (next28 [[Cz f 0],[Cz f 1],[vI z153],[vI (z154+1)],ae f 4,[.sl n155 41 c156],[.sl n157 6 c158],[.sl n159 4 c160],[.sl n161 3 c162],[.sl n163 6 c164],[.sl (n165+1) 31 (c166++(cls (ae f 5) 0 8 (.sl n167 11 c168::cls (ae f 5) 8 4 (.sl n169 5 c170::cls (ae f 5) 12 16 [.sl n171 1 c172]))))]])))))) (k26 [[Cz i 0],ae i 4,[.sl n32 41 c33],[.sl n34 6 c35],[.sl n36 4 c37],[.sl n38 3 c39],[.sl n40 6 c41],[.sl n42 31 c43]])) [[.sl n5 38 c6],[.sl n10 38 c11],[vI n10],[vI 0],[.sl 0 6 [],.sl 0 31 []],[.sl n15 41 c16],[.sl n19 6 c20],[.sl n17 4 c18],[.sl n21 3 c22],[.sl 0 6 []],[.sl 0 31 []]]) (λl=>sK 41 l 2 λn173 c174=>sK 6 l 3 λZ c176=>sK 4 l 4 λn177 c178=>sK 3 l 5 λn179 c180=>sK 6 l 6 λn181 c182=>sK 31 l 7 λn183 c184=>ax (decide ((0:Int)<(Z:Int))) (aA Is s101 [[.sl n173 41 c174],[.sl Z 6 c176],[.sl n177 4 c178],[.sl n179 3 c180]] λr185=>sK 6 r185 0 λn186 c187=>K [[.sl 0 6 []],[.sl 0 31 []],[.sl n186 6 c187]]) (sK 38 l 0 λn188 _=>Lp (λnext190 h=>iK h 1 λz192=>iK h 2 λm=>sK 41 h 4 λn194 c195=>sK 6 h 5 λn196 c197=>sK 4 h 6 λn198 c199=>sK 3 h 7 λn200 c201=>sK 6 h 8 λn202 c203=>sK 31 h 9 λn204 c205=>ax (decide (m<z192)) (sK 38 h 0 λn206 r=>kI m n206 (jn (λk208=>aG 3 (cell (eT r 38 m) 5) λn210 _=>Lp (λs b=>iK b 1 λz214=>iK b 2 λz215=>iK b 4 λz216=>iK b 5 λn=>sK 41 b 9 λn218 c219=>sK 6 b 10 λn220 c221=>sK 4 b 11 λn222 c223=>sK 3 b 12 λn224 c225=>sK 6 b 13 λn226 c227=>sK 31 b 14 λn228 c229=>sK 3 b 15 λH c231=>sK 3 b 16 λn232 c233=>(λV3=>(λV4=>(λV5=>(λV6=>(λV7=>(λV8=>ax (decide (n<z216)) (sK 3 b 3 λn234 c235=>kI n n234 (aA Is Ed [eT c235 3 n,[.sl 1 1 [vI 0]],[.sl n218 41 c219]] λr236=>bK r236 0 λb237=>sK 41 r236 1 λn238 c239=>ax b237 (az (aL (H+1) 25) (oK n (s [[Cz b 0],[vI z214],[vI z215],[Cz b 3],[vI z216],[vI (n+1)],ae b 6,ae b 7,cls (ae b 8) 0 4 [],[.sl n238 41 c239],V8,V7,V6,V5,V3,[.sl (H+1) 3 (c231++((eT c235 3 n)++[]))],V4]))) (oK n (s [[Cz b 0],[vI z214],[vI z215],[Cz b 3],[vI z216],[vI (n+1)],ae b 6,ae b 7,cls (ae b 8) 0 4 [],[.sl n238 41 c239],V8,V7,V6,V5,V3,[.sl H 3 c231],V4])))) (k208 [[Cz b 0],[vI z214],[vI z215],ae b 6,ae b 7,cls (ae b 8) 0 4 [],[.sl n218 41 c219],V8,V7,V6,V5,V3,[.sl H 3 c231],V4])) [.sl n220 6 c221]) [.sl n222 4 c223]) [.sl n224 3 c225]) [.sl n226 6 c227]) [.sl n232 3 c233]) [.sl n228 31 c229]) [[Cz h 0],[vI z192],[vI m],[cell (eT r 38 m) 5],[vI n210],[vI 0],ae h 3,eT r 38 m,cls (sub (eT r 38 m) 0 3) 0 3 [cell (eT r 38 m) 4],[.sl n194 41 c195],[.sl n196 6 c197],[.sl n198 4 c199],[.sl n200 3 c201],[.sl n202 6 c203],[.sl n204 31 c205],[.sl 0 3 []],[.sl 0 3 []]]) (λg=>iK g 1 λz240=>iK g 2 λz241=>sK 41 g 6 λn242 c243=>sK 6 g 7 λn244 c245=>sK 4 g 8 λn246 c247=>sK 3 g 9 λn248 c249=>sK 6 g 10 λn250 c251=>sK 31 g 11 λn252 c253=>sK 3 g 12 λn254 c255=>sK 3 g 13 λn256 c257=>aA Is D7 [[.sl n254 3 c255]] λr258=>sK 3 r258 0 λn259 c260=>aA Is s79 [[.sl n259 3 c260]] λr261=>sK 3 r261 0 λn262 c263=>aA Is Ja [[vI 2],[.sl n242 41 c243],ae g 4] λr264=>sK 38 r264 0 λn265 c266=>sK 41 r264 1 λn267 c268=>Lp (λj6 d=>iK d 1 λz271=>iK d 2 λz272=>iK d 3 λz273=>iK d 4 λt=>sK 38 d 7 λn275 c276=>sK 41 d 8 λn277 c278=>sK 6 d 9 λn279 c280=>sK 4 d 10 λn281 c282=>sK 3 d 11 λn283 c284=>sK 6 d 12 λn285 c286=>sK 31 d 13 λn287 c288=>sK 3 d 14 λn289 c290=>sK 3 d 15 λn291 c292=>ax (decide (t<z273)) (kI t n275 (az (aL (n291+1) 25) (oK t (j6 [[Cz d 0],[vI z271],[vI z272],[vI z273],[vI (t+1)],ae d 5,cls (ae d 6) 0 4 [],[.sl n275 38 c276],[.sl n277 41 c278],[.sl n279 6 c280],[.sl n281 4 c282],[.sl n283 3 c284],[.sl n285 6 c286],[.sl n287 31 c288],[.sl n289 3 c290],[.sl (n291+1) 3 (c292++((sub (eT c276 38 t) 0 3)++[]))]])))) (az (aL (n285+1) 89) (oK z272 (next190 [[Cz d 0],[vI z271],[vI (z272+1)],ae d 5,[.sl n277 41 c278],[.sl n279 6 c280],[.sl n281 4 c282],[.sl n283 3 c284],[.sl (n285+1) 6 (c286++(cls (ae d 6) 0 4 [.sl n289 3 c290,.sl n291 3 c292]))],[.sl n287 31 c288]])))) [[Cz g 0],[vI z240],[vI z241],[vI n265],[vI 0],ae g 3,cls (ae g 5) 0 4 [],[.sl n265 38 c266],[.sl n267 41 c268],[.sl n244 6 c245],[.sl n246 4 c247],[.sl n248 3 c249],[.sl n250 6 c251],[.sl n252 31 c253],[.sl n262 3 c263],[.sl n256 3 c257]]))) (K [[.sl n202 6 c203],[.sl n204 31 c205],[.sl 0 6 []]])) [[Cz l 0],[vI n188],[vI 0],ae l 1,[.sl n173 41 c174],[.sl Z 6 c176],[.sl n177 4 c178],[.sl n179 3 c180],[.sl n181 6 c182],[.sl n183 31 c184]])))
theorem w26:Wd (cF [D7,s79,Jd,s87,s88,s96,s97,Jc,Ja,s100,s101,Lz,Ly,tN,Ed]) ⟨[(8,⟨[hP 2 0,hP 4 1,hD 5,hP 7 2,hD 51,hI 52,hI 53],[hA 0 26 2,(1,.b 152 [.m 3,.w 4,.m 5,.w 6]),(2,.b 26 [.w 7,.w 8]),(3,.ms 148 true 38),hR 4 57 6,(5,.m 150 false 1),hR 6 42 3,hR 7 60 6,hR 8 52 31]⟩),(12,⟨[hP 2 0,hP 4 1,hD 5,hP 7 2,hP 9 3,hP 10 4,hD 51,hI 52,hI 53,hW 77 5,hI 78,hI 79],[hA 0 26 2,(1,.b 152 [.m 6,.w 7,.m 8,.w 9]),(2,.b 26 [.w 10,.w 11]),hA 3 70 38,(4,.b 52 (.d::.d::.d::.d::.d::.d::.d::.d::.w 12::.d::.d::.d::.d::.w 13::ds 16++[.w 14])),hR 5 70 38,(6,.ms 148 true 38),hR 7 57 6,(8,.m 150 false 1),hR 9 42 3,hR 10 60 6,hR 11 52 31,hR 12 75 11,hR 13 46 5,hR 14 9 1]⟩),(26,⟨[hP 2 0,hP 4 1,hP 7 2,hD 140,hI 141,hI 142],[hA 0 26 2,(1,.b 152 [.m 3,.w 4,.m 5,.w 6]),(2,.b 26 [.w 7,.w 8]),(3,.ms 148 true 38),hR 4 57 6,(5,.m 150 false 1),hR 6 42 3,hR 7 60 6,hR 8 52 31]⟩),(30,⟨[hP 2 0,hP 4 1,hP 7 2,hP 17 3,hP 18 4,hD 140,hI 141,hI 142,hD 152,hI 153,hI 154],[hA 0 26 2,(1,.b 152 [.m 5,.w 6,.m 7,.w 8]),(2,.b 26 [.w 9,.w 10]),hA 3 70 38,(4,.b 60 [.d,.d,.d,.d,.w 11,.w 12]),(5,.ms 148 true 38),hR 6 57 6,(7,.m 150 false 1),hR 8 42 3,hR 9 60 6,hR 10 52 31,hR 11 42 3,hR 12 42 3]⟩),(38,⟨[hP 2 0,hP 4 1,hP 7 2,hP 18 3,hD 140,hI 141,hI 142,hW 184 4,hI 185,hI 186],[hA 0 26 2,(1,.b 152 [.m 5,.w 6,.m 7,.w 8]),(2,.b 26 [.w 9,.w 10]),(3,.b 60 [.d,.d,.d,.d,.w 11,.w 12]),hR 4 70 38,(5,.ms 148 true 38),hR 6 57 6,(7,.m 150 false 1),hR 8 42 3,hR 9 60 6,hR 10 52 31,hR 11 42 3,hR 12 42 3]⟩)],[(16,⟨[hP 2 0,hP 4 1,hD 5,hP 7 2,hP 9 3,hP 10 4,hD 51,hI 52,hI 53],[hA 0 26 2,(1,.b 152 [.m 5,.w 6,.m 7,.w 8]),(2,.b 26 [.w 9,.w 10]),hA 3 70 38,(4,.b 52 (.d::.d::.d::.d::.d::.d::.d::.d::.w 11::.d::.d::.d::.d::.w 12::ds 16++[.w 13])),(5,.ms 148 true 38),hR 6 57 6,(7,.m 150 false 1),hR 8 42 3,hR 9 60 6,hR 10 52 31,hR 11 75 11,hR 12 46 5,hR 13 9 1]⟩),(21,⟨[hP 2 0,hP 4 1,hD 5,hP 7 2,hP 10 3,hD 51,hI 52,hI 53],[hA 0 26 2,(1,.b 152 [.m 4,.w 5,.m 6,.w 7]),(2,.b 26 [.w 8,.w 9]),(3,.b 52 (.d::.d::.d::.d::.d::.d::.d::.d::.w 10::.d::.d::.d::.d::.w 11::ds 16++[.w 12])),(4,.ms 148 true 38),hR 5 57 6,(6,.m 150 false 1),hR 7 42 3,hR 8 60 6,hR 9 52 31,hR 10 75 11,hR 11 46 5,hR 12 9 1]⟩),(23,⟨[hP 2 0,hP 4 1,hD 5,hP 7 2],[hA 0 26 2,(1,.b 152 [.m 3,.w 4,.m 5,.w 6]),(2,.b 26 [.w 7,.w 8]),(3,.ms 148 true 38),hR 4 57 6,(5,.m 150 false 1),hR 6 42 3,hR 7 60 6,hR 8 52 31]⟩),(35,⟨[hP 2 0,hP 4 1,hP 7 2,hP 17 3,hP 18 4,hD 140,hI 141,hI 142],[hA 0 26 2,(1,.b 152 [.m 5,.w 6,.m 7,.w 8]),(2,.b 26 [.w 9,.w 10]),hA 3 70 38,(4,.b 60 [.d,.d,.d,.d,.w 11,.w 12]),(5,.ms 148 true 38),hR 6 57 6,(7,.m 150 false 1),hR 8 42 3,hR 9 60 6,hR 10 52 31,hR 11 42 3,hR 12 42 3]⟩)],[]⟩ s26 g26:=Wk
def g96:Tx:=λ_ a K=>sK 38 a 0 λp _=>Lp (λc b=>iK b 1 λl=>iK b 2 λd=>sK 41 b 3 λf g=>ax (decide (d<l)) (sK 38 b 0 λq e=>kI d q (tK (sub (eT e 38 d) 0 3) λm n o=>ax (!((bA 41 m n o f g).isSome)) (tK (sub (eT e 38 d) 0 3) λh i j=>oK d (c [[Cz b 0],[vI l],[vI (d+1)],[.sl (fM 41 h i j f g) 41 (dc 41 h i j (eT e 38 d) f g)]])) (oK d (c [[Cz b 0],[vI l],[vI (d+1)],[.sl f 41 g]])))) (K [[.sl f 41 g]])) [[Cz a 0],[vI p],[vI 0],[.sl 0 41 []]]
theorem w96:Wd (cF []) ⟨[(3,⟨[(3,.c (.m 0)),hD 9,hI 10,hI 11],[(0,.m 148 true 38)]⟩)],[],[]⟩ s96 g96:=Wk
def g97:Tx:=λIs a K=>iK a 0 λy=>sK 41 a 1 λw x=>jn (λz=>Lp (λb f=>iK f 0 λj=>sK 41 f 1 λl g=>sK 38 f 2 λd h=>sK 41 f 3 λe c=>((e=0->(z [[.sl l 41 g],[.sl d 38 h]]))/\∀i15,i15<e->(ar (cell (TG 3 (el c 41 i15)) 3) λm=>ax (decide (m=j)) (aA Is s98 [TG 3 (el c 41 i15)] λn=>bK n 0 λo=>ax o (az (aL (d+1) 425) (b [[vI j],[.sl l 41 g],[.sl (d+1) 38 (h++((TG 3 (el c 41 i15))++[]))],[.sl (e-1) 41 (mO c 41 i15)]])) (b [[vI j],[.sl l 41 g],[.sl d 38 h],[.sl (e-1) 41 (mO c 41 i15)]])) (b [[vI j],[.sl l 41 g],[.sl d 38 h],[.sl (e-1) 41 (mO c 41 i15)]])))) [[vI y],[.sl w 41 x],[.sl 0 38 []],[.sl w 41 x]]) (λi=>sK 41 i 0 λp q=>sK 38 i 1 λr s=>aA Is BZ [[.sl r 38 s]] λt=>sK 38 t 0 λu v=>K [[.sl u 38 v],[.sl p 41 q]])
theorem w97:Wd ⟨[s98,BZ],[42],[],[],lF,lE,false,gh,true,false,[]⟩ ⟨[(3,⟨[(0,.c (.m 0)),hI 1,(2,.c (.f 98 [])),(3,.c (.f 99 [])),hW 9 1,hP 13 2],[(0,.ms 148 true 38),hR 1 70 38,(2,.it true 38)]⟩)],[(7,⟨[(0,.c (.m 0)),(3,.c (.f 99 [])),hW 9 1],[(0,.ms 148 true 38),hR 1 70 38]⟩)],[]⟩ s97 g97:=Wk
def g97_1:Tx:=λIs a K=>iK a 0 λy=>sK 41 a 1 λw x=>jn (λz=>Lp (λb f=>iK f 0 λj=>sK 41 f 1 λl g=>sK 38 f 2 λd h=>sK 41 f 3 λe c=>((e=0->(z [[.sl l 41 g],[.sl d 38 h]]))/\∀i15,i15<e->(ar (cell (TG 3 (el c 41 i15)) 3) λm=>ax (decide (m=j)) (aA Is s98 [TG 3 (el c 41 i15)] λn=>bK n 0 λo=>ax o (az (aL (d+1) 425) (b [[vI j],[.sl l 41 g],[.sl (d+1) 38 (h++((TG 3 (el c 41 i15))++[]))],[.sl (e-1) 41 (mO c 41 i15)]])) (b [[vI j],[.sl l 41 g],[.sl d 38 h],[.sl (e-1) 41 (mO c 41 i15)]])) (b [[vI j],[.sl l 41 g],[.sl d 38 h],[.sl (e-1) 41 (mO c 41 i15)]])))) [[vI y],[.sl w 41 x],[.sl 0 38 []],[.sl w 41 x]]) (λi=>sK 41 i 0 λp q=>sK 38 i 1 λr s=>aA Is BZ [[.sl r 38 s]] λt=>sK 38 t 0 λu v=>K [[.sl u 38 v],[.sl p 41 q]])
theorem w97_1:Wd ⟨[s98,BZ],[42],[],[],lF,lE,false,gh,true,false,[]⟩ ⟨[(3,⟨[(0,.c (.m 0)),hI 1,(2,.c (.f 98 [])),(3,.c (.f 99 [])),hW 9 1,hP 13 2],[(0,.ms 148 true 38),hR 1 70 38,(2,.it true 38)]⟩)],[(7,⟨[(0,.c (.m 0)),(3,.c (.f 99 [])),hW 9 1],[(0,.ms 148 true 38),hR 1 70 38]⟩)],[]⟩ Jc g97_1:=Wk
def g97_2:Tx:=λIs a K=>iK a 0 λy=>sK 41 a 1 λw x=>jn (λz=>Lp (λb c=>iK c 0 λl=>sK 41 c 1 λm g=>sK 38 c 3 λe h=>sK 41 c 4 λf d=>((f=0->(z [[.sl m 41 g],ae c 2,[.sl e 38 h]]))/\∀i15,i15<f->(ar (cell (TG 3 (el d 41 i15)) 3) λn=>ax (decide (n=l)) (aA Is s182 [TG 3 (el d 41 i15),ae c 2] λi=>bK i 0 λo=>ax o (az (aL (e+1) 425) (b [[vI l],[.sl m 41 g],ae i 1,[.sl (e+1) 38 (h++((TG 3 (el d 41 i15))++[]))],[.sl (f-1) 41 (mO d 41 i15)]])) (b [[vI l],[.sl m 41 g],ae i 1,[.sl e 38 h],[.sl (f-1) 41 (mO d 41 i15)]])) (b [[vI l],[.sl m 41 g],ae c 2,[.sl e 38 h],[.sl (f-1) 41 (mO d 41 i15)]])))) [[vI y],[.sl w 41 x],ae a 2,[.sl 0 38 []],[.sl w 41 x]]) (λj=>sK 41 j 0 λp q=>sK 38 j 2 λr s=>aA Is kR [[.sl r 38 s]] λt=>sK 38 t 0 λu v=>K [[.sl u 38 v],[.sl p 41 q],ae j 1])
theorem w97_2:Wd ⟨[kR,s182],[42],[],[],lF,lE,false,gh,true,false,[]⟩ ⟨[(3,⟨[(0,.c (.m 0)),hI 1,(2,.c (.f 182 [.p 1 0])),(3,.c (.f 107 [])),hW 9 2,hP 13 3],[(0,.ms 148 true 38),hA 1 42 3,hR 2 70 38,(3,.it true 38)]⟩)],[(7,⟨[(0,.c (.m 0)),(2,.c (.f 182 [.p 1 0])),(3,.c (.f 107 [])),hW 9 2],[(0,.ms 148 true 38),hA 1 42 3,hR 2 70 38]⟩)],[]⟩ Jb g97_2:=Wk
def g97_3:Tx:=λIs a K=>iK a 0 λy=>sK 41 a 1 λw x=>jn (λz=>Lp (λb c=>iK c 0 λl=>sK 41 c 1 λm g=>sK 38 c 3 λe h=>sK 41 c 4 λf d=>((f=0->(z [[.sl m 41 g],ae c 2,[.sl e 38 h]]))/\∀i15,i15<f->(ar (cell (TG 3 (el d 41 i15)) 3) λn=>ax (decide (n=l)) (aA Is s106 [TG 3 (el d 41 i15),ae c 2] λi=>bK i 0 λo=>ax o (az (aL (e+1) 425) (b [[vI l],[.sl m 41 g],ae i 1,[.sl (e+1) 38 (h++((TG 3 (el d 41 i15))++[]))],[.sl (f-1) 41 (mO d 41 i15)]])) (b [[vI l],[.sl m 41 g],ae i 1,[.sl e 38 h],[.sl (f-1) 41 (mO d 41 i15)]])) (b [[vI l],[.sl m 41 g],ae c 2,[.sl e 38 h],[.sl (f-1) 41 (mO d 41 i15)]])))) [[vI y],[.sl w 41 x],ae a 2,[.sl 0 38 []],[.sl w 41 x]]) (λj=>sK 41 j 0 λp q=>sK 38 j 2 λr s=>aA Is kR [[.sl r 38 s]] λt=>sK 38 t 0 λu v=>K [[.sl u 38 v],[.sl p 41 q],ae j 1])
theorem w97_3:Wd ⟨[s106,kR],[42],[],[],lF,lE,false,gh,true,false,[]⟩ ⟨[(3,⟨[(0,.c (.m 0)),hI 1,(2,.c (.f 106 [.p 1 0])),(3,.c (.f 107 [])),hW 9 2,hP 13 3],[(0,.ms 148 true 38),hA 1 70 38,hR 2 70 38,(3,.it true 38)]⟩)],[(7,⟨[(0,.c (.m 0)),(2,.c (.f 106 [.p 1 0])),(3,.c (.f 107 [])),hW 9 2],[(0,.ms 148 true 38),hA 1 70 38,hR 2 70 38]⟩)],[]⟩ Ja g97_3:=Wk
def g98:Tx:=λ_ _ K=>K [[vB true]]
theorem w98:Wd (cF []) hZ s98 g98:=Wk
def g100:Tx:=λIs a K=>sK 41 a 2 λn1 c2=>sK 6 a 3 λn3 c4=>sK 4 a 4 λn5 c6=>sK 3 a 5 λn7 c8=>jn (λk9=>sK 38 a 0 λn11 _=>(λV2=>ax (decide ((16:Int)<(n11:Int))) (aA Is tN V2 λX=>sK 41 X 0 λn14 c15=>sK 4 X 1 λn16 c17=>sK 6 X 2 λn18 c19=>sK 3 X 3 λn20 c21=>k9 [[Cz a 1],[.sl n14 41 c15],[.sl n18 6 c19],[.sl n16 4 c17],[.sl n20 3 c21]]) (sK 38 a 1 λn22 _=>ax (decide ((32:Int)<(n22:Int))) (aA Is tN V2 λY=>sK 41 Y 0 λn25 c26=>sK 4 Y 1 λn27 c28=>sK 6 Y 2 λn29 c30=>sK 3 Y 3 λn31 c32=>k9 [[Cz a 1],[.sl n25 41 c26],[.sl n29 6 c30],[.sl n27 4 c28],[.sl n31 3 c32]]) (k9 [[Cz a 1],[.sl n1 41 c2],[.sl n3 6 c4],[.sl n5 4 c6],[.sl n7 3 c8]]))) [[vI 4],[vI 0,vI 0,vI 0],[vI 14],[.sl n1 41 c2],[.sl n3 6 c4],[.sl n5 4 c6],[.sl n7 3 c8]]) (λl=>sK 41 l 1 λn33 c34=>sK 6 l 2 λn35 c36=>sK 4 l 3 λn37 c38=>sK 3 l 4 λn39 c40=>sK 38 l 0 λn41 _=>Lp (λp g=>iK g 1 λz45=>iK g 2 λq=>sK 41 g 3 λn47 c48=>sK 6 g 4 λn49 c50=>sK 4 g 5 λn51 c52=>sK 3 g 6 λn53 c54=>(λV3=>(λV4=>(λV5=>ax (decide (q<z45)) (sK 38 g 0 λn55 Z=>kI q n55 (jn (λk57=>aA Is Ed [sub (eT Z 38 q) 7 3,[.sl 1 1 [vI 0]],[.sl n47 41 c48]] λr59=>bK r59 0 λb60=>sK 41 r59 1 λn61 c62=>ax (!b60) (aA Is tN [[vI 14],sub (eT Z 38 q) 0 3,[vI 6],[.sl n61 41 c62],V5,V4,V3] λr63=>sK 41 r63 0 λn64 c65=>sK 4 r63 1 λn66 c67=>sK 6 r63 2 λn68 c69=>sK 3 r63 3 λn70 c71=>k57 [[Cz g 0],[vI z45],[vI q],eT Z 38 q,[.sl n64 41 c65],[.sl n68 6 c69],[.sl n66 4 c67],[.sl n70 3 c71]]) (k57 [[Cz g 0],[vI z45],[vI q],eT Z 38 q,[.sl n61 41 c62],V5,V4,V3])) (λd=>iK d 1 λz72=>iK d 2 λz73=>sK 41 d 4 λn74 c75=>sK 6 d 5 λn76 c77=>sK 4 d 6 λn78 c79=>sK 3 d 7 λn80 c81=>jn (λk82=>aA Is Lz [sub (ae d 3) 0 3,[.sl n74 41 c75],[.sl n76 6 c77],[.sl n78 4 c79],[.sl n80 3 c81]] λz=>sK 38 z 0 λn85 _=>sK 41 z 1 λn87 c88=>sK 4 z 2 λn89 c90=>sK 6 z 3 λn91 c92=>sK 3 z 4 λn93 c94=>ax (decide ((6:Int)<(n85:Int))) (aA Is tN [[vI 4],sub (ae d 3) 0 3,[vI 3],[.sl n87 41 c88],[.sl n91 6 c92],[.sl n89 4 c90],[.sl n93 3 c94]] λr95=>sK 41 r95 0 λn96 c97=>sK 4 r95 1 λn98 c99=>sK 6 r95 2 λn100 c101=>sK 3 r95 3 λn102 c103=>k82 [[Cz d 0],[vI z72],[vI z73],ae d 3,[.sl n96 41 c97],[.sl n100 6 c101],[.sl n98 4 c99],[.sl n102 3 c103]]) (k82 [[Cz d 0],[vI z72],[vI z73],ae d 3,[.sl n87 41 c88],[.sl n91 6 c92],[.sl n89 4 c90],[.sl n93 3 c94]])) (λc=>iK c 1 λA=>iK c 2 λm=>sK 41 c 4 λn106 c107=>sK 6 c 5 λB C=>sK 4 c 6 λD E=>sK 3 c 7 λF G=>aA Is s88 [[cell (ae c 3) 6]] λr114=>bK r114 0 λb115=>ax (!b115) (oK m (p [[Cz c 0],[vI A],[vI (m+1)],[.sl n106 41 c107],[.sl B 6 C],[.sl D 4 E],[.sl F 3 G]])) (aA Is Ed [sub (ae c 3) 16 3,[.sl 1 1 [vI 4]],[.sl n106 41 c107]] λr116=>bK r116 0 λb117=>sK 41 r116 1 λn118 c119=>ax b117 (aA Is N6 [sub (ae c 3) 16 3,[.sl n118 41 c119],[.sl B 6 C],[.sl D 4 E],[.sl F 3 G]] λt=>sK 41 t 0 λn121 c122=>sK 4 t 1 λn123 c124=>sK 6 t 2 λn125 c126=>sK 3 t 3 λn127 c128=>oK m (p [[Cz c 0],[vI A],[vI (m+1)],[.sl n121 41 c122],[.sl n125 6 c126],[.sl n123 4 c124],[.sl n127 3 c128]])) (aA Is tN [[vI 11],sub (ae c 3) 0 3,[vI 11],[.sl n118 41 c119],[.sl B 6 C],[.sl D 4 E],[.sl F 3 G]] λu=>sK 41 u 0 λn130 c131=>sK 4 u 1 λn132 c133=>sK 6 u 2 λn134 c135=>sK 3 u 3 λn136 c137=>oK m (p [[Cz c 0],[vI A],[vI (m+1)],[.sl n130 41 c131],[.sl n134 6 c135],[.sl n132 4 c133],[.sl n136 3 c137]]))))))) (Lp (λH j=>iK j 0 λf=>sK 41 j 1 λn o=>sK 6 j 2 λI J=>sK 4 j 3 λL M=>sK 3 j 4 λr h=>lK f r (kI f r (ar (cell (eT h 3 f) 0) λN=>ar (cell (eT h 3 f) 1) λO=>ar (cell (eT h 3 f) 2) λP=>jn (λk152=>(λV1=>aG 3 (cell (sub ((bA 41 N O P n o).getD V1) 26 12) 10) λn154 _=>ax (decide ((8:Int)<(n154:Int))) (aA Is tN [[vI 4],eT h 3 f,[vI 12],[.sl n 41 o],[.sl I 6 J],[.sl L 4 M],[.sl r 3 h]] λv=>sK 41 v 0 λn157 c158=>sK 4 v 1 λn159 c160=>sK 6 v 2 λn161 c162=>sK 3 v 3 λn163 c164=>k152 [[vI f],eT h 3 f,sub ((bA 41 N O P n o).getD V1) 26 12,[.sl n157 41 c158],[.sl n161 6 c162],[.sl n159 4 c160],[.sl n163 3 c164]]) (k152 [[vI f],eT h 3 f,sub ((bA 41 N O P n o).getD V1) 26 12,[.sl n 41 o],[.sl I 6 J],[.sl L 4 M],[.sl r 3 h]])) [vI 0,vI 0,vI 0,vI 0,.v (.string (Se #[])),.sl 0 3 [],vI 0,vI 0,vI 0,vI 0,vI 0,vI 0,vI 0,vI 0,vI 0,.sl 0 5 [],vI 0,vI 0,vI 0,.sl 0 1 [],vI 0,vI 0,vI 0,vI 0,.sl 0 5 [],vI 0,vI 0,vI 0,vI 0,vI 0,vI 0,vI 0,vI 0,vI 0,vI 0,.sl 0 5 [],.sl 0 3 [],.sl 0 1 []]) (λe=>iK e 0 λz165=>sK 41 e 3 λn166 c167=>sK 6 e 4 λn168 c169=>sK 4 e 5 λn170 c171=>sK 3 e 6 λn172 c173=>aG 3 (cell (ae e 2) 10) λn174 _=>Lp (λs b=>iK b 0 λw=>iK b 2 λQ=>iK b 3 λi=>sK 41 b 5 λn181 c182=>sK 6 b 6 λR S=>sK 4 b 7 λT U=>sK 3 b 8 λV W=>ax (decide (i<Q)) (sK 3 b 1 λn189 c190=>kI i n189 (aA Is Ed [eT c190 3 i,[.sl 1 1 [vI 4]],[.sl n181 41 c182]] λr191=>bK r191 0 λb192=>sK 41 r191 1 λn193 c194=>ax b192 (aA Is N6 [eT c190 3 i,[.sl n193 41 c194],[.sl R 6 S],[.sl T 4 U],[.sl V 3 W]] λx=>sK 41 x 0 λn196 c197=>sK 4 x 1 λn198 c199=>sK 6 x 2 λn200 c201=>sK 3 x 3 λn202 c203=>oK i (s [[vI w],[Cz b 1],[vI Q],[vI (i+1)],ae b 4,[.sl n196 41 c197],[.sl n200 6 c201],[.sl n198 4 c199],[.sl n202 3 c203]])) (aA Is tN [[vI 14],ae b 4,[vI 12],[.sl n193 41 c194],[.sl R 6 S],[.sl T 4 U],[.sl V 3 W]] λy=>sK 41 y 0 λn205 c206=>sK 4 y 1 λn207 c208=>sK 6 y 2 λn209 c210=>sK 3 y 3 λn211 c212=>oK i (s [[vI w],[Cz b 1],[vI Q],[vI (i+1)],ae b 4,[.sl n205 41 c206],[.sl n209 6 c210],[.sl n207 4 c208],[.sl n211 3 c212]])))) (oK w (H [[vI (w+1)],[.sl n181 41 c182],[.sl R 6 S],[.sl T 4 U],[.sl V 3 W]]))) [[vI z165],[cell (ae e 2) 10],[vI n174],[vI 0],ae e 1,[.sl n166 41 c167],[.sl n168 6 c169],[.sl n170 4 c171],[.sl n172 3 c173]]))) (K [[.sl n 41 o],[.sl L 4 M],[.sl I 6 J],[.sl r 3 h]])) [[vI 0],[.sl n47 41 c48],V5,V4,V3])) [.sl n49 6 c50]) [.sl n51 4 c52]) [.sl n53 3 c54]) [[Cz l 0],[vI n41],[vI 0],[.sl n33 41 c34],[.sl n35 6 c36],[.sl n37 4 c38],[.sl n39 3 c40]])
theorem w100:Wd (cF [s88,Lz,tN,Ed,N6]) ⟨[(3,⟨[hP 0 0,hD 24,hI 25,hI 26],[(0,.b 152 [.m 1,.w 4,.m 3,.w 5]),(1,.ms 148 true 38),hR 4 57 6,(3,.m 150 false 1),hR 5 42 3]⟩),(15,⟨[hP 0 0,hI 8],[(0,.b 152 [.m 1,.w 4,.m 3,.w 5]),(1,.ms 148 true 38),hR 4 57 6,(3,.m 150 false 1),hR 5 42 3]⟩),(22,⟨[hP 0 0,hI 8,hP 9 4,hD 107,hI 108,hI 109],[(0,.b 152 [.m 1,.w 5,.m 3,.w 6]),hA 4 42 3,(1,.ms 148 true 38),hR 5 57 6,(3,.m 150 false 1),hR 6 42 3]⟩)],[(2,⟨[hP 0 0,hD 2],[(0,.b 152 [.m 1,.w 4,.m 3,.w 5]),(1,.ms 148 true 38),hR 4 57 6,(3,.m 150 false 1),hR 5 42 3]⟩),(7,⟨[hP 0 0,hP 7 4,hD 24,hI 25,hI 26],[(0,.b 152 [.m 1,.w 5,.m 3,.w 6]),hA 4 70 38,(1,.ms 148 true 38),hR 5 57 6,(3,.m 150 false 1),hR 6 42 3]⟩),(10,⟨[hP 0 0,hP 7 4,hD 24,hI 25,hI 26],[(0,.b 152 [.m 1,.w 5,.m 3,.w 6]),hA 4 70 38,(1,.ms 148 true 38),hR 5 57 6,(3,.m 150 false 1),hR 6 42 3]⟩),(21,⟨[hP 0 0,hI 8,hP 9 4,hP 10 5],[(0,.b 152 [.m 1,.w 6,.m 3,.w 7]),hA 4 42 3,hA 5 68 12,(1,.ms 148 true 38),hR 6 57 6,(3,.m 150 false 1),hR 7 42 3]⟩)],[]⟩ s100 g100:=Wk
def g105:Tx:=λIs a K=>sK 41 a 2 λb c=>tK (ae a 0) λd e f=>ax ((bA 41 d e f b c).isSome) (aA Is s184 [[Cz a 1],[cell ((bA 41 d e f b c).getD [vI 0,vI 0,vI 0,vI 0,.v (.string (Se #[])),.sl 0 3 [],vI 0,vI 0,vI 0,vI 0,vI 0,vI 0,vI 0,vI 0,vI 0,.sl 0 5 [],vI 0,vI 0,vI 0,.sl 0 1 [],vI 0,vI 0,vI 0,vI 0,.sl 0 5 [],vI 0,vI 0,vI 0,vI 0,vI 0,vI 0,vI 0,vI 0,vI 0,vI 0,.sl 0 5 [],.sl 0 3 [],.sl 0 1 []]) 3]] λg=>bK g 0 λh=>K [[vB h],[.sl b 41 c]]) (K [[vB false],[.sl b 41 c]])
theorem w105:Wd (cF [s184]) hZ Ed g105:=Wk
def g184:Tx:=λIs a K=>iK a 1 λb=>aA Is s226 [[Cz a 0],[vI b]] λc=>iK c 0 λd=>K [[vB (decide ((0:Int)<=d))]]
theorem w184:Wd (cF [s226]) hZ s184 g184:=Wk
def g226:Tx:=λ_ a K=>iK a 1 λi=>sK 1 a 0 λj _=>Lp (λc b=>iK b 1 λg=>iK b 2 λh=>iK b 3 λd=>ax (decide (d<h)) (sK 1 b 0 λl e=>kI d l (ar (cell (eT e 1 d) 0) λf=>ax (decide (g=f)) (K [[vI d]]) (oK d (c [[Cz b 0],[vI g],[vI h],[vI (d+1)]])))) (K [[vI (-1)]])) [[Cz a 0],[vI i],[vI j],[vI 0]]
theorem w226:Wd (cF []) ⟨[(2,⟨[hD 0,hI 1,hI 7,hI 8],[]⟩)],[],[]⟩ s226 g226:=Wk
def g102:Tx:=λIs a K=>sK 41 a 1 λg h=>sK 6 a 2 λi j=>sK 4 a 3 λl m=>sK 3 a 4 λn o=>aA Is Jb [[vI 3],[.sl g 41 h],ae a 0] λf=>sK 38 f 0 λb c=>sK 41 f 1 λd e=>K [[.sl b 38 c],[.sl d 41 e],[.sl l 4 m],[.sl i 6 j],[.sl n 3 o]]
theorem w102:Wd (cF [Jb]) hZ Lz g102:=Wk
def g182:Tx:=λ_ a K=>tK (sub (ae a 0) 7 3) λb c d=>iK a 1 λe=>ar (cell (ae a 1) 1) λf=>ar (cell (ae a 1) 2) λg=>K [[vB (decide (b=e/\c=f/\d=g))],ae a 1]
theorem w182:Wd (cF []) hZ s182 g182:=Wk
def g179:Tx:=λIs a K=>sK 41 a 1 λu v=>sK 6 a 2 λw x=>sK 4 a 3 λf g=>sK 3 a 4 λh y=>tK (ae a 0) λz i j=>pc (cell ((bA 4 z i j f g).getD [vB false]) 0) λl=>ax l (aA Is tN [[vI 7],ae a 0,[vI 12],[.sl u 41 v],[.sl w 6 x],[.sl f 4 g],[.sl h 3 y]] λb=>sK 41 b 0 λm n=>sK 4 b 1 λo p=>sK 6 b 2 λq r=>sK 3 b 3 λs t=>K [[.sl m 41 n],[.sl o 4 p],[.sl q 6 r],[.sl s 3 t]]) (tK (ae a 0) λc d e=>az (aL (h+1) 25) (K [[.sl u 41 v],[.sl (fM 4 c d e f g) 4 (dc 4 c d e [vB true] f g)],[.sl w 6 x],[.sl (h+1) 3 (y++((ae a 0)++[]))]]))
theorem w179:Wd (cF [tN]) hZ N6 g179:=Wk
def g58_1:Tx:=λIs a K=>sK 6 a 0 λs A=>ax (decide ((s:Int)<(2:Int))) (K [[.sl s 6 A]]) (Lp (λn o=>iK o 0 λg=>sK 6 o 1 λl p=>lK g l (kI g l (az (aZ (g-1)) (az (0<=(g-1)/\(g-1)<(l:Int)) (aA Is s59 [eT p 6 g,el p 6 (RF (g-1))] λB=>bK B 0 λC=>ax C (az (0<=g/\g<=(l:Int)/\((0:Nat):Int)+l<=((l:Nat):Int)) (Lp (λm e=>iK e 0 λb=>iK e 1 λj=>ar (cell (ae e 1) 1) λh=>iK e 2 λc=>sK 6 e 3 λd i=>ax (decide (c<(((RF h):Nat):Int))) (jn (λq=>az (0<=c/\c<(((RF h):Nat):Int)) (az (aZ (c-1)) (az (0<=(c-1)/\(c-1)<(((RF h):Nat):Int)) (aA Is s59 [el i 6 ((RF j)+(RF c)),el i 6 ((RF j)+(RF (c-1)))] λt=>bK t 0 λu=>ax (!u) (az (0<=c/\c<(((RF h):Nat):Int)) (kI b d (oK b (q [[vI (b+1)],[vI (((RF j):Nat):Int),vI (((RF h):Nat):Int)],[vI c],[.sl d 6 (cB i ((RF b)*6+0) (el i 6 ((RF j)+(RF c))))]])))) (q [[vI b],[vI (((RF j):Nat):Int),vI (((RF h):Nat):Int)],[vI c],[.sl d 6 i]]))))) (λf=>iK f 0 λv=>iK f 1 λw=>ar (cell (ae f 1) 1) λx=>iK f 2 λr=>sK 6 f 3 λy z=>oK r (m [[vI v],[vI (((RF w):Nat):Int),vI (((RF x):Nat):Int)],[vI (r+1)],[.sl y 6 z]]))) (az (0<=b/\b<=(d:Int)/\((0:Nat):Int)+d<=((d:Nat):Int)) (az (6=6/\((0+(RF b))+((RF (d:Int))-(RF b)))<=d/\((RF (d:Int))-(RF b))<=1000000000000000) (az (0<=b/\b<=((d:Nat):Int)) (K [[.sl (RF b) 6 (sub (cB i ((0+(RF b))*6) (T6 (Sj ((RF (d:Int))-(RF b)) [vI 0,vI 0,vI 0,vI 0,vI 0,.sl 0 3 []]))) (0*6) ((RF b)*6))]]))))) [[vI g],[vI (((0+(RF g)):Nat):Int),vI ((((RF (l:Int))-(RF g)):Nat):Int)],[vI 1],[.sl l 6 p]])) (oK g (n [[vI (g+1)],[.sl l 6 p]])))))) (K [[.sl l 6 p]])) [[vI 1],[.sl s 6 A]])
theorem w58_1:Wd ⟨[s59],[42],[],[],lF,lE,true,gh,false,false,[64]⟩ ⟨[(4,⟨[hW 0 0,(1,.c (.f 59 [])),hI 5],[hR 0 57 6]⟩),(9,⟨[hW 0 0,(1,.c (.f 59 [])),hI 5,(6,.c (.y 0 6)),hI 7],[hR 0 57 6]⟩)],[(10,⟨[hW 0 0,(1,.c (.f 59 [])),hI 5,(6,.c (.y 0 6)),hI 7],[hR 0 57 6]⟩)],[]⟩ Jh g58_1:=Wk
def g95:Tx:=λIs a K=>aA Is N4 [[Cz a 0],[Cz a 1]] λb=>iK b 0 λc=>aA Is N4 [[cell (ae a 0) 1],[cell (ae a 1) 1]] λd=>iK d 0 λe=>aA Is N4 [[cell (ae a 0) 2],[cell (ae a 1) 2]] λf=>iK f 0 λg=>aA Is s54 [[.sl 3 1 [vI c,vI e,vI g]]] λh=>iK h 0 λi=>K [[vI i]]
theorem w95:Wd (cF [s54,N4]) hZ s95 g95:=Wk
def g56:Tx:=λIs a K=>iK a 0 λb=>iK a 1 λc=>aA Is N7 [[vI b]] λe=>bK e 0 λf=>aA Is N7 [[vI c]] λg=>bK g 0 λd=>ax f (ax d (K [[vI 0]]) (K [[vI (-1)]])) (ax d (K [[vI 1]]) (ax (decide (b<c)) (K [[vI (-1)]]) (ax (decide (c<b)) (K [[vI 1]]) (K [[vI 0]]))))
theorem w56:Wd (cF [N7]) hZ N4 g56:=Wk
def g158:Tx:=λ_ a K=>iK a 0 λb=>K [[vB (!(decide (b=b)))]]
theorem w158:Wd (cF []) hZ N7 g158:=Wk
def g54:Tx:=λ_ a K=>sK 1 a 0 λi _=>Lp (λc b=>iK b 0 λe=>iK b 2 λg=>iK b 3 λd=>ax (decide (d<g)) (sK 1 b 1 λj h=>kI d j (ar (cell (eT h 1 d) 0) λf=>ax (!(decide (f=e))) (K [[cell (eT h 1 d) 0]]) (oK d (c [[vI e],[Cz b 1],[vI g],[vI (d+1)]])))) (K [[vI e]])) [[vI 0],[Cz a 0],[vI i],[vI 0]]
theorem w54:Wd (cF []) ⟨[(3,⟨[hI 3,hD 6,hI 7,hI 8],[]⟩)],[],[]⟩ s54 g54:=Wk
def g103:Tx:=λIs a K=>sK 41 a 1 λn1 c2=>sK 6 a 2 λn3 c4=>sK 4 a 3 λn5 c6=>sK 3 a 4 λn7 c8=>tK (ae a 0) λz9 E F=>aA Is s183 [sub ((bA 41 z9 E F n1 c2).getD [vI 0,vI 0,vI 0,vI 0,.v (.string (Se #[])),.sl 0 3 [],vI 0,vI 0,vI 0,vI 0,vI 0,vI 0,vI 0,vI 0,vI 0,.sl 0 5 [],vI 0,vI 0,vI 0,.sl 0 1 [],vI 0,vI 0,vI 0,vI 0,.sl 0 5 [],vI 0,vI 0,vI 0,vI 0,vI 0,vI 0,vI 0,vI 0,vI 0,vI 0,.sl 0 5 [],.sl 0 3 [],.sl 0 1 []]) 26 12] λf=>sK 5 f 1 λG H=>sK 3 f 2 λj I=>sK 1 f 3 λJ L=>jn (λM=>Lp (λg b=>iK b 0 λh=>iK b 1 λl=>iK b 2 λm=>iK b 3 λe=>sK 3 b 6 λn o=>sK 41 b 7 λp q=>sK 6 b 8 λr s=>sK 4 b 9 λt u=>sK 3 b 10 λv w=>sK 5 b 11 λx y=>sK 15 b 12 λi z=>sK 1 b 13 λA B=>ax (decide (e<m)) (kI e n (aA Is Ly [eT o 3 e,[.sl p 41 q],[.sl r 6 s],[.sl t 4 u],[.sl v 3 w]] λd=>iK d 1 λC=>iK d 2 λN=>sK 5 d 3 λO P=>sK 15 d 4 λQ R=>sK 1 d 5 λS T=>sK 41 d 6 λU V=>sK 4 d 7 λW X=>sK 6 d 8 λY Z=>sK 3 d 9 λn58 c59=>az (aL (i+1) 169) (az (aZ (h+C)) (oK e (g [[vI (h+C)],[vI (max l N)],[vI m],[vI (e+1)],ae b 4,cls (ae b 5) 0 12 [],[.sl n 3 o],[.sl U 41 V],[.sl Y 6 Z],[.sl W 4 X],[.sl n58 3 c59],[.sl x 5 y],[.sl (i+1) 15 (z++(cls (ae d 0) 0 12 [.sl O 5 P,.sl Q 15 R,.sl S 1 T]))],[.sl A 1 B]]))))) (M [[vI h],[vI l],ae b 4,cls (ae b 5) 0 12 [],[.sl p 41 q],[.sl r 6 s],[.sl t 4 u],[.sl v 3 w],[.sl x 5 y],[.sl i 15 z],[.sl A 1 B]])) [[vI 1],[vI 0],[vI j],[vI 0],[vI 0,vI 0,vI 0,vI 0,vI 0,vI 0,vI 0,vI 0,vI 0,vI 0,vI 0,vI 0,.sl 0 5 [],.sl 0 15 [],.sl 0 1 []],cls (ae a 0) 0 3 (cls (ae f 0) 0 9 []),[.sl j 3 I],[.sl n1 41 c2],[.sl n3 6 c4],[.sl n5 4 c6],[.sl n7 3 c8],[.sl G 5 H],[.sl 0 15 []],[.sl J 1 L]]) (λc=>iK c 0 λz60=>iK c 1 λD=>sK 41 c 4 λn62 c63=>sK 6 c 5 λn64 c65=>sK 4 c 6 λn66 c67=>sK 3 c 7 λn68 c69=>sK 5 c 8 λn70 c71=>sK 15 c 9 λn72 c73=>sK 1 c 10 λn74 c75=>oK D (K [cls (ae c 3) 0 12 [],[vI z60],[vI (D+1)],[.sl n70 5 c71],[.sl n72 15 c73],[.sl n74 1 c75],[.sl n62 41 c63],[.sl n66 4 c67],[.sl n64 6 c65],[.sl n68 3 c69]]))
theorem w103:Wd (cF [Ly,s183]) ⟨[(5,⟨[hP 0 0,hP 4 4,hP 8 5,hI 9,hI 10,hW 37 6,hI 38,hI 39],[(0,.b 152 [.m 1,.w 7,.m 3,.w 8]),hA 4 50 15,(5,.b 50 (ds 12++[.w 9,.w 10,.w 11])),hR 6 42 3,(1,.ms 148 true 38),hR 7 57 6,(3,.m 150 false 1),hR 8 42 3,hR 9 46 5,hR 10 50 15,hR 11 9 1]⟩)],[(12,⟨[hP 0 0,hP 4 4,hP 8 5,hI 9,hI 10],[(0,.b 152 [.m 1,.w 6,.m 3,.w 7]),hA 4 50 15,(5,.b 50 (ds 12++[.w 8,.w 9,.w 10])),(1,.ms 148 true 38),hR 6 57 6,(3,.m 150 false 1),hR 7 42 3,hR 8 46 5,hR 9 50 15,hR 10 9 1]⟩)],[]⟩ Ly g103:=Wk
def g183:Tx:=λIs a K=>aA Is s85 [[cell (ae a 0) 10]] λc=>sK 3 c 0 λd e=>aA Is s87 [[cell (ae a 0) 11]] λf=>sK 1 f 0 λg h=>aA Is Jd [sub (ae a 0) 5 5] λb=>sK 5 b 1 λi j=>K [cls (ae a 0) 0 5 (cls (ae b 0) 0 4 []),[.sl i 5 j],[.sl d 3 e],[.sl g 1 h]]
theorem w183:Wd (cF [s85,Jd,s87]) hZ s183 g183:=Wk
def g106:Tx:=λ_ a K=>tK (sub (ae a 0) 7 3) λb c d=>tK (sub (ae a 1) 0 3) λe f g=>K [[vB (decide (b=e/\c=f/\d=g))],ae a 1]
theorem w106:Wd (cF []) hZ s106 g106:=Wk
def g140:Tx:=λIs a K=>sK 38 a 0 λm _=>sK 38 a 1 λn _=>ax (!(decide ((m:Int)=(n:Int)))) (K [[vB false]]) (sK 38 a 0 λo _=>Lp (λd c=>iK c 2 λl=>iK c 3 λb=>ax (decide (b<l)) (sK 38 c 1 λe f=>kI b e (sK 38 c 0 λg h=>kI b g (aA Is N9 [eT f 38 b,eT h 38 b] λi=>bK i 0 λj=>ax (!j) (K [[vB false]]) (oK b (d [[Cz c 0],[Cz c 1],[vI l],[vI (b+1)]]))))) (K [[vB true]])) [[Cz a 1],[Cz a 0],[vI o],[vI 0]])
theorem w140:Wd (cF [N9]) ⟨[(4,⟨[hD 1,(2,.c (.f 141 [])),hD 15,hI 16,hI 17],[]⟩)],[],[]⟩ s140 g140:=Wk
def g141:Tx:=λIs a K=>tK (sub (ae a 0) 0 3) λF G H=>tK (sub (ae a 1) 0 3) λI J L=>ax (decide (F=I/\G=J/\H=L)) (ar (cell (ae a 0) 3) λM=>ar (cell (ae a 1) 3) λN=>ax (decide (M=N)) (rL (cell (ae a 0) 4) λO=>rL (cell (ae a 1) 4) λb=>ax (decide (O=b)) (aA Is Ea [[cell (ae a 0) 5],[cell (ae a 1) 5]] λc=>bK c 0 λd=>ax d (ar (cell (ae a 0) 6) λe=>ar (cell (ae a 1) 6) λf=>ax (decide (e=f)) (tK (sub (ae a 0) 7 3) λg h i=>tK (sub (ae a 1) 7 3) λj l m=>ax (decide (g=j/\h=l/\i=m)) (ar (cell (ae a 0) 10) λn=>ar (cell (ae a 1) 10) λo=>ax (decide (n=o)) (aA Is zI [sub (ae a 0) 11 5,sub (ae a 1) 11 5] λp=>bK p 0 λq=>ax q (tK (sub (ae a 0) 16 3) λr s t=>tK (sub (ae a 1) 16 3) λu v w=>ax (decide (r=u/\s=v/\t=w)) (aA Is Ls [[cell (ae a 0) 19],[cell (ae a 1) 19]] λx=>bK x 0 λy=>ax y (aA Is zI [sub (ae a 0) 20 5,sub (ae a 1) 20 5] λz=>bK z 0 λA=>ax A (ar (cell (ae a 0) 25) λB=>ar (cell (ae a 1) 25) λC=>ax (decide (B=C)) (aA Is s194 [sub (ae a 0) 26 12,sub (ae a 1) 26 12] λD=>bK D 0 λE=>K [[vB E]]) (K [[vB false]])) (K [[vB false]])) (K [[vB false]])) (K [[vB false]])) (K [[vB false]])) (K [[vB false]])) (K [[vB false]])) (K [[vB false]])) (K [[vB false]])) (K [[vB false]])) (K [[vB false]])) (K [[vB false]])
theorem w141:Wd (cF [Ea,zI,Ls,s194]) hZ N9 g141:=Wk
def g136:Tx:=λ_ a K=>sK 3 a 0 λq _=>sK 3 a 1 λr _=>ax (!(decide ((q:Int)=(r:Int)))) (K [[vB false]]) (sK 3 a 0 λs _=>Lp (λd c=>iK c 2 λp=>iK c 3 λb=>ax (decide (b<p)) (sK 3 c 0 λg e=>kI b g (sK 3 c 1 λh f=>kI b h (ar (cell (eT e 3 b) 0) λi=>ar (cell (eT e 3 b) 1) λj=>ar (cell (eT e 3 b) 2) λl=>ar (cell (eT f 3 b) 0) λm=>ar (cell (eT f 3 b) 1) λn=>ar (cell (eT f 3 b) 2) λo=>ax (!(decide (i=m/\j=n/\l=o))) (K [[vB false]]) (oK b (d [[Cz c 0],[Cz c 1],[vI p],[vI (b+1)]]))))) (K [[vB true]])) [[Cz a 0],[Cz a 1],[vI s],[vI 0]])
theorem w136:Wd (cF []) ⟨[(4,⟨[hD 0,hD 1,hI 12,hI 13],[]⟩)],[],[]⟩ Ea g136:=Wk
def g192:Tx:=λIs a K=>iK a 0 λc=>iK a 1 λd=>ax (decide (c=d)) (tK (sub (ae a 0) 1 3) λe f g=>tK (sub (ae a 1) 1 3) λh i j=>ax (decide (e=h/\f=i/\g=j)) (aA Is s236 [[cell (ae a 0) 4],[cell (ae a 1) 4]] λl=>bK l 0 λb=>K [[vB b]]) (K [[vB false]])) (K [[vB false]])
theorem w192:Wd (cF [s236]) hZ zI g192:=Wk
def g236:Tx:=λIs a K=>sK 5 a 0 λm _=>sK 5 a 1 λn _=>ax (!(decide ((m:Int)=(n:Int)))) (K [[vB false]]) (sK 5 a 0 λo _=>Lp (λd c=>iK c 2 λl=>iK c 3 λb=>ax (decide (b<l)) (sK 5 c 1 λe f=>kI b e (sK 5 c 0 λg h=>kI b g (aA Is zI [eT f 5 b,eT h 5 b] λi=>bK i 0 λj=>ax (!j) (K [[vB false]]) (oK b (d [[Cz c 0],[Cz c 1],[vI l],[vI (b+1)]]))))) (K [[vB true]])) [[Cz a 1],[Cz a 0],[vI o],[vI 0]])
theorem w236:Wd (cF [zI]) ⟨[(4,⟨[hD 1,(2,.c (.f 192 [])),hD 15,hI 16,hI 17],[]⟩)],[],[]⟩ s236 g236:=Wk
def g193:Tx:=λ_ a K=>sK 1 a 0 λm _=>sK 1 a 1 λn _=>ax (!(decide ((m:Int)=(n:Int)))) (K [[vB false]]) (sK 1 a 0 λo _=>Lp (λd c=>iK c 2 λl=>iK c 3 λb=>ax (decide (b<l)) (sK 1 c 0 λe f=>kI b e (sK 1 c 1 λg h=>kI b g (rL (cell (eT f 1 b) 0) λi=>rL (cell (eT h 1 b) 0) λj=>ax (!(decide (i=j))) (K [[vB false]]) (oK b (d [[Cz c 0],[Cz c 1],[vI l],[vI (b+1)]]))))) (K [[vB true]])) [[Cz a 0],[Cz a 1],[vI o],[vI 0]])
theorem w193:Wd (cF []) ⟨[(4,⟨[hD 0,hD 1,hI 12,hI 13],[]⟩)],[],[]⟩ Ls g193:=Wk
def g194:Tx:=λIs a K=>iK a 0 λi=>iK a 1 λj=>ax (decide (i=j)) (ar (cell (ae a 0) 1) λl=>ar (cell (ae a 1) 1) λm=>ax (decide (l=m)) (tK (sub (ae a 0) 2 3) λn o p=>tK (sub (ae a 1) 2 3) λq r b=>ax (decide (n=q/\o=r/\p=b)) (aA Is zI [sub (ae a 0) 5 5,sub (ae a 1) 5 5] λc=>bK c 0 λd=>ax d (aA Is Ea [[cell (ae a 0) 10],[cell (ae a 1) 10]] λe=>bK e 0 λf=>ax f (aA Is Ls [[cell (ae a 0) 11],[cell (ae a 1) 11]] λg=>bK g 0 λh=>K [[vB h]]) (K [[vB false]])) (K [[vB false]])) (K [[vB false]])) (K [[vB false]])) (K [[vB false]])
theorem w194:Wd (cF [Ea,zI,Ls]) hZ s194 g194:=Wk
def g142:Tx:=λIs a K=>sK 6 a 0 λm _=>sK 6 a 1 λn _=>ax (!(decide ((m:Int)=(n:Int)))) (K [[vB false]]) (sK 6 a 0 λo _=>Lp (λd c=>iK c 2 λl=>iK c 3 λb=>ax (decide (b<l)) (sK 6 c 1 λe f=>kI b e (sK 6 c 0 λg h=>kI b g (aA Is Od [eT f 6 b,eT h 6 b] λi=>bK i 0 λj=>ax (!j) (K [[vB false]]) (oK b (d [[Cz c 0],[Cz c 1],[vI l],[vI (b+1)]]))))) (K [[vB true]])) [[Cz a 1],[Cz a 0],[vI o],[vI 0]])
theorem w142:Wd (cF [Od]) ⟨[(4,⟨[hD 1,(2,.c (.f 135 [])),hD 15,hI 16,hI 17],[]⟩)],[],[]⟩ s142 g142:=Wk
def g135:Tx:=λIs a K=>tK (sub (ae a 0) 0 3) λb c d=>tK (sub (ae a 1) 0 3) λe f g=>ax (decide (b=e/\c=f/\d=g)) (aA Is Ea [[cell (ae a 0) 5],[cell (ae a 1) 5]] λh=>bK h 0 λi=>K [[vB i]]) (K [[vB false]])
theorem w135:Wd (cF [Ea]) hZ Od g135:=Wk
def g143:Tx:=λIs a K=>sK 31 a 0 λm _=>sK 31 a 1 λn _=>ax (!(decide ((m:Int)=(n:Int)))) (K [[vB false]]) (sK 31 a 0 λo _=>Lp (λd c=>iK c 2 λl=>iK c 3 λb=>ax (decide (b<l)) (sK 31 c 1 λe f=>kI b e (sK 31 c 0 λg h=>kI b g (aA Is Oa [eT f 31 b,eT h 31 b] λi=>bK i 0 λj=>ax (!j) (K [[vB false]]) (oK b (d [[Cz c 0],[Cz c 1],[vI l],[vI (b+1)]]))))) (K [[vB true]])) [[Cz a 1],[Cz a 0],[vI o],[vI 0]])
theorem w143:Wd (cF [Oa]) ⟨[(4,⟨[hD 1,(2,.c (.f 138 [.p 0 0])),hD 15,hI 16,hI 17],[(0,.b 187 [.f 137 []])]⟩)],[],[]⟩ s143 g143:=Wk
def g138:Tx:=λIs a K=>tK (sub (ae a 0) 0 3) λb c d=>tK (sub (ae a 1) 0 3) λe f g=>ax (decide (b=e/\c=f/\d=g)) (aA Is s139 [[cell (ae a 0) 8],[cell (ae a 1) 8]] λh=>bK h 0 λi=>K [[vB i]]) (K [[vB false]])
theorem w138:Wd (cF [s139]) hZ Oa g138:=Wk
def g139:Tx:=λIs a K=>sK 11 a 0 λm _=>sK 11 a 1 λn _=>ax (!(decide ((m:Int)=(n:Int)))) (K [[vB false]]) (sK 11 a 0 λo _=>Lp (λd c=>iK c 2 λl=>iK c 3 λb=>ax (decide (b<l)) (sK 11 c 1 λe f=>kI b e (sK 11 c 0 λg h=>kI b g (aA Is Oc [eT f 11 b,eT h 11 b] λi=>bK i 0 λj=>ax (!j) (K [[vB false]]) (oK b (d [[Cz c 0],[Cz c 1],[vI l],[vI (b+1)]]))))) (K [[vB true]])) [[Cz a 1],[Cz a 0],[vI o],[vI 0]])
theorem w139:Wd (cF [Oc]) ⟨[(4,⟨[hD 1,(2,.c (.f 137 [])),hD 15,hI 16,hI 17],[]⟩)],[],[]⟩ s139 g139:=Wk
def g137:Tx:=λ_ a K=>tK (sub (ae a 0) 0 3) λb c d=>tK (sub (ae a 1) 0 3) λe f g=>K [[vB (decide (b=e/\c=f/\d=g))]]
theorem w137:Wd (cF []) hZ Oc g137:=Wk
def g45:Tx:=λIs a K=>sK 6 a 3 λJ L=>sK 1 a 1 λM _=>Lp (λd b=>iK b 3 λl=>iK b 4 λc=>sK 6 b 6 λm e=>(λV1=>ax (decide (c<l)) (sK 1 b 2 λn g=>(λV2=>kI c n (aA Is qQ [V2] λo=>bK o 0 λp=>ax (!p) (sK 3 b 0 λq r=>kI c q (aA Is zH [[vI 16],eT r 3 c,[vI 5],V1,[.sl m 6 e]] λh=>sK 6 h 1 λs t=>oK c (d [[Cz b 0],[Cz b 1],[Cz b 2],[vI l],[vI (c+1)],[Cz h 0,cell (ae h 0) 1],[.sl s 6 t]]))) (sK 1 b 1 λu v=>az (0<=(0:Int)/\(0:Int)<=c/\c<=(u:Int)) (aA Is N8 [[.sl (RF c-RF (0:Int)) 1 (sub v (RF (0:Int)*1) ((RF c-RF (0:Int))*1))],V2] λw=>bK w 0 λx=>ax x (sK 3 b 0 λy z=>kI c y (aA Is zH [[vI 16],eT z 3 c,[vI 5],V1,[.sl m 6 e]] λi=>sK 6 i 1 λA B=>oK c (d [[Cz b 0],[Cz b 1],[Cz b 2],[vI l],[vI (c+1)],[Cz i 0,cell (ae i 0) 1],[.sl A 6 B]]))) (oK c (sK 1 b 1 λf C=>az (0<=(c+1)/\(c+1)<=(f:Int)/\(f:Int)<=(f:Int)) (aA Is N8 [[.sl (RF (f:Int)-RF (c+1)) 1 (sub C (RF (c+1)*1) ((RF (f:Int)-RF (c+1))*1))],V2] λD=>bK D 0 λE=>ax E (sK 3 b 0 λF G=>kI c F (aA Is zH [[vI 16],eT G 3 c,[vI 5],V1,[.sl m 6 e]] λj=>sK 6 j 1 λH I=>oK c (d [[Cz b 0],[Cz b 1],[Cz b 2],[vI l],[vI (c+1)],[Cz j 0,cell (ae j 0) 1],[.sl H 6 I]]))) (oK c (d [[Cz b 0],[Cz b 1],[Cz b 2],[vI l],[vI (c+1)],V1,[.sl m 6 e]]))))))))) [cell (eT g 1 c) 0]) (K [V1,[.sl m 6 e]])) [Cz b 5,cell (ae b 5) 1]) [[Cz a 0],[Cz a 1],[Cz a 1],[vI M],[vI 0],[Cz a 2,cell (ae a 2) 1],[.sl J 6 L]]
theorem w45:Wd (cF [zH,qQ,N8]) ⟨[(1,⟨[hP 0 0,hD 1,hD 2,hD 8,hI 9,hI 10],[(0,.b 107 [.d,.d,.w 1]),hR 1 57 6]⟩)],[],[]⟩ s45 g45:=Wk
def g48:Tx:=λ_ a K=>iK a 0 λc=>iK a 2 λd=>sK 6 a 4 λb e=>az (aL (b+1) 65) (K [[Cz a 3,cell (ae a 3) 1],[.sl (b+1) 6 (e++(vI c::cls (ae a 1) 0 3 ([vI d,.sl 0 3 []])))]])
theorem w48:Wd (cF []) hZ zH g48:=Wk
def g145:Tx:=λIs a K=>aA Is s197 [[Cz a 0],[Cz a 1]] λb=>iK b 0 λc=>K [[vB (decide ((0:Int)<=c))]]
theorem w145:Wd (cF [s197]) hZ N8 g145:=Wk
def g197:Tx:=λ_ a K=>sK 1 a 0 λg _=>Lp (λc b=>iK b 2 λf=>iK b 3 λd=>ax (decide (d<f)) (sK 1 b 0 λh i=>kI d h (rL (Cz b 1) λj=>rL (cell (eT i 1 d) 0) λe=>ax (decide (j=e)) (K [[vI d]]) (oK d (c [[Cz b 0],[Cz b 1],[vI f],[vI (d+1)]])))) (K [[vI (-1)]])) [[Cz a 0],[Cz a 1],[vI g],[vI 0]]
theorem w197:Wd (cF []) ⟨[(2,⟨[hD 0,hD 1,hI 7,hI 8],[]⟩)],[],[]⟩ s197 g197:=Wk
def g47:Tx:=λIs a K=>Lp (λc b=>iK b 0 λh=>ax (decide (h<=(24:Int))) (jn (λQ=>iK b 2 λR=>(λV1=>(λV2=>ax (decide (R=(0:Int))) (ax (decide (R=(0:Int))) (tK V1 λS T U=>ax (decide (S=(0:Int)/\T=(0:Int)/\U=(0:Int))) (aG 5 (cell (ae b 2) 4) λi _=>K [[vB (decide ((i:Int)=(0:Int)))]]) (K [[vB false]])) (iK b 2 λj=>ax (decide (j=(3:Int))) (aA Is Gt V2 λd=>bK d 1 λl=>ax l (ar (cell (ae d 0) 3) λm=>ax (decide (m=(0:Int))) (aG 5 (cell (ae b 2) 4) λn _=>K [[vB (decide ((n:Int)=(0:Int)))]]) (ar (cell (ae d 0) 3) λo=>ax (decide (o=(1:Int))) (aG 5 (cell (ae b 2) 4) λp _=>K [[vB (decide ((p:Int)=(0:Int)))]]) (K [[vB false]]))) (K [[vB false]])) (iK b 2 λq=>ax (decide (q=(2:Int))) (tK V1 λr s t=>ax (!(decide (r=(0:Int)/\s=(0:Int)/\t=(0:Int)))) (K [[vB false]]) (aG 5 (cell (ae b 2) 4) λu _=>ax (!(decide ((u:Int)=(1:Int)))) (K [[vB false]]) (aG 5 (cell (ae b 2) 4) λv w=>az (0<=(0:Int)/\(0:Int)<(v:Int)) (Q [[vI h],ae b 1,el w 5 0])))) (K [[vB false]])))) (iK b 2 λx=>ax (decide (x=(1:Int))) (tK V1 λy z A=>ax (decide (y=(0:Int)/\z=(0:Int)/\A=(0:Int))) (aG 5 (cell (ae b 2) 4) λB _=>K [[vB (decide ((B:Int)=(0:Int)))]]) (K [[vB false]])) (iK b 2 λC=>ax (decide (C=(3:Int))) (aA Is Gt V2 λe=>bK e 1 λD=>ax D (ar (cell (ae e 0) 3) λE=>ax (decide (E=(0:Int))) (aG 5 (cell (ae b 2) 4) λF _=>K [[vB (decide ((F:Int)=(0:Int)))]]) (ar (cell (ae e 0) 3) λG=>ax (decide (G=(1:Int))) (aG 5 (cell (ae b 2) 4) λH _=>K [[vB (decide ((H:Int)=(0:Int)))]]) (K [[vB false]]))) (K [[vB false]])) (iK b 2 λI=>ax (decide (I=(2:Int))) (tK V1 λJ L M=>ax (!(decide (J=(0:Int)/\L=(0:Int)/\M=(0:Int)))) (K [[vB false]]) (aG 5 (cell (ae b 2) 4) λN _=>ax (!(decide ((N:Int)=(1:Int)))) (K [[vB false]]) (aG 5 (cell (ae b 2) 4) λO P=>az (0<=(0:Int)/\(0:Int)<(O:Int)) (Q [[vI h],ae b 1,el P 5 0])))) (K [[vB false]]))))) [ae b 1,sub (ae b 2) 1 3]) (sub (ae b 2) 1 3)) (λf=>iK f 0 λg=>oK g (c [[vI (g+1)],ae f 1,ae f 2]))) (K [[vB false]])) [[vI 1],ae a 0,ae a 1]
theorem w47:Wd (cF [Gt]) ⟨[(2,⟨[hP 2 0,hP 3 1,hI 5],[hA 0 26 2,hA 1 46 5]⟩)],[(3,⟨[hP 2 0,hP 3 1,hI 5],[hA 0 26 2,hA 1 46 5]⟩)],[]⟩ s47 g47:=Wk
def g50:Tx:=λIs a K=>sK 6 a 2 λu v=>jn (λw=>aG 11 (cell (ae a 0) 8) λx _=>Lp (λe b=>iK b 1 λt=>iK b 2 λc=>sK 4 b 5 λf h=>sK 6 b 6 λi j=>(λV1=>ax (decide (c<t)) (sK 11 b 0 λl m=>kI c l (az (aL (f+1) 33) (oK c (e [[Cz b 0],[vI t],[vI (c+1)],V1,ae b 4,[.sl (f+1) 4 (h++(cls (sub (eT m 11 c) 0 3) 0 3 [vI 0]))],[.sl i 6 j]])))) (w [V1,ae b 4,[.sl f 4 h],[.sl i 6 j]])) [Cz b 3,cell (ae b 3) 1]) [[cell (ae a 0) 8],[vI x],[vI 0],[Cz a 1,cell (ae a 1) 1],ae a 0,[.sl 0 4 []],[.sl u 6 v]]) (λd=>sK 4 d 2 λn o=>sK 6 d 3 λp q=>aA Is Lu [sub (ae d 1) 14 15,[.sl n 4 o],[Cz d 0,cell (ae d 0) 1],[.sl p 6 q]] λg=>sK 6 g 1 λr s=>K [[Cz g 0,cell (ae g 0) 1],[.sl r 6 s]])
theorem w50:Wd (cF [Lu]) ⟨[(3,⟨[hP 0 0,hP 2 1,hP 3 2,hW 4 3,hD 9,hI 10,hI 11],[(0,.b 107 [.d,.d,.w 4]),(1,.b 105 [.p 0 0]),hA 2 52 31,hR 3 197 4,hR 4 57 6]⟩)],[(7,⟨[hP 0 0,hP 2 1,hP 3 2,hW 4 3],[(0,.b 107 [.d,.d,.w 4]),(1,.b 105 [.p 0 0]),hA 2 52 31,hR 3 197 4,hR 4 57 6]⟩)],[]⟩ s50 g50:=Wk
def g148:Tx:=λIs a K=>sK 6 a 3 λn1 c2=>aA Is s149 [ae a 0,[Cz a 2,cell (ae a 2) 1],[.sl n1 6 c2]] λl=>bK l 0 λb4=>bK l 1 λb5=>sK 6 l 3 λn6 c7=>jn (λk8=>(λV4=>ax b4 (aA Is zH [[vI 17],sub (ae a 0) 0 3,[vI 12],V4,[.sl n6 6 c7]] λm=>sK 6 m 1 λy z=>k8 [[Cz a 1],[vB b5],ae a 0,[Cz m 0,cell (ae m 0) 1],[.sl y 6 z]]) (k8 [[Cz a 1],[vB b5],ae a 0,V4,[.sl n6 6 c7]])) [Cz l 2,cell (ae l 2) 1]) (λc=>bK c 1 λA=>sK 6 c 4 λg h=>jn (λi=>(λV6=>(λV2=>ax A (aA Is zH V2 λn=>sK 6 n 1 λB C=>i [[Cz c 0],ae c 2,[Cz n 0,cell (ae n 0) 1],[.sl B 6 C]]) (ar (cell (ae c 2) 3) λD=>(λV3=>ax (decide (D=(2:Int))) (aA Is s150 [[Cz c 0],cls (sub (ae c 2) 5 3) 0 3 [cell (ae c 2) 4]] λE=>bK E 0 λF=>ax (!F) (aA Is zH V2 λo=>sK 6 o 1 λG H=>i [[Cz c 0],ae c 2,[Cz o 0,cell (ae o 0) 1],[.sl G 6 H]]) (i V3)) (i V3)) [[Cz c 0],ae c 2,V6,[.sl g 6 h]])) [[vI 14],sub (ae c 2) 0 3,[vI 12],V6,[.sl g 6 h]]) [Cz c 3,cell (ae c 3) 1]) (λb=>sK 6 b 3 λp q=>jn (λr=>aG 1 (cell (ae b 1) 14) λI _=>aA Is s151 [ae b 1] λJ=>iK J 0 λL=>(λV7=>(λV1=>ax (!(decide ((I:Int)=L))) (aA Is zH V1 λs=>sK 6 s 1 λM N=>r [[Cz b 0],ae b 1,[Cz s 0,cell (ae s 0) 1],[.sl M 6 N]]) (aA Is s152 [[cell (ae b 1) 14]] λO=>bK O 0 λP=>ax P (aA Is zH V1 λt=>sK 6 t 1 λQ R=>r [[Cz b 0],ae b 1,[Cz t 0,cell (ae t 0) 1],[.sl Q 6 R]]) (r [[Cz b 0],ae b 1,V7,[.sl p 6 q]]))) [[vI 16],sub (ae b 1) 0 3,[vI 12],V7,[.sl p 6 q]]) [Cz b 2,cell (ae b 2) 1]) (λe=>sK 6 e 3 λS T=>aG 15 (cell (ae e 1) 13) λU _=>Lp (λj d=>iK d 2 λv=>iK d 3 λf=>sK 6 d 6 λw x=>(λV5=>ax (decide (f<v)) (sK 15 d 1 λV W=>kI f V (aA Is s155 [ae d 4,[vI f]] λX=>sK 4 X 0 λY Z=>aA Is Lt [[.sl 2 1 [Cz d 0,.sl Y 4 Z]]] λr58=>sK 4 r58 0 λn59 c60=>aA Is Lu [eT W 15 f,[.sl n59 4 c60],V5,[.sl w 6 x]] λu=>sK 6 u 1 λn62 c63=>oK f (j [[Cz d 0],[Cz d 1],[vI v],[vI (f+1)],ae d 4,[Cz u 0,cell (ae u 0) 1],[.sl n62 6 c63]]))) (K [V5,[.sl w 6 x]])) [Cz d 5,cell (ae d 5) 1]) [[Cz e 0],[cell (ae e 1) 13],[vI U],[vI 0],ae e 1,[Cz e 2,cell (ae e 2) 1],[.sl S 6 T]])))
theorem w148:Wd (cF [zH,Lu,s149,s150,s151,s152,Lt,s155]) ⟨[(9,⟨[hD 1,hP 2 0,hP 3 1,hP 4 3,hD 57,hI 58,hI 59],[(0,.b 105 [.p 2 0]),(1,.b 198 [.f 148 [.p 0 0,.p 1 0]]),hA 3 50 15,(2,.b 107 [.d,.d,.w 4]),hR 4 57 6]⟩)],[(4,⟨[hD 1,hP 2 0,hP 3 1,hP 4 3,hB 7],[(0,.b 105 [.p 2 0]),(1,.b 198 [.f 148 [.p 0 0,.p 1 0]]),hA 3 50 15,(2,.b 107 [.d,.d,.w 4]),hR 4 57 6]⟩),(6,⟨[hD 1,hP 2 0,hP 3 1,hP 4 3],[(0,.b 105 [.p 2 0]),(1,.b 198 [.f 148 [.p 0 0,.p 1 0]]),hA 3 50 15,(2,.b 107 [.d,.d,.w 4]),hR 4 57 6]⟩),(8,⟨[hD 1,hP 2 0,hP 3 1,hP 4 3],[(0,.b 105 [.p 2 0]),(1,.b 198 [.f 148 [.p 0 0,.p 1 0]]),hA 3 50 15,(2,.b 107 [.d,.d,.w 4]),hR 4 57 6]⟩)],[]⟩ Lu g148:=Wk
def g149:Tx:=λIs a K=>sK 6 a 2 λm n=>ar (cell (ae a 0) 3) λz3=>(λV3=>(λV9=>ax (decide (z3<(0:Int))) (K V9) (ar (cell (ae a 0) 3) λz4=>ax (decide ((13:Int)<=z4)) (K V9) (ar (cell (ae a 0) 3) λp=>az (0<=p/\p<((13:Nat):Int)) (jn (λq=>ar (cell (ae a 0) 3) λz8=>(λV4=>ax (decide (z8=(4:Int))) (jn (λB=>ar (cell (ae a 0) 4) λC=>(λV8=>ax (decide (C=(9:Int))) (B V8) (ar (cell (ae a 0) 4) λD=>ax (decide (D=(11:Int))) (B V8) (B [[vB false],V4,V3,ae a 0,[.sl m 6 n]]))) [[vB false],[vI 1],V3,ae a 0,[.sl m 6 n]]) (λe=>bK e 0 λv=>iK e 1 λw=>sK 6 e 4 λx y=>ar (cell (ae e 3) 4) λE=>(λV10=>ax (decide (E<(0:Int))) (q [[vB true],[vB v],[vI w],V10,ae e 3,[.sl x 6 y]]) (ar (cell (ae e 3) 4) λF=>q [[vB (decide ((11:Int)<F))],[vB v],[vI w],V10,ae e 3,[.sl x 6 y]])) [Cz e 2,cell (ae e 2) 1])) (ar (cell (ae a 0) 3) λG=>ax (decide (G=(0:Int))) (ar (cell (ae a 0) 4) λH=>ax (decide (H<(-1099511627776:Int))) (q [[vB true],[vB false],V4,V3,ae a 0,[.sl m 6 n]]) (ar (cell (ae a 0) 4) λI=>q [[vB (decide ((1099511627776:Int)<I))],[vB false],V4,V3,ae a 0,[.sl m 6 n]])) (ar (cell (ae a 0) 3) λJ=>(λV6=>ax (decide (J=(1:Int))) (ar (cell (ae a 0) 4) λL=>ax (!(decide (L=(0:Int)))) (ar (cell (ae a 0) 4) λM=>q [[vB (!(decide (M=(1:Int))))],[vB false],V4,V3,ae a 0,[.sl m 6 n]]) (q V6)) (ar (cell (ae a 0) 3) λN=>ax (decide (N=(11:Int))) (aA Is s47 [V3,sub (ae a 0) 8 5] λO=>bK O 0 λP=>q [[vB false],[vB (!P)],V4,V3,ae a 0,[.sl m 6 n]]) (q V6))) [[vB false],[vB false],V4,V3,ae a 0,[.sl m 6 n]]))) [cell (el kidsD 1 (RF p)) 0]) (λh=>bK h 0 λQ=>bK h 1 λr=>iK h 2 λz=>sK 6 h 5 λs t=>jn (λu=>(λV7=>ax Q (u [[vB true],[vB r],V7,ae h 4,[.sl s 6 t]]) (ax (decide ((0:Int)<=z)) (aG 15 (cell (ae h 4) 13) λR _=>u [[vB (!(decide ((R:Int)=z)))],[vB r],V7,ae h 4,[.sl s 6 t]]) (u [[vB false],[vB r],V7,ae h 4,[.sl s 6 t]]))) [Cz h 3,cell (ae h 3) 1]) (λb=>bK b 0 λi=>bK b 1 λf=>sK 6 b 4 λc d=>ar (cell (ae b 3) 3) λS=>(λV2=>ax (decide (((yp S iM).getD 0)=(0:Int))) (K [[vB i],[vB f],V2,[.sl c 6 d]]) (aA Is Gt [V2,sub (ae b 3) 5 3] λo=>bK o 1 λT=>(λV5=>ax (!T) (K V5) (ar (cell (ae o 0) 3) λU=>ax (decide (U<(0:Int))) (K V5) (ar (cell (ae o 0) 3) λV=>ax (decide ((5:Int)<V)) (K V5) (ar (cell (ae b 3) 3) λW=>qv .i64 (vI ((yp W iM).getD 0)) λu47=>qv .i64 (cell (ae o 0) 3) λu48=>az (0<=u48) (ax (decide ((bits .and .i64 (u47 / 2 ^ min (RF u48) (Uo .i64)) 1)=(0:Int))) (K V5) (aG 11 (cell (ae o 0) 8) λj _=>jn (λg=>ar (cell (ae b 3) 3) λA=>(λV1=>ax (decide (A=(3:Int))) (ax (decide (A=(3:Int))) (ax i (g V1) (aG 15 (cell (ae b 3) 13) λX _=>g [[vB (!(decide ((X:Int)=(j:Int))))],[vB f],V2,[.sl c 6 d]])) (ar (cell (ae b 3) 3) λY=>ax (decide (Y=(10:Int))) (ax i (g V1) (aG 15 (cell (ae b 3) 13) λZ _=>az (aZ ((j:Int)+1)) (ax (!(decide ((Z:Int)=((j:Int)+1)))) (g V1) (g [[vB (decide ((j:Int)=(0:Int)))],[vB f],V2,[.sl c 6 d]])))) (ax i (g V1) (ar (cell (ae b 3) 4) λz59=>ax (decide (z59<(0:Int))) (g V1) (ar (cell (ae b 3) 4) λz60=>g [[vB (decide ((j:Int)<=z60))],[vB f],V2,[.sl c 6 d]]))))) (ar (cell (ae b 3) 3) λz61=>ax (decide (z61=(7:Int))) (ax i (g V1) (aG 15 (cell (ae b 3) 13) λn62 _=>g [[vB (!(decide ((n62:Int)=(j:Int))))],[vB f],V2,[.sl c 6 d]])) (ar (cell (ae b 3) 3) λz64=>ax (decide (z64=(10:Int))) (ax i (g V1) (aG 15 (cell (ae b 3) 13) λn65 _=>az (aZ ((j:Int)+1)) (ax (!(decide ((n65:Int)=((j:Int)+1)))) (g V1) (g [[vB (decide ((j:Int)=(0:Int)))],[vB f],V2,[.sl c 6 d]])))) (ax i (g V1) (ar (cell (ae b 3) 4) λz67=>ax (decide (z67<(0:Int))) (g V1) (ar (cell (ae b 3) 4) λz68=>g [[vB (decide ((j:Int)<=z68))],[vB f],V2,[.sl c 6 d]])))))) [[vB true],[vB f],V2,[.sl c 6 d]]) (λl=>bK l 0 λb69=>bK l 1 λb70=>sK 6 l 3 λn71 c72=>K [[vB b69],[vB b70],[Cz l 2,cell (ae l 2) 1],[.sl n71 6 c72]]))))))) [[vB i],[vB true],V2,[.sl c 6 d]])) [Cz b 2,cell (ae b 2) 1])))))) [[vB true],[vB false],V3,[.sl m 6 n]]) [Cz a 1,cell (ae a 1) 1]
theorem w149:Wd ⟨[Gt,s47],[42],[],[],lF,lE,true,gh,false,false,[]⟩ ⟨[],[(8,⟨[hP 0 0,hP 3 2,hB 5,hI 6],[(0,.b 107 [.d,.d,.w 1]),hA 2 50 15,hR 1 57 6]⟩),(15,⟨[hP 0 0,hP 3 2,hB 4,hB 5,hI 6],[(0,.b 107 [.d,.d,.w 1]),hA 2 50 15,hR 1 57 6]⟩),(16,⟨[hP 0 0,hP 3 2,hB 4,hB 5],[(0,.b 107 [.d,.d,.w 1]),hA 2 50 15,hR 1 57 6]⟩),(29,⟨[hP 0 0,hB 4,hB 5],[(0,.b 107 [.d,.d,.w 1]),hR 1 57 6]⟩)],[]⟩ s149 g149:=Wk
def g150:Tx:=λIs a K=>aA Is s198 [[Cz a 0],ae a 1] λb=>iK b 0 λc=>K [[vB (decide ((0:Int)<=c))]]
theorem w150:Wd (cF [s198]) hZ s150 g150:=Wk
def g198:Tx:=λ_ a K=>sK 4 a 0 λf _=>Lp (λc b=>iK b 1 λe=>iK b 2 λd=>ax (decide (d<e)) (sK 4 b 0 λg h=>kI d g (QY .i64 (ae b 3) λl9=>QY .i64 (eT h 4 d) λl10=>az (l9.length=4/\l10.length=4) (ax (decide (l9=l10)) (K [[vI d]]) (oK d (c [[Cz b 0],[vI e],[vI (d+1)],ae b 3]))))) (K [[vI (-1)]])) [[Cz a 0],[vI f],[vI 0],ae a 1]
theorem w198:Wd ⟨[],[42],[],[],lF,lE,true,gh,false,false,[]⟩ ⟨[(2,⟨[hD 0,hP 3 0,hI 7,hI 8],[hA 0 197 4]⟩)],[],[]⟩ s198 g198:=Wk
def g151:Tx:=λ_ a K=>ar (cell (ae a 0) 3) λc=>ax (decide (c=(6:Int))) (K [[vI 1]]) (ar (cell (ae a 0) 3) λd=>ax (decide (d=(12:Int))) (K [[vI 2]]) (ar (cell (ae a 0) 3) λe=>ax (decide (e=(10:Int))) (aG 15 (cell (ae a 0) 13) λb _=>az (aZ ((b:Int)-1)) (K [[vI (max 0 ((b:Int)-1))]])) (K [[vI 0]])))
theorem w151:Wd (cF []) hZ s151 g151:=Wk
def g152:Tx:=λIs a K=>aA Is s199 [[Cz a 0]] λb=>iK b 0 λc=>K [[vB (decide ((0:Int)<=c))]]
theorem w152:Wd (cF [s199]) hZ s152 g152:=Wk
def g199:Tx:=λIs a K=>sK 1 a 0 λg _=>Lp (λc b=>iK b 1 λf=>iK b 2 λd=>ax (decide (d<f)) (sK 1 b 0 λh i=>kI d h (aA Is s153 [[cell (eT i 1 d) 0]] λj=>bK j 0 λe=>ax e (K [[vI d]]) (oK d (c [[Cz b 0],[vI f],[vI (d+1)]])))) (K [[vI (-1)]])) [[Cz a 0],[vI g],[vI 0]]
theorem w199:Wd (cF [s153]) ⟨[(2,⟨[hD 0,(1,.c (.f 153 [])),hI 7,hI 8],[]⟩)],[],[]⟩ s199 g199:=Wk
def g153:Tx:=λIs a K=>aA Is qQ [[Cz a 0]] λb=>bK b 0 λc=>K [[vB (!c)]]
theorem w153:Wd (cF [qQ]) hZ s153 g153:=Wk
def g155:Tx:=λ_ a K=>iK a 1 λb=>ar (cell (ae a 0) 3) λc=>(λV4=>(λV1=>(λV2=>(λV3=>ax (decide (c=(6:Int))) (ax (decide (b=(1:Int))) (K [[.sl 1 4 (cls V4 0 3 [vI 0])]]) (ar (cell (ae a 0) 3) λd=>ax (decide (d=(12:Int))) (ax (decide (b=(2:Int))) (K V2) (ar (cell (ae a 0) 3) λe=>ax (decide (e=(10:Int))) (ax (decide ((0:Int)<b)) (az (aZ (b-1)) (K V1)) (K V3)) (K V3))) (ar (cell (ae a 0) 3) λf=>ax (decide (f=(10:Int))) (ax (decide ((0:Int)<b)) (az (aZ (b-1)) (K V1)) (K V3)) (K V3)))) (ar (cell (ae a 0) 3) λg=>ax (decide (g=(12:Int))) (ax (decide (b=(2:Int))) (K V2) (ar (cell (ae a 0) 3) λh=>ax (decide (h=(10:Int))) (ax (decide ((0:Int)<b)) (az (aZ (b-1)) (K V1)) (K V3)) (K V3))) (ar (cell (ae a 0) 3) λi=>ax (decide (i=(10:Int))) (ax (decide ((0:Int)<b)) (az (aZ (b-1)) (K V1)) (K V3)) (K V3)))) [[.sl 0 4 []]]) [[.sl 2 4 (cls V4 0 3 (vI 0::cls V4 0 3 [vI 1]))]]) [[.sl 1 4 (cls V4 0 3 [vI (b-1)])]]) (sub (ae a 0) 0 3)
theorem w155:Wd (cF []) hZ s155 g155:=Wk
def g51:Tx:=λIs a K=>sK 6 a 1 λn1 c2=>aG 31 (cell (ae a 0) 1) λn3 _=>Lp (λT i=>iK i 1 λz7=>iK i 2 λz8=>sK 4 i 4 λn9 U=>sK 6 i 5 λn11 c12=>(λV4=>ax (decide (z8<z7)) (sK 31 i 0 λn13 c14=>kI z8 n13 (aA Is s18 [V4,sub (eT c14 31 z8) 0 3] λr15=>sK 3 r15 0 λn16 c17=>tK (sub (eT c14 31 z8) 0 3) λz18 z19 z20=>oK z8 (T [[Cz i 0],[vI z7],[vI (z8+1)],V4,[.sl (fM 4 z18 z19 z20 n9 U) 4 (dc 4 z18 z19 z20 [.sl n16 3 c17] n9 U)],[.sl n11 6 c12]]))) (sK 6 i 3 λn21 _=>Lp (λC e=>iK e 1 λz25=>iK e 2 λn=>sK 4 e 4 λn27 c28=>sK 4 e 5 λV W=>sK 6 e 6 λn31 c32=>(λV7=>ax (decide (n<z25)) (sK 6 e 0 λn33 X=>kI n n33 (aA Is s85 [[cell (eT X 6 n) 4]] λr35=>sK 3 r35 0 λn36 c37=>az (aL (n36+1) 25) (tK (sub (eT X 6 n) 0 3) λz38 z39 z40=>oK n (C [[Cz e 0],[vI z25],[vI (n+1)],V7,[.sl n27 4 c28],[.sl (fM 4 z38 z39 z40 V W) 4 (dc 4 z38 z39 z40 ([.sl (n36+1) 3 (c37++((sub (eT X 6 n) 0 3)++[]))]) V W)],[.sl n31 6 c32]])))) (aG 31 (cell (ae e 3) 1) λn41 _=>Lp (λp h=>iK h 1 λz45=>iK h 2 λx=>sK 4 h 4 λY Z=>sK 4 h 5 λn49 c50=>sK 6 h 6 λn51 c52=>(λV6=>ax (decide (x<z45)) (sK 31 h 0 λn53 c54=>kI x n53 (tK (sub (eT c54 31 x) 0 3) λz55 z56 z57=>aG 3 (cell ((bA 4 z55 z56 z57 Y Z).getD [.sl 0 3 []]) 0) λn58 _=>Lp (λq b=>iK b 1 λz62=>iK b 2 λz63=>iK b 4 λz64=>iK b 5 λo=>sK 4 b 7 λD E=>sK 4 b 8 λF G=>sK 6 b 10 λn70 c71=>(λV2=>(λV5=>ax (decide (o<z64)) (sK 3 b 3 λn72 c73=>kI o n72 (aA Is Gt [V2,eT c73 3 o] λr74=>bK r74 1 λ_=>tK (sub (ae b 9) 4 3) λz76 z77 z78=>aA Is Je [[cell ((bA 4 z76 z77 z78 F G).getD [.sl 0 3 []]) 0],sub (ae r74 0) 4 3] λr79=>bK r79 0 λb80=>ax (!b80) (aA Is zH [[vI 11],sub (ae b 9) 0 3,[vI 1],V2,V5] λr81=>sK 6 r81 1 λn82 c83=>oK o (q [[Cz b 0],[vI z62],[vI z63],[Cz b 3],[vI z64],[vI (o+1)],[Cz r81 0,cell (ae r81 0) 1],[.sl D 4 E],[.sl F 4 G],ae b 9,[.sl n82 6 c83]])) (oK o (q [[Cz b 0],[vI z62],[vI z63],[Cz b 3],[vI z64],[vI (o+1)],V2,[.sl D 4 E],[.sl F 4 G],ae b 9,V5])))) (tK (sub (ae b 9) 0 3) λz84 z85 z86=>aA Is s85 [[cell ((bA 4 z84 z85 z86 D E).getD [.sl 0 3 []]) 0]] λr87=>sK 3 r87 0 λn88 c89=>jn (λk90=>Lp (λm c=>iK c 1 λH=>iK c 2 λI=>sK 4 c 4 λy z=>sK 4 c 5 λJ L=>sK 4 c 7 λj l=>sK 3 c 8 λf g=>sK 6 c 9 λr s=>(λV1=>ax (decide ((0:Int)<(f:Int))) (az (0<=(0:Int)/\(0:Int)<(f:Int)) (az (0<=(1:Int)/\(1:Int)<=(f:Int)/\(f:Int)<=((f:Nat):Int)/\0<f) (ar (cell (el g 3 0) 0) λz106=>ar (cell (el g 3 0) 1) λz107=>ar (cell (el g 3 0) 2) λz108=>pc (cell ((bA 4 z106 z107 z108 j l).getD [vB false]) 0) λb109=>ax (!b109) (ar (cell (el g 3 0) 0) λt=>ar (cell (el g 3 0) 1) λu=>ar (cell (el g 3 0) 2) λv=>ar (cell (el g 3 0) 0) λz113=>ar (cell (el g 3 0) 1) λz114=>ar (cell (el g 3 0) 2) λz115=>aG 3 (cell ((bA 4 z113 z114 z115 y z).getD [.sl 0 3 []]) 0) λA c117=>(λV3=>ax (decide (A=0)) (m [[Cz c 0],[vI H],[vI I],V1,[.sl y 4 z],[.sl J 4 L],ae c 6,V3,[.sl (RF (f:Int)-1) 3 (sub g (1*3) ((RF (f:Int)-1)*3))],[.sl r 6 s]]) (az (aL (((RF (f:Int)-1)+A)) 25) (m [[Cz c 0],[vI H],[vI I],V1,[.sl y 4 z],[.sl J 4 L],ae c 6,V3,[.sl ((RF (f:Int)-1)+A) 3 ((sub g (1*3) ((RF (f:Int)-1)*3))++c117)],[.sl r 6 s]]))) [.sl (fM 4 t u v j l) 4 (dc 4 t u v [vB true] j l)]) (m [[Cz c 0],[vI H],[vI I],V1,[.sl y 4 z],[.sl J 4 L],ae c 6,[.sl j 4 l],[.sl (RF (f:Int)-1) 3 (sub g (1*3) ((RF (f:Int)-1)*3))],[.sl r 6 s]])))) (k90 [[Cz c 0],[vI H],[vI I],V1,[.sl y 4 z],[.sl J 4 L],ae c 6,[.sl j 4 l],[.sl r 6 s]])) [Cz c 3,cell (ae c 3) 1]) [[Cz b 0],[vI z62],[vI z63],V2,[.sl D 4 E],[.sl F 4 G],ae b 9,[.sl 0 4 []],[.sl n88 3 c89],V5]) (λd=>iK d 1 λM=>iK d 2 λw=>sK 4 d 4 λN O=>sK 4 d 5 λP Q=>sK 4 d 7 λn124 c125=>sK 6 d 8 λR S=>tK (sub (ae d 6) 0 3) λz128 z129 z130=>pc (cell ((bA 4 z128 z129 z130 n124 c125).getD [vB false]) 0) λb131=>(λV8=>ax b131 (aA Is zH [[vI 13],sub (ae d 6) 0 3,[vI 14],V8,[.sl R 6 S]] λB=>sK 6 B 1 λn133 c134=>oK w (p [[Cz d 0],[vI M],[vI (w+1)],[Cz B 0,cell (ae B 0) 1],[.sl N 4 O],[.sl P 4 Q],[.sl n133 6 c134]])) (oK w (p [[Cz d 0],[vI M],[vI (w+1)],V8,[.sl N 4 O],[.sl P 4 Q],[.sl R 6 S]]))) [Cz d 3,cell (ae d 3) 1]))) [.sl n70 6 c71]) [Cz b 6,cell (ae b 6) 1]) [[Cz h 0],[vI z45],[vI x],[cell ((bA 4 z55 z56 z57 Y Z).getD [.sl 0 3 []]) 0],[vI n58],[vI 0],V6,[.sl Y 4 Z],[.sl n49 4 c50],eT c54 31 x,[.sl n51 6 c52]])) (K [V6,[.sl n51 6 c52]])) [Cz h 3,cell (ae h 3) 1]) [[cell (ae e 3) 1],[vI n41],[vI 0],V7,[.sl n27 4 c28],[.sl V 4 W],[.sl n31 6 c32]])) [Cz e 3,cell (ae e 3) 1]) [[Cz i 3],[vI n21],[vI 0],V4,[.sl n9 4 U],[.sl 0 4 []],[.sl n11 6 c12]])) [Cz i 3,cell (ae i 3) 1]) [[cell (ae a 0) 1],[vI n3],[vI 0],[Cz a 0,cell (ae a 0) 1],[.sl 0 4 []],[.sl n1 6 c2]]
theorem w51:Wd ⟨[s18,Gt,zH,Je,s85],[42],[],[],lF,lE,true,gh,false,false,[115]⟩ ⟨[(2,⟨[hP 0 0,(2,.c (.m 1)),hD 22,hI 23,hI 24],[(0,.b 107 [.d,.d,.w 2]),(1,.m 122 false 1),hR 2 57 6]⟩),(8,⟨[hP 0 0,(2,.c (.m 1)),(5,.c (.m 2)),hD 44,hI 45,hI 46],[(0,.b 107 [.d,.d,.w 3]),(1,.m 122 false 1),(2,.m 122 false 1),hR 3 57 6]⟩),(13,⟨[hP 0 0,(2,.c (.m 1)),(5,.c (.m 2)),hD 65,hI 66,hI 67],[(0,.b 107 [.d,.d,.w 3]),(1,.m 122 false 1),(2,.m 122 false 1),hR 3 57 6]⟩),(16,⟨[hP 0 0,(2,.c (.m 1)),(5,.c (.m 2)),hP 9 3,hD 65,hI 66,hI 67,hD 74,hI 75,hI 76],[(0,.b 107 [.d,.d,.w 4]),(1,.m 122 false 1),(2,.m 122 false 1),hA 3 52 31,hR 4 57 6]⟩),(24,⟨[hP 0 0,(2,.c (.m 1)),(5,.c (.m 2)),hP 9 3,(14,.c (.m 4)),hW 15 5,hD 65,hI 66,hI 67],[(0,.b 107 [.d,.d,.w 6]),(1,.m 122 false 1),(2,.m 122 false 1),hA 3 52 31,(4,.m 150 false 1),(5,.x 42 3),hR 6 57 6]⟩)],[(30,⟨[hP 0 0,(2,.c (.m 1)),(5,.c (.m 2)),hP 9 3,(14,.c (.m 4)),hD 65,hI 66,hI 67],[(0,.b 107 [.d,.d,.w 5]),(1,.m 122 false 1),(2,.m 122 false 1),hA 3 52 31,(4,.m 150 false 1),hR 5 57 6]⟩)],[]⟩ s51 g51:=Wk
def g59:Tx:=λ_ a K=>tK (sub (ae a 0) 1 3) λc d e=>tK (sub (ae a 1) 1 3) λf g h=>ax (decide (c=f/\d=g/\e=h)) (ar (cell (ae a 0) 4) λi=>ar (cell (ae a 1) 4) λj=>ax (decide (i=j)) (iK a 0 λl=>iK a 1 λb=>K [[vB (decide (l=b))]]) (K [[vB false]])) (K [[vB false]])
theorem w59:Wd (cF []) hZ s59 g59:=Wk
set_option maxRecDepth 100000
abbrev Lv:bC:=⟨13,⟨[(0,.a 2)],[]⟩,.c .bo,[],true⟩
abbrev s11:bC:=⟨11,⟨[hD 0,hD 1],[]⟩,.c .bo,[],true⟩
def g13:Tx:=λIs a K=>aA Is s12 [ae a 0] λb=>sK 6 b 0 λc _=>K [[vB (decide ((c:Int)=(0:Int)))]]
theorem w13:Wd (cF [s12]) hZ Lv g13:=Wk
def g11:Tx:=λIs a K=>sK 6 a 0 λH _=>sK 6 a 1 λI _=>ax (!(decide ((H:Int)=(I:Int)))) (K [[vB false]]) (Lp (λd b=>iK b 2 λc=>sK 6 b 0 λJ _=>lK c J (sK 6 b 0 λe f=>kI c e (sK 6 b 1 λg h=>kI c g (ar (cell (eT f 6 c) 0) λi=>ar (cell (eT h 6 c) 0) λj=>ax (!(decide (i=j))) (K [[vB false]]) (sK 6 b 0 λl m=>kI c l (sK 6 b 1 λn o=>kI c n (tK (sub (eT m 6 c) 1 3) λp q r=>tK (sub (eT o 6 c) 1 3) λs t u=>ax (!(decide (p=s/\q=t/\r=u))) (K [[vB false]]) (sK 6 b 0 λv w=>kI c v (sK 6 b 1 λx y=>kI c x (ar (cell (eT w 6 c) 4) λz=>ar (cell (eT y 6 c) 4) λA=>ax (!(decide (z=A))) (K [[vB false]]) (sK 6 b 0 λB C=>kI c B (sK 6 b 1 λD E=>kI c D (aA Is s17 [[cell (eT C 6 c) 5],[cell (eT E 6 c) 5]] λF=>bK F 0 λG=>ax (!G) (K [[vB false]]) (oK c (d [[Cz b 0],[Cz b 1],[vI (c+1)]])))))))))))))) (K [[vB true]])) [[Cz a 0],[Cz a 1],[vI 0]])
theorem w11:Wd (cF [s17]) ⟨[(4,⟨[hD 0,hD 1,hI 5],[]⟩)],[],[]⟩ s11 g11:=Wk
set_option maxRecDepth 100000
abbrev s28:bC:=⟨28,⟨[(0,.a 15)],[]⟩,.c (.w 0),[hR 0 79 9],false⟩
abbrev s108:bC:=⟨108,⟨[hW 0 0,(1,.c (.f 109 []))],[hR 0 79 9]⟩,.t [],[hR 0 79 9],false⟩
abbrev s110:bC:=⟨110,⟨[hW 0 0,(1,.c (.f 111 []))],[hR 0 79 9]⟩,.c (.w 1),[hR 1 79 9],false⟩
abbrev Og:bC:=⟨111,⟨[(0,.a 9),(1,.a 9)],[]⟩,.c .bo,[],true⟩
abbrev s109:bC:=⟨109,⟨[(0,.a 9),(1,.a 9)],[]⟩,.c .i,[],true⟩
abbrev s7:bC:=⟨7,⟨[hD 0,hI 1,hI 2],[]⟩,.c .bo,[],true⟩
def g28:Tx:=λIs a K=>ar (cell (ae a 0) 3) λz1=>ax (decide (z1=(2:Int))) (K [[.sl 1 9 (cls (sub (ae a 0) 5 3) 0 3 ([cell (ae a 0) 4,vI 0,vI 0,vI 0,vI 0,.sl 0 5 []]))]]) (jn (λk2=>aG 15 (cell (ae a 0) 13) λn4 _=>Lp (λs p=>iK p 1 λz8=>iK p 2 λA=>sK 9 p 4 λB C=>ax (decide (A<z8)) (sK 15 p 0 λE F=>kI A E (aA Is s28 [eT F 15 A] λG=>sK 9 G 0 λD H=>Lp (λo b=>iK b 0 λe=>iK b 2 λg=>iK b 3 λf=>iK b 4 λh=>iK b 5 λc=>sK 9 b 7 λi j=>sK 9 b 8 λl d=>ax (decide (c<h)) (kI c l (jn (λm=>ar (cell (ae b 6) 3) λI=>(λV1=>(λV2=>ax (decide (I=(6:Int))) (ax (decide (e=(1:Int))) (ar (cell (eT d 9 c) 3) λJ=>ax (decide (J=(0:Int))) (m V2) (ar (cell (ae b 6) 3) λL=>ax (decide (L=(12:Int))) (ax (decide (e=(2:Int))) (ar (cell (eT d 9 c) 3) λM=>ax (decide (M=(0:Int))) (m V2) (ar (cell (eT d 9 c) 3) λN=>ax (decide (N=(1:Int))) (m V2) (ar (cell (ae b 6) 3) λO=>ax (decide (O=(10:Int))) (ax (decide ((0:Int)<e)) (az (aZ (e-1)) (ar (cell (eT d 9 c) 3) λP=>m [[vI e],[vB (decide (P=(e-1)))],[Cz b 1],[vI g],[vI f],[vI h],[vI c],ae b 6,[.sl i 9 j],eT d 9 c,[.sl l 9 d]])) (m V1)) (m V1)))) (ar (cell (ae b 6) 3) λQ=>ax (decide (Q=(10:Int))) (ax (decide ((0:Int)<e)) (az (aZ (e-1)) (ar (cell (eT d 9 c) 3) λR=>m [[vI e],[vB (decide (R=(e-1)))],[Cz b 1],[vI g],[vI f],[vI h],[vI c],ae b 6,[.sl i 9 j],eT d 9 c,[.sl l 9 d]])) (m V1)) (m V1))) (ar (cell (ae b 6) 3) λS=>ax (decide (S=(10:Int))) (ax (decide ((0:Int)<e)) (az (aZ (e-1)) (ar (cell (eT d 9 c) 3) λT=>m [[vI e],[vB (decide (T=(e-1)))],[Cz b 1],[vI g],[vI f],[vI h],[vI c],ae b 6,[.sl i 9 j],eT d 9 c,[.sl l 9 d]])) (m V1)) (m V1)))) (ar (cell (ae b 6) 3) λU=>ax (decide (U=(12:Int))) (ax (decide (e=(2:Int))) (ar (cell (eT d 9 c) 3) λV=>ax (decide (V=(0:Int))) (m V2) (ar (cell (eT d 9 c) 3) λW=>ax (decide (W=(1:Int))) (m V2) (ar (cell (ae b 6) 3) λX=>ax (decide (X=(10:Int))) (ax (decide ((0:Int)<e)) (az (aZ (e-1)) (ar (cell (eT d 9 c) 3) λY=>m [[vI e],[vB (decide (Y=(e-1)))],[Cz b 1],[vI g],[vI f],[vI h],[vI c],ae b 6,[.sl i 9 j],eT d 9 c,[.sl l 9 d]])) (m V1)) (m V1)))) (ar (cell (ae b 6) 3) λZ=>ax (decide (Z=(10:Int))) (ax (decide ((0:Int)<e)) (az (aZ (e-1)) (ar (cell (eT d 9 c) 3) λz47=>m [[vI e],[vB (decide (z47=(e-1)))],[Cz b 1],[vI g],[vI f],[vI h],[vI c],ae b 6,[.sl i 9 j],eT d 9 c,[.sl l 9 d]])) (m V1)) (m V1))) (ar (cell (ae b 6) 3) λz48=>ax (decide (z48=(10:Int))) (ax (decide ((0:Int)<e)) (az (aZ (e-1)) (ar (cell (eT d 9 c) 3) λz49=>m [[vI e],[vB (decide (z49=(e-1)))],[Cz b 1],[vI g],[vI f],[vI h],[vI c],ae b 6,[.sl i 9 j],eT d 9 c,[.sl l 9 d]])) (m V1)) (m V1)))) (ar (cell (ae b 6) 3) λz50=>ax (decide (z50=(12:Int))) (ax (decide (e=(2:Int))) (ar (cell (eT d 9 c) 3) λz51=>ax (decide (z51=(0:Int))) (m V2) (ar (cell (eT d 9 c) 3) λz52=>ax (decide (z52=(1:Int))) (m V2) (ar (cell (ae b 6) 3) λz53=>ax (decide (z53=(10:Int))) (ax (decide ((0:Int)<e)) (az (aZ (e-1)) (ar (cell (eT d 9 c) 3) λz54=>m [[vI e],[vB (decide (z54=(e-1)))],[Cz b 1],[vI g],[vI f],[vI h],[vI c],ae b 6,[.sl i 9 j],eT d 9 c,[.sl l 9 d]])) (m V1)) (m V1)))) (ar (cell (ae b 6) 3) λz55=>ax (decide (z55=(10:Int))) (ax (decide ((0:Int)<e)) (az (aZ (e-1)) (ar (cell (eT d 9 c) 3) λz56=>m [[vI e],[vB (decide (z56=(e-1)))],[Cz b 1],[vI g],[vI f],[vI h],[vI c],ae b 6,[.sl i 9 j],eT d 9 c,[.sl l 9 d]])) (m V1)) (m V1))) (ar (cell (ae b 6) 3) λz57=>ax (decide (z57=(10:Int))) (ax (decide ((0:Int)<e)) (az (aZ (e-1)) (ar (cell (eT d 9 c) 3) λz58=>m [[vI e],[vB (decide (z58=(e-1)))],[Cz b 1],[vI g],[vI f],[vI h],[vI c],ae b 6,[.sl i 9 j],eT d 9 c,[.sl l 9 d]])) (m V1)) (m V1)))) [[vI e],[vB true],[Cz b 1],[vI g],[vI f],[vI h],[vI c],ae b 6,[.sl i 9 j],eT d 9 c,[.sl l 9 d]]) [[vI e],[vB false],[Cz b 1],[vI g],[vI f],[vI h],[vI c],ae b 6,[.sl i 9 j],eT d 9 c,[.sl l 9 d]]) (λn=>iK n 0 λt=>bK n 1 λb60=>iK n 3 λu=>iK n 4 λv=>iK n 5 λw=>iK n 6 λq=>sK 9 n 8 λr x=>sK 9 n 10 λy z=>tK (sub (ae n 9) 0 3) λz69 z70 z71=>tK (sub (ae n 7) 0 3) λz72 z73 z74=>(λV3=>ax (!(decide (z69=z72/\z70=z73/\z71=z74))) (az (aL (r+1) 89) (oK q (o V3))) (ax (!b60) (az (aL (r+1) 89) (oK q (o V3))) (oK q (o [[vI t],[Cz n 2],[vI u],[vI v],[vI w],[vI (q+1)],ae n 7,[.sl r 9 x],[.sl y 9 z]])))) [[vI t],[Cz n 2],[vI u],[vI v],[vI w],[vI (q+1)],ae n 7,[.sl (r+1) 9 (x++((ae n 9)++[]))],[.sl y 9 z]]))) (oK f (s [[Cz b 1],[vI g],[vI (f+1)],ae b 6,[.sl i 9 j]]))) [[vI A],[Cz p 0],[vI z8],[vI A],[vI D],[vI 0],ae p 3,[.sl B 9 C],[.sl D 9 H]])) (k2 [[.sl B 9 C]])) [[cell (ae a 0) 13],[vI n4],[vI 0],ae a 0,[.sl 0 9 []]]) (λst3=>sK 9 st3 0 λn75 c76=>aA Is s108 [[.sl n75 9 c76]] λr77=>sK 9 r77 0 λn78 c79=>aA Is s110 [[.sl n78 9 c79]] λr80=>sK 9 r80 0 λn81 c82=>K [[.sl n81 9 c82]]))
theorem w28:Wd (cF [s28,s108,s110]) ⟨[(5,⟨[hP 1 0,hW 3 1,hD 19,hI 20,hI 21],[hA 0 50 15,hR 1 79 9]⟩),(8,⟨[hP 1 0,hW 3 1,hI 4,hD 19,hI 20,hI 21,hW 27 2,hI 28,hI 29],[hA 0 50 15,hR 1 79 9,hR 2 79 9]⟩)],[(11,⟨[hP 1 0,hW 3 1,hI 4,hP 7 2,hB 8,hD 19,hI 20,hI 21,hW 27 3,hI 28,hI 29],[hA 0 50 15,hR 1 79 9,hA 2 79 9,hR 3 79 9]⟩),(15,⟨[hW 3 0],[hR 0 79 9]⟩)],[]⟩ s28 g28:=Wk
def g110:Tx:=λIs a K=>sK 9 a 0 λs A=>ax (decide ((s:Int)<(2:Int))) (K [[.sl s 9 A]]) (Lp (λn o=>iK o 0 λg=>sK 9 o 1 λl p=>lK g l (kI g l (az (aZ (g-1)) (az (0<=(g-1)/\(g-1)<(l:Int)) (aA Is Og [eT p 9 g,el p 9 (RF (g-1))] λB=>bK B 0 λC=>ax C (az (0<=g/\g<=(l:Int)/\((0:Nat):Int)+l<=((l:Nat):Int)) (Lp (λm e=>iK e 0 λb=>iK e 1 λj=>ar (cell (ae e 1) 1) λh=>iK e 2 λc=>sK 9 e 3 λd i=>ax (decide (c<(((RF h):Nat):Int))) (jn (λq=>az (0<=c/\c<(((RF h):Nat):Int)) (az (aZ (c-1)) (az (0<=(c-1)/\(c-1)<(((RF h):Nat):Int)) (aA Is Og [el i 9 ((RF j)+(RF c)),el i 9 ((RF j)+(RF (c-1)))] λt=>bK t 0 λu=>ax (!u) (az (0<=c/\c<(((RF h):Nat):Int)) (kI b d (oK b (q [[vI (b+1)],[vI (((RF j):Nat):Int),vI (((RF h):Nat):Int)],[vI c],[.sl d 9 (cB i ((RF b)*9+0) (el i 9 ((RF j)+(RF c))))]])))) (q [[vI b],[vI (((RF j):Nat):Int),vI (((RF h):Nat):Int)],[vI c],[.sl d 9 i]]))))) (λf=>iK f 0 λv=>iK f 1 λw=>ar (cell (ae f 1) 1) λx=>iK f 2 λr=>sK 9 f 3 λy z=>oK r (m [[vI v],[vI (((RF w):Nat):Int),vI (((RF x):Nat):Int)],[vI (r+1)],[.sl y 9 z]]))) (az (0<=b/\b<=(d:Int)/\((0:Nat):Int)+d<=((d:Nat):Int)) (az (9=9/\((0+(RF b))+((RF (d:Int))-(RF b)))<=d/\((RF (d:Int))-(RF b))<=1000000000000000) (az (0<=b/\b<=((d:Nat):Int)) (K [[.sl (RF b) 9 (sub (cB i ((0+(RF b))*9) (T6 (Sj ((RF (d:Int))-(RF b)) [vI 0,vI 0,vI 0,vI 0,vI 0,vI 0,vI 0,vI 0,.sl 0 5 []]))) (0*9) ((RF b)*9))]]))))) [[vI g],[vI (((0+(RF g)):Nat):Int),vI ((((RF (l:Int))-(RF g)):Nat):Int)],[vI 1],[.sl l 9 p]])) (oK g (n [[vI (g+1)],[.sl l 9 p]])))))) (K [[.sl l 9 p]])) [[vI 1],[.sl s 9 A]])
theorem w110:Wd ⟨[Og],[42],[],[],lF,lE,true,gh,false,false,[64]⟩ ⟨[(4,⟨[hW 0 0,(1,.c (.f 111 [])),hI 5],[hR 0 79 9]⟩),(9,⟨[hW 0 0,(1,.c (.f 111 [])),hI 5,(6,.c (.y 0 9)),hI 7],[hR 0 79 9]⟩)],[(10,⟨[hW 0 0,(1,.c (.f 111 [])),hI 5,(6,.c (.y 0 9)),hI 7],[hR 0 79 9]⟩)],[]⟩ s110 g110:=Wk
def g111:Tx:=λIs a K=>aA Is s109 [ae a 0,ae a 1] λb=>iK b 0 λc=>K [[vB (decide (c=(0:Int)))]]
theorem w111:Wd (cF [s109]) hZ Og g111:=Wk
def g109:Tx:=λIs a K=>aA Is N4 [[Cz a 0],[Cz a 1]] λc=>iK c 0 λd=>aA Is N4 [[cell (ae a 0) 1],[cell (ae a 1) 1]] λe=>iK e 0 λf=>aA Is N4 [[cell (ae a 0) 2],[cell (ae a 1) 2]] λg=>iK g 0 λh=>aA Is N4 [[cell (ae a 0) 3],[cell (ae a 1) 3]] λi=>iK i 0 λj=>aA Is s54 [[.sl 4 1 [vI d,vI f,vI h,vI j]]] λl=>iK l 0 λb=>K [[vI b]]
theorem w109:Wd (cF [s54,N4]) hZ s109 g109:=Wk
def g7:Tx:=λIs a K=>iK a 1 λz1=>iK a 2 λz2=>aA Is s8 [[Cz a 0]] λr3=>aG 31 (cell (ae r3 0) 1) λn4 _=>aA Is s22 [[vI z1],[vI n4]] λr6=>iK r6 0 λz7=>aG 31 (cell (ae r3 0) 1) λn8 c9=>kI z7 n8 (Lp (λJ d=>iK d 0 λY=>iK d 1 λZ=>bK d 2 λb14=>iK d 3 λz=>aG 31 (cell (ae d 4) 1) λn16 _=>lK z n16 (jn (λk18=>ax b14 (k18 [[vI Y],[vI Z],[vB true],[vI z],ae d 4,ae d 5]) (aG 31 (cell (ae d 4) 1) λn20 c21=>kI z n20 (aA Is s18 [ae d 4,sub (eT c21 31 z) 0 3] λr22=>sK 3 r22 0 λn23 c24=>aA Is s20 [[.sl n23 3 c24],sub (ae d 5) 0 3] λr25=>bK r25 0 λb26=>k18 [[vI Y],[vI Z],[vB b26],[vI z],ae d 4,ae d 5]))) (λp=>iK p 0 λz27=>iK p 1 λz28=>bK p 2 λb29=>iK p 3 λz30=>oK z30 (J [[vI z27],[vI z28],[vB b29],[vI (z30+1)],ae p 4,ae p 5]))) (aA Is s25 [ae d 4] λr31=>sK 38 r31 0 λn32 c33=>jn (λk34=>Lp (λL f=>iK f 0 λz38=>iK f 1 λz39=>bK f 2 λb40=>iK f 3 λu=>sK 38 f 6 λA M=>sK 38 f 7 λN c45=>lK u A (jn (λk46=>kI u A (tK (sub (eT M 38 u) 0 3) λz48 z49 z50=>tK (sub (ae f 5) 0 3) λz51 z52 z53=>ax (!(decide (z48=z51/\z49=z52/\z50=z53))) (kI u A (az (aL (N+1) 425) (k46 [[vI z38],[vI z39],[vB b40],[vI u],ae f 4,ae f 5,[.sl A 38 M],[.sl (N+1) 38 (c45++((eT M 38 u)++[]))]]))) (k46 [[vI z38],[vI z39],[vB b40],[vI u],ae f 4,ae f 5,[.sl A 38 M],[.sl N 38 c45]]))) (λj=>iK j 0 λz54=>iK j 1 λz55=>bK j 2 λb56=>iK j 3 λz57=>sK 38 j 6 λn58 c59=>sK 38 j 7 λn60 c61=>oK z57 (L [[vI z54],[vI z55],[vB b56],[vI (z57+1)],ae j 4,ae j 5,[.sl n58 38 c59],[.sl n60 38 c61]]))) (k34 [[vI z38],[vI z39],[vB b40],ae f 4,ae f 5,[.sl N 38 c45]])) [[vI Y],[vI Z],[vB b14],[vI 0],ae d 4,ae d 5,[.sl n32 38 c33],[.sl 0 38 []]]) (λl=>iK l 0 λz62=>iK l 1 λz63=>bK l 2 λb64=>sK 38 l 5 λn65 c66=>aA Is s26 [[.sl n65 38 c66]] λr67=>sK 6 r67 0 λn68 c69=>sK 31 r67 1 λn70 c71=>sK 6 r67 2 λn72 _=>jn (λk74=>(λV1=>ax (decide ((0:Int)<(n72:Int))) (K [[vB false]]) (ax b64 (aA Is Lv [[.sl n68 6 c69,.sl n70 31 c71]] λr76=>bK r76 0 λb77=>ax b77 (K [[vB false]]) (k74 V1)) (k74 V1))) [[vI z62],[vI z63],ae l 3,ae l 4]) (λg=>iK g 0 λO=>iK g 1 λz79=>jn (λP=>aG 11 (cell (ae g 3) 8) λn82 _=>(λV2=>ax (decide ((0:Int)<(n82:Int))) (aA Is s27 [[cell (ae g 3) 3]] λr84=>bK r84 0 λb85=>ax b85 (aG 11 (cell (ae g 3) 8) λn86 _=>aA Is s22 [[vI O],[vI n86]] λr88=>iK r88 0 λz89=>aG 11 (cell (ae g 3) 8) λn90 c91=>kI z89 n90 (aA Is s28 [sub (ae g 3) 14 15] λr92=>sK 9 r92 0 λn93 c94=>Lp (λQ c=>iK c 0 λz97=>iK c 1 λy=>bK c 2 λb99=>iK c 3 λq=>sK 9 c 7 λv B=>lK q v (jn (λR=>ax b99 (R [[vI z97],[vI y],[vB true],[vI q],ae c 4,ae c 5,ae c 6,[.sl v 9 B]]) (kI q v (tK (sub (eT B 9 q) 0 3) λz105 z106 z107=>iK c 6 λz108=>ar (cell (ae c 6) 1) λz109=>ar (cell (ae c 6) 2) λz110=>R [[vI z97],[vI y],[vB (decide (z105=z108/\z106=z109/\z107=z110))],[vI q],ae c 4,ae c 5,ae c 6,[.sl v 9 B]]))) (λh=>iK h 0 λz111=>iK h 1 λz112=>bK h 2 λb113=>iK h 3 λS=>sK 9 h 7 λn115 c116=>oK S (Q [[vI z111],[vI z112],[vB b113],[vI (S+1)],ae h 4,ae h 5,ae h 6,[.sl n115 9 c116]]))) (aG 31 (cell (ae c 4) 1) λC c118=>az (aL (0+C) 353) (az (0<=y/\y<((0+C:Nat):Int)) (jn (λk119=>Lp (λD b=>iK b 0 λE=>iK b 1 λn=>bK b 2 λF=>iK b 3 λo=>sK 31 b 8 λr G=>ar (cell (ae b 8) 1) λs=>sK 11 b 9 λw H=>aG 11 (cell (ae b 5) 8) λn132 _=>lK o n132 (jn (λT=>aG 11 (cell (ae b 5) 8) λn136 c137=>kI o n136 (tK (sub (eT c137 11 o) 0 3) λz138 z139 z140=>iK b 6 λz141=>ar (cell (ae b 6) 1) λz142=>ar (cell (ae b 6) 2) λz143=>ax (!(decide (z138=z141/\z139=z142/\z140=z143))) (kI n r (az ((RF n)*31+8=RF s) (aG 11 (cell (ae b 5) 8) λn144 c145=>kI o n144 (az (aL (w+1) 113) (kI n r (az ((RF n)*31+8=RF s) (T [[vI E],[vI n],[vB F],[vI o],ae b 4,ae b 5,ae b 6,[Cz b 7],[.sl r 31 G,vI ((RF s:Nat):Int)],[.sl (w+1) 11 (H++((eT c145 11 o)++[]))]]))))))) (T [[vI E],[vI n],[vB F],[vI o],ae b 4,ae b 5,ae b 6,[Cz b 7],[.sl r 31 G,vI ((RF s:Nat):Int)],[.sl w 11 H]]))) (λe=>iK e 0 λz146=>iK e 1 λz147=>bK e 2 λb148=>iK e 3 λU=>sK 31 e 8 λn150 c151=>ar (cell (ae e 8) 1) λz152=>sK 11 e 9 λn153 c154=>oK U (D [[vI z146],[vI z147],[vB b148],[vI (U+1)],ae e 4,ae e 5,ae e 6,[Cz e 7],[.sl n150 31 c151,vI ((RF z152:Nat):Int)],[.sl n153 11 c154]]))) (k119 [[vI E],[vI n],[vB F],ae b 4,ae b 5,[Cz b 7,.sl r 31 (cB G (RF s) [.sl w 11 H])]])) [[vI z97],[vI y],[vB b99],[vI 0],ae c 4,ae c 5,ae c 6,[Cz c 4],[.sl (0+C) 31 c118,vI (((RF y)*31+8:Nat):Int)],[.sl 0 11 []]]) (λi=>iK i 0 λV=>iK i 1 λW=>bK i 2 λb157=>(λV3=>ax b157 (aA Is Lv [ae i 5] λr158=>bK r158 0 λb159=>ax b159 (K [[vB false]]) (P V3)) (P V3)) [[vI V],[vI W],ae i 3,ae i 4]))))) [[vI O],[vI z79],[vB false],[vI 0],ae g 2,ae g 3,sub (eT c91 11 z89) 0 3,[.sl n93 9 c94]])) (P V2)) (P V2)) [[vI O],[vI z79],ae g 2,ae g 3]) (λm=>iK m 0 λz160=>iK m 1 λx=>aG 31 (cell (ae m 2) 1) λn162 _=>aA Is s22 [[vI z160],[vI n162]] λr164=>iK r164 0 λt=>aG 31 (cell (ae m 2) 1) λI c167=>az (aL (0+I) 353) (aG 31 (cell (ae m 2) 1) λn168 c169=>kI t n168 (az (0<=x/\x<((0+I:Nat):Int)) (aA Is Lv [[Cz m 2,.sl (0+I) 31 (cB c167 ((RF x)*31+7) [cell (eT c169 31 t) 7])]] λr170=>bK r170 0 λX=>ax (decide (t=x)) (ax (X == true) (aA Is s14 [] λr172=>bK r172 0 λb173=>K [[vB b173]]) (K [[vB false]])) (aG 31 (cell (ae m 2) 1) λn174 c175=>kI t n174 (tK (sub (eT c175 31 t) 4 3) λz176 z177 z178=>tK (sub (ae m 3) 4 3) λz179 z180 z181=>ax (X == !(decide (z176=z179/\z177=z180/\z178=z181))) (aA Is s14 [] λr182=>bK r182 0 λb183=>K [[vB b183]]) (K [[vB false]]))))))))))) [[vI z2],[vI z7],[vB false],[vI 0],ae r3 0,eT c9 31 z7])
theorem w7:Wd ⟨[s8,Lv,s14,s18,s20,s22,s25,s26,s27,s28],[42],[],[],lF,lE,false,gh,false,false,[2000000]⟩ ⟨[(6,⟨[hI 2,hP 7 0,hI 8,hP 9 1,hB 10,hI 11],[hA 0 26 2,hA 1 52 31]⟩),(12,⟨[hI 2,hP 7 0,hI 8,hP 9 1,hB 10,hW 12 2,hW 13 3,hI 14],[hA 0 26 2,hA 1 52 31,hR 2 70 38,hR 3 70 38]⟩),(24,⟨[hI 2,hP 7 0,hI 8,hP 9 1,hP 17 2,hW 18 3,hB 19,hI 20],[hA 0 26 2,hA 1 52 31,hA 2 42 3,hR 3 79 9]⟩),(31,⟨[hI 2,hP 7 0,hI 8,hP 9 1,hP 17 2,hB 19,hP 21 3,hI 22],[hA 0 26 2,hA 1 52 31,hA 2 42 3,(3,.b 26 [.d,.w 4]),(4,.h 52 31 5),hR 5 75 11]⟩)],[(7,⟨[hI 2,hP 7 0,hI 8,hP 9 1,hB 10,hI 11],[hA 0 26 2,hA 1 52 31]⟩),(13,⟨[hI 2,hP 7 0,hI 8,hP 9 1,hB 10,hW 12 2,hW 13 3,hI 14],[hA 0 26 2,hA 1 52 31,hR 2 70 38,hR 3 70 38]⟩),(16,⟨[hI 2,hP 7 0,hI 8,hP 9 1,hB 10,hW 13 2],[hA 0 26 2,hA 1 52 31,hR 2 70 38]⟩),(19,⟨[hI 2,hP 7 0,hI 8,hP 9 1],[hA 0 26 2,hA 1 52 31]⟩),(25,⟨[hI 2,hP 7 0,hI 8,hP 9 1,hP 17 2,hW 18 3,hB 19,hI 20],[hA 0 26 2,hA 1 52 31,hA 2 42 3,hR 3 79 9]⟩),(32,⟨[hI 2,hP 7 0,hI 8,hP 9 1,hP 17 2,hB 19,hP 21 3,hI 22],[hA 0 26 2,hA 1 52 31,hA 2 42 3,(3,.b 26 [.d,.w 4]),(4,.h 52 31 5),hR 5 75 11]⟩),(35,⟨[hI 2,hP 7 0,hI 8,hP 9 1,hB 19,hP 21 2],[hA 0 26 2,hA 1 52 31,hA 2 26 2]⟩),(37,⟨[hI 2,hP 7 0,hI 8,hP 9 1],[hA 0 26 2,hA 1 52 31]⟩)],[]⟩ s7 g7:=Wk
set_option maxRecDepth 100000
abbrev s177:bC:=⟨177,⟨[hW 0 0,hI 1,(2,.c (.f 94 []))],[hR 0 70 38]⟩,.t [],[hR 0 70 38],false⟩
abbrev N5:bC:=⟨223,⟨[hW 0 0,hI 1,hI 2,(3,.c (.f 94 []))],[hR 0 70 38]⟩,.t [],[hR 0 70 38],false⟩
abbrev s94:bC:=⟨94,⟨[(0,.a 38),(1,.a 38)],[]⟩,.c .i,[],true⟩
abbrev D8:bC:=⟨224,⟨[hW 0 0,hI 1,hI 2,hI 3,(4,.c (.f 94 []))],[hR 0 70 38]⟩,.t [],[hR 0 70 38],false⟩
abbrev s249:bC:=⟨249,⟨[hW 0 0,hI 1,hI 2,hI 3,(4,.c (.f 94 []))],[hR 0 70 38]⟩,.t [],[hR 0 70 38],false⟩
abbrev Lr:bC:=⟨263,⟨[hW 0 0,hI 1,hI 2,hI 3,(4,.c (.f 94 []))],[hR 0 70 38]⟩,.t [],[hR 0 70 38],false⟩
def g93:Tx:=λIs a K=>sK 38 a 0 λb c=>aA Is s177 [[vI b],[.sl b 38 c]] λd=>sK 38 d 0 λe f=>K [[.sl e 38 f]]
theorem w93:Wd (cF [s177]) hZ s93 g93:=Wk
def g177:Tx:=λIs a K=>iK a 0 λR=>sK 38 a 1 λS T=>Lp (λn f=>iK f 0 λy=>iK f 1 λz=>iK f 2 λQ=>iK f 3 λq=>sK 38 f 4 λr s=>ax (decide (q<=y)) (aA Is N5 [[vI Q],[vI q],[.sl r 38 s]] λA=>sK 38 A 0 λB C=>az (aZ (q+z)) (n [[vI y],[vI z],[vI q],[vI (q+z)],[.sl B 38 C]])) (aA Is N5 [[vI Q],[vI y],[.sl r 38 s]] λD=>sK 38 D 0 λE F=>Lp (λj g=>iK g 0 λt=>iK g 1 λl=>sK 38 g 2 λu v=>ax (decide (l<t)) (az (aZ (2*l)) (Lp (λm c=>iK c 0 λe=>iK c 1 λb=>iK c 2 λd=>iK c 3 λh=>sK 38 c 4 λo p=>ax (decide (h<=e)) (az (aZ (d+b)) (aA Is D8 [[vI d],[vI (d+b)],[vI h],[.sl o 38 p]] λG=>sK 38 G 0 λH I=>az (aZ (2*b)) (az (aZ (h+(2*b))) (m [[vI e],[vI b],[vI h],[vI (h+(2*b))],[.sl H 38 I]])))) (jn (λw=>az (aZ (d+b)) (ax (decide ((d+b)<e)) (aA Is D8 [[vI d],[vI (d+b)],[vI e],[.sl o 38 p]] λJ=>sK 38 J 0 λL M=>w [[vI e],[vI b],[.sl L 38 M]]) (w [[vI e],[vI b],[.sl o 38 p]]))) (λi=>iK i 0 λN=>iK i 1 λx=>sK 38 i 2 λO P=>az (aZ (x*2)) (j [[vI N],[vI (x*2)],[.sl O 38 P]])))) [[vI t],[vI l],[vI 0],[vI (2*l)],[.sl u 38 v]])) (K [[.sl u 38 v]])) [[vI y],[vI z],[.sl E 38 F]])) [[vI R],[vI 20],[vI 0],[vI 20],[.sl S 38 T]]
theorem w177:Wd (cF [N5,D8]) ⟨[(2,⟨[hW 0 0,hI 1,(2,.c (.f 94 [])),hI 6,hI 7,hI 8],[hR 0 70 38]⟩),(7,⟨[hW 0 0,hI 1,(2,.c (.f 94 [])),hI 6],[hR 0 70 38]⟩),(9,⟨[hW 0 0,hI 1,(2,.c (.f 94 [])),hI 6,hI 7,hI 8],[hR 0 70 38]⟩)],[(16,⟨[hW 0 0,hI 1,(2,.c (.f 94 [])),hI 6],[hR 0 70 38]⟩)],[]⟩ s177 g177:=Wk
def g223:Tx:=λIs a K=>iK a 0 λr=>iK a 1 λA=>sK 38 a 2 λB C=>oK r (Lp (λj g=>iK g 0 λD=>iK g 1 λz=>iK g 2 λs=>sK 38 g 3 λn o=>ax (decide (s<z)) (jn (λp=>Lp (λh d=>iK d 0 λi=>iK d 1 λl=>iK d 2 λm=>iK d 3 λb=>sK 38 d 4 λc e=>(λV1=>ax (decide (i<b)) (kI b c (az (aZ (b-1)) (az (0<=(b-1)/\(b-1)<(c:Int)) (aA Is s94 [eT e 38 b,el e 38 (RF (b-1))] λt=>iK t 0 λu=>ax (decide (u<(0:Int))) (az (aZ (b-1)) (az (aZ (b-1)) (az (0<=(b-1)/\(b-1)<(c:Int)) (kI b c (kI b c (az (0<=(b-1)/\(b-1)<(c:Int)) (az (aZ (b-1)) (h [[vI i],[vI l],[vI m],[vI (b-1)],[.sl c 38 (cB (cB e ((RF b)*38+0) (el e 38 (RF (b-1)))) ((RF (b-1))*38+0) (eT e 38 b))]])))))))) (p V1))))) (p V1)) [[vI i],[vI l],[vI m],[.sl c 38 e]]) [[vI D],[vI z],[vI s],[vI s],[.sl n 38 o]]) (λf=>iK f 0 λv=>iK f 1 λw=>iK f 2 λq=>sK 38 f 3 λx y=>oK q (j [[vI v],[vI w],[vI (q+1)],[.sl x 38 y]]))) (K [[.sl n 38 o]])) [[vI r],[vI A],[vI (r+1)],[.sl B 38 C]])
theorem w223:Wd (cF [s94]) ⟨[(1,⟨[hW 0 0,hI 1,hI 2,(3,.c (.f 94 [])),hI 8],[hR 0 70 38]⟩),(4,⟨[hW 0 0,hI 1,hI 2,(3,.c (.f 94 [])),hI 8,hI 9],[hR 0 70 38]⟩)],[(2,⟨[hW 0 0,hI 1,hI 2,(3,.c (.f 94 [])),hI 8],[hR 0 70 38]⟩)],[]⟩ N5 g223:=Wk
def g94:Tx:=λIs a K=>aA Is s95 [sub (ae a 0) 0 3,sub (ae a 1) 0 3] λb=>iK b 0 λc=>K [[vI c]]
theorem w94:Wd (cF [s95]) hZ s94 g94:=Wk
def g224:Tx:=λIs a K=>iK a 0 λH=>iK a 1 λi=>iK a 2 λI=>sK 38 a 3 λn4 c5=>(λV4=>az (aZ (i-H)) (ax (decide ((i-H)=(1:Int))) (Lp (λt J=>iK J 0 λz8=>iK J 1 λz9=>iK J 2 λL=>sK 38 J 3 λu v=>ax (decide (z9<L)) (az (aZ (z9+L)) (qv .i64 (vI (z9+L)) λu13=>qv .u64 (vK .u64 (SD .u64 u13)) λu14=>qv .u64 (vK .u64 1) λu15=>az (0<=u15) (qv .u64 (vK .u64 (u14 / 2 ^ min (RF u15) (Uo .u64))) λu16=>az (0<=(SD .i64 u16)/\(SD .i64 u16)<(u:Int)) (kI z8 u (aA Is s94 [el v 38 (RF (SD .i64 u16)),eT v 38 z8] λr17=>iK r17 0 λz18=>ax (decide (z18<(0:Int))) (az (aZ ((SD .i64 u16)+1)) (t [[vI z8],[vI ((SD .i64 u16)+1)],[vI L],[.sl u 38 v]])) (t [[vI z8],[vI z9],[vI (SD .i64 u16)],[.sl u 38 v]])))))) (Lp (λM w=>iK w 0 λS=>iK w 1 λb=>sK 38 w 2 λq N=>az (aZ (S-1)) (ax (decide (b<(S-1))) (oK b (oK b (az (0<=(b+1)/\(b+1)<(q:Int)) (kI b q (kI b q (az (0<=(b+1)/\(b+1)<(q:Int)) (oK b (M [[vI S],[vI (b+1)],[.sl q 38 (cB (cB N ((RF b)*38+0) (el N 38 (RF (b+1)))) ((RF (b+1))*38+0) (eT N 38 b))]])))))))) (K [[.sl q 38 N]]))) [[vI z9],[vI z8],[.sl u 38 v]])) [[vI H],[vI i],[vI I],V4]) (az (aZ (I-i)) (ax (decide ((I-i)=(1:Int))) (Lp (λm n=>iK n 0 λx=>iK n 1 λy=>iK n 2 λO=>sK 38 n 3 λz A=>ax (decide (y<O)) (az (aZ (y+O)) (qv .i64 (vI (y+O)) λu32=>qv .u64 (vK .u64 (SD .u64 u32)) λu33=>qv .u64 (vK .u64 1) λu34=>az (0<=u34) (qv .u64 (vK .u64 (u33 / 2 ^ min (RF u34) (Uo .u64))) λu35=>kI x z (az (0<=(SD .i64 u35)/\(SD .i64 u35)<(z:Int)) (aA Is s94 [eT A 38 x,el A 38 (RF (SD .i64 u35))] λr36=>iK r36 0 λz37=>ax (!(decide (z37<(0:Int)))) (az (aZ ((SD .i64 u35)+1)) (m [[vI x],[vI ((SD .i64 u35)+1)],[vI O],[.sl z 38 A]])) (m [[vI x],[vI y],[vI (SD .i64 u35)],[.sl z 38 A]])))))) (Lp (λP B=>iK B 0 λz40=>iK B 1 λc=>sK 38 B 2 λr Q=>ax (decide (z40<c)) (az (aZ (c-1)) (az (aZ (c-1)) (az (0<=(c-1)/\(c-1)<(r:Int)) (kI c r (kI c r (az (0<=(c-1)/\(c-1)<(r:Int)) (az (aZ (c-1)) (P [[vI z40],[vI (c-1)],[.sl r 38 (cB (cB Q ((RF c)*38+0) (el Q 38 (RF (c-1)))) ((RF (c-1))*38+0) (eT Q 38 c))]])))))))) (K [[.sl r 38 Q]])) [[vI y],[vI x],[.sl z 38 A]])) [[vI i],[vI H],[vI i],V4]) (az (aZ (H+I)) (qv .i64 (vI (H+I)) λu44=>qv .u64 (vK .u64 (SD .u64 u44)) λu45=>qv .u64 (vK .u64 1) λu46=>az (0<=u46) (qv .u64 (vK .u64 (u45 / 2 ^ min (RF u46) (Uo .u64))) λu47=>az (aZ ((SD .i64 u47)+i)) (jn (λk48=>(λV2=>(λV5=>ax (decide ((SD .i64 u47)<i)) (az (aZ (((SD .i64 u47)+i)-I)) (k48 [[vI H],[vI i],[vI I],V2,V5,[vI (((SD .i64 u47)+i)-I)],V2,V4])) (k48 [[vI H],[vI i],[vI I],V2,V5,[vI H],[vI i],V4])) [vI ((SD .i64 u47)+i)]) [vI (SD .i64 u47)]) (λf=>iK f 0 λz50=>iK f 1 λz51=>iK f 2 λz52=>iK f 3 λz53=>iK f 4 λT=>iK f 5 λz55=>iK f 6 λz56=>sK 38 f 7 λn57 c58=>az (aZ (T-1)) (Lp (λo e=>iK e 0 λC=>iK e 1 λD=>iK e 2 λE=>iK e 3 λF=>iK e 4 λh=>iK e 5 λd=>iK e 6 λR=>iK e 7 λs=>sK 38 e 8 λj l=>ax (decide (d<R)) (az (aZ (d+R)) (qv .i64 (vI (d+R)) λu71=>qv .u64 (vK .u64 (SD .u64 u71)) λu72=>qv .u64 (vK .u64 1) λu73=>az (0<=u73) (qv .u64 (vK .u64 (u72 / 2 ^ min (RF u73) (Uo .u64))) λu74=>az (aZ (s-(SD .i64 u74))) (az (0<=(s-(SD .i64 u74))/\(s-(SD .i64 u74))<(j:Int)) (az (0<=(SD .i64 u74)/\(SD .i64 u74)<(j:Int)) (aA Is s94 [el l 38 (RF (s-(SD .i64 u74))),el l 38 (RF (SD .i64 u74))] λr75=>iK r75 0 λz76=>ax (!(decide (z76<(0:Int)))) (az (aZ ((SD .i64 u74)+1)) (o [[vI C],[vI D],[vI E],[vI F],[vI h],[vI ((SD .i64 u74)+1)],[vI R],[vI s],[.sl j 38 l]])) (o [[vI C],[vI D],[vI E],[vI F],[vI h],[vI d],[vI (SD .i64 u74)],[vI s],[.sl j 38 l]]))))))) (az (aZ (h-d)) (jn (λU=>(λV1=>ax (decide (d<D)) (ax (decide (D<(h-d))) (aA Is s249 [[vI d],[vI D],[vI (h-d)],[.sl j 38 l]] λr79=>sK 38 r79 0 λn80 c81=>U [[vI C],[vI E],[vI F],[vI d],[vI (h-d)],[.sl n80 38 c81]]) (U V1)) (U V1)) [[vI C],[vI E],[vI F],[vI d],[vI (h-d)],[.sl j 38 l]]) (λg=>iK g 0 λz82=>iK g 1 λV=>iK g 2 λG=>iK g 3 λW=>iK g 4 λX=>sK 38 g 5 λY Z=>jn (λk89=>(λV3=>ax (decide (z82<W)) (ax (decide (W<G)) (aA Is D8 [[vI z82],[vI W],[vI G],[.sl Y 38 Z]] λr91=>sK 38 r91 0 λn92 c93=>k89 [[vI V],[vI G],[vI X],[.sl n92 38 c93]]) (k89 V3)) (k89 V3)) [[vI V],[vI G],[vI X],[.sl Y 38 Z]]) (λp=>iK p 0 λz94=>iK p 1 λz95=>iK p 2 λz96=>sK 38 p 3 λn97 c98=>(λV6=>ax (decide (z95<z96)) (ax (decide (z96<z94)) (aA Is D8 [[vI z95],[vI z96],[vI z94],V6] λr99=>sK 38 r99 0 λn100 c101=>K [[.sl n100 38 c101]]) (K [V6])) (K [V6])) [.sl n97 38 c98]))))) [[vI z50],[vI z51],[vI z52],[vI z53],[vI T],[vI z55],[vI z56],[vI (T-1)],[.sl n57 38 c58]])))))))))) [.sl n4 38 c5]
theorem w224:Wd (cF [s94,D8,s249]) ⟨[(3,⟨[hW 0 0,hI 1,(4,.c (.f 94 [])),hI 10,hI 11],[hR 0 70 38]⟩),(9,⟨[hW 0 0,hI 10,hI 13],[hR 0 70 38]⟩),(15,⟨[hW 0 0,hI 2,(4,.c (.f 94 [])),hI 14,hI 15],[hR 0 70 38]⟩),(21,⟨[hW 0 0,hI 14,hI 17],[hR 0 70 38]⟩),(33,⟨[hW 0 0,hI 1,hI 2,hI 3,(4,.c (.f 94 [])),hI 18,hI 19,hI 20,hI 21,hI 22],[hR 0 70 38]⟩)],[(32,⟨[hW 0 0,hI 1,hI 2,hI 3,(4,.c (.f 94 [])),hI 18,hI 19,hI 20,hI 21],[hR 0 70 38]⟩),(41,⟨[hW 0 0,hI 1,hI 3,(4,.c (.f 94 [])),hI 18,hI 20,hI 24],[hR 0 70 38]⟩),(43,⟨[hW 0 0,hI 3,(4,.c (.f 94 [])),hI 18,hI 24],[hR 0 70 38]⟩)],[]⟩ D8 g224:=Wk
def g249:Tx:=λIs a K=>iK a 0 λt=>iK a 1 λi=>iK a 2 λu=>sK 38 a 3 λv w=>az (aZ (i-t)) (az (aZ (u-i)) (Lp (λe f=>iK f 0 λd=>iK f 1 λc=>iK f 2 λb=>sK 38 f 3 λg h=>ax (!(decide (c=b))) (ax (decide (b<c)) (az (aZ (d-c)) (aA Is Lr [[vI (d-c)],[vI d],[vI b],[.sl g 38 h]] λj=>sK 38 j 0 λl m=>az (aZ (c-b)) (e [[vI d],[vI (c-b)],[vI b],[.sl l 38 m]]))) (az (aZ (d-c)) (az (aZ (d+b)) (az (aZ ((d+b)-c)) (aA Is Lr [[vI (d-c)],[vI ((d+b)-c)],[vI c],[.sl g 38 h]] λn=>sK 38 n 0 λo p=>az (aZ (b-c)) (e [[vI d],[vI c],[vI (b-c)],[.sl o 38 p]])))))) (az (aZ (d-c)) (aA Is Lr [[vI (d-c)],[vI d],[vI c],[.sl g 38 h]] λq=>sK 38 q 0 λr s=>K [[.sl r 38 s]]))) [[vI i],[vI (i-t)],[vI (u-i)],[.sl v 38 w]]))
theorem w249:Wd (cF [Lr]) ⟨[(2,⟨[hW 0 0,hI 2,(4,.c (.f 94 [])),hI 10,hI 11],[hR 0 70 38]⟩)],[],[]⟩ s249 g249:=Wk
def g263:Tx:=λ_ a K=>iK a 0 λj=>iK a 1 λl=>iK a 2 λm=>sK 38 a 3 λn o=>Lp (λh d=>iK d 0 λe=>iK d 1 λf=>iK d 2 λi=>iK d 3 λb=>sK 38 d 4 λc g=>ax (decide (b<i)) (az (aZ (e+b)) (az (aZ (f+b)) (az (aZ (f+b)) (az (0<=(f+b)/\(f+b)<(c:Int)) (az (aZ (e+b)) (az (0<=(e+b)/\(e+b)<(c:Int)) (az (0<=(e+b)/\(e+b)<(c:Int)) (az (0<=(f+b)/\(f+b)<(c:Int)) (oK b (h [[vI e],[vI f],[vI i],[vI (b+1)],[.sl c 38 (cB (cB g ((RF (e+b))*38+0) (el g 38 (RF (f+b)))) ((RF (f+b))*38+0) (el g 38 (RF (e+b))))]])))))))))) (K [[.sl c 38 g]])) [[vI j],[vI l],[vI m],[vI 0],[.sl n 38 o]]
theorem w263:Wd (cF []) ⟨[(1,⟨[hW 0 0,hI 1,hI 2,hI 3,hI 10],[hR 0 70 38]⟩)],[],[]⟩ Lr g263:=Wk
end Go.Proofs.YtmbboaapillefaaGreatDoor
namespace Xe
open Go
theorem eD{α:Type}{l:List α}{k:Nat}{d:α}(h:k<l.length):l.getD k d=l[k]:=by grind
def Made(ms:List aO)(l:List Int)(ds0:List an)(k:Nat)(d:an)(e:Ex)(T T':Int):Prop :=
 ∃c:fE,c.p.aw=ms/\cU c.p.aa ds0/\c.l=l/\c.own=k/\c.ka=d.mod/\0<=T/\Mk c d.aq (bR d) T e T'
structure BPn(ms:List aO)(l:List Int)(ds0:List an)(i:Nat)(ds:List an)(s:b6):Prop where
 lk:cU ds ds0
 us:0<=s.pos/\s.pos+(ds0.length-i:Nat)*(2*9 ^ 9)<=100000000000/\0<=s.bj/\s.bj+(ds0.length-i:Nat)*(2*9 ^ 9)<=100000000000
 made:∀k (hk:k<ds.length),k<i->¬bare ds[k]->∃T T',T'<=s.bj/\Made ms l ds0 k ds[k] ds[k].body T T'
theorem nK{ms:List aO}{l:List Int}{ds0:List an}(hb:kj ⟨ms,ds0⟩ 5)(hn:ja ⟨ms,ds0⟩)(hd8:ds0.length<=8):∀(m i:Nat) (ds:List an) (s:b6),i+m=ds0.length->BPn ms l ds0 i ds s->BPn ms l ds0 ds0.length (bu ms l m i ds s).1 (bu ms l m i ds s).2
 |0,i,ds,s,h,hp=>by
  rw[bu]
  grind
 |m+1,i,ds,s,h,hp=>by
  have hlen:=hp.lk.len;have hi:i<ds.length:=Q0;have h9:(9:Int) ^ 9=387420489:=Q1;have em:ds0.length-i=m+1:=Q0;have em':ds0.length-(i+1)=m:=Q0;have e1:((m+1:Nat):Int)*(2*9 ^ 9)=m*(2*9 ^ 9)+2*9 ^ 9:=Q0;have hmn:(0:Int)<=m*(2*9 ^ 9):=Ue Q0 Q0;have hus:=hp.us;rw[em]at hus;rw[bu,eD hi];split
  .rename_i hbr;refine nK hb hn hd8 m (i+1) ds s Q0 ⟨hp.lk,Q0,λk hk hlt hnb=>?_⟩;by_cases e:k=i
   .grind
   .exact hp.made k hk Q0 hnb
  .rename_i hnb;have hbd:kj ⟨ms,ds⟩ 5:=hb.mG hp.lk;have hnd:ja ⟨ms,ds⟩:=hn.mG hp.lk;have hu:Us (100000000000-(m*(2*9 ^ 9)+2*9 ^ 9)) ⟨s.pos,s.bj,14,0⟩:=by
    grind [XC,Us]
   obtain⟨hu2,T,hT,hmk⟩:=KD (c:=⟨⟨ms,ds⟩,l,i,ds[i].mod⟩) hbd hnd hi rfl rfl hu Q0;generalize fQ ⟨⟨ms,ds⟩,l,i,ds[i].mod⟩ ds[i] ⟨s.pos,s.bj,14,0⟩=r at hu2 hmk ⊢;dsimp only at hT;have hlt:=hmk.lt;unfold Us at hu2;refine nK hb hn hd8 m (i+1) _ _ Q0 ⟨hp.lk.set hi _,Q0,λk hk hlt2 hnb'=>?_⟩;by_cases e:k=i
   .subst e;simp only[T9];exact⟨T,r.2.bj,SM _,_,rfl,hp.lk,rfl,rfl,rfl,Q0,hmk⟩
   .have hk':k<ds.length:=Q0;have eg:(ds.set i (ds[i].bH r.1))[k]=ds[k]:=by grind
    rw[eg]at hnb' ⊢;obtain⟨T1,T2,h1,h2⟩:=hp.made k hk' Q0 hnb'
    grind
def Rv(ms:List aO)(l:List Int)(ds0:List an)(N:Nat)(nx0:Int)(k:Nat)(d:an):Prop :=
 ∃(e:Ex) (T T':Int) (ids:List av) (nx:Int),Made ms l ds0 k d e T T'/\T'<=N/\ids.length=N/\nx0<=nx/\nx<=100000000000000/\d.body=b8 (bE ids e.post nx) e
structure RPn(ms:List aO)(l:List Int)(ds0:List an)(N:Nat)(nx0:Int)(i:Nat)(ds:List an)(ids:List av)(nx:Int):Prop where
 lk:cU ds ds0
 len:ids.length=N
 nx:nx0<=nx/\nx+(ds0.length-i:Nat)*100000000000<=100000000000000
 old:∀k (hk:k<ds.length),i<=k->¬bare ds[k]->∃(T T':Int),T'<=N/\Made ms l ds0 k ds[k] ds[k].body T T'
 done:∀k (hk:k<ds.length),k<i->¬bare ds[k]->Rv ms l ds0 N nx0 k ds[k]
theorem B4{ms:List aO}{l:List Int}{ds0:List an}{N:Nat}(hN:N<=100000000000){nx0:Int}:∀(m i:Nat) (ds:List an) (ids:List av) (nx:Int),i+m=ds0.length->RPn ms l ds0 N nx0 i ds ids nx->cU (dv m i ds ids nx) ds0/\∀k (hk:k<(dv m i ds ids nx).length),¬bare (dv m i ds ids nx)[k]->Rv ms l ds0 N nx0 k (dv m i ds ids nx)[k]
 |0,i,ds,ids,nx,h,hp=>by
  have hlen:=hp.lk.len;have e:dv 0 i ds ids nx=ds:=by rw[dv]
  rw[e];exact⟨hp.lk,λk hk hnb=>hp.done k hk Q0 hnb⟩
 |m+1,i,ds,ids,nx,h,hp=>by
  have hlen:=hp.lk.len;have hi:i<ds.length:=Q0;have em:ds0.length-i=m+1:=Q0;have em':ds0.length-(i+1)=m:=Q0;have hnx:=hp.nx;rw[em]at hnx;by_cases hbr:bare ds[i]
  .have e:dv (m+1) i ds ids nx=dv m (i+1) ds ids nx:=by grind [dv,eD]
   rw[e];refine B4 hN m (i+1) ds ids nx Q0 ⟨hp.lk,hp.len,Q0,λk hk hlt=>hp.old k hk Q0,λk hk hlt hnb=>?_⟩;by_cases e:k=i
   .grind
   .exact hp.done k hk Q0 hnb
  .have e:dv (m+1) i ds ids nx=dv m (i+1) (ds.set i (ds[i].bH (b8 (bE ids ds[i].body.post nx) ds[i].body))) (bE ids ds[i].body.post nx) (nx+ds[i].body.post.length):=by grind [dv,eD]
   rw[e];obtain⟨T,T',hT',hmade⟩:=hp.old i hi (Sc _) hbr;have hsz:(ds[i].body.size:Int)<=100000000000:=by obtain⟨c,_,_,_,_,_,h0,hmk⟩:=hmade;have:=hmk.size;omega
   have hpl:=Ex.sd ds[i].body;refine B4 hN m (i+1) _ _ _ Q0 ⟨hp.lk.set hi _,by rw[jf];exact hp.len,Q0,λk hk hlt hnb=>?_,λk hk hlt hnb=>?_⟩
   .have hk':k<ds.length:=by grind
    have eg:(ds.set i (ds[i].bH (b8 (bE ids ds[i].body.post nx) ds[i].body)))[k]=ds[k]:=by grind
    rw[eg]at hnb ⊢;exact hp.old k hk' Q0 hnb
   .by_cases e:k=i
    .subst e;simp only[T9];exact⟨ds[k].body,T,T',ids,nx,hmade,hT',hp.len,Q0,Q0,rfl⟩
    .have hk':k<ds.length:=Q0;have eg:(ds.set i (ds[i].bH (b8 (bE ids ds[i].body.post nx) ds[i].body)))[k]=ds[k]:=by grind
     rw[eg]at hnb ⊢;exact hp.done k hk' Q0 hnb
theorem yd(l:List Int):0<=ig l/\ig l<=100:=by
 have hn:1<=ay l/\ay l<=2:=by grind [dw]
 have hok:=jD (l:=l) hn.1;have hlen:=eK l (ay l);have ht:dQ (cx l)<=3*(cx l).length:=by
  have key:∀ps:List aN,(∀p∈ps,p.types.length<=3)->dQ ps<=3*ps.length:=λps=>by
   induction ps with
   |nil=>intro _;simp[dQ]
   |cons p ps ih=>intro h;have h1:=h p (RG ..);have h2:=ih λq hq=>h q (RM _ hq);rw[mB,RU];omega
  exact key _ λp hp=>(hok p hp).t3
 unfold ig cx at *;omega
theorem dy(l:List Int):∃N:Nat,N<=100000000000/\cU (aK l).aa (aX l)/\∀k (hk:k<(aK l).aa.length),¬bare (aK l).aa[k]->Rv (bU l) l (aX l) N (ig l) k (aK l).aa[k]:=by
 have hb:=By l;have hn:=ui l;have hl8:(aX l).length<=8:=by unfold aX;rw[cG];exact(eK l (ay l)).2
 have h9:(9:Int) ^ 9=387420489:=Q1;have hB:=nK (l:=l) hb hn hl8 (aX l).length 0 (aX l) ⟨24,0,0,0⟩ Q0 ⟨cU.refl _,by grind,λk _ h=>J3 h (S6 _)⟩;obtain⟨hlk,hus,hmk⟩:=hB;have hnx:=yd l;have hmm:(0:Int)<=((aX l).length-(aX l).length:Nat)*(2*9 ^ 9):=Ue Q0 Q0;have hlen:(eQ l).1.length=(aX l).length:=hlk.len;refine⟨(eQ l).2.bj.toNat,by unfold eQ;omega,?_⟩;have ht:((eQ l).2.bj.toNat:Int)=(eQ l).2.bj:=by unfold eQ;omega
 have hR:=B4 (ms:=bU l) (l:=l) (ds0:=aX l) (N:=(eQ l).2.bj.toNat) (by unfold eQ;omega) (nx0:=ig l) (aX l).length 0 (eQ l).1 (Sj (eQ l).2.bj.toNat kx) (ig l) Q0
  ⟨hlk,Q2,Q0,λk hk _ hnb=>by
   obtain⟨T,T',h1,h2⟩:=hmk k hk Q0 hnb
   exact⟨T,T',by rw[ht];exact h1,h2⟩,λk _ h=>J3 h (S6 _)⟩
 exact hR
mutual
def iQ(q:av->Prop):Ex->Prop
 |.mk _ k _ r _ l _=>(k=3->q r)/\fB q l
def fB(q:av->Prop):List Ex->Prop
 |[]=>True
 |e::es=>iQ q e/\fB q es
end
theorem vu(q:av->Prop):∀l:List Ex,fB q l↔∀e∈l,iQ q e
 |[]=>by rw[fB];simp
 |e::es=>by rw[fB,vu q es];simp
theorem vv{q q':av->Prop}(h:∀r,q r->q' r):∀e:Ex,iQ q e->iQ q' e
 |.mk i k n r t l s,hc=>by rw[iQ]at hc ⊢;exact⟨λhk=>h _ (hc.1 hk),go l hc.2⟩
 where go:∀l:List Ex,fB q l->fB q' l
 |[],_=>by rw[fB];trivial
 |e::es,hc=>by rw[fB]at hc ⊢;exact⟨vv h e hc.1,go es hc.2⟩
theorem y5{q:av->Prop}(ids:List av):∀e:Ex,iQ q e->iQ q (b8 ids e)
 |.mk i k n r t l s,hc=>by
  rw[iQ]at hc;rw[b8,iQ];refine⟨λhk=>?_,go l hc.2⟩;unfold j2
  grind
 where go:∀l:List Ex,fB q l->fB q (iw ids l)
 |[],_=>by rw[iw,fB];trivial
 |e::es,hc=>by rw[fB]at hc;rw[iw,fB];exact⟨y5 ids e hc.1,go es hc.2⟩
theorem bZ{q:av->Prop}{k n:Int}{l:List Ex}{T:av}{r:av}{u:Ty}{ns:List ByteArray}(hk:k=3->q r)(hl:∀e∈l,iQ q e):iQ q (.mk T k n r u l ns):=by
 grind [iQ,vu]
def Rs(ds:List an)(j:Int)(r:av):Prop:=∃k,∃h:k<ds.length,(k:Int)<j/\ds[k].id=r/\ds[k].kind=2
theorem Mk.calls{c:fE}{t:Ty}{env:List cg}{T T':Int}{e:Ex}(h:Mk c t env T e T'):iQ (Rs c.p.aa c.own) e:=by
 induction h with
 |int _=>exact bZ (k:=0) (l:=[]) (λh=>J3 h Q1) (λ_ h=>by cases h)
 |bool _=>exact bZ (k:=1) (l:=[]) (λh=>J3 h Q1) (λ_ h=>by cases h)
 |var _=>exact bZ (k:=2) (l:=[]) (λh=>J3 h Q1) (λ_ h=>by cases h)
 |@rj env T kids Ts _ h0 _ ih=>refine bZ (k:=11) (l:=kids) (λh=>J3 h Q1) λx hx=>?_;obtain⟨i,hi,rfl⟩:=R8.1 hx;exact ih i hi
 |@oW env T T1 d k e _ _ _ hm ih=>refine bZ (k:=9) (l:=[e]) (λh=>J3 h Q1) λx hx=>?_;rw[RZ.1 hx];exact ih
 |@rV env T d kids _ _ Ts _ h0 hm ih=>refine bZ (k:=7) (l:=kids) (λh=>J3 h Q1) λx hx=>?_;obtain⟨i,hi,rfl⟩:=R8.1 hx;exact ih i hi
 |@len env T T1 a hm ih=>refine bZ (k:=4) (l:=[a]) (λh=>J3 h Q1) λx hx=>?_;rw[RZ.1 hx];exact ih
 |@not env T T1 a hm ih=>refine bZ (k:=4) (l:=[a]) (λh=>J3 h Q1) λx hx=>?_;rw[RZ.1 hx];exact ih
 |@tp t u env T T1 T2 n a b _ ha hb ih1 ih2 =>
  refine bZ (k:=4) (l:=[a,b]) (λh=>J3 h Q1) λx hx=>?_;simp only[RO,Sx,or_false]at hx;rcases hx with rfl|rfl
  .exact ih1
  .exact ih2
 |@Ke t env T T1 T2 T3 a b e ha hb he ih1 ih2 ih3 =>
  refine bZ (k:=5) (l:=[a,b,e]) (λh=>J3 h Q1) λx hx=>?_;simp only[RO,Sx,or_false]at hx;rcases hx with rfl|rfl|rfl
  .exact ih1
  .exact ih2
  .exact ih3
 |@sF t u env T T1 T2 a b m ha hb ih1 ih2 =>
  refine bZ (k:=6) (l:=[a,b]) (λh=>J3 h Q1) λx hx=>?_;simp only[RO,Sx,or_false]at hx;rcases hx with rfl|rfl
  .exact ih1
  .exact ih2
 |@sU t env T T1 T2 T3 a b e m m2 ha hb he ih1 ih2 ih3 =>
  refine bZ (k:=12) (l:=[a,b,e]) (λh=>J3 h Q1) λx hx=>?_;simp only[RO,Sx,or_false]at hx;rcases hx with rfl|rfl|rfl
  .exact ih1
  .exact ih2
  .exact ih3
 |@JM t env T T1 d a kids ms _ _ Ts _ _ ha h0 hm ih1 ih =>
  refine bZ (k:=10) (l:=a::kids) (λh=>J3 h Q1) λx hx=>?_;rcases RO.1 hx with rfl|hx
  .exact ih1
  .obtain⟨i,hi,rfl⟩:=R8.1 hx;exact ih i hi
 |@field env T T1 d j a _ _ _ hm ih=>refine bZ (k:=8) (l:=[a]) (λh=>J3 h Q1) λx hx=>?_;rw[RZ.1 hx];exact ih
 |@call env T k kids hd hk hv Ts _ h0 hm ih=>refine bZ (k:=3) (l:=kids) (λ_=>⟨k,hd,hv.1,rfl,hk⟩) λx hx=>?_;obtain⟨i,hi,rfl⟩:=R8.1 hx;exact ih i hi
theorem Rs.mG{a b:List an}(h:cU a b){j:Int}{r:av}(hp:Rs a j r):Rs b j r:=by
 obtain⟨k,hk,h1,h2,h3⟩:=hp;have hk':k<b.length:=by rw[<-h.len];exact hk
 have hs:=bX (h.get hk hk');exact⟨k,hk',h1,by grind,Q0⟩
theorem tQ(ids:List av):∀e:Ex,(b8 ids e).size=e.size
 |.mk i k n r t l s=>by rw[b8,Ex.size,Ex.size,go l]
 where go:∀l:List Ex,Ex.ba (iw ids l)=Ex.ba l
 |[]=>by rw[iw]
 |e::es=>by rw[iw,Ex.ba,Ex.ba,tQ ids e,go es]
structure CallsP(p:au):Prop where
 nm:ja p
 len:p.aa.length<=8
 calls:∀k (hk:k<p.aa.length),¬bare p.aa[k]->iQ (Rs p.aa k) p.aa[k].body/\p.aa[k].body.size<=100000000000
theorem kT(l:List Int):CallsP (aK l):=by
 obtain⟨N,hN,hlk,h⟩:=dy l;have hlen:(aX l).length<=8:=by unfold aX;rw[cG];exact(eK l (ay l)).2
 refine⟨(ui l).mG hlk,by rw[hlk.len];exact hlen,λk hk hnb=>?_⟩;obtain⟨e,T,T',ids,nx,⟨c,_,hcl,_,hco,_,h0,hmk⟩,hT',_,_,_,hbody⟩:=h k hk hnb;rw[hbody,tQ];have hc:=hmk.calls;rw[hco]at hc;exact⟨vv (λr hr=>(hr.mG hcl).mG hlk.symm) _ (y5 _ _ hc),by have:=hmk.size;omega⟩
abbrev lA:=List (av×Int×Ty)
def qt(G:lA)(r:av)(n:Int):Option Ty:=(G.find? λx=>decide (x.1=r/\x.2.1=n)).map (·.2.2)
inductive gG(p:au):lA->Ex->Ty->Prop
 |int {G:lA} {i r:av} {n:Int} {t:Ty} {s:List ByteArray}:InR n->gG p G (.mk i 0 n r t [] s) bQ
 |bool {G:lA} {i r:av} {n:Int} {t:Ty} {s:List ByteArray}:0<=n/\n<=1->gG p G (.mk i 1 n r t [] s) qE
 |var {G:lA} {i r:av} {n:Int} {t u:Ty} {s:List ByteArray}:qt G r n=some u->gG p G (.mk i 2 n r t [] s) u
 |rj {G:lA} {i r:av} {n:Int} {t:Ty} {s:List ByteArray} {kids:List Ex}:kids.length<=2->(∀j (h:j<kids.length),gG p G kids[j] bQ)->gG p G (.mk i 11 n r t kids s) (cb bQ)
 |oW {G:lA} {i:av} {t:Ty} {s:List ByteArray} {d:an} {k:Nat} {e:Ex} (hd:d∈p.aa) (hk:d.kind=1) (h:k<d.ah.length):gG p G e d.ah[k].ty->gG p G (.mk i 9 k d.id t [e] s) (mD d.id)
 |rV {G:lA} {i:av} {n:Int} {t:Ty} {s:List ByteArray} {d:an} {kids:List Ex} (hd:d∈p.aa) (hk:d.kind=0) (hl:kids.length=d.ah.length):(∀j (h:j<kids.length),gG p G kids[j] (d.ah[j]'Q0).ty)->gG p G (.mk i 7 n d.id t kids s) (mD d.id)
 |len {G:lA} {i r:av} {t:Ty} {s:List ByteArray} {a:Ex}:gG p G a (cb bQ)->gG p G (.mk i 4 11 r t [a] s) bQ
 |not {G:lA} {i r:av} {t:Ty} {s:List ByteArray} {a:Ex}:gG p G a qE->gG p G (.mk i 4 9 r t [a] s) qE
 |tp {G:lA} {i r:av} {n:Int} {t u v:Ty} {s:List ByteArray} {a b:Ex}:opTy n u v->gG p G a u->gG p G b u->gG p G (.mk i 4 n r t [a,b] s) v
 |Ke {G:lA} {i r:av} {n:Int} {t v:Ty} {s:List ByteArray} {a b e:Ex}:gG p G a qE->gG p G b v->gG p G e v->gG p G (.mk i 5 n r t [a,b,e] s) v
 |sF {G:lA} {i r:av} {n:Int} {t u v:Ty} {s:List ByteArray} {a b:Ex}:gG p G a u->gG p ((i,0,u)::G) b v->gG p G (.mk i 6 n r t [a,b] s) v
 |sU {G:lA} {i r:av} {n:Int} {t v:Ty} {s:List ByteArray} {a b e:Ex}:gG p G a (cb bQ)->gG p G b v->gG p ((i,1,v)::(i,0,bQ)::G) e v->gG p G (.mk i 12 n r t [a,b,e] s) v
 |JM {G:lA} {i r:av} {n:Int} {t v:Ty} {s:List ByteArray} {d:an} {a:Ex} {kids:List Ex} (hd:d∈p.aa) (hk:d.kind=1) (hl:kids.length=d.ah.length):gG p G a (mD d.id) ->
   (∀j (h:j<kids.length),gG p ((i,(j:Int),(d.ah[j]'Q0).ty)::G) kids[j] v)->gG p G (.mk i 10 n r t (a::kids) s) v
 |field {G:lA} {i r:av} {t:Ty} {s:List ByteArray} {d:an} {j:Nat} {a:Ex} (hd:d∈p.aa) (hk:d.kind=0) (h:j<d.ah.length):gG p G a (mD d.id)->gG p G (.mk i 8 j r t [a] s) d.ah[j].ty
 |call {G:lA} {i:av} {n:Int} {t:Ty} {s:List ByteArray} {d:an} {kids:List Ex} (hd:d∈p.aa) (hk:¬bare d) (hl:kids.length=d.ah.length):(∀j (h:j<kids.length),gG p G kids[j] (d.ah[j]'Q0).ty)->gG p G (.mk i 3 n d.id t kids s) d.aq
theorem ok0(p:au):cd p bQ:=by unfold cd;exact(jz Q1 Q1).2 ⟨rfl,rfl,.inl rfl⟩
theorem okL(p:au):cd p qE:=by unfold cd;exact(jz Q1 Q1).2 ⟨rfl,rfl,.inr rfl⟩
theorem okList(p:au):cd p (cb bQ):=by unfold cd;exact(j5 rfl).2 ⟨rfl,bQ,rfl,(jz Q1 Q1).2 ⟨rfl,rfl,.inl rfl⟩⟩
theorem okOf{p:au}{i:av}(h:iH p i):cd p (mD i):=by unfold cd;exact(uS rfl).2 ⟨h,rfl⟩
def I3(d:an):lA:=(d.ah.map λs=>(s.id,(0:Int),s.ty)).reverse
structure TyP(p:au):Prop where
 body:∀d∈p.aa,¬bare d->gG p (I3 d) d.body d.aq
 mY:∀d∈p.aa,al p d.id=d
 few:∀d∈p.aa,d.ah.length<=1000
def nT(a b:Int)(l:List Int):Prop:=l.Nodup/\∀x∈l,a<=x/\x<b
theorem nT.nil{a b:Int}:nT a b []:=⟨List.nodup_nil,λx h=>by simp at h⟩
theorem nT.app{a b c:Int}{l m:List Int}(h:nT a b l)(k:nT b c m)(h1:a<=b)(h2:b<=c):nT a c (l++m):=by
 refine⟨Td.2 ⟨h.1,k.1,λx hx y hy e=>?_⟩,λx hx=>?_⟩
 .have:=h.2 x hx;have:=k.2 y hy;omega
 .rcases RY.1 hx with hx|hx
  .have:=h.2 x hx;omega
  .have:=k.2 x hx;omega
theorem nT.one{a:Int}:nT a (a+1) [a]:=⟨Q2,λx h=>by grind⟩
theorem nT.mono{a b c d:Int}{l:List Int}(h:nT b c l)(h1:a<=b)(h2:c<=d):nT a d l:=⟨h.1,λx hx=>by have:=h.2 x hx;omega⟩
theorem Aw{Ts:Nat->Int}:∀(l:List Ex) (k:Nat),(∀i (h:i<l.length),nT (Ts (k+i)) (Ts (k+i+1)) l[i].post/\Ts (k+i)<Ts (k+i+1))->nT (Ts k) (Ts (k+l.length)) (Ex.cV l)/\Ts k<=Ts (k+l.length)
 |[],k,_=>by grind [Ex.cV,nT.nil]
 |e::es,k,h=>by
  have h0:=h 0 Q2;have h1:=Aw es (k+1) λi hi=>by have:=h (i+1) (by grind);rw[show k+1+i=k+(i+1) by omega];simpa using this
  simp only[W3,S2]at h0;rw[Ex.cV,RU,show k+(es.length+1)=k+1+es.length by omega];exact⟨h0.1.app h1.1 Q0 h1.2,Q0⟩
theorem Mk.cV{c:fE}{t:Ty}{env:List cg}{T T':Int}{e:Ex}(h:Mk c t env T e T'):nT T T' e.post:=by
 have row:∀{l:List Ex} {Ts:Nat->Int},(∀i (h:i<l.length),nT (Ts i) (Ts (i+1)) l[i].post/\Ts i<Ts (i+1))->nT (Ts 0) (Ts l.length) (Ex.cV l)/\Ts 0<=Ts l.length:=fun{l Ts} h=>by
  have:=Aw (Ts:=Ts) l 0 λi hi=>by grind
  grind
 induction h with
 |int _=>exact nT.one
 |bool _=>exact nT.one
 |var _=>exact nT.one
 |@rj env T kids Ts _ h0 hm ih=>have:=row λi hi=>⟨ih i hi,(hm i hi).lt⟩;rw[Ex.eY,<-h0];exact this.1.app nT.one this.2 Q0
 |@oW env T T1 d k e _ _ _ hm ih=>rw[Ex.eY];have:=hm.lt;show nT _ _ (e.post++[]++[T1]);rw[RW];exact ih.app nT.one Q0 Q0
 |@rV env T d kids _ _ Ts _ h0 hm ih=>have:=row λi hi=>⟨ih i hi,(hm i hi).lt⟩;rw[Ex.eY,<-h0];exact this.1.app nT.one this.2 Q0
 |@len env T T1 a hm ih=>rw[Ex.eY];have:=hm.lt;show nT _ _ (a.post++[]++[T1]);rw[RW];exact ih.app nT.one Q0 Q0
 |@not env T T1 a hm ih=>rw[Ex.eY];have:=hm.lt;show nT _ _ (a.post++[]++[T1]);rw[RW];exact ih.app nT.one Q0 Q0
 |@tp t u env T T1 T2 n a b _ ha hb ih1 ih2=>rw[Ex.eY];have:=ha.lt;have:=hb.lt;show nT _ _ (a.post++(b.post++[])++[T2]);rw[RW];exact(ih1.app ih2 Q0 Q0).app nT.one Q0 Q0
 |@Ke t env T T1 T2 T3 a b e ha hb he ih1 ih2 ih3=>rw[Ex.eY];have:=ha.lt;have:=hb.lt;have:=he.lt;show nT _ _ (a.post++(b.post++(e.post++[]))++[T3]);rw[RW];exact(ih1.app (ih2.app ih3 Q0 Q0) Q0 Q0).app nT.one Q0 Q0
 |@sF t u env T T1 T2 a b m ha hb ih1 ih2 =>
  rw[Ex.eY];have:=ha.lt;have:=hb.lt;show nT _ _ (a.post++(b.post++[])++[T1]);rw[RW];refine⟨Td.2 ⟨(ih1.app (ih2.mono (show T1<=T1+1 by omega) (SM _)) Q0 Q0).1,Q2,λx hx y hy e=>?_⟩,λx hx=>?_⟩
  .simp only[RZ]at hy;rcases RY.1 hx with hx|hx
   .have:=ih1.2 x hx;omega
   .have:=ih2.2 x hx;omega
  .rcases RY.1 hx with hx|hx
   .rcases RY.1 hx with hx|hx
    .have:=ih1.2 x hx;omega
    .have:=ih2.2 x hx;omega
   .simp only[RZ]at hx;omega
 |@sU t env T T1 T2 T3 a b e m m2 ha hb he ih1 ih2 ih3 =>
  rw[Ex.eY];have:=ha.lt;have:=hb.lt;have:=he.lt;show nT _ _ (a.post++(b.post++(e.post++[]))++[T2]);rw[RW];refine⟨Td.2 ⟨(ih1.app (ih2.app (ih3.mono (show T2<=T2+1 by omega) (SM _)) Q0 Q0) Q0 Q0).1,Q2,λx hx y hy e=>?_⟩,λx hx=>?_⟩
  .simp only[RZ]at hy;rcases RY.1 hx with hx|hx
   .have:=ih1.2 x hx;omega
   .rcases RY.1 hx with hx|hx
    .have:=ih2.2 x hx;omega
    .have:=ih3.2 x hx;omega
  .rcases RY.1 hx with hx|hx
   .rcases RY.1 hx with hx|hx
    .have:=ih1.2 x hx;omega
    .rcases RY.1 hx with hx|hx
     .have:=ih2.2 x hx;omega
     .have:=ih3.2 x hx;omega
   .simp only[RZ]at hx;omega
 |@JM t env T T1 d a kids ms _ _ Ts _ _ ha h0 hm ih1 ih =>
  rw[Ex.eY];have hr:=row λi hi=>⟨ih i hi,(hm i hi).lt⟩;rw[h0]at hr;have:=ha.lt;show nT _ _ (a.post++Ex.cV kids++[T1]);refine⟨Td.2 ⟨(ih1.app (hr.1.mono (show T1<=T1+1 by omega) (SM _)) Q0 Q0).1,Q2,λx hx y hy e=>?_⟩,λx hx=>?_⟩
  .simp only[RZ]at hy;rcases RY.1 hx with hx|hx
   .have:=ih1.2 x hx;omega
   .have:=hr.1.2 x hx;omega
  .rcases RY.1 hx with hx|hx
   .rcases RY.1 hx with hx|hx
    .have:=ih1.2 x hx;omega
    .have:=hr.1.2 x hx;omega
   .simp only[RZ]at hx;omega
 |@field env T T1 d j a _ _ _ hm ih=>rw[Ex.eY];have:=hm.lt;show nT _ _ (a.post++[]++[T1]);rw[RW];exact ih.app nT.one Q0 Q0
 |@call env T k kids _ _ _ Ts _ h0 hm ih=>have:=row λi hi=>⟨ih i hi,(hm i hi).lt⟩;rw[Ex.eY,<-h0];exact this.1.app nT.one this.2 Q0
theorem rY:∀{ks:List Int} {ids:List av} {nx x:Int},0<=x->(∀k∈ks,0<=k)->x ∉ ks->iL (bE ids ks nx) x=iL ids x
 |[],ids,nx,x,_,_,_=>by rw[bE]
 |k::ks,ids,nx,x,h0,hk,hx=>by
  have hk0:=hk k (RG ..);have hne:x≠k:=λe=>hx (by grind);rw[bE,rY h0 (λj hj=>hk j (RM _ hj)) (λh=>hx (RM _ h))];unfold iL
  grind
theorem np:∀{ks:List Int} {ids:List av} {nx:Int},(∀k∈ks,0<=k/\k<ids.length)->ks.Nodup->∀j (h:j<ks.length),iL (bE ids ks nx) ks[j]=fA (nx+j)
 |k::ks,ids,nx,hk,hn,0,_=>by
  have hk0:=hk k (RG ..)
  grind [SG,bE,rY,RM,iL]
 |k::ks,ids,nx,hk,hn,j+1,h=>by
  have hn:=SG.1 hn;rw[List.getElem_cons_succ,bE,np (λi hi=>by grind) hn.2 j (by grind)]
  grind
theorem G0{ks:List Int}{ids:List av}{nx:Int}(hk:∀k∈ks,0<=k/\k<ids.length)(hn:ks.Nodup)(h0:0<=nx){x y:Int}(hx:x∈ks)(hy:y∈ks)(h:iL (bE ids ks nx) x=iL (bE ids ks nx) y):x=y:=by
 grind [R8,np,uy]
def sg(ids:List av)(i:av):av:=if i.seq=0 then iL ids i.index else i
def gOf(ids:List av)(env:List cg):lA:=(env.map λb=>(sg ids b.id,b.n,b.ty)).reverse
theorem sT(ids:List av)(env:List cg)(b:cg):gOf ids (env++[b])=(sg ids b.id,b.n,b.ty)::gOf ids env:=by unfold gOf;simp
structure Nm(ids:List av)(S:List Int)(Q:av->Prop):Prop where
 inj:∀x y,x∈S->y∈S->iL ids x=iL ids y->x=y
 sep:∀x∈S,∀q,Q q->q≠iL ids x
structure zU(ids:List av)(S:List Int)(Q:av->Prop)(env:List cg)(T:Int):Prop where
 is:∀b∈env,(b.id.seq=0/\b.id.index∈S/\b.id.index<T)\/(b.id.seq≠0/\Q b.id)
 look:∀b∈env,qt (gOf ids env) (sg ids b.id) b.n=some b.ty
variable {ids:List av} {S:List Int} {Q:av->Prop} {env:List cg} {T T1:Int}
theorem zU.mono(h:zU ids S Q env T)(hT:T<=T1):zU ids S Q env T1:=⟨λb hb=>(h.is b hb).imp (λk=>⟨k.1,k.2.1,Q0⟩) id,h.look⟩
theorem zU.fresh(h:zU ids S Q env T)(hn:Nm ids S Q)(hT:T<=T1)(hS:T1∈S):∀b∈env,sg ids b.id≠iL ids T1:=λb hb e=>by
 unfold sg at e;rcases h.is b hb with⟨h1,h2,h3⟩|⟨h1,h2⟩
 .rw[J2 h1]at e;have:=hn.inj _ _ h2 hS e;omega
 .rw[J1 h1]at e;exact hn.sep _ hS _ h2 e
theorem zU.add(h:zU ids S Q env T){k:Int}{u:Ty}{T2:Int}(hT:T<=T2)(hS:T1∈S)(h2:T1<T2)(hne:∀b∈env,¬(sg ids b.id=iL ids T1/\b.n=k)):zU ids S Q (env++[⟨⟨0,0,T1⟩,k,u⟩]) T2:=by
 refine⟨λb hb=>?_,λb hb=>?_⟩
 .rcases RY.1 hb with hb|hb
  .exact(h.mono hT).is b hb
  all_goals grind
 .rw[sT];have e:sg ids (⟨⟨0,0,T1⟩,k,u⟩:cg).id=iL ids T1:=rfl;rcases RY.1 hb with hb|hb
  .unfold qt;have hc:¬(sg ids (⟨⟨0,0,T1⟩,k,u⟩:cg).id=sg ids b.id/\k=b.n):=λhc=>hne b hb ⟨hc.1.symm.trans e,hc.2.symm⟩;rw[List.find?_cons,J6 hc];exact h.look b hb
  all_goals grind [RZ,qt]
end Xe
namespace Xe
open Go
theorem rU{ids:List av}{k:Int}{r:av}(h:k≠2):j2 ids k r=r:=by grind [j2]
theorem LD(ids:List av)(r:av):j2 ids 2 r=sg ids r:=by
 unfold j2 sg
 grind
theorem gP(ids:List av)(i:av)(k n:Int)(r:av)(t:Ty)(l:List Ex)(s:List ByteArray):b8 ids (.mk i k n r t l s)=.mk (iL ids i.index) k n (j2 ids k r) t (l.map (b8 ids)) s:=by rw[b8,rT]
theorem Ax:∀{l:List Ex} {e:Ex} {x:Int},e∈l->x∈e.post->x∈Ex.cV l
 |a::l,e,x,he,hx=>by
  rw[Ex.cV];rcases RO.1 he with rfl|he
  .grind
  .exact List.mem_append_right _ (Ax he hx)
theorem cE{e k:Ex}{x:Int}(hk:k∈e.kids)(hx:x∈k.post):x∈e.post:=by grind [Ex.eY,List.mem_append_left,Ax]
theorem xY(e:Ex):e.id.index∈e.post:=by rw[Ex.eY];simp
theorem oT{a:List an}{p:au}(hl:cU a p.aa){d:an}(hd:d∈a):∃d'∈p.aa,d.id=d'.id/\d.kind=d'.kind/\d.ah=d'.ah/\d.aq=d'.aq:=by
 obtain⟨e,he,hs⟩:=hl.mem hd;have:=bX hs
 grind
theorem Mk.wty{c:fE}{p:au}(hl:cU c.p.aa p.aa){ids:List av}{S:List Int}{Q:av->Prop}(hn:Nm ids S Q){t:Ty}{env:List cg}{T T':Int}{e:Ex}(h:Mk c t env T e T'):(∀x∈e.post,x∈S)->zU ids S Q env T->gG p (gOf ids env) (b8 ids e) t:=by
 induction h with
 |int hi=>intro _ _;rw[dz,gP];exact gG.int hi
 |bool hi=>intro _ _;rw[dz,gP];exact gG.bool hi
 |@var env T b hb=>intro _ hE;show gG _ _ (b8 ids (.mk _ 2 _ _ _ [] _)) _;rw[gP,LD];exact gG.var (hE.look b hb)
 |@rj env T kids Ts hk h0 hm ih =>
  intro hS hE;show gG _ _ (b8 ids (.mk _ 11 _ _ _ kids _)) _;rw[gP];refine gG.rj (by grind) λj hj=>?_;rw[Sa]at hj;rw[S0];refine ih j hj (λx hx=>hS x (cE (e:=.mk _ 11 _ _ _ kids _) (RQ hj) hx)) (hE.mono ?_)
  .rw[<-h0];exact(dW (Ts:=Ts) _ (λi hi=>(hm i hi).lt) j Q0).1
 |@oW env T T1 d k e hd hk hlt hm ih=>intro hS hE;obtain⟨d',hd',e1,e2,e3,e4⟩:=oT hl hd;show gG _ _ (b8 ids (.mk _ 9 _ _ _ [e] _)) _;rw[gP,rU Q1,e1];refine gG.oW hd' Q0 (by grind) ?_;simp only[<-e3];exact ih (λx hx=>hS x (cE (k:=e) (RG ..) hx)) hE
 |@rV env T d kids hd hk Ts hkl h0 hm ih=>intro hS hE;obtain⟨d',hd',e1,e2,e3,e4⟩:=oT hl hd;show gG _ _ (b8 ids (.mk _ 7 _ _ _ kids _)) _;rw[gP,rU Q1,e1];refine gG.rV hd' Q0 (by grind) λj hj=>?_;rw[Sa]at hj;rw[S0];simp only[<-e3];refine ih j hj (λx hx=>hS x (cE (e:=.mk _ 7 _ _ _ kids _) (RQ hj) hx)) (hE.mono ?_);rw[<-h0];exact(dW (Ts:=Ts) _ (λi hi=>(hm i hi).lt) j Q0).1
 |@len env T T1 a hm ih=>intro hS hE;show gG _ _ (b8 ids (.mk _ 4 _ _ _ [a] _)) _;rw[gP];exact gG.len (ih (λx hx=>hS x (cE (k:=a) (RG ..) hx)) hE)
 |@not env T T1 a hm ih=>intro hS hE;show gG _ _ (b8 ids (.mk _ 4 _ _ _ [a] _)) _;rw[gP];exact gG.not (ih (λx hx=>hS x (cE (k:=a) (RG ..) hx)) hE)
 |@tp t u env T T1 T2 n a b ho ha hb ih1 ih2=>intro hS hE;show gG _ _ (b8 ids (.mk _ 4 _ _ _ [a,b] _)) _;rw[gP];exact gG.tp ho (ih1 (λx hx=>hS x (cE (k:=a) (by simp[dz,Ex.kids]) hx)) hE) (ih2 (λx hx=>hS x (cE (k:=b) (by simp[dz,Ex.kids]) hx)) (hE.mono (by have:=ha.lt;omega)))
 |@Ke t env T T1 T2 T3 a b e ha hb he ih1 ih2 ih3=>intro hS hE;have:=ha.lt;have:=hb.lt;show gG _ _ (b8 ids (.mk _ 5 _ _ _ [a,b,e] _)) _;rw[gP];exact gG.Ke (ih1 (λx hx=>hS x (cE (k:=a) (by simp[dz,Ex.kids]) hx)) hE) (ih2 (λx hx=>hS x (cE (k:=b) (by simp[dz,Ex.kids]) hx)) (hE.mono Q0)) (ih3 (λx hx=>hS x (cE (k:=e) (by simp[dz,Ex.kids]) hx)) (hE.mono Q0))
 |@sF t u env T T1 T2 a b m ha hb ih1 ih2=>intro hS hE;have:=ha.lt;have hT1:T1∈S:=hS T1 (xY ((dz 6 0 [] T1).dH [a,b] [m]));show gG _ _ (b8 ids (.mk ⟨0,0,T1⟩ 6 _ _ _ [a,b] _)) _;rw[gP];have h2:=ih2 (λx hx=>hS x (cE (k:=b) (by simp[dz,Ex.dH,Ex.kids]) hx)) (hE.add Q0 hT1 Q0 λb hb hc=>hE.fresh hn Q0 hT1 b hb hc.1);rw[sT]at h2;exact gG.sF (ih1 (λx hx=>hS x (cE (k:=a) (by simp[dz,Ex.dH,Ex.kids]) hx)) hE) h2
 |@sU t env T T1 T2 T3 a b e m m2 ha hb he ih1 ih2 ih3 =>
  intro hS hE;have:=ha.lt;have:=hb.lt;have hT2:T2∈S:=hS T2 (xY ((dz 12 0 [] T2).dH [a,b,e] [m,m2]));show gG _ _ (b8 ids (.mk ⟨0,0,T2⟩ 12 _ _ _ [a,b,e] _)) _;rw[gP];have hf:=hE.fresh hn (show T<=T2 by omega) hT2;have hE1:=hE.add (k:=0) (u:=bQ) (show T<=T2+1 by omega) hT2 Q0 λb hb hc=>hf b hb hc.1;have hE2:=hE1.add (k:=1) (u:=t) (show T2+1<=T2+1 by omega) hT2 Q0 λb hb hc=>by
   grind
  have h3:=ih3 (λx hx=>hS x (cE (k:=e) (by simp[dz,Ex.dH,Ex.kids]) hx)) hE2;rw[sT,sT]at h3;exact gG.sU (ih1 (λx hx=>hS x (cE (k:=a) (by simp[dz,Ex.dH,Ex.kids]) hx)) hE) (ih2 (λx hx=>hS x (cE (k:=b) (by simp[dz,Ex.dH,Ex.kids]) hx)) (hE.mono Q0)) h3
 |@JM t env T T1 d a kids ms hd hk Ts hkl hml ha h0 hm ih1 ih=>intro hS hE;obtain⟨d',hd',e1,e2,e3,e4⟩:=oT hl hd;have:=ha.lt;have hT1:T1∈S:=hS T1 (xY (((dz 10 0 [] T1).dO d.id).dH (a::kids) ms));show gG _ _ (b8 ids (.mk ⟨0,0,T1⟩ 10 _ _ _ (a::kids) _)) _;rw[gP,Sb];refine gG.JM hd' Q0 (by grind) (by rw[<-e1];exact ih1 (λx hx=>hS x (cE (k:=a) (RG ..) hx)) hE) λj hj=>?_;rw[Sa]at hj;rw[S0];simp only[<-e3];have hstep:=(dW (Ts:=Ts) _ (λi hi=>(hm i hi).lt) j Q0).1;have h2:=ih j hj (λx hx=>hS x (cE (e:=((dz 10 0 [] T1).dO d.id).dH (a::kids) ms) (RM _ (RQ hj)) hx)) (hE.add Q0 hT1 Q0 λb hb hc=>hE.fresh hn Q0 hT1 b hb hc.1);rw[sT]at h2;exact h2
 |@field env T T1 d j a hd hk hlt hm ih=>intro hS hE;obtain⟨d',hd',e1,e2,e3,e4⟩:=oT hl hd;show gG _ _ (b8 ids (.mk _ 8 _ _ _ [a] _)) _;rw[gP];have:=gG.field (i:=iL ids T1) (r:=j2 ids 8 d.id) (t:=bQ) (s:=[]) hd' Q0 (show j<d'.ah.length by grind) (by rw[<-e1];exact ih (λx hx=>hS x (cE (k:=a) (RG ..) hx)) hE);simp only[<-e3]at this;exact this
 |@call env T k kids hd hk hv Ts hkl h0 hm ih=>intro hS hE;obtain⟨d',hd',e1,e2,e3,e4⟩:=oT hl (RQ hd);show gG _ _ (b8 ids (.mk _ 3 _ _ _ kids _)) _;rw[gP,rU Q1,e1,e4];refine gG.call hd' (by unfold bare;omega) (by grind) λj hj=>?_;rw[Sa]at hj;rw[S0];simp only[<-e3];refine ih j hj (λx hx=>hS x (cE (e:=.mk _ 3 _ _ _ kids _) (RQ hj) hx)) (hE.mono ?_);rw[<-h0];exact(dW (Ts:=Ts) _ (λi hi=>(hm i hi).lt) j Q0).1
theorem LV(ps:List aN){j:Nat}(hj:j<ps.length):dQ (ps.take j)+ps[j].types.length<=dQ ps:=by
 have e:ps=ps.take j++(ps[j]::ps.drop (j+1)):=by simp_all
 have:=J4 dQ e;rw[u9,mB]at this;omega
theorem LY(q:aN)(nx:Int)(k:Nat)(hk:k<(cO q nx).length):(cO q nx)[k].id=fA (nx+k):=by simp[cO]
theorem Aj(l:List Int):∀d∈aX l,∃m:Int,0<=m/\m+d.ah.length<=ig l/\∀j (h:j<d.ah.length),d.ah[j].id=fA (m+j):=by
 intro d hd;have hn:1<=ay l:=by grind [dw]
 obtain⟨j,hj,rfl⟩:=R8.1 hd;unfold aX at hj ⊢;rw[cG]at hj;rw[dT _ _ _ hj];refine⟨ay l+(cx l).length+dQ ((cx l).take j),Q0,?_,λk hk=>?_⟩
 .have:=LV (cx l) hj;show _+((cO _ _).length:Int)<=_
  grind [cw,ig]
 .exact LY _ _ _ hk
theorem few0(l:List Int):∀d∈aX l,(d.ah.length:Int)<=100:=λd hd=>by obtain⟨m,h0,h1,_⟩:=Aj l d hd;have:=yd l;omega
theorem Df{a b:an}(h:a.kind=b.kind):bare a↔bare b:=by unfold bare;rw[h]
theorem Hx{ids:List av}{m:Int}:∀(ss:List aC),(∀s∈ss,s.id.seq≠0)->(∀i j (hi:i<ss.length) (hj:j<ss.length),ss[i].id=ss[j].id->i=j)->∀s∈ss,qt (gOf ids (ss.map λx=>⟨x.id,0,x.ty⟩)) s.id 0=some s.ty:=by
 intro ss hq hi s hs;unfold qt;obtain⟨k,hk,rfl⟩:=R8.1 hs;have hg:gOf ids (ss.map λx=>(⟨x.id,0,x.ty⟩:cg))=(ss.map λx=>(x.id,(0:Int),x.ty)).reverse:=by
  unfold gOf;rw[SP]
  congr 1
  refine TM λx hx=>?_;show(sg ids x.id,(0:Int),x.ty)=_;unfold sg;rw[J1 (hq x hx)]
 rw[hg];have:((ss.map λx=>(x.id,(0:Int),x.ty)).reverse.find? λx=>decide (x.1=ss[k].id/\x.2.1=0))=some (ss[k].id,0,ss[k].ty):=by
  rw[List.find?_eq_some_iff_getElem];refine⟨Q2,ss.length-1-k,Qc,?_,λj hj=>?_⟩
  all_goals grind
 rw[this];rfl
theorem G3(l:List Int):TyP (aK l):=by
 obtain⟨N,hN,hlk,hnm⟩:=dy l;have hb0:ja (aK l):=(ui l).mG hlk;have hget:∀d∈(aK l).aa,∃e∈aX l,d.ah=e.ah:=λd hd=>by obtain⟨e,he,hs⟩:=hlk.mem hd;exact⟨e,he,(bX hs).2.2.2.2.1⟩
 have hn0:=yd l;refine⟨λd hd hnb=>?_,λd hd=>hb0.mY hd,λd hd=>?_⟩
 .obtain⟨k,hk,rfl⟩:=R8.1 hd;obtain⟨e,T,T',ids,nx,⟨c,hc1,hc2,hc3,hc4,hc5,hT,hmk⟩,hTN,hlen,hnx,hnx2,hbody⟩:=hnm k hk hnb;obtain⟨d0,hd0,hsl⟩:=hget _ hd;obtain⟨m,hm0,hm1,hm2⟩:=Aj l d0 hd0;have hseq:=qJ l d0 hd0;rw[<-hsl]at hm1 hm2 hseq;generalize(aK l).aa[k]=d at hm1 hm2 hseq hbody hmk hnb;have hp:=hmk.cV;have hks:∀x∈e.post,0<=x/\x<ids.length:=λx hx=>by have:=hp.2 x hx;omega
  have hN':Nm (bE ids e.post nx) e.post (λq=>∃s∈d.ah,s.id=q):=by
   refine⟨λx y hx hy h=>G0 hks hp.1 Q0 hx hy h,?_⟩;rintro x hx _ ⟨s,hs,rfl⟩ h;obtain⟨j,hj,rfl⟩:=R8.1 hs;obtain⟨i,hi,rfl⟩:=R8.1 hx;rw[np hks hp.1 i hi,hm2 j hj]at h
   grind [uy]
  have hinj:∀i j (hi:i<d.ah.length) (hj:j<d.ah.length),d.ah[i].id=d.ah[j].id->i=j:=λi j hi hj h=>by
   rw[hm2 i hi,hm2 j hj]at h
   grind [uy]
  have hE:zU (bE ids e.post nx) e.post (λq=>∃s∈d.ah,s.id=q) (bR d) T:=by
   refine⟨λb hb=>?_,λb hb=>?_⟩ <;> obtain⟨s,hs,rfl⟩:=kA hb
   .grind
   .have:=Hx (ids:=bE ids e.post nx) (m:=0) d.ah hseq hinj s hs;show qt _ (sg _ s.id) 0=_;unfold sg;rw[J1 (hseq s hs)];exact this
  have hw:=hmk.wty (p:=aK l) (hc2.trans hlk.symm) hN' (λx hx=>hx) hE;rw[hbody];have hg:gOf (bE ids e.post nx) (bR d)=I3 d:=by
   unfold gOf bR I3;rw[SP]
   congr 1
   refine TM λx hx=>?_;show(sg _ x.id,(0:Int),x.ty)=_;unfold sg;rw[J1 (hseq x hx)]
  rw[<-hg];exact hw
 .obtain⟨e,he,hs⟩:=hget d hd;rw[hs];have:=few0 l e he;omega
def iV(a b:av):Bool:=decide (a.aH<b.aH\/a.aH=b.aH/\(a.seq<b.seq\/a.seq=b.seq/\a.index<b.index))
theorem nD{a b:av}:iV a b=true↔(a.aH<b.aH\/a.aH=b.aH/\(a.seq<b.seq\/a.seq=b.seq/\a.index<b.index)):=decide_eq_true_iff
theorem j8(a:av):iV a a=false:=by
 grind [iV,nD]
theorem ku{a b c:av}(h:iV a b=true)(k:iV b c=true):iV a c=true:=by rw[nD]at *;omega
theorem oR{a b:av}(h:iV a b=true):iV b a=false:=by
 grind [iV,nD]
theorem nE{a b:av}(h:iV a b=false)(k:iV b a=false):a=b:=by
 grind [nD,av.ext']
theorem uq{a b:av}(h:iV a b=true):a≠b:=λe=>by grind [j8]
theorem pP{a b c:av}(h:iV a b=false)(k:iV b c=false):iV a c=false:=by
 grind [iV,nD]
def iY(l:List av):Prop:=l.Pairwise λa b=>iV a b=true
theorem HL:∀{a b:List av},iY a->iY b->(∀x,x∈a↔x∈b)->a=b
 |[],[],_,_,_=>rfl
 |[],y::b,_,_,h=>by grind [RG]
 |x::a,[],_,_,h=>by grind [RG]
 |x::a,y::b,ha,hb,h=>by
  have a1:=Ur.1 ha;have b1:=Ur.1 hb;have e:x=y:=by
   grind [RG,oR]
  subst e;refine J4 (x::·) (HL a1.2 b1.2 λz=>⟨λhz=>?_,λhz=>?_⟩)
  all_goals grind [RM,j8]
def Dr(x:av)(s:List av×Bool)(y:av):List av×Bool :=
 let o:=if s.2=false/\iV y x=false then(s.1++[x],true) else s
 (if y=x then o.1 else o.1++[y],o.2)
def HH(l:List av)(x:av):List av:=let s:=l.foldl (Dr x) ([],false);if s.2=false then s.1++[x] else s.1
theorem xe{x:av}:∀{l:List av} {o:List av},(∀y∈l,iV x y=true)->l.foldl (Dr x) (o,true)=(o++l,true)
 |[],o,_=>by simp
 |y::l,o,h=>by
  have h1:=h y (RG ..);have h2:¬y=x:=λe=>by grind [j8]
  rw[XF];have e:Dr x (o,true) y=(o++[y],true):=by simp[Dr,h2]
  rw[e,xe λz hz=>h z (RM _ hz)];simp
theorem Kb{x:av}:∀{l:List av} {o:List av},iY l->(∀a∈o,iV a x=true/\∀b∈l,iV a b=true)->iY o ->
  iY (let s:=l.foldl (Dr x) (o,false);if s.2=false then s.1++[x] else s.1)/\∀z,z∈(let s:=l.foldl (Dr x) (o,false);if s.2=false then s.1++[x] else s.1)↔(z∈o\/z=x\/z∈l)
 |[],o,_,ho,hi=>by refine⟨?_,λz=>by simp⟩;simp only[List.foldl_nil,if_true];exact Ug.2 ⟨hi,Um ..,λa ha b hb=>by grind⟩
 |y::l,o,hl,ho,hi=>by
  have l1:=Ur.1 hl;rw[XF];cases hyx:iV y x with
  |true =>
   have hne:=uq hyx;have e:Dr x (o,false) y=(o++[y],false):=by simp[Dr,hyx,hne]
   rw[e]
   obtain⟨h1,h2⟩:=Kb (x:=x) (l:=l) (o:=o++[y]) l1.2 (λa ha=>by
    rcases RY.1 ha with ha|ha
    .exact⟨(ho a ha).1,λb hb=>(ho a ha).2 b (RM _ hb)⟩
    .rw[RZ.1 ha];exact⟨hyx,l1.1⟩) (Ug.2 ⟨hi,Um ..,λa ha b hb=>by grind⟩)
   refine⟨h1,λz=>(h2 z).trans ?_⟩;simp only[RY,RO,Sx,or_false];constructor
   .rintro((h|h)|h|h) <;> simp[h]
   .rintro(h|h|h|h) <;> simp[h]
  |false =>
   have hxo:iY (o++[x]):=Ug.2 ⟨hi,Um ..,λa ha b hb=>by grind⟩;by_cases hne:y=x
   .subst hne;have e:Dr y (o,false) y=(o++[y],true):=by simp[Dr,hyx]
    rw[e,xe l1.1];simp only[YO,if_false];refine⟨Ug.2 ⟨hxo,l1.2,λa ha b hb=>?_⟩,λz=>?_⟩
    .rcases RY.1 ha with ha|ha
     .exact(ho a ha).2 b (RM _ hb)
     .rw[RZ.1 ha];exact l1.1 b hb
    .simp only[RY,RO,Sx,or_false];constructor
     .rintro((h|h)|h) <;> simp[h]
     .rintro(h|h|h|h) <;> simp[h]
   .have hxy:iV x y=true:=by
     cases h:iV x y with
     |true=>rfl
     |false=>exact J3 (nE hyx h) hne
    have e:Dr x (o,false) y=(o++[x]++[y],true):=by simp[Dr,hyx,hne]
    rw[e,xe λz hz=>ku hxy (l1.1 z hz)];simp only[YO,if_false];refine⟨Ug.2 ⟨Ug.2 ⟨hxo,Um ..,λa ha b hb=>?_⟩,l1.2,λa ha b hb=>?_⟩,λz=>?_⟩
    .rw[RZ.1 hb];rcases RY.1 ha with ha|ha
     .exact(ho a ha).2 y (RG ..)
     .rw[RZ.1 ha];exact hxy
    .rcases RY.1 ha with ha|ha
     .rcases RY.1 ha with ha|ha
      .exact(ho a ha).2 b (RM _ hb)
      .rw[RZ.1 ha];exact ku hxy (l1.1 b hb)
     .rw[RZ.1 ha];exact l1.1 b hb
    .simp only[RY,RO,Sx,or_false];constructor
     .rintro(((h|h)|h)|h) <;> simp[h]
     .rintro(h|h|h|h) <;> simp[h]
theorem insR_ok{l:List av}{x:av}(h:iY l):iY (HH l x)/\∀z,z∈HH l x↔(z=x\/z∈l):=by have:=Kb (x:=x) (l:=l) (o:=[]) h (λ_ h=>by cases h) TZ;refine⟨this.1,λz=>(this.2 z).trans ?_⟩;simp
def j9(l:List av)(xs:List av):List av:=xs.foldl HH l
theorem la:∀{xs l:List av},iY l->iY (j9 l xs)/\∀z,z∈j9 l xs↔(z∈xs\/z∈l)
 |[],l,h=>⟨h,λz=>by simp[j9]⟩
 |x::xs,l,h=>by
  obtain⟨h1,h2⟩:=insR_ok (x:=x) h;obtain⟨h3,h4⟩:=la (xs:=xs) h1;refine⟨h3,λz=>(h4 z).trans ?_⟩
  grind
def j1(l:List av):List av:=l.mergeSort λx y=>!iV y x
def gU:List av->List av
 |[]=>[]
 |[x]=>[x]
 |x::y::l=>if x=y then gU (y::l) else x::gU (y::l)
theorem rN(l:List av):(j1 l).Pairwise (λa b=>iV b a=false)/\(j1 l).Perm l:=by
 refine⟨?_,List.mergeSort_perm l _⟩
 have:=List.pairwise_mergeSort (le:=λx y=>!iV y x) (λa b c h k=>by
  simp only[Bool.not_eq_true']at *;exact pP k h) (λa b=>by
  cases h:iV b a with
  |false=>simp
  |true=>simp[oR h]) l
 exact this.imp λh=>by grind
theorem CZ:∀{l:List av},l.Pairwise (λa b=>iV b a=false)->iY (gU l)/\∀z,z∈gU l↔z∈l
 |[],_=>⟨TZ,λ_=>Ul⟩
 |[x],_=>⟨Um ..,λ_=>Ul⟩
 |x::y::l,h=>by
  have h1:=Ur.1 h;obtain⟨h2,h3⟩:=CZ (l:=y::l) h1.2;unfold gU;by_cases e:x=y
  .grind
  .rw[J1 e];refine⟨Ur.2 ⟨λz hz=>?_,h2⟩,λz=>?_⟩
   all_goals grind [iV,nE,RG,Ur,pP]
theorem Ld{l m:List av}(h:∀z,z∈l↔z∈m):gU (j1 l)=j9 [] m:=by
 obtain⟨h1,h2⟩:=rN l;obtain⟨h3,h4⟩:=CZ h1;obtain⟨h5,h6⟩:=la (xs:=m) (l:=[]) TZ
 grind [HL]
theorem HK{l:List av}(f:av->Bool)(h:iY l):iY (l.filter f):=Y1 f h
end Xe
namespace Go.Proofs.YtmbboaapillefaaGreatDoor
open Xe Pm
abbrev dI(l:List av):D:=.sl l.length 3 (l.flatMap av.enc)
theorem qs{l:List av}{k:Nat}(hk:k<l.length){x:av}(h:x ∉ l.take k)(hx:l[k]≠x):x ∉ l.take (k+1):=by
 rw[RJ hk,RY,RZ]
 grind
theorem kh(l:List av)(x:av):D.sl (l.length+1) 3 (l.flatMap av.enc++(x.enc++[]))=dI (l++[x]):=by unfold dI;simp
theorem has_is(l:List av)(x:av)(hl:l.length<=1000000000000):IS s20 [[dI l],x.enc] [[vB (decide (x∈l))]]:=by
 refine w20.is ?_;unfold g20 dI;simp only[ai];refine bc l.length (λk=>[[.sl l.length 3 (l.flatMap av.enc)],[vI (k:Int)],x.enc]) (λk=>x ∉ l.take k) Q2 rfl λk next hi hI hn=>?_
 simp only[ai,aF];refine⟨λh=>?_,λh=>?_⟩
 .have hk:k<l.length:=Q0;rw[fl _ hk];simp only[ai,aF]
  grind [aZ,qs,J5,RQ]
 all_goals grind [Sl,J6]
abbrev kg(l:List ByteArray):D:=.sl l.length 1 (l.map bM)
structure eU where
 kind:Int
 n:Int
 ref:av
 type:Ty
 kids:List av
 aJ:List ByteArray
def eU.enc(x:eU):List D:=[aj x.kind,aj x.n]++(x.ref.enc++(x.type.enc++[dI x.kids,kg x.aJ]))
structure ao where
 id:av
 kind:Int
 name:ByteArray
 cZ:List av
 n:Int
 uw:av
 bm:Int
 aq:Ty
 body:av
 bF:List ByteArray
 type:Ty
 CC:Int
 node:eU
def ao.enc(x:ao):List D:=x.id.enc++([aj x.kind,bM x.name,dI x.cZ,aj x.n]++(x.uw.enc++([aj x.bm]++(x.aq.enc++(x.body.enc++([kg x.bF]++(x.type.enc++([aj x.CC]++x.node.enc))))))))
theorem eU.aP(x:eU):x.enc.length=12:=by simp[eU.enc,av.enc,Ty.aP]
theorem ao.aP(x:ao):x.enc.length=38:=by simp[ao.enc,av.enc,Ty.aP,eU.aP]
theorem iq(xs:List ao){k:Nat}(hk:k<xs.length):el (xs.flatMap ao.enc) 38 k=xs[k].enc:=dq ao.aP xs hk
theorem yz(l:List av)(hl:l.length<=1000000000000):IS Ea [[dI l],[dI l]] [[vB true]]:=by
 refine w136.is ?_;unfold g136 dI;simp only[ai,decide_true,SJ];refine bc l.length (λk=>[[.sl l.length 3 (l.flatMap av.enc)],[.sl l.length 3 (l.flatMap av.enc)],[vI (l.length:Int)],[vI (k:Int)]]) (λ_=>True) trivial rfl λk next hi _ hn=>?_
 simp only[ai,aF];refine⟨λh=>?_,λh=>trivial⟩;have hk:k<l.length:=Q0;rw[fl _ hk];simp only[ai,aF]
 grind [aZ]
theorem tk{α:Type}(f:α->D)(l:List α){k:Nat}(hk:k<l.length):cell (el (l.map f) 1 k) 0=f l[k]:=by
 unfold cell el
 grind
theorem w5(l:List ByteArray)(hl:l.length<=1000000000000):IS Ls [[kg l],[kg l]] [[vB true]]:=by
 refine w193.is ?_;unfold g193 kg;simp only[ai,decide_true,SJ];refine bc l.length (λk=>[[.sl l.length 1 (l.map bM)],[.sl l.length 1 (l.map bM)],[vI (l.length:Int)],[vI (k:Int)]]) (λ_=>True) trivial rfl λk next hi _ hn=>?_
 simp only[ai,aF];refine⟨λh=>?_,λh=>trivial⟩;have hk:k<l.length:=Q0;have hc:=tk bM l hk;simp only[hc];exact⟨Q0,Q0,λ_=>⟨Q4,hn hk trivial⟩,λh=>J3 Q2 h⟩
theorem GA{l:List Ty}(hl:l.length<=1000000000000)(h0:∀t∈l,IS zI [t.enc,t.enc] [[vB true]]):IS s236 [[.sl l.length 5 (l.flatMap Ty.enc)],[.sl l.length 5 (l.flatMap Ty.enc)]] [[vB true]]:=by
 refine w236.is ?_;unfold g236;simp only[ai,decide_true,SJ];refine bc l.length (λk=>[[.sl l.length 5 (l.flatMap Ty.enc)],[.sl l.length 5 (l.flatMap Ty.enc)],[vI (l.length:Int)],[vI (k:Int)]]) (λ_=>True) trivial rfl λk next hi _ hn=>?_
 simp only[ai];refine⟨λh=>?_,λh=>trivial⟩;have hk:k<l.length:=Q0;rw[dq Ty.aP _ hk];refine⟨Q0,Q0,ab (h0 _ (RQ hk)) ?_⟩;simp only[ai,SJ]
 grind [aZ]
theorem pB:∀(n:Nat) (t:Ty),t.size<=n->t.size<=1000000000000->IS zI [t.enc,t.enc] [[vB true]]
 |0,.mk a b l,h,_=>by rw[Ty.size]at h;omega
 |n+1,.mk a b l,h,hb=>by rw[Ty.size]at h hb;have hl:=Ty.mw l;have hk:=GA (l:=l) Q0 λt ht=>pB n t (by have:=Ty.jC ht;omega) (by have:=Ty.jC ht;omega);refine w192.is ?_;unfold g192;rw[Ty.aD];simp only[ai,aF,Ty.kind,Ty.df,Ty.kids,forall_const,not_true_eq_false,false_implies,and_true];refine ab hk ?_;simp only[ai]
structure eU.Fit(x:eU):Prop where
 type:x.type.size<=1000000000000
 kids:x.kids.length<=1000000000000
 aJ:x.aJ.length<=1000000000000
structure ao.Fit(x:ao):Prop where
 cZ:x.cZ.length<=1000000000000
 aq:x.aq.size<=1000000000000
 bF:x.bF.length<=1000000000000
 type:x.type.size<=1000000000000
 node:x.node.Fit
theorem Mg{x:eU}(h:x.Fit):IS s194 [x.enc,x.enc] [[vB true]]:=by
 refine w194.is ?_;unfold g194;have h1:sub x.enc 5 5=x.type.enc:=by unfold eU.enc sub av.enc;simp[Ty.aP]
 have h2:cell x.enc 10=dI x.kids:=by unfold eU.enc cell av.enc;rw[Ty.aD];rfl
 have h3:cell x.enc 11=kg x.aJ:=by unfold eU.enc cell av.enc;rw[Ty.aD];rfl
 have h4:cell x.enc 0=aj x.kind/\cell x.enc 1=aj x.n/\sub x.enc 2 3=x.ref.enc:=⟨rfl,rfl,by unfold eU.enc sub av.enc;simp⟩;simp only[ai,aF,h1,h2,h3,h4,forall_const,not_true_eq_false,false_implies,and_true];refine ab (pB _ _ (Sc _) h.type) ?_;simp only[ai];refine ab (yz _ h.kids) ?_;simp only[ai];refine ab (w5 _ h.aJ) ?_;simp only[ai]
theorem LR{x:ao}(h:x.Fit):IS N9 [x.enc,x.enc] [[vB true]]:=by
 refine w141.is ?_;unfold g141;have e0:sub x.enc 0 3=x.id.enc:=rfl;have e1:cell x.enc 3=aj x.kind/\cell x.enc 4=bM x.name/\cell x.enc 5=dI x.cZ/\cell x.enc 6=aj x.n/\sub x.enc 7 3=x.uw.enc/\cell x.enc 10=aj x.bm:=⟨rfl,rfl,rfl,rfl,rfl,rfl⟩;have e2:sub x.enc 11 5=x.aq.enc:=by unfold ao.enc sub av.enc;simp[Ty.aP]
 have e3:sub x.enc 16 3=x.body.enc:=by unfold ao.enc sub av.enc;simp[Ty.aD]
 have e4:cell x.enc 19=kg x.bF:=by unfold ao.enc cell av.enc;simp[Ty.aD]
 have e5:sub x.enc 20 5=x.type.enc:=by unfold ao.enc sub av.enc;simp[Ty.aD]
 have e6:cell x.enc 25=aj x.CC:=by unfold ao.enc cell av.enc;simp[Ty.aD]
 have e7:sub x.enc 26 12=x.node.enc:=by unfold ao.enc sub av.enc;simp[Ty.aD,Su (Nat.le_of_eq x.node.aP)]
 simp only[ai,aF,e0,e1,e2,e3,e4,e5,e6,e7,forall_const,not_true_eq_false,false_implies,and_true];unfold bM;simp only[ai,forall_const,not_true_eq_false,false_implies,and_true];refine ab (yz _ h.cZ) ?_;simp only[ai];refine ab (pB _ _ (Sc _) h.aq) ?_;simp only[ai];refine ab (w5 _ h.bF) ?_;simp only[ai];refine ab (pB _ _ (Sc _) h.type) ?_;simp only[ai];refine ab (Mg h.node) ?_;simp only[ai]
theorem mod_self{x:aO}(h:x.aa.length<=1000000000000):IS Od [x.enc,x.enc] [[vB true]]:=by refine w135.is ?_;unfold g135;have e0:sub x.enc 0 3=x.id.enc:=rfl;have e1:cell x.enc 5=dI x.aa:=rfl;simp only[ai,aF,e0,e1,forall_const,not_true_eq_false,false_implies,and_true];refine ab (yz _ h) ?_;simp only[ai]
theorem Lh(x:aC):IS Oc [x.enc,x.enc] [[vB true]]:=by refine w137.is ?_;unfold g137;have e0:sub x.enc 0 3=x.id.enc:=rfl;simp only[ai,aF,e0,and_true,decide_true]
theorem G8(l:List ao)(hl:l.length<=1000000000000)(h0:∀x∈l,IS N9 [x.enc,x.enc] [[vB true]]):IS s140 [[.sl l.length 38 (l.flatMap ao.enc)],[.sl l.length 38 (l.flatMap ao.enc)]] [[vB true]]:=by
 refine w140.is ?_;unfold g140;simp only[ai,decide_true,SJ];refine bc l.length (λk=>[[.sl l.length 38 (l.flatMap ao.enc)],[.sl l.length 38 (l.flatMap ao.enc)],[vI (l.length:Int)],[vI (k:Int)]]) (λ_=>True) trivial rfl λk next hi _ hn=>?_
 simp only[ai];refine⟨λh=>?_,λh=>trivial⟩;have hk:k<l.length:=Q0;rw[iq _ hk];refine⟨Q0,Q0,ab (h0 _ (RQ hk)) ?_⟩;simp only[ai,SJ]
 grind [aZ]
theorem Mn(l:List aO)(hl:l.length<=1000000000000)(h0:∀x∈l,IS Od [x.enc,x.enc] [[vB true]]):IS s142 [[.sl l.length 6 (l.flatMap aO.enc)],[.sl l.length 6 (l.flatMap aO.enc)]] [[vB true]]:=by
 refine w142.is ?_;unfold g142;simp only[ai,decide_true,SJ];refine bc l.length (λk=>[[.sl l.length 6 (l.flatMap aO.enc)],[.sl l.length 6 (l.flatMap aO.enc)],[vI (l.length:Int)],[vI (k:Int)]]) (λ_=>True) trivial rfl λk next hi _ hn=>?_
 simp only[ai];refine⟨λh=>?_,λh=>trivial⟩;have hk:k<l.length:=Q0;rw[Bg _ hk];refine⟨Q0,Q0,ab (h0 _ (RQ hk)) ?_⟩;simp only[ai,SJ]
 grind [aZ]
theorem GH(l:List aC)(hl:l.length<=1000000000000)(h0:∀x∈l,IS Oc [x.enc,x.enc] [[vB true]]):IS s139 [[.sl l.length 11 (l.flatMap aC.enc)],[.sl l.length 11 (l.flatMap aC.enc)]] [[vB true]]:=by
 refine w139.is ?_;unfold g139;simp only[ai,decide_true,SJ];refine bc l.length (λk=>[[.sl l.length 11 (l.flatMap aC.enc)],[.sl l.length 11 (l.flatMap aC.enc)],[vI (l.length:Int)],[vI (k:Int)]]) (λ_=>True) trivial rfl λk next hi _ hn=>?_
 simp only[ai];refine⟨λh=>?_,λh=>trivial⟩;have hk:k<l.length:=Q0;rw[mN _ hk];refine⟨Q0,Q0,ab (h0 _ (RQ hk)) ?_⟩;simp only[ai,SJ]
 grind [aZ]
theorem QM{x:an}(h:x.ah.length<=1000000000000):IS Oa [x.enc,x.enc] [[vB true]]:=by refine w138.is ?_;unfold g138;have e0:sub x.enc 0 3=x.id.enc:=rfl;have e1:cell x.enc 8=.sl x.ah.length 11 (x.ah.flatMap aC.enc):=rfl;simp only[ai,aF,e0,e1,forall_const,not_true_eq_false,false_implies,and_true];refine ab (GH _ h λx _=>Lh x) ?_;simp only[ai]
theorem Nb(l:List an)(hl:l.length<=1000000000000)(h0:∀x∈l,IS Oa [x.enc,x.enc] [[vB true]]):IS s143 [[.sl l.length 31 (l.flatMap an.enc)],[.sl l.length 31 (l.flatMap an.enc)]] [[vB true]]:=by
 refine w143.is ?_;unfold g143;simp only[ai,decide_true,SJ];refine bc l.length (λk=>[[.sl l.length 31 (l.flatMap an.enc)],[.sl l.length 31 (l.flatMap an.enc)],[vI (l.length:Int)],[vI (k:Int)]]) (λ_=>True) trivial rfl λk next hi _ hn=>?_
 simp only[ai];refine⟨λh=>?_,λh=>trivial⟩;have hk:k<l.length:=Q0;rw[gE _ hk];refine⟨Q0,Q0,ab (h0 _ (RQ hk)) ?_⟩;simp only[ai,SJ]
 grind [aZ]
section
variable {α:Type} {enc:α->List D} {sz:Nat}
theorem lh(he:∀x,(enc x).length=sz):∀(R:List α) (i:Nat),(R.flatMap enc).take (i*sz)=(R.take i).flatMap enc
 |[],i=>by simp
 |x::R,0=>by simp
 |x::R,i+1=>by
  rw[RT,SO,RT,<-lh he R i,Vg,he,Su (by grind),show(i+1)*sz-sz=i*sz by grind]
theorem rm(he:∀x,(enc x).length=sz):∀(R:List α) (i:Nat),(R.flatMap enc).drop (i*sz)=(R.drop i).flatMap enc
 |[],i=>by simp
 |x::R,0=>by simp
 |x::R,i+1=>by rw[RT,SV,<-rm he R i,WR,he,List.drop_of_length_le (by grind),Sv,show(i+1)*sz-sz=i*sz by grind]
theorem od(he:∀x,(enc x).length=sz)(R:List α){i:Nat}(hi:i<R.length)(x:α):cB (R.flatMap enc) (i*sz) (enc x)=(R.set i x).flatMap enc:=by unfold cB;rw[lh he,he,show i*sz+sz=(i+1)*sz by grind,rm he,Xg,J2 hi];simp
end
structure gL:Prop where
 ids:∀l:List av,l.length<=1000000000000->IS s85 [[dI l]] [[dI l]]
 txt:∀l:List ByteArray,l.length<=1000000000000->IS s87 [[kg l]] [[kg l]]
 typ:∀l:List Ty,l.length<=1000000000000->IS s175 [[.sl l.length 5 (l.flatMap Ty.enc)]] [[.sl l.length 5 (l.flatMap Ty.enc)]]
abbrev tyC(t:Ty):List D:=[aj t.kind,aj t.df.aH,aj t.df.seq,aj t.df.index]
abbrev Dq(t:Ty):D:=.sl t.kids.length 5 (t.kids.flatMap Ty.enc)
theorem jk(C:gL):∀(n:Nat) (t:Ty),t.size<=n->t.size<=1000000000000->IS Jd [t.enc] [tyC t,[Dq t]]
 |0,.mk a b l,h,_=>by rw[Ty.size]at h;omega
 |n+1,.mk a b l,h,hb=>by
  rw[Ty.size]at h hb;have hl:=Ty.mw l;refine w86.is ?_;unfold g86;rw[Ty.aD];simp only[ai,Ty.kind,Ty.df,Ty.kids];refine ab (C.typ l Q0) ?_;simp only[ai];refine bc l.length (λk=>[[vI (l.length:Int)],[vI (k:Int)],[aj a,aj b.aH,aj b.seq,aj b.index],[vI 0,vI 0,vI 0,vI 0,.sl 0 5 []],[.sl l.length 5 (l.flatMap Ty.enc)]]) (λ_=>True) trivial rfl λk next hi _ hn=>?_
  simp only[ai];refine⟨λh2=>?_,λh2=>?_⟩
  .have hk:k<l.length:=Q0;have hm:=RQ hk;rw[dq Ty.aP _ hk];have hsz:=Ty.jC hm;refine⟨Q0,ab (jk C n l[k] Q0 Q0) ?_⟩;simp only[ai];have hu:cB (l.flatMap Ty.enc) (k*5+0) ((tyC l[k])++[Dq l[k]])=l.flatMap Ty.enc:=by
    have e:(tyC l[k])++[Dq l[k]]=(l[k]).enc:=by rw[Ty.aD];rfl
    rw[e,S2,od Ty.aP _ hk,List.set_getElem_self]
   grind [aZ]
  .rfl
end Go.Proofs.YtmbboaapillefaaGreatDoor
namespace Xe
open Go
theorem stI_cb(x:av)(s:List av×Bool)(y:av):(Dr x s y).1.length+(if(Dr x s y).2=false then 1 else 0)<=s.1.length+(if s.2=false then 1 else 0)+1:=by
 grind [Dr]
theorem insR_le(l:List av)(x:av):(HH l x).length<=l.length+1:=by
 have:∀(l:List av) (s:List av×Bool),(l.foldl (Dr x) s).1.length+(if(l.foldl (Dr x) s).2=false then 1 else 0)<=s.1.length+(if s.2=false then 1 else 0)+l.length:=by
  intro l;induction l with
  |nil=>intro s;exact Sc _
  |cons y l ih=>intro s;rw[XF];have h1:=ih (Dr x s y);have h2:=stI_cb x s y;simp only[RU];omega
 grind [HH]
theorem rk:∀(xs l:List av),(j9 l xs).length<=l.length+xs.length
 |[],l=>by simp[j9]
 |x::xs,l=>by
  have h1:=insR_le l x;have h2:=rk xs (HH l x)
  grind [j9,HH]
mutual
def cJ:Ty->List av
 |.mk k d l=>(if k=3 then[d] else[])++cW l
def cW:List Ty->List av
 |[]=>[]
 |t::ts=>cJ t++cW ts
end
theorem AK(t:Ty):cJ t=(if t.kind=3 then[t.df] else[])++cW t.kids:=by cases t;rw[cJ];rfl
theorem vg:∀(l m:List Ty),cW (l++m)=cW l++cW m
 |[],m=>rfl
 |t::l,m=>by rw[SA,cW,vg l m,cW,R9]
theorem Cy{l:List Ty}{k:Nat}(h:k<l.length):cW (l.take (k+1))=cW (l.take k)++cJ l[k]:=by rw[RJ h,vg];simp[cW]
mutual
theorem fc:∀t:Ty,(cJ t).length<=t.size
 |.mk k d l=>by
  have:=oM l
  grind [cJ,RS,Ty.size]
theorem oM:∀l:List Ty,(cW l).length<=Ty.ba l
 |[]=>by simp[cW]
 |t::l=>by have:=fc t;have:=oM l;rw[cW,RS,Ty.ba];omega
end
theorem Cw(l:List Ty)(k:Nat):(cW (l.take k)).length<=Ty.ba l:=by
 refine TQ (oM _) ?_;induction l generalizing k with
 |nil=>simp
 |cons t l ih =>
  cases k with
  |zero=>simp[Ty.ba]
  |succ k=>have:=ih k;simp only[SO,Ty.ba];omega
theorem Ty.NY(t:Ty):t.size=1+Ty.ba t.kids:=by cases t;rw[Ty.size];rfl
theorem Ty.AO:∀{l:List Ty} {t:Ty},t∈l->t.size<=Ty.ba l
 |x::xs,t,h=>by
  rw[Ty.ba];rcases RO.1 h with rfl|h
  .omega
  .have:=Ty.AO h;omega
def eE(k:Int):Prop:=k=3\/k=7\/k=8\/k=9\/k=10
instance (k:Int):Decidable (eE k):=by unfold eE;exact inferInstance
def Ch(e:Ex):List av:=if eE e.kind then[e.ref] else[]
def ON(e:Ex):List av:=if e.kind=11 then cJ e.ty else[]
def oH(e:Ex):List av:=Ch e++ON e
mutual
def jU:Ex->List av
 |.mk i k n r t l ns=>oH (.mk i k n r t l ns)++dm l
def dm:List Ex->List av
 |[]=>[]
 |e::l=>jU e++dm l
end
mutual
def bV:Ex->List Ex
 |.mk i k n r t l ns=>aT l++[.mk i k n r t l ns]
def aT:List Ex->List Ex
 |[]=>[]
 |e::l=>bV e++aT l
end
mutual
def Ex.wt:Ex->Nat
 |.mk _ _ _ _ t l ns=>1+t.size+ns.length+Ex.fi l
def Ex.fi:List Ex->Nat
 |[]=>0
 |e::l=>Ex.wt e+Ex.fi l
end
theorem Mm(e:Ex):jU e=oH e++dm e.kids:=by cases e;rw[jU];rfl
theorem jw(e:Ex):bV e=aT e.kids++[e]:=by cases e;rw[bV];rfl
theorem Ex.cS(e:Ex):e.wt=1+e.ty.size+e.aJ.length+Ex.fi e.kids:=by cases e;rw[Ex.wt];rfl
theorem vf:∀(l m:List Ex),dm (l++m)=dm l++dm m
 |[],m=>rfl
 |t::l,m=>by rw[SA,dm,vf l m,dm,R9]
theorem qb:∀(l m:List Ex),aT (l++m)=aT l++aT m
 |[],m=>rfl
 |t::l,m=>by rw[SA,aT,qb l m,aT,R9]
theorem Cv{l:List Ex}{k:Nat}(h:k<l.length):dm (l.take (k+1))=dm (l.take k)++jU l[k]:=by rw[RJ h,vf];simp[dm]
theorem Iu{l:List Ex}{k:Nat}(h:k<l.length):aT (l.take (k+1))=aT (l.take k)++bV l[k]:=by rw[RJ h,qb];simp[aT]
theorem Ex.rD:∀(l m:List Ex),Ex.fi (l++m)=Ex.fi l+Ex.fi m
 |[],m=>by simp[Ex.fi]
 |t::l,m=>by have:=Ex.rD l m;simp only[SA,Ex.fi];omega
theorem Ex.wQ(l:List Ex)(k:Nat):Ex.fi (l.take k)<=Ex.fi l:=by
 induction l generalizing k with
 |nil=>simp
 |cons t l ih =>
  cases k with
  |zero=>simp[Ex.fi]
  |succ k=>have:=ih k;simp only[SO,Ex.fi];omega
theorem Ex.wR{l:List Ex}{k:Nat}(h:k<l.length):Ex.fi (l.take (k+1))=Ex.fi (l.take k)+l[k].wt:=by rw[RJ h,Ex.rD];simp[Ex.fi]
theorem Ex.wU:∀{l:List Ex} {t:Ex},t∈l->t.wt<=Ex.fi l
 |x::xs,t,h=>by
  rw[Ex.fi];rcases RO.1 h with rfl|h
  .omega
  .have:=Ex.wU h;omega
theorem xZ(e:Ex):(oH e).length<=1+e.ty.size:=by
 grind [oH,Ch,ON,fc]
mutual
theorem yh:∀e:Ex,(jU e).length<=e.wt
 |.mk i k n r t l ns=>by have:=oL l;have h:(oH (.mk i k n r t l ns)).length<=1+t.size:=xZ _;rw[jU,RS,Ex.wt];omega
theorem oL:∀l:List Ex,(dm l).length<=Ex.fi l
 |[]=>by simp[dm]
 |e::l=>by have:=yh e;have:=oL l;rw[dm,RS,Ex.fi];omega
end
mutual
theorem ph:∀e:Ex,(bV e).length<=e.wt
 |.mk i k n r t l ns=>by
  have:=uM l
  grind [bV,RS,Ex.wt]
theorem uM:∀l:List Ex,(aT l).length<=Ex.fi l
 |[]=>by simp[aT]
 |e::l=>by have:=ph e;have:=uM l;rw[aT,RS,Ex.fi];omega
end
mutual
theorem Gj:∀e:Ex,((bV e).flatMap oH).length<=e.wt
 |.mk i k n r t l ns=>by
  have:=BH l;have h:(oH (.mk i k n r t l ns)).length<=1+t.size:=xZ _;rw[bV,Sd,RS,Ex.wt]
  grind
theorem BH:∀l:List Ex,((aT l).flatMap oH).length<=Ex.fi l
 |[]=>by simp[aT]
 |e::l=>by have:=Gj e;have:=BH l;rw[aT,Sd,RS,Ex.fi];omega
end
mutual
theorem KM:∀e:Ex,∀x∈bV e,x.wt<=e.wt
 |.mk i k n r t l ns,x,h=>by
  have:=Gi l;rw[bV]at h;rcases RY.1 h with h|h
  .have:=this x h;rw[Ex.cS (.mk i k n r t l ns)];show x.wt<=1+t.size+ns.length+Ex.fi l;omega
  all_goals grind
theorem Gi:∀l:List Ex,∀x∈aT l,x.wt<=Ex.fi l
 |[],x,h=>by cases h
 |e::l,x,h=>by
  rw[aT]at h;rw[Ex.fi];rcases RY.1 h with h|h
  .have:=KM e x h;omega
  .have:=Gi l x h;omega
end
mutual
theorem AJ:∀(e:Ex) (z:av),z∈jU e↔z∈(bV e).flatMap oH
 |.mk i k n r t l ns,z=>by
  rw[jU,bV,Sd,RY,RY,yg l z]
  grind
theorem yg:∀(l:List Ex) (z:av),z∈dm l↔z∈(aT l).flatMap oH
 |[],z=>by simp[dm,aT]
 |e::l,z=>by rw[dm,aT,Sd,RY,RY,AJ e z,yg l z]
end
def iR(k:Int):Prop:=k=2\/k=3\/k=4\/k=5
instance (k:Int):Decidable (iR k):=by unfold iR;exact inferInstance
def lL(l:List aC):List av:=l.flatMap λs=>cJ s.ty
def GY(d:an):List av:=cJ d.aq++lL d.ah++if iR d.kind then jU d.body else[]
def vJ(d:an):List av:=cJ d.aq++lL d.ah++if iR d.kind then(bV d.body).flatMap oH else[]
def kO:List aC->Nat
 |[]=>0
 |s::l=>1+s.ty.size+kO l
def an.wt(d:an):Nat:=d.aq.size+kO d.ah+d.body.wt
theorem Al:∀l:List aC,l.length<=kO l
 |[]=>Sc _
 |s::l=>by have:=Al l;rw[kO,RU];omega
theorem Ak:∀{l:List aC} {s:aC},s∈l->s.ty.size<=kO l
 |x::l,s,h=>by
  rw[kO];rcases RO.1 h with rfl|h
  .omega
  .have:=Ak h;omega
theorem pH:∀l:List aC,(lL l).length<=kO l
 |[]=>Sc _
 |s::l=>by
  have h1:=pH l
  grind [fc,lL,cJ,RS,kO]
theorem GK{l:List aC}{k:Nat}(h:k<l.length):lL (l.take (k+1))=lL (l.take k)++cJ l[k].ty:=by unfold lL;rw[RJ h,Sd];simp
theorem GJ(l:List aC)(k:Nat):(lL (l.take k)).length<=kO l:=by
 refine TQ (pH _) ?_;induction l generalizing k with
 |nil=>simp
 |cons t l ih =>
  cases k with
  |zero=>simp[kO]
  |succ k=>have:=ih k;simp only[SO,kO];omega
theorem Ov(d:an):(GY d).length<=d.wt:=by
 grind [GY,an.wt,fc,pH,yh]
theorem Ox(d:an):(vJ d).length<=d.wt:=by
 grind [vJ,an.wt,fc,pH,Gj]
theorem Ou(d:an)(z:av):z∈GY d↔z∈vJ d:=by
 unfold GY vJ;rw[RY,RY (t:=if iR d.kind then(bV d.body).flatMap oH else[])];refine or_congr Ul ?_;split
 .exact AJ _ _
 .exact Ul
def dA(p:au)(x:av):Bool:=decide (cK p x)
def aR(p:au)(i:av):List av:=if cK p i then(j9 [] (vJ (al p i))).filter (dA p) else[]
theorem NF{p:au}{i:av}(h:cK p i):gU (j1 ((GY (al p i)).filter (dA p)))=aR p i:=by
 unfold aR;rw[J2 h];obtain⟨h1,h2⟩:=rN ((GY (al p i)).filter (dA p));obtain⟨h3,h4⟩:=CZ h1;obtain⟨h5,h6⟩:=la (xs:=vJ (al p i)) (l:=[]) TZ
 grind [HL,HK,Ou]
theorem tx(p:au)(i:av):(aR p i).length<=(al p i).wt:=by
 grind [aR,TQ,UK,rk,Ox]
def iJ(l m:List av):Bool:=decide (∀x∈l,x∈m)
def lj(p:au)(out left:List av):Option Nat:=left.findIdx? λx=>iJ (aR p x) out
def jS(p:au):Nat->List av->List av->List av×List av
 |0,out,left=>(out,left)
 |n+1,out,left=>match lj p out left with
  |none=>(out,left)
  |some k=>jS p n (out++[left.getD k default]) (left.eraseIdx k)
theorem Fw{p:au}{out left:List av}{k:Nat}(h:lj p out left=some k):∃hk:k<left.length,iJ (aR p left[k]) out=true/\∀j (hj:j<k),iJ (aR p (left[j]'Q0)) out=false:=by
 grind [lj,U3]
theorem MY{p:au}{out left:List av}{k:Nat}(hk:k<left.length)(h1:iJ (aR p left[k]) out=true)(h2:∀j (hj:j<k),iJ (aR p (left[j]'Q0)) out=false):lj p out left=some k:=by
 unfold lj;rw[U3]
 grind
theorem Fx{p:au}{out left:List av}(h:∀j (hj:j<left.length),iJ (aR p left[j]) out=false):lj p out left=none:=by
 grind [lj,List.findIdx?_eq_none_iff,R8]
theorem EC{p:au}{n:Nat}{out left:List av}(h:lj p out left=none):jS p n out left=(out,left):=by
 cases n with
 |zero=>rfl
 |succ n=>rw[jS,h]
end Xe
namespace Go.Proofs.YtmbboaapillefaaGreatDoor
open Xe Pm
theorem Ex.mV:∀l:List Ex,l.length<=Ex.fi l
 |[]=>by grind
 |e::l=>by
  have:=Ex.mV l
  grind [Ex.cS,Ex.fi,RU]
def iP(e:Ex):eU:=⟨e.kind,e.n,e.ref,e.ty,e.kids.map Ex.id,e.aJ⟩
abbrev exCn(e:Ex):List D:=[aj e.kind,aj e.n,aj e.ref.aH,aj e.ref.seq,aj e.ref.index,aj e.ty.kind,aj e.ty.df.aH,aj e.ty.df.seq,aj e.ty.df.index]
theorem H4(C:gL)(e:Ex)(hw:e.wt<=1000000000000):IS s91 [e.enc] [exCn e,[Dq e.ty],[dI (e.kids.map Ex.id)],[kg e.aJ]]:=by
 have h1:=Ex.cS e;have h2:=Ex.mV e.kids;refine w91.is ?_;unfold g91;have e1:sub e.enc 8 5=e.ty.enc:=by rw[Ex.aD,Ty.aD];rfl
 have e2:cell e.enc 14=kg e.aJ:=by rw[Ex.aD];rfl
 have e3:cell e.enc 13=.sl e.kids.length 15 (e.kids.flatMap Ex.enc):=by rw[Ex.aD];rfl
 have e4:sub e.enc 5 3=e.ref.enc:=by rw[Ex.aD];rfl
 have e5:cell e.enc 3=aj e.kind/\cell e.enc 4=aj e.n:=by rw[Ex.aD];exact⟨rfl,rfl⟩
 simp only[ai,aF,e1,e2,e3,e4,e5];refine ab (jk C _ _ (Sc _) Q0) ?_;simp only[ai];refine ab (C.txt _ Q0) ?_;simp only[ai];refine bc e.kids.length (λk=>[[.sl e.kids.length 15 (e.kids.flatMap Ex.enc)],[vI (e.kids.length:Int)],[vI (k:Int)],[vI 0,vI 0,vI 0,vI 0,vI 0,vI 0,vI 0,vI 0,vI 0,.sl 0 5 [],.sl 0 3 [],.sl 0 1 []],exCn e,[Dq e.ty],[dI ((e.kids.take k).map Ex.id)],[kg e.aJ]]) (λ_=>True) trivial rfl λk next hi _ hn=>?_
 have hln:((e.kids.take k).map Ex.id).length=k:=by grind
 simp only[ai];refine⟨λh=>?_,λh=>?_⟩
 .have hk:k<e.kids.length:=Q0;rw[vq _ hk];refine⟨Q0,Qa,Q4,?_⟩;have h3:=hn hk trivial;have e6:sub (e.kids[k]).enc 0 3=(e.kids[k]).id.enc:=by rw[Ex.aD];rfl
  grind [RJ,kh]
 all_goals grind
abbrev qg:av:=⟨0,0,0⟩
abbrev DA:Ty:=.mk 0 qg []
abbrev Cp:eU:=⟨0,0,qg,DA,[],[]⟩
abbrev tx0:ByteArray:=Se #[]
abbrev dP(l:List ao):D:=.sl l.length 38 (l.flatMap ao.enc)
def jF(e:Ex):ao:=⟨e.id,4,tx0,[],0,qg,0,DA,qg,[],DA,0,iP e⟩
theorem p6(l:List ao)(x:ao):D.sl (l.length+1) 38 (l.flatMap ao.enc++(x.enc))=dP (l++[x]):=by unfold dP;simp
theorem KU(C:gL)(e:Ex)(l:List ao)(hw:e.wt<=1000000000000)(hl:l.length<=300000000000):IS s90 [e.enc,[dP l]] [[dP (l++[jF e])]]:=by
 refine w90.is ?_;unfold g90;have e2:sub e.enc 0 3=e.id.enc:=by rw[Ex.aD];rfl
 simp only[ai,aF,e2];refine ab (H4 C e Q0) ?_;simp only[ai];refine⟨Qa,?_⟩;rw[<-p6];have e1:(jF e).enc=e.id.enc++(vI 4::D.v (.string (Se #[]))::.sl 0 3 []::vI 0::vI 0::vI 0::vI 0::vI 0::vI 0::vI 0::vI 0::vI 0::.sl 0 5 []::vI 0::vI 0::vI 0::.sl 0 1 []::vI 0::vI 0::vI 0::vI 0::.sl 0 5 []::vI 0::(exCn e++[Dq e.ty,dI (e.kids.map Ex.id),kg e.aJ])):=by unfold jF ao.enc iP eU.enc;rw[Ty.aD,Ty.aD];rfl
 rw[e1];rfl
theorem Ex.zX:∀(l:List Ex) (k:Nat),Ex.fi (l.take k)+Ex.fi (l.drop k)=Ex.fi l
 |[],k=>by simp[Ex.fi]
 |e::l,0=>by simp[Ex.fi]
 |e::l,k+1=>by rw[SO,SV,Ex.fi,Ex.fi,<-Ex.zX l k];omega
theorem Dv(C:gL):∀(n:Nat) (e:Ex) (l:List ao),e.wt<=n->e.wt+l.length<=300000000000->IS s89 [e.enc,[dP l]] [[dP (l++(bV e).map jF)]]
 |0,e,l,h,_=>by have:=Ex.cS e;omega
 |n+1,e,l,h,hw=>by
  have h1:=Ex.cS e;have h2:=Ex.mV e.kids;refine w89.is ?_;unfold g89;have e3:cell e.enc 13=.sl e.kids.length 15 (e.kids.flatMap Ex.enc):=by rw[Ex.aD];rfl
  simp only[ai,e3];refine bc e.kids.length (λk=>[[.sl e.kids.length 15 (e.kids.flatMap Ex.enc)],[vI (e.kids.length:Int)],[vI (k:Int)],e.enc,[dP (l++(aT (e.kids.take k)).map jF)]]) (λ_=>True) trivial (by simp[aT]) λk next hi _ hn=>?_
  have hle:(aT (e.kids.take k)).length+Ex.fi (e.kids.drop k)<=Ex.fi e.kids:=by
   grind [uM,Ex.zX]
  simp only[ai];refine⟨λh=>?_,λh=>?_⟩
  .have hk:k<e.kids.length:=Q0;rw[vq _ hk];have h5:Ex.fi (e.kids.drop k)=(e.kids[k]).wt+Ex.fi (e.kids.drop (k+1)):=by rw[List.drop_eq_getElem_cons hk,Ex.fi]
   refine⟨Q0,ab (Dv C n e.kids[k] _ Q0 (by grind)) ?_⟩;simp only[ai]
   grind [Iu,R9,aZ]
  .obtain rfl:k=e.kids.length:=Q0;rw[Sl]at hle ⊢;refine ab (KU C e _ Q0 (by grind)) ?_;simp only[ai];rw[jw,Si,R9];rfl
theorem Pl(a:Int):∃b:Bool,IS N7 [[vI a]] [[vB b]]:=by
 have key:g158 (j3 RH) [[vI a]] (λr=>∃b:Bool,r=[[vB b]]):=by unfold g158;simp only[ai];exact⟨_,rfl⟩
 obtain⟨r,⟨b,rfl⟩,h⟩:=w158.some key (by rintro r ⟨b,rfl⟩;exact trivial);exact⟨b,h⟩
theorem yW(a b:Int):∃z:Int,IS N4 [[vI a],[vI b]] [[vI z]]:=by
 have key:g56 (j3 RH) [[vI a],[vI b]] (λr=>∃z:Int,r=[[vI z]]):=by
  unfold g56;simp only[ai];obtain⟨x,hx⟩:=Pl a;obtain⟨y,hy⟩:=Pl b;refine ab hx ?_;simp only[ai];refine ab hy ?_;cases x <;> cases y <;> simp only[ai]
  all_goals grind
 obtain⟨r,⟨b,rfl⟩,h⟩:=w56.some key (by rintro r ⟨b,rfl⟩;exact trivial);exact⟨b,h⟩
theorem or54T(l:List Int)(hl:l.length<=1000000):∃z:Int,IS s54 [[.sl l.length 1 (l.map vI)]] [[vI z]]:=by
 have key:g54 (j3 RH) [[.sl l.length 1 (l.map vI)]] (λr=>∃z:Int,r=[[vI z]]):=by
  unfold g54;simp only[ai];refine bc l.length (λk=>[[vI 0],[.sl l.length 1 (l.map vI)],[vI (l.length:Int)],[vI (k:Int)]]) (λ_=>True) trivial rfl λk next hi _ hn=>?_
  simp only[ai,aF];refine⟨λh=>?_,λh=>⟨_,rfl⟩⟩;have hk:k<l.length:=Q0;have hc:cell (el (l.map vI) 1 k) 0=vI l[k]:=by
   unfold cell el
   grind
  simp only[hc,ai]
  grind [aZ]
 obtain⟨r,⟨b,rfl⟩,h⟩:=w54.some key (by rintro r ⟨b,rfl⟩;exact trivial);exact⟨b,h⟩
theorem cmp95(x y:av):∃z:Int,IS s95 [x.enc,y.enc] [[vI z]]:=by
 have key:g95 (j3 RH) [x.enc,y.enc] (λr=>∃z:Int,r=[[vI z]]):=by unfold g95;have c0:∀i:av,cell i.enc 0=vI i.aH/\cell i.enc 1=vI i.seq/\cell i.enc 2=vI i.index:=λi=>⟨rfl,rfl,rfl⟩;simp only[ai,c0];obtain⟨a,ha⟩:=yW x.aH y.aH;obtain⟨b,hb⟩:=yW x.seq y.seq;obtain⟨c,hc⟩:=yW x.index y.index;obtain⟨d,hd⟩:=or54T [a,b,c] Q2;refine ab ha ?_;simp only[ai];refine ab hb ?_;simp only[ai];refine ab hc ?_;simp only[ai];refine ab hd ?_;simp only[ai];exact⟨_,rfl⟩
 obtain⟨r,⟨b,rfl⟩,h⟩:=w95.some key (by rintro r ⟨b,rfl⟩;exact trivial);exact⟨b,h⟩
theorem Kz(x y:ao):∃z:Int,IS s94 [x.enc,y.enc] [[vI z]]:=by obtain⟨z,h⟩:=cmp95 x.id y.id;refine⟨z,w94.is ?_⟩;unfold g94;have e0:∀x:ao,sub x.enc 0 3=x.id.enc:=λx=>rfl;simp only[ai,e0];refine ab h ?_;simp only[ai]
def uV(R:List ao)(i j:Nat)(hi:i<R.length)(hj:j<R.length):List ao:=(R.set i R[j]).set j R[i]
theorem nb(R:List ao){i j:Nat}(hi:i<R.length)(hj:j<R.length):(uV R i j hi hj).Perm R:=List.set_set_perm hi hj
theorem KY(R:List ao){i j:Nat}(hi:i<R.length)(hj:j<R.length):(uV R i j hi hj).length=R.length:=by grind [uV,TF]
theorem rJ(R:List ao){i j:Nat}(hi:i<R.length)(hj:j<R.length) :
  D.sl R.length 38 (cB (cB (R.flatMap ao.enc) (i*38+0) (el (R.flatMap ao.enc) 38 j)) (j*38+0) (el (R.flatMap ao.enc) 38 i))=dP (uV R i j hi hj):=by
 rw[iq _ hi,iq _ hj,S2,S2,od ao.aP R hi,od ao.aP _ (by grind)];unfold dP;rw[KY R hi hj];rfl
abbrev Rt(l:List ao)(r:bT):Prop:=∃R:List ao,R.Perm l/\r=[[dP R]]
theorem mZ(a b n:Int)(l:List ao)(h0:0<=a)(h1:0<=b)(hn:0<=n)(ha:a+n<=l.length)(hb:b+n<=l.length)(hl:l.length<=300000000000):∃R:List ao,R.Perm l/\IS Lr [[vI a],[vI b],[vI n],[dP l]] [[dP R]]:=by
 have key:g263 (j3 RH) [[vI a],[vI b],[vI n],[dP l]] (Rt l):=by
  unfold g263;simp only[ai];refine cY (σ:=Int×List ao) (λx=>[[vI a],[vI b],[vI n],[vI x.1],[dP x.2]]) (λx=>(n-x.1).toNat) (λx=>0<=x.1/\x.1<=n/\x.2.Perm l) (0,l) ⟨SM _,hn,S5 _⟩ rfl ?_;rintro⟨i,R⟩ next ⟨hi0,hin,hp⟩ hnx
  have hi0:0<=i:=hi0;have hin:i<=n:=hin;have hp:R.Perm l:=hp;have hlen:=hp.length_eq;simp only[ai];refine⟨λh=>?_,λh=>⟨R,hp,rfl⟩⟩;have e1:(a+i).toNat<R.length:=Q0;have e2:(b+i).toNat<R.length:=Q0;have h7:=hnx (i+1,uV R (a+i).toNat (b+i).toNat e1 e2) Q0 ⟨Q0,Q0,(nb R e1 e2).trans hp⟩;rw[rJ R e1 e2];refine⟨Q4,Q4,Q4,⟨Q0,Q0⟩,Q4,⟨Q0,Q0⟩,⟨Q0,Q0⟩,⟨Q0,Q0⟩,Q4,?_⟩;exact h7
 obtain⟨r,⟨R,hp,rfl⟩,h⟩:=w263.some key (by rintro r ⟨b,_,rfl⟩;exact trivial);exact⟨R,hp,h⟩
theorem yy(a b:Int)(l:List ao)(h0:0<=a)(hb:b<=l.length)(hl:l.length<=300000000000)(hal:a<=l.length):∃R:List ao,R.Perm l/\IS N5 [[vI a],[vI b],[dP l]] [[dP R]]:=by
 have key:g223 (j3 RH) [[vI a],[vI b],[dP l]] (Rt l):=by
  unfold g223;simp only[ai];refine⟨Q4,?_⟩;refine cY (σ:=Int×List ao) (λx=>[[vI a],[vI b],[vI x.1],[dP x.2]]) (λx=>(b-x.1).toNat) (λx=>a+1<=x.1/\x.2.Perm l) (a+1,l) ⟨SM _,S5 _⟩ rfl ?_;rintro⟨i,R⟩ next ⟨hi0,hp⟩ hnx
  have hi0:a+1<=i:=hi0;have hp:R.Perm l:=hp;have hlen:=hp.length_eq;simp only[ai];refine⟨λh=>?_,λh=>⟨R,hp,rfl⟩⟩;refine ij ?_;refine cY (σ:=Int×List ao) (λx=>[[vI a],[vI b],[vI i],[vI x.1],[dP x.2]]) (λx=>(x.1-a).toNat) (λx=>a<=x.1/\x.1<=i/\x.2.Perm l) (i,R) ⟨Q0,SM _,hp⟩ rfl ?_;rintro⟨j,S⟩ lO ⟨hj0,hji,hq⟩ hnx2;have hj0:a<=j:=hj0;have hji:j<=i:=hji;have hq:S.Perm l:=hq;have hlen2:=hq.length_eq;have hout:aZ (i+1)/\next [[vI a],[vI b],[vI (i+1)],[dP S]]:=⟨Q4,hnx (i+1,S) Q0 ⟨Q0,hq⟩⟩
  simp only[ai];refine⟨λh2=>?_,λh2=>hout⟩;have e1:j.toNat<S.length:=Q0;have e2:(j-1).toNat<S.length:=Q0;refine⟨⟨Q0,Q0⟩,Q4,⟨Q0,Q0⟩,?_⟩;rw[iq _ e1,iq _ e2];obtain⟨z,hz⟩:=Kz S[j.toNat] S[(j-1).toNat];refine ab hz ?_;simp only[ai];refine⟨λh3=>?_,λh3=>hout⟩;have h7:=hnx2 (j-1,uV S j.toNat (j-1).toNat e1 e2) Q0 ⟨Q0,Q0,(nb S e1 e2).trans hq⟩;have he:=rJ S e1 e2;rw[iq _ e1,iq _ e2]at he
  grind [aZ]
 obtain⟨r,⟨R,hp,rfl⟩,h⟩:=w223.some key (by rintro r ⟨b,_,rfl⟩;exact trivial);exact⟨R,hp,h⟩
theorem vY(l m:List av)(hl:l.length<=1000000000000)(hm:m.length<=1000000000000):IS s17 [[dI l],[dI m]] [[vB (decide (l=m))]]:=by
 refine w17.is ?_;unfold g17 dI;simp only[ai,aF];refine⟨λe=>?_,λe=>?_⟩
 .have e:l.length=m.length:=Q0;refine bc l.length (λk=>[[.sl l.length 3 (l.flatMap av.enc)],[.sl m.length 3 (m.flatMap av.enc)],[vI (k:Int)]]) (λk=>l.take k=m.take k) Q2 rfl λk next hi hI hn=>?_
  simp only[ai];refine⟨λh=>?_,λh=>?_⟩
  .have hk:k<l.length:=Q0;have hk':k<m.length:=Q0;rw[fl _ hk,fl _ hk'];simp only[ai,aF];refine⟨Q0,Q0,λe2=>⟨Q4,hn hk ?_⟩,λe2=>?_⟩
   .grind [RJ]
   .rw[J6 (λh=>e2 (by subst h;rfl))]
  all_goals grind
 .rw[J6 (λh=>e (by rw[h]))]
theorem Np(k:Int):IS s27 [[vI k]] [[vB (decide (iR k))]]:=by
 refine w27.is ?_;unfold g27;simp only[ai];refine⟨λh=>by grind [J5,iR],λh1=>⟨λh=>by grind [J5,iR],λh2=>⟨λh=>by grind [J5,iR],λh3=>?_⟩⟩⟩;refine J4 (λb=>[[vB b]]) (decide_eq_decide.2 ?_)
 grind [iR]
theorem ze(d:an):IS s49 [d.enc] [[vB (decide (iR d.kind))]]:=by refine w49.is ?_;unfold g49;simp only[ai,aF];refine⟨λh=>by grind [J5,iR],λh1=>⟨λh=>by grind [J5,iR],λh2=>⟨λh=>by grind [J5,iR],λh3=>?_⟩⟩⟩;refine J4 (λb=>[[vB b]]) (decide_eq_decide.2 ?_);unfold iR;omega
theorem sB(t:Ty)(hs:t.size<=1000000000000):IS s73 [t.enc] [[dI (cJ t)]]:=by
 refine w73.is ?_;unfold g73;simp only[ai,aF];have hsz:=Ty.NY t;have hlen:=Ty.mw t.kids;refine bB [t.enc,[dI (if t.kind=3 then[t.df] else[])]] ?_ ?_
 .refine⟨λh=>⟨Qa,?_⟩,λh=>?_⟩
  .rw[J2 h];rfl
  .rw[J1 h];rfl
 .simp only[ai];refine bc t.kids.length (λi=>[[.sl t.kids.length 5 (t.kids.flatMap Ty.enc)],[vI (t.kids.length:Int)],[vI (i:Int)],[dI ((if t.kind=3 then[t.df] else[])++cW (t.kids.take i))]]) (λ_=>True) trivial (by simp[cW]) λi next hi _ hn=>?_
  have h3:=Cw t.kids i;have h4:(if t.kind=3 then[t.df] else[]).length<=1:=by grind
  simp only[ai];refine⟨λh=>?_,λh=>?_⟩
  .have hk':i<t.kids.length:=Q0;have hm:=Ty.AO (RQ hk');have h5:=fc t.kids[i];rw[yT _ hk'];refine⟨Q0,ab (sB _ Q0) ?_⟩;simp only[ai]
   grind [aL,RS,aZ,Cy,R9]
  all_goals grind [Sl,AK]
 termination_by t.size
abbrev dE(l:List Ex):D:=.sl l.length 15 (l.flatMap Ex.enc)
theorem CN{α β:Type}(f:α->List β)(l:List α)(k:Nat):((l.take k).flatMap f).length<=(l.flatMap f).length:=by
 induction l generalizing k with
 |nil=>simp
 |cons x l ih =>
  cases k with
  |zero=>simp
  |succ k=>have:=ih k;simp only[SO,RT,RS];omega
theorem MV{α β:Type}(f:α->List β){l:List α}{k:Nat}(h:k<l.length):(l.take (k+1)).flatMap f=(l.take k).flatMap f++f l[k]:=by rw[RJ h,Sd];simp
theorem Wd.isG{l:List bC}{dp:List Nat}{hp nd ic:Bool}{cs:List Nat}{H:qj}{s:bC}{g:Tx}(w:Wd ⟨l,[42],dp,[],lF,lE,hp,gh,nd,ic,cs⟩ H s g){a r:bT}(h:g (j3 RH) a λst=>st=r)(hu:cu bg (jE s) r (λ_=>True):=by exact trivial):Pm.Is RH s a r:=Qu (NN ..) Px (H:=H) (by rw[w];exact h) hu
theorem Wd.someG{l:List bC}{dp:List Nat}{hp ic:Bool}{cs:List Nat}{H:qj}{s:bC}{g:Tx}(w:Wd ⟨l,[42],dp,[],lF,lE,hp,gh,false,ic,cs⟩ H s g){a:bT}{K:bT->Prop}(h:g (j3 RH) a K)(hu:∀r,K r->cu bg (jE s) r λ_=>True):∃r,K r/\Pm.Is RH s a r:=Kl rfl (NN ..) Px (H:=H) (by rw[w];exact h) hu
theorem P2(p:au)(i:av)(hs:p.aa.length<=1000000000000):∃z:Int,((z=-1/\¬cK p i/\al p i=l7)\/∃k,∃hk:k<p.aa.length,z=(k:Int)/\cK p i/\al p i=p.aa[k])/\IS s146 [[.sl p.aa.length 31 (p.aa.flatMap an.enc)],i.enc] [[vI z],i.enc]:=by
 have key:g146 (j3 RH) [[.sl p.aa.length 31 (p.aa.flatMap an.enc)],i.enc] (λr=>∃z:Int,((z=-1/\¬cK p i/\al p i=l7)\/∃k,∃hk:k<p.aa.length,z=(k:Int)/\cK p i/\al p i=p.aa[k])/\r=[[vI z],i.enc]):=by
  unfold g146;simp only[ai];refine bc p.aa.length (λk=>[[.sl p.aa.length 31 (p.aa.flatMap an.enc)],[vI (p.aa.length:Int)],[vI (k:Int)],i.enc]) (λk=>∀j (hj:j<p.aa.length),j<k->p.aa[j].id≠i) (λ_ _ h=>J3 h (S6 _)) rfl λk next hi hI hn=>?_
  simp only[ai];refine⟨λh=>?_,λh=>?_⟩
  .have hk:k<p.aa.length:=Q0;rw[gE _ hk];refine⟨Q0,ab (r:=[[vB (decide (p.aa[k].id=i))],i.enc]) (w147.is ?_) ?_⟩
   .unfold g147;simp only[ai,aF]
   .simp only[ai]
    grind [kN,aZ]
  all_goals grind [uU]
 obtain⟨r,⟨z,hz,rfl⟩,h⟩:=w146.some key (by rintro r ⟨z,_,rfl⟩;exact trivial);exact⟨z,hz,h⟩
theorem pZ(p:au)(i:av)(hs:p.aa.length<=1000000000000):IS Gt [p.enc,i.enc] [(al p i).enc,[vB (decide (cK p i))]]:=by
 refine w46.is ?_;unfold g46;have hc:cell p.enc 1=.sl p.aa.length 31 (p.aa.flatMap an.enc):=rfl;simp only[ai,hc];obtain⟨z,hz,h⟩:=P2 p i hs;refine ab h ?_;simp only[ai];rcases hz with⟨rfl,h1,h2⟩|⟨k,hk,rfl,h1,h2⟩
 .refine⟨λ_=>?_,λh=>J3 h Q1⟩;rw[h2,J6 h1];rfl
 all_goals grind [SF,gE,J5]
theorem AG(p:au)(x:av)(hs:p.aa.length<=1000000000000):IS s77 [x.enc,p.enc] [[vB (!dA p x)],p.enc]:=by refine w77.is ?_;unfold g77;simp only[ai];refine ab (pZ p x hs) ?_;simp only[ai];rfl
theorem yG(k:Int):((yp k iM).getD 0=(0:Int))↔¬eE k:=by
 unfold eE iM;simp only[yp]
 grind
theorem dI_app(l m:List av):D.sl (l.length+m.length) 3 (l.flatMap av.enc++m.flatMap av.enc)=dI (l++m):=by unfold dI;simp
theorem Nz(e:Ex)(l:List av)(hs:l.length+e.wt<=800000000000):IS s75 [e.enc,[dI l]] [[dI (l++oH e)]]:=by
 refine w75.isG ?_;unfold g75;simp only[ai,aF];have hw:=Ex.cS e;refine bB [e.enc,[dI (l++Ch e)]] ?_ ?_
 .refine⟨λh=>?_,λh=>?_⟩
  .grind [yG,Ch]
  .rw[yG,Classical.not_not]at h
   grind [aL,Ch,kh]
 .simp only[ai,aF];have h1:(Ch e).length<=1:=by grind [Ch]
  have h2:=fc e.ty;unfold oH ON;refine⟨λh=>ab (sB _ Q0) ?_,λh=>?_⟩
  .simp only[ai]
   grind [aL,RS]
  all_goals grind
theorem IG(e:Ex)(l:List av)(hs:l.length+e.wt<=800000000000):IS s74 [e.enc,[dI l]] [[dI (l++jU e)]]:=by
 refine w74.is ?_;unfold g74;simp only[ai];refine ab (Nz e l hs) ?_;simp only[ai];have hw:=Ex.cS e;have ho:=xZ e;have hk0:e.kids.length<=Ex.fi e.kids:=by
  have:∀l:List Ex,l.length<=Ex.fi l:=by
   intro l;induction l with
   |nil=>exact Sc _
   |cons x l ih=>have:=Ex.cS x;rw[Ex.fi,RU];omega
  exact this _
 refine bc e.kids.length (λi=>[[.sl e.kids.length 15 (e.kids.flatMap Ex.enc)],[vI (e.kids.length:Int)],[vI (i:Int)],[dI (l++oH e++dm (e.kids.take i))]]) (λ_=>True) trivial (by simp[dm]) λi next hi _ hn=>?_
 have h3:=oL (e.kids.take i);simp only[ai];refine⟨λh=>?_,λh=>?_⟩
 .have hk:i<e.kids.length:=Q0;have h4:=Ex.wR hk;have h5:=Ex.wQ e.kids (i+1);rw[vq _ hk];have hm:=Ex.wU (RQ hk);refine⟨Q0,ab (IG _ _ (by grind)) ?_⟩;simp only[ai]
  grind [aZ,Cv,R9]
 all_goals grind [Sl,R9,Mm]
 termination_by e.wt
theorem oY(R:List av):∀i:Nat,(R.flatMap av.enc).take (i*3)=(R.take i).flatMap av.enc:=by
 induction R with
 |nil=>intro i;simp
 |cons x R ih =>
  intro i;cases i with
  |zero=>simp
  |succ i=>rw[RT,SO,RT,<-ih i,SK,Un];show List.take (1*3+i*3) ([_,_,_]++_)=_;rw[Nat.one_mul,Un];rfl
theorem yA(R:List av):∀i:Nat,(R.flatMap av.enc).drop (i*3)=(R.drop i).flatMap av.enc:=by
 induction R with
 |nil=>intro i;simp
 |cons x R ih =>
  intro i;cases i with
  |zero=>simp
  |succ i=>rw[RT,SV,<-ih i,SK];rfl
theorem Kf(R:List av){i:Nat}(hi:i<R.length)(x:av):cB (R.flatMap av.enc) (i*3+0) x.enc=(R.set i x).flatMap av.enc:=by unfold cB;rw[S2,oY,show x.enc.length=3 from rfl,show i*3+3=(i+1)*3 by omega,yA,Xg,J2 hi];simp
theorem ids_cut(R:List av){i:Nat}(hi:i<=R.length)(z:List D):sub (cB (R.flatMap av.enc) ((0+i)*3) z) (0*3) (i*3)=(R.take i).flatMap av.enc:=by
 unfold sub cB;rw[Sz,Nat.zero_mul,Te,R9,oY];have hl:((R.take i).flatMap av.enc).length=i*3:=by rw[<-oY,Sn,eS (sz:=3) (λ_=>rfl)];omega
 rw[<-hl,List.take_left]
theorem QB(p:au)(l:List av)(hp:p.aa.length<=1000000000000)(hl:l.length<=1000000000000):∃z:Int,((z=-1/\∀x∈l,dA p x=true)\/∃k,∃hk:k<l.length,z=(k:Int)/\(∀x∈l.take k,dA p x=true)/\dA p l[k]=false)/\IS s64 [[dI l],p.enc] [[vI z],[dI l],p.enc]:=by
 have key:g64 (j3 RH) [[dI l],p.enc] (λr=>∃z:Int,((z=-1/\∀x∈l,dA p x=true)\/∃k,∃hk:k<l.length,z=(k:Int)/\(∀x∈l.take k,dA p x=true)/\dA p l[k]=false)/\r=[[vI z],[dI l],p.enc]):=by
  unfold g64;simp only[ai];refine bc l.length (λk=>[[vI (l.length:Int)],[vI (k:Int)],[dI l],p.enc]) (λk=>∀x∈l.take k,dA p x=true) Q2 rfl λk next hi hI hn=>?_
  simp only[ai];refine⟨λh=>?_,λh=>?_⟩
  .have hk:k<l.length:=Q0;rw[fl _ hk];refine⟨Q0,ab (AG p _ hp) ?_⟩;simp only[ai];cases hb:dA p l[k]with
   |false=>simp only[ai,Tq];exact⟨_,.inr ⟨k,hk,rfl,hI,hb⟩,rfl⟩
   |true =>
    simp only[ai,SJ];refine⟨Q4,hn hk λx hx=>?_⟩;rw[RJ hk,RY,RZ]at hx;rcases hx with hx|hx
    .exact hI x hx
    .rw[hx];exact hb
  all_goals grind
 obtain⟨r,⟨z,hz,rfl⟩,h⟩:=w64.some key (by rintro r ⟨z,_,rfl⟩;exact trivial);exact⟨z,hz,h⟩
theorem H3{R:List av}{i:Nat}(hi:i<=R.length)(z:List D):D.sl i 3 (sub (cB (R.flatMap av.enc) ((0+i)*3) z) (0*3) (i*3))=dI (R.take i):=by
 rw[ids_cut R hi]
 grind
theorem zP(p:au)(l:List av)(hp:p.aa.length<=1000000000000)(hl:l.length<=1000000000000):IS s76 [[dI l],p.enc] [[dI (l.filter (dA p))],p.enc]:=by
 refine w76.isG ?_;unfold g76;simp only[ai];obtain⟨z,hz,h⟩:=QB p l hp Q0;refine ab h ?_;simp only[ai];rcases hz with⟨rfl,ha⟩|⟨k0,hk0,rfl,ha,hb⟩
 .grind [Uu]
 .refine⟨λh=>by omega,λ_=>⟨Q4,?_⟩⟩;have e0:(l.take (k0+1)).filter (dA p)=l.take k0:=by
   grind [RJ,Uu]
  refine cY (σ:=Nat×List av) (λs=>[[vI (((l.take s.1).filter (dA p)).length:Int)],[vI (s.1:Int)],[dI s.2],p.enc]) (λs=>l.length-s.1)
   (λs=>s.1<=l.length/\s.2.length=l.length/\s.2.take ((l.take s.1).filter (dA p)).length=(l.take s.1).filter (dA p)/\s.2.drop s.1=l.drop s.1/\((l.take s.1).filter (dA p)).length<s.1) (k0+1,l)
   ⟨Q0,rfl,by grind,rfl,by grind⟩ (by
    show _=[[vI (((l.take (k0+1)).filter (dA p)).length:Int)],[vI ((k0+1:Nat):Int)],[dI l],p.enc]
    rw[e0,Sn,Tf Q0];rfl) ?_
  rintro⟨j,R⟩ next ⟨h1,h2,h3,h4,h5⟩ hn
  dsimp only at h1 h2 h3 h4 h5 hn ⊢;simp only[ai];refine⟨λh=>?_,λh=>?_⟩
  .have hj:j<l.length:=Q0;have hjR:j<R.length:=Q0;have e1:R[j]=l[j]:=by
    have h6:(R.drop j)[0]'Qc=(l.drop j)[0]'Qc:=by grind
    simpa using h6
   have hstep:=RJ hj;refine ij ?_;rw[fl _ hjR,e1];refine⟨Q0,ab (AG p _ hp) ?_⟩;simp only[ai];cases hb:dA p l[j]with
   |false =>
    simp only[ai,Tq,SJ];have e2:(l.take (j+1)).filter (dA p)=(l.take j).filter (dA p):=by
     grind
    have:=hn (j+1,R) Q0 ⟨hj,h2,by grind,by dsimp only;rw[<-TR,<-TR,h4],by grind⟩;dsimp only at this;rw[e2]at this;exact⟨Q4,this⟩
   |true =>
    simp only[ai,Tq,SJ];have e2:(l.take (j+1)).filter (dA p)=(l.take j).filter (dA p)++[l[j]]:=by
     grind
    rw[Kf R Q0]
    have:=hn (j+1,R.set ((l.take j).filter (dA p)).length l[j]) Q0 ⟨hj,by grind,by
     dsimp only;rw[e2,RS,UE];rw[RJ (by grind),YD (Sc _),h3]
     simp,by dsimp only;rw[YE Q0,<-TR,<-TR,h4],by grind⟩
    dsimp only at this;rw[e2,RS,UE]at this;simp only[dI,TF]at this ⊢;exact⟨Q0,Q4,Q4,this⟩
  .obtain rfl:j=l.length:=Q0;rw[Sl]at h3 h5 ⊢;have hc:=H3 (R:=R) (i:=(l.filter (dA p)).length) Q0 ((Sj (R.length-(l.filter (dA p)).length) [vI 0,vI 0,vI 0]).flatten);rw[h3]at hc;refine⟨Q0,⟨trivial,Q0,Q0⟩,Q0,?_⟩;rw[<-hc]
theorem wF(x y:av)(l:List av):gU (x::y::l)=if x=y then gU (y::l) else x::gU (y::l):=by rw[gU]
theorem FN(x:av):gU [x]=[x]:=rfl
theorem Bj(y:av):∀{l:List av} (x:av),gU (l++[x]++[y])=if x=y then gU (l++[x]) else gU (l++[x])++[y]
 |[],x=>by
  simp only[Sv,SA,wF,FN]
  grind
 |[a],x=>by
  simp only[Sv,SA,wF,FN]
  grind
 |a::b::l,x=>by
  have h:=Bj y (l:=b::l) x
  grind [wF]
theorem Bi{l:List av}{k:Nat}(h1:1<=k)(hk:k<l.length):gU (l.take (k+1))=if l[k-1]'Q0=l[k]then gU (l.take k) else gU (l.take k)++[l[k]]:=by
 have e:l.take k=l.take (k-1)++[l[k-1]'Q0]:=by simp_all
 grind [RJ,Bj]
theorem ru(l:List av)(hl:l.length<=1000000000000):IS s79 [[dI l]] [[dI (gU l)]]:=by
 refine w79.isG ?_;unfold g79;simp only[ai];refine⟨λh=>?_,λh=>?_⟩
 .match l,h with
  |[],_=>rfl
  |[x],_=>rfl
  |_::_::l,h=>simp at h;omega
 .refine cY (σ:=Nat) (λk=>[[vI (k:Int)],[dI l]]) (λk=>l.length-k) (λk=>1<=k/\k<=l.length/\gU (l.take k)=l.take k) 1 ⟨Sc _,Q0,by
   match l,h with
   |[],_=>rfl
   |[x],_=>rfl
   |x::_::l,_=>rfl⟩ rfl ?_
  rintro k next ⟨h1,h2,h3⟩ hn
  simp only[ai];refine⟨λh=>?_,λh=>?_⟩
  .have hk:k<l.length:=Q0;have ek:((k:Int)-1).toNat=k-1:=Q0;have hst:=Bi h1 hk;rw[ek,fl _ hk,fl _ (show k-1<l.length by omega)];simp only[ai,aF];refine⟨Q0,Q4,Q0,λe=>⟨Q0,?_⟩,λe=>⟨Q4,?_⟩⟩
   .rw[J2 e.symm]at hst;refine cY (σ:=Nat×List av) (λs=>[[vI ((gU (l.take (k+s.1))).length:Int)],[vI (k:Int),vI ((l.length-k:Nat):Int)],[vI (s.1:Int)],[dI s.2]]) (λs=>l.length-s.1)
     (λs=>1<=s.1/\k+s.1<=l.length/\s.2.length=l.length/\s.2.take (gU (l.take (k+s.1))).length=gU (l.take (k+s.1))/\s.2.drop (k+s.1-1)=l.drop (k+s.1-1)/\(gU (l.take (k+s.1))).length<=k+s.1-1) (1,l) ⟨Sc _,hk,rfl,by grind,rfl,by grind⟩ (by
      show _=[[vI ((gU (l.take (k+1))).length:Int)],[vI (k:Int),vI ((l.length-k:Nat):Int)],[vI ((1:Nat):Int)],[dI l]]
      rw[hst,h3,Sn,Tf Q0,Sz];rfl) ?_
    rintro⟨j,R⟩ next ⟨q1,q2,q3,q4,q5,q6⟩ hn
    dsimp only at q1 q2 q3 q4 q5 q6 hn ⊢;simp only[ai];refine⟨λh=>?_,λh=>?_⟩
    .have hj:k+j<l.length:=Q0;have ej:((j:Int)-1).toNat=j-1:=Q0;have hR1:R[k+j]'Q0=l[k+j]:=by
      have h6:(R.drop (k+j-1))[1]'Qc=(l.drop (k+j-1))[1]'Qc:=by grind
      simpa[show k+j-1+1=k+j by omega]using h6
     have hR2:R[k+j-1]'Q0=l[k+j-1]:=by
      have h6:(R.drop (k+j-1))[0]'Qc=(l.drop (k+j-1))[0]'Qc:=by grind
      simpa using h6
     have hst:=Bi (l:=l) (k:=k+j) Q0 hj;refine ij ?_;rw[ej,fl _ (show k+j<R.length by omega),show k+(j-1)=k+j-1 by omega,fl _ (show k+j-1<R.length by omega),hR1,hR2];simp only[ai,aF];have hd:R.drop (k+(j+1)-1)=l.drop (k+(j+1)-1):=by have:=J4 (TG 1) q5;rwa [TR,TR,show k+j-1+1=k+(j+1)-1 by omega]at this
     refine⟨Q0,Q4,Q0,λe2=>?_,λe2=>?_⟩
     .rw[J2 e2.symm]at hst;have:=hn (j+1,R) Q0 ⟨Q0,Q0,q3,by grind,hd,by dsimp only;rw[<-S8,hst];omega⟩
      grind [S8,aZ]
     .rw[J1 (λe3=>e2 e3.symm)]at hst;rw[Kf R Q0]
      have:=hn (j+1,R.set (gU (l.take (k+j))).length l[k+j]) Q0 ⟨Q0,Q0,by grind,by
       dsimp only;rw[<-S8,hst,RS,UE];rw[RJ (by grind),YD (Sc _),q4]
       simp,by dsimp only;rw[YE Q0];exact hd,by dsimp only;rw[<-S8,hst];simp;omega⟩
      dsimp only at this;rw[<-S8,hst,RS,UE]at this;simp only[dI,TF]at this ⊢;exact⟨Q0,Q0,Q4,Q4,this⟩
    .have ej:k+j=l.length:=Q0;rw[ej,Sl]at q4 q6 ⊢;have hc:=H3 (R:=R) (i:=(gU l).length) Q0 ((Sj (R.length-(gU l).length) [vI 0,vI 0,vI 0]).flatten);rw[q4]at hc;refine⟨Q0,⟨trivial,Q0,Q0⟩,Q0,?_⟩;rw[<-hc]
   .rw[J1 (λe2=>e e2.symm)]at hst;exact hn (k+1) Q0 ⟨Q0,hk,by simp_all⟩
  all_goals grind
theorem P4(l:List av)(x:av)(hl:l.length<=1000000000000):∃z:Int,(0<=z↔x∈l)/\IS s160 [x.enc,[dI l]] [[vI z],[dI l]]:=by
 have key:g160 (j3 RH) [x.enc,[dI l]] (λr=>∃z:Int,(0<=z↔x∈l)/\r=[[vI z],[dI l]]):=by
  unfold g160;simp only[ai];refine bc l.length (λk=>[[vI (l.length:Int)],[vI (k:Int)],[dI l],x.enc]) (λk=>x ∉ l.take k) Q2 rfl λk next hi hI hn=>?_
  simp only[ai,aF];refine⟨λh=>?_,λh=>?_⟩
  .have hk:k<l.length:=Q0;rw[fl _ hk];simp only[ai,aF]
   grind [aZ,qs]
  all_goals grind
 obtain⟨r,⟨z,hz,rfl⟩,h⟩:=w160.some key (by rintro r ⟨z,_,rfl⟩;exact trivial);exact⟨z,hz,h⟩
theorem FW(l:List av)(x:av)(hl:l.length<=1000000000000):IS s68 [x.enc,[dI l]] [[vB (decide (x∈l))],[dI l]]:=by
 refine w68.is ?_;unfold g68;simp only[ai];obtain⟨z,hz,h⟩:=P4 l x hl;refine ab h ?_;simp only[ai]
 grind
theorem Hp(l:List av)(x:av)(hl:l.length<=1000000000000):IS s67 [x.enc,[dI l]] [[vB (!decide (x∈l))],[dI l]]:=by refine w67.is ?_;unfold g67;simp only[ai];refine ab (FW l x hl) ?_;simp only[ai]
theorem Hq(u l:List av)(hl:l.length<=1000000000000)(hu:u.length<=1000000000000):∃z:Int,(0<=z↔¬∀x∈u,x∈l)/\IS Jf [[dI u],[dI l]] [[vI z],[dI l]]:=by
 have key:Qo (j3 RH) [[dI u],[dI l]] (λr=>∃z:Int,(0<=z↔¬∀x∈u,x∈l)/\r=[[vI z],[dI l]]):=by
  unfold Qo;simp only[ai];refine bc u.length (λk=>[[dI u],[vI (u.length:Int)],[vI (k:Int)],[dI l]]) (λk=>∀x∈u.take k,x∈l) Q2 rfl λk next hi hI hn=>?_
  simp only[ai];refine⟨λh=>?_,λh=>?_⟩
  .have hk:k<u.length:=Q0;rw[fl _ hk];refine⟨Q0,ab (Hp l _ hl) ?_⟩;simp only[ai,aF]
   grind [aZ,RJ,RZ]
  all_goals grind
 obtain⟨r,⟨z,hz,rfl⟩,h⟩:=w64_2.some key (by rintro r ⟨z,_,rfl⟩;exact trivial);exact⟨z,hz,h⟩
theorem Mp(u l:List av)(hl:l.length<=1000000000000)(hu:u.length<=1000000000000):IS s66 [[dI u],[dI l]] [[vB (!iJ u l)],[dI l]]:=by
 refine w66.is ?_;unfold g66;simp only[ai];obtain⟨z,hz,h⟩:=Hq u l hl hu;refine ab h ?_;simp only[ai];unfold iJ
 grind
def mE(f:av->D)(x:av):List D:=[aj x.aH,aj x.seq,aj x.index,f x]
abbrev dM(f:av->D)(L:List av):D:=.sl L.length 4 (L.flatMap (mE f))
theorem mkey(i x:av)(ds:List D):yw i.aH i.seq i.index (aj x.aH::aj x.seq::aj x.index::ds)=decide (i=x):=by show decide (x.aH=i.aH/\x.seq=i.seq/\x.index=i.index)=_;refine decide_eq_decide.2 ⟨λh=>(av.ext' h.1 h.2.1 h.2.2).symm,λh=>by grind⟩
theorem PF(f:av->D)(x:av)(L:List av):(x::L).flatMap (mE f)=aj x.aH::aj x.seq::aj x.index::([f x]++L.flatMap (mE f)):=rfl
theorem ri(f:av->D)(i:av):∀L:List av,bA 4 i.aH i.seq i.index L.length (L.flatMap (mE f))=if i∈L then some [f i] else none
 |[]=>rfl
 |x::L=>by
  rw[PF,RU,bA,mkey];by_cases h:i=x
  .grind
  .rw[J6 h];show bA 4 i.aH i.seq i.index L.length (L.flatMap (mE f))=_;rw[ri f i L];simp[h]
theorem AQ(f:av->D)(i:av):∀L:List av,i ∉ L->dc 4 i.aH i.seq i.index [f i] L.length (L.flatMap (mE f))=(L++[i]).flatMap (mE f)
 |[],_=>rfl
 |x::L,hf=>by
  have h:¬i=x:=λe=>hf (by grind);have hk:=AQ f i L λhm=>hf (RM _ hm);rw[PF,RU,dc,mkey,J6 h]
  grind [List.take,dc,mE]
theorem E0(f:av->D)(i:av)(L:List av)(h:i ∉ L):fM 4 i.aH i.seq i.index L.length (L.flatMap (mE f))=L.length+1:=by
 grind [fM,ri]
abbrev uD(p:au)(x:av):D:=dI (aR p x)
theorem free_is(p:au)(L out:List av)(x:av)(hx:x∈L)(ho:out.length<=1000000000000)(hs:∀j,(al p j).wt<=800000000000):IS s65 [x.enc,[dM (uD p) L],[dI out]] [[vB (iJ (aR p x) out)],[dM (uD p) L],[dI out]]:=by refine w65.is ?_;unfold g65;simp only[ai,aF];rw[ri,J2 hx];have hu:=tx p x;have:=hs x;refine ab (Mp (aR p x) out ho Q0) ?_;simp only[ai,Bool.not_not]
theorem CQ(p:au)(L out left:List av)(hL:∀x∈left,x∈L)(ho:out.length<=1000000000000)(hl:left.length<=1000000000000)(hs:∀j,(al p j).wt<=800000000000) :
  IS Jg [[dI left],[dM (uD p) L],[dI out]] [[vI (match lj p out left with|some k=>(k:Int)|none=>-1)],[dI left],[dM (uD p) L],[dI out]]:=by
 refine w64_1.is ?_;unfold g64_1;simp only[ai];refine bc left.length (λk=>[[vI (left.length:Int)],[vI (k:Int)],[dI left],[dM (uD p) L],[dI out]]) (λk=>∀j (hj:j<left.length),j<k->iJ (aR p left[j]) out=false) (λ_ _ h=>J3 h (S6 _)) rfl λk next hi hI hn=>?_
 simp only[ai];refine⟨λh=>?_,λh=>?_⟩
 .have hk:k<left.length:=Q0;rw[fl _ hk];refine⟨Q0,ab (free_is p L out _ (hL _ (RQ hk)) ho hs) ?_⟩;simp only[ai];cases hb:iJ (aR p left[k]) out with
  |true=>simp only[ai];rw[MY hk hb λj hj=>hI j Q0 hj]
  |false =>
   simp only[ai];refine⟨Q4,hn hk λj hj h=>?_⟩;by_cases e:j=k
   .subst e;exact hb
   .exact hI j hj Q0
 .obtain rfl:k=left.length:=Q0;rw[Fx λj hj=>hI j hj hj]
theorem Na(l:List av)(k:Nat)(hk:k<l.length)(hl:l.length<=1000000000000):IS s69 [[vI (k:Int)],[vI ((k:Int)+1)],[dI l]] [[dI (l.eraseIdx k)]]:=by
 have hlen:(l.eraseIdx k).length=l.length-1:=by grind
 have e1:((k:Int)+1).toNat=k+1:=Q0;have hmid:cB (l.flatMap av.enc) (k*3) (sub (l.flatMap av.enc) ((k+1)*3) ((l.length-(k+1))*3))=(l.eraseIdx k++l.drop (l.length-1)).flatMap av.enc:=by
  have hsub:sub (l.flatMap av.enc) ((k+1)*3) ((l.length-(k+1))*3)=(l.drop (k+1)).flatMap av.enc:=by unfold sub;rw[yA,oY,Su Q2]
  have hlen2:((l.drop (k+1)).flatMap av.enc).length=(l.length-(k+1))*3:=by rw[eS (sz:=3) (λ_=>rfl),List.length_drop]
  rw[hsub];unfold cB;rw[hlen2,<-SK,show k+(l.length-(k+1))=l.length-1 by omega,oY,yA,List.eraseIdx_eq_take_drop_succ,Sd,Sd]
 have e0:∀n:Nat,((0:Nat):Int)+(n:Int)=n:=λn=>by omega
 have hcut:∀(z:List D) (R:List av),R.length=l.length->R.take (l.length-1)=l.eraseIdx k->D.sl (l.length-1) 3 (sub (cB (R.flatMap av.enc) ((0+(l.length-1))*3) z) (0*3) ((l.length-1)*3))=dI (l.eraseIdx k):=λz R h1 h2=>by rw[H3 Q0,h2]
 refine w69.isG ?_;unfold g69;simp only[ai,e0,e1,Nat.sub_zero,Sz];refine⟨⟨trivial,Q0,Q0,Q0,Q0⟩,λh=>by omega,λ_=>⟨Q0,Q0,λh=>?_,λh=>⟨λh2=>?_,λh2=>by omega⟩⟩⟩
 .have ek:k=l.length-1:=Q0;have:=hcut ((Sj (l.length-k) [vI 0,vI 0,vI 0]).flatten) l rfl (by grind);rw[<-ek,Sz]at this;refine⟨Q0,⟨trivial,Q0,Q0⟩,Q0,?_⟩;rw[<-this]
 .have ek:k+(l.length-(k+1))=l.length-1:=Q0;have hx:=hcut ((Sj (l.length-(l.length-1)) [vI 0,vI 0,vI 0]).flatten) (l.eraseIdx k++l.drop (l.length-1)) (by grind) (by grind);rw[<-hmid,Sz]at hx;rw[ek];refine⟨Q0,⟨trivial,Q0,Q0⟩,Q0,?_⟩;rw[<-hx]
def uN:Prop:=∀l:List av,l.length<=1000000000000->IS s78 [[dI l]] [[dI (j1 l)]]
structure BM(p:au):Prop where
 d:p.aa.length<=1000
 w:∀j,(al p j).wt<=800000000000
theorem Ah(l:List av):(j1 l).length=l.length:=(rN l).2.length_eq
theorem vU(hS:uN){p:au}(hp:BM p)(i:av):IS s18 [p.enc,i.enc] [[dI (aR p i)]]:=by
 refine w18.is ?_;unfold g18;simp only[ai];refine ab (pZ p i (by have:=hp.d;omega)) ?_;simp only[ai,aF];refine⟨λh=>?_,λh=>?_⟩
 .have hd:=hp.w i;have hu:=NF h;have hraw:=Ov (al p i);have hw:(al p i).wt=(al p i).aq.size+kO (al p i).ah+(al p i).body.wt:=rfl;unfold GY at hu hraw;generalize al p i=d at hd hu hraw hw ⊢;refine ab (sB _ Q0) ?_;simp only[ai];have hsl:=Al d.ah;have h1:=fc d.aq;refine bc d.ah.length (λi=>[[.sl d.ah.length 11 (d.ah.flatMap aC.enc)],[vI (d.ah.length:Int)],[vI (i:Int)],p.enc,d.enc,[dI (cJ d.aq++lL (d.ah.take i))]]) (λ_=>True) trivial (by simp[lL]) λi next hi _ hn=>?_
  have h2:=GJ d.ah i;simp only[ai,aF];refine⟨λh=>?_,λh=>?_⟩
  .have hk:i<d.ah.length:=Q0;have hm:=Ak (RQ hk);have h5:=fc d.ah[i].ty;rw[mN _ hk];simp only[aF];refine⟨Q0,ab (sB _ Q0) ?_⟩;simp only[ai]
   grind [aL,RS,aZ,GK,R9]
  .obtain rfl:i=d.ah.length:=Q0;rw[Sl]at h2 ⊢;refine bB [p.enc,[dI (cJ d.aq++lL d.ah++if iR d.kind then jU d.body else[])]] ?_ ?_
   .refine ab (ze d) ?_;simp only[ai];refine⟨λhb=>ab (IG d.body _ (by grind)) ?_,λhb=>?_⟩
    .simp only[ai];rw[J2 hb]
    all_goals grind
   .simp only[ai];have hf:((cJ d.aq++lL d.ah++if iR d.kind then jU d.body else[]).filter (dA p)).length<=d.wt:=TQ (UK _ _) hraw;refine ab (zP p _ (by have:=hp.d;omega) Q0) ?_;simp only[ai];refine ab (hS _ Q0) ?_;simp only[ai];refine ab (ru _ (by rw[Ah];omega)) ?_;simp only[ai];rw[hu]
 all_goals grind [aR]
theorem HM(hS:uN){p:au}(hp:BM p):IS s63 [p.enc] [[dI (gU (j1 (p.aa.map an.id)))]]:=by
 have hd:=hp.d;refine w63.is ?_;unfold g63;have hc:cell p.enc 1=.sl p.aa.length 31 (p.aa.flatMap an.enc):=rfl;simp only[ai,hc];refine bB [[dI (p.aa.map an.id)]] ?_ ?_
 .refine bc p.aa.length (λk=>[[.sl p.aa.length 31 (p.aa.flatMap an.enc)],[vI (p.aa.length:Int)],[vI (k:Int)],[dI ((p.aa.take k).map an.id)]]) (λ_=>True) trivial rfl λk next hi _ hn=>?_
  have hl:((p.aa.take k).map an.id).length<=p.aa.length:=by simp;omega
  simp only[ai];refine⟨λh=>?_,λh=>?_⟩
  .have hk:k<p.aa.length:=Q0;rw[gE _ hk];simp only[aF];refine⟨Q0,Qa,Q4,?_⟩
   grind [RJ,kh]
  all_goals grind
 .simp only[ai];refine ab (hS _ Qc) ?_;simp only[ai];refine ab (ru _ (by grind [Ah])) ?_;simp only[ai]
def ux(p:au):List av:=j9 [] (p.aa.map an.id)
theorem idsP_eq(p:au):gU (j1 (p.aa.map an.id))=ux p:=Ld λ_=>Ul
theorem Qh(p:au):iY (ux p):=(la TZ).1
theorem Qg(p:au):(ux p).length<=p.aa.length:=by have:=rk (p.aa.map an.id) [];simpa[ux]using this
theorem MK{l:List av}(h:iY l):l.Nodup:=We (λh=>uq h) h
theorem EB{p:au}{out left:List av}{k:Nat}(h:lj p out left=some k)(hk:k<left.length):jS p left.length out left=jS p (left.eraseIdx k).length (out++[left[k]]) (left.eraseIdx k):=by
 obtain⟨n,hn⟩:∃n,left.length=n+1:=⟨left.length-1,Q0⟩;rw[hn,jS,h]
 grind
theorem EA(hS:uN){p:au}(hp:BM p):IS s15 [p.enc] [[dI (jS p (ux p).length [] (ux p)).1],[dI (jS p (ux p).length [] (ux p)).2]]:=by
 have hd:=hp.d;have hlen:=Qg p;have hnd:=MK (Qh p);have hall:=HM hS hp;rw[idsP_eq]at hall;have hs:∀j,(al p j).wt<=800000000000:=λj=>by have:=hp.w j;omega
 refine w15.is ?_;unfold g15;simp only[ai];refine ab hall ?_;simp only[ai];generalize ux p=L at hlen hnd ⊢;refine bB [[dI L],[dI []],[dM (uD p) L]] ?_ ?_
 .refine bc L.length (λk=>[[vI (L.length:Int)],[vI (k:Int)],p.enc,[dI L],[dI []],[dM (uD p) (L.take k)]]) (λ_=>True) trivial rfl λk next hi _ hn=>?_
  simp only[ai];refine⟨λh=>?_,λh=>?_⟩
  .have hk:k<L.length:=Q0;rw[fl _ hk];refine⟨Q0,ab (vU hS hp _) ?_⟩;simp only[ai,aF];have hnot:L[k] ∉ L.take k:=λhm=>by
    grind [R8,Sn,List.pairwise_iff_getElem]
   have:=hn hk trivial;rw[RJ hk]at this;rw[AQ (uD p) _ _ hnot,E0 (uD p) _ _ hnot];refine⟨Q4,?_⟩;have e:((L.take k)++[L[k]]).length=(L.take k).length+1:=by grind
   grind
  all_goals grind
 .simp only[ai];refine cY (σ:=List av×List av) (λs=>[[dI s.2],[dI s.1],[dM (uD p) L]]) (λs=>s.2.length) (λs=>(∀x∈s.2,x∈L)/\s.1.length+s.2.length<=1000/\jS p s.2.length s.1 s.2=jS p L.length [] L) ([],L) ⟨λ_ h=>h,Qc,rfl⟩ rfl ?_;rintro⟨out,left⟩ next ⟨h1,h2,h3⟩ hn
  dsimp only at h1 h2 h3 hn ⊢;simp only[ai];refine ab (CQ p L out left h1 Q0 Q0 hs) ?_;simp only[ai];cases hf:lj p out left with
  |none=>refine⟨λ_=>?_,λh=>J3 (show(-1:Int)<0 by decide) h⟩;rw[<-h3,EC hf]
  |some k =>
   obtain⟨hk,_⟩:=Fw hf;dsimp only;have hel:(left.eraseIdx k).length=left.length-1:=by grind
   refine⟨λh=>by omega,λ_=>⟨Q0,Qa,Q4,ab (Na left k hk Q0) ?_⟩⟩;rw[SF,fl _ hk,kh];simp only[ai];exact hn (out++[left[k]],left.eraseIdx k) (by grind) ⟨λx hx=>h1 x (List.mem_of_mem_eraseIdx hx),by grind,by grind [EB]⟩
open Go.Shelf Go.RowKit Go.Lib Go.Sort
def DN:UN:=⟨fun|6=>78|15=>157|14=>162|28=>209|29=>210|20=>211|21=>212|22=>213|23=>214|24=>215|25=>216|26=>217|27=>218|46=>243|47=>239|48=>240|49=>244|50=>245|57=>262|n=>n,fun|22=>36|24=>42|25=>114|3=>3|39=>207|0=>0|53=>256|55=>258|4=>4|46=>249|45=>248|50=>253|5=>5|9=>9|66=>279|70=>283|76=>293|77=>183|n=>n,fun|n=>n⟩
theorem I1:UQ RH DN:={
 mixed:=by kernel_rfl
 f6:=⟨Tryz.f78.name,Q1,Tryz.func78.trans (J4 some (by kernel_rfl))⟩
 f14:=⟨Tryz.f162.name,Q1,Tryz.func162.trans (J4 some (by kernel_rfl))⟩
 f15:=WJ.trans (J4 some (by kernel_rfl))
 f20:=⟨Tryz.f211.name,Q1,Tryz.func211.trans (J4 some (by kernel_rfl))⟩
 f21:=⟨Tryz.f212.name,Q1,Tryz.func212.trans (J4 some (by kernel_rfl))⟩
 f22:=⟨Tryz.f213.name,Q1,Tryz.func213.trans (J4 some (by kernel_rfl))⟩
 f23:=⟨Tryz.f214.name,Q1,Tryz.func214.trans (J4 some (by kernel_rfl))⟩
 f24:=⟨Tryz.f215.name,Q1,Tryz.func215.trans (J4 some (by kernel_rfl))⟩
 f25:=⟨Tryz.f216.name,Q1,Tryz.func216.trans (J4 some (by kernel_rfl))⟩
 f26:=⟨Tryz.f217.name,Q1,Tryz.func217.trans (J4 some (by kernel_rfl))⟩
 f27:=⟨Tryz.f218.name,Q1,Tryz.func218.trans (J4 some (by kernel_rfl))⟩
 f28:=WK.trans (J4 some (by kernel_rfl))
 f29:=WL.trans (J4 some (by kernel_rfl))
 f46:=⟨Tryz.f243.name,Q1,Tryz.func243.trans (J4 some (by kernel_rfl))⟩
 f47:=WM.trans (J4 some (by kernel_rfl))
 f48:=WN.trans (J4 some (by kernel_rfl))
 f49:=⟨Tryz.f244.name,Q1,Tryz.func244.trans (J4 some (by kernel_rfl))⟩
 f50:=⟨Tryz.f245.name,Q1,Tryz.func245.trans (J4 some (by kernel_rfl))⟩
 f57:=⟨Tryz.f262.name,Q1,Tryz.func262.trans (J4 some (by kernel_rfl))⟩
 t0:=VJ
 a0:=WU
 z0:=WO
 v0:=VS
 t3:=Ta
 a3:=Uf
 z3:=T0
 v3:=TT
 t4:=Tc
 a4:=TH
 z4:=Tv
 v4:=Tj
 t5:=VK
 a5:=WV
 z5:=WQ
 v5:=VT
 t9:=VL
 a9:=WW
 z9:=U5
 v9:=VU
 t22:=Tryz.underlying36
 a22:=Tryz.isAgg36
 z22:=Tryz.sizeOf36
 v22:=Tryz.zeroValue36
 t25:=Tryz.underlying114
 a25:=Tryz.isAgg114
 z25:=Tryz.sizeOf114
 v25:=Tryz.zeroValue114
 t39:=Vi
 a39:=Wt
 z39:=Wf
 v39:=Vv
 t45:=Vj
 a45:=Wu
 z45:=Wg
 v45:=Vw
 t46:=Vk
 a46:=Wv
 z46:=Wh
 v46:=Vx
 t50:=Vl
 a50:=Ww
 z50:=Wi
 v50:=Vy
 t53:=Vm
 a53:=Wx
 z53:=Wj
 v53:=Vz
 t55:=Vn
 a55:=Wy
 z55:=Wl
 v55:=VA
 t66:=Vo
 a66:=Wz
 z66:=Wm
 v66:=VB
 t70:=Vp
 a70:=WA
 z70:=Wn
 v70:=VC
 t76:=Vq
 a76:=WB
 z76:=Wo
 v76:=VD
 t77:=Vr
 a77:=WC
 z77:=Wp
 v77:=VE}
def Nd:UN:=⟨fun|5=>56|7=>158|n=>n,fun|22=>3|3=>3|4=>4|n=>n,fun|n=>n⟩
theorem FZ:Yk RH Nd:={
 mixed:=by kernel_rfl
 f5:=⟨Tryz.f56.name,Q1,Tryz.func56.trans (J4 some (by kernel_rfl))⟩
 f7:=⟨Tryz.f158.name,Q1,Tryz.func158.trans (J4 some (by kernel_rfl))⟩
 t3:=Ta
 a3:=Uf
 z3:=T0
 v3:=TT
 t4:=Tc
 a4:=TH
 z4:=Tv
 v4:=Tj
 t22:=Ta
 a22:=Uf
 z22:=T0
 v22:=TT}
set_option maxHeartbeats 1000000 in
theorem or54(x y z:Int)(b:Nat)(W:R0)(h0:W.cell? ⟨b,0,none⟩=some (.int .i64 x))(h1:W.cell? ⟨b,1,none⟩=some (.int .i64 y))(h2:W.cell? ⟨b,2,none⟩=some (.int .i64 z)) :
  UU RH 54 #[.slice (some ⟨b,0,none⟩) 3 3] W λe w'=>e=.returned (.int .i64 (if x=0 then(if y=0 then z else y) else x))/\w'=W:=by
 generalize hr:(if x=0 then(if y=0 then z else y) else x)=r;go_enter X0,XS;go_wp2;refine wp_loop_rounds 4 ?_;rw[Ux];go_wp2
 .go_ret;refine⟨?_,rfl⟩;simp_all
 rw[Ux];go_wp2
 .go_ret;refine⟨?_,rfl⟩;simp_all
 rw[Ux];go_wp2
 .go_ret;refine⟨?_,rfl⟩;simp_all
 rw[Ux];go_wp2;go_ret;refine⟨?_,rfl⟩;simp_all
theorem al3(W:R0)(a b c:RK)(k:Nat)(v:RK)(hk:#[a,b,c][k]?=some v):(W.alloc (.cells #[a,b,c] 3)).cell? ⟨W.heap.size,k,none⟩=some v:=by simp_all
set_option maxRecDepth 20000 in
set_option maxHeartbeats 2000000 in
theorem JA(x y:Int×Int×Int)(W:R0):UU RH 55 #[.agg #[.int .i64 x.1,.int .i64 x.2.1,.int .i64 x.2.2],.agg #[.int .i64 y.1,.int .i64 y.2.1,.int .i64 y.2.2]] W λe w' =>
  e=.returned (.int .i64 (if RR x.1 y.1=0 then(if RR x.2.1 y.2.1=0 then RR x.2.2 y.2.2 else RR x.2.1 y.2.1) else RR x.1 y.1))/\∃q os',w'=grow (W.drewN q) os':=by
 have hcmp:∀(a b:Int) (W':R0),UU RH 56 #[.int .i64 a,.int .i64 b] W' λe w'=>e=.returned (.int .i64 (RR a b))/\w'=W':=λa b W'=>TU FZ a b W';obtain⟨x1,x2,x3⟩:=x;obtain⟨y1,y2,y3⟩:=y;dsimp only;generalize hr:(if RR x1 y1=0 then(if RR x2 y2=0 then RR x3 y3 else RR x2 y2) else RR x1 y1)=r;go_enter Tryz.func55,Tryz.ntmps55;go_wp2;have hg:(W.alloc (.cells #[.int .i64 x1,.int .i64 x2,.int .i64 x3] 42)).alloc (.cells #[.int .i64 y1,.int .i64 y2,.int .i64 y3] 42)=grow W #[.cells #[.int .i64 x1,.int .i64 x2,.int .i64 x3] 42,.cells #[.int .i64 y1,.int .i64 y2,.int .i64 y3] 42]:=by
  grind [alloc_eq_grow,grow_grow]
 rw[hg];have c1:(grow W #[.cells #[.int .i64 x1,.int .i64 x2,.int .i64 x3] 42,.cells #[.int .i64 y1,.int .i64 y2,.int .i64 y3] 42]).heap[W.heap.size]?=some (.cells #[.int .i64 x1,.int .i64 x2,.int .i64 x3] 42):=by simp[grow]
 have c2:(grow W #[.cells #[.int .i64 x1,.int .i64 x2,.int .i64 x3] 42,.cells #[.int .i64 y1,.int .i64 y2,.int .i64 y3] 42]).heap[W.heap.size+1]?=some (.cells #[.int .i64 y1,.int .i64 y2,.int .i64 y3] 42):=by simp[grow]
 generalize hW1:grow W #[.cells #[.int .i64 x1,.int .i64 x2,.int .i64 x3] 42,.cells #[.int .i64 y1,.int .i64 y2,.int .i64 y3] 42]=W1 at c1 c2 ⊢;refine Zg 15 (by kernel_rfl) (by kernel_rfl) ?_;simp only[SO,TB,SV,Te];generalize hW2:({heap:=W1.heap,tape:=W1.tape,drawn:=W1.drawn+1,os:=W1.os,output:=W1.output}:R0)=W2;have c10:W2.cell? ⟨W.heap.size,0,none⟩=some (.int .i64 x1):=by grind [SU]
 have c11:W2.cell? ⟨W.heap.size,1,none⟩=some (.int .i64 x2):=by grind [SU]
 have c12:W2.cell? ⟨W.heap.size,2,none⟩=some (.int .i64 x3):=by grind [SU]
 have c20:W2.cell? ⟨W.heap.size+1,0,none⟩=some (.int .i64 y1):=by grind [SU]
 have c21:W2.cell? ⟨W.heap.size+1,1,none⟩=some (.int .i64 y2):=by grind [SU]
 have c22:W2.cell? ⟨W.heap.size+1,2,none⟩=some (.int .i64 y3):=by grind [SU]
 repeat still_step
 still_call (hcmp _ _ _)
 repeat still_step
 still_call (hcmp _ _ _)
 repeat still_step
 still_call (hcmp _ _ _)
 refine wpStill_nil ?_;have hor:UU RH 54 #[.slice (some ⟨W2.heap.size,0,none⟩) 3 3] (W2.alloc (.cells #[.int .i64 (RR x1 y1),.int .i64 (RR x2 y2),.int .i64 (RR x3 y3)] 3)) _ :=
  or54 (RR x1 y1) (RR x2 y2) (RR x3 y3) W2.heap.size _ (al3 _ _ _ _ _ _ rfl) (al3 _ _ _ _ _ _ rfl) (al3 _ _ _ _ _ _ rfl)
 rw[hr]at hor
 go_wp2_with (go_at_call 54;refine hor.mono ?_;rintro e w' ⟨rfl,rfl⟩)
 go_ret;refine⟨rfl,1,#[.cells #[.int .i64 x1,.int .i64 x2,.int .i64 x3] 42,.cells #[.int .i64 y1,.int .i64 y2,.int .i64 y3] 42,.cells #[.int .i64 (RR x1 y1),.int .i64 (RR x2 y2),.int .i64 (RR x3 y3)] 3],?_⟩;rw[<-hW2,<-hW1,alloc_eq_grow];rfl
end Go.Proofs.YtmbboaapillefaaGreatDoor
namespace Go
open Xe
section
variable {P:RV} {ops:Array Oper} {md:Zz} {C:R0->Prop}
def rF(P:RV)(md:Zz)(ops:Array Oper)(C:R0->Prop)(n:Nat)(L:Array Bool->Act->Prop):Nat->Array Bool->Act->Prop
 |0,listed,a=>L listed a
 |f+1,listed,a =>
  Up md ops listed≠[]/\∀i∈Up md ops listed,i<n/\qOp P ops C i (rF P md ops C n L f (listed.setIfInBounds i true)) a
theorem nZ{n g:Nat}{L:Array Bool->Act->Prop}{Q':Exit->Act->R0->Prop}(hL:∀listed a w,C w->L listed a->wpAny P md ops Q' g listed a w) :
  ∀(f:Nat) (listed:Array Bool) (a:Act) (w:R0),C w->rF P md ops C n L f listed a->wpAny P md ops Q' (f+g) listed a w
 |0,listed,a,w,hw,h=>by rw[Sz];exact hL _ _ _ hw h
 |f+1,listed,a,w,hw,h=>by rw[show f+1+g=(f+g)+1 by omega];exact⟨λh0=>J3 h0 h.1,λi hi=>wpOp_of_qOp hw (λa' w' hw' h'=>nZ hL f _ a' w' hw' h') (h.2 i hi).2⟩
theorem zD{n i:Nat}{oi:Oper}{v:RK}{L:Array Bool->Act->Prop}(hi:ops[i]?=some oi)(hsel:∀(j:Nat) (o:Oper) cs b,ops[j]?=some o->o.op≠.select cs b)
  (hs:Zq md ops n=true) (hc:Zh md ops n=true) (hn:n<ops.size) (hin:i<n)
  (hdone:∀listed a,L listed a->∀j∈Up md ops listed,n<=j) :
  ∀(f:Nat) (listed:Array Bool) (a:Act),HeadInv md ops n listed ->
   (∀j oj,ops[j]?=some oj->j≠i->listed.getD j true=false->(∀e∈oj.after,Ud md e=true->e.on≠i)->oi.apart ops oj=true) ->
   i∈Up md ops listed->YieldsIn P ops C oi v a ->
   rF P md ops C n L f (listed.setIfInBounds i true) (a.put oi.dst v)->rF P md ops C n L (f+1) listed a:=by
 intro f;induction f with
 |zero =>
  intro listed a inv _ hr hy H;have hun:=(mem_ready.1 hr).1;refine⟨λh=>(by grind),λj hj=>?_⟩;have hjn:j<n:=by
   rcases Xc j n with h|h
   .exact h
   .exact J3 hj (tail_waits hs hc hn inv _ i rfl hin hun j h)
  refine⟨hjn,?_⟩;by_cases hji:j=i
  .subst hji;exact hy.qOp hi H
  .have:=hdone _ _ H j (ZA hj hji);omega
 |succ f ih =>
  intro listed a inv hfree hr hy H;have hun:=(mem_ready.1 hr).1;refine⟨λh=>(by grind),λj hj=>?_⟩;have hjn:j<n:=by
   rcases Xc j n with h|h
   .exact h
   .exact J3 hj (tail_waits hs hc hn inv _ i rfl hin hun j h)
  refine⟨hjn,?_⟩;by_cases hji:j=i
  .subst hji;exact hy.qOp hi H
  .have h1:=(H.2 j (ZA hj hji)).2;obtain⟨hjun,oj,hoj,hall⟩:=mem_ready.1 hj;have hnot:∀e∈oj.after,Ud md e=true->e.on≠i:=λe he hb heq=>by
    grind
   have h2:=qOp_put hoj (hfree j oj hoj hji hjun hnot) (λcs b=>hsel i oi cs b hi) (λcs b=>hsel j oj cs b hoj) hy h1;have hfree':∀k ok,ops[k]?=some ok->k≠i->(listed.setIfInBounds j true).getD k true=false ->
     (∀e∈ok.after,Ud md e=true->e.on≠i)->oi.apart ops ok=true:=λk ok hk hki hun hno=>by
    refine hfree k ok hk hki ?_ hno;by_cases hjk:j=k
    .subst hjk;exact hjun
    .rw[getD_set_ne true hjk]at hun;exact hun
   refine qOp_mono (λa' h3=>ih (listed.setIfInBounds j true) a' (inv.set hj hjn) hfree' (ZA hr (Ne.symm hji)) h3.1 ?_) h2;rw[Array.setIfInBounds_comm _ _ hji];exact h3.2
theorem uR{n g:Nat}{Lq:Act->Prop}(hsel:Region.noSelect ops=true)(hs:Zq md ops n=true)(hc:Zh md ops n=true)(hn:n<ops.size) :
  ∀(l:List Oper) (k:Nat) (listed:Array Bool) (a:Act),(∀j,j<l.length->l[j]?=ops[k+j]?)->k+l.length=n->HeadInv md ops n listed ->
  XG md ops g l.length k listed=true->ZQ P ops C Lq l a ->
  rF P md ops C n (λlisted' a'=>Region.seqB md ops g n listed'=true/\Lq a') l.length listed a
 |[],k,listed,a,_,hk,_,hB,h=>by have:k=n:=Q0;subst this;exact⟨by simpa[XG]using hB,h⟩
 |o::l,k,listed,a,hl,hk,inv,hB,h=>by
  have h0:ops[k]?=some o:=by simpa using(hl 0 Q2).symm
  simp only[RU,XG,RP]at hB;obtain⟨⟨hr,hf⟩,hB'⟩:=hB;have hkn:k<n:=by grind
  have hr':k∈Up md ops listed:=by grind
  have hst:qOp P ops C k (ZQ P ops C Lq l) a:=by unfold qOp;simp only[h0];exact h
  obtain⟨v,hy,hK⟩:=yieldsIn_of_qOp h0 hst;exact zD h0 (Region.noSelect_spec hsel) hs hc hn hkn (λlisted' a' hL=>seqB_ready hL.1) l.length listed a inv (Region.free_spec h0 hf) hr' hy
   (uR hsel hs hc hn l (k+1) _ _ (λj hj=>by have:=hl (j+1) Qc;simpa[S8,Un 1 j]using this) (by grind) (inv.set hr' hkn) hB' hK)
theorem nY{id:Nat}{Q:Exit->Act->R0->Prop}{a:Act}{w:R0}{l:List Oper}(n:Nat)(hm:P.follows .mixedOrders=true)(hB:Xx .any l.toArray n=true)(hC:C {w with drawn:=w.drawn+1})
  (h:ZQ P l.toArray C (λa'=>∀w',C w'->wpList P l.toArray Q (l.drop n) a' w') (l.take n) a):(Z0 id l.toArray true).wp P Q a w:=by
 simp only[Xx,RP,decide_eq_true_eq]at hB;obtain⟨⟨⟨⟨hsel,hn⟩,hs⟩,hc⟩,hlex⟩:=hB;have hn':n<l.length:=Q0;have htl:(l.take n).length=n:=by simp;omega
 have hdl:(l.drop n).length=l.toArray.size-n:=Q2;have inv0:HeadInv .any l.toArray n (Array.replicate l.toArray.size false) :=
  ⟨Q2,λj oj _ hl=>(by grind [Zi]),λt _ ht=>getD_in (by grind) (Zi _ _)⟩
 have H:=uR (md:=.any) (g:=l.toArray.size-n) hsel hs hc hn (l.take n) 0 _ a (λj hj=>by
  have hj':j<n:=Q0
  simp[hj']) Q0 inv0 (by grind) h
 refine wp_region_any hm ?_
 have:=nZ (Q':=Q) (g:=l.toArray.size-n) (λlisted a' w' hw' hL=>by
  have:=wpAny_of_seq (md:=.any) (Q':=Q) (l.drop n) n listed a' w' (λj=>by grind) (by grind) (hL.2 w' hw')
  rwa [hdl]at this) _ _ _ _ hC H
 rw[htl,show n+(l.toArray.size-n)=l.toArray.size by omega]at this;exact this
theorem jy{id:Nat}{Q:Exit->Act->R0->Prop}{a:Act}{w:R0}{l:List Oper}(n:Nat)(hm:P.follows .mixedOrders=true)(hB:Xx .any l.toArray n=true)
  (h:ZQ P l.toArray (λw'=>∃p:ZR,w'=Za (w.drewN p.n) p.os) (λa'=>∀w',(∃p:ZR,w'=Za (w.drewN p.n) p.os)->wpList P l.toArray Q (l.drop n) a' w') (l.take n) a):(Z0 id l.toArray true).wp P Q a w :=
 nY (C:=λw'=>∃p:ZR,w'=Za (w.drewN p.n) p.os) n hm hB ⟨⟨1,#[]⟩,by rw[Sort.grow_empty];rfl⟩ h
end
end Go
namespace Go.Proofs.YtmbboaapillefaaGreatDoor
open Go.Shelf Go.RowKit Go.Lib Go.Sort
def Ni(x y:Int×Int×Int):Int:=if RR x.1 y.1=0 then(if RR x.2.1 y.2.1=0 then RR x.2.2 y.2.2 else RR x.2.1 y.2.1) else RR x.1 y.1
set_option maxRecDepth 20000 in
set_option maxHeartbeats 2000000 in
theorem Ci(x y:Int×Int×Int)(W:R0):UU RH 95 #[.agg #[.int .i64 x.1,.int .i64 x.2.1,.int .i64 x.2.2],.agg #[.int .i64 y.1,.int .i64 y.2.1,.int .i64 y.2.2]] W λe w' =>
  e=.returned (.int .i64 (Ni x y))/\∃q os',w'=grow (W.drewN q) os':=by
 unfold Ni;have hcmp:∀(a b:Int) (W':R0),UU RH 56 #[.int .i64 a,.int .i64 b] W' λe w'=>e=.returned (.int .i64 (RR a b))/\w'=W':=λa b W'=>TU FZ a b W';obtain⟨x1,x2,x3⟩:=x;obtain⟨y1,y2,y3⟩:=y;dsimp only;generalize hr:(if RR x1 y1=0 then(if RR x2 y2=0 then RR x3 y3 else RR x2 y2) else RR x1 y1)=r;go_enter Tryz.func95,Tryz.ntmps95;go_wp2;have hg:(W.alloc (.cells #[.int .i64 x1,.int .i64 x2,.int .i64 x3] 42)).alloc (.cells #[.int .i64 y1,.int .i64 y2,.int .i64 y3] 42)=grow W #[.cells #[.int .i64 x1,.int .i64 x2,.int .i64 x3] 42,.cells #[.int .i64 y1,.int .i64 y2,.int .i64 y3] 42]:=by
  grind [alloc_eq_grow,grow_grow]
 rw[hg];have c1:(grow W #[.cells #[.int .i64 x1,.int .i64 x2,.int .i64 x3] 42,.cells #[.int .i64 y1,.int .i64 y2,.int .i64 y3] 42]).heap[W.heap.size]?=some (.cells #[.int .i64 x1,.int .i64 x2,.int .i64 x3] 42):=by simp[grow]
 have c2:(grow W #[.cells #[.int .i64 x1,.int .i64 x2,.int .i64 x3] 42,.cells #[.int .i64 y1,.int .i64 y2,.int .i64 y3] 42]).heap[W.heap.size+1]?=some (.cells #[.int .i64 y1,.int .i64 y2,.int .i64 y3] 42):=by simp[grow]
 generalize hW1:grow W #[.cells #[.int .i64 x1,.int .i64 x2,.int .i64 x3] 42,.cells #[.int .i64 y1,.int .i64 y2,.int .i64 y3] 42]=W1 at c1 c2 ⊢;refine Zg 15 (by kernel_rfl) (by kernel_rfl) ?_;simp only[SO,TB,SV,Te];generalize hW2:({heap:=W1.heap,tape:=W1.tape,drawn:=W1.drawn+1,os:=W1.os,output:=W1.output}:R0)=W2;have c10:W2.cell? ⟨W.heap.size,0,none⟩=some (.int .i64 x1):=by grind [SU]
 have c11:W2.cell? ⟨W.heap.size,1,none⟩=some (.int .i64 x2):=by grind [SU]
 have c12:W2.cell? ⟨W.heap.size,2,none⟩=some (.int .i64 x3):=by grind [SU]
 have c20:W2.cell? ⟨W.heap.size+1,0,none⟩=some (.int .i64 y1):=by grind [SU]
 have c21:W2.cell? ⟨W.heap.size+1,1,none⟩=some (.int .i64 y2):=by grind [SU]
 have c22:W2.cell? ⟨W.heap.size+1,2,none⟩=some (.int .i64 y3):=by grind [SU]
 repeat still_step
 still_call (hcmp _ _ _)
 repeat still_step
 still_call (hcmp _ _ _)
 repeat still_step
 still_call (hcmp _ _ _)
 refine wpStill_nil ?_;have hor:UU RH 54 #[.slice (some ⟨W2.heap.size,0,none⟩) 3 3] (W2.alloc (.cells #[.int .i64 (RR x1 y1),.int .i64 (RR x2 y2),.int .i64 (RR x3 y3)] 3)) _ :=
  or54 (RR x1 y1) (RR x2 y2) (RR x3 y3) W2.heap.size _ (al3 _ _ _ _ _ _ rfl) (al3 _ _ _ _ _ _ rfl) (al3 _ _ _ _ _ _ rfl)
 rw[hr]at hor
 go_wp2_with (go_at_call 54;refine hor.mono ?_;rintro e w' ⟨rfl,rfl⟩)
 go_ret;refine⟨rfl,1,#[.cells #[.int .i64 x1,.int .i64 x2,.int .i64 x3] 42,.cells #[.int .i64 y1,.int .i64 y2,.int .i64 y3] 42,.cells #[.int .i64 (RR x1 y1),.int .i64 (RR x2 y2),.int .i64 (RR x3 y3)] 3],?_⟩;rw[<-hW2,<-hW1,alloc_eq_grow];rfl
structure zr(a:Array RK)(i:Int×Int×Int)(pl:Int):Prop where
 size:a.size=38
 c0:a[0]?=some (.int .i64 i.1)
 c1:a[1]?=some (.int .i64 i.2.1)
 c2:a[2]?=some (.int .i64 i.2.2)
 c10:a[10]?=some (.int .i64 pl)
 one:∀v∈a,v.oneCell'=true
theorem BD{a:Array RK}{i:Nat}{v:RK}(h:i<a.size)(e:a[i]?=some v):a[i]=v:=TW ((Array.getElem?_eq_getElem h).symm.trans e)
set_option maxRecDepth 20000 in
set_option maxHeartbeats 2000000 in
theorem byID99{a b:Array RK}{x y:Int×Int×Int}{p q:Int}(ha:zr a x p)(hb:zr b y q)(W:R0):UU RH 99 #[.agg a,.agg b] W λe w' =>
  e=.returned (.int .i64 (Ni x y))/\∃q os',w'=grow (W.drewN q) os':=by
 obtain⟨_,a0,a1,a2,_,_⟩:=ha;obtain⟨_,b0,b1,b2,_,_⟩:=hb;obtain⟨x1,x2,x3⟩:=x;obtain⟨y1,y2,y3⟩:=y;simp only at a0 a1 a2 b0 b1 b2;have ga:(∀h,a[0]'h=.int .i64 x1)/\(∀h,a[1]'h=.int .i64 x2)/\∀h,a[2]'h=.int .i64 x3:=⟨λh=>BD h a0,λh=>BD h a1,λh=>BD h a2⟩;have gb:(∀h,b[0]'h=.int .i64 y1)/\(∀h,b[1]'h=.int .i64 y2)/\∀h,b[2]'h=.int .i64 y3:=⟨λh=>BD h b0,λh=>BD h b1,λh=>BD h b2⟩;have hor:∀W',UU RH 95 #[.agg #[.int .i64 x1,.int .i64 x2,.int .i64 x3],.agg #[.int .i64 y1,.int .i64 y2,.int .i64 y3]] W' _:=λW'=>Ci (x1,x2,x3) (y1,y2,y3) W';go_enter Tryz.func99,Tryz.ntmps99
 go_wp2_with (go_at_call 95;go_loud (refine(hor _).mono ?_;rintro e w' ⟨rfl,n1,os1,rfl⟩))
 go_ret;refine⟨rfl,n1,#[.cells a 70,.cells b 70]++os1,?_⟩;rw[alloc_eq_grow,alloc_eq_grow,grow_grow];show grow (grow (W.drewN n1) _) os1=_;rw[grow_grow];rfl
set_option maxHeartbeats 1000000 in
theorem or54_2(x y:Int)(b:Nat)(W:R0)(h0:W.cell? ⟨b,0,none⟩=some (.int .i64 x))(h1:W.cell? ⟨b,1,none⟩=some (.int .i64 y)) :
  UU RH 54 #[.slice (some ⟨b,0,none⟩) 2 2] W λe w'=>e=.returned (.int .i64 (if x=0 then y else x))/\w'=W:=by
 generalize hr:(if x=0 then y else x)=r;go_enter X0,XS;go_wp2;refine wp_loop_rounds 3 ?_;rw[Ux];go_wp2
 .go_ret;refine⟨?_,rfl⟩;simp_all
 rw[Ux];go_wp2
 .go_ret;refine⟨?_,rfl⟩;simp_all
 rw[Ux];go_wp2;go_ret;refine⟨?_,rfl⟩;simp_all
theorem al2(W:R0)(a b:RK)(k:Nat)(v:RK)(hk:#[a,b][k]?=some v):(W.alloc (.cells #[a,b] 3)).cell? ⟨W.heap.size,k,none⟩=some v:=by simp_all
theorem om{f:Nat}{args:Array RK}{W:R0}{n:Nat}{os:Array Obj}{v:RK}(h:UU RH f args (grow (W.drewN n) os) λe w'=>e=.returned v/\w'=grow (W.drewN n) os):UU RH f args (grow (W.drewN n) os) λe w''=>e=.returned v/\∃p:ZR,w''=grow (W.drewN p.n) p.os :=
 h.mono λ_ _ h=>⟨h.1,⟨n,os⟩,h.2⟩
set_option maxRecDepth 20000 in
set_option maxHeartbeats 4000000 in
theorem Ie{a b:Array RK}{x y:Int×Int×Int}{p q:Int}(ha:zr a x p)(hb:zr b y q)(W:R0):UU RH 107 #[.agg a,.agg b] W λe w' =>
  e=.returned (.int .i64 (if RR p q=0 then Ni x y else RR p q))/\∃q os',w'=grow (W.drewN q) os':=by
 have hmix:RH.follows .mixedOrders=true:=by kernel_rfl
 obtain⟨_,a0,a1,a2,a10,_⟩:=ha;obtain⟨_,b0,b1,b2,b10,_⟩:=hb;obtain⟨x1,x2,x3⟩:=x;obtain⟨y1,y2,y3⟩:=y;simp only at a0 a1 a2 b0 b1 b2;have hcmp:∀(a b:Int) (W':R0),UU RH 56 #[.int .i64 a,.int .i64 b] W' λe w'=>e=.returned (.int .i64 (RR a b))/\w'=W':=λa b W'=>TU FZ a b W';have hor:∀W',UU RH 95 #[.agg #[.int .i64 x1,.int .i64 x2,.int .i64 x3],.agg #[.int .i64 y1,.int .i64 y2,.int .i64 y3]] W' _:=λW'=>Ci (x1,x2,x3) (y1,y2,y3) W';generalize Ni (x1,x2,x3) (y1,y2,y3)=r3 at hor ⊢;generalize hr:(if RR p q=0 then r3 else RR p q)=r;go_enter Tryz.func107,Tryz.ntmps107;go_wp2;have hg:(W.alloc (.cells a 70)).alloc (.cells b 70)=grow W #[.cells a 70,.cells b 70]:=by
  grind [alloc_eq_grow,grow_grow]
 rw[hg];have hsz:(grow W #[.cells a 70,.cells b 70]).heap.size=W.heap.size+2:=by simp[grow]
 have c1:∀(k:Nat) (v:RK),a[k]?=some v->(grow W #[.cells a 70,.cells b 70]).cell? ⟨W.heap.size,k,none⟩=some v:=λk v h=>by
  have:(grow W #[.cells a 70,.cells b 70]).heap[W.heap.size]?=some (.cells a 70):=by simp[grow]
  grind [SU]
 have c2:∀(k:Nat) (v:RK),b[k]?=some v->(grow W #[.cells a 70,.cells b 70]).cell? ⟨W.heap.size+1,k,none⟩=some v:=λk v h=>by
  have:(grow W #[.cells a 70,.cells b 70]).heap[W.heap.size+1]?=some (.cells b 70):=by simp[grow]
  grind [SU]
 generalize hW1:grow W #[.cells a 70,.cells b 70]=W1 at hsz c1 c2 ⊢;have d1:∀(k:Nat) (v:RK),a[k]?=some v->∀n os,(grow (W1.drewN n) os).cell? ⟨W.heap.size,k,none⟩=some v:=λk v h n os=>Yl (by grind) (c1 k v h) n os;have d2:∀(k:Nat) (v:RK),b[k]?=some v->∀n os,(grow (W1.drewN n) os).cell? ⟨W.heap.size+1,k,none⟩=some v:=λk v h n os=>Yl (by grind) (c2 k v h) n os;have p0:=d1 0 _ a0;have p1:=d1 1 _ a1;have p2:=d1 2 _ a2;have p10:=d1 10 _ a10;have q0:=d2 0 _ b0;have q1:=d2 1 _ b1;have q2:=d2 2 _ b2;have q10:=d2 10 _ b10;clear d1 d2 c1 c2;refine jy 10 hmix (by kernel_rfl) ?_;simp only[SO,TB,SV,Te]
 repeat (quiet_step (first|(go_at_call 56;refine om (hcmp _ _ _))|(go_at_call 95;refine Zj (hor _))))
 refine wpQuiet_nil ?_;rintro w' ⟨⟨n2,os2⟩,rfl⟩;dsimp only;generalize hW2:grow (W1.drewN n2) os2=W2;have hor2:UU RH 54 #[.slice (some ⟨W2.heap.size,0,none⟩) 2 2] (W2.alloc (.cells #[.int .i64 (RR p q),.int .i64 r3] 3)) _:=or54_2 (RR p q) r3 W2.heap.size _ (al2 _ _ _ _ _ rfl) (al2 _ _ _ _ _ rfl);rw[hr]at hor2
 go_wp2_with (go_at_call 54;refine hor2.mono ?_;rintro e w' ⟨rfl,rfl⟩)
 go_ret;refine⟨rfl,n2,#[.cells a 70,.cells b 70]++os2++#[.cells #[.int .i64 (RR p q),.int .i64 r3] 3],?_⟩;rw[<-hW2,<-hW1,alloc_eq_grow,grow_grow];show grow (grow (W.drewN n2) _) _=_;rw[grow_grow,YF]
structure IB(a:Array RK)(co:Int)(i:Int×Int×Int)(k:Int):Prop where
 size:a.size=6
 c0:a[0]?=some (.int .i64 co)
 c1:a[1]?=some (.int .i64 i.1)
 c2:a[2]?=some (.int .i64 i.2.1)
 c3:a[3]?=some (.int .i64 i.2.2)
 c4:a[4]?=some (.int .i64 k)
set_option maxRecDepth 20000 in
set_option maxHeartbeats 4000000 in
theorem conf53{a b:Array RK}{x y:Int×Int×Int}{c d p q:Int}(ha:IB a c x p)(hb:IB b d y q)(hcmpE:∀(a b:Int) (W':R0),UU RH 57 #[.int .i64 a,.int .i64 b] W' λe w'=>e=.returned (.int .i64 (RR a b))/\w'=W')(W:R0):UU RH 53 #[.agg a,.agg b] W λe w' =>
  e=.returned (.int .i64 (if Ni x y=0 then(if RR p q=0 then RR c d else RR p q) else Ni x y))/\∃q os',w'=grow (W.drewN q) os':=by
 have hmix:RH.follows .mixedOrders=true:=by kernel_rfl
 obtain⟨_,a0,a1,a2,a3,a4⟩:=ha;obtain⟨_,b0,b1,b2,b3,b4⟩:=hb;obtain⟨x1,x2,x3⟩:=x;obtain⟨y1,y2,y3⟩:=y;simp only at a1 a2 a3 b1 b2 b3;have hcmp:∀(a b:Int) (W':R0),UU RH 56 #[.int .i64 a,.int .i64 b] W' λe w'=>e=.returned (.int .i64 (RR a b))/\w'=W':=λa b W'=>TU FZ a b W';have hor:∀W',UU RH 55 #[.agg #[.int .i64 x1,.int .i64 x2,.int .i64 x3],.agg #[.int .i64 y1,.int .i64 y2,.int .i64 y3]] W' λe w'=>e=.returned (.int .i64 (Ni (x1,x2,x3) (y1,y2,y3)))/\∃q os',w'=grow (W'.drewN q) os':=λW'=>JA (x1,x2,x3) (y1,y2,y3) W';generalize Ni (x1,x2,x3) (y1,y2,y3)=r3 at hor ⊢;generalize hr:(if r3=0 then(if RR p q=0 then RR c d else RR p q) else r3)=r;go_enter Tryz.func53,Tryz.ntmps53;go_wp2;have hg:(W.alloc (.cells a 57)).alloc (.cells b 57)=grow W #[.cells a 57,.cells b 57]:=by
  grind [alloc_eq_grow,grow_grow]
 rw[hg];have hsz:(grow W #[.cells a 57,.cells b 57]).heap.size=W.heap.size+2:=by simp[grow]
 have c1:∀(k:Nat) (v:RK),a[k]?=some v->(grow W #[.cells a 57,.cells b 57]).cell? ⟨W.heap.size,k,none⟩=some v:=λk v h=>by
  have:(grow W #[.cells a 57,.cells b 57]).heap[W.heap.size]?=some (.cells a 57):=by simp[grow]
  grind [SU]
 have c2:∀(k:Nat) (v:RK),b[k]?=some v->(grow W #[.cells a 57,.cells b 57]).cell? ⟨W.heap.size+1,k,none⟩=some v:=λk v h=>by
  have:(grow W #[.cells a 57,.cells b 57]).heap[W.heap.size+1]?=some (.cells b 57):=by simp[grow]
  grind [SU]
 generalize hW1:grow W #[.cells a 57,.cells b 57]=W1 at hsz c1 c2 ⊢;have d1:∀(k:Nat) (v:RK),a[k]?=some v->∀n os,(grow (W1.drewN n) os).cell? ⟨W.heap.size,k,none⟩=some v:=λk v h n os=>Yl (by grind) (c1 k v h) n os;have d2:∀(k:Nat) (v:RK),b[k]?=some v->∀n os,(grow (W1.drewN n) os).cell? ⟨W.heap.size+1,k,none⟩=some v:=λk v h n os=>Yl (by grind) (c2 k v h) n os;have p0:=d1 0 _ a0;have p1:=d1 1 _ a1;have p2:=d1 2 _ a2;have p3:=d1 3 _ a3;have p4:=d1 4 _ a4;have q0:=d2 0 _ b0;have q1:=d2 1 _ b1;have q2:=d2 2 _ b2;have q3:=d2 3 _ b3;have q4:=d2 4 _ b4;clear d1 d2 c1 c2;refine jy 15 hmix (by kernel_rfl) ?_;simp only[SO,TB,SV,Te]
 repeat (quiet_step (first|(go_at_call 55;refine Zj (hor _))|(go_at_call 56;refine om (hcmp _ _ _))|(go_at_call 57;refine om (hcmpE _ _ _))))
 refine wpQuiet_nil ?_;rintro w' ⟨⟨n2,os2⟩,rfl⟩;dsimp only;generalize hW2:grow (W1.drewN n2) os2=W2;have hor2:UU RH 54 #[.slice (some ⟨W2.heap.size,0,none⟩) 3 3] (W2.alloc (.cells #[.int .i64 r3,.int .i64 (RR p q),.int .i64 (RR c d)] 3)) _:=or54 r3 (RR p q) (RR c d) W2.heap.size _ (al3 _ _ _ _ _ _ rfl) (al3 _ _ _ _ _ _ rfl) (al3 _ _ _ _ _ _ rfl);rw[hr]at hor2
 go_wp2_with (go_at_call 54;refine hor2.mono ?_;rintro e w' ⟨rfl,rfl⟩)
 go_ret;refine⟨rfl,n2,#[.cells a 57,.cells b 57]++os2++#[.cells #[.int .i64 r3,.int .i64 (RR p q),.int .i64 (RR c d)] 3],?_⟩;rw[<-hW2,<-hW1,alloc_eq_grow,grow_grow];show grow (grow (W.drewN n2) _) _=_;rw[grow_grow,YF]
end Go.Proofs.YtmbboaapillefaaGreatDoor
namespace Go.Proofs.YtmbboaapillefaaGreatDoor
open Go Go.Shelf Go.RowKit Go.Lib Xe Pm
theorem _root_.Xe.St.below{w0 w w':R0}{M:Mem}{Γ:List As}(h:St w0 M Γ w)(hb:Below w.heap.size w w'):St w0 M Γ w':=by
 refine⟨hb.os.trans h.os,hb.tape.trans h.tape,hb.output.trans h.output,TQ h.size hb.size,λb o hm=>?_,λx hx=>?_,h.nodup⟩
 .rw[hb.block b (h.lt hm)];exact h.mem b o hm
 .have hx':=h.all x hx;exact As.fz hx' (Sub.refl M) λb hbk=>⟨hb.block b (As.bk hx' hbk).1,(As.bk hx' hbk).2⟩
theorem _root_.Xe.St.rowNew{w0 w:R0}{M:Mem}{Γ:List As}{B e sz n:Nat}{v:RK}{us:List RK}(h:St w0 M Γ w)(ho:w.ownsRow B e sz v n us)(hM:∀b,v.ownBlock=some b->M b=none)(hG:∀b,v.ownBlock=some b->b ∉ Γ.filterMap As.gx):St w0 M (.acc v e sz n us::Γ) w:=by
 refine⟨h.os,h.tape,h.output,h.size,h.mem,λx hx=>?_,?_⟩
 .rcases RO.1 hx with rfl|hx
  .refine⟨⟨ho.1,?_⟩,hM⟩;rcases ho.2 with h2|⟨g,cap,cur,h2,h3,h4⟩
   all_goals grind
  .exact h.all x hx
 .rw[List.filterMap_cons];cases hv:v.ownBlock with
  |none=>simpa[As.gx,hv]using h.nodup
  |some b=>have:=SG.2 ⟨hG b hv,h.nodup⟩;simpa[As.gx,hv]using this
set_option maxHeartbeats 2000000 in
set_option maxRecDepth 100000 in
theorem Ng{P:RV}{ρ:UN}(L:UL P ρ)(i0:TypeInfo)(z:RK)(size bytes:Nat)(hi:P.info? (ρ.t 23)=some i0)(hz0:i0.zero=some z)(hz1:i0.size=size)(hz2:i0.bytes=bytes)(hzs:z.cells.size=size)(hsz:0<size)
  (z23:∀w,(Go.sizeOf (ρ.t 23)).run P w=.ok size w) (p:Addr) (n c:Nat) (news:List RK) (w:R0) (hl:news.length=n*size) (hn:n<=maxLen) (hbig:n*bytes<=140737488355328)
  (hc:∀j u,news[j]?=some u->w.cell? (p.add j)=some u) (h1:∀u∈news,u.oneCell'=true) :
  UU P (ρ.f 41) #[.slice (some p) n c] w λe w'=>∃v',e=.returned v'/\w'.ownsRow w.heap.size (ρ.t 23) size v' n news/\Below w.heap.size w w':=by
 have mixed:=L.mixed;have t4:=L.t4;have a4:=L.a4;have z4:=L.z4;have v4:=L.v4;have t22:=L.t22;have a22:=L.a22;have z22:=L.z22;have v22:=L.v22;have q22:∀(w:R0) (a:Option Addr) (n c n' c':Nat),(binOp .eql (ρ.t 22) (.slice a n c) (.slice none n' c')).run P w=.ok (.bool a.isNone) w:=λw a n c n' c'=>Lib.run_eql_slice_nil w _ _ a n c n' c' L.t22;have u22:∀w,Sem.run P (underlying (ρ.t 22)) w=.ok (TypeDesc.slice (ρ.t 23)) w:=run_underlying t22;have A:Aside (∀j u,news[j]?=some u->w.cell? (p.add j)=some u):=hc;clear hc;obtain⟨_,_,FG⟩:=L.f41;go_enter FG,ZS ρ
 go_wp2_with (at_builtin;refine wpList_append_own _ rfl _ _ (ρ.t 22) rfl w.heap.size (ρ.t 23) i0 z size bytes t22 hi hz0 hz1 hz2 hzs hsz _ _ _ rfl (World.ownsRow_made w #[] 0 (Sc _) (Sy _) Q2) p n c news rfl ?qc1 ?qc2 ?qc3 ?qc4 ?qc5 ?qc6 ?_)
 case qc1=>exact hl
 case qc2=>intro j u hj;exact Lib.cell?_alloc_some _ (A.out j u hj)
 case qc3=>exact h1
 case qc4=>rw[Sz];exact hn
 case qc5=>rw[Sz];exact hbig
 case qc6=>simp
 intro v' w1 hown hgrow _;go_wp2;go_ret;refine⟨v',rfl,Q0,?_⟩;exact((Below.refl _ w).alloc (Sc _) _).grown hgrow Q2 (by grind [Value.ownBlock])
theorem xO{M:Mem}{a:Option Addr}{i:Nat}:∀{cs:List D} (_:po M a i cs),∃us:List RK,bz M cs us/\∀j u,us[j]?=some u->ee M (gd a (i+j))=some u:=by
 intro cs h;induction cs generalizing i with
 |nil=>exact⟨[],bz.nil _,λj u h=>by simp at h⟩
 |cons d ds ih =>
  simp only[po]at h;obtain⟨⟨u,h1,h2⟩,h3⟩:=h;obtain⟨us,h4,h5⟩:=ih h3;refine⟨u::us,bz.cons h2 h4,λj x hj=>?_⟩;cases j with
  |zero =>
   obtain rfl:u=x:=by simpa using hj
   exact h1
  |succ j=>have:=h5 j x (by grind);rw[show i+(j+1)=i+1+j by omega];exact this
theorem rd_one{M:Mem}{d:D}{u:RK}(h:Rd M d u):u.oneCell'=true:=by
 cases d with
 |v x=>unfold Rd at h;rw[h.1];exact h.2
 |sl n sz cs=>unfold Rd at h;obtain⟨a,c,h1,_⟩:=h;rw[h1];rfl
theorem B6{M:Mem}{ds:List D}{us:List RK}(h:bz M ds us):∀u∈us,u.oneCell'=true:=λu hu=>by obtain⟨k,hk,rfl⟩:=R8.1 hu;have hl:=h.1;exact rd_one (h.2 k _ _ (R5 (by omega:k<ds.length)) (R5 hk))
theorem uH{f E sz bytes:Nat}{ρ:UN}(L:UL RH ρ)(hf:ρ.f 41=f)(hE:ρ.t 23=E)(i0:TypeInfo)(z:RK)(hi:RH.info? E=some i0)(hz0:i0.zero=some z)(hz1:i0.size=sz)(hz2:i0.bytes=bytes)(hzs:z.cells.size=sz)(hsz:0<sz)
  (z23:∀w,(Go.sizeOf E).run RH w=.ok sz w) {n:Nat} {ds:List D} (hn:n<=lim) (hbig:n*bytes<=140737488355328) :
  IS ⟨f,⟨[(0,.c .d)],[]⟩,.c (.w 0),[(0,.w E sz)],false⟩ [[.sl n sz ds]] [[.sl n sz ds]]:=by
 subst hf hE;refine uv (e:=ρ.t 23) (sz:=sz) rfl rfl rfl hn ?_;intro w0 M Γ vs hlen hpl hN;obtain⟨a,rfl⟩:∃a,vs=[a]:=by
  match vs,hlen with
  |[a],_=>exact⟨a,rfl⟩
 obtain h0|⟨_,h0,h1⟩:=hpl 0
 .cases h0
 cases h0;have hr:Rd M (.sl n sz ds) a:=h1;unfold Rd at hr;obtain⟨ad,c,rfl,hnc,hcm,hnl,hdl,hsm,hrc⟩:=hr;intro w hst;cases ad with
 |none =>
  have hn0:n=0:=by
   grind
  subst hn0;have hds:ds=[]:=List.eq_nil_of_length_eq_zero Q0;subst hds;refine(AnyE.slices_Clone_nil L 0 c w).mono ?_;rintro e w' ⟨rfl,rfl⟩;exact⟨_,_,_,rfl,⟨none,0,[],rfl,Sub.refl _,rfl,bz.nil _,Q2⟩,hst.tt _ _⟩
 |some p =>
  obtain⟨us,hus,hcl⟩:=xO hrc;have yB:us.length=n*sz:=by rw[hus.1,hdl]
  refine(Ng L i0 z sz bytes hi hz0 hz1 hz2 hzs hsz z23 p n c us w yB Q0 hbig (λj u hj=>?_) (B6 hus)).mono ?_
  .have h5:=hcl j u hj;rw[Sz]at h5;exact hst.cell h5
  .rintro e w' ⟨v',rfl,hown,hbel⟩;have hst':=hst.below hbel;have hlt:=λk hk=>(hown.lt k hk).1;refine⟨v',M,.acc v' (ρ.t 23) sz n us::Γ,rfl,?_,hst'.rowNew hown (λb hb=>?_) λb hb hm=>?_⟩
   .rcases hown.2 with⟨h6,h7⟩|⟨g,cap,cur,h6,_⟩
    .subst h7;exact⟨none,0,us,h6,Sub.refl _,by rw[h6],hus,yB⟩
    .exact⟨_,cap,us,h6,Sub.refl _,by rw[h6],hus,yB⟩
   .cases hM:M b with
    |none=>rfl
    |some o=>have:=hst.lt hM;have:=hlt b hb;omega
   .obtain⟨x,hx,hxb⟩:=List.mem_filterMap.1 hm;have:=(As.bk (hst.all x hx) hxb).1;have:=hlt b hb;omega
end Go.Proofs.YtmbboaapillefaaGreatDoor
