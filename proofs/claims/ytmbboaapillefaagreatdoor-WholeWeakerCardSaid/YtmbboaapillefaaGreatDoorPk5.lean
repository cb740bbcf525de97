/- Wx5, Wx1, Wx6, Wq5, Wq6, Wq7, Wq8, Wq9, Wq10, Wq11, Wp3, Wp4, Wp5, Wp6, Wq12, Wq13, Wq14, Wq15, Wq16, Wq17, Wq18, Wq19, Wq20, Wq21, Wq22, Wq23, Wx7, Wx8, Wx2, ZwcatTab, ZwcatC, Wx3, Wx11, PmZl, Wy1, Wy2, Wy3, Wy4, Wy5, Wy6, Wy7, Wy8, Wy9, Wy10, Wy11, Wy12, Wy13, Wy14, Zry, put together. -/
import Derived.Test.YtmbboaapillefaaGreatDoorPk4
import Derived.Shelf.SlicesE.Clone
import Derived.Test.YtmbboaapillefaaGreatDoorProg
import Derived.KernelRfl
open Array renaming getElem?_eq_getElem->Um,append_assoc->XE,getElem?_append_left->Wm,getElem?_modify->W8
open Bool renaming not_eq_true'->TB,false_eq_true->Uk,not_false->Sj,not_true->Ry,and_eq_true->QA,eq_false_iff->X3,true_or->UD,false_or->Tq,or_false->Xj
open ByteArray renaming mk->QX,empty->Xr
open Decidable renaming not_not->Xa
open Go renaming World->QL,Calls->T8,Value->Qw,rounds_succ->UX,cell_grown->Xm
open Go.Calls renaming grown_of->Yi
open Go.Lib renaming compareInt->QJ
open Go.Proofs.AnyG renaming cmp_Compare_int->Tc
open Go.Proofs.SlBodyN renaming n41_ntmps->YR
open Go.Proofs.SlLaysC2 renaming n5->Xl
open Go.Proofs.SlLaysE0 renaming n41->Tl
open Go.Proofs.SlLaysF0 renaming n6->Uc
open Go.Proofs.Tryz renaming prog->Qu,func95->WQ,func99->WR,func107->Wz,func53->WS,func157->WB,func209->WC,func210->WD,func239->WE,func240->WG,underlying0->VG,isAgg0->WU,sizeOf0->WH,zeroValue0->VO,underlying3->Sc,isAgg3->Tw,sizeOf3->Tk,zeroValue3->SY,underlying4->Sd,isAgg4->SG,sizeOf4->SC,zeroValue4->Si,underlying5->VH,isAgg5->WV,sizeOf5->WI,zeroValue5->VP,underlying9->VI,isAgg9->WW,sizeOf9->UC,zeroValue9->VQ,underlying65->Sb,underlying207->Va,isAgg207->Wn,sizeOf207->VV,zeroValue207->Vr,underlying248->Vb,isAgg248->Wo,sizeOf248->VW,zeroValue248->Vs,underlying249->Vc,isAgg249->Wp,sizeOf249->VX,zeroValue249->Vt,underlying253->Vd,isAgg253->Wq,sizeOf253->VY,zeroValue253->Vu,underlying256->Ve,isAgg256->Wr,sizeOf256->VZ,zeroValue256->Vv,underlying258->Vf,isAgg258->Ws,sizeOf258->V0,zeroValue258->Vw,underlying279->Vg,isAgg279->Wt,sizeOf279->Wa,zeroValue279->Vx,underlying283->Vh,isAgg283->Wu,sizeOf283->Wb,zeroValue283->Vy,underlying293->Vi,isAgg293->Wv,sizeOf293->Wc,zeroValue293->Vz,underlying183->Vj,isAgg183->Ww,sizeOf183->We,zeroValue183->VA,isAgg42->WJ,sizeOf42->Uy,isAgg70->WK,sizeOf70->Wx,underlying195->Ss,underlying224->Vk,underlying245->Vl
open Go.Shelf renaming Ren->TO
open Go.Value renaming ownBlock->RN
open Go.Value.slice renaming injEq->Ri
open Go.World renaming cell?->RQ
open Int renaming le_refl->RC,toNat_natCast->Rx,toNat->Qr
open List renaming take_succ_cons->RK,take_zero->Sz,drop_succ_cons->RS,drop_zero->RR,mem_cons->Qz,filterMap_cons->Rh,nodup_cons->Rw,mem_iff_getElem->QO,getElem?_eq_getElem->QQ,eq_nil_of_length_eq_zero->Rg,flatMap_cons->QD,getElem_cons_zero->UL,length_cons->QG,length_append->QC,mem_cons_self->Qt,mem_cons_of_mem->Qx,map_cons->QT,mergeSort_perm->XG,pairwise_mergeSort->W5,length_mergeSort->Xn,mem_singleton->QI,size_toArray->Uu,pairwise_iff_getElem->Sy,pairwise_map->Sf,length_map->QS,sum_cons->SN,getElem_mem->QB,take_succ_eq_append_getElem->Qv,map_append->Rb,map_nil->R5,append_nil->QF,append_assoc->QU,take_length->Re,drop_of_length_le->UI,take_of_length_le->Rj,find?_cons->Uh,drop->Sr,nodup_append->R7,mem_map_of_mem->Rl,eraseIdx_eq_take_drop_succ->Vq,flatMap_append->QV,filter_cons->TE,nil_append->Rk,cons_append->Rm,replicate->QY,range->UQ,map_map->R3,map_congr_left->TM,pairwise_lt_range->W9,ext_getElem->T5,getElem_map->RG,length_set->Sl,drop_eq_getElem_cons->S1,mem_append->QK,getD_eq_getElem?_getD->RX,mem_of_getElem?->TF,not_mem_nil->Rp,mem_map->QP,map_singleton->XR,getElem?_eq_some_iff->Se,flatMap_nil->Ro,take_append_drop->SF,mem_flatMap->S7,filter_append->RF,mem_filter->Rq,length_take->Rf,mergeSort_of_pairwise->WA,pairwise_cons->SO,any_eq_true->Yb,any_append->Yj,drop_drop->SE,length_singleton->TA,take_subset->Yc,flatten_append->TH,flatten_singleton->Th,flatten->S5,all_append->Wf,filter_congr->X4,map_flatMap->Yd,mem_range->Ut,flatMap_eq_nil_iff->S8,map_set->Xb,set_getElem_self->UG,isEmpty_iff->Wh,length_drop->RO
open List.Pairwise renaming imp->SH,imp_of_mem->U4,nil->SK
open List.Perm renaming refl->RT,cons->XH,append_left->SJ,trans->Xq,eq_of_pairwise->TD
open List.Sublist renaming map->Y3
open List.cons renaming injEq->SA
open Nat renaming le_trans->SS,le_refl->QW,zero_le->Rr,zero_add->Rn,div_lt_of_lt_mul->XF,add_mul->RA,one_mul->Ug,beq->Qy,add_assoc->RW,add_comm->S9,add_zero->RY,not_lt_zero->RP,le_of_ble_eq_true->Sk,mul_one->Td,lt_or_ge->U0,le_of_eq->UN,sub_zero->T9,min_eq_left->RU,zero_lt_succ->Yk,zero_mul->TP,mul_le_mul_right->Rz
open Option renaming map_none->X2,isSome_none->Xp,map_some->TK,getD_some->TC,getD_none->XQ
open Option.some renaming inj->Sw,injEq->Qq
namespace Go.Proofs.YtmbboaapillefaaGreatDoor
open Go.Shelf Go.RowKit Go.Lib Go.Sort
def Mz(x y:Int×Int×Int):Int:=if QJ x.1 y.1=0 then(if QJ x.2.1 y.2.1=0 then QJ x.2.2 y.2.2 else QJ x.2.1 y.2.1) else QJ x.1 y.1
set_option maxRecDepth 20000 in
set_option maxHeartbeats 2000000 in
theorem BQ(x y:Int×Int×Int)(W:QL):T8 Qu 95 #[.agg #[.int .i64 x.1,.int .i64 x.2.1,.int .i64 x.2.2],.agg #[.int .i64 y.1,.int .i64 y.2.1,.int .i64 y.2.2]] W λe w' =>
  e=.returned (.int .i64 (Mz x y))/\∃q os',w'=grow (W.drewN q) os':=by
 unfold Mz;have hcmp:∀(a b:Int) (W':QL),T8 Qu 56 #[.int .i64 a,.int .i64 b] W' λe w'=>e=.returned (.int .i64 (QJ a b))/\w'=W':=λa b W'=>Tc JB a b W';obtain⟨x1,x2,x3⟩:=x;obtain⟨y1,y2,y3⟩:=y;dsimp only;generalize hr:(if QJ x1 y1=0 then(if QJ x2 y2=0 then QJ x3 y3 else QJ x2 y2) else QJ x1 y1)=r;go_enter WQ,Tryz.ntmps95;go_wp2;have hg:(W.alloc (.cells #[.int .i64 x1,.int .i64 x2,.int .i64 x3] 42)).alloc (.cells #[.int .i64 y1,.int .i64 y2,.int .i64 y3] 42)=grow W #[.cells #[.int .i64 x1,.int .i64 x2,.int .i64 x3] 42,.cells #[.int .i64 y1,.int .i64 y2,.int .i64 y3] 42]:=by rw[alloc_eq_grow,alloc_eq_grow,grow_grow];rfl
 rw[hg];have c1:(grow W #[.cells #[.int .i64 x1,.int .i64 x2,.int .i64 x3] 42,.cells #[.int .i64 y1,.int .i64 y2,.int .i64 y3] 42]).heap[W.heap.size]?=some (.cells #[.int .i64 x1,.int .i64 x2,.int .i64 x3] 42):=by simp[grow]
 have c2:(grow W #[.cells #[.int .i64 x1,.int .i64 x2,.int .i64 x3] 42,.cells #[.int .i64 y1,.int .i64 y2,.int .i64 y3] 42]).heap[W.heap.size+1]?=some (.cells #[.int .i64 y1,.int .i64 y2,.int .i64 y3] 42):=by simp[grow]
 generalize hW1:grow W #[.cells #[.int .i64 x1,.int .i64 x2,.int .i64 x3] 42,.cells #[.int .i64 y1,.int .i64 y2,.int .i64 y3] 42]=W1 at c1 c2 ⊢;refine wp_region_still_tail 15 (by kernel_rfl) (by kernel_rfl) ?_;simp only[RK,Sz,RS,RR];generalize hW2:({heap:=W1.heap,tape:=W1.tape,drawn:=W1.drawn+1,os:=W1.os,output:=W1.output}:QL)=W2;have c10:W2.cell? ⟨W.heap.size,0,none⟩=some (.int .i64 x1):=by rw[<-hW2];simp[RQ,c1]
 have c11:W2.cell? ⟨W.heap.size,1,none⟩=some (.int .i64 x2):=by rw[<-hW2];simp[RQ,c1]
 have c12:W2.cell? ⟨W.heap.size,2,none⟩=some (.int .i64 x3):=by rw[<-hW2];simp[RQ,c1]
 have c20:W2.cell? ⟨W.heap.size+1,0,none⟩=some (.int .i64 y1):=by rw[<-hW2];simp[RQ,c2]
 have c21:W2.cell? ⟨W.heap.size+1,1,none⟩=some (.int .i64 y2):=by rw[<-hW2];simp[RQ,c2]
 have c22:W2.cell? ⟨W.heap.size+1,2,none⟩=some (.int .i64 y3):=by rw[<-hW2];simp[RQ,c2]
 repeat still_step
 still_call (hcmp _ _ _)
 repeat still_step
 still_call (hcmp _ _ _)
 repeat still_step
 still_call (hcmp _ _ _)
 refine wpStill_nil ?_;have hor:T8 Qu 54 #[.slice (some ⟨W2.heap.size,0,none⟩) 3 3] (W2.alloc (.cells #[.int .i64 (QJ x1 y1),.int .i64 (QJ x2 y2),.int .i64 (QJ x3 y3)] 3)) _ :=
  or54 (QJ x1 y1) (QJ x2 y2) (QJ x3 y3) W2.heap.size _ (al3 _ _ _ _ _ _ rfl) (al3 _ _ _ _ _ _ rfl) (al3 _ _ _ _ _ _ rfl)
 rw[hr]at hor
 go_wp2_with (go_at_call 54;refine hor.mono ?_;rintro e w' ⟨rfl,rfl⟩)
 go_ret;refine⟨rfl,1,#[.cells #[.int .i64 x1,.int .i64 x2,.int .i64 x3] 42,.cells #[.int .i64 y1,.int .i64 y2,.int .i64 y3] 42,.cells #[.int .i64 (QJ x1 y1),.int .i64 (QJ x2 y2),.int .i64 (QJ x3 y3)] 3],?_⟩;rw[<-hW2,<-hW1,alloc_eq_grow];rfl
structure yR(a:Array Qw)(i:Int×Int×Int)(pl:Int):Prop where
 size:a.size=38
 c0:a[0]?=some (.int .i64 i.1)
 c1:a[1]?=some (.int .i64 i.2.1)
 c2:a[2]?=some (.int .i64 i.2.2)
 c10:a[10]?=some (.int .i64 pl)
 one:∀v∈a,v.oneCell'=true
theorem A8{a:Array Qw}{i:Nat}{v:Qw}(h:i<a.size)(e:a[i]?=some v):a[i]=v:=Sw ((Um h).symm.trans e)
set_option maxRecDepth 20000 in
set_option maxHeartbeats 2000000 in
theorem byID99{a b:Array Qw}{x y:Int×Int×Int}{p q:Int}(ha:yR a x p)(hb:yR b y q)(W:QL):T8 Qu 99 #[.agg a,.agg b] W λe w' =>
  e=.returned (.int .i64 (Mz x y))/\∃q os',w'=grow (W.drewN q) os':=by
 obtain⟨_,a0,a1,a2,_,_⟩:=ha;obtain⟨_,b0,b1,b2,_,_⟩:=hb;obtain⟨x1,x2,x3⟩:=x;obtain⟨y1,y2,y3⟩:=y;simp only at a0 a1 a2 b0 b1 b2;have ga:(∀h,a[0]'h=.int .i64 x1)/\(∀h,a[1]'h=.int .i64 x2)/\∀h,a[2]'h=.int .i64 x3:=⟨λh=>A8 h a0,λh=>A8 h a1,λh=>A8 h a2⟩;have gb:(∀h,b[0]'h=.int .i64 y1)/\(∀h,b[1]'h=.int .i64 y2)/\∀h,b[2]'h=.int .i64 y3:=⟨λh=>A8 h b0,λh=>A8 h b1,λh=>A8 h b2⟩;have hor:∀W',T8 Qu 95 #[.agg #[.int .i64 x1,.int .i64 x2,.int .i64 x3],.agg #[.int .i64 y1,.int .i64 y2,.int .i64 y3]] W' _:=λW'=>BQ (x1,x2,x3) (y1,y2,y3) W';go_enter WR,Tryz.ntmps99
 go_wp2_with (go_at_call 95;go_loud (refine(hor _).mono ?_;rintro e w' ⟨rfl,n1,os1,rfl⟩))
 go_ret;refine⟨rfl,n1,#[.cells a 70,.cells b 70]++os1,?_⟩;rw[alloc_eq_grow,alloc_eq_grow,grow_grow];show grow (grow (W.drewN n1) _) os1=_;rw[grow_grow];rfl
set_option maxHeartbeats 1000000 in
theorem or54_2(x y:Int)(b:Nat)(W:QL)(h0:W.cell? ⟨b,0,none⟩=some (.int .i64 x))(h1:W.cell? ⟨b,1,none⟩=some (.int .i64 y)) :
  T8 Qu 54 #[.slice (some ⟨b,0,none⟩) 2 2] W λe w'=>e=.returned (.int .i64 (if x=0 then y else x))/\w'=W:=by
 generalize hr:(if x=0 then y else x)=r;go_enter Tryz.func54,Tryz.ntmps54;go_wp2;refine wp_loop_rounds 3 ?_;rw[UX];go_wp2
 .go_ret;refine⟨?_,rfl⟩;simp_all
 rw[UX];go_wp2
 .go_ret;refine⟨?_,rfl⟩;simp_all
 rw[UX];go_wp2;go_ret;refine⟨?_,rfl⟩;simp_all
theorem al2(W:QL)(a b:Qw)(k:Nat)(v:Qw)(hk:#[a,b][k]?=some v):(W.alloc (.cells #[a,b] 3)).cell? ⟨W.heap.size,k,none⟩=some v:=by simp_all
theorem oc{f:Nat}{args:Array Qw}{W:QL}{n:Nat}{os:Array Obj}{v:Qw}(h:T8 Qu f args (grow (W.drewN n) os) λe w'=>e=.returned v/\w'=grow (W.drewN n) os):T8 Qu f args (grow (W.drewN n) os) λe w''=>e=.returned v/\∃p:GrownBy,w''=grow (W.drewN p.n) p.os :=
 h.mono λ_ _ h=>⟨h.1,⟨n,os⟩,h.2⟩
set_option maxRecDepth 20000 in
set_option maxHeartbeats 4000000 in
theorem Hr{a b:Array Qw}{x y:Int×Int×Int}{p q:Int}(ha:yR a x p)(hb:yR b y q)(W:QL):T8 Qu 107 #[.agg a,.agg b] W λe w' =>
  e=.returned (.int .i64 (if QJ p q=0 then Mz x y else QJ p q))/\∃q os',w'=grow (W.drewN q) os':=by
 have hmix:Qu.follows .mixedOrders=true:=by kernel_rfl
 obtain⟨_,a0,a1,a2,a10,_⟩:=ha;obtain⟨_,b0,b1,b2,b10,_⟩:=hb;obtain⟨x1,x2,x3⟩:=x;obtain⟨y1,y2,y3⟩:=y;simp only at a0 a1 a2 b0 b1 b2;have hcmp:∀(a b:Int) (W':QL),T8 Qu 56 #[.int .i64 a,.int .i64 b] W' λe w'=>e=.returned (.int .i64 (QJ a b))/\w'=W':=λa b W'=>Tc JB a b W';have hor:∀W',T8 Qu 95 #[.agg #[.int .i64 x1,.int .i64 x2,.int .i64 x3],.agg #[.int .i64 y1,.int .i64 y2,.int .i64 y3]] W' _:=λW'=>BQ (x1,x2,x3) (y1,y2,y3) W';generalize Mz (x1,x2,x3) (y1,y2,y3)=r3 at hor ⊢;generalize hr:(if QJ p q=0 then r3 else QJ p q)=r;go_enter Wz,Tryz.ntmps107;go_wp2;have hg:(W.alloc (.cells a 70)).alloc (.cells b 70)=grow W #[.cells a 70,.cells b 70]:=by rw[alloc_eq_grow,alloc_eq_grow,grow_grow];rfl
 rw[hg];have hsz:(grow W #[.cells a 70,.cells b 70]).heap.size=W.heap.size+2:=by simp[grow]
 have c1:∀(k:Nat) (v:Qw),a[k]?=some v->(grow W #[.cells a 70,.cells b 70]).cell? ⟨W.heap.size,k,none⟩=some v:=λk v h=>by
  have:(grow W #[.cells a 70,.cells b 70]).heap[W.heap.size]?=some (.cells a 70):=by simp[grow]
  unfold RQ;rw[this];exact h
 have c2:∀(k:Nat) (v:Qw),b[k]?=some v->(grow W #[.cells a 70,.cells b 70]).cell? ⟨W.heap.size+1,k,none⟩=some v:=λk v h=>by
  have:(grow W #[.cells a 70,.cells b 70]).heap[W.heap.size+1]?=some (.cells b 70):=by simp[grow]
  unfold RQ;rw[this];exact h
 generalize hW1:grow W #[.cells a 70,.cells b 70]=W1 at hsz c1 c2 ⊢;have d1:∀(k:Nat) (v:Qw),a[k]?=some v->∀n os,(grow (W1.drewN n) os).cell? ⟨W.heap.size,k,none⟩=some v:=λk v h n os=>Xm (by grind) (c1 k v h) n os;have d2:∀(k:Nat) (v:Qw),b[k]?=some v->∀n os,(grow (W1.drewN n) os).cell? ⟨W.heap.size+1,k,none⟩=some v:=λk v h n os=>Xm (by grind) (c2 k v h) n os;have p0:=d1 0 _ a0;have p1:=d1 1 _ a1;have p2:=d1 2 _ a2;have p10:=d1 10 _ a10;have q0:=d2 0 _ b0;have q1:=d2 1 _ b1;have q2:=d2 2 _ b2;have q10:=d2 10 _ b10;clear d1 d2 c1 c2;refine ju 10 hmix (by kernel_rfl) ?_;simp only[RK,Sz,RS,RR]
 repeat (quiet_step (first|(go_at_call 56;refine oc (hcmp _ _ _))|(go_at_call 95;refine Yi (hor _))))
 refine wpQuiet_nil ?_;rintro w' ⟨⟨n2,os2⟩,rfl⟩;dsimp only;generalize hW2:grow (W1.drewN n2) os2=W2;have hor2:T8 Qu 54 #[.slice (some ⟨W2.heap.size,0,none⟩) 2 2] (W2.alloc (.cells #[.int .i64 (QJ p q),.int .i64 r3] 3)) _:=or54_2 (QJ p q) r3 W2.heap.size _ (al2 _ _ _ _ _ rfl) (al2 _ _ _ _ _ rfl);rw[hr]at hor2
 go_wp2_with (go_at_call 54;refine hor2.mono ?_;rintro e w' ⟨rfl,rfl⟩)
 go_ret;refine⟨rfl,n2,#[.cells a 70,.cells b 70]++os2++#[.cells #[.int .i64 (QJ p q),.int .i64 r3] 3],?_⟩;rw[<-hW2,<-hW1,alloc_eq_grow,grow_grow];show grow (grow (W.drewN n2) _) _=_;rw[grow_grow,XE]
structure HK(a:Array Qw)(co:Int)(i:Int×Int×Int)(k:Int):Prop where
 size:a.size=6
 c0:a[0]?=some (.int .i64 co)
 c1:a[1]?=some (.int .i64 i.1)
 c2:a[2]?=some (.int .i64 i.2.1)
 c3:a[3]?=some (.int .i64 i.2.2)
 c4:a[4]?=some (.int .i64 k)
set_option maxRecDepth 20000 in
set_option maxHeartbeats 4000000 in
theorem conf53{a b:Array Qw}{x y:Int×Int×Int}{c d p q:Int}(ha:HK a c x p)(hb:HK b d y q)(hcmpE:∀(a b:Int) (W':QL),T8 Qu 57 #[.int .i64 a,.int .i64 b] W' λe w'=>e=.returned (.int .i64 (QJ a b))/\w'=W')(W:QL):T8 Qu 53 #[.agg a,.agg b] W λe w' =>
  e=.returned (.int .i64 (if Mz x y=0 then(if QJ p q=0 then QJ c d else QJ p q) else Mz x y))/\∃q os',w'=grow (W.drewN q) os':=by
 have hmix:Qu.follows .mixedOrders=true:=by kernel_rfl
 obtain⟨_,a0,a1,a2,a3,a4⟩:=ha;obtain⟨_,b0,b1,b2,b3,b4⟩:=hb;obtain⟨x1,x2,x3⟩:=x;obtain⟨y1,y2,y3⟩:=y;simp only at a1 a2 a3 b1 b2 b3;have hcmp:∀(a b:Int) (W':QL),T8 Qu 56 #[.int .i64 a,.int .i64 b] W' λe w'=>e=.returned (.int .i64 (QJ a b))/\w'=W':=λa b W'=>Tc JB a b W';have hor:∀W',T8 Qu 55 #[.agg #[.int .i64 x1,.int .i64 x2,.int .i64 x3],.agg #[.int .i64 y1,.int .i64 y2,.int .i64 y3]] W' λe w'=>e=.returned (.int .i64 (Mz (x1,x2,x3) (y1,y2,y3)))/\∃q os',w'=grow (W'.drewN q) os':=λW'=>IM (x1,x2,x3) (y1,y2,y3) W';generalize Mz (x1,x2,x3) (y1,y2,y3)=r3 at hor ⊢;generalize hr:(if r3=0 then(if QJ p q=0 then QJ c d else QJ p q) else r3)=r;go_enter WS,Tryz.ntmps53;go_wp2;have hg:(W.alloc (.cells a 57)).alloc (.cells b 57)=grow W #[.cells a 57,.cells b 57]:=by rw[alloc_eq_grow,alloc_eq_grow,grow_grow];rfl
 rw[hg];have hsz:(grow W #[.cells a 57,.cells b 57]).heap.size=W.heap.size+2:=by simp[grow]
 have c1:∀(k:Nat) (v:Qw),a[k]?=some v->(grow W #[.cells a 57,.cells b 57]).cell? ⟨W.heap.size,k,none⟩=some v:=λk v h=>by
  have:(grow W #[.cells a 57,.cells b 57]).heap[W.heap.size]?=some (.cells a 57):=by simp[grow]
  unfold RQ;rw[this];exact h
 have c2:∀(k:Nat) (v:Qw),b[k]?=some v->(grow W #[.cells a 57,.cells b 57]).cell? ⟨W.heap.size+1,k,none⟩=some v:=λk v h=>by
  have:(grow W #[.cells a 57,.cells b 57]).heap[W.heap.size+1]?=some (.cells b 57):=by simp[grow]
  unfold RQ;rw[this];exact h
 generalize hW1:grow W #[.cells a 57,.cells b 57]=W1 at hsz c1 c2 ⊢;have d1:∀(k:Nat) (v:Qw),a[k]?=some v->∀n os,(grow (W1.drewN n) os).cell? ⟨W.heap.size,k,none⟩=some v:=λk v h n os=>Xm (by grind) (c1 k v h) n os;have d2:∀(k:Nat) (v:Qw),b[k]?=some v->∀n os,(grow (W1.drewN n) os).cell? ⟨W.heap.size+1,k,none⟩=some v:=λk v h n os=>Xm (by grind) (c2 k v h) n os;have p0:=d1 0 _ a0;have p1:=d1 1 _ a1;have p2:=d1 2 _ a2;have p3:=d1 3 _ a3;have p4:=d1 4 _ a4;have q0:=d2 0 _ b0;have q1:=d2 1 _ b1;have q2:=d2 2 _ b2;have q3:=d2 3 _ b3;have q4:=d2 4 _ b4;clear d1 d2 c1 c2;refine ju 15 hmix (by kernel_rfl) ?_;simp only[RK,Sz,RS,RR]
 repeat (quiet_step (first|(go_at_call 55;refine Yi (hor _))|(go_at_call 56;refine oc (hcmp _ _ _))|(go_at_call 57;refine oc (hcmpE _ _ _))))
 refine wpQuiet_nil ?_;rintro w' ⟨⟨n2,os2⟩,rfl⟩;dsimp only;generalize hW2:grow (W1.drewN n2) os2=W2;have hor2:T8 Qu 54 #[.slice (some ⟨W2.heap.size,0,none⟩) 3 3] (W2.alloc (.cells #[.int .i64 r3,.int .i64 (QJ p q),.int .i64 (QJ c d)] 3)) _:=or54 r3 (QJ p q) (QJ c d) W2.heap.size _ (al3 _ _ _ _ _ _ rfl) (al3 _ _ _ _ _ _ rfl) (al3 _ _ _ _ _ _ rfl);rw[hr]at hor2
 go_wp2_with (go_at_call 54;refine hor2.mono ?_;rintro e w' ⟨rfl,rfl⟩)
 go_ret;refine⟨rfl,n2,#[.cells a 57,.cells b 57]++os2++#[.cells #[.int .i64 r3,.int .i64 (QJ p q),.int .i64 (QJ c d)] 3],?_⟩;rw[<-hW2,<-hW1,alloc_eq_grow,grow_grow];show grow (grow (W.drewN n2) _) _=_;rw[grow_grow,XE]
end Go.Proofs.YtmbboaapillefaaGreatDoor
namespace Go.Proofs.YtmbboaapillefaaGreatDoor
open Go Go.Shelf Go.RowKit Go.Lib Xe Pm
theorem _root_.Xe.St.below{w0 w w':QL}{M:Mem}{Γ:List As}(h:St w0 M Γ w)(hb:Below w.heap.size w w'):St w0 M Γ w':=by
 refine⟨hb.os.trans h.os,hb.tape.trans h.tape,hb.output.trans h.output,SS h.size hb.size,λb o hm=>?_,λx hx=>?_,h.nodup⟩
 .rw[hb.block b (h.lt hm)];exact h.mem b o hm
 .have hx':=h.all x hx;exact As.fy hx' (Sub.refl M) λb hbk=>⟨hb.block b (As.bg hx' hbk).1,(As.bg hx' hbk).2⟩
theorem _root_.Xe.St.rowNew{w0 w:QL}{M:Mem}{Γ:List As}{B e sz n:Nat}{v:Qw}{us:List Qw}(h:St w0 M Γ w)(ho:w.ownsRow B e sz v n us)(hM:∀b,v.ownBlock=some b->M b=none)(hG:∀b,v.ownBlock=some b->b ∉ Γ.filterMap As.gh):St w0 M (.acc v e sz n us::Γ) w:=by
 refine⟨h.os,h.tape,h.output,h.size,h.mem,λx hx=>?_,?_⟩
 .rcases Qz.1 hx with rfl|hx
  .refine⟨⟨ho.1,?_⟩,hM⟩;rcases ho.2 with h2|⟨g,cap,cur,h2,h3,h4⟩
   all_goals grind
  .exact h.all x hx
 .rw[Rh];cases hv:v.ownBlock with
  |none=>simpa[As.gh,hv]using h.nodup
  |some b=>have:=Rw.2 ⟨hG b hv,h.nodup⟩;simpa[As.gh,hv]using this
set_option maxHeartbeats 2000000 in
set_option maxRecDepth 100000 in
theorem Mh{P:Program}{ρ:TO}(L:Tl P ρ)(i0:TypeInfo)(z:Qw)(size bytes:Nat)(hi:P.info? (ρ.t 23)=some i0)(hz0:i0.zero=some z)(hz1:i0.size=size)(hz2:i0.bytes=bytes)(hzs:z.cells.size=size)(hsz:0<size)
  (z23:∀w,(Go.sizeOf (ρ.t 23)).run P w=.ok size w) (p:Addr) (n c:Nat) (news:List Qw) (w:QL) (hl:news.length=n*size) (hn:n<=maxLen) (hbig:n*bytes<=140737488355328)
  (hc:∀j u,news[j]?=some u->w.cell? (p.add j)=some u) (h1:∀u∈news,u.oneCell'=true) :
  T8 P (ρ.f 41) #[.slice (some p) n c] w λe w'=>∃v',e=.returned v'/\w'.ownsRow w.heap.size (ρ.t 23) size v' n news/\Below w.heap.size w w':=by
 have mixed:=L.mixed;have t4:=L.t4;have a4:=L.a4;have z4:=L.z4;have v4:=L.v4;have t22:=L.t22;have a22:=L.a22;have z22:=L.z22;have v22:=L.v22;have q22:∀(w:QL) (a:Option Addr) (n c n' c':Nat),(binOp .eql (ρ.t 22) (.slice a n c) (.slice none n' c')).run P w=.ok (.bool a.isNone) w:=λw a n c n' c'=>Lib.run_eql_slice_nil w _ _ a n c n' c' L.t22;have u22:∀w,Sem.run P (underlying (ρ.t 22)) w=.ok (TypeDesc.slice (ρ.t 23)) w:=run_underlying t22;have A:Aside (∀j u,news[j]?=some u->w.cell? (p.add j)=some u):=hc;clear hc;obtain⟨_,_,FG⟩:=L.f41;go_enter FG,YR ρ
 go_wp2_with (at_builtin;refine wpList_append_own _ rfl _ _ (ρ.t 22) rfl w.heap.size (ρ.t 23) i0 z size bytes t22 hi hz0 hz1 hz2 hzs hsz _ _ _ rfl (World.ownsRow_made w #[] 0 (QW _) (Rr _) Q2) p n c news rfl ?qc1 ?qc2 ?qc3 ?qc4 ?qc5 ?qc6 ?_)
 case qc1=>exact hl
 case qc2=>intro j u hj;exact Lib.cell?_alloc_some _ (A.out j u hj)
 case qc3=>exact h1
 case qc4=>rw[Rn];exact hn
 case qc5=>rw[Rn];exact hbig
 case qc6=>simp
 intro v' w1 hown hgrow _;go_wp2;go_ret;refine⟨v',rfl,Q0,?_⟩;exact((Below.refl _ w).alloc (QW _) _).grown hgrow Q2 (by intro k hk;simp[RN]at hk;omega)
theorem xr{M:Mem}{a:Option Addr}{i:Nat}:∀{cs:List D} (_:o5 M a i cs),∃us:List Qw,bz M cs us/\∀j u,us[j]?=some u->dW M (fT a (i+j))=some u:=by
 intro cs h;induction cs generalizing i with
 |nil=>exact⟨[],bz.nil _,λj u h=>by simp at h⟩
 |cons d ds ih =>
  simp only[o5]at h;obtain⟨⟨u,h1,h2⟩,h3⟩:=h;obtain⟨us,h4,h5⟩:=ih h3;refine⟨u::us,bz.cons h2 h4,λj x hj=>?_⟩;cases j with
  |zero =>
   obtain rfl:u=x:=by simpa using hj
   exact h1
  |succ j=>have:=h5 j x (by grind);rw[show i+(j+1)=i+1+j by omega];exact this
theorem rd_one{M:Mem}{d:D}{u:Qw}(h:Rd M d u):u.oneCell'=true:=by
 cases d with
 |v x=>unfold Rd at h;rw[h.1];exact h.2
 |sl n sz cs=>unfold Rd at h;obtain⟨a,c,h1,_⟩:=h;rw[h1];rfl
theorem BE{M:Mem}{ds:List D}{us:List Qw}(h:bz M ds us):∀u∈us,u.oneCell'=true:=λu hu=>by obtain⟨k,hk,rfl⟩:=QO.1 hu;have hl:=h.1;exact rd_one (h.2 k _ _ (QQ (by omega:k<ds.length)) (QQ hk))
theorem uy{f E sz bytes:Nat}{ρ:TO}(L:Tl Qu ρ)(hf:ρ.f 41=f)(hE:ρ.t 23=E)(i0:TypeInfo)(z:Qw)(hi:Qu.info? E=some i0)(hz0:i0.zero=some z)(hz1:i0.size=sz)(hz2:i0.bytes=bytes)(hzs:z.cells.size=sz)(hsz:0<sz)
  (z23:∀w,(Go.sizeOf E).run Qu w=.ok sz w) {n:Nat} {ds:List D} (hn:n<=lim) (hbig:n*bytes<=140737488355328) :
  IS ⟨f,⟨[(0,.c .d)],[]⟩,.c (.w 0),[(0,.w E sz)],false⟩ [[.sl n sz ds]] [[.sl n sz ds]]:=by
 subst hf hE;refine uk (e:=ρ.t 23) (sz:=sz) rfl rfl rfl hn ?_;intro w0 M Γ vs hlen hpl hN;obtain⟨a,rfl⟩:∃a,vs=[a]:=by
  match vs,hlen with
  |[a],_=>exact⟨a,rfl⟩
 obtain h0|⟨_,h0,h1⟩:=hpl 0
 .cases h0
 cases h0;have hr:Rd M (.sl n sz ds) a:=h1;unfold Rd at hr;obtain⟨ad,c,rfl,hnc,hcm,hnl,hdl,hsm,hrc⟩:=hr;intro w hst;cases ad with
 |none =>
  have hn0:n=0:=by
   grind
  subst hn0;have hds:ds=[]:=Rg Q0;subst hds;refine(AnyE.slices_Clone_nil L 0 c w).mono ?_;rintro e w' ⟨rfl,rfl⟩;exact⟨_,_,_,rfl,⟨none,0,[],rfl,Sub.refl _,rfl,bz.nil _,Q2⟩,hst.tl _ _⟩
 |some p =>
  obtain⟨us,hus,hcl⟩:=xr hrc;have vz:us.length=n*sz:=by rw[hus.1,hdl]
  refine(Mh L i0 z sz bytes hi hz0 hz1 hz2 hzs hsz z23 p n c us w vz Q0 hbig (λj u hj=>?_) (BE hus)).mono ?_
  .have h5:=hcl j u hj;rw[Rn]at h5;exact hst.cell h5
  .rintro e w' ⟨v',rfl,hown,hbel⟩;have hst':=hst.below hbel;have hlt:=λk hk=>(hown.lt k hk).1;refine⟨v',M,.acc v' (ρ.t 23) sz n us::Γ,rfl,?_,hst'.rowNew hown (λb hb=>?_) λb hb hm=>?_⟩
   .rcases hown.2 with⟨h6,h7⟩|⟨g,cap,cur,h6,_⟩
    .subst h7;exact⟨none,0,us,h6,Sub.refl _,by rw[h6],hus,vz⟩
    .exact⟨_,cap,us,h6,Sub.refl _,by rw[h6],hus,vz⟩
   .cases hM:M b with
    |none=>rfl
    |some o=>have:=hst.lt hM;have:=hlt b hb;omega
   .obtain⟨x,hx,hxb⟩:=List.mem_filterMap.1 hm;have:=(As.bg (hst.all x hx) hxb).1;have:=hlt b hb;omega
open Go Xe Pm Go.Sort Go.Lib Go.RowKit Go.Shelf
section
variable {α:Type} {gF:α->List Qw} {k:Nat}
theorem zy(hk:∀x,(gF x).length=k)(h0:0<k):∀(l:List α) (t:Nat) (h:t<l.length*k),(l.flatMap gF)[t]?=some ((gF (l[t / k]'(XF (by grind))))[t % k]'(by rw[hk];exact Nat.mod_lt _ h0))
 |[],t,h=>by simp at h
 |x::l,t,h=>by
  rw[QD];by_cases ht:t<k
  .rw[List.getElem?_append_left (by grind),QQ (by grind)];simp only[Nat.div_eq_of_lt ht,Nat.mod_eq_of_lt ht,UL]
  .have hge:k<=t:=Q0;rw[List.getElem?_append_right (by grind),hk];rw[QG,RA,Ug]at h;rw[zy hk h0 l (t-k) Q0];have e1:t / k=(t-k) / k+1:=by rw[<-Nat.add_div_right _ h0,Nat.sub_add_cancel hge]
   have e2:t % k=(t-k) % k:=by rw[Nat.mod_eq_sub_mod hge]
   grind
theorem zx(hk:∀x,(gF x).length=k)(l:List α):(l.flatMap gF).length=l.length*k:=by
 induction l with
 |nil=>simp
 |cons x l ih=>rw[QD,QC,ih,hk,QG,RA];omega
variable [Inhabited α]
theorem AG(hk:∀x,(gF x).length=k)(h0:0<k)(l:List α)(t:Nat)(h:t<l.length*k):(flatK gF k l.toArray)[t]! = (l.flatMap gF)[t]'(by rw[zx hk];exact h):=by
 have h3:t / k<l.length:=XF (by grind);rw[get_flatK _ _ _ _ Q0];have e:=zy hk h0 l t h
 grind
theorem KC(hk:∀x,(gF x).length=k)(h0:0<k)(l:List α)(cur:Array Qw)(h:l.length*k<=cur.size):(putCells id 0 (flatK gF k l.toArray) cur).toList.take (l.length*k)=l.flatMap gF:=by
 refine List.ext_getElem? λt=>?_;rw[List.getElem?_take];by_cases ht:t<l.length*k
 .rw[J2 ht];have hf:=AG hk h0 l t ht;unfold putCells;rw[Array.getElem?_toList,Array.getElem?_mapIdx,Um Q0];simp_all
 .rw[J1 ht,List.getElem?_eq_none (by rw[zx hk];omega)]
end
theorem _root_.Xe.St.repl{w0 w w':QL}{M:Mem}{Γ:List As}{b:Nat}{o o':Obj}(h:St w0 M (.raw b o::Γ) w)(h1:w'.os=w.os)(h2:w'.tape=w.tape)(h3:w'.output=w.output)(h4:w.heap.size<=w'.heap.size)(h5:w'.heap[b]?=some o')
  (h6:∀c,c≠b->c<w.heap.size->w'.heap[c]?=w.heap[c]?):St w0 M (.raw b o'::Γ) w':=by
 obtain⟨hM,hb⟩:=h.all _ (Qt ..);have hnd:=h.nodup;simp only[Rh,As.gh]at hnd;refine⟨h1.trans h.os,h2.trans h.tape,h3.trans h.output,SS h.size h4,λc x hc=>?_,λx hx=>?_,by simpa[Rh,As.gh]using h.nodup⟩
 .rw[h6 c (λe=>by grind) (h.lt hc)];exact h.mem c x hc
 .rcases Qz.1 hx with rfl|hm
  .exact⟨hM,h5⟩
  .have hx':=h.all x (Qx _ hm);refine As.fy hx' (Sub.refl M) λc hc=>⟨h6 c (λe=>?_) (As.bg hx' hc).1,(As.bg hx' hc).2⟩;subst e;exact(Rw.1 hnd).1 (vX hm hc)
section
variable {E:Type} (enc:E->List D) (M:Mem)
abbrev JT:={x:E×List Qw // bz M (enc x.1) x.2}
variable {enc} {M}
theorem P0(k:Nat)(he:∀x,(enc x).length=k):∀(Q:List E) (us:List Qw),bz M (Q.flatMap enc) us->∃L:List (JT enc M),L.map (λx=>x.1.1)=Q/\L.flatMap (λx=>x.1.2)=us
 |[],us,h=>⟨[],rfl,by have:=h.1;simp at this;rw[this];rfl⟩
 |x::Q,us,h=>by rw[QD]at h;obtain⟨h1,h2⟩:=h.split;obtain⟨L,h3,h4⟩:=P0 k he Q _ h2;refine⟨⟨(x,us.take (enc x).length),h1⟩::L,by grind,?_⟩;simp_all
theorem AZ:∀L:List (JT enc M),bz M ((L.map λx=>x.1.1).flatMap enc) (L.flatMap λx=>x.1.2)
 |[]=>bz.nil _
 |x::L=>by rw[QT,QD,QD];exact x.2.append (AZ L)
end
def frG(g T k n:Nat)(ds:List D):Fr:=⟨λi=>match Qy i 1 with
 |true=>.c (.f g [])
 |false=>match Qy i 0 with
  |true=>.c (.w 0)
  |false=>su,CJ 0 (.w T k n ds) (λ_=>none),1⟩
abbrev sG(f g T k:Nat):bA:=⟨f,⟨[(0,.c (.w 0)),(1,.c (.f g []))],[(0,.w T k)]⟩,.t [],[(0,.w T k)],false⟩
theorem unG(f g T k n:Nat)(ds:List D)(K:Fr->Prop):ct bc (sG f g T k).ins [[.sl n k ds]] K=K (frG g T k n ds):=by show aH k (.sl n k ds) (λn ds=>K (frG g T k n ds))=K (frG g T k n ds);rw[wW]
def frH(T k n:Nat)(ds:List D):Fr:=⟨λ_=>su,CJ 0 (.w T k n ds) (λ_=>none),1⟩
theorem unH(f g T k n:Nat)(ds:List D)(K:Fr->Prop):ct bc (jB (sG f g T k)) [[.sl n k ds]] K=K (frH T k n ds):=by show aH k (.sl n k ds) (λn ds=>K (frH T k n ds))=K (frH T k n ds);rw[wW]
theorem oe{E:Type}(enc:E->List D){k:Nat}(h0:0<k)(he:∀x,(enc x).length=k)(cfE:E->E->Int)(hO:SWO (ltOf cfE)){f g T:Nat}{ρr:TO}(L0:Uc Qu ρr)(hf:ρr.f 6=f)(hT:ρr.t 24=T)
  (aE:∀w,(isAgg T).run Qu w=.ok true w) (zE:∀w,(Go.sizeOf T).run Qu w=.ok k w) (eg:∀args w,(callFunc g args).run Qu w=.ok (.enter g args) w)
  (hcmp:∀(M:Mem) (x y:E) (vx vy:List Qw),bz M (enc x) vx->bz M (enc y) vy->∀W,T8 Qu g #[.agg vx.toArray,.agg vy.toArray] W λe w'=>e=.returned (.int .i64 (cfE x y))/\∃q os',w'=grow (W.drewN q) os')
  (Q R:List E) (hn:Q.length<=lim) (hU:∀S:List E,S.Perm Q->S.Pairwise (λa b=>ltOf cfE b a=false)->S=R):IS (sG f g T k) [[.sl Q.length k (Q.flatMap enc)]] [[.sl R.length k (R.flatMap enc)]]:=by
 subst hf hT;have hRQ:R.length=Q.length:=by
  have hs:(Q.mergeSort λx y=>!ltOf cfE y x)=R:=hU _ (XG _ _) (by
   have:=W5 (le:=λx y=>!ltOf cfE y x) (λa b c h1 h2=>by
    simp only[TB]at *;exact hO.ntrans _ _ _ h2 h1) (λa b=>by
    cases h:ltOf cfE b a with
    |false=>simp
    |true =>
     cases h2:ltOf cfE a b with
     |false=>simp
     |true=>have:=hO.trans _ _ _ h h2;rw[hO.irrefl]at this;cases this) Q
   exact this.imp λh=>by grind)
  rw[<-hs,Xn]
 unfold IS Pm.Is;rw[unG];intro w0 Γ0 ρ M lst vs w hlen hρ hR;have h0':∃v,Pm.gF vs 0=some v/\SR M ρ (.c (.w 0)) v:=(hR.sl 0).resolve_left (by unfold su;simp[frG]);have h1':∃v,Pm.gF vs 1=some v/\SR M ρ (.c (.f g [])) v:=(hR.sl 1).resolve_left (by unfold su;simp[frG]);obtain⟨v0,hv0,hr0,_⟩:=h0';obtain⟨v1,hv1,us1,hr1,hu1⟩:=h1';obtain⟨ad,c,us,k1,k2,k3,k4,k5⟩:=hR.ob 0 (.w (ρr.t 24) k Q.length (Q.flatMap enc)) rfl;rw[k1]at hr0;simp only[Qq]at hr0;subst hr0;have hvs:vs=[.slice ad Q.length c,v1]:=by
  have hl2:vs.length=2:=hlen
  match vs,hl2 with
  |[a,b],_ =>
   have e1:a=.slice ad Q.length c:=by simpa[Pm.gF]using hv0
   have e2:b=v1:=by simpa[Pm.gF]using hv1
   rw[e1,e2]
 subst hvs;have hu0:us1=[]:=by
  cases us1 with
  |nil=>rfl
  |cons x xs=>exact hu1.elim
 subst hu0;have hk0:∀p∈lst,p.1=0:=λp hp=>by have:=hρ _ (hR.gg p hp);simpa[sG]using this
 have hlst:lst=[(0,.acc (.slice ad Q.length c) (ρr.t 24) k Q.length us)]:=by
  have hnd:=hR.nd
  match lst,k2,hk0,hnd with
  |[p],k2,_,_=>rw[QI.1 k2]
  |p::q::_,_,hk0,hnd=>have e1:=hk0 p (Qt ..);have e2:=hk0 q (Qx _ (Qt ..));rw[QT,QT]at hnd;exact J3 (by grind) (Rw.1 hnd).1
 subst hlst;have hst:St w0 M (.acc (.slice ad Q.length c) (ρr.t 24) k Q.length us::Γ0) w:=hR.st;have hacc:=hst.all _ (Qt ..);obtain⟨⟨_,hh⟩,hMb⟩:=hacc;have fin:∀(w':QL) (us':List Qw),bz M (R.flatMap enc) us'->us'.length=Q.length*k->St w0 M (.acc (.slice ad Q.length c) (ρr.t 24) k Q.length us'::Γ0) w'->Pm.Left w0 Γ0 ρ M (sG (ρr.f 6) g (ρr.t 24) k) [[.sl R.length k (R.flatMap enc)]] (.returned (.tuple #[])) w':=λw' us' hrd vz hw'=>by
  refine⟨.tuple #[],[],ρ,M,[(0,.acc (.slice ad Q.length c) (ρr.t 24) k Q.length us')],frH (ρr.t 24) k R.length (R.flatMap enc),rfl,⟨rfl,rfl⟩,Sub.refl M,λ_ _ h _=>h,λi hi=>hρ i hi,λp hp=>?_,?_,⟨λt=>.inl rfl,λb o hb=>?_,λb v hv=>?_,λp hp=>?_,Q2,hw',hR.gr⟩⟩
  .grind
  .rw[unH]
  .cases b with
   |zero=>obtain rfl:O.w (ρr.t 24) k R.length (R.flatMap enc)=o:=Sw hb;refine⟨ad,c,us',by rw[k1,hRQ],by grind,hrd,by grind,Q0⟩
   |succ b=>cases hb
  .have:=hρ b (by rw[hv];rfl);left;show b<1
   grind
  all_goals grind
 obtain⟨L,hL1,hL2⟩:=P0 (M:=M) k he Q us k3;subst hL2;have hLl:L.length=Q.length:=by grind
 have hk:∀x:JT enc M,(x.1.2).length=k:=λx=>x.2.1.trans (he _);by_cases hq0:Q.length=0
 .have hQ:Q=[]:=Rg hq0;have hR0:R=[]:=Rg (hRQ.trans hq0);have hL:L=[]:=Rg (hLl.trans hq0);subst hQ hR0 hL;have hcon:=AnyF.slices_SortFunc_none L0 ad c v1 w;refine hcon.mono ?_;rintro e w' ⟨rfl,rfl⟩;exact fin _ [] (bz.nil _) Q2 hst
 .rcases hh with⟨e1,e2⟩|⟨g0,cap,cur,e1,_,hb,hnc,hcm,hcs,htk⟩
  .exact J3 e2 hq0
  simp only[Ri]at e1;obtain⟨rfl,_,rfl⟩:=e1;have hLp:0<L.length:=Q0
  haveI:Inhabited (JT enc M):=⟨L[0]⟩
  have hblk:g0<w.heap.size:=(Array.getElem?_eq_some_iff.1 hb).1;have hle:L.length*k<=cur.size:=by grind
  have hH:HoldsK (λx:JT enc M=>x.1.2) k w g0 0 L.toArray:=λj hj=>by
   rw[size_flatK,Uu]at hj;have hf:=AG hk h0 L j hj;refine⟨?_,?_⟩
   .unfold RQ
    grind
   .unfold World.frozen?
    grind
  have hO':SWO (ltOf λx y:JT enc M=>cfE x.1.1 y.1.1):=⟨λx=>hO.irrefl x.1.1,λx y z=>hO.trans x.1.1 y.1.1 z.1.1,λx y z=>hO.ntrans x.1.1 y.1.1 z.1.1⟩;have hlays:CmpLays Qu g #[] (λx:JT enc M=>x.1.2) k (λx y=>cfE x.1.1 y.1.1) g0 0 L.toArray.size w:=λm os dk _ x y=>hcmp M x.1.1 y.1.1 x.1.2 y.1.2 x.2 y.2 _;have hcon:=AnyQ.slices_SortFunc L0 k aE zE (λx:JT enc M=>x.1.2) hk (λx=>BE x.2) (λx y=>cfE x.1.1 y.1.1) hO' g #[] g0 0 c L.toArray w eg hlays hH hblk (by simp;unfold lim at hn;omega);rw[Uu,hLl]at hcon;have hr1':v1=.func (.func g) #[] #[]:=hr1;rw[hr1'];refine hcon.mono ?_;rintro e w' ⟨rfl,d',m,os,hperm,hsort,rfl⟩;have hds:d'.size=L.length:=by have:=hperm.1;simpa using this
  have e1:d'.extract 0 Q.length=d':=by grind
  have e2:L.toArray.extract 0 Q.length=L.toArray:=by
   grind
  have hp2:d'.toList.Perm L:=by have:=hperm.2.2;rw[e1,e2]at this;simpa using this
  have hsl:d'.toList.Pairwise λa b=>ltOf cfE b.1.1 a.1.1=false:=by rw[Sy];intro i j hi hj hij;have:=hsort i j (Rr _) hij (by grind);have hi':i<d'.size:=Q0;have hj':j<d'.size:=Q0;rw[getElem!_pos d' i hi',getElem!_pos d' j hj']at this;have h2:ltOf cfE d'[j].1.1 d'[i].1.1=false:=this;simpa using h2
  have hRe:d'.toList.map (λx=>x.1.1)=R:=hU _ (by grind) (Sf.2 hsl);have hdl:d'.toList.length=Q.length:=by grind
  refine fin _ (d'.toList.flatMap λx=>x.1.2) (by rw[<-hRe];exact AZ _) (by grind) ?_;have hraw:St w0 M (.raw g0 (.cells cur (ρr.t 24) (0,0))::Γ0) w:=by
   refine⟨hst.os,hst.tape,hst.output,hst.size,hst.mem,λx hx=>?_,by simpa[Rh,As.gh,RN]using hst.nodup⟩;rcases Qz.1 hx with rfl|hx
   .exact⟨hMb g0 rfl,hb⟩
   .exact hst.all x (Qx _ hx)
  have hmod:(sortWorldK (λx:JT enc M=>x.1.2) k w g0 0 m d' os).heap[g0]?=some (.cells (putCells id 0 (flatK (λx:JT enc M=>x.1.2) k d') cur) (ρr.t 24) (0,0)):=by show((w.heap.modify g0 (onCells (putCells id 0 (flatK (λx:JT enc M=>x.1.2) k d'))))++os)[g0]?=_;rw[Wm (by grind),W8,J2 rfl,hb];rfl
  have hrep:=hraw.repl (w':=sortWorldK (λx:JT enc M=>x.1.2) k w g0 0 m d' os) rfl rfl rfl (by
   show w.heap.size<=((w.heap.modify g0 (onCells (putCells id 0 (flatK (λx:JT enc M=>x.1.2) k d'))))++os).size;simp) hmod (λb hne hlt=>by
   show((w.heap.modify g0 (onCells (putCells id 0 (flatK (λx:JT enc M=>x.1.2) k d'))))++os)[b]?=_
   rw[Wm (by grind),W8,J1 (Ne.symm hne)])
  have hpt:=KC hk h0 d'.toList cur (by grind);rw[Array.toArray_toList,hdl]at hpt;exact hrep.Iv hnc hcm (by unfold putCells;rw[Array.size_mapIdx];exact hcs) (by grind) hpt
end Go.Proofs.YtmbboaapillefaaGreatDoor
namespace Go.Proofs.YtmbboaapillefaaGreatDoor
open Xe Pm
def fR(k:Int):Bool:=decide (k=2\/k=3\/k=4\/k=5)
theorem CA(k:Int):IS s88 [[ai k]] [[vB (fR k)]]:=by
 refine w88.is ?_;unfold g88 fR;simp only[aj]
 grind
def fg(m:aI):ao:=⟨m.id,0,m.name,m.bP,0,p6,0,C2,p6,[],C2,0,BW⟩
def l7(d:ar)(s:aC):ao:=⟨s.id,3,s.name,[],0,d,s.bq,C2,p6,[],s.ty,s.B6,BW⟩
def cO(d:aq):ao:=⟨d.id,2,d.name,[],d.kind,d.mod,d.bq,d.au,if fR d.kind then d.body.id else p6,d.cg,C2,0,BW⟩
def eS(d:aq):List ao:=if fR d.kind then(cL d.body).map jC else[]
def cF(d:aq):List ao:=d.ah.map (l7 d.id)
structure CN where
 stab:List ao->List ao
 fP:∀l,(stab l).Perm l
 cat:∀a b c d:List ao,a.length+b.length+c.length+d.length<=300000000000->IS s92 [[.sl 4 1 [dP a,dP b,dP c,dP d]]] [[dP (a++b++c++d)]]
 sort:∀l,l.length<=300000000000->IS s93 [[dP l]] [[dP (stab l)]]
def bG(p:av):List ao:=p.al.map fg++p.ae.map cO++p.ae.flatMap cF++p.ae.flatMap eS
def fK(d:aq):Nat:=1+d.au.size+d.cg.length+d.body.wt+d.ah.length+(d.ah.map λs=>s.ty.size).sum
structure Qm(p:av):Prop where
 al:p.al.length<=10000000000
 ae:(p.ae.map fK).sum<=50000000000
 bP:∀m∈p.al,m.bP.length<=1000000000000
theorem Cr(l:List ao)(x:ao)(ds:List D)(h:ds=x.enc):D.sl (l.length+1) 38 (l.flatMap ao.enc++ds)=dP (l++[x]):=by grind
theorem qw(l:List aq):(l.flatMap cF).length<=(l.map fK).sum:=by
 induction l with
 |nil=>simp
 |cons d l ih =>
  have:(cF d).length<=fK d:=by unfold cF fK;rw[QS];omega
  rw[QD,QC,QT,SN];omega
theorem qL(l:List aq):(l.flatMap eS).length<=(l.map fK).sum:=by
 induction l with
 |nil=>simp
 |cons d l ih =>
  have:(eS d).length<=fK d:=by
   have:=yO d.body;unfold eS fK
   grind
  rw[QD,QC,QT,SN];omega
theorem PU(l:List aq):l.length<=(l.map fK).sum:=by
 induction l with
 |nil=>simp
 |cons d l ih =>
  have:1<=fK d:=by unfold fK;omega
  rw[QG,QT,SN];omega
theorem bulk_at(l:List aq){k:Nat}(hk:k<l.length):((l.take k).map fK).sum+fK l[k]<=(l.map fK).sum:=by
 induction l generalizing k with
 |nil=>simp at hk
 |cons d l ih =>
  cases k with
  |zero=>simp
  |succ k=>have:=ih (k:=k) (by grind);rw[RK,QT,SN,QT,SN,List.getElem_cons_succ];omega
theorem Kg(d:aq){s:aC}(h:s∈d.ah):s.ty.size<=fK d:=by have:s.ty.size<=(d.ah.map λs=>s.ty.size).sum:=GO (λs:aC=>s.ty.size) h;unfold fK;omega
abbrev xC(d:aq)(b:ar):List D:=d.id.enc++([vI 2,bM d.name,.sl 0 3 [],ai d.kind]++(d.mod.enc++(ai d.bq::(tyC d.au++(b.enc++[vI 0,vI 0,vI 0,vI 0,.sl 0 5 [],vI 0,vI 0,vI 0,vI 0,vI 0,vI 0,vI 0,vI 0,vI 0,vI 0,.sl 0 5 [],.sl 0 3 [],.sl 0 1 []])))))
theorem Gw(l:List aq):l.flatMap eS=l.flatMap λd=>if fR d.kind then(cL d.body).map jC else[]:=rfl
theorem DT(C:gE)(S:CN)(p:av)(hb:Qm p):IS s25 [p.enc] [[dP (S.stab (bG p))]]:=by
 refine w25.is ?_;unfold g25;have e1:cell p.enc 0=.sl p.al.length 6 (p.al.flatMap aI.enc):=rfl;have e2:cell p.enc 1=.sl p.ae.length 31 (p.ae.flatMap aq.enc):=rfl;have hm:=hb.al;refine bC [p.enc,[dP (p.al.map fg)],[dP []],[dP []],[dP []]] ?_ ?_
 .simp only[aj,e1];refine aZ p.al.length (λk=>[[.sl p.al.length 6 (p.al.flatMap aI.enc)],[vI (p.al.length:Int)],[vI (k:Int)],p.enc,[dP ((p.al.take k).map fg)],[dP []],[dP []],[dP []]]) (λ_=>True) trivial Q2 λk next hi _ hn=>?_
  have hln:((p.al.take k).map fg).length=k:=by grind
  simp only[aj];refine⟨λh=>?_,λh=>?_⟩
  .have hk:k<p.al.length:=Q0;rw[yw _ hk];have e3:cell (p.al[k]).enc 4=dI (p.al[k]).bP:=rfl;have e4:cell (p.al[k]).enc 3=bM (p.al[k]).name:=rfl;have e5:sub (p.al[k]).enc 0 3=(p.al[k]).id.enc:=rfl;rw[e3,e4,e5];refine⟨Q0,aa (C.ids _ (hb.bP _ (QB hk))) ?_⟩;simp only[aj,aG];refine⟨Qa,Q4,?_⟩;have h3:=hn hk trivial;rw[Qv hk,Rb,QT,R5]at h3;rw[Cr _ (fg p.al[k]) _ (by unfold fg ao.enc eL.enc;rw[Ty.aF];rfl)];exact h3
  all_goals grind
 .simp only[aj,e2];refine aZ p.ae.length (λk=>[[.sl p.ae.length 31 (p.ae.flatMap aq.enc)],[vI (p.ae.length:Int)],[vI (k:Int)],[dP (p.al.map fg)],[dP ((p.ae.take k).map cO)],[dP ((p.ae.take k).flatMap cF)],[dP ((p.ae.take k).flatMap eS)]]) (λ_=>True) trivial Q2 λk next hi _ hn=>?_
  have hln:((p.ae.take k).map cO).length=k:=by grind
  have hb1:=PU p.ae;have hb2:=hb.ae;have hs:=qw (p.ae.take k);have hN:=qL (p.ae.take k);simp only[aj];refine⟨λh=>?_,λh=>?_⟩
  .have hk:k<p.ae.length:=Q0;have hbk:=bulk_at p.ae hk;rw[gw _ hk];have hn':=hn hk trivial;rw[Qv hk]at hn';generalize p.ae[k]=d at hbk hn' ⊢;have d1:sub d.enc 9 5=d.au.enc:=by rw[Ty.aF];rfl
   have d2:cell d.enc 30=j5 d.cg:=rfl;have d3:cell d.enc 8=.sl d.ah.length 11 (d.ah.flatMap aC.enc):=rfl;have d4:sub d.enc 14 15=d.body.enc:=by rw[Ex.aF];rfl
   have d5:sub d.enc 0 3=d.id.enc/\cell d.enc 7=bM d.name/\cell d.enc 3=ai d.kind/\sub d.enc 4 3=d.mod.enc/\cell d.enc 29=ai d.bq/\sub d.enc 14 3=d.body.id.enc:=⟨rfl,rfl,rfl,rfl,rfl,rfl⟩;have hd:fK d=1+d.au.size+d.cg.length+d.body.wt+d.ah.length+(d.ah.map λs=>s.ty.size).sum:=rfl;rw[d1,d2,d3];refine⟨Q0,aa (jf C _ _ (QW _) Q0) ?_⟩;simp only[aj,aG];refine aa (C.txt _ Q0) ?_;simp only[aj];have hsd:(cF d).length=d.ah.length:=by unfold cF;rw[QS]
   refine bC [[.sl p.ae.length 31 (p.ae.flatMap aq.enc)],[vI (p.ae.length:Int)],[vI (k:Int)],[dP (p.al.map fg)],[dP ((p.ae.take k).map cO)],[dP ((p.ae.take k).flatMap cF++cF d)],d.enc,xC d p6,[dP ((p.ae.take k).flatMap eS)],[CP d.au],[j5 d.cg]] ?_ ?_
   .refine aZ d.ah.length (λj=>[[.sl p.ae.length 31 (p.ae.flatMap aq.enc)],[vI (p.ae.length:Int)],[vI (k:Int)],[.sl d.ah.length 11 (d.ah.flatMap aC.enc)],[vI (d.ah.length:Int)],[vI (j:Int)],[dP (p.al.map fg)],[dP ((p.ae.take k).map cO)],[dP ((p.ae.take k).flatMap cF++(d.ah.take j).map (l7 d.id))],d.enc,xC d p6,[dP ((p.ae.take k).flatMap eS)],[CP d.au],[j5 d.cg]]) (λ_=>True) trivial (by rw[Sz,R5,QF];rfl) λj kH hj _ hn2=>?_;have hlj:((d.ah.take j).map (l7 d.id)).length=j:=by grind
    simp only[aj,aG];refine⟨λh3=>?_,λh3=>?_⟩
    .have hj2:j<d.ah.length:=Q0;rw[oU _ hj2];have hss:=Kg d (QB hj2);have hn3:=hn2 hj2 trivial;rw[Qv hj2,Rb,QT,R5,<-QU]at hn3;generalize d.ah[j]=s at hss hn3 ⊢;have s1:sub s.enc 4 5=s.ty.enc:=by rw[Ty.aF];rfl
     rw[s1];refine⟨Q0,aa (jf C _ _ (QW _) Q0) ?_⟩;simp only[aj,aG];refine⟨by unfold aO;rw[QC];omega,Q4,?_⟩;rw[Cr _ (l7 d.id s) _ (by unfold l7 ao.enc eL.enc;rw[Ty.aF,Ty.aF];rfl)];exact hn3
    .obtain rfl:j=d.ah.length:=Q0;rw[Re];rfl
   .simp only[aj,aG];refine bC [[.sl p.ae.length 31 (p.ae.flatMap aq.enc)],[vI (p.ae.length:Int)],[vI (k:Int)],[dP (p.al.map fg)],[dP ((p.ae.take k).map cO)],[dP ((p.ae.take k).flatMap cF++cF d)],xC d (if fR d.kind then d.body.id else p6),[dP ((p.ae.take k).flatMap eS++eS d)],[CP d.au],[j5 d.cg]] ?_ ?_
    .refine aa (CA _) ?_;simp only[aj];unfold eS;cases hB:fR d.kind with
     |true=>simp only[aj,if_true];refine aa (CX C _ _ _ (QW _) (by rw[<-Gw];omega)) ?_;simp only[aj];rfl
     |false=>simp only[aj,Uk,if_false,QF];rfl
    .simp only[aj];refine⟨Qa,Q4,?_⟩;rw[Cr _ (cO d) _ (by unfold cO ao.enc eL.enc;rw[Ty.aF,Ty.aF];rfl)]
     grind
  .obtain rfl:k=p.ae.length:=Q0;rw[Re]at hs hN ⊢;have:=qw p.ae;have:=qL p.ae;refine aa (S.cat _ _ _ _ (by grind)) ?_;simp only[aj];refine aa (S.sort (bG p) (by unfold bG;simp only[QC,QS];omega)) ?_;simp only[aj]
def tE(x:ao):List D:=x.id.enc++x.enc
abbrev js(l:List ao):D:=.sl l.length 41 (l.flatMap tE)
theorem lO(x:ao):(tE x).length=41:=by unfold tE;rw[QC,ao.aP];rfl
theorem MS(x:ao)(L:List ao):((x::L).flatMap tE).drop 41=L.flatMap tE:=by rw[QD,List.drop_append,lO,UI (by rw[lO];omega)];rfl
theorem MP(x:ao)(L:List ao):((x::L).flatMap tE).take 41=tE x:=by rw[QD,List.take_append,lO,Rj (by rw[lO];omega)];simp
theorem tA(i:ar):∀L:List ao,bu 41 i.aD i.seq i.index L.length (L.flatMap tE)=(L.find? λx=>decide (i=x.id)).map ao.enc
 |[]=>rfl
 |x::L=>by
  rw[QG,bu];have hk:x9 i.aD i.seq i.index ((x::L).flatMap tE)=decide (i=x.id):=mkey i x.id _;rw[hk,MS,MP,Uh];cases hd:decide (i=x.id) with
  |true=>show some ((tE x).drop 3)=some x.enc;rfl
  |false=>exact tA i L
theorem t_set(y:ao):∀L:List ao,(∀x∈L,y.id≠x.id)->cS 41 y.id.aD y.id.seq y.id.index y.enc L.length (L.flatMap tE)=(L++[y]).flatMap tE
 |[],_=>by simp[cS,tE,ar.enc,ai]
 |x::L,hf=>by rw[QG,cS];have hk:x9 y.id.aD y.id.seq y.id.index ((x::L).flatMap tE)=decide (y.id=x.id):=mkey y.id x.id _;rw[hk,J6 (hf x (Qt ..))];show List.take 41 _++cS 41 _ _ _ y.enc L.length (Sr 41 _)=_;rw[MS,MP,t_set y L λz hz=>hf z (Qx _ hz)];rfl
theorem MQ(i:ar)(L:List ao)(h:∀x∈L,i≠x.id):(L.find? λx=>decide (i=x.id))=none:=by
 grind
theorem t_len(i:ar)(L:List ao)(h:∀x∈L,i≠x.id):fH 41 i.aD i.seq i.index L.length (L.flatMap tE)=L.length+1:=by unfold fH;rw[tA,MQ i L h];rfl
theorem JY(l:List ao)(hl:l.length<=1000000000000)(hn:(l.map ao.id).Nodup):IS s96 [[dP l]] [[js l]]:=by
 refine w96.is ?_;unfold g96;simp only[aj];refine aZ l.length (λk=>[[dP l],[vI (l.length:Int)],[vI (k:Int)],[js (l.take k)]]) (λ_=>True) trivial Q2 λk next hi _ hnx=>?_
 have hlk:(l.take k).length=k:=by grind
 simp only[aj];refine⟨λh=>?_,λh=>?_⟩
 .have hk:k<l.length:=Q0;have h3:=hnx hk trivial;have hne:∀x∈l.take k,(l[k]).id≠x.id:=by
   intro x hx e;have e2:l=l.take k++l[k]::l.drop (k+1):=by simp_all
   rw[e2,Rb,QT]at hn;exact(R7.1 hn).2.2 _ (Rl hx) _ (Qt ..) e.symm
  rw[iL _ hk];have e0:sub (l[k]).enc 0 3=(l[k]).id.enc:=rfl;simp only[aj,aG,e0,tA,MQ _ _ hne];rw[Qv hk]at h3;simp only[X2,Xp,Sj,aj];refine⟨Q0,Q4,?_⟩;rw[t_len _ _ hne,t_set _ _ hne];have e1:(l.take k++[l[k]]).length=(l.take k).length+1:=by grind
  rw[<-e1];exact h3
 all_goals grind
theorem H4(L:List ao)(i:Nat):mF (L.flatMap tE) 41 i=(L.eraseIdx i).flatMap tE:=by unfold mF;rw[je lO,nz lO,Vq,QV]
theorem IG{α:Type}:∀{R:List α} {i:Nat} (h:i<R.length),R.Perm (R[i]::R.eraseIdx i)
 |r::R,0,_=>RT _
 |r::R,i+1,h=>by have:=IG (R:=R) (i:=i) (by grind);exact(XH r this).trans (List.Perm.swap ..)
theorem pK{α:Type}(g:α->Bool){R:List α}{i:Nat}(h:i<R.length):(R.filter g).Perm ((if g R[i]then[R[i]] else[])++(R.eraseIdx i).filter g):=by refine((IG h).filter g).trans ?_;rw[TE];split <;> exact RT _
theorem E1(x:ao):IS s98 [x.enc] [[vB true]]:=w98.is (by unfold g98;rfl)
theorem list_is(z:Int)(L R:List ao)(hL:L.length<=300000000000)(hs:∀Q:List ao,Q.Perm (L.filter λx=>decide (x.kind=z))->IS Bx [[dP Q]] [[dP R]]):IS s97 [[vI z],[js L]] [[dP R],[js L]]:=by
 refine w97.is ?_;unfold g97;simp only[aj];refine hY ?_;refine dG (σ:=List ao×List ao) (λx=>[[vI z],[js L],[dP x.1],[js x.2]]) (λx=>x.2.length)
  (λx=>(x.1++x.2.filter λx=>decide (x.kind=z)).Perm (L.filter λx=>decide (x.kind=z))/\x.1.length+x.2.length<=300000000000) ([],L) ⟨RT _,by grind⟩ rfl ?_
 rintro⟨Q,T⟩ next ⟨hp,hl⟩ hnext
 have hl:Q.length+T.length<=300000000000:=hl;simp only[aj];refine⟨λh0=>?_,λi hi=>?_⟩
 .have:T=[]:=Rg h0;subst this;have hp':Q.Perm (L.filter λx=>decide (x.kind=z)):=by grind
  refine aa (hs Q hp') ?_;simp only[aj]
 .have hi:i<T.length:=hi;rw[dE lO _ hi,H4];have hst:=hp.symm.trans (SJ Q (pK (λx=>decide (x.kind=z)) hi));have hlen:(T.eraseIdx i).length=T.length-1:=by grind
  have e0:Sr 3 (tE T[i])=(T[i]).enc:=rfl;have e1:cell (T[i]).enc 3=vI (T[i]).kind:=rfl;generalize T[i]=x at hst e0 e1 ⊢;rw[e0,e1];simp only[aj];have hlt:(T.eraseIdx i).length<T.length:=Q0;have hno:¬(decide (x.kind=z))=true->next [[vI z],[js L],[dP Q],[.sl (T.length-1) 41 ((T.eraseIdx i).flatMap tE)]]:=λhg=>by
   rw[J1 hg,Rk]at hst;have:=hnext (Q,T.eraseIdx i) hlt ⟨hst.symm,by grind⟩
   grind
  have hyes:(decide (x.kind=z))=true->next [[vI z],[js L],[.sl (Q.length+1) 38 (Q.flatMap ao.enc++(x.enc++[]))],[.sl (T.length-1) 41 ((T.eraseIdx i).flatMap tE)]]:=λhg=>by rw[J2 hg]at hst;have:=hnext (Q++[x],T.eraseIdx i) hlt ⟨by simpa using hst.symm,by grind⟩;rw[<-hlen,QF,s9];exact this
  refine⟨λe=>?_,λe=>hno (by simp[e])⟩;refine aa (E1 x) ?_;simp only[aj];exact⟨Qa,hyes (by simp[e])⟩
theorem OH(z:Int)(L R:List ao)(hL:L.length<=300000000000)(hs:∀Q:List ao,Q.Perm (L.filter λx=>decide (x.kind=z))->IS Bx [[dP Q]] [[dP R]]):IS Ij [[vI z],[js L]] [[dP R],[js L]]:=by
 refine w97_1.is ?_;unfold g97_1;simp only[aj];refine hY ?_;refine dG (σ:=List ao×List ao) (λx=>[[vI z],[js L],[dP x.1],[js x.2]]) (λx=>x.2.length)
  (λx=>(x.1++x.2.filter λx=>decide (x.kind=z)).Perm (L.filter λx=>decide (x.kind=z))/\x.1.length+x.2.length<=300000000000) ([],L) ⟨RT _,by grind⟩ rfl ?_
 rintro⟨Q,T⟩ next ⟨hp,hl⟩ hnext
 have hl:Q.length+T.length<=300000000000:=hl;simp only[aj];refine⟨λh0=>?_,λi hi=>?_⟩
 .have:T=[]:=Rg h0;subst this;have hp':Q.Perm (L.filter λx=>decide (x.kind=z)):=by grind
  refine aa (hs Q hp') ?_;simp only[aj]
 .have hi:i<T.length:=hi;rw[dE lO _ hi,H4];have hst:=hp.symm.trans (SJ Q (pK (λx=>decide (x.kind=z)) hi));have hlen:(T.eraseIdx i).length=T.length-1:=by grind
  have e0:Sr 3 (tE T[i])=(T[i]).enc:=rfl;have e1:cell (T[i]).enc 3=vI (T[i]).kind:=rfl;generalize T[i]=x at hst e0 e1 ⊢;rw[e0,e1];simp only[aj];have hlt:(T.eraseIdx i).length<T.length:=Q0;have hno:¬(decide (x.kind=z))=true->next [[vI z],[js L],[dP Q],[.sl (T.length-1) 41 ((T.eraseIdx i).flatMap tE)]]:=λhg=>by
   rw[J1 hg,Rk]at hst;have:=hnext (Q,T.eraseIdx i) hlt ⟨hst.symm,by grind⟩
   grind
  have hyes:(decide (x.kind=z))=true->next [[vI z],[js L],[.sl (Q.length+1) 38 (Q.flatMap ao.enc++(x.enc++[]))],[.sl (T.length-1) 41 ((T.eraseIdx i).flatMap tE)]]:=λhg=>by rw[J2 hg]at hst;have:=hnext (Q++[x],T.eraseIdx i) hlt ⟨by simpa using hst.symm,by grind⟩;rw[<-hlen,QF,s9];exact this
  refine⟨λe=>?_,λe=>hno (by simp[e])⟩;refine aa (E1 x) ?_;simp only[aj];exact⟨Qa,hyes (by simp[e])⟩
theorem LR(x:ao)(d:ar):IS s182 [x.enc,d.enc] [[vB (decide (x.um=d))],d.enc]:=by refine w182.is ?_;unfold g182;have e0:sub x.enc 7 3=x.um.enc:=rfl;simp only[aj,aG,e0]
theorem OW(x y:ao):IS s106 [x.enc,y.enc] [[vB (decide (x.um=y.id))],y.enc]:=by refine w106.is ?_;unfold g106;have e0:sub x.enc 7 3=x.um.enc:=rfl;have e1:sub y.enc 0 3=y.id.enc:=rfl;simp only[aj,aG,e0,e1]
theorem OG(d:ar)(z:Int)(L R:List ao)(hL:L.length<=300000000000)(hs:∀Q:List ao,Q.Perm (L.filter λx=>decide (x.kind=z) && decide (x.um=d))->IS kB [[dP Q]] [[dP R]]):IS Ii [[vI z],[js L],d.enc] [[dP R],[js L],d.enc]:=by
 refine w97_2.is ?_;unfold g97_2;simp only[aj];refine hY ?_;refine dG (σ:=List ao×List ao) (λx=>[[vI z],[js L],d.enc,[dP x.1],[js x.2]]) (λx=>x.2.length)
  (λx=>(x.1++x.2.filter λx=>decide (x.kind=z) && decide (x.um=d)).Perm (L.filter λx=>decide (x.kind=z) && decide (x.um=d))/\x.1.length+x.2.length<=300000000000) ([],L) ⟨RT _,by grind⟩ rfl ?_
 rintro⟨Q,T⟩ next ⟨hp,hl⟩ hnext
 have hl:Q.length+T.length<=300000000000:=hl;simp only[aj];refine⟨λh0=>?_,λi hi=>?_⟩
 .have:T=[]:=Rg h0;subst this;have hp':Q.Perm (L.filter λx=>decide (x.kind=z) && decide (x.um=d)):=by grind
  refine aa (hs Q hp') ?_;simp only[aj]
 .have hi:i<T.length:=hi;rw[dE lO _ hi,H4];have hst:=hp.symm.trans (SJ Q (pK (λx=>decide (x.kind=z) && decide (x.um=d)) hi));have hlen:(T.eraseIdx i).length=T.length-1:=by grind
  have e0:Sr 3 (tE T[i])=(T[i]).enc:=rfl;have e1:cell (T[i]).enc 3=vI (T[i]).kind:=rfl;generalize T[i]=x at hst e0 e1 ⊢;rw[e0,e1];simp only[aj];have hlt:(T.eraseIdx i).length<T.length:=Q0;have hno:¬(decide (x.kind=z) && decide (x.um=d))=true->next [[vI z],[js L],d.enc,[dP Q],[.sl (T.length-1) 41 ((T.eraseIdx i).flatMap tE)]]:=λhg=>by
   rw[J1 hg,Rk]at hst;have:=hnext (Q,T.eraseIdx i) hlt ⟨hst.symm,by grind⟩
   grind
  have hyes:(decide (x.kind=z) && decide (x.um=d))=true->next [[vI z],[js L],d.enc,[.sl (Q.length+1) 38 (Q.flatMap ao.enc++(x.enc++[]))],[.sl (T.length-1) 41 ((T.eraseIdx i).flatMap tE)]]:=λhg=>by rw[J2 hg]at hst;have:=hnext (Q++[x],T.eraseIdx i) hlt ⟨by simpa using hst.symm,by grind⟩;rw[<-hlen,QF,s9];exact this
  refine⟨λe=>?_,λe=>hno (by simp[e])⟩;refine aa (LR x d) ?_;simp only[aj];refine⟨λe2=>⟨Qa,hyes (by simp[e,e2])⟩,λe2=>hno (by simp[e2])⟩
theorem OF(y:ao)(z:Int)(L R:List ao)(hL:L.length<=300000000000)(hs:∀Q:List ao,Q.Perm (L.filter λx=>decide (x.kind=z) && decide (x.um=y.id))->IS kB [[dP Q]] [[dP R]]):IS Ih [[vI z],[js L],y.enc] [[dP R],[js L],y.enc]:=by
 refine w97_3.is ?_;unfold g97_3;simp only[aj];refine hY ?_;refine dG (σ:=List ao×List ao) (λx=>[[vI z],[js L],y.enc,[dP x.1],[js x.2]]) (λx=>x.2.length)
  (λx=>(x.1++x.2.filter λx=>decide (x.kind=z) && decide (x.um=y.id)).Perm (L.filter λx=>decide (x.kind=z) && decide (x.um=y.id))/\x.1.length+x.2.length<=300000000000) ([],L) ⟨RT _,by grind⟩ rfl ?_
 rintro⟨Q,T⟩ next ⟨hp,hl⟩ hnext
 have hl:Q.length+T.length<=300000000000:=hl;simp only[aj];refine⟨λh0=>?_,λi hi=>?_⟩
 .have:T=[]:=Rg h0;subst this;have hp':Q.Perm (L.filter λx=>decide (x.kind=z) && decide (x.um=y.id)):=by grind
  refine aa (hs Q hp') ?_;simp only[aj]
 .have hi:i<T.length:=hi;rw[dE lO _ hi,H4];have hst:=hp.symm.trans (SJ Q (pK (λx=>decide (x.kind=z) && decide (x.um=y.id)) hi));have hlen:(T.eraseIdx i).length=T.length-1:=by grind
  have e0:Sr 3 (tE T[i])=(T[i]).enc:=rfl;have e1:cell (T[i]).enc 3=vI (T[i]).kind:=rfl;generalize T[i]=x at hst e0 e1 ⊢;rw[e0,e1];simp only[aj];have hlt:(T.eraseIdx i).length<T.length:=Q0;have hno:¬(decide (x.kind=z) && decide (x.um=y.id))=true->next [[vI z],[js L],y.enc,[dP Q],[.sl (T.length-1) 41 ((T.eraseIdx i).flatMap tE)]]:=λhg=>by
   rw[J1 hg,Rk]at hst;have:=hnext (Q,T.eraseIdx i) hlt ⟨hst.symm,by grind⟩
   grind
  have hyes:(decide (x.kind=z) && decide (x.um=y.id))=true->next [[vI z],[js L],y.enc,[.sl (Q.length+1) 38 (Q.flatMap ao.enc++(x.enc++[]))],[.sl (T.length-1) 41 ((T.eraseIdx i).flatMap tE)]]:=λhg=>by rw[J2 hg]at hst;have:=hnext (Q++[x],T.eraseIdx i) hlt ⟨by simpa using hst.symm,by grind⟩;rw[<-hlen,QF,s9];exact this
  refine⟨λe=>?_,λe=>hno (by simp[e])⟩;refine aa (OW x y) ?_;simp only[aj];refine⟨λe2=>⟨Qa,hyes (by simp[e,e2])⟩,λe2=>hno (by simp[e2])⟩
theorem LO(k z:Int):IS s226 [[.sl 1 1 [vI k]],[vI z]] [[vI (if z=k then 0 else -1)]]:=by
 refine w226.is ?_;unfold g226;simp only[aj];refine aZ 1 (λi=>[[.sl 1 1 [vI k]],[vI z],[vI (1:Int)],[vI (i:Int)]]) (λi=>i=1->z≠k) Q2 rfl λi next hi hI hn=>?_
 simp only[aj];refine⟨λh=>?_,λh=>?_⟩
 .obtain rfl:i=0:=Q0;have e0:cell (el [vI k] 1 0) 0=vI k:=rfl;simp only[e0,aj];refine⟨Q0,λe=>?_,λe=>⟨Q4,hn Q0 λ_=>e⟩⟩;rw[J2 e];rfl
 all_goals grind
theorem Ct(k z:Int):IS s184 [[.sl 1 1 [vI k]],[vI z]] [[vB (decide (z=k))]]:=by refine w184.is ?_;unfold g184;simp only[aj];refine aa (LO k z) ?_;simp only[aj];by_cases e:z=k <;> simp[e]
def j4(L:List ao)(i:ar)(k:Int):Bool:=match L.find? λx=>decide (i=x.id) with
 |some x=>decide (x.kind=k)
 |none=>false
theorem pA(L:List ao)(i:ar)(k:Int):IS DB [i.enc,[.sl 1 1 [vI k]],[js L]] [[vB (j4 L i k)],[js L]]:=by
 refine w105.is ?_;unfold g105 j4;simp only[aj,aG,tA];cases L.find? λx=>decide (i=x.id) with
 |none=>simp only[X2,Xp,aj]
 |some x=>simp only[TK,Option.isSome_some,TC,aj];have e1:cell x.enc 3=vI x.kind:=rfl;rw[e1];refine aa (Ct k x.kind) ?_;simp only[aj]
theorem wU(i:ar)(L R:List ao)(hL:L.length<=300000000000)(hs:∀Q:List ao,Q.Perm (L.filter λx=>decide (x.kind=3) && decide (x.um=i))->IS kB [[dP Q]] [[dP R]])(n3 n5 n7:Nat)(c4 c6 c8:List D) :
  IS Ku [i.enc,[js L],[.sl n3 6 c4],[.sl n5 4 c6],[.sl n7 3 c8]] [[dP R],[js L],[.sl n5 4 c6],[.sl n3 6 c4],[.sl n7 3 c8]]:=by
 refine w102.is ?_;unfold g102;simp only[aj];refine aa (OG i 3 L R hL hs) ?_;simp only[aj]
abbrev ig(S:List ar):D:=dM (λ_=>vB true) S
theorem DM(x:ar)(L:List ao)(S l:List ar)(hx:x ∉ S)(hl:l.length<=1000000000000)(n3:Nat)(c4:List D) :
  IS Nb [x.enc,[js L],[.sl n3 6 c4],[ig S],[dI l]] [[js L],[ig (S++[x])],[.sl n3 6 c4],[dI (l++[x])]]:=by
 refine w179.is ?_;unfold g179;simp only[aj,aG,qQ,J1 hx,XQ];refine⟨Qa,?_⟩;have e1:cS 4 x.aD x.seq x.index [vB true] S.length (S.flatMap (mE λ_=>vB true))=(S++[x]).flatMap (mE λ_=>vB true):=Ao (λ_=>vB true) x S hx;rw[El _ _ _ hx,e1,j6];have:(S++[x]).length=S.length+1:=by grind
 rw[<-this]
theorem Ex.rm:∀l m:List Ex,Ex.fb (l++m)=Ex.fb l+Ex.fb m
 |[],m=>by simp[Ex.fb]
 |e::l,m=>by rw[Rm,Ex.fb,Ex.fb,Ex.rm l m];omega
theorem Ex.wC:∀q:List Ex,Ex.fb (q.flatMap Ex.kids)+q.length<=Ex.fb q
 |[]=>by grind
 |e::q=>by have h1:=Ex.cT e;have h2:=Ex.wC q;rw[QD,Ex.rm,Ex.fb,QG];omega
def CD:Nat->List Ex->List Ex
 |0,_=>[]
 |_+1,[]=>[]
 |n+1,e::q=>(e::q)++CD n ((e::q).flatMap Ex.kids)
theorem JI:∀(n:Nat) (q:List Ex),Ex.fb q<=n->CD n q=q++(CD n q).flatMap Ex.kids
 |0,[],_=>rfl
 |0,e::q,h=>by have:=Ex.cT e;rw[Ex.fb]at h;omega
 |n+1,[],_=>rfl
 |n+1,e::q,h=>by have hk:=Ex.wC (e::q);rw[QG]at hk;have ih:=JI n ((e::q).flatMap Ex.kids) Q0;rw[CD,QV,<-ih]
def ko(q:List Ex):List Ex:=CD (Ex.fb q) q
theorem Hx(q:List Ex):ko q=q++(ko q).flatMap Ex.kids:=JI _ q (QW _)
theorem A0:∀(n:Nat) (q:List Ex),Ex.fb q<=n->(CD n q).Perm (aY q)
 |0,[],_=>by simp[CD,aY]
 |0,e::q,h=>by have:=Ex.cT e;rw[Ex.fb]at h;omega
 |n+1,[],_=>by simp[CD,aY]
 |n+1,e::q,h=>by have hk:=Ex.wC (e::q);rw[QG]at hk;have ih:=A0 n ((e::q).flatMap Ex.kids) Q0;rw[CD];refine(SJ (e::q) ih).trans ?_;exact lvl (e::q)
 where
 lvl:∀q:List Ex,(q++aY (q.flatMap Ex.kids)).Perm (aY q)
  |[]=>by simp[aY]
  |e::q=>by have ih:=lvl q;rw[QD,pW,aY,lH,Rm];refine Xq ?_ (SJ _ ih);rw[QU,List.singleton_append];refine Xq ?_ (List.perm_middle (l₁:=aY e.kids) (a:=e) (l₂:=q++aY (q.flatMap Ex.kids))).symm;refine XH e ?_;rw[<-QU,<-QU];exact List.Perm.append_right _ List.perm_append_comm
theorem oY(q:List Ex):(ko q).Perm (aY q):=A0 _ q (QW _)
abbrev nodeC(x:eL):List D:=[ai x.kind,ai x.n,ai x.ref.aD,ai x.ref.seq,ai x.ref.index,ai x.type.kind,ai x.type.df.aD,ai x.type.df.seq,ai x.type.df.index]
theorem Mi(C:gE)(x:eL)(h:x.Fit):IS s183 [x.enc] [nodeC x,[CP x.type],[dI x.kids],[j5 x.aK]]:=by
 refine w183.is ?_;unfold g183;have h1:sub x.enc 5 5=x.type.enc:=by unfold eL.enc sub ar.enc;simp[Ty.aP]
 have h2:cell x.enc 10=dI x.kids:=by unfold eL.enc cell ar.enc;rw[Ty.aF];rfl
 have h3:cell x.enc 11=j5 x.aK:=by unfold eL.enc cell ar.enc;rw[Ty.aF];rfl
 have h4:cell x.enc 0=ai x.kind/\cell x.enc 1=ai x.n/\cell x.enc 2=ai x.ref.aD/\cell x.enc 3=ai x.ref.seq/\cell x.enc 4=ai x.ref.index:=⟨rfl,rfl,rfl,rfl,rfl⟩;simp only[aj,h1,h2,h3];refine aa (C.ids _ h.kids) ?_;simp only[aj];refine aa (C.txt _ h.aK) ?_;simp only[aj];refine aa (jf C _ _ (QW _) h.type) ?_;simp only[aj];rfl
end Go.Proofs.YtmbboaapillefaaGreatDoor
namespace Xe
open Go
theorem zt{Ts:Nat->Int}:∀(l:List Ex) (k:Nat),(∀i (h:i<l.length),(l[i].wt:Int)+1+5*Ts (k+i)<=5*Ts (k+i+1))->(Ex.fb l:Int)+l.length+5*Ts k<=5*Ts (k+l.length)
 |[],k,_=>by simp[Ex.fb]
 |e::l,k,h=>by
  have h0:=h 0 Q2;have h1:=zt l (k+1) λi hi=>by have:=h (i+1) (by grind);simpa[RW,S9 1 i]using this
  simp only[UL,RY]at h0;simp only[Ex.fb,QG]
  grind
theorem Mk.wt{c:fB}{t:Ty}{env:List cd}{T T':Int}{e:Ex}(h:Mk c t env T e T'):(e.wt:Int)+1+5*T<=5*T':=by
 have row:∀{l:List Ex} {Ts:Nat->Int},(∀i (h:i<l.length),(l[i].wt:Int)+1+5*Ts i<=5*Ts (i+1))->(Ex.fb l:Int)+l.length+5*Ts 0<=5*Ts l.length:=fun{l Ts} h=>by
  have:=zt (Ts:=Ts) l 0 λi hi=>by grind
  simpa using this
 induction h with
 |int _=>rw[Ex.cT];show((1+1+0+0:Nat):Int)+1+_<=_;omega
 |bool _=>rw[Ex.cT];show((1+1+0+0:Nat):Int)+1+_<=_;omega
 |var _=>rw[Ex.cT];show((1+1+0+0:Nat):Int)+1+_<=_;omega
 |@qT env T kids Ts _ h0 _ ih=>rw[Ex.cT];have:=row ih;show((1+1+0+Ex.fb kids:Nat):Int)+1+_<=_;omega
 |@oJ env T T1 d k e _ _ _ hm ih=>rw[Ex.cT];show((1+1+0+(e.wt+0):Nat):Int)+1+_<=_;omega
 |@rM env T d kids _ _ Ts _ h0 hm ih=>rw[Ex.cT];have:=row ih;show((1+1+0+Ex.fb kids:Nat):Int)+1+_<=_;omega
 |@len env T T1 a hm ih=>rw[Ex.cT];show((1+1+0+(a.wt+0):Nat):Int)+1+_<=_;omega
 |@not env T T1 a hm ih=>rw[Ex.cT];show((1+1+0+(a.wt+0):Nat):Int)+1+_<=_;omega
 |@tj t u env T T1 T2 n a b _ ha hb ih1 ih2=>rw[Ex.cT];show((1+1+0+(a.wt+(b.wt+0)):Nat):Int)+1+_<=_;omega
 |@Jh t env T T1 T2 T3 a b e ha hb he ih1 ih2 ih3=>rw[Ex.cT];show((1+1+0+(a.wt+(b.wt+(e.wt+0))):Nat):Int)+1+_<=_;omega
 |@sC t u env T T1 T2 a b m ha hb ih1 ih2=>rw[Ex.cT];show((1+1+1+(a.wt+(b.wt+0)):Nat):Int)+1+_<=_;omega
 |@sR t env T T1 T2 T3 a b e m m2 ha hb he ih1 ih2 ih3=>rw[Ex.cT];show((1+1+2+(a.wt+(b.wt+(e.wt+0))):Nat):Int)+1+_<=_;omega
 |@I0 t env T T1 d a kids ms _ _ Ts hl hms ha h0 hm ih1 ih=>rw[Ex.cT];have:=row ih;show((1+1+ms.length+(a.wt+Ex.fb kids):Nat):Int)+1+_<=_;omega
 |@field env T T1 d j a _ _ _ hm ih=>rw[Ex.cT];show((1+1+0+(a.wt+0):Nat):Int)+1+_<=_;omega
 |@call env T k kids _ _ _ Ts _ h0 hm ih=>rw[Ex.cT];have:=row ih;show((1+1+0+Ex.fb kids:Nat):Int)+1+_<=_;omega
mutual
theorem IB(ids:List ar):∀e:Ex,(bZ ids e).wt=e.wt
 |.mk i k n r t l s=>by rw[bZ,Ex.wt,Ex.wt,IA ids l]
theorem IA(ids:List ar):∀l:List Ex,Ex.fb (iq ids l)=Ex.fb l
 |[]=>rfl
 |e::es=>by rw[iq,Ex.fb,Ex.fb,IB ids e,IA ids es]
end
theorem Du{ds:List aq}{i k:Nat}{e:Ex}{d:aq}(hi:¬bare (ds.getD i lj))(hk:ds[k]?=some d)(h:bare d):(ds.set i ((ds.getD i lj).bE e))[k]?=some d:=by
 grind
theorem lG(ms:List aI)(l:List Int){k:Nat}{d:aq}(h:bare d):∀(m i:Nat) (ds:List aq) (s:bY),ds[k]?=some d->(bn ms l m i ds s).1[k]?=some d
 |0,_,_,_,hk=>hk
 |m+1,i,ds,s,hk=>by
  rw[bn];split
  .exact lG ms l h m (i+1) ds s hk
  .rename_i hb;exact lG ms l h m (i+1) _ _ (Du hb hk h)
theorem rI{k:Nat}{d:aq}(h:bare d):∀(m i:Nat) (ds:List aq) (ids:List ar) (nx:Int),ds[k]?=some d->(dj m i ds ids nx)[k]?=some d
 |0,_,_,_,_,hk=>hk
 |m+1,i,ds,ids,nx,hk=>by
  rw[dj];split
  .exact rI h m (i+1) ds ids nx hk
  .rename_i hb;exact rI h m (i+1) _ _ _ (Du hb hk h)
theorem qJ:∀(ps:List aN) (i nx:Int),∀d∈br ps i nx,d.body=oT
 |p::ps,i,nx,d,h=>by
  rw[br]at h;rcases Qz.1 h with rfl|h
  .rfl
  .exact qJ ps _ _ d h
theorem kj{p:av}{t:Ty}(h:nL p t):t.size<=2:=by rcases h with rfl|rfl|rfl|⟨d,_,_,rfl⟩ <;> first|decide|exact(show(1:Nat)<=2 by decide)
structure Fair(p:av):Prop where
 d:p.ae.length<=1000
 m:p.al.length<=1000
 u:∀m∈p.al,m.bP.length<=1000/\m.ae.length<=1000
 w:∀d∈p.ae,d.wt<=600000000000
theorem Di{l:List aC}(h:∀s∈l,s.ty.size<=2):kz l<=3*l.length:=by
 induction l with
 |nil=>simp[kz]
 |cons s l ih=>have:=ih λx hx=>h x (Qx _ hx);have:=h s (Qt ..);rw[kz,QG];omega
theorem KF(l:List Int):Fair (aL l):=by
 obtain⟨N,hN,hlk,hnm⟩:=dv l;have hn:=(kE l).nm;have hlen:=hlk.len;have h8:(aV l).length<=8:=by unfold aV;rw[cE];exact(eB l (ax l)).2
 refine⟨Q0,?_,?_,λd hd=>?_⟩
 .show(bO l).length<=1000;unfold bO;split <;> simp
 .have h5:∀(m:Int) (ps:List aN) (i:Int),(bL m ps i).length<=ps.length:=by
   intro m ps;induction ps with
   |nil=>intro i;simp[bL]
   |cons p ps ih=>intro i;have:=ih (i+1);rw[bL,QC,QG];split <;> simp <;> omega
  have h6:=(eB l 1).2;have h7:=(eB l 2).2;show ∀m∈bO l,m.bP.length<=1000/\m.ae.length<=1000;unfold bO
  grind
 .obtain⟨e,he,hsh⟩:=hlk.mem hd;have hsl:d.ah.length<=100:=by have:=few0 l e he;rw[(bV hsh).2.2.2.2.1];omega
  have h1:=Di λs hs=>kj (hn.gs d hd s hs);have h2:=kj (hn.gr d hd);have hb:d.body.wt<=500000000000:=by
   obtain⟨k,hk,rfl⟩:=QO.1 hd;by_cases hb:bare (aL l).ae[k]
   .have hk0:k<(aV l).length:=Q0;have hb0:bare (aV l)[k]:=(CG (bV (hlk.get hk hk0)).2.1).1 hb;have h8:(eH l).1[k]?=some (aV l)[k]:=lG (bO l) l hb0 (aV l).length 0 (aV l) ⟨24,0,0,0⟩ (QQ hk0);have h9:(aL l).ae[k]?=some (aV l)[k]:=rI hb0 (aV l).length 0 (eH l).1 (QY (eH l).2.be.toNat ki) (gY l) h8;rw[QQ hk,Qq]at h9;rw[h9,qJ _ _ _ _ (QB hk0)];have:oT.wt=2:=rfl;omega
   .obtain⟨e,T,T',ids,nx,⟨c,_,_,_,_,_,h0,hmk⟩,hT,_,_,_,hbd⟩:=hnm k hk hb;rw[hbd,IB];have:=hmk.wt;omega
  unfold aq.wt;omega
theorem idK_lt{a b:Int}(ha:0<=a)(h:a<b):gZ (fw a) (fw b)=true:=by
 rw[jm];unfold fw
 grind
def jG(a:Int)(n:Nat):List ar:=(UQ n).map fun(j:Nat)=>fw (a+(j:Int))
theorem mz(a:Int)(n m:Nat):jG a n++jG (a+n) m=jG a (n+m):=by
 unfold jG;rw[List.range_add,Rb,R3]
 congr 1
 apply TM
 grind
theorem O3(a:Int):jG a 1=[fw a]:=by simp[jG]
theorem LS(a:Int)(n:Nat):jG a (n+1)=fw a::jG (a+1) n:=by rw[S9,<-mz,O3];rfl
theorem sJ{a:Int}(ha:0<=a)(n:Nat):iS (jG a n):=by unfold iS jG;rw[Sf];refine SH (fun{i j} h=>idK_lt Q0 Q0) W9
theorem dN{l:List ar}(h:iS l):l.Nodup:=SH (λh=>np h) h
mutual
theorem FB(ids:List ar):∀e:Ex,(cL (bZ ids e)).map Ex.id=e.post.map (iH ids)
 |.mk i k n r t l s=>by rw[bZ,cL,Ex.post,Rb,Rb,Be ids l];rfl
theorem Be(ids:List ar):∀l:List Ex,(aY (iq ids l)).map Ex.id=(Ex.cP l).map (iH ids)
 |[]=>by rw[iq,aY,Ex.cP];rfl
 |e::l=>by rw[iq,aY,Ex.cP,Rb,Rb,FB ids e,Be ids l]
end
theorem put_ids{ks:List Int}{ids:List ar}{nx:Int}(hk:∀k∈ks,0<=k/\k<ids.length)(hn:ks.Nodup):ks.map (iH (bB ids ks nx))=jG nx ks.length:=by
 apply T5
 .simp[jG]
 .intro j h1 h2;rw[QS]at h1;rw[RG,kD hk hn j h1];simp[jG]
def ni(d:aq):List ar:=if bare d then[] else(cL d.body).map Ex.id
theorem oq:∀(m i:Nat) (ds:List aq) (ids:List ar) (nx:Int) (k:Nat),k<i->(dj m i ds ids nx)[k]?=ds[k]?
 |0,i,ds,ids,nx,k,h=>by rw[dj]
 |m+1,i,ds,ids,nx,k,h=>by
  rw[dj];split
  .exact oq m (i+1) ds ids nx k Q0
  .rw[oq m (i+1) _ _ _ k Q0,List.getElem?_set_ne Q0]
theorem xi:∀(m i:Nat) (ds:List aq) (ids:List ar) (nx:Int),(dj m i ds ids nx).length=ds.length
 |0,i,ds,ids,nx=>by rw[dj]
 |m+1,i,ds,ids,nx=>by
  rw[dj];split
  .exact xi m (i+1) ds ids nx
  .rw[xi m (i+1),Sl]
theorem xj{N:Nat}:∀(m i:Nat) (ds:List aq) (ids:List ar) (nx:Int),i+m=ds.length->ids.length=N ->
  (∀k (hk:k<ds.length),i<=k->¬bare ds[k]->ds[k].body.post.Nodup/\∀x∈ds[k].body.post,0<=x/\x<N) ->
  ∃n,((dj m i ds ids nx).drop i).flatMap ni=jG nx n
 |0,i,ds,ids,nx,h,hN,_=>⟨0,by rw[dj,UI Q0];rfl⟩
 |m+1,i,ds,ids,nx,h,hN,hp=>by
  have hi:i<ds.length:=Q0;have hl:=xi (m+1) i ds ids nx;have hir:i<(dj (m+1) i ds ids nx).length:=Q0;have hd:=S1 hir;rw[hd,QD];by_cases hbr:bare ds[i]
  .have e:dj (m+1) i ds ids nx=dj m (i+1) ds ids nx:=by rw[dj,eW hi,J2 hbr]
   have e2:(dj (m+1) i ds ids nx)[i]=ds[i]:=by
    have:=oq m (i+1) ds ids nx i Q0
    grind
   obtain⟨n,hn⟩:=xj m (i+1) ds ids nx Q0 hN λk hk hlt=>hp k hk Q0;refine⟨n,?_⟩;rw[e2,e,hn];unfold ni;rw[J2 hbr];rfl
  .have e:dj (m+1) i ds ids nx=dj m (i+1) (ds.set i (ds[i].bE (bZ (bB ids ds[i].body.post nx) ds[i].body))) (bB ids ds[i].body.post nx) (nx+ds[i].body.post.length):=by rw[dj,eW hi,J1 hbr]
   have e2:(dj (m+1) i ds ids nx)[i]=ds[i].bE (bZ (bB ids ds[i].body.post nx) ds[i].body):=by
    have:=oq m (i+1) (ds.set i (ds[i].bE (bZ (bB ids ds[i].body.post nx) ds[i].body))) (bB ids ds[i].body.post nx) (nx+ds[i].body.post.length) i Q0
    grind
   obtain⟨n,hn⟩:=xj (N:=N) m (i+1) (ds.set i (ds[i].bE (bZ (bB ids ds[i].body.post nx) ds[i].body))) (bB ids ds[i].body.post nx) (nx+ds[i].body.post.length) (by grind) (by rw[ja];exact hN) λk hk hlt=>by
    have hk':k<ds.length:=by grind
    grind
   obtain⟨hnd,hrg⟩:=hp i hi (QW _) hbr;refine⟨ds[i].body.post.length+n,?_⟩;rw[e2,e,hn,<-mz]
   congr 1
   have hb2:¬bare (ds[i].bE (bZ (bB ids ds[i].body.post nx) ds[i].body)):=hbr;unfold ni;rw[J1 hb2];show(cL (bZ _ _)).map Ex.id=_;rw[FB,put_ids (by grind) hnd]
theorem tW:∀(ps:List aN) (i nx:Int),(br ps i nx).map aq.id=jG i ps.length
 |[],i,nx=>rfl
 |p::ps,i,nx=>by rw[br,QT,tW ps,QG,LS];rfl
theorem xD(p:aN)(nx:Int):(cH p nx).map aC.id=jG nx p.types.length:=by unfold cH jG;rw[R3];rfl
theorem uS:∀(ps:List aN) (i nx:Int),(br ps i nx).flatMap (λd=>d.ah.map aC.id)=jG nx (dJ ps)
 |[],i,nx=>rfl
 |p::ps,i,nx=>by rw[br,QD,uS ps,mh,<-mz,<-xD];rfl
theorem Eo{a b:List aq}(h:cN a b):a.map aq.id=b.map aq.id:=by
 apply T5
 .simp[h.len]
 .intro k h1 h2;rw[QS]at h1 h2;rw[RG,RG];exact(bV (h.get h1 h2)).1
theorem jq{α β γ:Type}{f:α->List γ}{g:β->List γ}:∀{a:List α} {b:List β},a.length=b.length->(∀k (h1:k<a.length) (h2:k<b.length),f a[k]=g b[k])->a.flatMap f=b.flatMap g
 |[],[],_,_=>rfl
 |x::a,y::b,h,hk=>by have h0:f x=g y:=hk 0 Q2 Q2;rw[QD,QD,h0,jq (by grind) λk h1 h2=>hk (k+1) (by grind) (by grind)]
theorem GL{a b:List aq}(h:cN a b):a.flatMap (λd=>d.ah.map aC.id)=b.flatMap (λd=>d.ah.map aC.id) :=
 jq h.len λk h1 h2=>by rw[(bV (h.get h1 h2)).2.2.2.2.1]
theorem tS(l:List Int):(bO l).map aI.id=jG 0 (ax l).toNat:=by unfold bO;rcases dq l with h|h <;> rw[h] <;> rfl
theorem Ny(l:List Int):∃n,(aL l).al.map aI.id++(aL l).ae.map aq.id++(aL l).ae.flatMap (λd=>d.ah.map aC.id)++(aL l).ae.flatMap ni=jG 0 n:=by
 obtain⟨N,hN,hlk,hnm⟩:=dv l;have hnM:=dq l;have hb:∃n,(aL l).ae.flatMap ni=jG (gY l) n:=by
  have hb0:=A3 l;have hn0:=ue l;have hl8:(aV l).length<=8:=by unfold aV;rw[cE];exact(eB l (ax l)).2
  have h9:(9:Int) ^ 9=387420489:=Q1;have hB:=nC (l:=l) hb0 hn0 hl8 (aV l).length 0 (aV l) ⟨24,0,0,0⟩ Q0 ⟨cN.refl _,by grind,λk _ h=>J3 h (RP _)⟩;obtain⟨hlk,hus,hmk⟩:=hB;have hmm:(0:Int)<=((aV l).length-(aV l).length:Nat)*(2*9 ^ 9):=Int.mul_nonneg Q0 Q0;have hlen:(eH l).1.length=(aV l).length:=hlk.len;have ht:((eH l).2.be.toNat:Int)=(eH l).2.be:=by unfold eH;omega
  exact xj (N:=(eH l).2.be.toNat) (aV l).length 0 (eH l).1 (QY (eH l).2.be.toNat ki) (gY l) Q0 Q2 λk hk _ hnb=>by obtain⟨T,T',h1,c,_,_,_,_,_,h0,hm⟩:=hmk k hk Q0 hnb;have hr:=hm.cP;refine⟨hr.1,λx hx=>?_⟩;have:=hr.2 x hx;rw[ht];have h1':T'<=(eH l).2.be:=h1;omega
 obtain⟨n,hn⟩:=hb;refine⟨(ax l).toNat+(cA l).length+dJ (cA l)+n,?_⟩;have e1:(aL l).al.map aI.id=jG 0 (ax l).toNat:=tS l;have e2:(aL l).ae.map aq.id=jG (ax l) (cA l).length:=by rw[Eo hlk];exact tW _ _ _
 have e3:(aL l).ae.flatMap (λd=>d.ah.map aC.id)=jG (ax l+(cA l).length) (dJ (cA l)):=by rw[GL hlk];exact uS _ _ _
 rw[e1,e2,e3,hn];rw[<-mz 0 ((ax l).toNat+(cA l).length+dJ (cA l)) n,<-mz 0 ((ax l).toNat+(cA l).length) (dJ (cA l)),<-mz 0 (ax l).toNat (cA l).length];unfold gY;have h0:((ax l).toNat:Int)=ax l:=Q0
 grind
mutual
def Ex.wk:Ex->Nat
 |.mk _ _ _ _ _ l _=>Ex.iR l+1
def Ex.iR:List Ex->Nat
 |[]=>0
 |e::l=>max e.wk (Ex.iR l)
end
theorem Ex.dep_eq(e:Ex):e.wk=Ex.iR e.kids+1:=by cases e;rw[Ex.wk];rfl
theorem Ex.Jz{n:Nat}:∀{l:List Ex},(∀e∈l,e.wk<=n)->Ex.iR l<=n
 |[],_=>by rw[Ex.iR];exact Rr _
 |e::l,h=>by rw[Ex.iR];exact Nat.max_le.2 ⟨h e (Qt ..),Ex.Jz λx hx=>h x (Qx _ hx)⟩
def LJ(b:ByteArray):Prop:=∃x∈nm1,∃y∈nm2,b=x++y
theorem sw(k:Int):LJ (Ed k):=by
 have h1:(k.tmod 3).toNat<nm1.length:=by
  show(k.tmod 3).toNat<3
  grind
 have h2:((k.tdiv 3).tmod 8).toNat<nm2.length:=by
  show((k.tdiv 3).tmod 8).toNat<8
  grind
 unfold Ed;rw[eW h1,eW h2];exact⟨_,QB _,_,QB _,rfl⟩
def nodeSh(x:Ex):Prop:=x.kids.length<=8/\∀m∈x.aK,LJ m
structure Sh(n:Nat)(e:Ex):Prop where
 wk:e.wk<=n
 all:∀x∈cL e,nodeSh x
theorem kg{x:Ex}:∀{l:List Ex},x∈aY l->∃e∈l,x∈cL e
 |[],h=>by simp[aY]at h
 |e::l,h=>by
  rw[aY]at h;rcases QK.1 h with h|h
  .grind
  .obtain⟨y,hy,h⟩:=kg h
   grind
theorem Sh.node{n:Nat}{i r:ar}{k z:Int}{t:Ty}{l:List Ex}{s:List ByteArray}(h:∀e∈l,Sh n e)(hl:l.length<=8)(hs:∀m∈s,LJ m):Sh (n+1) (.mk i k z r t l s):=by
 refine⟨by rw[Ex.wk];exact Nat.succ_le_succ (Ex.Jz λe he=>(h e he).wk),λx hx=>?_⟩;rw[cL]at hx;rcases QK.1 hx with hx|hx
 .obtain⟨e,he,hx⟩:=kg hx;exact(h e he).all x hx
 .rw[QI.1 hx];exact⟨hl,hs⟩
def Bj(n:Nat)(g:GX):Prop:=∀t env d s,Sh n (g t env d s).1/\(g t env d s).2.left<=s.left
section
variable {c:fB} {n:Nat} {g:GX}
theorem Et(hg:Bj n g){t:Ty}{env:List cd}{d:Int}:∀(m:Nat) (s:bY),(∀e∈(dh g t env d m s).1,Sh n e)/\(dh g t env d m s).1.length<=m/\(dh g t env d m s).2.left<=s.left
 |0,s=>⟨λe h=>(by cases h),QW _,RC _⟩
 |m+1,s=>by
  rw[dh];split
  .have h1:=hg t env d s;have h2:=Et hg (t:=t) (env:=env) (d:=d) m (g t env d s).2
   grind
  all_goals grind
theorem sF(hg:Bj n g){env:List cd}{d:Int}:∀(ts:List Ty) (s:bY),(∀e∈(dg g env d ts s).1,Sh n e)/\(dg g env d ts s).1.length=ts.length/\(dg g env d ts s).2.left<=s.left
 |[],s=>⟨λe h=>(by cases h),rfl,RC _⟩
 |t::ts,s=>by
  rw[dg];have h1:=hg t env d s;have h2:=sF hg (env:=env) (d:=d) ts (g t env d s).2
  grind
theorem vk(hg:Bj n g){t:Ty}{env:List cd}{d:Int}{id:ar}:∀(sl:List aC) (i:Nat) (s:bY),(∀e∈(bk g t env d id sl i s).1.1,Sh n e)/\(∀m∈(bk g t env d id sl i s).1.2,LJ m)/\(bk g t env d id sl i s).1.1.length=sl.length/\(bk g t env d id sl i s).2.left<=s.left
 |[],i,s=>⟨λe h=>(by cases h),λe h=>(by cases h),rfl,RC _⟩
 |x::sl,i,s=>by
  rw[bk];have h1:=hg t (env++[⟨id,i,x.ty⟩]) d s;have h2:=vk hg (t:=t) (env:=env) (d:=d) (id:=id) sl (i+1) (cI (g t (env++[⟨id,i,x.ty⟩]) d s).2).2;refine⟨λe he=>?_,λm hm=>?_,by grind,Int.le_trans h2.2.2.2 h1.2⟩
  .grind
  .rcases Qz.1 hm with rfl|hm
   .exact sw _
   .exact h2.2.1 m hm
theorem xO:∀m∈([]:List ByteArray),LJ m:=λm h=>by cases h
theorem Sh.nd{k z:Int}{l:List Ex}{s:bY}(h:∀e∈l,Sh n e)(hl:l.length<=8):Sh (n+1) (bb k z l s).1:=Sh.node h hl xO
theorem Sh.ndR{k z:Int}{l:List Ex}{s:bY}{r:ar}(h:∀e∈l,Sh n e)(hl:l.length<=8):Sh (n+1) ((bb k z l s).1.dH r):=Sh.node h hl xO
theorem Sh.ndT{k z:Int}{l:List Ex}{s:bY}{t:Ty}(h:∀e∈l,Sh n e)(hl:l.length<=8):Sh (n+1) ((bb k z l s).1.Ie t):=Sh.node h hl xO
theorem I5(hg:Bj n g)(hs:fY c.p)(t:Ty)(env:List cd)(x d:Int)(s:bY):Sh (n+1) (kM c g t env x d s).1/\(kM c g t env x d s).2.left<=s.left:=by
 unfold kM;split
 .exact⟨Sh.node (λe h=>by cases h) (Rr _) xO,show s.left-1<=s.left by omega⟩
 split
 .exact⟨Sh.node (λe h=>by cases h) (Rr _) xO,show s.left-1<=s.left by omega⟩
 split
 .have hk:=Et hg (t:=t.kids.headD bS) (env:=env) (d:=d-1) (if 0<=d then(x.tmod 3).toNat else 0) s;have h3:(if 0<=d then(x.tmod 3).toNat else 0)<=2:=by
   grind
  dsimp only;generalize dh g (t.kids.headD bS) env (d-1) (if 0<=d then(x.tmod 3).toNat else 0) s=r at hk ⊢;exact⟨Sh.ndT hk.1 Q0,show r.2.left-1<=s.left by omega⟩
 split
 .have h1:=hg (((an c.p t.df).ah.map aC.ty).getD (fX (an c.p t.df) x d).toNat bS) env (d-1) s;exact⟨Sh.ndR (λe h=>by grind) (Sk rfl),show(g _ _ _ _).2.left-1<=s.left by omega⟩
 .have hk:=sF hg (env:=env) (d:=d-1) ((an c.p t.df).ah.map aC.ty) s;have h3:=hs.qt t.df;rw[QS]at hk;dsimp only;generalize dg g env (d-1) ((an c.p t.df).ah.map aC.ty) s=r at hk ⊢;exact⟨Sh.ndR hk.1 Q0,show r.2.left-1<=s.left by omega⟩
theorem oneG_sh(hg:Bj n g)(z:Int)(u:Ty)(env:List cd)(d:Int)(s:bY):Sh (n+1) (Gs g z u env d s).1/\(Gs g z u env d s).2.left<=s.left:=by have h1:=hg u env d s;unfold Gs;exact⟨Sh.nd (λe h=>by grind) Q2,show(g _ _ _ _).2.left-1<=s.left by omega⟩
theorem PX(hg:Bj n g)(z:Int)(u:Ty)(env:List cd)(d:Int)(s:bY):Sh (n+1) (lE g z u env d s).1/\(lE g z u env d s).2.left<=s.left:=by
 have h1:=hg u env d s;have h2:=hg u env d (g u env d s).2;unfold lE;refine⟨Sh.nd (λe h=>?_) Q2,show(g _ _ _ (g _ _ _ _).2).2.left-1<=s.left by omega⟩
 grind
theorem BR(hg:Bj n g)(hs:fY c.p)(t:Ty)(env:List cd)(x d:Int)(s:bY):Sh (n+1) (nI c g t env x d s).1/\(nI c g t env x d s).2.left<=s.left:=by
 unfold nI
 repeat' split
 all_goals first|exact oneG_sh hg ..|exact PX hg ..|exact I5 hg hs ..
theorem Lw(hg:Bj n g)(hs:fY c.p)(t:Ty)(env:List cd)(x d:Int)(s:bY):Sh (n+1) (jS c g t env x d s).1/\(jS c g t env x d s).2.left<=s.left:=by
 unfold jS;split
 .exact BR hg hs ..
 .have hd:(bN c (My c 1 x.toNat).toNat).ah.length<=3:=by
   unfold bN;rw[RX];cases h:c.p.ae[(My c 1 x.toNat).toNat]? with
   |none=>exact Rr _
   |some y=>exact hs y (TF h)
  generalize bN c (My c 1 x.toNat).toNat=dd at hd ⊢;have h1:=hg (mm dd.id) env (d-2) s;dsimp only;generalize g (mm dd.id) env (d-2) s=r at h1 ⊢;have h2:=vk hg (t:=t) (env:=env) (d:=d-1) (id:=(bb 10 0 [] r.2).1.id) dd.ah 0 (bb 10 0 [] r.2).2;generalize bk g t env (d-1) (bb 10 0 [] r.2).1.id dd.ah 0 (bb 10 0 [] r.2).2=z at h2 ⊢;have h5:(bb 10 0 [] r.2).2.left=r.2.left-1:=rfl;refine⟨Sh.node (λe h=>?_) (by grind) h2.2.1,show z.2.left<=s.left by omega⟩
  grind
theorem L5(hg:Bj n g)(hs:fY c.p)(t:Ty)(env:List cd)(x d:Int)(s:bY):Sh (n+1) (jT c g t env x d s).1/\(jT c g t env x d s).2.left<=s.left:=by
 unfold jT;split
 .rename_i k j _;have h1:=hg (mm (bN c k).id) env (d-1) s;exact⟨Sh.ndR (λe h=>by grind) (Sk rfl),show(g _ _ _ _).2.left-1<=s.left by omega⟩
 .exact BR hg hs ..
theorem PR(hg:Bj n g)(hs:fY c.p)(t:Ty)(env:List cd)(x d:Int)(s:bY):Sh (n+1) (nM c g t env x d s).1/\(nM c g t env x d s).2.left<=s.left:=by
 unfold nM;split
 .rename_i k _;have hd:(bN c k).ah.length<=3:=by
   unfold bN;rw[RX];cases h:c.p.ae[k]? with
   |none=>exact Rr _
   |some y=>exact hs y (TF h)
  have hk:=sF hg (env:=env) (d:=d-1) ((bN c k).ah.map aC.ty) s;rw[QS]at hk;dsimp only;generalize dg g env (d-1) ((bN c k).ah.map aC.ty) s=r at hk ⊢;exact⟨Sh.ndR hk.1 Q0,show r.2.left-1<=s.left by omega⟩
 .exact BR hg hs ..
theorem ifG_sh(hg:Bj n g)(t:Ty)(env:List cd)(d:Int)(s:bY):Sh (n+1) (ifG g t env d s).1/\(ifG g t env d s).2.left<=s.left:=by
 unfold ifG;dsimp only;have h1:=hg (.mk 1 ki []) env d s;generalize g (.mk 1 ki []) env d s=a at h1 ⊢;have h2:=hg t env d a.2;generalize g t env d a.2=b at h2 ⊢;have h3:=hg t env d b.2;generalize g t env d b.2=e at h3 ⊢;refine⟨Sh.nd (λx h=>?_) Q2,show e.2.left-1<=s.left by omega⟩
 grind
theorem letG_sh(hg:Bj n g)(t:Ty)(env:List cd)(x d:Int)(s:bY):Sh (n+1) (LC g t env x d s).1/\(LC g t env x d s).2.left<=s.left:=by
 unfold LC;dsimp only;have h1:=hg (jJ env x).ty env d s;generalize g (jJ env x).ty env d s=a at h1 ⊢;have h2:=hg t (env++[⟨(bb 6 0 [] a.2).1.id,0,(jJ env x).ty⟩]) d (cI (bb 6 0 [] a.2).2).2;generalize g t (env++[⟨(bb 6 0 [] a.2).1.id,0,(jJ env x).ty⟩]) d (cI (bb 6 0 [] a.2).2).2=b at h2 ⊢;have h5:(cI (bb 6 0 [] a.2).2).2.left=a.2.left-1:=rfl;refine⟨Sh.node (λx h=>?_) (Sk rfl) (λm hm=>by rw[QI.1 hm];exact sw _),show b.2.left<=s.left by omega⟩
 grind
theorem Pf(hg:Bj n g)(t:Ty)(env:List cd)(d:Int)(s:bY):Sh (n+1) (AD g t env d s).1/\(AD g t env d s).2.left<=s.left:=by
 unfold AD;dsimp only;have h1:=hg (b8 bS) env d s;generalize g (b8 bS) env d s=a at h1 ⊢;have h2:=hg t env d a.2;generalize g t env d a.2=b at h2 ⊢;have h3:=hg t (env++[⟨(bb 12 0 [] b.2).1.id,0,bS⟩]++[⟨(bb 12 0 [] b.2).1.id,1,t⟩]) d (cI (cI (bb 12 0 [] b.2).2).2).2;generalize g t (env++[⟨(bb 12 0 [] b.2).1.id,0,bS⟩]++[⟨(bb 12 0 [] b.2).1.id,1,t⟩]) d (cI (cI (bb 12 0 [] b.2).2).2).2=e at h3 ⊢;have h5:(cI (cI (bb 12 0 [] b.2).2).2).2.left=b.2.left-1:=rfl;refine⟨Sh.node (λx h=>?_) (Sk rfl) (λm hm=>?_),show e.2.left<=s.left by omega⟩
 .grind
 .simp only[Qz,Rp,or_false]at hm;rcases hm with rfl|rfl
  .exact sw _
  .exact sw _
theorem No(hg:Bj n g)(hs:fY c.p)(t:Ty)(env:List cd)(k x d:Int)(s:bY):Sh (n+1) (oo c g t env k x d s).1/\(oo c g t env k x d s).2.left<=s.left:=by
 unfold oo
 repeat' split
 all_goals first|exact ifG_sh hg ..|exact letG_sh hg ..|exact Lw hg hs ..|exact L5 hg hs ..|exact PR hg hs ..|exact Pf hg ..|exact BR hg hs ..
theorem EW(hg:Bj n g)(hs:fY c.p):Bj (n+1) (kT c g):=λt env d s=>by
 unfold kT;dsimp only;generalize(if(fQ c 65536 s).2.left<=0 then min d 0 else d)=dd;have e:s.left=(fQ c 65536 s).2.left:=rfl;rw[e];split
 .exact⟨Sh.node (λe h=>by cases h) (Rr _) xO,show(fQ c 65536 s).2.left-1<=(fQ c 65536 s).2.left by omega⟩
 split
 .exact I5 hg hs ..
 .exact No hg hs ..
theorem sT(hs:fY c.p):∀n:Nat,Bj (n+1) (ay c n)
 |0=>λt env d s=>⟨Sh.node (λe h=>by cases h) (Rr _) xO,RC _⟩
 |n+1=>EW (sT hs n) hs
def szB:Nat->Nat
 |0=>0
 |n+1=>1+3*szB n
def GSz(c:fB)(g:GX)(m:Nat):Prop:=∀t env d s,eN c.p m t->d<=0->s.left<=0->(g t env d s).1.size<=szB m
theorem Dq{b:Nat}:∀{l:List Ex},(∀e∈l,e.size<=b)->Ex.aW l<=b*l.length
 |[],_=>by simp[Ex.aW]
 |e::l,h=>by have h1:=h e (Qt ..);have h2:=Dq (l:=l) λx hx=>h x (Qx _ hx);rw[Ex.aW,QG,Nat.mul_add,Td];omega
theorem Es{m:Nat}(hg:GSz c g m)(hsh:Bj n g){env:List cd}{d:Int}(hd:d<=0):∀(ts:List Ty) (s:bY),(∀t∈ts,eN c.p m t)->s.left<=0->∀e∈(dg g env d ts s).1,e.size<=szB m
 |[],s,_,_=>λe h=>by cases h
 |t::ts,s,ht,hl=>λe he=>by
  rw[dg]at he;have h1:=(hsh t env d s).2;rcases Qz.1 he with rfl|he
  .exact hg t env d s (ht t (Qt ..)) hd hl
  .exact Es hg hsh hd ts _ (λx hx=>ht x (Qx _ hx)) Q0 e he
theorem litG_sz{m:Nat}(hg:GSz c g m)(hsh:Bj n g)(t:Ty)(env:List cd)(x d:Int)(s:bY)(hw:eN c.p (m+1) t)(hd:d<=0)(hl:s.left<=0):(kM c g t env x d s).1.size<=szB (m+1):=by
 rw[szB];unfold kM;split
 .show Ex.size (.mk ..)<=_;rw[Ex.cb];show 1+0<=_;omega
 rename_i h0;split
 .show Ex.size (.mk ..)<=_;rw[Ex.cb];show 1+0<=_;omega
 rename_i h1;split
 .have e:dh g (t.kids.headD bS) env (d-1) (if 0<=d then(x.tmod 3).toNat else 0) s=([],s):=by
   cases(if 0<=d then(x.tmod 3).toNat else 0) with
   |zero=>rfl
   |succ k=>rw[dh,J1 Q0]
  dsimp only;rw[e];show Ex.size (.mk ..)<=_;rw[Ex.cb];show 1+0<=_;omega
 rename_i h2;obtain⟨w1,w2,w3⟩:=mN hw h0 h1 h2;split
 .rename_i hk;have hs:=w2 hk;have hcn:(fX (an c.p t.df) x d).toNat<(an c.p t.df).ah.length:=by
   unfold fX;split
   .exact hs
   .have:=Int.tmod_lt_of_pos x (show(0:Int)<(an c.p t.df).ah.length by omega);omega
  have hget:((an c.p t.df).ah.map aC.ty).getD (fX (an c.p t.df) x d).toNat bS=(an c.p t.df).ah[(fX (an c.p t.df) x d).toNat].ty:=by
   grind
  have:=hg (((an c.p t.df).ah.map aC.ty).getD (fX (an c.p t.df) x d).toNat bS) env (d-1) s (by grind) Q0 hl;show Ex.size (.mk ..)<=_;rw[Ex.cb];show 1+((g _ _ _ _).1.size+0)<=_;omega
 .have hk:=Es hg hsh (env:=env) (d:=d-1) Q0 ((an c.p t.df).ah.map aC.ty) s (λu hu=>by
   obtain⟨y,hy,rfl⟩:=QP.1 hu
   exact w3 y hy) hl
  have hlen:=(sF hsh (env:=env) (d:=d-1) ((an c.p t.df).ah.map aC.ty) s).2.1;rw[QS]at hlen;dsimp only;generalize dg g env (d-1) ((an c.p t.df).ah.map aC.ty) s=r at hk hlen ⊢;have:=Dq hk;have h5:szB m*r.1.length<=szB m*3:=Nat.mul_le_mul_left _ Q0;show Ex.size (.mk ..)<=_;rw[Ex.cb];show 1+Ex.aW r.1<=_;omega
theorem EV{m:Nat}(hg:GSz c g m)(hsh:Bj n g):GSz c (kT c g) (m+1):=λt env d s hw hd hl=>by
 unfold kT;dsimp only;have e:(fQ c 65536 s).2.left=s.left:=rfl;rw[e,J2 hl];split
 .show Ex.size (.mk ..)<=_;rw[Ex.cb,szB];show 1+0<=_;omega
 split
 .exact litG_sz hg hsh _ _ _ _ _ hw Q0 hl
 .omega
theorem EY(hs:fY c.p):∀n m:Nat,m<=n->GSz c (ay c n) m
 |_,0,_=>λt env d s hw _ _=>hw.elim
 |n+1,m+1,h=>EV (EY hs n m Q0) (sT hs n)
end
theorem body_sh{c:fB}{d:aq}{s:bY}(hb:j8 c.p 5)(hl:cN (c.with d (ay c 9 d.au (bQ d) 4 s).1).p.ae c.p.ae)(hd:d∈c.p.ae):Sh 10 (fL c d s).1/\(fL c d s).1.size<=128:=by
 unfold fL;split
 .have hb2:j8 (c.with d (ay c 9 d.au (bQ d) 4 s).1).p 5:=j8.mv (ms:=c.p.al) hb hl;generalize c.with d (ay c 9 d.au (bQ d) 4 s).1=c2 at hl hb2 ⊢;refine⟨(sT hb2.gen.fE 9 _ _ _ _).1,?_⟩;have w:eN c2.p 5 d.au:=by obtain⟨d2,hd2,hs⟩:=cN.mem (a:=c.p.ae) (b:=c2.p.ae) hl.symm hd;have:=(bV hs).2.2.2.2.2.1;rw[this];exact hb2.resA d2 hd2
  have:=EY hb2.gen.fE 9 5 Q0 d.au (bQ d) 0 ⟨(ay c 9 d.au (bQ d) 4 s).2.pos,(ay c 9 d.au (bQ d) 4 s).2.be,0,(ay c 9 d.au (bQ d) 4 s).2.name⟩ w (RC _) (RC _);have e:szB 5=121:=Q1;omega
 .rename_i h;exact⟨(sT hb.gen.fE 9 _ _ _ _).1,Q0⟩
mutual
theorem DK(ids:List ar):∀e:Ex,(bZ ids e).wk=e.wk
 |.mk i k n r t l s=>by rw[bZ,Ex.wk,Ex.wk,DI ids l]
theorem DI(ids:List ar):∀l:List Ex,Ex.iR (iq ids l)=Ex.iR l
 |[]=>by rw[iq]
 |e::l=>by rw[iq,Ex.iR,Ex.iR,DK ids e,DI ids l]
end
theorem DH(ids:List ar)(l:List Ex):(iq ids l).length=l.length:=by rw[rJ,QS]
mutual
theorem xk(ids:List ar):∀e:Ex,cL (bZ ids e)=(cL e).map (bZ ids)
 |.mk i k n r t l s=>by rw[bZ,cL,cL,DJ ids l,Rb,XR,bZ]
theorem DJ(ids:List ar):∀l:List Ex,aY (iq ids l)=(aY l).map (bZ ids)
 |[]=>by rw[iq,aY];rfl
 |e::l=>by rw[iq,aY,aY,xk ids e,DJ ids l,Rb]
end
theorem Sh.ren{n:Nat}{e:Ex}(h:Sh n e)(ids:List ar):Sh n (bZ ids e):=by
 refine⟨by rw[DK];exact h.wk,λx hx=>?_⟩;rw[xk]at hx;obtain⟨y,hy,rfl⟩:=QP.1 hx;have:=h.all y hy;cases y with
 |mk i k n r t l s=>rw[bZ];exact⟨by show(iq ids l).length<=8;rw[DH];exact this.1,this.2⟩
theorem tM:∀(m i:Nat) (ds:List aq) (ids:List ar) (nx:Int) (k:Nat) (d:aq),(dj m i ds ids nx)[k]?=some d->∃d0,ds[k]?=some d0/\d.kind=d0.kind/\(d.body=d0.body\/∃ids',d.body=bZ ids' d0.body)
 |0,i,ds,ids,nx,k,d,h=>⟨d,by rw[dj]at h;exact h,rfl,.inl rfl⟩
 |m+1,i,ds,ids,nx,k,d,h=>by
  rw[dj]at h;split at h
  .exact tM m (i+1) ds ids nx k d h
  .by_cases e:k=i
   .subst e;rw[oq m (k+1) _ _ _ k Q0]at h;by_cases hk:k<ds.length
    .rw[List.getElem?_set_self hk,eW hk]at h;obtain rfl:=Sw h;exact⟨ds[k],QQ hk,rfl,.inr ⟨_,rfl⟩⟩
    all_goals grind
   .obtain⟨d0,h1,h2⟩:=tM m (i+1) _ _ _ k d h
    grind
theorem uB{ms:List aI}{l:List Int}{ds0:List aq}(hb:j8 ⟨ms,ds0⟩ 5):∀(m i:Nat) (ds:List aq) (s:bY),i+m=ds.length->cN ds ds0->(∀k (hk:k<ds.length),k<i->¬bare ds[k]->Sh 10 ds[k].body/\ds[k].body.size<=128) ->
  ∀k (hk:k<(bn ms l m i ds s).1.length),¬bare (bn ms l m i ds s).1[k]->Sh 10 (bn ms l m i ds s).1[k].body/\(bn ms l m i ds s).1[k].body.size<=128
 |0,i,ds,s,h,_,hp=>λk hk hnb=>by
  rw[bn]at hk;have e:(bn ms l 0 i ds s).1=ds:=by rw[bn]
  grind
 |m+1,i,ds,s,h,hlk,hp=>by
  have hi:i<ds.length:=Q0;by_cases hbr:bare ds[i]
  .have e:bn ms l (m+1) i ds s=bn ms l m (i+1) ds s:=by rw[bn,eW hi,J2 hbr]
   rw[e];refine uB hb m (i+1) ds s Q0 hlk λk hk hlt hnb=>?_
   grind
  .have e:bn ms l (m+1) i ds s=bn ms l m (i+1) (ds.set i (ds[i].bE (fL ⟨⟨ms,ds⟩,l,i,ds[i].mod⟩ ds[i] ⟨s.pos,s.be,14,0⟩).1)) (fL ⟨⟨ms,ds⟩,l,i,ds[i].mod⟩ ds[i] ⟨s.pos,s.be,14,0⟩).2:=by rw[bn,eW hi,J1 hbr]
   rw[e];have hbd:j8 ⟨ms,ds⟩ 5:=hb.mv hlk
   have hS:=body_sh (c:=⟨⟨ms,ds⟩,l,i,ds[i].mod⟩) (d:=ds[i]) (s:=⟨s.pos,s.be,14,0⟩) hbd (by
    show cN (ds.set (i:Int).toNat (ds[i].bE _)) ds;rw[Rx]
    exact(cN.refl _).set hi _) (QB hi)
   generalize fL ⟨⟨ms,ds⟩,l,i,ds[i].mod⟩ ds[i] ⟨s.pos,s.be,14,0⟩=r at hS ⊢;refine uB hb m (i+1) _ _ (by grind) (hlk.set hi _) λk hk hlt hnb=>?_;by_cases e:k=i
   .subst e;simp only[List.getElem_set_self];exact hS
   all_goals grind
theorem vR(l:List Int):∀d∈(aL l).ae,¬bare d->Sh 10 d.body/\d.body.size<=128:=λd hd hnb=>by
 obtain⟨k,hk,rfl⟩:=QO.1 hd;obtain⟨d0,h1,h2,h3⟩:=tM _ _ _ _ _ k (aL l).ae[k] (QQ hk);obtain⟨hk0,rfl⟩:=Se.1 h1;have hs:=uB (l:=l) (A3 l) (aV l).length 0 (aV l) ⟨24,0,0,0⟩ Q0 (cN.refl _) (λk _ h=>J3 h (RP _)) k hk0 (λh=>hnb ((CG h2).2 h));rcases h3 with h3|⟨ids,h3⟩
 .rw[h3];exact hs
 .rw[h3];exact⟨hs.1.ren ids,by rw[tN];exact hs.2⟩
theorem tR(l:List Int):∀d∈(aL l).ae,bare d->d.body=oT:=λd hd hb=>by
 obtain⟨N,hN,hlk,hnm⟩:=dv l;obtain⟨k,hk,rfl⟩:=QO.1 hd;have hk0:k<(aV l).length:=by rw[<-hlk.len];exact hk
 have hb0:bare (aV l)[k]:=(CG (bV (hlk.get hk hk0)).2.1).1 hb;have h8:(eH l).1[k]?=some (aV l)[k]:=lG (bO l) l hb0 (aV l).length 0 (aV l) ⟨24,0,0,0⟩ (QQ hk0);have h9:(aL l).ae[k]?=some (aV l)[k]:=rI hb0 (aV l).length 0 (eH l).1 (QY (eH l).2.be.toNat ki) (gY l) h8;rw[QQ hk,Qq]at h9;rw[h9,qJ _ _ _ _ (QB hk0)]
end Xe
namespace Go.Proofs.YtmbboaapillefaaGreatDoor
open Xe Pm
theorem yB{S:List Ex}(hc:∀e∈S,∀k∈e.kids,k∈S):∀(n:Nat) (e:Ex),e.wt<=n->e∈S->∀x∈cL e,x∈S
 |0,e,h,_=>by have:=Ex.cT e;omega
 |n+1,e,h,he=>λx hx=>by
  have h1:=Ex.cT e;rw[lH]at hx;rcases QK.1 hx with hx|hx
  .obtain⟨y,hy,hx⟩:=kg hx;have:=Ex.Bk hy;exact yB hc n y Q0 (hc e he y hy) x hx
  all_goals grind
def met(q:List Ex)(k:Nat):List Ex:=q++((ko q).take k).flatMap Ex.kids
theorem Eh(q:List Ex){k:Nat}(hk:k<(ko q).length):met q (k+1)=met q k++(ko q)[k].kids:=by unfold met;rw[Qv hk,QV,QD,Ro,QF,QU]
theorem vW(q:List Ex)(k:Nat):met q k <+: ko q:=by refine⟨((ko q).drop k).flatMap Ex.kids,?_⟩;unfold met;rw[QU,<-QV,SF];exact(Hx q).symm
theorem IZ(q:List Ex):met q (ko q).length=ko q:=by unfold met;rw[Re];exact(Hx q).symm
theorem Ei{q:List Ex}(hn:((aY q).map Ex.id).Nodup){k:Nat}(hk:k<(ko q).length):k<(met q k).length:=by
 rcases U0 k (met q k).length with h|h
 .exact h
 exfalso;obtain⟨r,hr⟩:=vW q k;have hp:=oY q;have hnd:((ko q).map Ex.id).Nodup:=(hp.map Ex.id).nodup_iff.2 hn;have hsub:∀e∈met q k,e∈(ko q).take k:=λe he=>by
  have e2:(ko q).take (met q k).length=met q k:=by
   grind
  rw[<-e2]at he;exact(List.take_sublist_take_left h).subset he
 have hc:∀e∈(ko q).take k,∀x∈e.kids,x∈(ko q).take k:=λe he x hx=>hsub x (List.mem_append_right _ (S7.2 ⟨e,he,hx⟩));have hall:∀x∈ko q,x∈(ko q).take k:=λx hx=>by obtain⟨e,he,hxe⟩:=kg (hp.mem_iff.1 hx);exact yB hc _ e (QW _) (hsub e (List.mem_append_left _ he)) x hxe
 have hin:(ko q)[k]∈(ko q).take k:=hall _ (QB hk);have e3:ko q=(ko q).take k++(ko q)[k]::(ko q).drop (k+1):=by simp_all
 grind
theorem met_at{q:List Ex}{k:Nat}(hk:k<(ko q).length)(hl:k<(met q k).length):(met q k)[k]=(ko q)[k]:=by
 obtain⟨r,hr⟩:=vW q k
 grind
theorem Lt{q:List Ex}(hn:((aY q).map Ex.id).Nodup){k:Nat}(hk:k<(ko q).length){j:Nat}(hj:j<(ko q)[k].kids.length):(ko q)[k].kids[j].id ∉ (met q k++(ko q)[k].kids.take j).map Ex.id:=by
 have hnd:((ko q).map Ex.id).Nodup:=((oY q).map Ex.id).nodup_iff.2 hn;obtain⟨r,hr⟩:=vW q (k+1);rw[Eh q hk]at hr;generalize(ko q)[k]=e at hj hr ⊢;have e3:e.kids=e.kids.take j++e.kids[j]::e.kids.drop (j+1):=by simp_all
 rw[<-hr,e3,<-QU,QU _ (e.kids[j]::_),Rm,Rb,QT]at hnd
 grind
def aM(ds:List aq):List Ex:=(ds.filter λd=>fR d.kind).map aq.body
theorem uQ{ds:List aq}{k:Nat}(hk:k<ds.length):aM (ds.take (k+1))=aM (ds.take k)++if fR ds[k].kind then[ds[k].body] else[]:=by
 unfold aM;rw[Qv hk,RF,Rb]
 grind
structure wy(L:List ao)(ds:List aq):Prop where
 al:∀d∈ds,j4 L d.mod 0=true
 ah:∀d∈ds,∃R:List ao,R.length<=6/\∀Q:List ao,Q.Perm (L.filter λx=>decide (x.kind=3) && decide (x.um=d.id))->IS kB [[dP Q]] [[dP R]]
 rY:∀e∈aY (aM ds),L.find? (λx=>decide (e.id=x.id))=some (jC e)/\e.kids.length<=8
 nodup:((aY (aM ds)).map Ex.id).Nodup
 len:L.length<=300000000000
theorem wy.node{L:List ao}{ds:List aq}(h:wy L ds){e:Ex}(he:e∈aY (aM ds)):j4 L e.id 4=true:=by unfold j4;rw[(h.rY e he).1];rfl
theorem dZ(e:Ex):e∈cL e:=by rw[lH];exact List.mem_append_right _ (QI.2 rfl)
theorem mK{l:List Ex}{e x:Ex}(he:e∈l)(hx:x∈cL e):x∈aY l:=by
 induction l with
 |nil=>cases he
 |cons y l ih =>
  rw[aY];rcases Qz.1 he with rfl|he
  .exact List.mem_append_left _ hx
  .exact List.mem_append_right _ (ih he)
theorem PG(M L:List ao)(ds:List aq)(hM:M.length<=16)(hd:ds.length<=32)(H:wy L ds)(hb:(aY (aM ds)).length<=1000000000) :
  IS s100 [[dP M],[dP (ds.map cO)],[js L],[.sl 0 6 []],[.sl 0 4 []],[.sl 0 3 []]] [[js L],[ig ((ko (aM ds)).map Ex.id)],[.sl 0 6 []],[dI ((ko (aM ds)).map Ex.id)]]:=by
 refine w100.is ?_;unfold g100;have hbl:(ko (aM ds)).length=(aY (aM ds)).length:=(oY _).length_eq;refine bC [[dP (ds.map cO)],[js L],[.sl 0 6 []],[.sl 0 4 []],[.sl 0 3 []]] ?_ ?_
 .simp only[aj];refine⟨λh=>by omega,λ_=>?_⟩;rw[QS];refine⟨λh=>by omega,λ_=>trivial⟩
 .simp only[aj];refine aZ ds.length (λk=>[[dP (ds.map cO)],[vI (ds.length:Int)],[vI (k:Int)],[js L],[.sl 0 6 []],[ig ((aM (ds.take k)).map Ex.id)],[dI ((aM (ds.take k)).map Ex.id)]]) (λ_=>True) trivial (by rw[QS];rfl) λk next hi _ hn=>?_
  simp only[aj];refine⟨λh=>?_,λh=>?_⟩
  .have hk:k<ds.length:=Q0;have hdm:=QB hk;have h3:=hn hk trivial;have hke:(ds.map cO)[k]'(by grind)=cO ds[k]:=by grind
   rw[iL _ (by grind),hke];have hm:=H.al _ hdm;obtain⟨R,hR,hRs⟩:=H.ah _ hdm;have hsub:∀x∈aY (aM ds),x∈aY (aM ds):=λx h=>h;have hroot:fR (ds[k]).kind=true->(ds[k]).body∈aM ds:=λhB=>QP.2 ⟨_,Rq.2 ⟨hdm,hB⟩,rfl⟩;have hfr:fR (ds[k]).kind=true->(ds[k]).body.id ∉ (aM (ds.take k)).map Ex.id:=λhB hin=>by
    have hnd:=H.nodup;have e1:aM ds=aM (ds.take k)++(ds[k]).body::aM (ds.drop (k+1)):=by
     conv=>lhs;rw[<-SF (k+1) ds]
     show((ds.take (k+1)++ds.drop (k+1)).filter _).map _=_;rw[RF,Rb];show aM (ds.take (k+1))++aM (ds.drop (k+1))=_;rw[uQ hk,hB,J2 rfl,QU];rfl
    rw[e1,pW,aY,Rb,Rb]at hnd;obtain⟨y,hy,he⟩:=QP.1 hin;refine(R7.1 hnd).2.2 y.id (Rl (mK hy (dZ y))) (ds[k]).body.id (List.mem_append_left _ (Rl (dZ _))) he
   have hlen:((aM (ds.take k)).map Ex.id).length<=ds.length:=by
    rw[QS];unfold aM
    grind
   rw[uQ hk]at h3;generalize ds[k]=d at hm hRs hroot hfr h3 ⊢;have p1:sub (cO d).enc 7 3=d.mod.enc/\sub (cO d).enc 0 3=d.id.enc/\cell (cO d).enc 6=ai d.kind:=⟨rfl,rfl,rfl⟩;have p2:sub (cO d).enc 16 3=(if fR d.kind then d.body.id else p6).enc:=by unfold ao.enc sub ar.enc;simp[Ty.aF,cO]
   simp only[p1];refine⟨by grind,?_⟩;refine bC [[dP (ds.map cO)],[vI (ds.length:Int)],[vI (k:Int)],(cO d).enc,[js L],[.sl 0 6 []],[ig ((aM (ds.take k)).map Ex.id)],[dI ((aM (ds.take k)).map Ex.id)]] ?_ ?_
   .refine aa (pA L d.mod 0) ?_;rw[hm];simp only[aj,Ry]
   .simp only[aj,p1];refine bC [[dP (ds.map cO)],[vI (ds.length:Int)],[vI (k:Int)],(cO d).enc,[js L],[.sl 0 6 []],[ig ((aM (ds.take k)).map Ex.id)],[dI ((aM (ds.take k)).map Ex.id)]] ?_ ?_
    .refine aa (wU d.id L R H.len hRs _ _ _ _ _ _) ?_;simp only[aj];exact⟨λh=>by omega,λ_=>trivial⟩
    .simp only[aj,p1,p2];refine aa (CA _) ?_;cases hB:fR d.kind with
     |false=>rw[hB]at h3;simp only[aj,Sj,Uk,if_false,QF]at h3 ⊢;exact⟨Q4,h3⟩
     |true=>rw[hB]at h3;simp only[aj,Ry,if_true,Rb,QT,R5]at h3 ⊢;refine aa (pA L d.body.id 4) ?_;rw[H.node (mK (hroot hB) (dZ _))];simp only[aj];refine aa (DM d.body.id L _ _ (hfr hB) Q0 _ _) ?_;simp only[aj];exact⟨Q4,h3⟩
  .obtain rfl:k=ds.length:=Q0;rw[Re];have hrl:aM ds=met (aM ds) 0:=by unfold met;rw[Sz,Ro,QF]
   have hlm:∀k,k<=(ko (aM ds)).length->(met (aM ds) k).length<=1000000000:=λk hk=>by have:=(vW (aM ds) k).length_le;omega
   refine aZ (ko (aM ds)).length (λk=>[[vI (k:Int)],[js L],[.sl 0 6 []],[ig ((met (aM ds) k).map Ex.id)],[dI ((met (aM ds) k).map Ex.id)]]) (λ_=>True) trivial (by grind) λk next hk _ hn=>?_
   simp only[aj];have hml:=hlm k hk;refine⟨λh=>?_,λh=>?_⟩
   .rw[QS]at h;have hk2:k<(ko (aM ds)).length:=by
     rcases U0 k (ko (aM ds)).length with h5|h5
     .exact h5
     .obtain rfl:k=(ko (aM ds)).length:=Q0;rw[IZ]at h;omega
    have hkm:=Ei H.nodup hk2;have hke:((met (aM ds) k).map Ex.id)[k]'(by grind)=((ko (aM ds))[k]).id:=by rw[RG,met_at hk2 hkm]
    have hn3:=hn hk2 trivial;have hfr:=λj (hj:j<((ko (aM ds))[k]).kids.length)=>Lt H.nodup hk2 hj;have hin:(ko (aM ds))[k]∈aY (aM ds):=(oY _).mem_iff.1 (QB hk2)
    have hkid:∀x∈((ko (aM ds))[k]).kids,x∈aY (aM ds):=λx hx=>(oY _).mem_iff.1 (by
     rw[Hx]
     exact List.mem_append_right _ (S7.2 ⟨_,QB hk2,hx⟩))
    have hml2:=hlm (k+1) hk2;rw[Eh _ hk2]at hn3 hml2;rw[eK _ (by grind),hke];generalize(ko (aM ds))[k]=e at hn3 hfr hin hkid hml2 ⊢;obtain⟨hf,h8⟩:=H.rY e hin;have q1:cell e.id.enc 0=vI e.id.aD/\cell e.id.enc 1=vI e.id.seq/\cell e.id.enc 2=vI e.id.index:=⟨rfl,rfl,rfl⟩;simp only[aj,q1,tA,hf,TK,TC];have q2:sub (jC e).enc 26 12=(iO e).enc:=by unfold ao.enc sub ar.enc;simp[Ty.aF,jC,Rj (UN (iO e).aP)]
    have q3:cell (iO e).enc 10=dI (e.kids.map Ex.id):=by unfold eL.enc cell ar.enc;rw[Ty.aF];rfl
    simp only[q2,q3];refine⟨by grind,?_⟩;refine bC [[vI (k:Int)],e.id.enc,(iO e).enc,[js L],[.sl 0 6 []],[ig ((met (aM ds) k).map Ex.id)],[dI ((met (aM ds) k).map Ex.id)]] ?_ ?_
    .simp only[aj];rw[QS];exact⟨λh=>by omega,λ_=>trivial⟩
    .simp only[aj,q3];refine aZ e.kids.length (λj=>[[vI (k:Int)],[dI (e.kids.map Ex.id)],[vI (e.kids.length:Int)],[vI (j:Int)],e.id.enc,[js L],[.sl 0 6 []],[ig ((met (aM ds) k++e.kids.take j).map Ex.id)],[dI ((met (aM ds) k++e.kids.take j).map Ex.id)]]) (λ_=>True) trivial (by grind) λj kH hj _ hn2=>?_;simp only[aj];refine⟨λh5=>?_,λh5=>?_⟩
     .have hj2:j<e.kids.length:=Q0;have hn4:=hn2 hj2 trivial;have hjk:=hfr j hj2;have hje:(e.kids.map Ex.id)[j]'(by grind)=(e.kids[j]).id:=by grind
      rw[Qv hj2,<-QU,Rb,QT,R5]at hn4;rw[eK _ (by grind),hje];refine⟨by grind,aa (pA L (e.kids[j]).id 4) ?_⟩;rw[H.node (hkid _ (QB hj2))];simp only[aj];refine aa (DM (e.kids[j]).id L _ _ hjk (by rw[QS,QC,Rf];rw[QC]at hml2;omega) _ _) ?_;simp only[aj];exact⟨Q4,hn4⟩
     .obtain rfl:j=e.kids.length:=Q0;rw[Re];exact⟨Q4,hn3⟩
   .rw[QS]at h;have hk2:k=(ko (aM ds)).length:=by
     rcases U0 k (ko (aM ds)).length with h5|h5
     .have:=Ei H.nodup h5;omega
     .omega
    rw[hk2,IZ]
theorem Ex.zN:∀l m:List Ex,Ex.aW (l++m)=Ex.aW l+Ex.aW m
 |[],m=>by simp[Ex.aW]
 |e::l,m=>by rw[Rm,Ex.aW,Ex.aW,Ex.zN l m];omega
theorem Ex.mV{l:List Ex}{k:Nat}(h:k<l.length):Ex.aW (l.take (k+1))=Ex.aW (l.take k)+l[k].size:=by rw[Qv h,Ex.zN];simp[Ex.aW]
theorem Ex.Fa:∀l m:List Ex,Ex.iR (l++m)=max (Ex.iR l) (Ex.iR m)
 |[],m=>by simp[Ex.iR]
 |e::l,m=>by rw[Rm,Ex.iR,Ex.iR,Ex.Fa l m];omega
theorem Ex.Mb{l:List Ex}{k:Nat}(h:k<l.length):Ex.iR (l.take (k+1))=max (Ex.iR (l.take k)) l[k].wk:=by rw[Qv h,Ex.Fa];simp[Ex.iR]
mutual
theorem Ex.Ib:∀e:Ex,e.size<=e.wt
 |.mk i k n r t l s=>by rw[Ex.size,Ex.wt];have:=Ex.tD l;omega
theorem Ex.tD:∀l:List Ex,Ex.aW l<=Ex.fb l
 |[]=>by rw[Ex.aW];omega
 |e::l=>by rw[Ex.aW,Ex.fb];have:=Ex.Ib e;have:=Ex.tD l;omega
end
mutual
theorem Ex.PA:∀e:Ex,e.wk<=e.wt
 |.mk i k n r t l s=>by rw[Ex.wk,Ex.wt];have:=Ex.E9 l;omega
theorem Ex.E9:∀l:List Ex,Ex.iR l<=Ex.fb l
 |[]=>by rw[Ex.iR];omega
 |e::l=>by rw[Ex.iR,Ex.fb];have:=Ex.PA e;have:=Ex.E9 l;omega
end
abbrev exF(e:Ex):List D:=e.id.enc++exCn e
abbrev exK(e:Ex):D:=.sl e.kids.length 15 (e.kids.flatMap Ex.enc)
theorem AM(C:gE)(L:List ao):∀(n:Nat) (e:Ex),e.wt<=n->e.wt<=1000000000->(∀x∈cL e,L.find? (λy=>decide (x.id=y.id))=some (jC x))->∀(n3 n5 n7:Nat) (c4 c6 c8:List D),
  IS Ks [e.id.enc,[js L],[.sl n3 6 c4],[.sl n5 4 c6],[.sl n7 3 c8]] [exF e,[vI (e.size:Int)],[vI (e.wk:Int)],[CP e.ty],[exK e],[j5 e.aK],[js L],[.sl n5 4 c6],[.sl n3 6 c4],[.sl n7 3 c8]]
 |0,e,h,_,_=>by have:=Ex.cT e;omega
 |n+1,e,h,hb,hf=>λn3 n5 n7 c4 c6 c8=>by
  have h1:=Ex.cT e;have h2:=Ex.o7 e.kids;have hfe:=hf e (dZ e);have hfit:(iO e).Fit:=⟨by show e.ty.size<=_;omega,by show(e.kids.map Ex.id).length<=_;rw[QS];omega,by show e.aK.length<=_;omega⟩;refine w103.is ?_;unfold g103;have q2:sub (jC e).enc 26 12=(iO e).enc:=by unfold ao.enc sub ar.enc;simp[Ty.aF,jC,Rj (UN (iO e).aP)]
  simp only[aj,aG,tA,hfe,TK,TC,q2];refine aa (Mi C _ hfit) ?_;simp only[aj];refine bC [[vI ((1+Ex.aW e.kids:Nat):Int)],[vI (Ex.iR e.kids:Int)],[vI 0,vI 0,vI 0,vI 0,vI 0,vI 0,vI 0,vI 0,vI 0,vI 0,vI 0,vI 0,.sl 0 5 [],.sl 0 15 [],.sl 0 1 []],exF e,[js L],[.sl n3 6 c4],[.sl n5 4 c6],[.sl n7 3 c8],[CP e.ty],[exK e],[j5 e.aK]] ?_ ?_
  .refine aZ e.kids.length (λk=>[[vI ((1+Ex.aW (e.kids.take k):Nat):Int)],[vI (Ex.iR (e.kids.take k):Int)],[vI ((e.kids.map Ex.id).length:Int)],[vI (k:Int)],[vI 0,vI 0,vI 0,vI 0,vI 0,vI 0,vI 0,vI 0,vI 0,vI 0,vI 0,vI 0,.sl 0 5 [],.sl 0 15 [],.sl 0 1 []],exF e,[dI (e.kids.map Ex.id)],[js L],[.sl n3 6 c4],[.sl n5 4 c6],[.sl n7 3 c8],[CP e.ty],[.sl (e.kids.take k).length 15 ((e.kids.take k).flatMap Ex.enc)],[j5 e.aK]]) (λ_=>True) trivial (by
    rw[Sz,show Ex.aW []=0 by rw[Ex.aW],show Ex.iR []=0 by rw[Ex.iR]]
    rfl) λk next hi _ hn=>?_
   have hlk:(e.kids.take k).length=k:=by grind
   simp only[aj];refine⟨λh3=>?_,λh3=>?_⟩
   .rw[QS]at h3;have hk:k<e.kids.length:=Q0;have hm:=QB hk;have hke:(e.kids.map Ex.id)[k]'(by grind)=(e.kids[k]).id:=by grind
    have hwt:=Ex.Bk hm;have hn3:=hn hk trivial;have hst:=Ex.Ib e.kids[k];have hss:=Ex.tD (e.kids.take k);have hst2:=Ex.wA e.kids (k+1);rw[Ex.wB hk]at hst2;rw[Ex.mV hk,Ex.Mb hk,Qv hk,QV,QD,Ro,QF,QC]at hn3;rw[eK _ (by grind),hke];refine⟨by grind,aa (AM C L n e.kids[k] Q0 Q0 (λx hx=>hf x (by rw[lH];exact List.mem_append_left _ (mK hm hx))) _ _ _ _ _ _) ?_⟩;generalize e.kids[k]=x at hn3 hst hst2 ⊢;simp only[aj];refine⟨Qa,Q4,Q4,?_⟩;have e1:((1+(Ex.aW (e.kids.take k)+x.size):Nat):Int)=((1+Ex.aW (e.kids.take k):Nat):Int)+(x.size:Int):=Q0;have e2:((max (Ex.iR (e.kids.take k)) x.wk:Nat):Int)=max (Ex.iR (e.kids.take k):Int) (x.wk:Int):=Q0;rw[e1,e2,Ex.aF x]at hn3;exact hn3
   .rw[QS]at h3;obtain rfl:k=e.kids.length:=Q0;rw[Re];rfl
  .simp only[aj];have:=Ex.PA e;have h5:=Ex.dep_eq e;refine⟨Q4,?_⟩;have h6:=Ex.cb e;rw[h5,h6];rfl
structure HG(l:List ao)(q:av):Prop where
 nodup:(l.map ao.id).Nodup
 al:∀Q:List ao,Q.Perm (l.filter λx=>decide (x.kind=0))->IS Bx [[dP Q]] [[dP (q.al.map fg)]]
 ae:∀Q:List ao,Q.Perm (l.filter λx=>decide (x.kind=2))->IS Bx [[dP Q]] [[dP (q.ae.map cO)]]
 ah:∀d∈q.ae,∀Q:List ao,Q.Perm (l.filter λx=>decide (x.kind=3) && decide (x.um=d.id))->IS kB [[dP Q]] [[dP (cF d)]]
 u7:∀m∈q.al,∃R:List ao,R.map ao.id=m.ae/\∀Q:List ao,Q.Perm (l.filter λx=>decide (x.kind=2) && decide (x.um=m.id))->IS kB [[dP Q]] [[dP R]]
 inm:∀d∈q.ae,j4 l d.mod 0=true
 bP:∀m∈q.al,iS m.bP/\∀u∈m.bP,j4 l u 0=true
 rY:∀e∈aY (aM q.ae),l.find? (λx=>decide (e.id=x.id))=some (jC e)
 apart:((aY (aM q.ae)).map Ex.id).Nodup
 body:∀d∈q.ae,¬fR d.kind=true->d.body=oT
structure LimP(q:av):Prop where
 al:q.al.length<=16
 ae:q.ae.length<=32
 ah:∀d∈q.ae,d.ah.length<=6
 u7:∀m∈q.al,m.ae.length<=1000/\m.bP.length<=1000
 rY:∀e∈aY (aM q.ae),e.kids.length<=8
 size:∀d∈q.ae,d.body.size<=128
 wk:∀d∈q.ae,d.body.wk<=24
 wt:∀d∈q.ae,d.body.wt<=1000000000/\d.au.size<=1000000000/\d.cg.length<=1000000000/\∀s∈d.ah,s.ty.size<=1000000000
 all:(aY (aM q.ae)).length<=1000000000
theorem Db:∀{l:List ar},iS l->jX l=l:=fun{l} h=>by unfold jX;refine WA ?_;refine SH (fun{a b} hab=>?_) h;rw[mq hab];rfl
theorem E4:∀{l:List ar},iS l->gP l=l
 |[],_=>rfl
 |[x],_=>rfl
 |x::y::l,h=>by have h2:=SO.1 h;rw[sZ,J1 (np (h2.1 y (Qt ..))),E4 h2.2]
abbrev dC(d:aq)(b:List D):List D:=d.id.enc++(ai d.kind::(d.mod.enc++(bM d.name::(tyC d.au++(b++[ai d.bq])))))
theorem make_is(C:gE)(hS:∀l:List ar,l.length<=1000000000000->IS Dv [[dI l]] [[dI (jX l)]])(l:List ao)(q:av)(hl:l.length<=300000000000)(H:HG l q)(hL:LimP q) :
  IS s26 [[dP l]] [[.sl q.al.length 6 (q.al.flatMap aI.enc)],[.sl q.ae.length 31 (q.ae.flatMap aq.enc)],[.sl 0 6 []]]:=by
 have hck:wy l q.ae:=⟨H.inm,λd hd=>⟨cF d,by unfold cF;rw[QS];exact hL.ah d hd,H.ah d hd⟩,λe he=>⟨H.rY e he,hL.rY e he⟩,H.apart,hl⟩;refine w26.is ?_;unfold g26;simp only[aj];refine aa (JY l Q0 H.nodup) ?_;simp only[aj];refine aa (list_is 0 l _ hl H.al) ?_;simp only[aj];refine aa (OH 2 l _ hl H.ae) ?_;simp only[aj];refine aa (PG _ l q.ae (by rw[QS];exact hL.al) hL.ae hck hL.all) ?_;simp only[aj];generalize(ko (aM q.ae)).map Ex.id=S;refine⟨λh=>J3 h Q1,λ_=>?_⟩;refine bC [[dP (q.al.map fg)],[.sl 0 6 [],.sl 0 31 []],[js l],[.sl 0 6 []],[ig S],[dI S],[.sl 0 6 []],[.sl q.ae.length 31 (q.ae.flatMap aq.enc)]] ?_ ?_
 .refine aZ q.ae.length (λk=>[[dP (q.al.map fg)],[dP (q.ae.map cO)],[vI ((q.ae.map cO).length:Int)],[vI (k:Int)],[.sl 0 6 [],.sl 0 31 []],[js l],[.sl 0 6 []],[ig S],[dI S],[.sl 0 6 []],[.sl (q.ae.take k).length 31 ((q.ae.take k).flatMap aq.enc)]]) (λ_=>True) trivial Q3 λk next hi _ hn=>?_
  have hlk:(q.ae.take k).length=k:=by grind
  have hld:=hL.ae;simp only[aj];refine⟨λh=>?_,λh=>?_⟩
  .rw[QS]at h;have hk:k<q.ae.length:=Q0;have hdm:=QB hk;have h3:=hn hk trivial;have hke:(q.ae.map cO)[k]'(by grind)=cO q.ae[k]:=by grind
   rw[iL _ (by grind),hke];have hsl:=H.ah _ hdm;have hb0:=H.body _ hdm;have hls:=hL.ah _ hdm;have hwt:=hL.wt _ hdm;have hsz:=hL.size _ hdm;have hdp:=hL.wk _ hdm;have hex:fR q.ae[k].kind=true->∀x∈cL q.ae[k].body,l.find? (λy=>decide (x.id=y.id))=some (jC x):=λhB x hx =>
    H.rY x (mK (QP.2 ⟨_,Rq.2 ⟨hdm,hB⟩,rfl⟩) hx)
   rw[Qv hk,QV,QD,Ro,QF,QC]at h3;generalize q.ae[k]=d at h3 hsl hb0 hls hwt hsz hdp hex ⊢;have p0:sub (cO d).enc 11 5=d.au.enc:=by unfold ao.enc sub ar.enc;simp[Ty.aF,cO]
   have p1:cell (cO d).enc 19=j5 d.cg:=by unfold ao.enc cell ar.enc;simp[Ty.aF,cO]
   have p2:sub (cO d).enc 0 3=d.id.enc/\sub (cO d).enc 7 3=d.mod.enc/\cell (cO d).enc 6=ai d.kind/\cell (cO d).enc 4=bM d.name/\cell (cO d).enc 10=ai d.bq:=⟨rfl,rfl,rfl,rfl,rfl⟩;have p3:sub (cO d).enc 16 3=(if fR d.kind then d.body.id else p6).enc:=by unfold ao.enc sub ar.enc;simp[Ty.aF,cO]
   simp only[p0,p1,p2];refine⟨by grind,aa (jf C _ _ (QW _) Q0) ?_⟩;simp only[aj,aG];refine aa (C.txt _ Q0) ?_;simp only[aj];refine bC [[dP (q.al.map fg)],[dP (q.ae.map cO)],[vI ((q.ae.map cO).length:Int)],[vI (k:Int)],[.sl 0 6 [],.sl 0 31 []],(cO d).enc,dC d [vI 0,vI 0,vI 0,vI 0,vI 0,vI 0,vI 0,vI 0,vI 0,vI 0,vI 0,vI 0,.sl 0 5 [],.sl 0 15 [],.sl 0 1 []],[js l],[.sl 0 6 []],[ig S],[dI S],[.sl 0 6 []],[.sl (q.ae.take k).length 31 ((q.ae.take k).flatMap aq.enc)],[.sl d.ah.length 11 (d.ah.flatMap aC.enc)],[CP d.au],[j5 d.cg]] ?_ ?_
   .refine aa (wU d.id l _ hl hsl _ _ _ _ _ _) ?_;simp only[aj];refine aZ d.ah.length (λj=>[[dP (q.al.map fg)],[dP (q.ae.map cO)],[vI ((q.ae.map cO).length:Int)],[vI (k:Int)],[vI ((cF d).length:Int)],[vI (j:Int)],[.sl 0 6 [],.sl 0 31 []],(cO d).enc,dC d [vI 0,vI 0,vI 0,vI 0,vI 0,vI 0,vI 0,vI 0,vI 0,vI 0,vI 0,vI 0,.sl 0 5 [],.sl 0 15 [],.sl 0 1 []],[dP (cF d)],[js l],[.sl 0 6 []],[ig S],[dI S],[.sl 0 6 []],[.sl (q.ae.take k).length 31 ((q.ae.take k).flatMap aq.enc)],[.sl (d.ah.take j).length 11 ((d.ah.take j).flatMap aC.enc)],[CP d.au],[j5 d.cg]]) (λ_=>True) trivial Q3 λj kH hj _ hn2=>?_;have hlj:(d.ah.take j).length=j:=by grind
    have hsp:(cF d).length=d.ah.length:=by unfold cF;rw[QS]
    simp only[aj];refine⟨λh5=>?_,λh5=>?_⟩
    .have hj2:j<d.ah.length:=Q0;have hw2:=hwt.2.2.2 _ (QB hj2);have hn3:=hn2 hj2 trivial;have hje:(cF d)[j]'Q0=l7 d.id d.ah[j]:=by unfold cF;rw[RG]
     rw[Qv hj2,QV,QD,Ro,QF,QC]at hn3;rw[iL _ Q0,hje];generalize d.ah[j]=s at hn3 hw2 ⊢;have s0:sub (l7 d.id s).enc 20 5=s.ty.enc:=by unfold ao.enc sub ar.enc;simp[Ty.aF,l7]
     have s1:cell (l7 d.id s).enc 25=ai s.B6:=by unfold ao.enc cell ar.enc;simp[Ty.aF,l7]
     have s2:sub (l7 d.id s).enc 0 3=s.id.enc/\cell (l7 d.id s).enc 4=bM s.name/\cell (l7 d.id s).enc 10=ai s.bq:=⟨rfl,rfl,rfl⟩;simp only[s0,s1,s2];refine⟨Q0,aa (jf C _ _ (QW _) Q0) ?_⟩;simp only[aj,aG];refine⟨Qa,Q4,?_⟩;have e:s.enc=[ai s.id.aD,ai s.id.seq,ai s.id.index,bM s.name,ai s.ty.kind,ai s.ty.df.aD,ai s.ty.df.seq,ai s.ty.df.index,CP s.ty,ai s.B6,ai s.bq]:=rfl;rw[e]at hn3;exact hn3
    .obtain rfl:j=d.ah.length:=Q0;rw[Re];rfl
   .simp only[aj,p2,p3];refine bC [[dP (q.al.map fg)],[dP (q.ae.map cO)],[vI ((q.ae.map cO).length:Int)],[vI (k:Int)],[.sl 0 6 [],.sl 0 31 []],dC d d.body.enc,[js l],[.sl 0 6 []],[ig S],[dI S],[.sl 0 6 []],[.sl (q.ae.take k).length 31 ((q.ae.take k).flatMap aq.enc)],[.sl d.ah.length 11 (d.ah.flatMap aC.enc)],[CP d.au],[j5 d.cg]] ?_ ?_
    .refine aa (CA _) ?_;cases hB:fR d.kind with
     |false =>
      simp only[aj];have hbe:d.body=oT:=hb0 (by grind);have e:d.body.enc=[vI 0,vI 0,vI 0,vI 0,vI 0,vI 0,vI 0,vI 0,vI 0,vI 0,vI 0,vI 0,.sl 0 5 [],.sl 0 15 [],.sl 0 1 []]:=by rw[hbe,Ex.aF];rfl
      rw[e];rfl
     |true=>simp only[aj,if_true];refine aa (AM C l _ d.body (QW _) Q0 (hex hB) _ _ _ _ _ _) ?_;simp only[aj];refine⟨λh=>by omega,λ_=>⟨λh=>by omega,λ_=>?_⟩⟩;rw[Ex.aF d.body];rfl
    .simp only[aj];refine⟨Qa,Q4,?_⟩;have e:d.enc=d.id.enc++(ai d.kind::(d.mod.enc++(bM d.name::.sl d.ah.length 11 (d.ah.flatMap aC.enc)::(tyC d.au++(CP d.au::(d.body.enc++[ai d.bq,j5 d.cg])))))):=by rw[Ex.aF];rfl
     rw[e,Ex.aF d.body]at h3;rw[Ex.aF d.body];exact h3
  .rw[QS]at h;obtain rfl:k=q.ae.length:=Q0;rw[Re]
 .simp only[aj];refine⟨λh=>J3 h Q1,λ_=>?_⟩;refine aZ q.al.length (λk=>[[dP (q.al.map fg)],[vI ((q.al.map fg).length:Int)],[vI (k:Int)],[.sl 0 6 [],.sl 0 31 []],[js l],[.sl 0 6 []],[ig S],[dI S],[.sl (q.al.take k).length 6 ((q.al.take k).flatMap aI.enc)],[.sl q.ae.length 31 (q.ae.flatMap aq.enc)]]) (λ_=>True) trivial Q3 λk next hi _ hn=>?_
  have hlk:(q.al.take k).length=k:=by grind
  have hlm:=hL.al;simp only[aj];refine⟨λh=>?_,λh=>?_⟩
  .rw[QS]at h;have hk:k<q.al.length:=Q0;have hmm:=QB hk;have h3:=hn hk trivial;have hke:(q.al.map fg)[k]'(by grind)=fg q.al[k]:=by grind
   rw[iL _ (by grind),hke];obtain⟨R,hRi,hR⟩:=H.u7 _ hmm;obtain⟨hui,huk⟩:=H.bP _ hmm;have hlms:=hL.u7 _ hmm;rw[Qv hk,QV,QD,Ro,QF,QC]at h3;generalize q.al[k]=m at h3 hRi hR hui huk hlms ⊢;have p1:cell (fg m).enc 5=dI m.bP:=rfl;have p2:sub (fg m).enc 0 3=m.id.enc/\cell (fg m).enc 4=bM m.name:=⟨rfl,rfl⟩;simp only[p1,p2];refine⟨by grind,?_⟩;refine bC [[dP (q.al.map fg)],[vI ((q.al.map fg).length:Int)],[vI (k:Int)],[.sl 0 6 [],.sl 0 31 []],(fg m).enc,m.id.enc++[bM m.name],[js l],[.sl 0 6 []],[ig S],[dI S],[.sl (q.al.take k).length 6 ((q.al.take k).flatMap aI.enc)],[.sl q.ae.length 31 (q.ae.flatMap aq.enc)],[dI m.bP],[.sl 0 3 []]] ?_ ?_
   .simp only[aj,aG];refine aZ m.bP.length (λj=>[[dP (q.al.map fg)],[vI ((q.al.map fg).length:Int)],[vI (k:Int)],[dI m.bP],[vI (m.bP.length:Int)],[vI (j:Int)],[.sl 0 6 [],.sl 0 31 []],(fg m).enc,m.id.enc++[bM m.name],[js l],[.sl 0 6 []],[ig S],[dI S],[.sl (q.al.take k).length 6 ((q.al.take k).flatMap aI.enc)],[.sl q.ae.length 31 (q.ae.flatMap aq.enc)],[dI (m.bP.take j)],[.sl 0 3 []]]) (λ_=>True) trivial Q3 λj kH hj _ hn2=>?_;have hlj:(m.bP.take j).length=j:=by grind
    simp only[aj];refine⟨λh5=>?_,λh5=>?_⟩
    .have hj2:j<m.bP.length:=Q0;have hn3:=hn2 hj2 trivial;rw[Qv hj2,<-j6]at hn3;rw[eK _ hj2];refine⟨Q0,aa (pA l _ 0) ?_⟩;rw[huk _ (QB hj2)];simp only[aj];refine⟨Qa,Q4,?_⟩;exact hn3
    .obtain rfl:j=m.bP.length:=Q0;rw[Re];rfl
   .simp only[aj];refine aa (hS _ Q0) ?_;rw[Db hui];simp only[aj];refine aa (rb _ Q0) ?_;rw[E4 hui];simp only[aj];refine aa (OF (fg m) 2 l R hl hR) ?_;simp only[aj];have hRl:R.length=m.ae.length:=by grind
    refine aZ R.length (λj=>[[dP (q.al.map fg)],[vI ((q.al.map fg).length:Int)],[vI (k:Int)],[vI (R.length:Int)],[vI (j:Int)],[.sl 0 6 [],.sl 0 31 []],m.id.enc++[bM m.name],[dP R],[js l],[.sl 0 6 []],[ig S],[dI S],[.sl (q.al.take k).length 6 ((q.al.take k).flatMap aI.enc)],[.sl q.ae.length 31 (q.ae.flatMap aq.enc)],[dI m.bP],[dI ((R.take j).map ao.id)]]) (λ_=>True) trivial Q3 λj kH hj _ hn2=>?_;have hlj:((R.take j).map ao.id).length=j:=by grind
    simp only[aj];refine⟨λh5=>?_,λh5=>?_⟩
    .have hj2:j<R.length:=Q0;have hn3:=hn2 hj2 trivial;rw[Qv hj2,Rb,QT,R5,<-j6]at hn3;rw[iL _ hj2];have e0:sub (R[j]).enc 0 3=(R[j]).id.enc:=rfl;rw[e0];refine⟨Q0,Qa,Q4,?_⟩;exact hn3
    .obtain rfl:j=R.length:=Q0;rw[Re]at hlj ⊢;refine⟨Qa,Q4,?_⟩;have e:m.enc=m.id.enc++[bM m.name,dI m.bP,dI m.ae]:=rfl;rw[e,<-hRi]at h3;exact h3
  .rw[QS]at h;obtain rfl:k=q.al.length:=Q0;rw[Re]
structure LibOk where
 C:gE
 S:CN
 ids:∀l:List ar,l.length<=1000000000000->IS Dv [[dI l]] [[dI (jX l)]]
theorem LW(B:LibOk)(p:av)(hb:Qm p)(H:HG (B.S.stab (bG p)) p)(hL:LimP p)(hf:∀x∈bG p,x.Fit)(hlen:(bG p).length<=300000000000):IS s44 [p.enc] [[.sl 0 6 []]]:=by have hpl:=(B.S.fP (bG p)).length_eq;refine w44.is ?_;unfold g44;refine aa (DT B.C B.S p hb) ?_;simp only[aj];refine aa (make_is B.C B.ids _ p Q0 H hL) ?_;simp only[aj];refine⟨λh=>J3 h Q1,λ_=>?_⟩;refine aa (DT B.C B.S p hb) ?_;simp only[aj];refine aa (Gl _ Q0 λx hx=>KJ (hf x ((B.S.fP _).mem_iff.1 hx))) ?_;simp only[aj,Ry];have hm:=hL.al;have hd:=hL.ae;refine aa (Lo p.al Q0 λx hx=>mod_self (by have:=(hL.u7 x hx).1;omega)) ?_;simp only[aj,Ry];refine aa (Md p.ae Q0 λx hx=>PC (by have:=hL.ah x hx;omega)) ?_;simp only[aj,Ry]
structure cJ where
 code:Int
 on:ar
 kind:Int
def cJ.enc(c:cJ):List D:=vI c.code::(c.on.enc++[vI c.kind,.sl 0 3 []])
theorem cJ.aP(c:cJ):c.enc.length=6:=rfl
abbrev fh(l:List cJ):D:=.sl l.length 6 (l.flatMap cJ.enc)
theorem PD(l:List cJ)(c:cJ):D.sl (l.length+1) 6 (l.flatMap cJ.enc++c.enc)=fh (l++[c]):=by grind
theorem o0(code kind:Int)(on:ar)(x y:D)(l:List cJ)(hl:l.length<=100000000000):IS y7 [[vI code],on.enc,[vI kind],[x,y],[fh l]] [[x,y],[fh (l++[⟨code,on,kind⟩])]]:=by refine w48.is ?_;unfold g48;simp only[aj,aG];refine⟨Qa,?_⟩;rw[<-PD];rfl
theorem df0{i:ar}:(i.aD=0/\i.seq=0/\i.index=0)↔i=ki:=by
 constructor
 .intro h;cases i;simp only at h;obtain⟨rfl,rfl,rfl⟩:=h;rfl
 .rintro rfl;exact⟨rfl,rfl,rfl⟩
theorem pS{a b:Bool}(h:a=true↔b=true):a=b:=by grind
section
variable {p:av} {n:Nat} {u:Ty}
theorem Bn(hk:u.kind=0\/u.kind=1):b9 p (n+1) u=(decide ((u.kids.length:Int)=0) && decide (u.df=ki)):=by
 refine pS ?_;rw[jv Q0 Q0,QA,decide_eq_true_eq,decide_eq_true_eq]
 grind
theorem vf_def(hk:u.kind=3):b9 p (n+1) u=(decide ((u.kids.length:Int)=0) && decide (lB p u.df)):=by
 refine pS ?_;rw[uK hk,QA,decide_eq_true_eq,decide_eq_true_eq]
 grind
theorem MB(hk:u.kind=2)(h:¬(u.df=ki/\(u.kids.length:Int)=1)):b9 p (n+1) u=false:=by
 rw[X3];intro hv;obtain⟨h1,y,h2,_⟩:=(mO hk).1 hv
 grind
theorem vf_no(h0:¬u.kind=0)(h1:¬u.kind=1)(h2:¬u.kind=2)(h3:¬u.kind=3):b9 p (n+1) u=false:=by rw[X3];intro hv;have:=((jv h2 h3).1 hv).2.2;omega
end
theorem tr{p:av}(hp:p.ae.length<=1000000000000)(t:Ty):IS s47 [p.enc,t.enc] [[vB (decide (cr p t))]]:=by
 refine w47.is ?_;unfold g47;simp only[aj];refine dG (σ:=Nat×Ty) (λx=>[[vI (x.1+1:Int)],p.enc,x.2.enc]) (λx=>24-x.1) (λx=>x.1<=24/\decide (cr p t)=b9 p (24-x.1) x.2) (0,t) ⟨Rr _,pS (by rw[decide_eq_true_eq];exact Iff.rfl)⟩ rfl ?_;rintro⟨k,u⟩ next ⟨hk,hI⟩ hn
 have hk:k<=24:=hk;simp only at hI;rw[hI,Ty.aF];simp only[aj,aG];refine⟨λh=>?_,λh=>?_⟩
 .have hk2:k<24:=Q0;have e24:24-k=(24-(k+1))+1:=Q0;rw[e24]at hI ⊢;refine hY ?_;simp only[df0];have tdef:u.kind=3->aA (la Qu) FH [p.enc,[ai u.df.aD,ai u.df.seq,ai u.df.index]] λr13 =>
        oX (cell (ab r13 1) 0) λb14 =>
         aB b14
          (aw (cell (ab r13 0) 3) λz15 =>
           (z15=0->[[Pm.vB (decide ((u.kids.length:Int)=0))]]=[[Pm.vB (b9 p (24-(k+1)+1) u)]]) /\
            (¬z15=0 ->
             aw (cell (ab r13 0) 3) λz18 =>
              (z18=1->[[Pm.vB (decide ((u.kids.length:Int)=0))]]=[[Pm.vB (b9 p (24-(k+1)+1) u)]]) /\
               (¬z18=1->[[Pm.vB false]]=[[Pm.vB (b9 p (24-(k+1)+1) u)]])))
          ([[Pm.vB false]]=[[Pm.vB (b9 p (24-(k+1)+1) u)]]):=λh3=>by
   refine aa (pN p u.df hp) ?_;have ek:cell (an p u.df).enc 3=ai (an p u.df).kind:=rfl;rw[vf_def h3];by_cases hd:dy p u.df
   .rw[J5 hd];simp only[aj,ek];unfold lB;refine⟨λh=>by simp[h,hd],λh=>⟨λh2=>by grind,λh2=>by simp[h,h2]⟩⟩
   .rw[J6 hd];simp only[aj];unfold lB;simp[hd]
  have tlist:u.kind=2->(u.df=ki->((u.kids.length:Int)=1->(0<=(0:Int)/\0<(u.kids.length:Int))/\(λst5=>aw (cell (ab st5 0) 0) λz52=>bt (z52+1)/\next [[vI (z52+1)],ab st5 1,ab st5 2]) [[vI (↑k+1)],p.enc,el (List.flatMap Ty.enc u.kids) 5 0]) /\
    (¬(u.kids.length:Int)=1->[[Pm.vB false]]=[[Pm.vB (b9 p (24-(k+1)+1) u)]]))/\(¬u.df=ki->[[Pm.vB false]]=[[Pm.vB (b9 p (24-(k+1)+1) u)]]):=λh2=>by
   refine⟨λhd=>⟨λhl=>⟨Q0,?_⟩,λhl=>by rw[MB h2 (λhh=>hl hh.2)]⟩,λhd=>by rw[MB h2 (λhh=>hd hh.1)]⟩;have h0:0<u.kids.length:=Q0;have e5:el (u.kids.flatMap Ty.enc) 5 0=u.kids[0].enc:=dE Ty.aP _ h0;simp only[aj,e5];refine⟨Q4,?_⟩;have h7:=hn (k+1,u.kids[0]) Q0 ⟨Q0,by rw[hI];exact pS (CZ h2 hd Q0)⟩;exact h7
  refine⟨λh0=>⟨λ_=>⟨λhd=>by rw[Bn (.inl h0)];simp[hd],λhd=>by rw[Bn (.inl h0)];simp[hd]⟩,λh=>J3 h0 h⟩,λh0=>⟨λh1=>⟨λhd=>by rw[Bn (.inr h1)];simp[hd],λhd=>by rw[Bn (.inr h1)];simp[hd]⟩,λh1=>⟨tdef,λh3=>⟨tlist,λh2=>by rw[vf_no h0 h1 h2 h3]⟩⟩⟩⟩
 .obtain rfl:k=24:=Q0;rfl
theorem qO{α:Type}{l:List α}{k:Nat}(hk:k<l.length){x:α}(h1:x ∉ l.take k)(h2:x≠l[k]):x ∉ l.take (k+1):=by
 rw[Qv hk,QK,QI]
 grind
def inS(b:ByteArray)(l:List ByteArray):Bool:=l.any λx=>decide (x=b)
theorem inS_iff{b:ByteArray}{l:List ByteArray}:inS b l=true↔b∈l:=by
 unfold inS
 grind
theorem LN(l:List ByteArray)(b:ByteArray)(hl:l.length<=1000000000000):∃z:Int,(0<=z↔b∈l)/\IS s197 [[j5 l],[bM b]] [[vI z]]:=by
 have key:g197 (la Qu) [[j5 l],[bM b]] (λr=>∃z:Int,(0<=z↔b∈l)/\r=[[vI z]]):=by
  unfold g197;simp only[aj];refine aZ l.length (λk=>[[j5 l],[bM b],[vI (l.length:Int)],[vI (k:Int)]]) (λk=>b ∉ l.take k) Q2 rfl λk next hi hI hn=>?_
  simp only[aj];refine⟨λh=>?_,λh=>?_⟩
  .have hk:k<l.length:=Q0;have hc:=tg bM l hk;rw[hc];unfold bM;simp only[aj];refine⟨Q0,λe=>⟨_,?_,rfl⟩,λe=>⟨Q4,hn hk (qO hk hI λe2=>e (by rw[e2]))⟩⟩
   grind
  all_goals grind
 obtain⟨r,⟨z,hz,rfl⟩,h⟩:=w197.some key (by rintro r ⟨z,_,rfl⟩;exact trivial);exact⟨z,hz,h⟩
theorem tc(l:List ByteArray)(b:ByteArray)(hl:l.length<=1000000000000):IS Nd [[j5 l],[bM b]] [[Pm.vB (inS b l)]]:=by refine w145.is ?_;unfold g145;simp only[aj];obtain⟨z,hz,h⟩:=LN l b hl;refine aa h ?_;simp only[aj];have e:decide (0<=z)=inS b l:=pS (by rw[decide_eq_true_eq,inS_iff];exact hz);rw[e]
theorem GY(l:List ar)(x:ar)(hl:l.length<=1000000000000):∃z:Int,(0<=z↔x∈l)/\IS By [[dI l],x.enc] [[vI z]]:=by
 have key:G7 (la Qu) [[dI l],x.enc] (λr=>∃z:Int,(0<=z↔x∈l)/\r=[[vI z]]):=by
  unfold G7;simp only[aj];refine aZ l.length (λk=>[[dI l],[vI (l.length:Int)],[vI (k:Int)],x.enc]) (λk=>x ∉ l.take k) Q2 rfl λk next hi hI hn=>?_
  simp only[aj,aG];refine⟨λh=>?_,λh=>?_⟩
  .have hk:k<l.length:=Q0;rw[eK _ hk];simp only[aj,aG];refine⟨Q0,λe=>⟨_,?_,rfl⟩,λe=>⟨Q4,hn hk (qO hk hI e)⟩⟩
   grind
  all_goals grind
 obtain⟨r,⟨z,hz,rfl⟩,h⟩:=w160_1.some key (by rintro r ⟨z,_,rfl⟩;exact trivial);exact⟨z,hz,h⟩
theorem Cs(l:List ar)(x:ar)(hl:l.length<=1000000000000):IS Il [[dI l],x.enc] [[vB (decide (x∈l))]]:=by
 refine w68_1.is ?_;unfold g68_1;simp only[aj];obtain⟨z,hz,h⟩:=GY l x hl;refine aa h ?_;simp only[aj]
 grind
abbrev fi:=ar×Int
def vt(v:fi):List D:=v.1.enc++[vI v.2]
theorem CY(v:fi):(vt v).length=4:=rfl
abbrev dV(l:List fi):D:=.sl l.length 4 (l.flatMap vt)
theorem byV(v:fi)(K:List Int->Prop):PT .i64 (vt v) K=K [v.1.aD,v.1.seq,v.1.index,v.2]:=by unfold PT;rfl
theorem LM(l:List fi)(x:fi)(hl:l.length<=1000000000000):∃z:Int,(0<=z↔x∈l)/\IS s198 [[dV l],vt x] [[vI z]]:=by
 have key:g198 (la Qu) [[dV l],vt x] (λr=>∃z:Int,(0<=z↔x∈l)/\r=[[vI z]]):=by
  unfold g198;simp only[aj];refine aZ l.length (λk=>[[dV l],[vI (l.length:Int)],[vI (k:Int)],vt x]) (λk=>x ∉ l.take k) Q2 rfl λk next hi hI hn=>?_
  simp only[aj];refine⟨λh=>?_,λh=>?_⟩
  .have hk:k<l.length:=Q0;rw[dE CY _ hk];rw[byV,byV];have hv:∀u v:fi,([u.1.aD,u.1.seq,u.1.index,u.2]=[v.1.aD,v.1.seq,v.1.index,v.2])↔u=v:=λu v=>by obtain⟨⟨a,b,c⟩,d⟩:=u;obtain⟨⟨a2,b2,c2⟩,d2⟩:=v;simp[and_assoc]
   rw[hv];refine⟨Q0,⟨rfl,rfl⟩,λe=>⟨_,?_,rfl⟩,λe=>⟨Q4,hn hk (qO hk hI e)⟩⟩
   grind
  all_goals grind
 obtain⟨r,⟨z,hz,rfl⟩,h⟩:=w198.someG key (by rintro r ⟨z,_,rfl⟩;exact trivial);exact⟨z,hz,h⟩
theorem ta(l:List fi)(x:fi)(hl:l.length<=1000000000000):IS s150 [[dV l],vt x] [[vB (decide (x∈l))]]:=by
 refine w150.is ?_;unfold g150;simp only[aj];obtain⟨z,hz,h⟩:=LM l x hl;refine aa h ?_;simp only[aj]
 grind
theorem Hw(e:Ex)(hk:e.kids.length<=1000000000000):IS s151 [e.enc] [[vI (if e.kind=6 then 1 else if e.kind=12 then 2 else if e.kind=10 then max 0 ((e.kids.length:Int)-1) else 0)]]:=by
 refine w151.is ?_;unfold g151;have e5:cell e.enc 3=ai e.kind:=by rw[Ex.aF];rfl
 have e6:cell e.enc 13=.sl e.kids.length 15 (e.kids.flatMap Ex.enc):=by rw[Ex.aF];rfl
 simp only[aj,e5,e6];by_cases h6:e.kind=6
 .simp[h6]
 .by_cases h12:e.kind=12
  .simp[h12]
  .by_cases h10:e.kind=10
   .simp[h10];unfold bt;omega
   .simp[h6,h12,h10]
def Hu(e:Ex)(j:Nat):List fi :=
 if e.kind=6/\j=1 then[(e.id,0)] else if e.kind=12/\j=2 then[(e.id,0),(e.id,1)] else if e.kind=10/\0<j then[(e.id,(j:Int)-1)] else[]
theorem PV(e:Ex)(j:Nat)(hj:j<=1000000000000):IS s155 [e.enc,[vI (j:Int)]] [[dV (Hu e j)]]:=by
 refine w155.is ?_;unfold g155;have e5:cell e.enc 3=ai e.kind:=by rw[Ex.aF];rfl
 have e6:sub e.enc 0 3=e.id.enc:=by rw[Ex.aF];rfl
 simp only[aj,aG,e5,e6];unfold Hu;have c1:((j:Int)=1)↔j=1:=Q0;have c2:((j:Int)=2)↔j=2:=Q0;have c3:((0:Int)<j)↔0<j:=Q0;have hok:bt ((j:Int)-1):=by unfold bt;omega
 simp only[c1,c2,c3];by_cases h6:e.kind=6
 .by_cases h1:j=1
  .simp[h6,h1,vt,ar.enc]
  .simp[h6,h1]
 .by_cases h12:e.kind=12
  .by_cases h1:j=2
   .simp[h12,h1,vt,ar.enc]
   .simp[h12,h1]
  .by_cases h10:e.kind=10
   .by_cases h1:0<j
    .simp[h10,h1,hok,vt,ar.enc]
    .simp[h10,h1]
   .simp[h6,h12,h10]
theorem I1{α:Type}(f:α->D)(l:List α)(i n:Nat):sub (l.map f) (i*1) (n*1)=((l.drop i).take n).map f:=by unfold sub;simp_all
def Fs(wd:ByteArray->Bool)(nms:List ByteArray)(i:Nat):Bool:=!wd (nms.getD i tx0) || inS (nms.getD i tx0) (nms.take i) || inS (nms.getD i tx0) (nms.drop (i+1))
def eU(wd:ByteArray->Bool)(ids:List ar)(nms:List ByteArray)(n:Nat):List cJ:=(UQ n).flatMap λi=>if Fs wd nms i then[⟨16,ids.getD i p6,5⟩] else[]
theorem uV(wd:ByteArray->Bool)(ids:List ar)(nms:List ByteArray)(n:Nat):eU wd ids nms (n+1)=eU wd ids nms n++if Fs wd nms n then[⟨16,ids.getD n p6,5⟩] else[]:=by unfold eU;rw[List.range_succ,QV];simp
theorem jd(wd:ByteArray->Bool)(ids:List ar)(nms:List ByteArray):∀n,(eU wd ids nms n).length<=n
 |0=>by simp[eU]
 |n+1=>by have:=jd wd ids nms n;rw[uV,QC];split <;> simp <;> omega
theorem ud{wd:ByteArray->Bool}{nms:List ByteArray}(W:∀b∈nms,IS qD [[bM b]] [[vB (wd b)]])(ids:List ar)(hi:ids.length=nms.length)(hn:nms.length<=1000000000)(x y:D)(l:List cJ)(hl:l.length<=10000000000) :
  IS s45 [[dI ids],[j5 nms],[x,y],[fh l]] [[x,y],[fh (l++eU wd ids nms nms.length)]]:=by
 refine w45.is ?_;unfold g45;simp only[aj];refine aZ nms.length (λk=>[[dI ids],[j5 nms],[j5 nms],[vI (nms.length:Int)],[vI (k:Int)],[x,y],[fh (l++eU wd ids nms k)]]) (λ_=>True) trivial (by simp[eU]) λk next hk' _ hnx=>?_
 have hlk:=jd wd ids nms k;have hll:(l++eU wd ids nms k).length<=100000000000:=by grind
 simp only[aj];refine⟨λh=>?_,λh=>?_⟩
 .have hk:k<nms.length:=Q0;have hki:k<ids.length:=Q0;have hc:=tg bM nms hk;have h3:=hnx hk trivial;rw[uV,<-QU]at h3;have eg:nms.getD k tx0=nms[k]:=by grind
  have eg2:ids.getD k p6=ids[k]:=by grind
  rw[eg2]at h3;unfold Fs at h3;rw[eg]at h3;rw[hc,eK _ hki];have hok:bt ((k:Int)+1):=by unfold bt;omega
  have hbad:∀K:bR->Prop,K [[x,y],[fh (l++eU wd ids nms k++[⟨16,ids[k],5⟩])]]->aA (la Qu) y7 [[vI 16],(ids[k]).enc,[vI 5],[x,y],[fh (l++eU wd ids nms k)]] K:=λK hK=>aa (o0 16 5 ids[k] x y _ hll) hK;refine⟨Q0,aa (W _ (QB hk)) ?_⟩;simp only[aj];cases hw:wd nms[k]with
  |false=>rw[hw]at h3;simp only[aj,Sj,UD,if_true]at h3 ⊢;refine⟨Q0,hbad _ ?_⟩;simp only[aj];exact⟨hok,h3⟩
  |true =>
   rw[hw]at h3;simp only[aj,Ry,Tq]at h3 ⊢;refine⟨Q0,?_⟩;rw[show((0:Int).toNat)=0 from rfl,T9,I1,RR];have e1:D.sl k 1 ((nms.take k).map bM)=j5 (nms.take k):=by grind
   rw[e1];refine aa (tc _ _ (by grind)) ?_;cases h4:inS nms[k] (nms.take k) with
   |true=>rw[h4]at h3;simp only[aj,UD,if_true]at h3 ⊢;refine⟨Q0,hbad _ ?_⟩;simp only[aj];exact⟨hok,h3⟩
   |false =>
    rw[h4]at h3;simp only[aj,Tq]at h3 ⊢;refine⟨hok,Q0,?_⟩;have e0:((k:Int)+1).toNat=k+1:=Q0;rw[e0,I1];have e2:D.sl (nms.length-(k+1)) 1 (((nms.drop (k+1)).take (nms.length-(k+1))).map bM)=j5 (nms.drop (k+1)):=by
     grind
    rw[e2];refine aa (tc _ _ (by grind)) ?_;cases h5:inS nms[k] (nms.drop (k+1)) with
    |true=>rw[h5]at h3;simp only[aj,if_true]at h3 ⊢;refine⟨Q0,hbad _ ?_⟩;simp only[aj];exact⟨hok,h3⟩
    |false=>rw[h5]at h3;simp only[aj,Uk,if_false,QF]at h3 ⊢;exact⟨hok,h3⟩
 .obtain rfl:k=nms.length:=Q0;rfl
theorem Lj{wd:ByteArray->Bool}(b:ByteArray)(W:IS qD [[bM b]] [[vB (wd b)]]):IS s153 [[bM b]] [[vB (!wd b)]]:=by refine w153.is ?_;unfold g153;simp only[aj];refine aa W ?_;simp only[aj]
theorem Gy{wd:ByteArray->Bool}{nms:List ByteArray}(W:∀b∈nms,IS qD [[bM b]] [[vB (wd b)]])(hn:nms.length<=1000000000):IS s152 [[j5 nms]] [[vB (nms.any λb=>!wd b)]]:=by
 have key:g199 (la Qu) [[j5 nms]] (λr=>∃z:Int,(0<=z↔(nms.any λb=>!wd b)=true)/\r=[[vI z]]):=by
  unfold g199;simp only[aj];refine aZ nms.length (λk=>[[j5 nms],[vI (nms.length:Int)],[vI (k:Int)]]) (λk=>((nms.take k).any λb=>!wd b)=false) Q2 rfl λk next hi hI hn=>?_
  simp only[aj];refine⟨λh=>?_,λh=>?_⟩
  .have hk:k<nms.length:=Q0;have hc:=tg bM nms hk;have hm:=QB hk;rw[hc];refine⟨Q0,aa (Lj _ (W _ hm)) ?_⟩;cases hw:wd nms[k]with
   |false=>simp only[aj,Sj];refine⟨_,?_,rfl⟩;refine⟨λ_=>Yb.2 ⟨_,hm,by rw[hw];rfl⟩,λ_=>by omega⟩
   |true=>simp only[aj,Ry];refine⟨Q4,hn hk ?_⟩;rw[Qv hk,Yj,hI];simp[hw]
  all_goals grind
 obtain⟨r,⟨z,hz,rfl⟩,h⟩:=w199.some key (by rintro r ⟨z,_,rfl⟩;exact trivial);refine w152.is ?_;unfold g152;simp only[aj];refine aa h ?_;simp only[aj]
 grind
def Aq:List Int:=[0,0,0,-1,2,3,2,-1,1,1,-1,-1,3]
theorem kids_at{k:Nat}(hk:k<13):cell (el kidsD 1 k) 0=vI (Aq.getD k 0):=by
 match k,hk with
 |0,_=>rfl
 |1,_=>rfl
 |2,_=>rfl
 |3,_=>rfl
 |4,_=>rfl
 |5,_=>rfl
 |6,_=>rfl
 |7,_=>rfl
 |8,_=>rfl
 |9,_=>rfl
 |10,_=>rfl
 |11,_=>rfl
 |12,_=>rfl
def vd(k dk:Int):Bool:=decide ((k=3/\(dk=2\/dk=5))\/((k=7\/k=8)/\dk=0)\/((k=9\/k=10)/\dk=1))
theorem EI{k dk:Int}(hc:fA k)(h0:0<=dk)(h5:dk<=5):(bits .and .i64 ((xY k iI).getD 0 / 2 ^ min (Qr dk) (IntKind.bits .i64)) 1=(0:Int))↔vd k dk=false:=by have hd:dk=0\/dk=1\/dk=2\/dk=3\/dk=4\/dk=5:=Q0;unfold fA at hc;rcases hc with rfl|rfl|rfl|rfl|rfl <;> rcases hd with rfl|rfl|rfl|rfl|rfl|rfl <;> decide
def iu(e:Ex):Bool:=if e.kind=4 then decide (e.n<0\/11<e.n) else if e.kind=0 then decide (e.n < -1099511627776\/1099511627776<e.n) else if e.kind=1 then decide (¬e.n=0/\¬e.n=1) else false
def fW(p:av)(e:Ex):Bool:=if e.kind=11 then !decide (cr p e.ty) else false
def gU(e:Ex):Int:=if e.kind=4/\(e.n=9\/e.n=11) then 1 else Aq.getD e.kind.toNat 0
def iV(e:Ex):Bool:=iu e || decide (0<=gU e/\¬(e.kids.length:Int)=gU e)
def fZ(e:Ex)(n:Nat):Bool:=if e.kind=3\/e.kind=7 then decide (¬(e.kids.length:Int)=n) else if e.kind=10 then decide (¬(e.kids.length:Int)=n+1\/n=0) else decide (e.n<0\/(n:Int)<=e.n)
def gX(p:av)(e:Ex):Bool×Bool :=
 if e.kind<0\/13<=e.kind then(true,false) else if ¬fA e.kind then(iV e,fW p e)
 else if ¬dy p e.ref\/vd e.kind (an p e.ref).kind=false then(iV e,true) else(iV e || fZ e (an p e.ref).ah.length,fW p e)
theorem ikI(z:Int)(K:Int->Prop):qk .i64 (vI z) K=K z:=by simp[qk]
theorem N5{p:av}(hp:p.ae.length<=1000000000000)(e:Ex)(_:e.kids.length<=1000000000000)(hs:(an p e.ref).ah.length<=1000000000000)(l:List cJ) :
  IS s149 [e.enc,p.enc,[fh l]] [[vB (gX p e).1],[vB (gX p e).2],p.enc,[fh l]]:=by
 refine w149.isG ?_;unfold g149;have e3:cell e.enc 3=ai e.kind:=by rw[Ex.aF];rfl
 have e4:cell e.enc 4=ai e.n:=by rw[Ex.aF];rfl
 have e5:cell e.enc 13=.sl e.kids.length 15 (e.kids.flatMap Ex.enc):=by rw[Ex.aF];rfl
 have e6:sub e.enc 8 5=e.ty.enc:=by rw[Ex.aF,Ty.aF];rfl
 have e7:sub e.enc 5 3=e.ref.enc:=by rw[Ex.aF];rfl
 have hpe:[cell p.enc 0,cell p.enc 1]=p.enc:=rfl;simp only[aj,aG,e3,hpe];refine⟨λh=>by unfold gX;rw[J2 (.inl h)],λh1=>⟨λh=>by unfold gX;rw[J2 (.inr h)],λh2=>⟨⟨Q0,Q0⟩,?_⟩⟩⟩;have hk13:e.kind.toNat<13:=Q0;simp only[kids_at hk13];refine bC [[vB (iu e)],[vB (fW p e)],[vI (gU e)],p.enc,e.enc,[fh l]] ?_ ?_
 .refine⟨λh4=>?_,λh4=>⟨λh0=>?_,λh0=>⟨λhb=>?_,λhb=>⟨λhl=>?_,λhl=>?_⟩⟩⟩⟩
  .have hd:fW p e=false:=by unfold fW;rw[J1 Q0]
   have hw0:iu e=decide (e.n<0\/11<e.n):=by unfold iu;rw[J2 h4]
   refine bC [[vB false],[vI (gU e)],p.enc,e.enc,[fh l]] ?_ ?_
   .unfold gU;refine⟨λh=>by grind,λh=>⟨λh2=>by grind,λh2=>by grind⟩⟩
   .simp only[aj,e4,hpe];rw[hw0,hd];refine⟨λh=>?_,λh=>?_⟩
    .have:decide (e.n<0\/11<e.n)=true:=J5 (.inl h);rw[this]
    .have:decide (e.n<0\/11<e.n)=decide (11<e.n):=by simp[h]
     rw[this]
  .have hw:gU e=Aq.getD e.kind.toNat 0:=by unfold gU;rw[J1 (λh=>h4 h.1)]
   have hd:fW p e=false:=by unfold fW;rw[J1 Q0]
   have hw0:iu e=decide (e.n < -1099511627776\/1099511627776<e.n):=by unfold iu;rw[J1 h4,J2 h0]
   rw[hw,hd,hw0];refine⟨λh=>?_,λh=>?_⟩
   .have:decide (e.n < -1099511627776\/1099511627776<e.n)=true:=J5 (.inl h);rw[this]
   .have:decide (e.n < -1099511627776\/1099511627776<e.n)=decide (1099511627776<e.n):=by simp[h]
    rw[this]
  .have hw:gU e=Aq.getD e.kind.toNat 0:=by unfold gU;rw[J1 (λh=>h4 h.1)]
   have hd:fW p e=false:=by unfold fW;rw[J1 Q0]
   have hw0:iu e=decide (¬e.n=0/\¬e.n=1):=by unfold iu;rw[J1 h4,J1 h0,J2 hb]
   rw[hw,hd,hw0];refine⟨λh=>?_,λh=>?_⟩
   .have:decide (¬e.n=0/\¬e.n=1)=false:=J6 λhh=>hh.1 h;rw[this]
   .have:decide (¬e.n=0/\¬e.n=1)=!decide (e.n=1):=by simp[h]
    rw[this]
  .have hw:gU e=Aq.getD e.kind.toNat 0:=by unfold gU;rw[J1 (λh=>h4 h.1)]
   have hd:fW p e=!decide (cr p e.ty):=by unfold fW;rw[J2 hl]
   have hw0:iu e=false:=by unfold iu;rw[J1 h4,J1 h0,J1 hb]
   rw[hw,hd,hw0];refine aa (tr hp e.ty) ?_;simp only[aj]
  .have hw:gU e=Aq.getD e.kind.toNat 0:=by unfold gU;rw[J1 (λh=>h4 h.1)]
   have hd:fW p e=false:=by unfold fW;rw[J1 hl]
   have hw0:iu e=false:=by unfold iu;rw[J1 h4,J1 h0,J1 hb]
   rw[hw,hd,hw0]
 .simp only[aj,hpe,e5];refine bC [[vB (iV e)],[vB (fW p e)],p.enc,e.enc,[fh l]] ?_ ?_
  .unfold iV;cases h0:iu e with
   |true=>simp only[aj,UD]
   |false =>
    simp only[aj,Tq];refine⟨λh=>?_,λh=>?_⟩
    .have:decide (0<=gU e/\¬(e.kids.length:Int)=gU e)=!decide ((e.kids.length:Int)=gU e):=by simp[h]
     rw[this]
    .have:decide (0<=gU e/\¬(e.kids.length:Int)=gU e)=false:=J6 λhh=>h hh.1;rw[this]
  .simp only[aj,hpe,e3,e4,e5,e7,yi];have hn:gX p e=if ¬fA e.kind then(iV e,fW p e)
 else if ¬dy p e.ref\/vd e.kind (an p e.ref).kind=false then(iV e,true) else(iV e || fZ e (an p e.ref).ah.length,fW p e):=by unfold gX;rw[J1 Q0]
   rw[hn];refine⟨λhc=>by grind,λhc=>?_⟩;have hc2:fA e.kind:=Xa.1 hc;rw[J1 hc];refine aa (pN p e.ref hp) ?_;have k1:cell (an p e.ref).enc 3=ai (an p e.ref).kind:=rfl;have k2:cell (an p e.ref).enc 8=.sl (an p e.ref).ah.length 11 ((an p e.ref).ah.flatMap aC.enc):=rfl;by_cases hdf:dy p e.ref
   .rw[J5 hdf];simp only[aj,k1,k2];generalize an p e.ref=d at hs ⊢;have hno:∀z:Int,(z<0\/5<z)->vd e.kind z=false:=λz hz=>by unfold vd;rw[decide_eq_false_iff_not];omega
    refine⟨λh=>by grind,λh=>⟨λh5=>by grind,λh5=>?_⟩⟩;rw[ikI];show qk .i64 (vI d.kind) _;rw[ikI];refine⟨Q0,λhbt=>?_,λhbt=>?_⟩
    .rw[J2 (.inr ((EI hc2 Q0 Q0).1 hbt))]
    .have hfk:¬vd e.kind d.kind=false:=λhh=>hbt ((EI hc2 Q0 Q0).2 hh);rw[J1 (λhh=>hh.elim (λa=>a hdf) hfk)];refine bC [[vB (iV e || fZ e d.ah.length)],[vB (fW p e)],p.enc,[fh l]] ?_ ?_
     .cases h1:iV e with
      |true=>simp only[aj,UD];exact⟨λh=>⟨λ_=>trivial,λh2=>J3 h h2⟩,λh=>⟨λ_=>trivial,λ_=>⟨λ_=>trivial,λ_=>trivial⟩⟩⟩
      |false =>
       simp only[aj,Tq];have r1:(e.kind=3\/e.kind=7)->fZ e d.ah.length=!decide ((e.kids.length:Int)=d.ah.length):=λh=>by unfold fZ;rw[J2 h];simp
       have r2:e.kind=10->fZ e d.ah.length=decide (¬(e.kids.length:Int)=d.ah.length+1\/d.ah.length=0):=λh=>by unfold fZ;rw[J1 Q0,J2 h]
       have r3:¬e.kind=3->¬e.kind=7->¬e.kind=10->fZ e d.ah.length=decide (e.n<0\/(d.ah.length:Int)<=e.n):=λh h7 h10=>by unfold fZ;rw[J1 Q0,J1 h10]
       have hok:bt ((d.ah.length:Int)+1):=by unfold bt;omega
       have b2:e.kind=10->(e.kids.length:Int)=d.ah.length+1->decide ((d.ah.length:Int)=0)=fZ e d.ah.length:=λh10 hl=>by
        grind
       have b3:e.kind=10->¬(e.kids.length:Int)=d.ah.length+1->fZ e d.ah.length=true:=λh10 hl=>by grind
       have b4:¬e.kind=3->¬e.kind=7->¬e.kind=10->e.n<0->fZ e d.ah.length=true:=λh h7 h10 hn=>by grind
       have b5:¬e.kind=3->¬e.kind=7->¬e.kind=10->¬e.n<0->fZ e d.ah.length=decide ((d.ah.length:Int)<=e.n):=λh h7 h10 hn=>by grind
       refine⟨λh=>⟨λ_=>by grind,λh2=>J3 h h2⟩,λh=>⟨λh7=>by grind,λh7=>⟨λh10=>⟨hok,λhl=>by grind,λhl=>by grind⟩,λh10=>⟨λhn=>by grind,λhn=>by grind⟩⟩⟩⟩
     .simp only[aj,hpe]
   .rw[J6 hdf,J2 (.inl hdf)];simp only[aj,Sj]
def jh(i:ar)(kd:Int)(j:Nat):List fi :=
 if kd=6/\j=1 then[(i,0)] else if kd=12/\j=2 then[(i,0),(i,1)] else if kd=10/\0<j then[(i,(j:Int)-1)] else[]
theorem Mn(e:Ex)(j:Nat):Hu e j=jh e.id e.kind j:=rfl
theorem Ht(i:ar)(kd:Int)(j:Nat):(jh i kd j).length<=2:=by
 unfold jh
 grind
def mH(e:Ex):Int:=if e.kind=6 then 1 else if e.kind=12 then 2 else if e.kind=10 then max 0 ((e.kids.length:Int)-1) else 0
def iE(wd:ByteArray->Bool)(e:Ex):Bool:=decide (¬(e.aK.length:Int)=mH e) || e.aK.any λb=>!wd b
def tq(e:Ex)(a:List fi):Bool:=decide (e.kind=2/\(e.ref,e.n) ∉ a)
def rZ(wd:ByteArray->Bool)(p:av)(e:Ex)(a:List fi):List cJ :=
 (if(gX p e).1 then[⟨17,e.id,12⟩] else[])++(if(gX p e).2 || tq e a then[⟨14,e.id,12⟩] else[])++(if iE wd e then[⟨16,e.id,12⟩] else[])
mutual
def fa(wd:ByteArray->Bool)(p:av):Ex->List fi->List cJ
 |.mk i k n r t l s,a=>rZ wd p (.mk i k n r t l s) a++b6 wd p i k l 0 a
def b6(wd:ByteArray->Bool)(p:av)(i:ar)(k:Int):List Ex->Nat->List fi->List cJ
 |[],_,_=>[]
 |x::l,j,a=>fa wd p x (a++jh i k j)++b6 wd p i k l (j+1) a
end
section
variable (wd:ByteArray->Bool) (p:av)
theorem A1(e:Ex)(a:List fi):fa wd p e a=rZ wd p e a++b6 wd p e.id e.kind e.kids 0 a:=by cases e;rw[fa];rfl
theorem vq(i:ar)(k:Int):∀(l m:List Ex) (j:Nat) (a:List fi),b6 wd p i k (l++m) j a=b6 wd p i k l j a++b6 wd p i k m (j+l.length) a
 |[],m,j,a=>by rw[Rk,b6,Rk];rfl
 |x::l,m,j,a=>by rw[Rm,b6,b6,vq i k l m (j+1) a,QU,QG,show j+1+l.length=j+(l.length+1) by omega]
theorem CE(i:ar)(kd:Int){l:List Ex}{k:Nat}(hk:k<l.length)(a:List fi):b6 wd p i kd (l.take (k+1)) 0 a=b6 wd p i kd (l.take k) 0 a++fa wd p l[k] (a++jh i kd k):=by rw[Qv hk,vq,Rf,RU Q0,Rn,b6,b6,QF]
theorem Li(e:Ex)(a:List fi):(rZ wd p e a).length<=3:=by
 unfold rZ
 grind
mutual
theorem yJ:∀(e:Ex) (a:List fi),(fa wd p e a).length<=3*e.wt
 |.mk i k n r t l s,a=>by rw[fa,QC,Ex.wt];have:=Li wd p (.mk i k n r t l s) a;have:=oZ i k l 0 a;omega
theorem oZ(i:ar)(k:Int):∀(l:List Ex) (j:Nat) (a:List fi),(b6 wd p i k l j a).length<=3*Ex.fb l
 |[],j,a=>by rw[b6];exact Rr _
 |x::l,j,a=>by rw[b6,QC,Ex.fb];have:=yJ x (a++jh i k j);have:=oZ i k l (j+1) a;omega
end
end
theorem Fq{wd:ByteArray->Bool}{p:av}(hcat:∀a b:List fi,a.length+b.length<=100000000000->IS Ko [[.sl 2 1 [dV a,dV b]]] [[dV (a++b)]])(hp:p.ae.length<=1000000000000)(hs:∀i,(an p i).ah.length<=1000000000000) :
  ∀(n:Nat) (e:Ex),e.wt<=n->e.wt<=1000000000->(∀x∈cL e,∀b∈x.aK,IS qD [[bM b]] [[vB (wd b)]])->∀(a:List fi) (l:List cJ),a.length+2*e.wt<=10000000000->l.length+3*e.wt<=10000000000 ->
  IS Kp [e.enc,[dV a],p.enc,[fh l]] [p.enc,[fh (l++fa wd p e a)]]
 |0,e,h,_,_=>by have:=Ex.cT e;omega
 |n+1,e,h,hb,hw=>λa l ha hl=>by
  have h1:=Ex.cT e;have h2:=Ex.o7 e.kids;have hpe:[cell p.enc 0,cell p.enc 1]=p.enc:=rfl;have e0:sub e.enc 0 3=e.id.enc:=by rw[Ex.aF];rfl
  have e3:cell e.enc 3=ai e.kind:=by rw[Ex.aF];rfl
  have e4:cell e.enc 4=ai e.n:=by rw[Ex.aF];rfl
  have e5:cell e.enc 13=.sl e.kids.length 15 (e.kids.flatMap Ex.enc):=by rw[Ex.aF];rfl
  have e6:cell e.enc 14=j5 e.aK:=by rw[Ex.aF];rfl
  have e7:sub e.enc 5 3=e.ref.enc:=by rw[Ex.aF];rfl
  refine w148.isG ?_;unfold g148;simp only[aj,aG,hpe];refine aa (N5 hp e Q0 (hs _) l) ?_;simp only[aj,hpe];let l1:=l++(if(gX p e).1 then[⟨17,e.id,12⟩] else[]:List cJ);have hl1:l1.length<=l.length+1:=by
   grind
  let l2:=l1++(if(gX p e).2 || tq e a then[⟨14,e.id,12⟩] else[]:List cJ);have hl2:l2.length<=l1.length+1:=by
   grind
  let l3:=l2++(if iE wd e then[⟨16,e.id,12⟩] else[]:List cJ);have hl3:l3.length<=l2.length+1:=by
   grind
  have e33:l3=l++rZ wd p e a:=by
   show l++_++_++_=_;unfold rZ
   grind
  refine bC [[dV a],[vB (gX p e).2],e.enc,p.enc,[fh l1]] ?_ ?_
  .show aB (gX p e).1 _ _;cases hw1:(gX p e).1 with
   |true =>
    simp only[aj];refine aa (o0 17 12 e.id _ _ l Q0) ?_;simp only[aj];have e:l1=l++[⟨17,e.id,12⟩]:=by grind
    rw[e];rfl
   |false =>
    simp only[aj];have e:l1=l:=by grind
    rw[e]
  .clear_value l1
   simp only[aj,aG,hpe,e0,e3,e4,e7];refine bC [[dV a],e.enc,p.enc,[fh l2]] ?_ ?_
   .cases hd:(gX p e).2 || tq e a with
    |true =>
     have e2:l2=l1++[⟨14,e.id,12⟩]:=by grind
     have add:∀K:bR->Prop,K [p.enc,[fh l2]]->aA (la Qu) y7 [[vI 14],e.id.enc,[vI 12],p.enc,[fh l1]] K:=λK hK=>aa (o0 14 12 e.id _ _ l1 Q0) (by rw[e2]at hK;exact hK);cases hd2:(gX p e).2 with
     |true=>simp only[aj];refine add _ ?_;simp only[aj,hpe]
     |false=>rw[hd2,Tq]at hd;obtain⟨hk2,hin⟩:=J7 hd;simp only[aj];refine⟨λ_=>?_,λhh=>J3 hk2 hh⟩;refine aa (ta a (e.ref,e.n) Q0) ?_;rw[J6 hin];simp only[aj,Sj];refine add _ ?_;simp only[aj,hpe]
    |false =>
     have e2:l2=l1:=by grind
     rw[e2];rw[Bool.or_eq_false_iff]at hd;rw[hd.1];simp only[aj];refine⟨λhk2=>?_,λ_=>trivial⟩;have hin:(e.ref,e.n)∈a:=Xa.1 λhh=>of_decide_eq_false hd.2 ⟨hk2,hh⟩;refine aa (ta a (e.ref,e.n) Q0) ?_;rw[J5 hin];simp only[aj,Ry]
   .clear_value l2
    simp only[aj,hpe,e0,e6];refine bC [[dV a],e.enc,p.enc,[fh l3]] ?_ ?_
    .refine aa (Hw e Q0) ?_;simp only[aj];have add:iE wd e=true->∀K:bR->Prop,K [p.enc,[fh l3]]->aA (la Qu) y7 [[vI 16],e.id.enc,[vI 12],p.enc,[fh l2]] K:=λhbd K hK=>by
      have e2:l3=l2++[⟨16,e.id,12⟩]:=by grind
      exact aa (o0 16 12 e.id _ _ l2 Q0) (by rw[e2]at hK;exact hK)
     have hni:=Gy (λb hb=>hw e (dZ e) b hb) (by omega:e.aK.length<=1000000000);refine⟨λhl5=>?_,λhl5=>?_⟩
     .have hbe:iE wd e=e.aK.any λb=>!wd b:=by unfold iE;rw[J6 (λhh=>hh hl5),Tq]
      refine aa hni ?_;cases hbn:e.aK.any λb=>!wd b with
      |true=>simp only[aj];refine add (by grind) _ ?_;simp only[aj,hpe]
      |false =>
       have e2:l3=l2:=by grind
       rw[e2];simp only[aj]
     .have hbe:iE wd e=true:=by
       unfold iE mH
       grind
      refine add hbe _ ?_;simp only[aj,hpe]
    .clear_value l3
     simp only[aj,hpe,e5];refine aZ e.kids.length (λk=>[[dV a],[exK e],[vI (e.kids.length:Int)],[vI (k:Int)],e.enc,p.enc,[fh (l3++b6 wd p e.id e.kind (e.kids.take k) 0 a)]]) (λ_=>True) trivial (by rw[Sz,b6,QF];rfl) λk next hi _ hn=>?_
     have hlen:=oZ wd p e.id e.kind (e.kids.take k) 0 a;have hst2:=Ex.wA e.kids (k+1);simp only[aj,hpe];refine⟨λh5=>?_,λh5=>?_⟩
     .have hk:k<e.kids.length:=Q0;have hm:=QB hk;have hn3:=hn hk trivial;rw[CE wd p _ _ hk,<-QU]at hn3;rw[Ex.wB hk]at hst2;have hwk:∀x∈cL e.kids[k],∀b∈x.aK,IS qD [[bM b]] [[vB (wd b)]]:=λx hx=>hw x (by rw[lH];exact List.mem_append_left _ (mK hm hx));rw[yx _ hk];generalize e.kids[k]=x at hn3 hst2 hwk ⊢;refine⟨Q0,aa (PV e k Q0) ?_⟩;simp only[aj];have hbl:=Ht e.id e.kind k;rw[Mn];refine aa (hcat a (jh e.id e.kind k) Q0) ?_;simp only[aj];refine aa (Fq hcat hp hs n x Q0 Q0 hwk (a++jh e.id e.kind k) _ (by grind) (by grind)) ?_;simp only[aj,hpe];exact⟨Q4,hn3⟩
     .obtain rfl:k=e.kids.length:=Q0;rw[Re,e33,A1,<-QU]
def iT(d:aq):List fi:=d.ah.map λs=>(s.id,0)
theorem body_is{wd:ByteArray->Bool}{p:av}(hcat:∀a b:List fi,a.length+b.length<=100000000000->IS Ko [[.sl 2 1 [dV a,dV b]]] [[dV (a++b)]])(hp:p.ae.length<=1000000000000)(hs:∀i,(an p i).ah.length<=1000000000000)
  (d:aq) (hd:d.ah.length<=1000000000) (hb:d.body.wt<=1000000000) (hw:∀x∈cL d.body,∀b∈x.aK,IS qD [[bM b]] [[vB (wd b)]]) (l:List cJ) (hl:l.length+3*d.body.wt<=10000000000) :
  IS s50 [d.enc,p.enc,[fh l]] [p.enc,[fh (l++fa wd p d.body (iT d))]]:=by
 have hpe:[cell p.enc 0,cell p.enc 1]=p.enc:=rfl;have d3:cell d.enc 8=.sl d.ah.length 11 (d.ah.flatMap aC.enc):=rfl;have d4:sub d.enc 14 15=d.body.enc:=by rw[Ex.aF];rfl
 refine w50.isG ?_;unfold g50;simp only[aj,hpe,d3];refine bC [p.enc,d.enc,[dV (iT d)],[fh l]] ?_ ?_
 .refine aZ d.ah.length (λk=>[[.sl d.ah.length 11 (d.ah.flatMap aC.enc)],[vI (d.ah.length:Int)],[vI (k:Int)],p.enc,d.enc,[dV ((iT d).take k)],[fh l]]) (λ_=>True) trivial Q3 λk next hi _ hn=>?_
  have hlk:((iT d).take k).length=k:=by unfold iT;rw[Rf,QS];omega
  have hsl:(iT d).length=d.ah.length:=by unfold iT;rw[QS]
  simp only[aj,hpe];refine⟨λh=>?_,λh=>?_⟩
  .have hk:k<d.ah.length:=Q0;have h3:=hn hk trivial;rw[Qv Q0]at h3;have hke:(iT d)[k]'Q0=(d.ah[k].id,0):=by unfold iT;rw[RG]
   rw[hke]at h3;rw[oU _ hk];have s1:sub (d.ah[k]).enc 0 3=(d.ah[k]).id.enc:=rfl;rw[s1];refine⟨Q0,Qa,Q4,?_⟩;rw[show dV ((iT d).take k++[((d.ah[k]).id,0)])=D.sl (((iT d).take k).length+1) 4 (((iT d).take k).flatMap vt++[ai (d.ah[k]).id.aD,ai (d.ah[k]).id.seq,ai (d.ah[k]).id.index,vI 0]) by unfold dV;rw[QC,QV];rfl]at h3;exact h3
  .obtain rfl:k=d.ah.length:=Q0;rw[<-hsl,Re]
 .simp only[aj,hpe,d4];refine aa (Fq hcat hp hs _ d.body (QW _) hb hw (iT d) l (by unfold iT;rw[QS];omega) hl) ?_;simp only[aj,hpe]
def iB(p:av):Nat->List ar->List ar->List ar
 |0,S,_=>S
 |_+1,S,[]=>S
 |n+1,S,x::T=>if x∈S then iB p n S T else iB p n (S++[x]) (T++aU p x)
def rH(p:av)(S:List ar)(D:List ar):Nat:=((D.filter λi=>decide (i ∉ S)).map λi=>(aU p i).length).sum
theorem tL(p:av)(S:List ar)(x:ar):∀{D:List ar},x ∉ D->rH p (S++[x]) D=rH p S D
 |[],_=>rfl
 |i::D,h=>by
  have hne:i≠x:=λe=>h (by grind);have ih:=tL p S x (D:=D) λhh=>h (Qx _ hh);unfold rH at ih ⊢
  grind
theorem DG(p:av)(S:List ar)(x:ar)(hS:x ∉ S):∀{D:List ar},D.Nodup->x∈D->rH p (S++[x]) D+(aU p x).length=rH p S D
 |i::D,hn,h=>by
  have hn2:=Rw.1 hn;by_cases e:i=x
  .subst e;have h1:=tL p S i hn2.1;unfold rH at h1 ⊢
   grind
  .have hx:x∈D:=(Qz.1 h).resolve_left λh2=>e h2.symm;have ih:=DG p S x hS hn2.2 hx;unfold rH at ih ⊢
   grind
theorem zz{p:av}{x:ar}(h:x ∉ p.ae.map aq.id):aU p x=[]:=by
 unfold aU;rw[J1];rintro⟨d,hd,rfl⟩
 grind
abbrev gM(p:av):List ar:=p.ae.map aq.id
def mu(p:av)(S T:List ar):Nat:=T.length+rH p S (gM p)
theorem GB(p:av)(S T:List ar)(x:ar):mu p S (x::T)=mu p S T+1:=by unfold mu;rw[QG];omega
theorem mu_new{p:av}(hn:(gM p).Nodup){S:List ar}(T:List ar){x:ar}(hx:x ∉ S):mu p S (x::T)=mu p (S++[x]) (T++aU p x)+1:=by
 unfold mu;rw[QG,QC];by_cases h:x∈gM p
 .have:=DG p S x hx hn h;omega
 .rw[tL p S x h,zz h,List.length_nil];omega
def zi(p:av)(i:ar):List ar:=iB p (mu p [] (aU p i)) [] (aU p i)
def bF(p:av)(i:ar):List ar:=match p.al.find? λm=>decide (m.id=i) with
 |some m=>m.bP++[m.id]
 |none=>[]
def lz(p:av)(d:aq):List cJ:=(aU p d.id).flatMap λx=>if(an p x).mod∈bF p d.mod then[] else[⟨11,d.id,1⟩]
def ku(p:av)(d:aq):List cJ:=lz p d++if d.id∈zi p d.id then[⟨13,d.id,14⟩] else[]
def wE(p:av):List cJ:=p.ae.flatMap (ku p)
theorem Ai(p:av)(d:aq):(lz p d).length<=(aU p d.id).length:=by
 unfold lz;induction aU p d.id with
 |nil=>simp
 |cons x l ih =>
  rw[QD,QC,QG];have h1:(if(an p x).mod∈bF p d.mod then[] else[⟨11,d.id,1⟩]:List cJ).length<=1:=by grind
  omega
theorem nk{p:av}(hn:(p.al.map aI.id).Nodup){k:Nat}(hk:k<p.al.length):bF p p.al[k].id=p.al[k].bP++[p.al[k].id]:=by
 have:(p.al.find? λm=>decide (m.id=p.al[k].id))=some p.al[k]:=by
  have key:∀(l:List aI) (hn:(l.map aI.id).Nodup) (x:aI),x∈l->(l.find? λm=>decide (m.id=x.id))=some x:=by
   intro l;induction l with
   |nil=>intro _ x hx;cases hx
   |cons m l ih =>
    intro hn x hx;rw[QT]at hn;have hn2:=Rw.1 hn;rw[Uh];rcases Qz.1 hx with rfl|hx
    .rw[J5 rfl]
    .rw[J6 λe=>hn2.1 (by grind)];exact ih hn2.2 x hx
  grind
 unfold bF;rw[this]
theorem B7{p:av}{i:ar}(h:i ∉ p.al.map aI.id):bF p i=[]:=by
 unfold bF
 grind
theorem Ju(f:ar->List ar)(i:ar)(L:List ar)(h:i ∉ L->f i=[]):(bu 4 i.aD i.seq i.index L.length (L.flatMap (mE λx=>dI (f x)))).getD [.sl 0 3 []]=[dI (f i)]:=by
 rw[qQ]
 grind
theorem F9(p:av)(n:Nat)(S:List ar):iB p n S []=S:=by cases n <;> rw[iB]
theorem C4(x:ar)(T:List ar):sub ((x::T).flatMap ar.enc) (1*3) (((x::T).length-1)*3)=T.flatMap ar.enc:=by
 unfold sub;rw[QD];show(Sr 3 (x.enc++T.flatMap ar.enc)).take _=_;have e:x.enc.length=3:=rfl;rw[<-e,List.drop_left];refine Rj ?_;have:(T.flatMap ar.enc).length=T.length*3:=by
  induction T with
  |nil=>rfl
  |cons y T ih=>rw[QD,QC,ih,QG];show 3+T.length*3=_;omega
 grind
theorem ME(C:gE)(hS:uE){p:av}(hp:Bh p)(hnd:(gM p).Nodup)(hnm:(p.al.map aI.id).Nodup)(hm:p.al.length<=1000)(hmu:∀m∈p.al,m.bP.length<=1000)(hU:∀i,mu p [] (aU p i)<=1000000000)(vz:∀i,(aU p i).length<=100000)(l:List cJ)(hl:l.length<=1000000000) :
  IS s51 [p.enc,[fh l]] [p.enc,[fh (l++wE p)]]:=by
 have hpe:[cell p.enc 0,cell p.enc 1]=p.enc:=rfl;have p0:cell p.enc 0=.sl p.al.length 6 (p.al.flatMap aI.enc):=rfl;have p1:cell p.enc 1=.sl p.ae.length 31 (p.ae.flatMap aq.enc):=rfl;have hd:=hp.d;refine w51.isG ?_;unfold g51;simp only[aj,p1];refine aZ p.ae.length (λk=>[[.sl p.ae.length 31 (p.ae.flatMap aq.enc)],[vI (p.ae.length:Int)],[vI (k:Int)],p.enc,[dM (λx=>dI (aU p x)) ((gM p).take k)],[fh l]]) (λ_=>True) trivial Q3 λk next hi _ hn=>?_
 have hlk:((gM p).take k).length=k:=by grind
 simp only[aj,hpe];refine⟨λh=>?_,λh=>?_⟩
 .have hk:k<p.ae.length:=Q0;have h3:=hn hk trivial;have hki:k<(gM p).length:=by grind
  have hke:(gM p)[k]=p.ae[k].id:=by grind
  have hfr:(gM p)[k] ∉ (gM p).take k:=λhin=>by
   have e2:gM p=(gM p).take k++(gM p)[k]::(gM p).drop (k+1):=by rw[<-S1 hki,SF]
   grind
  rw[Qv hki]at h3;rw[gw _ hk];rw[hke]at h3 hfr;have s0:sub (p.ae[k]).enc 0 3=(p.ae[k]).id.enc:=rfl;rw[s0];generalize(p.ae[k]).id=i at h3 hfr ⊢;refine⟨Q0,aa (vH hS hp i) ?_⟩;simp only[aj,aG];refine⟨Q4,?_⟩;have e1:cS 4 i.aD i.seq i.index [dI (aU p i)] ((gM p).take k).length (((gM p).take k).flatMap (mE λx=>dI (aU p x)))=((gM p).take k++[i]).flatMap (mE λx=>dI (aU p x)):=Ao (λx=>dI (aU p x)) i _ hfr;have e4:((gM p).take k).length+1=((gM p).take k++[i]).length:=by grind
  rw[El _ _ _ hfr,e1,e4];exact h3
 .obtain rfl:k=p.ae.length:=Q0;have e:(gM p).take p.ae.length=gM p:=Rj (by grind);rw[e,p0];simp only[aj];refine aZ p.al.length (λk=>[[.sl p.al.length 6 (p.al.flatMap aI.enc)],[vI (p.al.length:Int)],[vI (k:Int)],p.enc,[dM (λx=>dI (aU p x)) (gM p)],[dM (λx=>dI (bF p x)) ((p.al.map aI.id).take k)],[fh l]]) (λ_=>True) trivial Q3 λk kH hi2 _ hn2=>?_;have hlk2:((p.al.map aI.id).take k).length=k:=by grind
  simp only[aj,p1];refine⟨λh2=>?_,λh2=>?_⟩
  .have hk:k<p.al.length:=Q0;have h3:=hn2 hk trivial;have hki:k<(p.al.map aI.id).length:=by grind
   have hke:(p.al.map aI.id)[k]=p.al[k].id:=by grind
   have hfr:(p.al.map aI.id)[k] ∉ (p.al.map aI.id).take k:=λhin=>by
    have e2:p.al.map aI.id=(p.al.map aI.id).take k++(p.al.map aI.id)[k]::(p.al.map aI.id).drop (k+1):=by rw[<-S1 hki,SF]
    grind
   rw[Qv hki]at h3;rw[yw _ hk];rw[hke]at h3 hfr;have hmk:=nk hnm hk;have hlu:=hmu _ (QB hk);have s0:sub (p.al[k]).enc 0 3=(p.al[k]).id.enc:=rfl;have s4:cell (p.al[k]).enc 4=dI (p.al[k]).bP:=rfl;rw[s0,s4];generalize p.al[k]=m at h3 hfr hmk hlu ⊢;refine⟨Q0,aa (C.ids _ Q0) ?_⟩;simp only[aj,aG];refine⟨Qa,Q4,?_⟩;have e1:cS 4 m.id.aD m.id.seq m.id.index [dI (bF p m.id)] ((p.al.map aI.id).take k).length (((p.al.map aI.id).take k).flatMap (mE λx=>dI (bF p x)))=((p.al.map aI.id).take k++[m.id]).flatMap (mE λx=>dI (bF p x)):=Ao (λx=>dI (bF p x)) m.id _ hfr;have e4:((p.al.map aI.id).take k).length+1=((p.al.map aI.id).take k++[m.id]).length:=by grind
   have e5:D.sl (m.bP.length+1) 3 (m.bP.flatMap ar.enc++(m.id.enc++[]))=dI (bF p m.id):=by grind
   rw[El _ _ _ hfr,e5,e1,e4];exact h3
  .obtain rfl:k=p.al.length:=Q0;have e:(p.al.map aI.id).take p.al.length=p.al.map aI.id:=Rj (by grind);rw[e];refine aZ p.ae.length (λk=>[[.sl p.ae.length 31 (p.ae.flatMap aq.enc)],[vI (p.ae.length:Int)],[vI (k:Int)],p.enc,[dM (λx=>dI (aU p x)) (gM p)],[dM (λx=>dI (bF p x)) (p.al.map aI.id)],[fh (l++(p.ae.take k).flatMap (ku p))]]) (λ_=>True) trivial (by grind) λk IX hi3 _ hn3=>?_;have hlen:((p.ae.take k).flatMap (ku p)).length<=k*200000:=by
    have key:∀q:List aq,(q.flatMap (ku p)).length<=q.length*200000:=λq=>by
     induction q with
     |nil=>simp
     |cons d q ih =>
      have h5:(ku p d).length<=200000:=by
       have:=Ai p d;have:=vz d.id;unfold ku
       grind
      rw[QD,QC,QG,RA];omega
    grind
   have hll:(l++(p.ae.take k).flatMap (ku p)).length<=2000000000:=by
    grind
   simp only[aj,p1];refine⟨λh=>?_,λh=>?_⟩
   .have hk:k<p.ae.length:=Q0;have h3:=hn3 hk trivial;rw[Qv hk,QV,QD,Ro,QF,<-QU]at h3;rw[gw _ hk];generalize l++(p.ae.take k).flatMap (ku p)=l2 at hll h3 ⊢;generalize p.ae[k]=d at h3 ⊢;have s0:sub d.enc 0 3=d.id.enc/\sub d.enc 4 3=d.mod.enc:=⟨rfl,rfl⟩;have q1:∀i:ar,cell i.enc 0=vI i.aD/\cell i.enc 1=vI i.seq/\cell i.enc 2=vI i.index:=λi=>⟨rfl,rfl,rfl⟩;have fu:∀i:ar,(bu 4 i.aD i.seq i.index (gM p).length ((gM p).flatMap (mE λx=>dI (aU p x)))).getD [.sl 0 3 []]=[dI (aU p i)]:=λi=>Ju (aU p) i _ zz;have fm:∀i:ar,(bu 4 i.aD i.seq i.index (p.al.map aI.id).length ((p.al.map aI.id).flatMap (mE λx=>dI (bF p x)))).getD [.sl 0 3 []]=[dI (bF p i)]:=λi=>Ju (bF p) i _ B7;simp only[aj,s0,q1,fu];refine⟨Q0,?_⟩;have hu:=vz d.id;refine aZ (aU p d.id).length (λj=>[[.sl p.ae.length 31 (p.ae.flatMap aq.enc)],[vI (p.ae.length:Int)],[vI (k:Int)],[dI (aU p d.id)],[vI ((aU p d.id).length:Int)],[vI (j:Int)],p.enc,[dM (λx=>dI (aU p x)) (gM p)],[dM (λx=>dI (bF p x)) (p.al.map aI.id)],d.enc,[fh (l2++((aU p d.id).take j).flatMap λx=>if(an p x).mod∈bF p d.mod then[] else[⟨11,d.id,1⟩])]]) (λ_=>True) trivial (by grind) λj next4 hi4 _ hn4=>?_;have hlj:(((aU p d.id).take j).flatMap λx=>if(an p x).mod∈bF p d.mod then[] else[(⟨11,d.id,1⟩:cJ)]).length<=j:=by
     have key:∀q:List ar,(q.flatMap λx=>if(an p x).mod∈bF p d.mod then[] else[(⟨11,d.id,1⟩:cJ)]).length<=q.length:=λq=>by
      induction q with
      |nil=>simp
      |cons x q ih =>
       have h1:(if(an p x).mod∈bF p d.mod then[] else[⟨11,d.id,1⟩]:List cJ).length<=1:=by split <;> simp
       rw[QD,QC,QG];omega
     grind
    have hml:(bF p d.mod).length<=2000:=by
     unfold bF;split
     .grind
     .simp
    simp only[aj,hpe,s0,q1,fu,fm];refine⟨λh5=>?_,λh5=>?_⟩
    .have hj:j<(aU p d.id).length:=Q0;have h6:=hn4 hj trivial;rw[Qv hj,QV,QD,Ro,QF,<-QU]at h6;rw[eK _ hj];refine⟨Q0,aa (pN p _ Q0) ?_⟩;have k4:∀y:aq,sub y.enc 4 3=y.mod.enc:=λy=>rfl;simp only[aj,k4];refine aa (Cs _ _ Q0) ?_;by_cases hc:(an p (aU p d.id)[j]).mod∈bF p d.mod
     .rw[J2 hc,QF]at h6;rw[J5 hc];simp only[aj,Ry];exact⟨Q4,h6⟩
     .rw[J1 hc]at h6;rw[J6 hc];simp only[aj,Sj];refine aa (o0 11 1 d.id _ _ _ (by grind)) ?_;simp only[aj];exact⟨Q4,h6⟩
    .obtain rfl:j=(aU p d.id).length:=Q0;rw[Re]at hlj ⊢;have en:(aU p d.id).flatMap (λx=>if(an p x).mod∈bF p d.mod then[] else[(⟨11,d.id,1⟩:cJ)])=lz p d:=rfl;rw[en]at hlj ⊢;refine aa (C.ids _ Q0) ?_;simp only[aj];have hnl:(l2++lz p d).length<=3000000000:=by grind
     have hm0:=hU d.id;have h3':IX [[.sl p.ae.length 31 (p.ae.flatMap aq.enc)],[vI (p.ae.length:Int)],[vI ((k+1:Nat):Int)],p.enc,[dM (λx=>dI (aU p x)) (gM p)],[dM (λx=>dI (bF p x)) (p.al.map aI.id)],[fh ((l2++lz p d)++if d.id∈zi p d.id then[⟨13,d.id,14⟩] else[])]]:=by rw[QU];exact h3
     clear h3 hn4 hn2 hn hlj hn3;generalize l2++lz p d=l4 at hnl h3' ⊢;refine bC [[.sl p.ae.length 31 (p.ae.flatMap aq.enc)],[vI (p.ae.length:Int)],[vI (k:Int)],p.enc,[dM (λx=>dI (aU p x)) (gM p)],[dM (λx=>dI (bF p x)) (p.al.map aI.id)],d.enc,[ig (zi p d.id)],[fh l4]] ?_ ?_
     .refine dG (σ:=List ar×List ar) (λx=>[[.sl p.ae.length 31 (p.ae.flatMap aq.enc)],[vI (p.ae.length:Int)],[vI (k:Int)],p.enc,[dM (λx=>dI (aU p x)) (gM p)],[dM (λx=>dI (bF p x)) (p.al.map aI.id)],d.enc,[ig x.1],[dI x.2],[fh l4]]) (λx=>mu p x.1 x.2)
       (λx=>iB p (mu p x.1 x.2) x.1 x.2=zi p d.id/\mu p x.1 x.2<=1000000000) ([],aU p d.id) ⟨rfl,hm0⟩ rfl ?_
      rintro⟨S,T⟩ next5 ⟨hI,hmS⟩ hn5;simp only at hI hmS;cases T with
      |nil=>rw[F9]at hI;simp only[aj,hpe];refine⟨λh=>J3 h Q1,λ_=>?_⟩;rw[hI]
      |cons x T =>
       have he:el ((x::T).flatMap ar.enc) 3 0=x.enc:=eK (x::T) (Yk _);have fs:=qQ (λ_=>vB true) x S;simp only[aj,hpe,he,q1,fu,fs];refine⟨λ_=>?_,λh=>J3 (show(0:Int)<((x::T).length:Int) by grind) h⟩;have hlt:0<(x::T).length:=Yk _;refine⟨⟨Q0,Q0⟩,⟨Q0,Q0,Q0,Q0⟩,?_⟩;by_cases hx:x∈S
       .rw[J2 hx];simp only[aj,TC,Ry]
        have h7:=hn5 (S,T) (by show mu p S T<mu p S (x::T);rw[GB];omega) ⟨by
         show iB p (mu p S T) S T=_;rw[GB,iB,J2 hx]at hI
         exact hI,by show mu p S T<=_;rw[GB]at hmS;omega⟩
        rw[C4];exact h7
       .rw[J1 hx];have emu:=mu_new hnd T hx;simp only[aj,XQ,Sj];rw[C4];have hbd:(T++aU p x).length<=mu p (S++[x]) (T++aU p x):=by unfold mu;omega
        have h7:=hn5 (S++[x],T++aU p x) (by grind) ⟨by
         show iB p (mu p (S++[x]) (T++aU p x)) (S++[x]) (T++aU p x)=_;rw[emu,iB,J1 hx]at hI
         exact hI,by grind⟩
        have e1:cS 4 x.aD x.seq x.index [vB true] S.length (S.flatMap (mE λ_=>vB true))=(S++[x]).flatMap (mE λ_=>vB true):=Ao (λ_=>vB true) x S hx;have e4:S.length+1=(S++[x]).length:=by simp_all
        rw[El _ _ _ hx,e1,e4];refine⟨λh0=>?_,λh0=>⟨by unfold aO;rw[QC]at hbd;rw[QG];omega,?_⟩⟩
        .have hz:aU p x=[]:=Rg h0;rw[hz,QF]at h7;exact h7
        .have e6:dI (T++aU p x)=D.sl ((x::T).length-1+(aU p x).length) 3 (T.flatMap ar.enc++(aU p x).flatMap ar.enc):=by rw[<-dI_app];rfl
         simp only[e6]at h7;exact h7
     .have hfd:((bu 4 d.id.aD d.id.seq d.id.index (zi p d.id).length ((zi p d.id).flatMap (mE λ_=>vB true))).getD [vB false])=[vB (decide (d.id∈zi p d.id))]:=by
       rw[qQ];by_cases hi:d.id∈zi p d.id
       .rw[J2 hi,J5 hi];rfl
       .rw[J1 hi,J6 hi];rfl
      simp only[aj,hpe,s0,q1,hfd];refine⟨λhi=>?_,λhi=>?_⟩
      .rw[J2 hi]at h3';refine aa (o0 13 14 d.id _ _ l4 Q0) ?_;simp only[aj];exact⟨Q4,h3'⟩
      .rw[J1 hi,QF]at h3';exact⟨Q4,h3'⟩
   .obtain rfl:k=p.ae.length:=Q0;rw[Re];rfl
 deriving instance DecidableEq for cJ
theorem AO(xs:List cJ){k:Nat}(hk:k<xs.length):el (xs.flatMap cJ.enc) 6 k=xs[k].enc:=dE cJ.aP xs hk
theorem cfs_set(R:List cJ){i:Nat}(hi:i<R.length)(x:cJ):cQ (R.flatMap cJ.enc) (i*6+0) x.enc=(R.set i x).flatMap cJ.enc:=by rw[RY,rr cJ.aP R hi]
theorem dCf_cut{R:List cJ}{i:Nat}(hi:i<=R.length)(z:List D):D.sl i 6 (sub (cQ (R.flatMap cJ.enc) ((0+i)*6) z) (0*6) (i*6))=fh (R.take i):=by
 unfold fh;rw[Rf,RU hi]
 congr 1
 unfold sub cQ;rw[Rn,TP,RR,je cJ.aP];have hl:((R.take i).flatMap cJ.enc).length=i*6:=by
  have key:∀T:List cJ,(T.flatMap cJ.enc).length=T.length*6:=λT=>by
   induction T with
   |nil=>rfl
   |cons y T ih=>rw[QD,QC,ih,cJ.aP,QG];omega
  grind
 grind
theorem Pv(a b:cJ):IS s59 [a.enc,b.enc] [[vB (decide (a=b))]]:=by refine w59.is ?_;unfold g59;have e1:∀c:cJ,sub c.enc 1 3=c.on.enc/\cell c.enc 4=vI c.kind/\cell c.enc 0=vI c.code:=λc=>⟨rfl,rfl,rfl⟩;simp only[aj,aG,e1];obtain⟨c1,i1,k1⟩:=a;obtain⟨c2,i2,k2⟩:=b;simp_all
def eY:List cJ->List cJ
 |[]=>[]
 |[x]=>[x]
 |x::y::l=>if x=y then eY (y::l) else x::eY (y::l)
theorem pM(x y:cJ)(l:List cJ):eY (x::y::l)=if x=y then eY (y::l) else x::eY (y::l):=by rw[eY]
theorem E8(x:cJ):eY [x]=[x]:=rfl
theorem AT(y:cJ):∀{l:List cJ} (x:cJ),eY (l++[x]++[y])=if x=y then eY (l++[x]) else eY (l++[x])++[y]
 |[],x=>by
  simp only[Rk,Rm,pM,E8]
  grind
 |[a],x=>by
  simp only[Rk,Rm,pM,E8]
  grind
 |a::b::l,x=>by
  have h:=AT y (l:=b::l) x;simp only[Rm]at h ⊢;rw[pM,pM,h]
  grind
theorem AS{l:List cJ}{k:Nat}(h1:1<=k)(hk:k<l.length):eY (l.take (k+1))=if l[k-1]'Q0=l[k]then eY (l.take k) else eY (l.take k)++[l[k]]:=by
 have e:l.take k=l.take (k-1)++[l[k-1]'Q0]:=by simp_all
 rw[Qv hk,e];exact AT _ _
theorem Fg(l:List cJ)(hl:l.length<=1000000000000):IS Ip [[fh l]] [[fh (eY l)]]:=by
 refine w58_1.isG ?_;unfold g58_1;simp only[aj];refine⟨λh=>?_,λh=>?_⟩
 .match l,h with
  |[],_=>rfl
  |[x],_=>rfl
  |_::_::l,h=>simp at h;omega
 .refine dG (σ:=Nat) (λk=>[[vI (k:Int)],[fh l]]) (λk=>l.length-k) (λk=>1<=k/\k<=l.length/\eY (l.take k)=l.take k) 1 ⟨QW _,Q0,by
   match l,h with
   |[],_=>rfl
   |[x],_=>rfl
   |x::_::l,_=>rfl⟩ rfl ?_
  rintro k next ⟨h1,h2,h3⟩ hn
  simp only[aj];refine⟨λh=>?_,λh=>?_⟩
  .have hk:k<l.length:=Q0;have ek:((k:Int)-1).toNat=k-1:=Q0;have hst:=AS h1 hk;rw[ek,AO _ hk,AO _ (show k-1<l.length by omega)];refine⟨Q0,Q4,Q0,aa (Pv _ _) ?_⟩;simp only[aj];refine⟨λe=>⟨Q0,?_⟩,λe=>⟨Q4,?_⟩⟩
   .rw[J2 e.symm]at hst;refine dG (σ:=Nat×List cJ) (λs=>[[vI ((eY (l.take (k+s.1))).length:Int)],[vI (k:Int),vI ((l.length-k:Nat):Int)],[vI (s.1:Int)],[fh s.2]]) (λs=>l.length-s.1)
     (λs=>1<=s.1/\k+s.1<=l.length/\s.2.length=l.length/\s.2.take (eY (l.take (k+s.1))).length=eY (l.take (k+s.1))/\s.2.drop (k+s.1-1)=l.drop (k+s.1-1)/\(eY (l.take (k+s.1))).length<=k+s.1-1) (1,l) ⟨QW _,hk,rfl,by grind,rfl,by grind⟩ (by
      show _=[[vI ((eY (l.take (k+1))).length:Int)],[vI (k:Int),vI ((l.length-k:Nat):Int)],[vI ((1:Nat):Int)],[fh l]]
      rw[hst,h3,Rf,RU Q0,Rn];rfl) ?_
    rintro⟨j,R⟩ next ⟨q1,q2,q3,q4,q5,q6⟩ hn
    dsimp only at q1 q2 q3 q4 q5 q6 hn ⊢;simp only[aj];refine⟨λh=>?_,λh=>?_⟩
    .have hj:k+j<l.length:=Q0;have ej:((j:Int)-1).toNat=j-1:=Q0;have hR1:R[k+j]'Q0=l[k+j]:=by
      have h6:(R.drop (k+j-1))[1]'Qc=(l.drop (k+j-1))[1]'Qc:=by grind
      simpa[show k+j-1+1=k+j by omega]using h6
     have hR2:R[k+j-1]'Q0=l[k+j-1]:=by
      have h6:(R.drop (k+j-1))[0]'Qc=(l.drop (k+j-1))[0]'Qc:=by grind
      simpa using h6
     have hst:=AS (l:=l) (k:=k+j) Q0 hj;refine hY ?_;rw[ej,AO _ (show k+j<R.length by omega),show k+(j-1)=k+j-1 by omega,AO _ (show k+j-1<R.length by omega),hR1,hR2];have hd:R.drop (k+(j+1)-1)=l.drop (k+(j+1)-1):=by have:=J4 (Sr 1) q5;rwa [SE,SE,show k+j-1+1=k+(j+1)-1 by omega]at this
     refine⟨Q0,Q4,Q0,aa (Pv _ _) ?_⟩;simp only[aj,aG];refine⟨λe2=>?_,λe2=>?_⟩
     .rw[J2 e2.symm]at hst;have:=hn (j+1,R) Q0 ⟨Q0,Q0,q3,by grind,hd,by dsimp only;rw[<-RW,hst];omega⟩;dsimp only at this;rw[<-RW,hst]at this;exact⟨Q4,this⟩
     .rw[J1 (λe3=>e2 e3.symm)]at hst;rw[cfs_set R Q0]
      have:=hn (j+1,R.set (eY (l.take (k+j))).length l[k+j]) Q0 ⟨Q0,Q0,by grind,by
       dsimp only;rw[<-RW,hst,QC,TA];rw[Qv (by grind),List.take_set_of_le (QW _),q4]
       simp,by dsimp only;rw[List.drop_set_of_lt Q0];exact hd,by dsimp only;rw[<-RW,hst];simp;omega⟩
      dsimp only at this;rw[<-RW,hst,QC,TA]at this;simp only[fh,Sl]at this ⊢;exact⟨Q0,Q0,Q4,Q4,this⟩
    .have ej:k+j=l.length:=Q0;rw[ej,Re]at q4 q6 ⊢;have hc:=dCf_cut (R:=R) (i:=(eY l).length) Q0 ((QY (R.length-(eY l).length) [vI 0,vI 0,vI 0,vI 0,vI 0,.sl 0 3 []]).flatten);rw[q4]at hc;refine⟨Q0,⟨trivial,Q0,Q0⟩,Q0,?_⟩;rw[<-hc]
   .rw[J1 (λe2=>e e2.symm)]at hst;exact hn (k+1) Q0 ⟨Q0,hk,by simp_all⟩
  all_goals grind
def tp(a b:cJ):Bool:=gZ a.on b.on || decide (a.on=b.on) && (decide (a.kind<b.kind) || decide (a.kind=b.kind) && decide (a.code<b.code))
def eE(l:List cJ):List cJ:=l.mergeSort λx y=>!tp y x
def cy(p:av)(ss:List aC):List cJ:=ss.flatMap λs=>if cr p s.ty then[] else[⟨14,s.id,9⟩]
def yz(wd:ByteArray->Bool)(p:av)(d:aq):List cJ :=
 cy p d.ah++eU wd (d.ah.map aC.id) (d.ah.map aC.name) (d.ah.map aC.name).length++if fR d.kind then(if cr p d.au then[] else[⟨14,d.id,10⟩])++fa wd p d.body (iT d) else[]
def zh(wd:ByteArray->Bool)(p:av)(m:aI):List cJ:=eU wd m.ae (m.ae.map λi=>(an p i).name) (m.ae.map λi=>(an p i).name).length
def Eg(wd:ByteArray->Bool)(p:av):List cJ:=eU wd (p.al.map aI.id) (p.al.map aI.name) (p.al.map aI.name).length
def gn(wd:ByteArray->Bool)(p:av):List cJ:=Eg wd p++p.al.flatMap (zh wd p)++p.ae.flatMap (yz wd p)++wE p
structure HD(wd:ByteArray->Bool)(p:av):Prop where
 H8:Bh p
 nd:(gM p).Nodup
 nm:(p.al.map aI.id).Nodup
 ml:p.al.length<=1000
 mlen:∀m∈p.al,m.bP.length<=1000/\m.ae.length<=1000
 sl:∀d∈p.ae,d.ah.length<=1000/\d.body.wt<=100000
 hU:∀i,mu p [] (aU p i)<=1000000000
 vz:∀i,(aU p i).length<=100000
 wm:∀m∈p.al,IS qD [[bM m.name]] [[vB (wd m.name)]]
 wdef:∀m∈p.al,∀i∈m.ae,IS qD [[bM (an p i).name]] [[vB (wd (an p i).name)]]
 ws:∀d∈p.ae,∀s∈d.ah,IS qD [[bM s.name]] [[vB (wd s.name)]]
 wn:∀d∈p.ae,fR d.kind=true->∀x∈cL d.body,∀b∈x.aK,IS qD [[bM b]] [[vB (wd b)]]
theorem oQ{α:Type}(f:α->List cJ)(n:Nat):∀l:List α,(∀x∈l,(f x).length<=n)->(l.flatMap f).length<=l.length*n
 |[],_=>by simp
 |x::l,h=>by have h1:=h x (Qt ..);have h2:=oQ f n l λy hy=>h y (Qx _ hy);rw[QD,QC,QG,RA];omega
theorem wV(p:av)(ss:List aC):(cy p ss).length<=ss.length:=by
 have:=oQ (λs:aC=>if cr p s.ty then[] else[⟨14,s.id,9⟩]) 1 ss λs _=>by grind
 rw[Td]at this;exact this
theorem DP{wd:ByteArray->Bool}(C:gE)(hS:uE)(hcat:∀a b:List fi,a.length+b.length<=100000000000->IS Ko [[.sl 2 1 [dV a,dV b]]] [[dV (a++b)]])
  (hsort:∀l:List cJ,l.length<=10000000000->IS Iq [[fh l]] [[fh (eE l)]]) {p:av} (hf:IS s44 [p.enc] [[.sl 0 6 []]]) (H:HD wd p):IS Mx [p.enc] [[fh (eY (eE (gn wd p)))]]:=by
 have hpe:[cell p.enc 0,cell p.enc 1]=p.enc:=rfl;have p0:cell p.enc 0=.sl p.al.length 6 (p.al.flatMap aI.enc):=rfl;have p1:cell p.enc 1=.sl p.ae.length 31 (p.ae.flatMap aq.enc):=rfl;have hdl:=H.H8.d;have hml:=H.ml;refine w12.is ?_;unfold g12;refine aa hf ?_;simp only[aj];refine⟨λh=>J3 h Q1,λ_=>?_⟩;rw[p0];refine bC [p.enc,p.enc,[dI (p.al.map aI.id)],[j5 (p.al.map aI.name)],[fh []]] ?_ ?_
 .simp only[aj];refine aZ p.al.length (λk=>[[.sl p.al.length 6 (p.al.flatMap aI.enc)],[vI (p.al.length:Int)],[vI (k:Int)],p.enc,p.enc,[dI ((p.al.take k).map aI.id)],[j5 ((p.al.take k).map aI.name)],[fh []]]) (λ_=>True) trivial Q3 λk next hi _ hn=>?_
  have l1:((p.al.take k).map aI.id).length=k:=by grind
  have l2:((p.al.take k).map aI.name).length=k:=by grind
  simp only[aj];refine⟨λh=>?_,λh=>?_⟩
  .have hk:k<p.al.length:=Q0;have h3:=hn hk trivial;rw[Qv hk,Rb,Rb,QT,QT,R5,R5,<-j6]at h3;rw[yw _ hk];have s0:sub (p.al[k]).enc 0 3=(p.al[k]).id.enc:=rfl;have s1:cell (p.al[k]).enc 3=bM (p.al[k]).name:=rfl;rw[s0,s1];refine⟨Q0,Qa,Qa,Q4,?_⟩;have e:j5 ((p.al.take k).map aI.name++[(p.al[k]).name])=D.sl (((p.al.take k).map aI.name).length+1) 1 (((p.al.take k).map aI.name).map bM++[bM (p.al[k]).name]):=by simp_all
   rw[e]at h3;exact h3
  .obtain rfl:k=p.al.length:=Q0;rw[Re];rfl
 .simp only[aj];have lm1:(p.al.map aI.name).length=p.al.length:=QS ..;have nl:=jd wd (p.al.map aI.id) (p.al.map aI.name) (p.al.map aI.name).length;refine aa (ud (λb hb=>by obtain⟨m,hm,rfl⟩:=QP.1 hb;exact H.wm m hm) (p.al.map aI.id) (by grind) Q0 _ _ [] Q2) ?_;rw[Rk];have e1:eU wd (p.al.map aI.id) (p.al.map aI.name) (p.al.map aI.name).length=Eg wd p:=rfl;rw[e1]at nl ⊢;simp only[aj,p0];have hl0:(Eg wd p).length<=1000:=Q0;generalize hc0:Eg wd p=c0 at hl0 ⊢;refine aZ p.al.length (λk=>[[.sl p.al.length 6 (p.al.flatMap aI.enc)],[vI (p.al.length:Int)],[vI (k:Int)],p.enc,p.enc,[fh (c0++(p.al.take k).flatMap (zh wd p))]]) (λ_=>True) trivial (by grind) λk next hi _ hn=>?_
  have hmf:∀m∈p.al,(zh wd p m).length<=1000:=λm hm=>by have:=jd wd m.ae (m.ae.map λi=>(an p i).name) (m.ae.map λi=>(an p i).name).length;have h2:=(H.mlen m hm).2;have h3:(m.ae.map λi=>(an p i).name).length=m.ae.length:=QS ..;unfold zh;omega
  have hl1:=oQ (zh wd p) 1000 (p.al.take k) λm hm=>hmf m ((Yc _ _) hm);have hkl:(p.al.take k).length<=1000:=by grind
  have hl2:(c0++(p.al.take k).flatMap (zh wd p)).length<=1001000:=by
   grind
  simp only[aj,hpe];refine⟨λh=>?_,λh=>?_⟩
  .have hk:k<p.al.length:=Q0;have hmm:=QB hk;have h3:=hn hk trivial;have hw:=H.wdef _ hmm;have hlm:=(H.mlen _ hmm).2;rw[Qv hk,QV,QD,Ro,QF,<-QU]at h3;rw[yw _ hk];generalize p.al[k]=m at h3 hw hlm ⊢;have s5:cell m.enc 5=dI m.ae:=rfl;rw[s5];refine⟨Q0,?_⟩;generalize c0++(p.al.take k).flatMap (zh wd p)=c1 at hl2 h3 ⊢;refine bC [[.sl p.al.length 6 (p.al.flatMap aI.enc)],[vI (p.al.length:Int)],[vI (k:Int)],p.enc,p.enc,m.enc,[j5 (m.ae.map λi=>(an p i).name)],[fh c1]] ?_ ?_
   .simp only[aj];refine aZ m.ae.length (λj=>[[.sl p.al.length 6 (p.al.flatMap aI.enc)],[vI (p.al.length:Int)],[vI (k:Int)],[dI m.ae],[vI (m.ae.length:Int)],[vI (j:Int)],p.enc,p.enc,m.enc,[j5 ((m.ae.take j).map λi=>(an p i).name)],[fh c1]]) (λ_=>True) trivial Q3 λj kH hj _ hn2=>?_;have hlj:((m.ae.take j).map λi=>(an p i).name).length=j:=by grind
    simp only[aj,hpe];refine⟨λh5=>?_,λh5=>?_⟩
    .have hj2:j<m.ae.length:=Q0;have h6:=hn2 hj2 trivial;rw[Qv hj2,Rb,QT,R5]at h6;rw[eK _ hj2];refine⟨Q0,aa (pN p _ Q0) ?_⟩;have s7:∀d:aq,cell d.enc 7=bM d.name:=λd=>rfl;simp only[aj,s7];refine⟨Qa,Q4,?_⟩;have e:j5 ((m.ae.take j).map (λi=>(an p i).name)++[(an p m.ae[j]).name])=D.sl (((m.ae.take j).map λi=>(an p i).name).length+1) 1 (((m.ae.take j).map λi=>(an p i).name).map bM++[bM (an p m.ae[j]).name]):=by simp_all
     rw[e]at h6;exact h6
    .obtain rfl:j=m.ae.length:=Q0;rw[Re]
   .simp only[aj,hpe,s5];refine aa (ud (λb hb=>by obtain⟨i,hi,rfl⟩:=QP.1 hb;exact hw i hi) m.ae (by grind) (by grind) _ _ c1 Q0) ?_;simp only[aj];exact⟨Q4,h3⟩
  .obtain rfl:k=p.al.length:=Q0;rw[Re]at hl2 ⊢;simp only[aj,p1];generalize hc2:c0++p.al.flatMap (zh wd p)=c2 at hl2 ⊢;clear hn hl1 hkl;refine aZ p.ae.length (λk=>[[.sl p.ae.length 31 (p.ae.flatMap aq.enc)],[vI (p.ae.length:Int)],[vI (k:Int)],p.enc,p.enc,[fh (c2++(p.ae.take k).flatMap (yz wd p))]]) (λ_=>True) trivial (by grind) λk IX hi3 _ hn3=>?_;have hdf:∀d∈p.ae,(yz wd p d).length<=400000:=λd hd=>by
    have h1:=H.sl d hd;have h2:=wV p d.ah;have h3:=jd wd (d.ah.map aC.id) (d.ah.map aC.name) (d.ah.map aC.name).length;have h4:(d.ah.map aC.name).length=d.ah.length:=QS ..;have h5:=yJ wd p d.body (iT d);unfold yz;rw[QC,QC];split
    .rw[QC];have h6:(if cr p d.au then[] else[⟨14,d.id,10⟩]:List cJ).length<=1:=by split <;> simp
     omega
    all_goals grind
   have hl1:=oQ (yz wd p) 400000 (p.ae.take k) λd hd=>hdf d ((Yc _ _) hd);have hkl:(p.ae.take k).length<=1000:=by grind
   have hl3:(c2++(p.ae.take k).flatMap (yz wd p)).length<=500000000:=by
    grind
   simp only[aj,hpe];refine⟨λh=>?_,λh=>?_⟩
   .have hk:k<p.ae.length:=Q0;have hdm:=QB hk;have h3:=hn3 hk trivial;have hsl:=H.sl _ hdm;have hws:=H.ws _ hdm;have hwn:=H.wn _ hdm;rw[Qv hk,QV,QD,Ro,QF,<-QU]at h3;rw[gw _ hk];generalize p.ae[k]=d at h3 hsl hws hwn ⊢;generalize c2++(p.ae.take k).flatMap (yz wd p)=c3 at hl3 h3 ⊢;have d8:cell d.enc 8=.sl d.ah.length 11 (d.ah.flatMap aC.enc):=rfl;have d9:sub d.enc 9 5=d.au.enc:=by rw[Ty.aF];rfl
    have d0:sub d.enc 0 3=d.id.enc:=rfl;have hst:∀j,(c3++cy p (d.ah.take j)).length<=500001000:=λj=>by have h1:=wV p (d.ah.take j);rw[QC];rw[Rf]at h1;omega
    simp only[d8];refine⟨Q0,?_⟩;refine bC [[.sl p.ae.length 31 (p.ae.flatMap aq.enc)],[vI (p.ae.length:Int)],[vI (k:Int)],p.enc,p.enc,d.enc,[dI (d.ah.map aC.id)],[j5 (d.ah.map aC.name)],[fh (c3++cy p d.ah)]] ?_ ?_
    .simp only[aj];refine aZ d.ah.length (λj=>[[.sl p.ae.length 31 (p.ae.flatMap aq.enc)],[vI (p.ae.length:Int)],[vI (k:Int)],[.sl d.ah.length 11 (d.ah.flatMap aC.enc)],[vI (d.ah.length:Int)],[vI (j:Int)],p.enc,p.enc,d.enc,[dI ((d.ah.take j).map aC.id)],[j5 ((d.ah.take j).map aC.name)],[fh (c3++cy p (d.ah.take j))]]) (λ_=>True) trivial (by rw[Sz];unfold cy;rw[Ro,QF];rfl) λj next4 hj _ hn4=>?_;have l1:((d.ah.take j).map aC.id).length=j:=by simp_all
     have l2:((d.ah.take j).map aC.name).length=j:=by grind
     have hst2:=hst j;simp only[aj,hpe];refine⟨λh5=>?_,λh5=>?_⟩
     .have hj2:j<d.ah.length:=Q0;have h6:=hn4 hj2 trivial;have esl:cy p (d.ah.take (j+1))=cy p (d.ah.take j)++if cr p d.ah[j].ty then[] else[⟨14,d.ah[j].id,9⟩]:=by unfold cy;rw[Qv hj2,QV,QD,Ro,QF]
      rw[esl,<-QU,Qv hj2,Rb,Rb,QT,QT,R5,R5,<-j6]at h6;have e:j5 ((d.ah.take j).map aC.name++[(d.ah[j]).name])=D.sl (((d.ah.take j).map aC.name).length+1) 1 (((d.ah.take j).map aC.name).map bM++[bM (d.ah[j]).name]):=by simp_all
      rw[e]at h6;rw[oU _ hj2];generalize d.ah[j]=x at h6 ⊢;have x0:sub x.enc 0 3=x.id.enc:=rfl;have x3:cell x.enc 3=bM x.name:=rfl;have x4:sub x.enc 4 5=x.ty.enc:=by rw[Ty.aF];rfl
      simp only[x0,x3,x4];refine⟨Q0,Qa,Qa,aa (tr Q0 x.ty) ?_⟩;by_cases hv:cr p x.ty
      .rw[J2 hv,QF (c3++cy p (d.ah.take j))]at h6;rw[J5 hv];simp only[aj,Ry];exact⟨Q4,h6⟩
      .rw[J1 hv]at h6;rw[J6 hv];simp only[aj,Sj];refine aa (o0 14 9 x.id _ _ _ Q0) ?_;simp only[aj];exact⟨Q4,h6⟩
     .obtain rfl:j=d.ah.length:=Q0;rw[Re]
    .have hst3:=hst d.ah.length;rw[Re]at hst3;simp only[aj,hpe,d0,d9];have ll:(d.ah.map aC.name).length=d.ah.length:=QS ..;have nl:=jd wd (d.ah.map aC.id) (d.ah.map aC.name) (d.ah.map aC.name).length;refine aa (ud (λb hb=>by obtain⟨x,hx,rfl⟩:=QP.1 hb;exact hws x hx) (d.ah.map aC.id) (by grind) Q0 _ _ _ Q0) ?_;simp only[aj];refine aa (yH d) ?_;have eb:decide (lF d.kind)=fR d.kind:=rfl;rw[eb];unfold yz at h3;rw[<-QU,<-QU]at h3;have hl5:(c3++cy p d.ah++eU wd (d.ah.map aC.id) (d.ah.map aC.name) (d.ah.map aC.name).length).length<=500003000:=by grind
     generalize c3++cy p d.ah++eU wd (d.ah.map aC.id) (d.ah.map aC.name) (d.ah.map aC.name).length=c4 at hl5 h3 ⊢;cases hB:fR d.kind with
     |false=>rw[hB]at h3;simp only[Uk,if_false,QF]at h3;simp only[aj];exact⟨Q4,h3⟩
     |true =>
      rw[hB]at h3;simp only[if_true,<-QU]at h3;simp only[aj];have hl6:(c4++if cr p d.au then[] else[⟨14,d.id,10⟩]:List cJ).length<=500004000:=by
       rw[QC];have h6:(if cr p d.au then[] else[⟨14,d.id,10⟩]:List cJ).length<=1:=by split <;> simp
       omega
      refine bC [[.sl p.ae.length 31 (p.ae.flatMap aq.enc)],[vI (p.ae.length:Int)],[vI (k:Int)],p.enc,p.enc,d.enc,[fh (c4++if cr p d.au then[] else[⟨14,d.id,10⟩])]] ?_ ?_
      .refine aa (tr Q0 d.au) ?_;by_cases hv:cr p d.au
       .rw[J2 hv,QF,J5 hv];simp only[aj,Ry];rfl
       .rw[J1 hv,J6 hv];simp only[aj,Sj];refine aa (o0 14 10 d.id _ _ _ Q0) ?_;simp only[aj];rfl
      .simp only[aj,hpe];generalize(c4++if cr p d.au then[] else[⟨14,d.id,10⟩]:List cJ)=c5 at hl6 h3 ⊢;refine aa (body_is hcat Q0 (λi=>?_) d Q0 Q0 (hwn hB) c5 Q0) ?_
       .rcases mP p i with e|e
        .rw[e];exact Rr _
        .have:=(H.sl _ e).1;omega
       .simp only[aj,hpe];exact⟨Q4,h3⟩
   .obtain rfl:k=p.ae.length:=Q0;rw[Re]at hl3 ⊢;refine aa (ME C hS H.H8 H.nd H.nm H.ml (λm hm=>(H.mlen m hm).1) H.hU H.vz _ Q0) ?_;have epr:c2++p.ae.flatMap (yz wd p)++wE p=gn wd p:=by rw[<-hc2,<-hc0];rfl
    rw[epr];simp only[aj];have hul2:(wE p).length<=200000000:=by
     have h5:=oQ (ku p) 200000 p.ae λd hd=>by
      have:=Ai p d;have:=H.vz d.id;unfold ku;rw[QC];have h1:(if d.id∈zi p d.id then[⟨13,d.id,14⟩] else[]:List cJ).length<=1:=by split <;> simp
      omega
     have:p.ae.length*200000<=1000*200000:=Rz _ hdl;unfold wE;omega
    have hpl:(gn wd p).length<=10000000000:=by grind
    refine aa (hsort _ hpl) ?_;simp only[aj];have hsl:(eE (gn wd p)).length=(gn wd p).length:=by unfold eE;exact Xn ..
    refine aa (Fg _ Q0) ?_;simp only[aj]
open Go.Shelf Go.RowKit Go.Lib Go.Sort
def Dd:TO:=⟨fun|6=>178|15=>157|14=>225|28=>209|29=>210|20=>223|21=>250|22=>251|23=>252|24=>253|25=>254|26=>255|27=>256|46=>264|47=>239|48=>240|49=>265|50=>266|57=>268|n=>n,fun|22=>65|24=>70|25=>145|3=>3|39=>207|0=>0|53=>256|55=>258|4=>4|46=>249|45=>248|50=>253|5=>5|9=>9|66=>279|70=>283|76=>293|77=>183|n=>n,fun|n=>n⟩
theorem H6:Uc Qu Dd:={
 mixed:=by kernel_rfl
 f6:=⟨Tryz.f178.name,Q1,Tryz.func178.trans (J4 some (by kernel_rfl))⟩
 f14:=⟨Tryz.f225.name,Q1,Tryz.func225.trans (J4 some (by kernel_rfl))⟩
 f15:=WB.trans (J4 some (by kernel_rfl))
 f20:=⟨Tryz.f223.name,Q1,Tryz.func223.trans (J4 some (by kernel_rfl))⟩
 f21:=⟨Tryz.f250.name,Q1,Tryz.func250.trans (J4 some (by kernel_rfl))⟩
 f22:=⟨Tryz.f251.name,Q1,Tryz.func251.trans (J4 some (by kernel_rfl))⟩
 f23:=⟨Tryz.f252.name,Q1,Tryz.func252.trans (J4 some (by kernel_rfl))⟩
 f24:=⟨Tryz.f253.name,Q1,Tryz.func253.trans (J4 some (by kernel_rfl))⟩
 f25:=⟨Tryz.f254.name,Q1,Tryz.func254.trans (J4 some (by kernel_rfl))⟩
 f26:=⟨Tryz.f255.name,Q1,Tryz.func255.trans (J4 some (by kernel_rfl))⟩
 f27:=⟨Tryz.f256.name,Q1,Tryz.func256.trans (J4 some (by kernel_rfl))⟩
 f28:=WC.trans (J4 some (by kernel_rfl))
 f29:=WD.trans (J4 some (by kernel_rfl))
 f46:=⟨Tryz.f264.name,Q1,Tryz.func264.trans (J4 some (by kernel_rfl))⟩
 f47:=WE.trans (J4 some (by kernel_rfl))
 f48:=WG.trans (J4 some (by kernel_rfl))
 f49:=⟨Tryz.f265.name,Q1,Tryz.func265.trans (J4 some (by kernel_rfl))⟩
 f50:=⟨Tryz.f266.name,Q1,Tryz.func266.trans (J4 some (by kernel_rfl))⟩
 f57:=⟨Tryz.f268.name,Q1,Tryz.func268.trans (J4 some (by kernel_rfl))⟩
 t0:=VG
 a0:=WU
 z0:=WH
 v0:=VO
 t3:=Sc
 a3:=Tw
 z3:=Tk
 v3:=SY
 t4:=Sd
 a4:=SG
 z4:=SC
 v4:=Si
 t5:=VH
 a5:=WV
 z5:=WI
 v5:=VP
 t9:=VI
 a9:=WW
 z9:=UC
 v9:=VQ
 t22:=Sb
 a22:=Tryz.isAgg65
 z22:=Tryz.sizeOf65
 v22:=Tryz.zeroValue65
 t25:=Tryz.underlying145
 a25:=Tryz.isAgg145
 z25:=Tryz.sizeOf145
 v25:=Tryz.zeroValue145
 t39:=Va
 a39:=Wn
 z39:=VV
 v39:=Vr
 t45:=Vb
 a45:=Wo
 z45:=VW
 v45:=Vs
 t46:=Vc
 a46:=Wp
 z46:=VX
 v46:=Vt
 t50:=Vd
 a50:=Wq
 z50:=VY
 v50:=Vu
 t53:=Ve
 a53:=Wr
 z53:=VZ
 v53:=Vv
 t55:=Vf
 a55:=Ws
 z55:=V0
 v55:=Vw
 t66:=Vg
 a66:=Wt
 z66:=Wa
 v66:=Vx
 t70:=Vh
 a70:=Wu
 z70:=Wb
 v70:=Vy
 t76:=Vi
 a76:=Wv
 z76:=Wc
 v76:=Vz
 t77:=Vj
 a77:=Ww
 z77:=We
 v77:=VA}
def Df:TO:=⟨fun|6=>52|15=>157|14=>156|28=>209|29=>210|20=>201|21=>202|22=>203|23=>204|24=>205|25=>206|26=>207|27=>208|46=>238|47=>239|48=>240|49=>241|50=>242|57=>261|n=>n,fun|22=>30|24=>57|25=>116|3=>3|39=>207|0=>0|53=>256|55=>258|4=>4|46=>249|45=>248|50=>253|5=>5|9=>9|66=>279|70=>283|76=>293|77=>183|n=>n,fun|n=>n⟩
theorem sortCfL:Uc Qu Df:={
 mixed:=by kernel_rfl
 f6:=⟨Tryz.f52.name,Q1,Tryz.func52.trans (J4 some (by kernel_rfl))⟩
 f14:=⟨Tryz.f156.name,Q1,Tryz.func156.trans (J4 some (by kernel_rfl))⟩
 f15:=WB.trans (J4 some (by kernel_rfl))
 f20:=⟨Tryz.f201.name,Q1,Tryz.func201.trans (J4 some (by kernel_rfl))⟩
 f21:=⟨Tryz.f202.name,Q1,Tryz.func202.trans (J4 some (by kernel_rfl))⟩
 f22:=⟨Tryz.f203.name,Q1,Tryz.func203.trans (J4 some (by kernel_rfl))⟩
 f23:=⟨Tryz.f204.name,Q1,Tryz.func204.trans (J4 some (by kernel_rfl))⟩
 f24:=⟨Tryz.f205.name,Q1,Tryz.func205.trans (J4 some (by kernel_rfl))⟩
 f25:=⟨Tryz.f206.name,Q1,Tryz.func206.trans (J4 some (by kernel_rfl))⟩
 f26:=⟨Tryz.f207.name,Q1,Tryz.func207.trans (J4 some (by kernel_rfl))⟩
 f27:=⟨Tryz.f208.name,Q1,Tryz.func208.trans (J4 some (by kernel_rfl))⟩
 f28:=WC.trans (J4 some (by kernel_rfl))
 f29:=WD.trans (J4 some (by kernel_rfl))
 f46:=⟨Tryz.f238.name,Q1,Tryz.func238.trans (J4 some (by kernel_rfl))⟩
 f47:=WE.trans (J4 some (by kernel_rfl))
 f48:=WG.trans (J4 some (by kernel_rfl))
 f49:=⟨Tryz.f241.name,Q1,Tryz.func241.trans (J4 some (by kernel_rfl))⟩
 f50:=⟨Tryz.f242.name,Q1,Tryz.func242.trans (J4 some (by kernel_rfl))⟩
 f57:=⟨Tryz.f261.name,Q1,Tryz.func261.trans (J4 some (by kernel_rfl))⟩
 t0:=VG
 a0:=WU
 z0:=WH
 v0:=VO
 t3:=Sc
 a3:=Tw
 z3:=Tk
 v3:=SY
 t4:=Sd
 a4:=SG
 z4:=SC
 v4:=Si
 t5:=VH
 a5:=WV
 z5:=WI
 v5:=VP
 t9:=VI
 a9:=WW
 z9:=UC
 v9:=VQ
 t22:=Tryz.underlying30
 a22:=Tryz.isAgg30
 z22:=Tryz.sizeOf30
 v22:=Tryz.zeroValue30
 t25:=Tryz.underlying116
 a25:=Tryz.isAgg116
 z25:=Tryz.sizeOf116
 v25:=Tryz.zeroValue116
 t39:=Va
 a39:=Wn
 z39:=VV
 v39:=Vr
 t45:=Vb
 a45:=Wo
 z45:=VW
 v45:=Vs
 t46:=Vc
 a46:=Wp
 z46:=VX
 v46:=Vt
 t50:=Vd
 a50:=Wq
 z50:=VY
 v50:=Vu
 t53:=Ve
 a53:=Wr
 z53:=VZ
 v53:=Vv
 t55:=Vf
 a55:=Ws
 z55:=V0
 v55:=Vw
 t66:=Vg
 a66:=Wt
 z66:=Wa
 v66:=Vx
 t70:=Vh
 a70:=Wu
 z70:=Wb
 v70:=Vy
 t76:=Vi
 a76:=Wv
 z76:=Wc
 v76:=Vz
 t77:=Vj
 a77:=Ww
 z77:=We
 v77:=VA}
def Mg:TO:=⟨fun|5=>57|7=>159|n=>n,fun|22=>55|3=>3|4=>4|n=>n,fun|n=>n⟩
theorem cmpEL:Xl Qu Mg:={
 mixed:=by kernel_rfl
 f5:=⟨Tryz.f57.name,Q1,Tryz.func57.trans (J4 some (by kernel_rfl))⟩
 f7:=⟨Tryz.f159.name,Q1,Tryz.func159.trans (J4 some (by kernel_rfl))⟩
 t3:=Sc
 a3:=Tw
 z3:=Tk
 v3:=SY
 t4:=Sd
 a4:=SG
 z4:=SC
 v4:=Si
 t22:=Tryz.underlying55
 a22:=Tryz.isAgg55
 z22:=Tryz.sizeOf55
 v22:=Tryz.zeroValue55}
theorem cmpE57(a b:Int)(W':QL):T8 Qu 57 #[.int .i64 a,.int .i64 b] W' λe w'=>e=.returned (.int .i64 (QJ a b))/\w'=W':=Tc cmpEL a b W'
open Xe Pm
def tr3(x:ar):Int×Int×Int:=(x.aD,x.seq,x.index)
def JD(x y:ar):Int:=Mz (tr3 x) (tr3 y)
theorem pP(a b:Int):QJ a b<0↔a<b:=by unfold QJ;omega
theorem dF(a b:Int):QJ a b=0↔a=b:=by unfold QJ;omega
theorem PH(x y:ar):JD x y<0↔gZ x y=true:=by
 unfold JD Mz tr3;dsimp only;rw[jm];by_cases h1:x.aD=y.aD
 .rw[J2 ((dF _ _).2 h1)];by_cases h2:x.seq=y.seq
  .rw[J2 ((dF _ _).2 h2),pP];omega
  .rw[J1 (λh=>h2 ((dF _ _).1 h)),pP];omega
 .rw[J1 (λh=>h1 ((dF _ _).1 h)),pP];omega
theorem PI(x y:ar):JD x y=0↔x=y:=by
 unfold JD Mz tr3;constructor
 .intro h;by_cases h1:x.aD=y.aD
  .rw[J2 ((dF _ _).2 h1)]at h;by_cases h2:x.seq=y.seq
   .rw[J2 ((dF _ _).2 h2),dF]at h;exact ar.ext' h1 h2 h
   .rw[J1 (λh=>h2 ((dF _ _).1 h)),dF]at h;exact J3 h h2
  .rw[J1 (λh=>h1 ((dF _ _).1 h)),dF]at h;exact J3 h h1
 .rintro rfl;rw[J2 ((dF _ _).2 rfl),J2 ((dF _ _).2 rfl),(dF _ _).2 rfl]
theorem qR(x y:ar):ltOf JD x y=gZ x y:=by
 unfold ltOf;cases h:gZ x y with
 |true=>exact J5 ((PH x y).2 h)
 |false=>exact J6 λh2=>by rw[(PH x y).1 h2]at h;cases h
theorem MT:SWO (ltOf JD) where
 irrefl x:=by rw[qR];exact iF x
 trans x y z h1 h2:=by rw[qR]at *;exact mn h1 h2
 ntrans x y z h1 h2:=by rw[qR]at *;exact sy h1 h2
theorem gC{M:Mem}{ds:List D}{us:List Qw}{k:Nat}{z:Int}(h:bz M ds us)(hd:ds[k]?=some (ai z)):us.toArray[k]?=some (.int .i64 z):=by
 have hk:k<ds.length:=(Se.1 hd).1;have hk2:k<us.length:=by rw[h.1];exact hk
 have h2:=h.2 k _ _ hd (QQ hk2);have h3:us[k]=.int .i64 z:=by have h4:Xe.Rd M (.v (.int .i64 z)) us[k]:=h2;unfold Xe.Rd at h4;exact h4.1
 grind
theorem pE{M:Mem}{x:ar}{v:List Qw}(h:bz M x.enc v):v=[.int .i64 x.aD,.int .i64 x.seq,.int .i64 x.index]:=by
 have hl:v.length=3:=h.1
 match v,hl with
 |[a,b,c],_=>have e0:=gC h (k:=0) (z:=x.aD) rfl;have e1:=gC h (k:=1) (z:=x.seq) rfl;have e2:=gC h (k:=2) (z:=x.index) rfl;simp at e0 e1 e2;rw[e0,e1,e2]
theorem wR{l S:List ar}(h1:S.Perm l)(h2:S.Pairwise λa b=>ltOf JD b a=false):S=jX l:=by obtain⟨h3,h4⟩:=rC l;refine TD (le:=λa b=>gZ b a=false) (λa b _ _ h5 h6=>qS h6 h5) (h2.imp λh=>by rwa [qR]at h) h3 (h1.trans h4.symm)
theorem l6:uE:=λl hl=>by
 have:=oe ar.enc (k:=3) Q1 (λ_=>rfl) JD MT (g:=55) H7 rfl rfl WJ Uy (enters_of Tryz.func55 (by kernel_rfl) rfl) (λM x y vx vy hx hy W=>by
  rw[pE hx,pE hy]
  exact IM (tr3 x) (tr3 y) W) l (jX l) (by unfold lim;omega) λS=>wR
 exact this
theorem Kd(l:List ar)(hl:l.length<=1000000000000):IS Dv [[dI l]] [[dI (jX l)]]:=by
 have:=oe ar.enc (k:=3) Q1 (λ_=>rfl) JD MT (g:=95) H7 rfl rfl WJ Uy (enters_of WQ (by kernel_rfl) rfl) (λM x y vx vy hx hy W=>by
  rw[pE hx,pE hy]
  exact BQ (tr3 x) (tr3 y) W) l (jX l) (by unfold lim;omega) λS=>wR
 exact this
theorem mZ{M:Mem}{x:ao}{v:List Qw}(h:bz M x.enc v):yR v.toArray (tr3 x.id) x.bq :=
 ⟨by rw[Uu,h.1,ao.aP],gC h rfl,gC h rfl,gC h rfl,gC h rfl,λu hu=>BE h u (by grind)⟩
def GH(a b:ao):Bool:=decide (a.bq<b.bq) || decide (a.bq=b.bq) && gZ a.id b.id
def cfP(x y:ao):Int:=JD x.id y.id
def cfQ(x y:ao):Int:=if QJ x.bq y.bq=0 then JD x.id y.id else QJ x.bq y.bq
theorem B8(x y:ao):ltOf cfQ x y=GH x y:=by
 unfold ltOf cfQ GH;by_cases h:x.bq=y.bq
 .rw[J2 ((dF _ _).2 h),J5 h,J6 (show ¬x.bq<y.bq by omega),Bool.true_and,Tq];exact qR x.id y.id
 .rw[J1 (λh2=>h ((dF _ _).1 h2)),J6 h,Bool.false_and,Xj];exact decide_eq_decide.2 (pP _ _)
theorem swoP:SWO (ltOf cfP):=⟨λx=>MT.irrefl x.id,λx y z=>MT.trans x.id y.id z.id,λx y z=>MT.ntrans x.id y.id z.id⟩
theorem oF{a b:ao}:GH a b=true↔(a.bq<b.bq\/a.bq=b.bq/\gZ a.id b.id=true):=by unfold GH;simp
theorem vY{a b:ao}:GH a b=false↔¬(a.bq<b.bq\/a.bq=b.bq/\gZ a.id b.id=true):=by rw[<-oF];simp
theorem swoQ:SWO (ltOf cfQ) where
 irrefl x:=by rw[B8,vY,iF];simp
 trans x y z h1 h2:=by
  rw[B8,oF]at *;rcases h1 with h1|⟨h1,h3⟩ <;> rcases h2 with h2|⟨h2,h4⟩
  .exact .inl Q0
  .exact .inl Q0
  .exact .inl Q0
  .exact .inr ⟨Q0,mn h3 h4⟩
 ntrans x y z h1 h2:=by
  rw[B8,vY]at *;rintro(h|⟨h,h3⟩)
  .omega
  .have e1:x.bq=y.bq:=by omega
   have e2:y.bq=z.bq:=Q0;have n1:gZ x.id y.id=false:=by
    grind
   have n2:gZ y.id z.id=false:=by
    grind
   rw[sy n1 n2]at h3;cases h3
theorem Au{R:List ao}(h:(R.map ao.id).Nodup){a b:ao}(ha:a∈R)(hb:b∈R)(e:a.id=b.id):a=b:=by
 induction R with
 |nil=>cases ha
 |cons x R ih =>
  rw[QT]at h;have h2:=Rw.1 h;rcases Qz.1 ha with ha'|ha' <;> rcases Qz.1 hb with hb'|hb'
  .rw[ha',hb']
  .exact J3 (by grind) h2.1
  .exact J3 (by grind) h2.1
  .exact ih h2.2 ha' hb'
theorem zJ(Q R:List ao)(hn:Q.length<=1000000000000)(hp:R.Perm Q)(hs:R.Pairwise λa b=>gZ a.id b.id=true):IS Bx [[dP Q]] [[dP R]]:=by
 have:=oe ao.enc (k:=38) Q1 ao.aP cfP swoP (g:=99) H6 rfl rfl WK Wx (enters_of WR (by kernel_rfl) rfl) (λM x y vx vy hx hy W=>byID99 (mZ hx) (mZ hy) W) Q R (by unfold lim;omega) (λS h1 h2=>by
   refine TD (le:=λa b:ao=>gZ b.id a.id=false) (λa b ha hb h5 h6=>?_) (h2.imp λh=>by rwa [show ltOf cfP _ _=ltOf JD _ _ from rfl,qR]at h) (hs.imp λh=>mq h) (h1.trans hp.symm);have hid:a.id=b.id:=qS h6 h5;have hn2:(R.map ao.id).Nodup:=Sf.2 (hs.imp λh=>np h)
   exact Au hn2 ((h1.trans hp.symm).mem_iff.1 ha) hb hid)
 exact this
theorem wS(Q R:List ao)(hn:Q.length<=1000000000000)(hp:R.Perm Q)(hs:R.Pairwise λa b=>GH a b=true)(hnd:(R.map ao.id).Nodup):IS kB [[dP Q]] [[dP R]]:=by
 have:=oe ao.enc (k:=38) Q1 ao.aP cfQ swoQ (g:=107) H6 rfl rfl WK Wx (enters_of Wz (by kernel_rfl) rfl) (λM x y vx vy hx hy W=>Hr (mZ hx) (mZ hy) W) Q R (by unfold lim;omega) (λS h1 h2=>by
   refine TD (le:=λa b:ao=>GH b a=false) (λa b ha hb h5 h6=>?_) (h2.imp λh=>by rwa [B8]at h) (hs.imp fun{a b} h=>?_) (h1.trans hp.symm)
   .rw[vY]at h5 h6;have e1:a.bq=b.bq:=by omega
    have hid:a.id=b.id:=qS (by
     cases h9:gZ a.id b.id with
     |false=>rfl
     |true=>exact J3 (.inr ⟨e1,h9⟩) h6) (by
     cases h9:gZ b.id a.id with
     |false=>rfl
     |true=>exact J3 (.inr ⟨e1.symm,h9⟩) h5)
    exact Au hnd ((h1.trans hp.symm).mem_iff.1 ha) hb hid
   .rw[vY];rw[oF]at h;rintro(h2|⟨h2,h3⟩)
    .rcases h with h|⟨h,_⟩ <;> omega
    .rcases h with h|⟨h,h4⟩
     .omega
     .rw[mq h4]at h3;cases h3)
 exact this
theorem yA{M:Mem}{x:cJ}{v:List Qw}(h:bz M x.enc v):HK v.toArray x.code (tr3 x.on) x.kind :=
 ⟨by rw[Uu,h.1,cJ.aP],gC h rfl,gC h rfl,gC h rfl,gC h rfl,gC h rfl⟩
def cfC(x y:cJ):Int:=if JD x.on y.on=0 then(if QJ x.kind y.kind=0 then QJ x.code y.code else QJ x.kind y.kind) else JD x.on y.on
theorem I2{a b:cJ}:tp a b=true↔(gZ a.on b.on=true\/a.on=b.on/\(a.kind<b.kind\/a.kind=b.kind/\a.code<b.code)):=by unfold tp;simp
theorem GI{a b:cJ}:tp a b=false↔¬(gZ a.on b.on=true\/a.on=b.on/\(a.kind<b.kind\/a.kind=b.kind/\a.code<b.code)):=by rw[<-I2];simp
theorem kL(x y:cJ):ltOf cfC x y=tp x y:=by
 unfold ltOf cfC;by_cases h:x.on=y.on
 .rw[J2 ((PI _ _).2 h)];by_cases h2:x.kind=y.kind
  .rw[J2 ((dF _ _).2 h2)];unfold tp;rw[h,iF];simp[h2,pP]
  .rw[J1 (λh3=>h2 ((dF _ _).1 h3))];unfold tp;rw[h,iF];simp[h2,pP]
 .rw[J1 (λh3=>h ((PI _ _).1 h3))];have:=qR x.on y.on;unfold ltOf at this;rw[this];unfold tp;simp[h]
theorem swoC:SWO (ltOf cfC) where
 irrefl x:=by rw[kL,GI,iF];simp
 trans x y z h1 h2:=by
  rw[kL,I2]at *;rcases h1 with h1|⟨h1,h3⟩ <;> rcases h2 with h2|⟨h2,h4⟩
  .exact .inl (mn h1 h2)
  all_goals grind
 ntrans x y z h1 h2:=by
  rw[kL,GI]at *;have n1:gZ x.on y.on=false:=by
   grind
  have n2:gZ y.on z.on=false:=by
   grind
  rintro(h|⟨h,h3⟩)
  .rw[sy n1 n2]at h;cases h
  .have e1:x.on=y.on:=by
    cases h7:gZ y.on x.on with
    |false=>exact qS n1 h7
    |true=>rw[h]at h7;rw[n2]at h7;cases h7
   grind
theorem Lz{a b:cJ}(h1:tp a b=false)(h2:tp b a=false):a=b:=by
 rw[GI]at h1 h2;have n1:gZ a.on b.on=false:=by
  grind
 have n2:gZ b.on a.on=false:=by
  grind
 have e:=qS n1 n2;have k1:¬(a.kind<b.kind\/a.kind=b.kind/\a.code<b.code):=λh=>h1 (.inr ⟨e,h⟩);have k2:¬(b.kind<a.kind\/b.kind=a.kind/\b.code<a.code):=λh=>h2 (.inr ⟨e.symm,h⟩);obtain⟨c1,i1,d1⟩:=a;obtain⟨c2,i2,d2⟩:=b
 grind
theorem MZ(l:List cJ):(eE l).Pairwise (λa b=>tp b a=false)/\(eE l).Perm l:=by
 refine⟨?_,XG l _⟩
 have:=W5 (le:=λx y=>!tp y x) (λa b c h k=>by
  simp only[TB]at *;have:=swoC.ntrans c b a;rw[kL,kL,kL]at this;exact this k h) (λa b=>by
  cases h:tp b a with
  |false=>simp
  |true =>
   have:=swoC.trans b a b;rw[kL,kL,kL]at this;cases h2:tp a b with
   |false=>simp
   |true =>
    have h3:=this h h2;have h4:=swoC.irrefl b;rw[kL,h3]at h4
    cases h4) l
 exact this.imp λh=>by grind
theorem Ke(l:List cJ)(hl:l.length<=10000000000):IS Iq [[fh l]] [[fh (eE l)]]:=by
 have:=oe cJ.enc (k:=6) Q1 cJ.aP cfC swoC (g:=53) sortCfL rfl rfl Tryz.isAgg57 Tryz.sizeOf57 (enters_of WS (by kernel_rfl) rfl) (λM x y vx vy hx hy W=>conf53 (yA hx) (yA hy) cmpE57 W) l (eE l) (by unfold lim;omega) λS h1 h2=>by obtain⟨h3,h4⟩:=MZ l;exact TD (le:=λa b=>tp b a=false) (λa b _ _ h5 h6=>Lz h6 h5) (h2.imp λh=>by rwa [kL]at h) h3 (h1.trans h4.symm)
 exact this
end Go.Proofs.YtmbboaapillefaaGreatDoor
namespace Go.Proofs.YtmbboaapillefaaGreatDoor
open Go Go.Shelf Go.RowKit Go.Lib Xe Pm
def Hn:TO:=⟨fun|41=>85|n=>n,fun|22=>36|23=>42|4=>4|n=>n,fun|n=>n⟩
theorem cloneI:Tl Qu Hn:={
 mixed:=by kernel_rfl
 f41:=⟨Tryz.f85.name,Q1,Tryz.func85.trans (J4 some (by kernel_rfl))⟩
 t4:=Sd
 a4:=SG
 z4:=SC
 v4:=Si
 t22:=Tryz.underlying36
 a22:=Tryz.isAgg36
 z22:=Tryz.sizeOf36
 v22:=Tryz.zeroValue36}
def Hm:TO:=⟨fun|41=>87|n=>n,fun|22=>48|23=>9|4=>4|n=>n,fun|n=>n⟩
theorem cloneS:Tl Qu Hm:={
 mixed:=by kernel_rfl
 f41:=⟨Tryz.f87.name,Q1,Tryz.func87.trans (J4 some (by kernel_rfl))⟩
 t4:=Sd
 a4:=SG
 z4:=SC
 v4:=Si
 t22:=Tryz.underlying48
 a22:=Tryz.isAgg48
 z22:=Tryz.sizeOf48
 v22:=Tryz.zeroValue48}
def Hl:TO:=⟨fun|41=>175|n=>n,fun|22=>44|23=>46|4=>4|n=>n,fun|n=>n⟩
theorem cloneT:Tl Qu Hl:={
 mixed:=by kernel_rfl
 f41:=⟨Tryz.f175.name,Q1,Tryz.func175.trans (J4 some (by kernel_rfl))⟩
 t4:=Sd
 a4:=SG
 z4:=SC
 v4:=Si
 t22:=Tryz.underlying44
 a22:=Tryz.isAgg44
 z22:=Tryz.sizeOf44
 v22:=Tryz.zeroValue44}
theorem Cl{E sz bytes:Nat}{z:Qw}(h:(Qu.info? E).map (λi=>(i.zero,i.size,i.bytes))=some (some z,sz,bytes)):∃i,Qu.info? E=some i/\i.zero=some z/\i.size=sz/\i.bytes=bytes:=by simp_all
theorem Fh:gE where
 ids l hl:=by obtain⟨i,h1,h2,h3,h4⟩:=Cl (E:=42) (sz:=3) (bytes:=24) (z:=.agg #[.int .i64 0,.int .i64 0,.int .i64 0]) (by kernel_rfl);exact uy cloneI rfl rfl i _ h1 h2 h3 h4 Q1 Q1 Uy (by unfold lim;omega) Q0
 txt l hl:=by obtain⟨i,h1,h2,h3,h4⟩:=Cl (E:=9) (sz:=1) (bytes:=16) (z:=.string (QX #[])) (by kernel_rfl);exact uy cloneS rfl rfl i _ h1 h2 h3 h4 Q1 Q1 UC (by unfold lim;omega) Q0
 typ l hl:=by obtain⟨i,h1,h2,h3,h4⟩:=Cl (E:=46) (sz:=5) (bytes:=56) (z:=.agg #[.int .i64 0,.int .i64 0,.int .i64 0,.int .i64 0,.slice none 0 0]) (by kernel_rfl);exact uy cloneT rfl rfl i _ h1 h2 h3 h4 Q1 Q1 Tryz.sizeOf46 (by unfold lim;omega) Q0
open Xe
theorem Pl:jZ Qu 65=true:=by kernel_rfl
theorem Jp:jZ Qu 195=true:=by kernel_rfl
theorem Ia:sliceB Qu 65 70 38=true:=by kernel_rfl
theorem Dp:sliceB Qu 195 197 4=true:=by kernel_rfl
theorem Dn:sliceB Qu 224 65 1=true:=by kernel_rfl
theorem Dm:sliceB Qu 245 195 1=true:=by kernel_rfl
theorem func176:oP Qu 176=true:=by kernel_rfl
theorem func200:oP Qu 200=true:=by kernel_rfl
theorem Pw:gj Qu 65 70 38 424:=gj.mk' (z:=.agg [.int .i64 0,.int .i64 0,.int .i64 0,.int .i64 0,.string Xr,.slice none 0 0,.int .i64 0,.int .i64 0,.int .i64 0,.int .i64 0,.int .i64 0,.int .i64 0,.int .i64 0,.int .i64 0,.int .i64 0,.slice none 0 0,.int .i64 0,.int .i64 0,.int .i64 0,.slice none 0 0,.int .i64 0,.int .i64 0,.int .i64 0,.int .i64 0,.slice none 0 0,.int .i64 0,.int .i64 0,.int .i64 0,.int .i64 0,.int .i64 0,.int .i64 0,.int .i64 0,.int .i64 0,.int .i64 0,.int .i64 0,.slice none 0 0,.slice none 0 0,.slice none 0 0].toArray) Sb (by kernel_rfl) rfl rfl
theorem Jw:gj Qu 195 197 4 32:=gj.mk' (z:=.agg [.int .i64 0,.int .i64 0,.int .i64 0,.int .i64 0].toArray) Ss (by kernel_rfl) rfl rfl
variable {α:Type} (enc:α->List D)
theorem iY(ls:List (List α))(k:Nat)(h:k<ls.length):(ls.take (k+1)).flatten=(ls.take k).flatten++ls[k]:=by rw[Qv h,TH,Th]
theorem Pa(w0:QL)(M:Mem)(Γ:List As)(n:Nat)(hn:n<=300000000000) :
   jk Qu w0 M Γ 176 #[.slice none 0 0,lX n] (λu M' Γ'=>∃a c,u=.slice a 0 c/\n<=c/\M'=M/\Γ'=.acc (.slice a 0 c) 70 38 0 []::Γ):=by
 refine enter (f:=176) Tryz.func176 rfl Tryz.ntmps176 rfl rfl λw1 hw1=>?_;refine CW.seq λK1 hK1=>?_;refine CW.region ?_;refine RL.q (Y.assign rfl) rfl ?_;refine RL.nil ?_;refine hK1 _ _ _ ?_;refine CW.kp [0,1] rfl ?_;refine CW.seq λK2 hK2=>?_;refine CW.seq λK3 hK3=>?_;refine CW.region ?_;refine RL.q (Y.move rfl) rfl ?_;refine RL.q (Y.lss rfl rfl) rfl ?_;refine RL.nil ?_;refine hK3 _ _ _ ?_;refine CW.kp [0,1,6] rfl ?_;refine CW.ite rfl (λh1=>J3 h1 OM) (λh1=>?_);refine CW.skip ?_;refine hK2 _ _ _ ?_;refine CW.seq λK4 hK4=>?_;refine CW.seq λK5 hK5=>?_;refine CW.region ?_;refine RL.q (Y.move rfl) rfl ?_;refine RL.q (Y.move rfl) rfl ?_;refine RL.q (Y.cap rfl Sb) rfl ?_;refine RL.q (Y.move rfl) rfl ?_;refine RL.q (Y.len rfl Sb) rfl ?_;refine RL.q (Y.sub rfl rfl OM) rfl ?_;refine RL.q (Y.sub rfl rfl OM) rfl ?_;refine RL.q (Y.assign rfl) rfl ?_;refine RL.nil ?_;refine hK5 _ _ _ ?_;refine CW.kp [0,1] rfl ?_;refine CW.seq λK6 hK6=>?_;refine CW.region ?_;refine RL.q (Y.move rfl) rfl ?_;refine RL.q (Y.gtr rfl rfl) rfl ?_;refine RL.nil ?_;refine hK6 _ _ _ ?_;refine CW.kp [0,1,16] rfl ?_;refine CW.ite rfl (λh2=>?_) (λh2=>?_)
 .refine CW.region ?_;refine RL.q (Y.move rfl) rfl ?_;refine RL.q (Y.move rfl) rfl ?_;refine RL.q (Y.cap rfl Sb) rfl ?_;refine RL.q (Y.Bu 0 0 rfl ⟨_,rfl,rfl⟩ rfl Q2 (QW _) (QW _) Ia) rfl ?_;refine RL.q (Y.move rfl) rfl ?_;refine RL.vr n Pw Sc rfl rfl OM OM OM (by unfold lim;omega) rfl λb22 c22 us22 hus22 hc22=>?_;refine RL.q (Y.move rfl) rfl ?_;refine RL.q (Y.len rfl Sb) rfl ?_;refine RL.wu (k:=0) (Rr _) ?_;refine RL.q (Y.Bu 0 c22 rfl ⟨_,rfl,rfl⟩ rfl Q2 (Rr _) (QW _) Ia) rfl ?_;refine RL.q (Y.assign rfl) rfl ?_;refine RL.nil ?_;refine hK4 _ _ _ ?_;refine CW.kp [0] rfl ?_;refine CW.seq λK7 hK7=>?_;refine CW.region ?_;refine RL.q (Y.move rfl) rfl ?_;refine RL.q (Y.assign rfl) rfl ?_;refine RL.nil ?_;refine hK7 _ _ _ ?_;refine CW.kp [4] rfl ?_;refine CW.ret ?_;exact⟨_,rfl,o4.drop ⟨_,_,rfl,Q0,rfl,rfl⟩ SB⟩
 refine CW.P8 70 38 ?_;refine CW.skip ?_;refine hK4 _ _ _ ?_;refine CW.seq λK8 hK8=>?_;refine CW.region ?_;refine RL.q (Y.move rfl) rfl ?_;refine RL.q (Y.assign rfl) rfl ?_;refine RL.nil ?_;refine hK8 _ _ _ ?_;refine CW.kp [4] rfl ?_;refine CW.ret ?_;exact⟨_,rfl,o4.drop ⟨_,_,rfl,Q0,rfl,rfl⟩ SB⟩
set_option maxHeartbeats 1000000 in
theorem Hk(w0:QL)(M:Mem)(Γ:List As)(p:Addr)(us:List Qw)(ls:List (List α))(hc:yW w0 M Γ p us)(hr:bz M (ls.map λl=>D.sl l.length 38 (l.flatMap enc)) us)(hl:ls.length<=1000)(hls:ls.flatten.length<=300000000000)(c0:Nat) :
   jk Qu w0 M Γ 92 #[.slice (some p) us.length c0] (λu M' Γ'=>∃a c vs,u=.slice a ls.flatten.length c/\ls.flatten.length<=c/\M'=M/\bz M (ls.flatten.flatMap enc) vs/\Γ'=.acc (.slice a ls.flatten.length c) 70 38 ls.flatten.length vs::Γ):=by
 have vz:us.length=ls.length:=by rw[hr.1];simp
 have htk:∀k,(ls.take k).flatten.length<=300000000000:=λk=>by
   have h:=J4 (λx=>(S5 x).length) (SF k ls)
   grind
 refine enter (f:=92) Tryz.func92 rfl Tryz.ntmps92 rfl rfl λw1 hw1=>?_;refine CW.seq λK1 hK1=>?_;refine CW.region ?_;refine RL.q (Y.assign rfl) rfl ?_;refine RL.nil ?_;refine hK1 _ _ _ ?_;refine CW.kp [0] rfl ?_;refine CW.seq λK2 hK2=>?_;refine CW.region ?_;refine RL.q (Y.assign rfl) rfl ?_;refine RL.nil ?_;refine hK2 _ _ _ ?_;refine CW.kp [0,3] rfl ?_;refine CW.seq λK3 hK3=>?_;refine CW.seq λK4 hK4=>?_;refine CW.region ?_;refine RL.q (Y.move rfl) rfl ?_;refine RL.q (Y.len rfl Vk) rfl ?_;refine RL.q (Y.move rfl) rfl ?_;refine RL.nil ?_;refine hK4 _ _ _ ?_;refine CW.kp [0,3,9,10,11] rfl ?_;refine CW.block ?_
 -- LOOP 1: live [0,3,9,10,11] changed [3,11]
 refine CW.kp [3,11,0,9,10] rfl ?_;refine CW.I3 (λm Lc M1 Γc=>∃k:Nat,m=us.length-k/\k<=us.length/\Lc=[(3,lX ((ls.take k).flatten.length:Nat)),(11,lX k)]/\Γc=[]/\M1=M) (us.length) [(3,_),(11,_)] _ rfl rfl ⟨0,rfl,Rr _,rfl,rfl,rfl⟩ ?_;rintro m Lc M Γc hs ⟨k,rfl,hk,rfl,rfl,rfl⟩;refine CW.seq λK5 hK5=>?_;refine CW.region ?_;refine RL.q (Y.lss rfl rfl) rfl ?_;refine RL.nil ?_;refine hK5 _ _ _ ?_;refine CW.kp [0,3,9,10,11,12] rfl ?_;refine CW.seq λK6 hK6=>?_;refine CW.ite rfl (λh1=>?_) (λh1=>?_)
 .have hka:k<us.length:=Q0;have hkl:k<ls.length:=Q0;have hrk:Rd M (.sl ls[k].length 38 (ls[k].flatMap enc)) us[k]:=hr.2 k _ _ (by simp[hkl]) (QQ hka);obtain⟨ak,ck,huk,hck,hlk,_⟩:=hrk.slice;have hgk:us[k]?=some (.slice ak ls[k].length ck):=by rw[QQ hka,huk]
  have htk1:=htk k;have htk2:=htk (k+1);rw[Qv hkl,TH,QC,Th]at htk2;refine CW.skip ?_;refine hK6 _ _ _ ?_;refine CW.seq λK7 hK7=>?_;refine CW.block ?_;refine CW.seq λK8 hK8=>?_;refine CW.region ?_;refine RL.q (Y.index k rfl rfl rfl hka Dn (λ_ _=>rfl)) rfl ?_;refine RL.q (Y.load (v:=.slice ak ls[k].length ck) rfl Pl (λw hw=>by rw[Td];exact(hc.mono (λ_ h=>h.sub SB)) w hw k _ hgk)) rfl ?_;refine RL.q (Y.assign rfl) rfl ?_;refine RL.nil ?_;refine hK8 _ _ _ ?_;refine CW.kp [0,3,5,9,10,11] rfl ?_;refine CW.seq λK9 hK9=>?_;refine CW.region ?_;refine RL.q (Y.move rfl) rfl ?_;refine RL.q (Y.move rfl) rfl ?_;refine RL.q (Y.len rfl Sb) rfl ?_;refine RL.q (Y.add rfl rfl OM) rfl ?_;refine RL.q (Y.assign rfl) rfl ?_;refine RL.nil ?_;refine hK9 _ _ _ ?_;refine CW.kp [0,3,9,10,11] rfl ?_;refine CW.seq λK10 hK10=>?_;refine CW.region ?_;refine RL.q (Y.move rfl) rfl ?_;refine RL.q (Y.lss rfl rfl) rfl ?_;refine RL.nil ?_;refine hK10 _ _ _ ?_;refine CW.kp [0,3,9,10,11,20] rfl ?_;refine CW.ite rfl (λh2=>J3 h2 OM) (λh2=>?_);refine CW.skip ?_;refine hK7 _ _ _ ?_;refine CW.region ?_;refine RL.q (Y.add rfl rfl OM) rfl ?_;refine RL.q (Y.move rfl) rfl ?_;refine RL.nil ?_;refine⟨us.length-(k+1),[(3,_),(11,_)],?_,(KP [3,11,0,9,10]),?_⟩
  . omega
  . exact o4.drop ⟨[],rfl,hs,k+1,rfl,Q0,by rw[iY ls k hkl,QC] <;> rfl,rfl,rfl⟩ SB
 refine CW.exit ?_;refine hK3 _ _ _ ?_;refine CW.seq λK11 hK11=>?_;obtain rfl:k=us.length:=Q0;rw[show ls.take us.length=ls from by rw[vz,Re]];refine CW.region ?_;refine RL.q (Y.move rfl) rfl ?_;refine RL.call rfl func176 rfl rfl (by exact Pa _ _ _ ls.flatten.length hls) ?_;rintro v24 M _ ⟨a24,c24,rfl,hc24,rfl,rfl⟩;refine RL.q (Y.assign rfl) rfl ?_;refine RL.nil ?_;refine hK11 _ _ _ ?_;refine CW.kp [0,6] rfl ?_;refine CW.seq λK12 hK12=>?_;refine CW.seq λK13 hK13=>?_;refine CW.region ?_;refine RL.q (Y.move rfl) rfl ?_;refine RL.q (Y.len rfl Vk) rfl ?_;refine RL.q (Y.move rfl) rfl ?_;refine RL.nil ?_;refine hK13 _ _ _ ?_;refine CW.kp [6,25,26,27] rfl ?_;refine CW.block ?_
 -- LOOP 2: live [6,25,26,27] changed [6,27]
 refine CW.kp [6,27,25,26] rfl ?_;refine CW.front (x:=.acc (.slice a24 0 c24) 70 38 0 []) PK ?_;refine CW.I3 (λm Lc M1 Γc=>∃(k:Nat) (ua:Option Addr) (ca:Nat) (vs:List Qw),m=us.length-k/\k<=us.length/\Lc=[(6,.slice ua (ls.take k).flatten.length ca),(27,lX k)]/\Γc=[.acc (.slice ua (ls.take k).flatten.length ca) 70 38 (ls.take k).flatten.length vs]/\M1=M/\(ls.take k).flatten.length<=ca/\bz M ((ls.take k).flatten.flatMap enc) vs) us.length [(6,_),(27,_)] [_] rfl rfl ⟨0,a24,c24,[],rfl,Rr _,rfl,rfl,rfl,Rr _,bz.nil _⟩ ?_;rintro m Lc M Γc hs2 ⟨k,ua,ca,vs,rfl,hk,rfl,rfl,rfl,hca,hvr⟩;refine CW.seq λK14 hK14=>?_;refine CW.region ?_;refine RL.q (Y.lss rfl rfl) rfl ?_;refine RL.nil ?_;refine hK14 _ _ _ ?_;refine CW.kp [6,25,26,27,28] rfl ?_;refine CW.seq λK15 hK15=>?_;refine CW.ite rfl (λh3=>?_) (λh3=>?_)
 .have hka:k<us.length:=Q0;have hkl:k<ls.length:=Q0;have hrk:Rd M (.sl ls[k].length 38 (ls[k].flatMap enc)) us[k]:=hr.2 k _ _ (by simp[hkl]) (QQ hka);obtain⟨ak,ck,huk,hck,hlk,_⟩:=hrk.slice;have hgk:us[k]?=some (.slice ak ls[k].length ck):=by rw[QQ hka,huk]
  have htk1:=htk k;have htk2:=htk (k+1);rw[Qv hkl,TH,QC,Th]at htk2;rw[huk]at hrk;refine CW.addRd hrk ?_;refine CW.skip ?_;refine hK15 _ _ _ ?_;refine CW.seq λK16 hK16=>?_;refine CW.block ?_;refine CW.seq λK17 hK17=>?_;refine CW.region ?_;refine RL.q (Y.index k rfl rfl rfl hka Dn (λ_ _=>rfl)) rfl ?_;refine RL.q (Y.load (v:=.slice ak ls[k].length ck) rfl Pl (λw hw=>by rw[Td];exact(hc.mono (λ_ h=>h.sub SB)) w hw k _ hgk)) rfl ?_;refine RL.q (Y.assign rfl) rfl ?_;refine RL.nil ?_;refine hK17 _ _ _ ?_;refine CW.kp [6,8,25,26,27] rfl ?_;refine CW.region ?_;refine RL.q (Y.move rfl) rfl ?_;refine RL.q (Y.move rfl) rfl ?_;refine RL.Fy Pw rfl rfl PK MM OM (by unfold lim;omega) rfl λa33 c33 n33 hc33 hn33=>?_;refine RL.q (Y.assign rfl) rfl ?_;refine RL.nil ?_;refine hK16 _ _ _ ?_;refine CW.kp [6,25,26,27] rfl ?_;refine CW.region ?_;refine RL.q (Y.add rfl rfl OM) rfl ?_;refine RL.q (Y.move rfl) rfl ?_;refine RL.nil ?_;have e33:(ls.take (k+1)).flatten.length=(ls.take k).flatten.length+ls[k].length:=by rw[iY ls k hkl,QC]
  refine⟨us.length-(k+1),[(6,_),(27,_)],?_,(KP [6,27,25,26]),?_⟩
  . omega
  . refine o4.drop (Γ':=[.acc (.slice a33 ((ls.take k).flatten.length+ls[k].length) c33) 70 38 ((ls.take k).flatten.length+ls[k].length) (vs++n33)]++_) ⟨_,rfl,hs2,k+1,a33,c33,vs++n33,rfl,Q0,by rw[e33] <;> rfl,by rw[e33],rfl,Q0,?_⟩ SB
    rw[iY ls k hkl,QV];exact hvr.append hn33
 refine CW.exit ?_;refine hK12 _ _ _ ?_;refine CW.seq λK18 hK18=>?_;refine CW.region ?_;refine RL.q (Y.move rfl) rfl ?_;refine RL.q (Y.assign rfl) rfl ?_;refine RL.nil ?_;refine hK18 _ _ _ ?_;refine CW.kp [2] rfl ?_;refine CW.ret ?_;obtain rfl:k=us.length:=Q0;rw[show ls.take us.length=ls from by rw[vz,Re]]at hca hvr ⊢;exact⟨_,rfl,o4.drop ⟨_,_,vs,rfl,hca,rfl,hvr,rfl⟩ SB⟩
theorem O9(w0:QL)(M:Mem)(Γ:List As)(n:Nat)(hn:n<=100000000000) :
   jk Qu w0 M Γ 200 #[.slice none 0 0,lX n] (λu M' Γ'=>∃a c,u=.slice a 0 c/\n<=c/\M'=M/\Γ'=.acc (.slice a 0 c) 197 4 0 []::Γ):=by
 refine enter (f:=200) Tryz.func200 rfl Tryz.ntmps200 rfl rfl λw1 hw1=>?_;refine CW.seq λK1 hK1=>?_;refine CW.region ?_;refine RL.q (Y.assign rfl) rfl ?_;refine RL.nil ?_;refine hK1 _ _ _ ?_;refine CW.kp [0,1] rfl ?_;refine CW.seq λK2 hK2=>?_;refine CW.seq λK3 hK3=>?_;refine CW.region ?_;refine RL.q (Y.move rfl) rfl ?_;refine RL.q (Y.lss rfl rfl) rfl ?_;refine RL.nil ?_;refine hK3 _ _ _ ?_;refine CW.kp [0,1,6] rfl ?_;refine CW.ite rfl (λh1=>J3 h1 OM) (λh1=>?_);refine CW.skip ?_;refine hK2 _ _ _ ?_;refine CW.seq λK4 hK4=>?_;refine CW.seq λK5 hK5=>?_;refine CW.region ?_;refine RL.q (Y.move rfl) rfl ?_;refine RL.q (Y.move rfl) rfl ?_;refine RL.q (Y.cap rfl Ss) rfl ?_;refine RL.q (Y.move rfl) rfl ?_;refine RL.q (Y.len rfl Ss) rfl ?_;refine RL.q (Y.sub rfl rfl OM) rfl ?_;refine RL.q (Y.sub rfl rfl OM) rfl ?_;refine RL.q (Y.assign rfl) rfl ?_;refine RL.nil ?_;refine hK5 _ _ _ ?_;refine CW.kp [0,1] rfl ?_;refine CW.seq λK6 hK6=>?_;refine CW.region ?_;refine RL.q (Y.move rfl) rfl ?_;refine RL.q (Y.gtr rfl rfl) rfl ?_;refine RL.nil ?_;refine hK6 _ _ _ ?_;refine CW.kp [0,1,16] rfl ?_;refine CW.ite rfl (λh2=>?_) (λh2=>?_)
 .refine CW.region ?_;refine RL.q (Y.move rfl) rfl ?_;refine RL.q (Y.move rfl) rfl ?_;refine RL.q (Y.cap rfl Ss) rfl ?_;refine RL.q (Y.Bu 0 0 rfl ⟨_,rfl,rfl⟩ rfl Q2 (QW _) (QW _) Dp) rfl ?_;refine RL.q (Y.move rfl) rfl ?_;refine RL.vr n Jw Sc rfl rfl OM OM OM (by unfold lim;omega) rfl λb22 c22 us22 hus22 hc22=>?_;refine RL.q (Y.move rfl) rfl ?_;refine RL.q (Y.len rfl Ss) rfl ?_;refine RL.wu (k:=0) (Rr _) ?_;refine RL.q (Y.Bu 0 c22 rfl ⟨_,rfl,rfl⟩ rfl Q2 (Rr _) (QW _) Dp) rfl ?_;refine RL.q (Y.assign rfl) rfl ?_;refine RL.nil ?_;refine hK4 _ _ _ ?_;refine CW.kp [0] rfl ?_;refine CW.seq λK7 hK7=>?_;refine CW.region ?_;refine RL.q (Y.move rfl) rfl ?_;refine RL.q (Y.assign rfl) rfl ?_;refine RL.nil ?_;refine hK7 _ _ _ ?_;refine CW.kp [4] rfl ?_;refine CW.ret ?_;exact⟨_,rfl,o4.drop ⟨_,_,rfl,Q0,rfl,rfl⟩ SB⟩
 refine CW.P8 197 4 ?_;refine CW.skip ?_;refine hK4 _ _ _ ?_;refine CW.seq λK8 hK8=>?_;refine CW.region ?_;refine RL.q (Y.move rfl) rfl ?_;refine RL.q (Y.assign rfl) rfl ?_;refine RL.nil ?_;refine hK8 _ _ _ ?_;refine CW.kp [4] rfl ?_;refine CW.ret ?_;exact⟨_,rfl,o4.drop ⟨_,_,rfl,Q0,rfl,rfl⟩ SB⟩
set_option maxHeartbeats 1000000 in
theorem Hj(w0:QL)(M:Mem)(Γ:List As)(p:Addr)(us:List Qw)(ls:List (List α))(hc:yW w0 M Γ p us)(hr:bz M (ls.map λl=>D.sl l.length 4 (l.flatMap enc)) us)(hl:ls.length<=1000)(hls:ls.flatten.length<=100000000000)(c0:Nat) :
   jk Qu w0 M Γ 154 #[.slice (some p) us.length c0] (λu M' Γ'=>∃a c vs,u=.slice a ls.flatten.length c/\ls.flatten.length<=c/\M'=M/\bz M (ls.flatten.flatMap enc) vs/\Γ'=.acc (.slice a ls.flatten.length c) 197 4 ls.flatten.length vs::Γ):=by
 have vz:us.length=ls.length:=by rw[hr.1];simp
 have htk:∀k,(ls.take k).flatten.length<=100000000000:=λk=>by
   have h:=J4 (λx=>(S5 x).length) (SF k ls)
   grind
 refine enter (f:=154) Tryz.func154 rfl Tryz.ntmps154 rfl rfl λw1 hw1=>?_;refine CW.seq λK1 hK1=>?_;refine CW.region ?_;refine RL.q (Y.assign rfl) rfl ?_;refine RL.nil ?_;refine hK1 _ _ _ ?_;refine CW.kp [0] rfl ?_;refine CW.seq λK2 hK2=>?_;refine CW.region ?_;refine RL.q (Y.assign rfl) rfl ?_;refine RL.nil ?_;refine hK2 _ _ _ ?_;refine CW.kp [0,3] rfl ?_;refine CW.seq λK3 hK3=>?_;refine CW.seq λK4 hK4=>?_;refine CW.region ?_;refine RL.q (Y.move rfl) rfl ?_;refine RL.q (Y.len rfl Vl) rfl ?_;refine RL.q (Y.move rfl) rfl ?_;refine RL.nil ?_;refine hK4 _ _ _ ?_;refine CW.kp [0,3,9,10,11] rfl ?_;refine CW.block ?_
 -- LOOP 1: live [0,3,9,10,11] changed [3,11]
 refine CW.kp [3,11,0,9,10] rfl ?_;refine CW.I3 (λm Lc M1 Γc=>∃k:Nat,m=us.length-k/\k<=us.length/\Lc=[(3,lX ((ls.take k).flatten.length:Nat)),(11,lX k)]/\Γc=[]/\M1=M) (us.length) [(3,_),(11,_)] _ rfl rfl ⟨0,rfl,Rr _,rfl,rfl,rfl⟩ ?_;rintro m Lc M Γc hs ⟨k,rfl,hk,rfl,rfl,rfl⟩;refine CW.seq λK5 hK5=>?_;refine CW.region ?_;refine RL.q (Y.lss rfl rfl) rfl ?_;refine RL.nil ?_;refine hK5 _ _ _ ?_;refine CW.kp [0,3,9,10,11,12] rfl ?_;refine CW.seq λK6 hK6=>?_;refine CW.ite rfl (λh1=>?_) (λh1=>?_)
 .have hka:k<us.length:=Q0;have hkl:k<ls.length:=Q0;have hrk:Rd M (.sl ls[k].length 4 (ls[k].flatMap enc)) us[k]:=hr.2 k _ _ (by simp[hkl]) (QQ hka);obtain⟨ak,ck,huk,hck,hlk,_⟩:=hrk.slice;have hgk:us[k]?=some (.slice ak ls[k].length ck):=by rw[QQ hka,huk]
  have htk1:=htk k;have htk2:=htk (k+1);rw[Qv hkl,TH,QC,Th]at htk2;refine CW.skip ?_;refine hK6 _ _ _ ?_;refine CW.seq λK7 hK7=>?_;refine CW.block ?_;refine CW.seq λK8 hK8=>?_;refine CW.region ?_;refine RL.q (Y.index k rfl rfl rfl hka Dm (λ_ _=>rfl)) rfl ?_;refine RL.q (Y.load (v:=.slice ak ls[k].length ck) rfl Jp (λw hw=>by rw[Td];exact(hc.mono (λ_ h=>h.sub SB)) w hw k _ hgk)) rfl ?_;refine RL.q (Y.assign rfl) rfl ?_;refine RL.nil ?_;refine hK8 _ _ _ ?_;refine CW.kp [0,3,5,9,10,11] rfl ?_;refine CW.seq λK9 hK9=>?_;refine CW.region ?_;refine RL.q (Y.move rfl) rfl ?_;refine RL.q (Y.move rfl) rfl ?_;refine RL.q (Y.len rfl Ss) rfl ?_;refine RL.q (Y.add rfl rfl OM) rfl ?_;refine RL.q (Y.assign rfl) rfl ?_;refine RL.nil ?_;refine hK9 _ _ _ ?_;refine CW.kp [0,3,9,10,11] rfl ?_;refine CW.seq λK10 hK10=>?_;refine CW.region ?_;refine RL.q (Y.move rfl) rfl ?_;refine RL.q (Y.lss rfl rfl) rfl ?_;refine RL.nil ?_;refine hK10 _ _ _ ?_;refine CW.kp [0,3,9,10,11,20] rfl ?_;refine CW.ite rfl (λh2=>J3 h2 OM) (λh2=>?_);refine CW.skip ?_;refine hK7 _ _ _ ?_;refine CW.region ?_;refine RL.q (Y.add rfl rfl OM) rfl ?_;refine RL.q (Y.move rfl) rfl ?_;refine RL.nil ?_;refine⟨us.length-(k+1),[(3,_),(11,_)],?_,(KP [3,11,0,9,10]),?_⟩
  . omega
  . exact o4.drop ⟨[],rfl,hs,k+1,rfl,Q0,by rw[iY ls k hkl,QC] <;> rfl,rfl,rfl⟩ SB
 refine CW.exit ?_;refine hK3 _ _ _ ?_;refine CW.seq λK11 hK11=>?_;obtain rfl:k=us.length:=Q0;rw[show ls.take us.length=ls from by rw[vz,Re]];refine CW.region ?_;refine RL.q (Y.move rfl) rfl ?_;refine RL.call rfl func200 rfl rfl (by exact O9 _ _ _ ls.flatten.length hls) ?_;rintro v24 M _ ⟨a24,c24,rfl,hc24,rfl,rfl⟩;refine RL.q (Y.assign rfl) rfl ?_;refine RL.nil ?_;refine hK11 _ _ _ ?_;refine CW.kp [0,6] rfl ?_;refine CW.seq λK12 hK12=>?_;refine CW.seq λK13 hK13=>?_;refine CW.region ?_;refine RL.q (Y.move rfl) rfl ?_;refine RL.q (Y.len rfl Vl) rfl ?_;refine RL.q (Y.move rfl) rfl ?_;refine RL.nil ?_;refine hK13 _ _ _ ?_;refine CW.kp [6,25,26,27] rfl ?_;refine CW.block ?_
 -- LOOP 2: live [6,25,26,27] changed [6,27]
 refine CW.kp [6,27,25,26] rfl ?_;refine CW.front (x:=.acc (.slice a24 0 c24) 197 4 0 []) PK ?_;refine CW.I3 (λm Lc M1 Γc=>∃(k:Nat) (ua:Option Addr) (ca:Nat) (vs:List Qw),m=us.length-k/\k<=us.length/\Lc=[(6,.slice ua (ls.take k).flatten.length ca),(27,lX k)]/\Γc=[.acc (.slice ua (ls.take k).flatten.length ca) 197 4 (ls.take k).flatten.length vs]/\M1=M/\(ls.take k).flatten.length<=ca/\bz M ((ls.take k).flatten.flatMap enc) vs) us.length [(6,_),(27,_)] [_] rfl rfl ⟨0,a24,c24,[],rfl,Rr _,rfl,rfl,rfl,Rr _,bz.nil _⟩ ?_;rintro m Lc M Γc hs2 ⟨k,ua,ca,vs,rfl,hk,rfl,rfl,rfl,hca,hvr⟩;refine CW.seq λK14 hK14=>?_;refine CW.region ?_;refine RL.q (Y.lss rfl rfl) rfl ?_;refine RL.nil ?_;refine hK14 _ _ _ ?_;refine CW.kp [6,25,26,27,28] rfl ?_;refine CW.seq λK15 hK15=>?_;refine CW.ite rfl (λh3=>?_) (λh3=>?_)
 .have hka:k<us.length:=Q0;have hkl:k<ls.length:=Q0;have hrk:Rd M (.sl ls[k].length 4 (ls[k].flatMap enc)) us[k]:=hr.2 k _ _ (by simp[hkl]) (QQ hka);obtain⟨ak,ck,huk,hck,hlk,_⟩:=hrk.slice;have hgk:us[k]?=some (.slice ak ls[k].length ck):=by rw[QQ hka,huk]
  have htk1:=htk k;have htk2:=htk (k+1);rw[Qv hkl,TH,QC,Th]at htk2;rw[huk]at hrk;refine CW.addRd hrk ?_;refine CW.skip ?_;refine hK15 _ _ _ ?_;refine CW.seq λK16 hK16=>?_;refine CW.block ?_;refine CW.seq λK17 hK17=>?_;refine CW.region ?_;refine RL.q (Y.index k rfl rfl rfl hka Dm (λ_ _=>rfl)) rfl ?_;refine RL.q (Y.load (v:=.slice ak ls[k].length ck) rfl Jp (λw hw=>by rw[Td];exact(hc.mono (λ_ h=>h.sub SB)) w hw k _ hgk)) rfl ?_;refine RL.q (Y.assign rfl) rfl ?_;refine RL.nil ?_;refine hK17 _ _ _ ?_;refine CW.kp [6,8,25,26,27] rfl ?_;refine CW.region ?_;refine RL.q (Y.move rfl) rfl ?_;refine RL.q (Y.move rfl) rfl ?_;refine RL.Fy Jw rfl rfl PK MM OM (by unfold lim;omega) rfl λa33 c33 n33 hc33 hn33=>?_;refine RL.q (Y.assign rfl) rfl ?_;refine RL.nil ?_;refine hK16 _ _ _ ?_;refine CW.kp [6,25,26,27] rfl ?_;refine CW.region ?_;refine RL.q (Y.add rfl rfl OM) rfl ?_;refine RL.q (Y.move rfl) rfl ?_;refine RL.nil ?_;have e33:(ls.take (k+1)).flatten.length=(ls.take k).flatten.length+ls[k].length:=by rw[iY ls k hkl,QC]
  refine⟨us.length-(k+1),[(6,_),(27,_)],?_,(KP [6,27,25,26]),?_⟩
  . omega
  . refine o4.drop (Γ':=[.acc (.slice a33 ((ls.take k).flatten.length+ls[k].length) c33) 197 4 ((ls.take k).flatten.length+ls[k].length) (vs++n33)]++_) ⟨_,rfl,hs2,k+1,a33,c33,vs++n33,rfl,Q0,by rw[e33] <;> rfl,by rw[e33],rfl,Q0,?_⟩ SB
    rw[iY ls k hkl,QV];exact hvr.append hn33
 refine CW.exit ?_;refine hK12 _ _ _ ?_;refine CW.seq λK18 hK18=>?_;refine CW.region ?_;refine RL.q (Y.move rfl) rfl ?_;refine RL.q (Y.assign rfl) rfl ?_;refine RL.nil ?_;refine hK18 _ _ _ ?_;refine CW.kp [2] rfl ?_;refine CW.ret ?_;obtain rfl:k=us.length:=Q0;rw[show ls.take us.length=ls from by rw[vz,Re]]at hca hvr ⊢;exact⟨_,rfl,o4.drop ⟨_,_,vs,rfl,hca,rfl,hvr,rfl⟩ SB⟩
end Go.Proofs.YtmbboaapillefaaGreatDoor
namespace Go.Proofs.YtmbboaapillefaaGreatDoor
open Go Xe Pm
theorem catP_is(a b c d:List ao)(h:a.length+b.length+c.length+d.length<=300000000000):IS s92 [[.sl 4 1 [dP a,dP b,dP c,dP d]]] [[dP (a++b++c++d)]]:=by
 refine uk (e:=70) (sz:=38) rfl rfl rfl (by unfold lim;simp only[QC];omega) ?_;intro w0 M Γ vs hlen hpl hN;obtain⟨v,rfl⟩:∃v,vs=[v]:=by
  match vs,hlen with
  |[v],_=>exact⟨v,rfl⟩
 obtain h0|⟨_,h0,h1⟩:=hpl 0
 .cases h0
 cases h0;have hr:Rd M (.sl 4 1 [dP a,dP b,dP c,dP d]) v:=h1;unfold Rd at hr;obtain⟨ad,cap,rfl,hnc,hcm,hnl,hdl,hsm,hrc⟩:=hr;cases ad with
 |none=>exact J3 (hsm Q1) Q2
 |some p =>
  obtain⟨us,hus,hcl⟩:=xr hrc;have vz:us.length=4:=hus.1;have hfl:[a,b,c,d].flatten=a++b++c++d:=Q2
  have hcon:=Hk ao.enc w0 M Γ p us [a,b,c,d] (λw hw j u hj=>by
   have h5:=hcl j u hj;rw[Rn]at h5
   exact hw.cell h5) hus Q2 (by grind) cap
  rw[vz,hfl]at hcon;intro w hw;refine(hcon w hw).mono ?_;rintro e w' ⟨u,M',Γ',rfl,⟨a1,c1,vs1,rfl,_,rfl,hrd,rfl⟩,hst⟩;exact⟨_,_,_,rfl,⟨a1,c1,vs1,rfl,Sub.refl _,rfl,hrd,by rw[hrd.1];exact eJ (sz:=38) ao.aP _⟩,hst⟩
theorem catV_is(a b:List fi)(h:a.length+b.length<=100000000000):IS Ko [[.sl 2 1 [dV a,dV b]]] [[dV (a++b)]]:=by
 refine uk (e:=197) (sz:=4) rfl rfl rfl (by unfold lim;simp only[QC];omega) ?_;intro w0 M Γ vs hlen hpl hN;obtain⟨v,rfl⟩:∃v,vs=[v]:=by
  match vs,hlen with
  |[v],_=>exact⟨v,rfl⟩
 obtain h0|⟨_,h0,h1⟩:=hpl 0
 .cases h0
 cases h0;have hr:Rd M (.sl 2 1 [dV a,dV b]) v:=h1;unfold Rd at hr;obtain⟨ad,cap,rfl,hnc,hcm,hnl,hdl,hsm,hrc⟩:=hr;cases ad with
 |none=>exact J3 (hsm Q1) Q2
 |some p =>
  obtain⟨us,hus,hcl⟩:=xr hrc;have vz:us.length=2:=hus.1;have hfl:[a,b].flatten=a++b:=Q2
  have hcon:=Hj vt w0 M Γ p us [a,b] (λw hw j u hj=>by
   have h5:=hcl j u hj;rw[Rn]at h5
   exact hw.cell h5) hus Q2 (by grind) cap
  rw[vz,hfl]at hcon;intro w hw;refine(hcon w hw).mono ?_;rintro e w' ⟨u,M',Γ',rfl,⟨a1,c1,vs1,rfl,_,rfl,hrd,rfl⟩,hst⟩;exact⟨_,_,_,rfl,⟨a1,c1,vs1,rfl,Sub.refl _,rfl,hrd,by rw[hrd.1];exact eJ (sz:=4) CY _⟩,hst⟩
noncomputable def partsOk:CN:=⟨C7,wO,catP_is,MX⟩
noncomputable def libOk:LibOk:=⟨Fh,partsOk,Kd⟩
theorem Gg{wd:ByteArray->Bool}{p:av}(hf:IS s44 [p.enc] [[.sl 0 6 []]])(H:HD wd p):IS Mx [p.enc] [[fh (eY (eE (gn wd p)))]]:=DP Fh l6 catV_is Ke hf H
end Go.Proofs.YtmbboaapillefaaGreatDoor
namespace Pm
open Go Xe
theorem GS{P:Program}{f:Nat}{b:Bool}{x:Qw}(h:FD P f [.c (.d (.v x))] [] (.c (.d (.v (.bool b)))) []):Is P ⟨f,⟨[(0,.c .d)],[]⟩,.c .bo,[],false⟩ [[.v x]] [[.v (.bool b)]]:=by
 show HJ P ⟨f,⟨[(0,.c .d)],[]⟩,.c .bo,[],false⟩ ⟨λi=>match Qy i 0 with
  |true=>.c (.d (.v x))
  |false=>su,λ_=>none,0⟩ [[.v (.bool b)]]
 intro w0 Γ0 ρ M lst vs w hl hρ hR;obtain⟨v,rfl⟩:∃v,vs=[v]:=by
  match vs,hl with
  |[v],_=>exact⟨v,rfl⟩
 have h0:SR M ρ (.c (.d (.v x))) v:=by
  rcases hR.sl 0 with h1|⟨u,h1,h2⟩
  .cases h1
  .have h1:some v=some u:=h1
   grind
 refine(h w0 Γ0 ρ M lst [v] w ⟨h0,trivial⟩ ⟨λt=>.inl rfl,λb o h=>(by cases h),λb v hb=>hR.vP b v hb,hR.gg,hR.nd,hR.st,hR.gr⟩).mono ?_;rintro e w' ⟨u,ρ',M',lst',rfl,hM,_,hs,hR2⟩;have hnone:∀i v,ρ' i≠some v:=λi v hi=>by
  rcases hR2.vP i v hi with h1|h1
  .grind
  .cases h1
 have hlst:lst'=[]:=by
  cases lst' with
  |nil=>rfl
  |cons p l=>obtain⟨v,hv⟩:=Option.isSome_iff_exists.1 (hR2.gg p (Qt ..));exact J3 hv (hnone _ _)
 subst hlst
 refine⟨u,[u],λ_=>none,M',[],⟨λk=>match Qy k 0 with
  |true=>.c (.d (.v (.bool b)))
  |false=>su,λ_=>none,0⟩,rfl,rfl,hM,λi v hi hm=>(by cases hm),λi hi=>(by cases hi),λp hp=>(by cases hp),rfl,⟨λt=>?_,λb o h=>(by cases h),λb v hb=>(by cases hb),λp hp=>(by cases hp),List.nodup_nil,hR2.st,hR2.gr⟩⟩
 dsimp only;split
 .rename_i ht;obtain rfl:=Nat.eq_of_beq_eq_true ht;exact .inr ⟨u,rfl,hs⟩
 .exact .inl rfl
end Pm
namespace Go.Proofs.YtmbboaapillefaaGreatDoor
open Go Xe Pm
set_option maxRecDepth 100000
def tbW:Tb:=⟨[],[42],[],[],mB,mA,true,ie,false,true,[]⟩
noncomputable def runW(s:List UInt8):Option (S×List (Nat×O)):=evH 40 Qu tbW (λ_ _ _ _=>none) 40 1 144 [.c (.d (.v (bs s)))] []
def isT:Option (S×List (Nat×O))->Bool
 |some (.c (.d (.v (.bool true))),[])=>true
 |_=>false
theorem isT_ok{x:Option (S×List (Nat×O))}(h:isT x=true):x=some (.c (.d (.v (.bool true))),[]):=by
 unfold isT at h;split at h
 .rfl
 .cases h
def iW:List (List UInt8):=[[117],[117,49],[117,50],[117,51],[117,52],[117,53],[117,54],[117,55],[118],[118,49],[118,50],[118,51],[118,52],[118,53],[118,54],[118,55],[119],[119,49],[119,50],[119,51],[119,52],[119,53],[119,54],[119,55],[80,111,105,110,116],[69,118,101,110,116],[83,116,97,116,101],[79,117,116],[102],[103],[115,116,101,112],[116],[99],[120],[121],[122],[84,105,99,107],[80,117,115,104],[83,101,116],[99,111,117,110,116],[108,111,103],[109,111,114,101],[97],[98],[115],[101],[111,108,100],[115,116,97,116,101],[115,105,103,110,97,108,115],[110,101,120,116],[99,111,114,101],[109,105,108,108],[109]]
noncomputable def okW(s:List UInt8):Bool:=isT (runW s)
theorem wr0:((iW.take 13).all okW)=true:=by kernel_rfl
theorem wr1:(((iW.drop 13).take 13).all okW)=true:=by kernel_rfl
theorem wr2:(((iW.drop 26).take 13).all okW)=true:=by kernel_rfl
theorem wr3:((iW.drop 39).all okW)=true:=by kernel_rfl
theorem JU:(iW.all okW)=true:=by have e:iW=iW.take 13++((iW.drop 13).take 13++((iW.drop 26).take 13++iW.drop 39)):=rfl;rw[e,Wf,Wf,Wf,wr0,wr1,wr2,wr3];rfl
def gd:List ByteArray:=iW.map λs=>⟨s.toArray⟩
theorem vF{b:ByteArray}(h:b∈gd):IS qD [[bM b]] [[vB true]]:=by obtain⟨s,hs,rfl⟩:=QP.1 h;exact GS (Pu (MO ..) (λ_ _ _ _ _ _ h=>by cases h) Oj 40 _ _ _ _ _ _ (isT_ok (List.all_eq_true.1 JU s hs)))
theorem app_ba(s t:List UInt8):(⟨s.toArray⟩:ByteArray)++⟨t.toArray⟩=⟨(s++t).toArray⟩:=by apply ByteArray.ext;simp
def nmA:List (List UInt8):=[[117],[118],[119]]
def nmB:List (List UInt8):=[[],[49],[50],[51],[52],[53],[54],[55]]
theorem nm_word:∀x∈nmA,∀y∈nmB,x++y∈iW:=Q1
theorem word_nm{b:ByteArray}(h:LJ b):b∈gd:=by obtain⟨x,hx,y,hy,rfl⟩:=h;have e1:nm1=nmA.map λs=>⟨s.toArray⟩:=rfl;have e2:nm2=nmB.map λs=>⟨s.toArray⟩:=rfl;rw[e1]at hx;rw[e2]at hy;obtain⟨s,hs,rfl⟩:=QP.1 hx;obtain⟨t,ht,rfl⟩:=QP.1 hy;rw[app_ba];exact QP.2 ⟨_,nm_word s hs t ht,rfl⟩
theorem Jt{L:List ao}(hn:(L.map ao.id).Nodup){x:ao}(hx:x∈L):L.find? (λy=>decide (x.id=y.id))=some x:=by
 induction L with
 |nil=>cases hx
 |cons y L ih =>
  rw[QT,Rw]at hn;rw[Uh];rcases Qz.1 hx with rfl|hx
  .simp
  .have:¬x.id=y.id:=λe=>hn.1 (by grind);rw[J6 this];exact ih hn.2 hx
structure CanL(A:List ao)(q:av):Prop where
 nodup:(A.map ao.id).Nodup
 pm:(A.filter λx=>decide (x.kind=0)).Perm (q.al.map fg)
 pd:(A.filter λx=>decide (x.kind=2)).Perm (q.ae.map cO)
 ps:∀d∈q.ae,(A.filter λx=>decide (x.kind=3) && decide (x.um=d.id)).Perm (cF d)
 pn:∀e∈aY (aM q.ae),jC e∈A
structure Can(q:av):Prop where
 mi:iS (q.al.map aI.id)
 di:iS (q.ae.map aq.id)
 pl:∀d∈q.ae,d.bq=0
 sl:∀d∈q.ae,d.ah.Pairwise λa b=>a.bq<b.bq
 sn:∀d∈q.ae,(d.ah.map aC.id).Nodup
 md:∀m∈q.al,m.ae=(q.ae.filter λd=>decide (d.mod=m.id)).map aq.id
 im:∀d∈q.ae,∃m∈q.al,m.id=d.mod
 us:∀m∈q.al,iS m.bP/\∀u∈m.bP,∃m'∈q.al,m'.id=u
 bare:∀d∈q.ae,¬fR d.kind=true->d.body=oT
 nn:((aY (aM q.ae)).map Ex.id).Nodup
 lim:LimP q
theorem pD{α:Type}{f:α->ar}{l:List α}(h:iS (l.map f)):l.Pairwise λa b=>gZ (f a) (f b)=true:=Sf.1 h
theorem makeOk{A l:List ao}{q:av}(hc:Can q)(hA:CanL A q)(hl:l.Perm A)(hlen:A.length<=1000000000000):HG l q:=by
 have hlf:∀(f:ao->Bool) (R Q:List ao),(A.filter f).Perm R->Q.Perm (l.filter f)->R.Perm Q/\Q.length<=1000000000000:=λf R Q hR hQ=>by
  have h1:Q.Perm R:=(hQ.trans (hl.filter f)).trans hR;refine⟨h1.symm,?_⟩;have:=hQ.length_eq;have:=(hl.filter f).length_eq
  grind
 have hnd:(l.map ao.id).Nodup:=(hl.map ao.id).nodup_iff.2 hA.nodup;have hmod:∀i,(∃m∈q.al,m.id=i)->j4 l i 0=true:=by
  rintro i ⟨m,hm,rfl⟩;have h1:fg m∈l:=by
   have:=hA.pm.mem_iff.2 (QP.2 ⟨m,hm,rfl⟩)
   grind
  have h2:l.find? (λy=>decide (m.id=y.id))=some (fg m):=Jt hnd h1;unfold j4;rw[h2];rfl
 refine⟨hnd,λQ hQ=>?_,λQ hQ=>?_,λd hd Q hQ=>?_,λm hm=>?_,λd hd=>hmod _ (hc.im d hd),λm hm=>⟨(hc.us m hm).1,λu hu=>hmod _ ((hc.us m hm).2 u hu)⟩,λe he=>?_,hc.nn,hc.bare⟩
 .obtain⟨h1,h2⟩:=hlf _ _ Q hA.pm hQ;exact zJ Q _ h2 h1 (Sf.2 (pD hc.mi))
 .obtain⟨h1,h2⟩:=hlf _ _ Q hA.pd hQ;exact zJ Q _ h2 h1 (Sf.2 (pD hc.di))
 .obtain⟨h1,h2⟩:=hlf _ _ Q (hA.ps d hd) hQ;refine wS Q _ h2 h1 (Sf.2 (SH (fun{a b} h=>oF.2 (.inl h)) (hc.sl d hd))) ?_;unfold cF;rw[R3];exact hc.sn d hd
 .have hR:(A.filter λx=>decide (x.kind=2) && decide (x.um=m.id)).Perm ((q.ae.filter λd=>decide (d.mod=m.id)).map cO):=by have h1:=hA.pd.filter λx=>decide (x.um=m.id);rw[List.filter_filter,List.filter_map]at h1;refine(List.Perm.of_eq ?_).trans h1;exact X4 λx _=>Bool.and_comm _ _
  refine⟨(q.ae.filter λd=>decide (d.mod=m.id)).map cO,by rw[hc.md m hm,R3];rfl,λQ hQ=>?_⟩;obtain⟨h1,h2⟩:=hlf _ _ Q hR hQ;have h3:(q.ae.filter λd=>decide (d.mod=m.id)).Pairwise λa b=>gZ a.id b.id=true:=(pD hc.di).filter _;refine wS Q _ h2 h1 (Sf.2 (U4 (fun{a b} ha hb h=>oF.2 (.inr ⟨?_,h⟩)) h3)) ?_
  .show a.bq=b.bq;rw[hc.pl a (Rq.1 ha).1,hc.pl b (Rq.1 hb).1]
  .rw[R3];exact dN (Sf.2 h3)
 .exact Jt hnd (hl.mem_iff.2 (hA.pn e he))
theorem qY{α:Type}{f:α->Bool}{l:List α}(h:∀x∈l,f x=true):l.filter f=l:=List.filter_eq_self.2 h
theorem eC{α:Type}{f:α->Bool}{l:List α}(h:∀x∈l,f x=false):l.filter f=[]:=List.filter_eq_nil_iff.2 λx hx=>by grind
theorem EH{β:Type}{f:aq->List β}{g:β->Bool}{d:aq}(hg:∀x∈f d,g x=true):∀{ds:List aq},(ds.map aq.id).Nodup->(∀e∈ds,e.id≠d.id->∀x∈f e,g x=false)->d∈ds->(ds.flatMap f).filter g=f d
 |[],_,_,hd=>by cases hd
 |e::ds,hn,hno,hd=>by
  rw[QT,Rw]at hn;rw[QD,RF];rcases Qz.1 hd with rfl|hd
  .rw[qY hg,eC,QF]
   grind
  .rw[eC (hno e (Qt ..) λh=>hn.1 (by grind)),Rk];exact EH hg hn.2 (λy hy=>hno y (Qx _ hy)) hd
theorem nE:∀l:List Ex,aY l=l.flatMap cL
 |[]=>rfl
 |e::l=>by rw[aY,QD,nE l]
theorem xf(ds:List aq):(aY (aM ds)).map jC=ds.flatMap eS:=by
 rw[nE];unfold aM;induction ds with
 |nil=>rfl
 |cons d ds ih =>
  rw[QD,<-ih,TE];unfold eS;split
  .rw[QT,QD,Rb]
  .rw[Rk]
theorem Al{ds:List aq}{x:ao}(h:x∈ds.flatMap cF):x.kind=3:=by obtain⟨d,_,h⟩:=S7.1 h;obtain⟨s,_,rfl⟩:=QP.1 h;rfl
theorem uf{ds:List aq}{x:ao}(h:x∈ds.flatMap eS):x.kind=4:=by rw[<-xf]at h;obtain⟨e,_,rfl⟩:=QP.1 h;rfl
theorem kinds0(q:av)(f:ao->Bool)(h:∀x,x.kind≠0->f x=false):(bG q).filter f=(q.al.map fg).filter f:=by
 unfold bG;rw[RF,RF,RF,eC (l:=q.ae.map cO),eC (l:=q.ae.flatMap cF),eC (l:=q.ae.flatMap eS),QF,QF,QF]
 .exact λx hx=>h x (by rw[uf hx];decide)
 .exact λx hx=>h x (by rw[Al hx];decide)
 .intro x hx;obtain⟨d,_,rfl⟩:=QP.1 hx;exact h _ (show ¬(2:Int)=0 by decide)
theorem kinds2(q:av)(f:ao->Bool)(h:∀x,x.kind≠2->f x=false):(bG q).filter f=(q.ae.map cO).filter f:=by
 unfold bG;rw[RF,RF,RF,eC (l:=q.al.map fg),eC (l:=q.ae.flatMap cF),eC (l:=q.ae.flatMap eS),QF,QF,Rk]
 .exact λx hx=>h x (by rw[uf hx];decide)
 .exact λx hx=>h x (by rw[Al hx];decide)
 .intro x hx;obtain⟨d,_,rfl⟩:=QP.1 hx;exact h _ (show ¬(0:Int)=2 by decide)
theorem kinds3(q:av)(f:ao->Bool)(h:∀x,x.kind≠3->f x=false):(bG q).filter f=(q.ae.flatMap cF).filter f:=by
 unfold bG;rw[RF,RF,RF,eC (l:=q.al.map fg),eC (l:=q.ae.map cO),eC (l:=q.ae.flatMap eS),QF,Rk,Rk]
 .exact λx hx=>h x (by rw[uf hx];decide)
 .intro x hx;obtain⟨d,_,rfl⟩:=QP.1 hx;exact h _ (show ¬(2:Int)=3 by decide)
 .intro x hx;obtain⟨d,_,rfl⟩:=QP.1 hx;exact h _ (show ¬(0:Int)=3 by decide)
theorem Ml{q:av}(hc:Can q)(hn:((bG q).map ao.id).Nodup):CanL (bG q) q:=by
 refine⟨hn,.of_eq ?_,.of_eq ?_,λd hd=>.of_eq ?_,λe he=>?_⟩
 .rw[kinds0 q _ λx h=>J6 h,qY];intro x hx;obtain⟨d,_,rfl⟩:=QP.1 hx;rfl
 .rw[kinds2 q _ λx h=>J6 h,qY];intro x hx;obtain⟨d,_,rfl⟩:=QP.1 hx;rfl
 .rw[kinds3 q _ λx h=>by grind];refine EH (λx hx=>?_) (dN hc.di) (λe he hne x hx=>?_) hd
  .obtain⟨s,_,rfl⟩:=QP.1 hx;show(decide ((3:Int)=3) && decide (d.id=d.id))=true;simp
  .obtain⟨s,_,rfl⟩:=QP.1 hx;show(decide ((3:Int)=3) && decide (e.id=d.id))=false
   grind
 .unfold bG;refine List.mem_append_right _ ?_;rw[<-xf]
  grind
structure gT(ds:List aq)(V:ar->Prop)(x:Ex):Prop where
 kd:0<=x.kind/\x.kind<13
 ty:x.ty.size<=2/\(x.kind=11->x.ty=bS)
 nm:(x.aK.length:Int)=mH x
 w1:iV x=false
 cl:fA x.kind->∃d∈ds,d.id=x.ref/\vd x.kind d.kind=true/\fZ x d.ah.length=false
 vs:x.kind=3->V x.ref
theorem gT.ren{ds:List aq}{V:ar->Prop}{x:Ex}(h:gT ds V x)(ids:List ar):gT ds V (bZ ids x):=by
 obtain⟨i,k,n,r,t,l,s⟩:=x;have hl:(iq ids l).length=l.length:=DH ids l;have hr:k≠2->jY ids k r=r:=rL;obtain⟨h1,h2,h3,h4,h5,h6⟩:=h;have e1:mH (bZ ids (.mk i k n r t l s))=mH (.mk i k n r t l s):=by rw[bZ];show(if k=6 then(1:Int) else if k=12 then 2 else if k=10 then max 0 (((iq ids l).length:Int)-1) else 0)=_;rw[hl];rfl
 have e2:iV (bZ ids (.mk i k n r t l s))=iV (.mk i k n r t l s):=by rw[bZ];show(iu (.mk i k n r t l s) || decide (0<=gU (.mk i k n r t l s)/\¬((iq ids l).length:Int)=gU (.mk i k n r t l s)))=_;rw[hl];rfl
 have e3:∀m,fZ (bZ ids (.mk i k n r t l s)) m=fZ (.mk i k n r t l s) m:=λm=>by rw[bZ];show(if k=3\/k=7 then decide (¬((iq ids l).length:Int)=m) else if k=10 then decide (¬((iq ids l).length:Int)=m+1\/m=0) else decide (n<0\/(m:Int)<=n))=_;rw[hl];rfl
 have ec:(bZ ids (.mk i k n r t l s)).ref=jY ids k r:=by rw[bZ];rfl
 have ek:(bZ ids (.mk i k n r t l s)).kind=k:=by rw[bZ];rfl
 refine⟨by rw[ek];exact h1,by rw[ek,show(bZ ids (.mk i k n r t l s)).ty=t by rw[bZ];rfl];exact h2,by rw[e1,show(bZ ids (.mk i k n r t l s)).aK=s by rw[bZ];rfl];exact h3,e2.trans h4,λhc=>?_,λhc=>?_⟩
 .rw[ek]at hc;have hk:k≠2:=by unfold fA at hc;omega
  obtain⟨d,hd,h7,h8,h9⟩:=h5 hc;exact⟨d,hd,by rw[ec,hr hk];exact h7,by rw[ek];exact h8,by grind⟩
 .rw[ek]at hc;rw[ec,hr Q0];exact h6 hc
theorem gT.mv{ds es:List aq}{V W:ar->Prop}{x:Ex}(h:gT ds V x)(hl:cN ds es)(hV:∀r,V r->W r):gT es W x :=
 ⟨h.kd,h.ty,h.nm,h.w1,λhc=>by
  obtain⟨d,hd,h1,h2,h3⟩:=h.cl hc;obtain⟨e,he,hs⟩:=hl.mem hd;have:=bV hs
  exact⟨e,he,by grind,by grind,by grind⟩,λhk=>hV _ (h.vs hk)⟩
theorem dB{Q:Ex->Prop}{i r:ar}{k n:Int}{t:Ty}{l:List Ex}{s:List ByteArray}(hl:∀e∈l,∀x∈cL e,Q x)(h:Q (.mk i k n r t l s)):∀x∈cL (.mk i k n r t l s),Q x:=λx hx=>by
 rw[lH]at hx;rcases QK.1 hx with hx|hx
 .obtain⟨e,he,hx⟩:=kg hx;exact hl e he x hx
 all_goals grind
theorem F6(k:Int)(h:0<=k/\k<13):0<=k/\k<13:=h
theorem dc{k:Int}{A:Prop}(h:¬(k=3\/k=7\/k=8\/k=9\/k=10)):fA k->A:=λc=>J3 c h
theorem Mk.rY{c:fB}(h0:∀d∈c.p.ae,0<d.ah.length){V:ar->Prop}(hV:∀k,∀h:k<c.p.ae.length,kr c k->V c.p.ae[k].id){t:Ty}{env:List cd}{T T':Int}{e:Ex}(h:Mk c t env T e T'):∀x∈cL e,gT c.p.ae V x:=by
 have s0:bS.size<=2:=Q1;induction h with
 |@int env T n hi=>refine dB (λe he=>by cases he) ⟨F6 0 Q1,⟨s0,λh=>by cases h⟩,rfl,?_,dc (k:=0) Q1,λh=>by cases h⟩;show(decide (n < -1099511627776\/1099511627776<n) || false)=false;rw[J6 Q0];rfl
 |@bool env T n hi=>refine dB (λe he=>by cases he) ⟨F6 1 Q1,⟨s0,λh=>by cases h⟩,rfl,?_,dc (k:=1) Q1,λh=>by cases h⟩;show(decide (¬n=0/\¬n=1) || false)=false;rw[J6 Q0];rfl
 |@var env T b hb=>exact dB (λe he=>by cases he) ⟨F6 2 Q1,⟨s0,λh=>by cases h⟩,rfl,rfl,dc (k:=2) Q1,λh=>by cases h⟩
 |@qT env T kids Ts hl _ _ ih=>refine dB (λe he=>?_) ⟨F6 11 Q1,⟨s0,λ_=>rfl⟩,rfl,rfl,dc (k:=11) Q1,λh=>by cases h⟩;obtain⟨i,hi,rfl⟩:=QO.1 he;exact ih i hi
 |@oJ env T T1 d k e hd hk h _ ih =>
  refine dB (λe he=>by rw[QI.1 he];exact ih) ⟨F6 9 Q1,⟨s0,λh=>by cases h⟩,rfl,rfl,λ_=>⟨d,hd,rfl,?_,?_⟩,λh=>by cases h⟩
  .rw[hk];rfl
  .show decide ((k:Int)<0\/(d.ah.length:Int)<=k)=false;exact J6 Q0
 |@rM env T d kids hd hk Ts hl _ _ ih =>
  refine dB (λe he=>?_) ⟨F6 7 Q1,⟨s0,λh=>by cases h⟩,rfl,rfl,λ_=>⟨d,hd,rfl,?_,?_⟩,λh=>by cases h⟩
  .obtain⟨i,hi,rfl⟩:=QO.1 he;exact ih i hi
  .rw[hk];rfl
  .show decide (¬(kids.length:Int)=d.ah.length)=false;exact J6 Q0
 |len _ ih=>exact dB (λe he=>by grind) ⟨F6 4 Q1,⟨s0,λh=>by cases h⟩,rfl,rfl,dc (k:=4) Q1,λh=>by cases h⟩
 |not _ ih=>exact dB (λe he=>by grind) ⟨F6 4 Q1,⟨s0,λh=>by cases h⟩,rfl,rfl,dc (k:=4) Q1,λh=>by cases h⟩
 |@tj t u env T T1 T2 n a b ho _ _ ih1 ih2 =>
  refine dB (λe he=>?_) ⟨F6 4 Q1,⟨s0,λh=>by cases h⟩,rfl,?_,dc (k:=4) Q1,λh=>by cases h⟩
  .rcases Qz.1 he with rfl|he
   .exact ih1
   .rw[QI.1 he];exact ih2
  .have hn:n=0\/n=1\/n=2\/n=3\/n=4\/n=5\/n=6\/n=7\/n=8\/n=10:=by unfold opTy at ho;omega
   rcases hn with rfl|rfl|rfl|rfl|rfl|rfl|rfl|rfl|rfl|rfl <;> rfl
 |Jh _ _ _ ih1 ih2 ih3 =>
  refine dB (λe he=>?_) ⟨F6 5 Q1,⟨s0,λh=>by cases h⟩,rfl,rfl,dc (k:=5) Q1,λh=>by cases h⟩;rcases Qz.1 he with rfl|he
  .exact ih1
  .rcases Qz.1 he with rfl|he
   .exact ih2
   .rw[QI.1 he];exact ih3
 |sC _ _ ih1 ih2 =>
  refine dB (λe he=>?_) ⟨F6 6 Q1,⟨s0,λh=>by cases h⟩,rfl,rfl,dc (k:=6) Q1,λh=>by cases h⟩;rcases Qz.1 he with rfl|he
  .exact ih1
  .rw[QI.1 he];exact ih2
 |sR _ _ _ ih1 ih2 ih3 =>
  refine dB (λe he=>?_) ⟨F6 12 Q1,⟨s0,λh=>by cases h⟩,rfl,rfl,dc (k:=12) Q1,λh=>by cases h⟩;rcases Qz.1 he with rfl|he
  .exact ih1
  .rcases Qz.1 he with rfl|he
   .exact ih2
   .rw[QI.1 he];exact ih3
 |@I0 t env T T1 d a kids ms hd hk Ts hl hm _ _ _ ih1 ih2 =>
  refine dB (λe he=>?_) ⟨F6 10 Q1,⟨s0,λh=>by cases h⟩,?_,rfl,λ_=>⟨d,hd,rfl,?_,?_⟩,λh=>by cases h⟩
  .rcases Qz.1 he with rfl|he
   .exact ih1
   .obtain⟨i,hi,rfl⟩:=QO.1 he;exact ih2 i hi
  .show(ms.length:Int)=max 0 (((a::kids).length:Int)-1);rw[QG];omega
  .rw[hk];rfl
  .show decide (¬((a::kids).length:Int)=d.ah.length+1\/d.ah.length=0)=false;have:=h0 d hd;rw[QG];exact J6 Q0
 |@field env T T1 d j a hd hk h _ ih =>
  refine dB (λe he=>by rw[QI.1 he];exact ih) ⟨F6 8 Q1,⟨s0,λh=>by cases h⟩,rfl,rfl,λ_=>⟨d,hd,rfl,?_,?_⟩,λh=>by cases h⟩
  .rw[hk];rfl
  .show decide ((j:Int)<0\/(d.ah.length:Int)<=j)=false;exact J6 Q0
 |@call env T k kids hd hk hv Ts hl _ _ ih =>
  refine dB (λe he=>?_) ⟨F6 3 Q1,⟨s0,λh=>by cases h⟩,rfl,rfl,λ_=>⟨_,QB hd,rfl,?_,?_⟩,λ_=>hV k hd hv⟩
  .obtain⟨i,hi,rfl⟩:=QO.1 he;exact ih i hi
  .rw[hk];rfl
  .show decide (¬(kids.length:Int)=c.p.ae[k].ah.length)=false;exact J6 Q0
def TyR(l:List Int)(n:Int)(k:Nat)(t:Ty):Prop:=t=bS\/t=qs\/t=b8 bS\/∃i:Nat,i<k/\(i<2\/cj l=true/\i<4)/\t=cp (n+(i:Int))
theorem mL.rank{l:List Int}{n:Int}{k:Nat}{t:Ty}(h:mL l n t)(h2:2<=k)(h4:cj l=true->4<=k):TyR l n k t:=by
 rcases h with h|h|h|h|h|⟨h,h5|h5⟩
 .exact .inl h
 .exact .inr (.inl h)
 .exact .inr (.inr (.inl h))
 .exact .inr (.inr (.inr ⟨0,Q0,.inl Q0,by rw[h];simp⟩))
 .exact .inr (.inr (.inr ⟨1,Q0,.inl Q0,h⟩))
 .exact .inr (.inr (.inr ⟨2,by grind,.inr ⟨h,Q0⟩,h5⟩))
 .exact .inr (.inr (.inr ⟨3,by grind,.inr ⟨h,Q0⟩,h5⟩))
theorem Ox{l:List Int}{n:Int}{k:Nat}{t:Ty}(h:t=bS\/t=qs\/t=b8 bS):TyR l n k t:=by
 rcases h with h|h|h
 .exact .inl h
 .exact .inr (.inl h)
 .exact .inr (.inr (.inl h))
theorem Dr{l:List Int}{n q m:Int}{j k:Nat}(hk:0<k):∀t∈iA l q m (cp n) j,TyR l n k t:=λt ht=>by
 obtain⟨i,_,rfl⟩:=QP.1 ht;rcases tF (er l (q+(i:Int)) m) (cp n) (cp n) with e|e|e|e|e <;> rw[e]
 .exact .inl rfl
 .exact .inr (.inl rfl)
 .exact .inr (.inr (.inl rfl))
 .exact .inr (.inr (.inr ⟨0,hk,.inl Q0,Q2⟩))
 .exact .inr (.inr (.inr ⟨0,hk,.inl Q0,Q2⟩))
theorem rT(l:List Int)(n:Int):bw l n=[gK l n,iC l n]++(if cj l=true then[fG l n,lh n] else[])++([pF l n,if cj l=true then ly n else pG l n,pT l n]++if 0<er l 22 4 then[pC l n] else[]):=by unfold bw fq eQ kG;simp
theorem BF{l:List Int}{n:Int}(hn:1<=n){k:Nat}{p:aN}(hp:p∈bw l n)(h2:2<=k)(h4:cj l=true->4<=k):(∀t∈p.types,TyR l n k t)/\TyR l n k p.au:=by have h:=jA hn p hp;exact⟨λt ht=>mL.rank (lJ.up (h.tys t ht)) h2 h4,mL.rank h.res h2 h4⟩
theorem KG{l:List Int}{n:Int}(hn:1<=n){k:Nat}{p:aN}(h:(bw l n)[k]?=some p):(∀t∈p.types,TyR l n k t)/\TyR l n k p.au:=by
 have hm:p∈bw l n:=TF h;rw[rT]at h
 match k with
 |0 =>
  obtain rfl:gK l n=p:=by grind
  refine⟨λt ht=>?_,.inl rfl⟩;obtain⟨i,_,rfl⟩:=QP.1 ht;have:=eD l (3+(i:Int)) 3 Q0;exact Ox (zO Q0 _ _)
 |1 =>
  obtain rfl:iC l n=p:=by simpa using h
  refine⟨λt ht=>?_,.inl rfl⟩;rcases Qz.1 ht with rfl|ht
  .exact .inl rfl
  .exact Dr Q0 t ht
 |2 =>
  by_cases hf:cj l=true
  .rw[J2 hf]at h;obtain rfl:fG l n=p:=by simpa using h
   refine⟨λt ht=>?_,.inl rfl⟩;rcases Qz.1 ht with rfl|ht
   .exact .inl rfl
   .exact Dr Q0 t ht
  .exact BF hn hm Q0 λc=>J3 c hf
 |3 =>
  by_cases hf:cj l=true
  .rw[J2 hf]at h;obtain rfl:lh n=p:=by simpa using h
   refine⟨λt ht=>?_,.inl rfl⟩;simp only[lh,Qz,Rp,or_false]at ht;rcases ht with rfl|rfl|rfl
   .exact .inr (.inr (.inr ⟨2,Q0,.inr ⟨hf,Q0⟩,rfl⟩))
   .exact .inr (.inr (.inl rfl))
   .exact .inl rfl
  .exact BF hn hm Q0 λc=>J3 c hf
 |k+4=>exact BF hn hm Q0 λ_=>by omega
structure lT(p:aN):Prop where
 name:p.name∈gd
 aK:∀b∈p.aK,b∈gd
 nodup:p.aK.Nodup
 mod:p.kind=0\/p.kind=1->p.mod=0/\p.au=bS
theorem aT{b:ByteArray}(s:List UInt8)(h:s∈iW)(e:b=⟨s.toArray⟩):b∈gd:=by rw[e];exact QP.2 ⟨s,h,rfl⟩
theorem KR(l:List Int)(n:Int):lT (gK l n):=by
 refine⟨aT [80,111,105,110,116] Q1 rfl,λb hb=>?_,?_,λh=>⟨rfl,rfl⟩⟩
 .simp only[gK,Qz,Rp,or_false]at hb;rcases hb with rfl|rfl|rfl
  .exact aT [120] Q1 rfl
  .exact aT [121] Q1 rfl
  .exact aT [122] Q1 rfl
 .show([⟨#[120]⟩,⟨#[121]⟩,⟨#[122]⟩]:List ByteArray).Nodup;decide
theorem KS(l:List Int)(n:Int):lT (iC l n):=by
 refine⟨aT [69,118,101,110,116] Q1 rfl,λb hb=>?_,?_,λh=>⟨rfl,rfl⟩⟩
 .simp only[iC,Qz,Rp,or_false]at hb;rcases hb with rfl|rfl|rfl
  .exact aT [84,105,99,107] Q1 rfl
  .exact aT [80,117,115,104] Q1 rfl
  .exact aT [83,101,116] Q1 rfl
 .show([⟨#[84,105,99,107]⟩,⟨#[80,117,115,104]⟩,⟨#[83,101,116]⟩]:List ByteArray).Nodup;decide
theorem KN(l:List Int)(n:Int):lT (fG l n):=by
 refine⟨aT [83,116,97,116,101] Q1 rfl,λb hb=>?_,?_,λh=>⟨rfl,rfl⟩⟩
 .simp only[fG,Qz,Rp,or_false]at hb;rcases hb with rfl|rfl|rfl
  .exact aT [99,111,117,110,116] Q1 rfl
  .exact aT [108,111,103] Q1 rfl
  .exact aT [109,111,114,101] Q1 rfl
 .show([⟨#[99,111,117,110,116]⟩,⟨#[108,111,103]⟩,⟨#[109,111,114,101]⟩]:List ByteArray).Nodup;decide
theorem pOut_nm(n:Int):lT (lh n):=by
 refine⟨aT [79,117,116] Q1 rfl,λb hb=>?_,?_,λh=>⟨rfl,rfl⟩⟩
 .simp only[lh,Qz,Rp,or_false]at hb;rcases hb with rfl|rfl|rfl
  .exact aT [115,116,97,116,101] Q1 rfl
  .exact aT [115,105,103,110,97,108,115] Q1 rfl
  .exact aT [110,101,120,116] Q1 rfl
 .show([⟨#[115,116,97,116,101]⟩,⟨#[115,105,103,110,97,108,115]⟩,⟨#[110,101,120,116]⟩]:List ByteArray).Nodup;decide
theorem pF_nm(l:List Int)(n:Int):lT (pF l n):=by
 refine⟨aT [102] Q1 rfl,λb hb=>?_,?_,λh=>J3 h (show ¬((2:Int)=0\/(2:Int)=1) by decide)⟩
 .simp only[pF,Qz,Rp,or_false]at hb;rcases hb with rfl|rfl
  .exact aT [97] Q1 rfl
  .exact aT [98] Q1 rfl
 .show([⟨#[97]⟩,⟨#[98]⟩]:List ByteArray).Nodup;decide
theorem NH(n:Int):lT (ly n):=by
 refine⟨aT [115,116,101,112] Q1 rfl,λb hb=>?_,?_,λh=>J3 h (show ¬((3:Int)=0\/(3:Int)=1) by decide)⟩
 .simp only[ly,Qz,Rp,or_false]at hb;rcases hb with rfl|rfl
  .exact aT [115] Q1 rfl
  .exact aT [101] Q1 rfl
 .show([⟨#[115]⟩,⟨#[101]⟩]:List ByteArray).Nodup;decide
theorem pG_nm(l:List Int)(n:Int):lT (pG l n):=by
 refine⟨aT [103] Q1 rfl,λb hb=>?_,?_,λh=>J3 h (show ¬((2:Int)=0\/(2:Int)=1) by decide)⟩
 .simp only[pG,Qz,Rp,or_false]at hb;rw[hb];exact aT [101] Q1 rfl
 .show([⟨#[101]⟩]:List ByteArray).Nodup;decide
theorem pT_nm(l:List Int)(n:Int):lT (pT l n):=by
 refine⟨aT [116] Q1 rfl,λb hb=>?_,?_,λh=>J3 h (show ¬((4:Int)=0\/(4:Int)=1) by decide)⟩
 .simp only[pT,Qz,Rp,or_false]at hb;rcases hb with rfl|rfl
  .exact aT [97] Q1 rfl
  .exact aT [98] Q1 rfl
 .show([⟨#[97]⟩,⟨#[98]⟩]:List ByteArray).Nodup;decide
theorem pC_nm(l:List Int)(n:Int):lT (pC l n):=by
 refine⟨aT [99] Q1 rfl,λb hb=>?_,?_,λh=>J3 h (show ¬((5:Int)=0\/(5:Int)=1) by decide)⟩
 .simp only[pC,Qz,Rp,or_false]at hb;rw[hb];exact aT [111,108,100] Q1 rfl
 .show([⟨#[111,108,100]⟩]:List ByteArray).Nodup;decide
theorem rS{l:List Int}{n:Int}:∀p∈bw l n,lT p:=by
 intro p hp;simp only[bw,fq,eQ,kG,QK,Qz,Rp,or_false]at hp;rcases hp with((((hp|hp)|hp)|hp)|hp)|hp
 .rcases hp with rfl|rfl
  .exact KR l n
  .exact KS l n
 .split at hp
  .simp only[Qz,Rp,or_false]at hp;rcases hp with rfl|rfl
   .exact KN l n
   .exact pOut_nm n
  .cases hp
 .rw[hp];exact pF_nm l n
 .rw[hp];split
  .exact NH n
  .exact pG_nm l n
 .rw[hp];exact pT_nm l n
 .split at hp
  .rw[QI.1 hp];exact pC_nm l n
  .cases hp
theorem DQ(l:List Int)(n:Int):((bw l n).map aN.name).Nodup:=by
 rw[rT];by_cases h1:cj l=true
 .rw[J2 h1,J2 h1];by_cases h2:0<er l 22 4
  .rw[J2 h2];show([xU,qN,B5,nOut,n_f,IY,n_t,n_c]:List ByteArray).Nodup;decide
  .rw[J1 h2];show([xU,qN,B5,nOut,n_f,IY,n_t]:List ByteArray).Nodup;decide
 .rw[J1 h1,J1 h1];by_cases h2:0<er l 22 4
  .rw[J2 h2];show([xU,qN,n_f,n_g,n_t,n_c]:List ByteArray).Nodup;decide
  .rw[J1 h2];show([xU,qN,n_f,n_g,n_t]:List ByteArray).Nodup;decide
theorem NA{l:List Int}{n:Int}{k:Nat}{p:aN}(h:(bw l n)[k]?=some p)(hb:¬(p.kind=0\/p.kind=1)):2<=k/\(cj l=true->4<=k):=by
 rw[rT]at h
 match k with
 |0 =>
  obtain rfl:gK l n=p:=by grind
  exact J3 (.inl rfl) hb
 |1 =>
  obtain rfl:iC l n=p:=by simpa using h
  exact J3 (.inr rfl) hb
 |2 =>
  refine⟨QW _,λhf=>?_⟩;rw[J2 hf]at h;obtain rfl:fG l n=p:=by simpa using h
  exact J3 (.inl rfl) hb
 |3 =>
  refine⟨Q0,λhf=>?_⟩;rw[J2 hf]at h;obtain rfl:lh n=p:=by simpa using h
  exact J3 (.inl rfl) hb
 |k+4=>exact⟨Q0,λ_=>by omega⟩
structure AtP(l:List Int)(k:Nat)(d:aq)(pl:aN)(nx:Int):Prop where
 ith:(cA l)[k]?=some pl
 pos:0<=nx
 id:d.id=fw (ax l+(k:Int))
 kind:d.kind=pl.kind
 mod:d.mod=fw pl.mod
 name:d.name=pl.name
 ah:d.ah=cH pl nx
 au:d.au=pl.au
 bq:d.bq=0
 cg:d.cg=[]
theorem xu(l:List Int):(aL l).ae.length=(cA l).length:=by obtain⟨N,hN,hlk,hnm⟩:=dv l;rw[hlk.len];unfold aV;rw[cE]
theorem po(l:List Int)(k:Nat)(hk:k<(aL l).ae.length):∃pl nx,AtP l k (aL l).ae[k] pl nx:=by
 obtain⟨N,hN,hlk,hnm⟩:=dv l;have hM:=dq l;have h1:k<(aV l).length:=by rw[<-hlk.len];exact hk
 have h2:k<(cA l).length:=by rw[<-xu];exact hk
 have hs:=hlk.get hk h1;have e:(aV l)[k]=jP (cA l)[k] (ax l+k) (ax l+(cA l).length+dJ ((cA l).take k)):=dK _ _ _ h2 _;rw[e]at hs;have:=bV hs;exact⟨(cA l)[k],ax l+(cA l).length+dJ ((cA l).take k),QQ h2,Q0,this.1,this.2.1,this.2.2.1,this.2.2.2.1,this.2.2.2.2.1,this.2.2.2.2.2.1,this.2.2.2.2.2.2.1,this.2.2.2.2.2.2.2⟩
theorem cU(l:List Int){d:aq}(hd:d∈(aL l).ae):∃k,∃hk:k<(aL l).ae.length,∃pl nx,d=(aL l).ae[k]/\AtP l k d pl nx:=by
 obtain⟨k,hk,rfl⟩:=QO.1 hd;obtain⟨pl,nx,h⟩:=po l k hk
 grind
theorem AtP.mem{l:List Int}{k:Nat}{d:aq}{pl:aN}{nx:Int}(h:AtP l k d pl nx):pl∈cA l:=TF h.ith
theorem AtP.ok{l:List Int}{k:Nat}{d:aq}{pl:aN}{nx:Int}(h:AtP l k d pl nx):jj l (ax l) pl:=jA (by have:=dq l;omega) _ h.mem
theorem P2{d:aq}(h:0<=d.kind/\d.kind<=5):bare d↔¬fR d.kind=true:=by
 unfold bare fR
 grind
theorem AtP.bare{l:List Int}{k:Nat}{d:aq}{pl:aN}{nx:Int}(h:AtP l k d pl nx):bare d↔¬fR d.kind=true:=P2 (by rw[h.kind];exact h.ok.kind)
def VisP(l:List Int)(k:Nat)(j3:ar)(r:ar):Prop:=∃j,∃h:j<(aL l).ae.length,j<k/\(aL l).ae[j].id=r/\((aL l).ae[j].mod=j3\/(aL l).ae[j].mod=fw 0)
theorem qF(l:List Int)(k:Nat)(hk:k<(aL l).ae.length)(hnb:¬bare (aL l).ae[k]):∀x∈cL (aL l).ae[k].body,gT (aL l).ae (VisP l k (aL l).ae[k].mod) x:=by
 obtain⟨N,hN,hlk,hnm⟩:=dv l;obtain⟨e,T,T',ids,nx,⟨c,hc1,hc2,hc3,hc4,hc5,hT,hmk⟩,hTN,hlen,hnx,hnx2,hbody⟩:=hnm k hk hnb;have hb:j8 c.p 5:=by have h0:=j8.mv (A3 l) hc2;rw[<-hc1]at h0;exact h0
 have h1:=Mk.rY (V:=VisP l k (aL l).ae[k].mod) hb.e0 (λj hj hv=>?_) hmk
 .intro x hx;rw[hbody,xk]at hx;obtain⟨y,hy,rfl⟩:=QP.1 hx;exact((h1 y hy).ren _).mv (hc2.trans hlk.symm) λr hr=>hr
 .have hL:cN c.p.ae (aL l).ae:=hc2.trans hlk.symm;have hj':j<(aL l).ae.length:=by rw[hL.len]at hj;exact hj
  have hs:=bV (hL.get hj hj');obtain⟨h2,h3⟩:=hv;rw[hc4]at h2;have h4:bN c j=c.p.ae[j]:=by unfold bN;rw[eW hj]
  have h5:(Lr c).id=fw 0:=by unfold Lr;rw[hc1];unfold bO;split <;> rfl
  rw[h4,hc5,h5,hs.2.2.1]at h3;exact⟨j,hj',Q0,hs.1.symm,h3⟩
mutual
theorem CT:∀e:Ex,(∀x∈cL e,x.ty.size<=2/\x.aK.length<=7)->e.wt<=10*e.size
 |.mk i k n r t l s,h=>by have h1:=h (.mk i k n r t l s) (dZ _);have h2:=zw l λx hx=>h x (by rw[cL];exact List.mem_append_left _ hx);have h3:t.size<=2:=h1.1;have h4:s.length<=7:=h1.2;rw[Ex.wt,Ex.size];omega
theorem zw:∀l:List Ex,(∀x∈aY l,x.ty.size<=2/\x.aK.length<=7)->Ex.fb l<=10*Ex.aW l
 |[],_=>by rw[Ex.fb];omega
 |e::l,h=>by have h1:=CT e λx hx=>h x (by rw[aY];exact List.mem_append_left _ hx);have h2:=zw l λx hx=>h x (by rw[aY];exact List.mem_append_right _ hx);rw[Ex.fb,Ex.aW];omega
end
theorem BH(l:List Int):∀d∈(aL l).ae,d.body.wt<=1280:=λd hd=>by
 obtain⟨k,hk,pl,nx,rfl,hA⟩:=cU l hd;by_cases hb:bare (aL l).ae[k]
 .rw[tR l _ hd hb];decide
 .obtain⟨h1,h2⟩:=vR l _ hd hb;have h3:=CT (aL l).ae[k].body λx hx=>by have h4:=qF l k hk hb x hx;have h5:=(h1.all x hx).1;have h6:=h4.nm;refine⟨h4.ty.1,?_⟩;unfold mH at h6;omega
  omega
theorem xw(q:av):(bG q).map ao.id=q.al.map aI.id++q.ae.map aq.id++q.ae.flatMap (λd=>d.ah.map aC.id)++q.ae.flatMap λd=>if fR d.kind then(cL d.body).map Ex.id else[]:=by
 unfold bG;rw[Rb,Rb,Rb,R3,R3,Yd,Yd];refine congr (J4 _ (congr (J4 _ rfl) ?_)) ?_
 .refine J4 (λf=>q.ae.flatMap f) (funext λd=>?_);unfold cF;rw[R3];rfl
 .refine J4 (λf=>q.ae.flatMap f) (funext λd=>?_);unfold eS;split
  .rw[R3];rfl
  .rfl
theorem Nn(ds:List aq):(aY (aM ds)).map Ex.id=ds.flatMap λd=>if fR d.kind then(cL d.body).map Ex.id else[]:=by
 rw[nE];unfold aM;induction ds with
 |nil=>rfl
 |cons d ds ih =>
  rw[QD,<-ih,TE];split
  .rw[QT,QD,Rb]
  .rw[Rk]
theorem qf(l:List Int):((bG (aL l)).map ao.id).Nodup:=by
 obtain⟨n,hn⟩:=Ny l;rw[xw];have e:((aL l).ae.flatMap λd=>if fR d.kind then(cL d.body).map Ex.id else[])=(aL l).ae.flatMap ni:=by
  refine jq rfl λk h1 _=>?_;obtain⟨pl,nx,hA⟩:=po l k h1;unfold ni;by_cases hb:bare (aL l).ae[k]
  .rw[J2 hb,J1 (hA.bare.1 hb)]
  .rw[J1 hb,J2 (by by_cases h:fR (aL l).ae[k].kind=true;exact h;exact J3 (hA.bare.2 h) hb)]
 rw[e,hn];exact dN (sJ Q0 n)
theorem D5{α:Type}{a b:List α}(h:(a++b).Nodup):b.Nodup:=(R7.1 h).2.1
theorem D6{q:av}(h:((bG q).map ao.id).Nodup):((aY (aM q.ae)).map Ex.id).Nodup:=by rw[xw]at h;rw[Nn];exact D5 h
theorem Lv{ds:List aq}{x:Ex}(h:x∈aY (aM ds)):∃d∈ds,fR d.kind=true/\x∈cL d.body:=by
 obtain⟨e,he,hx⟩:=kg h;obtain⟨d,hd,rfl⟩:=QP.1 he
 grind
theorem Ap{x:ar}:∀{a b:List aq},cN a b->(a.filter λd=>decide (d.mod=x)).map aq.id=(b.filter λd=>decide (d.mod=x)).map aq.id
 |[],[],_=>rfl
 |[],_::_,h=>by cases h
 |_::_,[],h=>by cases h
 |c::a,d::b,h=>by
  unfold cN at h;rw[QT,QT,SA]at h;have h1:=bV h.1;have ih:=Ap (x:=x) (a:=a) (b:=b) h.2
  grind
theorem idK_eq{a b:Int}(ha:0<=a)(hb:0<=b):fw a=fw b↔a=b:=⟨λh=>by
 by_cases e:a=b
 .exact e
 .exact J3 h (qV ha hb e),λh=>by rw[h]⟩
theorem zY{m:Int}(hm:0<=m):∀(ps:List aN) (i nx:Int),(∀p∈ps,0<=p.mod)->((br ps i nx).filter λd=>decide (d.mod=fw m)).map aq.id=bL m ps i
 |[],_,_,_=>rfl
 |p::ps,i,nx,h=>by
  have ih:=zY hm ps (i+1) (nx+p.types.length) λq hq=>h q (Qx _ hq);have e:(jP p i nx).mod=fw p.mod:=rfl;rw[br,TE,e,bL];by_cases hp:p.mod=m
  .rw[J2 hp,J2 (J5 (by rw[hp])),QT,ih];rfl
  .rw[J1 hp,J1 (by rw[decide_eq_true_eq,idK_eq (h p (Qt ..)) hm];exact hp),ih];rfl
theorem prog_md(l:List Int):∀m∈(aL l).al,m.ae=((aL l).ae.filter λd=>decide (d.mod=m.id)).map aq.id:=by
 obtain⟨N,hN,hlk,hnm⟩:=dv l;have hp:∀p∈cA l,0<=p.mod:=λp hp=>(jA (by have:=dq l;omega) p hp).mod.1;have hmd:∀m:Int,0<=m->((aL l).ae.filter λd=>decide (d.mod=fw m)).map aq.id=bL m (cA l) (ax l):=λm hm=>by rw[Ap hlk];exact zY hm (cA l) _ _ hp
 show ∀m∈bO l,_;have h0:=hmd 0 Q0;have h1:=hmd 1 Q0;unfold cA at h0 h1;unfold bO;split
 .grind
 .rename_i hM;have hM2:ax l=2:=by have:=dq l;omega
  grind
theorem Dg(p:aN)(nx:Int):(cH p nx).Pairwise λa b=>a.bq<b.bq:=by
 unfold cH;rw[Sf];refine SH (fun{a b} h=>?_) W9
 grind
theorem Ef(l:List Int){m:Int}(h0:0<=m)(h1:m<ax l):∃x∈(aL l).al,x.id=fw m:=by
 have h2:fw m∈(aL l).al.map aI.id:=by
  show fw m∈(bO l).map aI.id;rw[tS];unfold jG;refine QP.2 ⟨m.toNat,Ut.2 Q0,?_⟩
  grind
 grind
theorem zU(l:List Int):∀m∈(aL l).al,m.bP=[]\/(m.bP=[fw 0]/\m.id=fw 1):=by
 show ∀m∈bO l,_;unfold bO
 grind
theorem DO(l:List Int):∀d∈(aL l).ae,d.ah.length<=3:=λd hd=>by obtain⟨k,hk,pl,nx,_,hA⟩:=cU l hd;rw[hA.ah,cw];exact hA.ok.t3
theorem Nz(l:List Int):Can (aL l):=by
 obtain⟨N,hN,hlk,hnm⟩:=dv l;have hM:=dq l;have hF:=KF l;have h8:(aL l).ae.length<=8:=(kE l).len;have hml:(aL l).al.length<=2:=by show(bO l).length<=2;unfold bO;split <;> simp
 have hnd:=qf l;have hg:=(kE l).nm;have hsz:∀d∈(aL l).ae,d.body.size<=128/\d.body.wk<=24:=λd hd=>by
  obtain⟨k,hk,pl,nx,e,hA⟩:=cU l hd;by_cases hb:bare d
  .rw[tR l d hd hb];decide
  .obtain⟨h1,h2⟩:=vR l d hd hb;exact⟨h2,by have:=h1.wk;omega⟩
 have hall:(aY (aM (aL l).ae)).length<=1000000000:=by
  have h1:∀ds:List aq,(∀d∈ds,d.body.wt<=1280)->(aY (aM ds)).length<=1280*ds.length:=λds=>by
   rw[nE];unfold aM;induction ds with
   |nil=>intro _;simp
   |cons d ds ih =>
    intro h;have h2:=ih λe he=>h e (Qx _ he);have h3:=h d (Qt ..);have h4:=yO d.body;rw[TE,QG];split
    .rw[QT,QD,QC];omega
    .omega
  have:=h1 _ (BH l);omega
 refine⟨?_,?_,λd hd=>?_,λd hd=>?_,λd hd=>?_,prog_md l,λd hd=>?_,λm hm=>?_,λd hd hb=>?_,D6 hnd,?_⟩
 .show iS ((bO l).map aI.id);rw[tS];exact sJ Q0 _
 .have e2:(aL l).ae.map aq.id=jG (ax l) (cA l).length:=by rw[Eo hlk];exact tW _ _ _
  rw[e2];exact sJ Q0 _
 .obtain⟨k,hk,pl,nx,_,hA⟩:=cU l hd;exact hA.bq
 .obtain⟨k,hk,pl,nx,_,hA⟩:=cU l hd;rw[hA.ah];exact Dg pl nx
 .obtain⟨k,hk,pl,nx,_,hA⟩:=cU l hd;rw[hA.ah,xD];exact dN (sJ hA.pos _)
 .obtain⟨k,hk,pl,nx,_,hA⟩:=cU l hd;rw[hA.mod];have:=hA.ok.mod;exact Ef l this.1 this.2
 .rcases zU l m hm with e|⟨e,_⟩
  .rw[e];exact⟨SK,λu hu=>by cases hu⟩
  .rw[e];refine⟨List.pairwise_singleton ..,λu hu=>?_⟩;rw[QI.1 hu];exact Ef l Q0 Q0
 .obtain⟨k,hk,pl,nx,_,hA⟩:=cU l hd;exact tR l d hd (hA.bare.2 hb)
 .refine⟨Q0,Q0,λd hd=>by have:=DO l d hd;omega,λm hm=>⟨(hF.u m hm).2,(hF.u m hm).1⟩,λe he=>?_,λd hd=>(hsz d hd).1,λd hd=>(hsz d hd).2,λd hd=>?_,hall⟩
  .obtain⟨d,hd,hb,hx⟩:=Lv he;obtain⟨k,hk,pl,nx,_,hA⟩:=cU l hd;exact((vR l d hd λh=>hA.bare.1 h hb).1.all e hx).1
  .obtain⟨k,hk,pl,nx,_,hA⟩:=cU l hd;have h1:=BH l d hd;have h2:=kj (hg.gr d hd);refine⟨Q0,Q0,by rw[hA.cg];decide,λs hs=>by have:=kj (hg.gs d hd s hs);omega⟩
structure nS(p:av):Prop where
 can:Can p
 nd:((bG p).map ao.id).Nodup
 siz:∀d∈p.ae,d.body.wt<=1280/\d.ah.length<=3/\d.au.size<=2/\d.cg=[]/\∀s∈d.ah,s.ty.size<=2
 wm:∀m∈p.al,m.name∈gd
 wd:∀d∈p.ae,d.name∈gd
 ws:∀d∈p.ae,∀s∈d.ah,s.name∈gd
 wn:∀d∈p.ae,fR d.kind=true->∀x∈cL d.body,∀b∈x.aK,b∈gd
theorem wK{α:Type}(f:α->Nat)(n:Nat):∀l:List α,(∀x∈l,f x<=n)->(l.map f).sum<=l.length*n
 |[],_=>by simp
 |x::l,h=>by have h1:=h x (Qt ..);have h2:=wK f n l λy hy=>h y (Qx _ hy);rw[QT,SN,QG,RA];omega
section
variable {p:av} (H:nS p)
include H
theorem nS.gh{d:aq}(hd:d∈p.ae):fK d<=2000:=by
 obtain⟨h1,h2,h3,h4,h5⟩:=H.siz d hd;have h6:=wK (λs:aC=>s.ty.size) 2 d.ah h5;unfold fK
 grind
theorem nS.jK:Qm p:=by have h1:=wK fK 2000 p.ae λd hd=>H.gh hd;have h2:=H.can.lim.al;have h3:=H.can.lim.ae;have:p.ae.length*2000<=32*2000:=Rz _ h3;exact⟨Q0,Q0,λm hm=>by have:=(H.can.lim.u7 m hm).2;omega⟩
theorem nS.all_len:(bG p).length<=200000:=by
 have h1:=wK fK 2000 p.ae λd hd=>H.gh hd;have h2:=H.can.lim.al;have h3:=H.can.lim.ae;have h4:=qw p.ae;have h5:=qL p.ae;have:p.ae.length*2000<=32*2000:=Rz _ h3;unfold bG
 grind
theorem nS.fit:∀x∈bG p,x.Fit:=λx hx=>by
 have z0:([]:List ar).length<=1000000000000:=Q1;have z1:([]:List ByteArray).length<=1000000000000:=Q1;have z2:C2.size<=1000000000000:=Q1;have f0:BW.Fit:=⟨Q1,Q1,Q1⟩;unfold bG at hx;rcases QK.1 hx with hx|hx
 .rcases QK.1 hx with hx|hx
  .rcases QK.1 hx with hx|hx
   .obtain⟨m,hm,rfl⟩:=QP.1 hx;have:=(H.can.lim.u7 m hm).2;exact⟨by show m.bP.length<=_;omega,z2,z1,z2,f0⟩
   .obtain⟨d,hd,rfl⟩:=QP.1 hx;obtain⟨h1,h2,h3,h4,h5⟩:=H.siz d hd;exact⟨z0,by show d.au.size<=_;omega,by show d.cg.length<=_;rw[h4];decide,z2,f0⟩
  .obtain⟨d,hd,hx⟩:=S7.1 hx;obtain⟨s,hs,rfl⟩:=QP.1 hx;obtain⟨h1,h2,h3,h4,h5⟩:=H.siz d hd;have:=h5 s hs;exact⟨z0,z2,z1,by show s.ty.size<=_;omega,f0⟩
 .obtain⟨d,hd,hx⟩:=S7.1 hx;unfold eS at hx;split at hx
  .obtain⟨e,he,rfl⟩:=QP.1 hx;obtain⟨h1,h2,h3,h4,h5⟩:=H.siz d hd;have h6:=JQ d.body e he;have h7:=Ex.cT e;have h8:=Ex.o7 e.kids;exact⟨z0,z2,z1,z2,⟨by show e.ty.size<=_;omega,by show(e.kids.map Ex.id).length<=_;rw[QS];omega,by show e.aK.length<=_;omega⟩⟩
  .cases hx
theorem nS.formed:IS s44 [p.enc] [[.sl 0 6 []]]:=by have h1:=H.all_len;exact LW libOk p H.jK (makeOk H.can (Ml H.can H.nd) (wO _) Q0) H.can.lim H.fit Q0
theorem nS.wt(i:ar):(an p i).wt<=2000:=by
 rcases mP p i with h|h
 .rw[h];decide
 .obtain⟨h1,h2,h3,h4,h5⟩:=H.siz _ h;have:=Di h5;unfold aq.wt;omega
theorem nS.qt{d:aq}(hd:d∈p.ae):an p d.id=d:=by
 obtain⟨k,hk,rfl⟩:=QO.1 hd;refine(iX hk (λj hj hlt e=>?_) rfl).2;have h:=Sy.1 (dN H.can.di) j k (by grind) (by grind) hlt
 grind
theorem nS.Gh:HD (λ_=>true) p:=by
 have h3:=H.can.lim.ae;have hu:∀i,(aU p i).length<=2000:=λi=>SS (tt p i) (H.wt i);refine⟨⟨Q0,λj=>by have:=H.wt j;omega⟩,dN H.can.di,dN H.can.mi,by have:=H.can.lim.al;omega,λm hm=>by have:=H.can.lim.u7 m hm;omega,λd hd=>?_,λi=>?_,λi=>by grind,λm hm=>vF (H.wm m hm),λm hm i hi=>?_,λd hd s hs=>vF (H.ws d hd s hs),λd hd hb x hx b hbn=>vF (H.wn d hd hb x hx b hbn)⟩
 .obtain⟨h1,h2,h3,h4,h5⟩:=H.siz d hd;omega
 .unfold mu rH;have h1:=wK (λi=>(aU p i).length) 2000 ((gM p).filter λi=>decide (i ∉ ([]:List ar))) λi _=>hu i
  grind
 .rw[H.can.md m hm]at hi;obtain⟨d,hd,rfl⟩:=QP.1 hi;have hd:=(Rq.1 hd).1;rw[H.qt hd];exact vF (H.wd d hd)
theorem nS.ot:IS Mx [p.enc] [[fh (eY (eE (gn (λ_=>true) p)))]]:=Gg H.formed H.Gh
end
theorem tP(l:List Int):nS (aL l):=by
 have hg:=(kE l).nm;refine⟨Nz l,qf l,λd hd=>?_,?_,λd hd=>?_,λd hd s hs=>?_,λd hd hb x hx b hbn=>?_⟩
 .obtain⟨k,hk,pl,nx,_,hA⟩:=cU l hd;exact⟨BH l d hd,DO l d hd,kj (hg.gr d hd),hA.cg,λs hs=>kj (hg.gs d hd s hs)⟩
 .show ∀m∈bO l,_;have h0:qg∈gd:=aT [99,111,114,101] Q1 rfl;have h1:Ak∈gd:=aT [109,105,108,108] Q1 rfl;unfold bO
  grind
 .obtain⟨k,hk,pl,nx,_,hA⟩:=cU l hd;rw[hA.name];exact(rS _ hA.mem).name
 .obtain⟨k,hk,pl,nx,_,hA⟩:=cU l hd;rw[hA.ah]at hs;unfold cH at hs;obtain⟨j,hj,rfl⟩:=QP.1 hs;have h1:=Ut.1 hj;have h2:=hA.ok.aK;show pl.aK.getD j Xr∈gd;rw[eW Q0];exact(rS _ hA.mem).aK _ (QB _)
 .obtain⟨k,hk,pl,nx,_,hA⟩:=cU l hd;exact word_nm (((vR l d hd λh=>hA.bare.1 h hb).1.all x hx).2 b hbn)
abbrev wT:ByteArray->Bool:=λ_=>true
theorem OV{b:ByteArray}{l:List ByteArray}(h:b ∉ l):inS b l=false:=by
 unfold inS
 grind
theorem uc{ids:List ar}{nms:List ByteArray}(h:nms.Nodup):eU wT ids nms nms.length=[]:=by
 unfold eU;rw[S8];intro i hi;have hi:=Ut.1 hi;have e:nms=nms.take i++nms[i]::nms.drop (i+1):=by simp_all
 have h2:(nms.take i++nms[i]::nms.drop (i+1)).Nodup:=by grind
 rw[R7,Rw]at h2;have e1:Fs wT nms i=false:=by unfold Fs;rw[eW hi,OV λhm=>h2.2.2 _ hm _ (Qt ..) rfl,OV h2.2.1.1];rfl
 rw[e1];rfl
theorem node_w{p:av}{V:ar->Prop}(qt:∀d∈p.ae,an p d.id=d){x:Ex}(h:gT p.ae V x):gX p x=(false,false):=by
 have hd:fW p x=false:=by
  unfold fW;split
  .rename_i hk;rw[h.ty.2 hk,J5 (ok0 p)];rfl
  .rfl
 unfold gX;rw[J1 (by have:=h.kd;omega)];by_cases hc:fA x.kind
 .obtain⟨d,hdm,hid,hf,hw⟩:=h.cl hc;have e:an p x.ref=d:=by grind
  rw[J1 (by grind),e,J1 (by rintro(h1|h1);exact h1 ⟨d,hdm,hid⟩;rw[hf]at h1;cases h1),h.w1,hw,hd];rfl
 .rw[J2 hc,h.w1,hd]
theorem Oc{V:ar->Prop}{ds:List aq}{x:Ex}(h:gT ds V x):iE wT x=false:=by unfold iE;rw[J6 (by rw[h.nm];simp)];simp
theorem Lh{p:av}{V:ar->Prop}(qt:∀d∈p.ae,an p d.id=d){x:Ex}(h:gT p.ae V x){a:List fi}(hv:tq x a=false):rZ wT p x a=[]:=by unfold rZ;rw[node_w qt h,Oc h,hv];rfl
theorem JX{x:Ex}{a:List fi}(h:x.kind=2->(x.ref,x.n)∈a):tq x a=false:=by
 unfold tq
 grind
theorem vo(p:av)(i:ar)(k:Int):∀(l:List Ex) (j:Nat) (a:List fi),(∀m (h:m<l.length),fa wT p l[m] (a++jh i k (j+m))=[])->b6 wT p i k l j a=[]
 |[],_,_,_=>by rw[b6]
 |x::l,j,a,h=>by
  have h0:fa wT p x (a++jh i k j)=[]:=h 0 Q2;rw[b6,h0,Rk];exact vo p i k l (j+1) a λm hm=>by
   have:=h (m+1) (by grind)
   grind
def HL(G:kZ)(a:List fi):Prop:=∀r n u,qi G r n=some u->(r,n)∈a
theorem HL.app{G:kZ}{a:List fi}(h:HL G a)(b:List fi):HL G (a++b):=λr n u hu=>List.mem_append_left _ (h r n u hu)
theorem HL.cons{G:kZ}{a:List fi}{i:ar}{n:Int}{u:Ty}(h:HL G a)(hm:(i,n)∈a):HL ((i,n,u)::G) a:=λr m v hv=>by
 unfold qi at hv;rw[Uh]at hv;by_cases hc:i=r/\n=m
 .grind
 .rw[J6 (show ¬((i,n,u).1=r/\(i,n,u).2.1=m) from hc)]at hv;exact h r m v hv
theorem Mq{p:av}{V:ar->Prop}(qt:∀d∈p.ae,an p d.id=d){G:kZ}{e:Ex}{t:Ty}(hw:gy p G e t):(∀x∈cL e,gT p.ae V x)->∀a:List fi,HL G a->fa wT p e a=[]:=by
 have x8:∀{x:Ex},(∀y∈cL x,gT p.ae V y)->∀k∈x.kids,∀y∈cL k,gT p.ae V y:=fun{x} h k hk y hy=>h y (by
  rw[lH]
  exact List.mem_append_left _ (mK hk hy))
 have hd:∀{x:Ex} {a:List fi},(∀y∈cL x,gT p.ae V y)->(x.kind=2->(x.ref,x.n)∈a)->(∀m (h:m<x.kids.length),fa wT p x.kids[m] (a++jh x.id x.kind m)=[])->fa wT p x a=[]:=fun{x a} h hv hk=>by
  rw[A1,Lh qt (h x (dZ x)) (JX hv),Rk];refine vo p _ _ _ 0 a λm hm=>?_
  grind
 induction hw with
 |int _=>exact λh a _=>hd h (λc=>by cases c) λm hm=>J3 hm (RP _)
 |bool _=>exact λh a _=>hd h (λc=>by cases c) λm hm=>J3 hm (RP _)
 |var hl=>exact λh a ha=>hd h (λ_=>ha _ _ _ hl) λm hm=>J3 hm (RP _)
 |qT _ _ ih=>exact λh a ha=>hd h (λc=>by cases c) λm hm=>ih m hm (x8 h _ (QB hm)) _ (ha.app _)
 |@oJ G i t s d k e _ _ _ _ ih =>
  exact λh a ha=>hd h (λc=>by cases c) λm hm=>by
   obtain rfl:m=0:=by have hm:m<[e].length:=hm;simp at hm;exact hm
   exact ih (x8 h _ (Qt ..)) _ (ha.app _)
 |rM _ _ _ _ ih=>exact λh a ha=>hd h (λc=>by cases c) λm hm=>ih m hm (x8 h _ (QB hm)) _ (ha.app _)
 |@len G i r t s e _ ih =>
  exact λh a ha=>hd h (λc=>by cases c) λm hm=>by
   obtain rfl:m=0:=by have hm:m<[e].length:=hm;simp at hm;exact hm
   exact ih (x8 h _ (Qt ..)) _ (ha.app _)
 |@not G i r t s e _ ih =>
  exact λh a ha=>hd h (λc=>by cases c) λm hm=>by
   obtain rfl:m=0:=by have hm:m<[e].length:=hm;simp at hm;exact hm
   exact ih (x8 h _ (Qt ..)) _ (ha.app _)
 |@tj G i r n t u v s x y _ _ _ ih1 ih2 =>
  exact λh a ha=>hd h (λc=>by cases c) λm hm=>by
   match m,hm with
   |0,_=>exact ih1 (x8 h _ (Qt ..)) _ (ha.app _)
   |1,_=>exact ih2 (x8 h _ (Qx _ (Qt ..))) _ (ha.app _)
   |m+2,hm=>exact J3 (show m+2<2 from hm) Q0
 |Jh _ _ _ ih1 ih2 ih3 =>
  exact λh a ha=>hd h (λc=>by cases c) λm hm=>by
   match m,hm with
   |0,_=>exact ih1 (x8 h _ (Qt ..)) _ (ha.app _)
   |1,_=>exact ih2 (x8 h _ (Qx _ (Qt ..))) _ (ha.app _)
   |2,_=>exact ih3 (x8 h _ (Qx _ (Qx _ (Qt ..)))) _ (ha.app _)
   |m+3,hm=>exact J3 (show m+3<3 from hm) Q0
 |sC _ _ ih1 ih2 =>
  exact λh a ha=>hd h (λc=>by cases c) λm hm=>by
   match m,hm with
   |0,_=>exact ih1 (x8 h _ (Qt ..)) _ (ha.app _)
   |1,_=>exact ih2 (x8 h _ (Qx _ (Qt ..))) _ ((ha.app _).cons (List.mem_append_right _ (QI.2 rfl)))
   |m+2,hm=>exact J3 (show m+2<2 from hm) Q0
 |sR _ _ _ ih1 ih2 ih3 =>
  exact λh a ha=>hd h (λc=>by cases c) λm hm=>by
   match m,hm with
   |0,_=>exact ih1 (x8 h _ (Qt ..)) _ (ha.app _)
   |1,_=>exact ih2 (x8 h _ (Qx _ (Qt ..))) _ (ha.app _)
   |2,_=>exact ih3 (x8 h _ (Qx _ (Qx _ (Qt ..)))) _ (((ha.app _).cons (List.mem_append_right _ (Qt ..))).cons (List.mem_append_right _ (Qx _ (Qt ..))))
   |m+3,hm=>exact J3 (show m+3<3 from hm) Q0
 |@I0 G i r n t v s d x kids _ _ _ _ _ ih1 ih2 =>
  exact λh a ha=>hd h (λc=>by cases c) λm hm=>by
   match m,hm with
   |0,_=>exact ih1 (x8 h _ (Qt ..)) _ (ha.app _)
   |m+1,hm =>
    have hm':m<kids.length:=by have:m+1<(x::kids).length:=hm;rw[QG]at this;omega
    refine ih2 m hm' (x8 h _ (Qx _ (QB hm'))) _ ((ha.app _).cons (List.mem_append_right _ ?_));show(i,(m:Int))∈jh i 10 (m+1);unfold jh;rw[J1 (λc=>J3 c.1 Q1),J1 (λc=>J3 c.1 Q1),J2 ⟨rfl,Q0⟩,show((m+1:Nat):Int)-1=m by omega];exact QI.2 rfl
 |@field G i r t s d j e _ _ _ _ ih =>
  exact λh a ha=>hd h (λc=>by cases c) λm hm=>by
   obtain rfl:m=0:=by have hm:m<[e].length:=hm;simp at hm;exact hm
   exact ih (x8 h _ (Qt ..)) _ (ha.app _)
 |call _ _ _ _ ih=>exact λh a ha=>hd h (λc=>by cases c) λm hm=>ih m hm (x8 h _ (QB hm)) _ (ha.app _)
structure uG(p:av):Prop where
 lg:nS p
 nmM:(p.al.map aI.name).Nodup
 nmD:∀m∈p.al,((p.ae.filter λd=>decide (d.mod=m.id)).map aq.name).Nodup
 nmS:∀d∈p.ae,(d.ah.map aC.name).Nodup
 vs:∀d∈p.ae,(∀s∈d.ah,cr p s.ty)/\cr p d.au
 bd:∀d∈p.ae,fR d.kind=true->fa wT p d.body (iT d)=[]
 us:∀k (hk:k<p.ae.length),∀x∈aU p p.ae[k].id,∃j,∃hj:j<p.ae.length,j<k/\p.ae[j].id=x
theorem xm{p:av}{Q:ar->Prop}(hQ:∀x,Q x->∀y∈aU p x,Q y):∀(n:Nat) (S T:List ar),(∀x∈S,Q x)->(∀x∈T,Q x)->∀x∈iB p n S T,Q x
 |0,S,T,hS,_=>by rw[iB];exact hS
 |n+1,S,[],hS,_=>by rw[iB];exact hS
 |n+1,S,y::T,hS,hT=>by
  rw[iB];have hy:=hT y (Qt ..);have hT':∀x∈T,Q x:=λx hx=>hT x (Qx _ hx);split
  .exact xm hQ n S T hS hT'
  .refine xm hQ n _ _ (λx hx=>?_) (λx hx=>?_)
   all_goals grind
theorem Can.inj{p:av}(h:Can p){i j:Nat}(hi:i<p.ae.length)(hj:j<p.ae.length)(e:p.ae[i].id=p.ae[j].id):i=j:=by
 have hn:(p.ae.map aq.id).Nodup:=dN h.di;have h2:∀a b (ha:a<p.ae.length) (hb:b<p.ae.length),a<b->p.ae[a].id≠p.ae[b].id:=λa b ha hb hab=>by
  have h:=Sy.1 hn a b (by grind) (by grind) hab
  grind
 grind
section
variable {p:av} (H:uG p)
include H
theorem uG.N6:∀d∈p.ae,d.id ∉ zi p d.id:=λd hd h=>by
 obtain⟨k,hk,rfl⟩:=QO.1 hd;have hQ:∀x,(∃j,∃hj:j<p.ae.length,j<k/\p.ae[j].id=x)->∀y∈aU p x,∃j,∃hj:j<p.ae.length,j<k/\p.ae[j].id=y:=by
  rintro x ⟨j,hj,hjk,rfl⟩ y hy;obtain⟨i,hi,hij,e⟩:=H.us j hj y hy
  grind
 obtain⟨j,hj,hjk,e⟩:=xm hQ _ _ _ (λx hx=>by cases hx) (H.us k hk) _ h;have:=H.lg.can.inj hj hk e;omega
theorem uG.bP:wE p=p.ae.flatMap (lz p):=by unfold wE;refine jq rfl λk h1 _=>?_;unfold ku;rw[J1 (H.N6 _ (QB h1)),QF]
theorem uG.PB:∀d∈p.ae,yz wT p d=[]:=λd hd=>by
 have h1:cy p d.ah=[]:=by unfold cy;rw[S8];intro s hs;rw[J2 ((H.vs d hd).1 s hs)]
 unfold yz;rw[h1,uc (H.nmS d hd)];split
 .rename_i hb;rw[J2 (H.vs d hd).2,H.bd d hd hb];rfl
 .rfl
theorem uG.Oi:p.al.flatMap (zh wT p)=[]:=by
 rw[S8];intro m hm;unfold zh;refine uc ?_;rw[H.lg.can.md m hm,R3];have e:((p.ae.filter λd=>decide (d.mod=m.id)).map ((λi=>(an p i).name) ∘ aq.id))=(p.ae.filter λd=>decide (d.mod=m.id)).map aq.name:=by refine TM λd hd=>?_;show(an p d.id).name=d.name;rw[H.lg.qt (Rq.1 hd).1]
 rw[e];exact H.nmD m hm
theorem uG.Gh:gn wT p=p.ae.flatMap (lz p):=by unfold gn Eg;rw[uc H.nmM,H.Oi,H.bP,S8.2 H.PB];rfl
end
theorem Jm{p:av}(qt:∀d∈p.ae,an p d.id=d){t:Ty}(h:nL p t):cr p t:=by
 rcases h with rfl|rfl|rfl|⟨d,hd,hk,rfl⟩
 .exact ok0 p
 .exact okL p
 .exact okList p
 .exact okOf ⟨⟨d,hd,rfl⟩,by grind⟩
theorem GA{l:List Int}{n:Int}{k:Nat}{t:Ty}(h:TyR l n k t){z:ar}(hz:z∈cR t):∃i:Nat,i<k/\(i<2\/cj l=true/\i<4)/\z=fw (n+(i:Int)):=by
 rcases h with rfl|rfl|rfl|⟨i,hi,h2,rfl⟩
 .have e:cR bS=[]:=rfl;rw[e]at hz;cases hz
 .have e:cR qs=[]:=rfl;rw[e]at hz;cases hz
 .have e:cR (b8 bS)=[]:=rfl;rw[e]at hz;cases hz
 .have e:cR (cp (n+(i:Int)))=[fw (n+(i:Int))]:=rfl
  grind
theorem KH{l:List Int}{n:Int}{i:Nat}{p:aN}(h:(bw l n)[i]?=some p)(hi:i<2\/cj l=true/\i<4):p.mod=0:=by
 rw[rT]at h
 match i with
 |0 =>
  obtain rfl:gK l n=p:=by grind
  rfl
 |1 =>
  obtain rfl:iC l n=p:=by simpa using h
  rfl
 |2 =>
  have hf:cj l=true:=by grind
  rw[J2 hf]at h;obtain rfl:fG l n=p:=by simpa using h
  rfl
 |3 =>
  have hf:cj l=true:=by grind
  rw[J2 hf]at h;obtain rfl:lh n=p:=by simpa using h
  rfl
 |i+4=>omega
theorem Lu{ss:List aC}{z:ar}(h:z∈kA ss):∃s∈ss,z∈cR s.ty:=by
 unfold kA at h
 grind
theorem Oq{p:av}{i x:ar}(h:x∈aU p i):dy p i/\x∈DN (an p i)/\dy p x:=by
 unfold aU at h;split at h
 .rename_i hd;obtain⟨h1,h2⟩:=Rq.1 h;refine⟨hd,?_,by unfold dT at h2;exact J7 h2⟩;rcases((kN SK).2 x).1 h1 with h3|h3
  .exact h3
  .cases h3
 .cases h
theorem ID(l:List Int)(k:Nat)(hk:k<(aL l).ae.length):∀x∈aU (aL l) (aL l).ae[k].id,∃j,∃hj:j<(aL l).ae.length,j<k/\(aL l).ae[j].id=x/\((aL l).ae[j].mod=(aL l).ae[k].mod\/(aL l).ae[j].mod=fw 0):=by
 have hW:=tP l;have hn:1<=ax l:=by have:=dq l;omega
 obtain⟨pl,nx,hA⟩:=po l k hk;have hr:=KG hn hA.ith;have hlen:=xu l;have hty:∀(t:Ty) (z:ar),TyR l (ax l) k t->z∈cR t->∃j,∃hj:j<(aL l).ae.length,j<k/\(aL l).ae[j].id=z/\((aL l).ae[j].mod=(aL l).ae[k].mod\/(aL l).ae[j].mod=fw 0):=λt z ht hz=>by obtain⟨i,hi,h2,rfl⟩:=GA ht hz;obtain⟨pl',nx',hA'⟩:=po l i Q0;refine⟨i,Q0,hi,hA'.id,.inr ?_⟩;rw[hA'.mod,KH hA'.ith h2]
 intro x hx;obtain⟨_,hx,_⟩:=Oq hx;rw[hW.qt (QB hk)]at hx;unfold DN at hx;rcases QK.1 hx with hx|hx
 .rcases QK.1 hx with hx|hx
  .rw[hA.au]at hx;exact hty _ _ hr.2 hx
  .obtain⟨s,hs,hx⟩:=Lu hx;rw[hA.ah]at hs;exact hty _ _ (hr.1 _ (eR hs)) hx
 .split at hx
  .rename_i hb;have hnb:¬bare (aL l).ae[k]:=by unfold lF at hb;unfold bare;omega
   obtain⟨y,hy,hx⟩:=S7.1 hx;have hN:=qF l k hk hnb y hy;unfold pZ at hx;rcases QK.1 hx with hx|hx
   .unfold DV at hx;split at hx
    .rename_i hc;rw[QI.1 hx];by_cases h3:y.kind=3
     .obtain⟨j,hj,hjk,e,hm⟩:=hN.vs h3;exact⟨j,hj,hjk,e,hm⟩
     .obtain⟨d,hd,hid,hf,_⟩:=hN.cl hc;obtain⟨j,hj,rfl⟩:=QO.1 hd;obtain⟨pl',nx',hA'⟩:=po l j hj;have hk01:pl'.kind=0\/pl'.kind=1:=by
       rw[<-hA'.kind];unfold vd at hf
       grind
      obtain⟨hjl,e⟩:=Se.1 hA'.ith;have hm0:=((rS _ hA'.mem).mod hk01).1;have h5:j<2\/(cj l=true/\j<4):=by rw[<-e]at hk01;exact zZ (l:=l) (n:=ax l) (j:=j) hjl hk01
      have h6:=NA hA.ith (by rw[<-hA.kind];exact hnb);refine⟨j,hj,?_,hid,.inr (by rw[hA'.mod,hm0])⟩
      grind
    .cases hx
   .unfold ownT at hx;split at hx
    .rename_i h11;rw[hN.ty.2 h11]at hx;exact J3 hx (show x ∉ cR bS by rw[show cR bS=[] from rfl];simp)
    .cases hx
  .cases hx
theorem tQ(l:List Int):uG (aL l):=by
 have hW:=tP l;have hT:=Gf l;have hg:=(kE l).nm;obtain⟨N,hN,hlk,hnm⟩:=dv l;refine⟨hW,?_,?_,λd hd=>?_,λd hd=>⟨λs hs=>Jm hT.qt (hg.gs d hd s hs),Jm hT.qt (hg.gr d hd)⟩,λd hd hb=>?_,λk hk x hx=>?_⟩
 .show((bO l).map aI.name).Nodup;unfold bO;split
  .grind
  .show([qg,Ak]:List ByteArray).Nodup;decide
 .refine λm _=>List.Nodup.sublist (Y3 _ List.filter_sublist) ?_;have e:(aL l).ae.map aq.name=(cA l).map aN.name:=by
   apply T5
   .rw[QS,QS,xu]
   .intro k h1 h2;rw[QS]at h1 h2;rw[RG,RG];obtain⟨pl,nx,hA⟩:=po l k h1;obtain⟨_,e⟩:=Se.1 hA.ith;rw[e];exact hA.name
  rw[e];exact DQ l (ax l)
 .obtain⟨k,hk,pl,nx,_,hA⟩:=cU l hd;have h2:=hA.ok.aK;have e:d.ah.map aC.name=pl.aK.take pl.types.length:=by
   rw[hA.ah];unfold cH;rw[R3];apply T5
   all_goals grind
  rw[e];exact(rS _ hA.mem).nodup.sublist (List.take_sublist _ _)
 .obtain⟨k,hk,pl,nx,rfl,hA⟩:=cU l hd;have hnb:¬bare (aL l).ae[k]:=λh=>hA.bare.1 h hb;refine Mq hT.qt (hT.body _ hd hnb) (qF l k hk hnb) _ λr n u hu=>?_;unfold qi at hu;rw[Option.map_eq_some_iff]at hu;obtain⟨y,hy,_⟩:=hu;have h1:=List.mem_of_find?_eq_some hy;have h2:=List.find?_some hy;have h2:y.1=r/\y.2.1=n:=J7 h2;unfold H9 at h1;obtain⟨s,hs,rfl⟩:=QP.1 (List.mem_reverse.1 h1);unfold iT
  grind
 .obtain⟨j,hj,h1,h2,_⟩:=ID l k hk x hx;exact⟨j,hj,h1,h2⟩
theorem Mr(a b:cJ):IS s84 [a.enc,b.enc] [[vB (tp a b)]]:=by
 refine w84.is ?_;unfold g84;have sa:sub a.enc 1 3=a.on.enc:=rfl;have sb:sub b.enc 1 3=b.on.enc:=rfl;have a0:cell a.enc 0=vI a.code:=rfl;have b0:cell b.enc 0=vI b.code:=rfl;have a4:cell a.enc 4=vI a.kind:=rfl;have b4:cell b.enc 4=vI b.kind:=rfl;simp only[aj,aG,sa,sb,a0,b0,a4,b4];refine⟨λh1=>?_,λh1=>?_⟩
 .have hlt:gZ a.on b.on=false:=by rw[h1,iF]
  have hC:tp a b=(decide (a.kind<b.kind) || decide (a.kind=b.kind) && decide (a.code<b.code)):=by
   unfold tp
   grind
  grind
 .have hC:tp a b=gZ a.on b.on:=by
   unfold tp
   grind
  rw[hC];refine aa (less_is a.on b.on) ?_;simp only[aj]
theorem eJ{α:Type}{enc:α->List D}{m:Nat}(he:∀x,(enc x).length=m):∀l:List α,(l.flatMap enc).length=l.length*m
 |[]=>by simp
 |x::l=>by rw[QD,QC,he,eJ he l,QG,RA,Ug,S9]
theorem addR_is(l:List cJ)(c:cJ)(hl:l.length<=10000000000)(h:∀x∈l,tp x c=true):IS s24 [[fh l],c.enc] [[fh (l++[c])]]:=by
 refine w24.is ?_;unfold g24;simp only[aj];refine bC [[fh l],[vI (l.length:Int)],c.enc] ?_ ?_
 .refine aZ l.length (λk=>[[fh l],[vI (k:Int)],c.enc]) (λ_=>True) trivial rfl λk next hi _ hn=>?_
  simp only[aj];refine⟨λhk=>?_,λhk=>?_⟩
  .have hk:k<l.length:=Q0;rw[AO _ hk];refine⟨Q0,?_⟩;refine aa (Mr l[k] c) ?_;rw[h _ (QB hk)];simp only[aj];exact⟨Q4,hn hk trivial⟩
  all_goals grind
 .simp only[aj];refine bC [[fh l],[vI (l.length:Int)],c.enc] ?_ ?_
  .grind
  .simp only[aj];have hlen:(l.flatMap cJ.enc).length=l.length*6:=eJ cJ.aP l;have e1:sub (l.flatMap cJ.enc) (Qr 0*6) ((l.length-Qr 0)*6)=l.flatMap cJ.enc:=by
    show((l.flatMap cJ.enc).drop (0*6)).take ((l.length-0)*6)=_
    grind
   have e2:sub (l.flatMap cJ.enc) (l.length*6) ((l.length-l.length)*6)=[]:=by
    show(_:List D).take _=_
    grind
   rw[e1,e2,QF,QF];refine⟨Q0,Qa,Qa,Q0,Qa,?_⟩
   grind
theorem mW(l:List cJ)(hl:l.length<=10000000000):IS s11 [[fh l],[fh l]] [[vB true]]:=by
 refine w11.is ?_;unfold g11;have s13:∀c:cJ,sub c.enc 1 3=c.on.enc:=λ_=>rfl;have c0:∀c:cJ,cell c.enc 0=vI c.code:=λ_=>rfl;have c4:∀c:cJ,cell c.enc 4=vI c.kind:=λ_=>rfl;have c5:∀c:cJ,cell c.enc 5=.sl 0 3 []:=λ_=>rfl;simp only[aj,aG];refine⟨λ_=>?_,λh=>J3 trivial h⟩;refine aZ l.length (λk=>[[fh l],[fh l],[vI (k:Int)]]) (λ_=>True) trivial rfl λk next hi _ hn=>?_
 simp only[aj];refine⟨λhk=>?_,λhk=>?_⟩
 .have hk:k<l.length:=Q0;rw[AO _ hk];simp only[aj,aG,s13,c0,c4,c5];have h2:=vO ([]:List ar) [] Q1 Q1;rw[J5 rfl]at h2;have hb:(0:Int)<=k/\(k:Int)<l.length:=Q0;refine⟨hb,hb,λ_=>⟨hb,hb,λ_=>⟨hb,hb,λ_=>⟨hb,hb,?_⟩,λh=>J3 trivial h⟩,λh=>J3 ⟨trivial,trivial,trivial⟩ h⟩,λh=>J3 trivial h⟩;refine aa h2 ?_;simp only[aj];exact⟨Q4,hn hk trivial⟩
 .trivial
theorem nS.valid{p:av}(H:nS p):IS s13 [p.enc] [[vB (decide (eY (eE (gn wT p))=[]))]]:=by refine w13.is ?_;unfold g13;refine aa H.ot ?_;simp only[aj];simp_all
section
variable (ms ns:List aI) (ds:List aq)
theorem rq:∀(n:Nat) (t:Ty),b9 ⟨ms,ds⟩ n t=b9 ⟨ns,ds⟩ n t
 |0,_=>rfl
 |n+1,t=>by rw[b9,b9];simp only[rq n];rfl
theorem nX(t:Ty):cr ⟨ms,ds⟩ t↔cr ⟨ns,ds⟩ t:=by unfold cr;rw[rq ms ns]
theorem Gx(e:Ex):gX ⟨ms,ds⟩ e=gX ⟨ns,ds⟩ e:=by
 have h:fW ⟨ms,ds⟩ e=fW ⟨ns,ds⟩ e:=by unfold fW;rw[decide_eq_decide.2 (nX ms ns ds e.ty)]
 unfold gX;rw[h];rfl
mutual
theorem yI:∀(e:Ex) (a:List fi),fa wT ⟨ms,ds⟩ e a=fa wT ⟨ns,ds⟩ e a
 |.mk i k n r t l s,a=>by rw[fa,fa,vn i k l 0 a];unfold rZ;rw[Gx ms ns]
theorem vn(i:ar)(k:Int):∀(l:List Ex) (j:Nat) (a:List fi),b6 wT ⟨ms,ds⟩ i k l j a=b6 wT ⟨ns,ds⟩ i k l j a
 |[],_,_=>by rw[b6,b6]
 |x::l,j,a=>by rw[b6,b6,yI x,vn i k l]
end
end
theorem E7{c:cJ}{L:List cJ}(hc:c ∉ L):∀{xs:List cJ},(∀x∈xs,x=c)->eY (xs++L)=(if xs=[]then[] else[c])++eY L
 |[],_=>rfl
 |[x],h=>by
  rw[h x (QI.2 rfl),J1 Q2];cases L with
  |nil=>rfl
  |cons y L=>have:c≠y:=λe=>hc (by grind);show eY (c::y::L)=_;rw[pM,J1 this];rfl
 |x::y::xs,h=>by have hx:=h x (Qt ..);have hy:=h y (Qx _ (Qt ..));have ih:=E7 hc (xs:=y::xs) λz hz=>h z (Qx _ hz);rw[J1 Q2]at ih ⊢;rw[Rm,Rm,pM,J2 (by rw[hx,hy])];exact ih
theorem E5{c:aq->cJ}{g:aq->List cJ}:∀{ds:List aq},(∀d∈ds,∀x∈g d,x=c d)->ds.Pairwise (λa b=>c a≠c b)->eY (ds.flatMap g)=(ds.filter λd=>!(g d).isEmpty).map c
 |[],_,_=>rfl
 |d::ds,h,hp=>by
  have h2:=SO.1 hp;have ih:=E5 (λe he=>h e (Qx _ he)) h2.2;have hno:c d ∉ ds.flatMap g:=λhm=>by
   grind
  rw[QD,E7 hno (h d (Qt ..)),ih,TE]
  grind
theorem Kc{c:aq->cJ}{g:aq->List cJ}{ds:List aq}(h:∀d∈ds,∀x∈g d,x=c d)(hp:ds.Pairwise λa b=>tp (c b) (c a)=false)(hs:∀d∈ds,tp (c d) (c d)=false):eE (ds.flatMap g)=ds.flatMap g:=by
 unfold eE;refine WA ?_;rw[List.pairwise_flatMap];refine⟨λd hd=>?_,U4 (fun{a b} ha hb hab x hx y hy=>?_) hp⟩
 .refine Sy.2 λi j hi hj _=>?_;rw[h d hd _ (QB hi),h d hd _ (QB hj),hs d hd];rfl
 all_goals grind
theorem nS.al{p:av}(H:nS p){ns:List aI}(hid:ns.map aI.id=p.al.map aI.id)(hmd:∀m∈ns,∃m0∈p.al,m.id=m0.id/\m.name=m0.name/\m.ae=m0.ae/\m.bP.Sublist m0.bP):nS ⟨ns,p.ae⟩:=by
 have hlen:ns.length=p.al.length:=by have:=J4 List.length hid;rwa [QS,QS]at this
 have hnd:((bG ⟨ns,p.ae⟩).map ao.id).Nodup:=by have h:=H.nd;rw[xw]at h ⊢;rw[hid];exact h
 have hex:∀i,(∃m∈p.al,m.id=i)->∃m∈ns,m.id=i:=λi ⟨m,hm,e⟩=>by
  have:i∈ns.map aI.id:=by grind
  exact QP.1 this
 refine⟨⟨by rw[hid];exact H.can.mi,H.can.di,H.can.pl,H.can.sl,H.can.sn,λm hm=>?_,λd hd=>hex _ (H.can.im d hd),λm hm=>?_,H.can.bare,H.can.nn,?_⟩,hnd,H.siz,λm hm=>?_,H.wd,H.ws,H.wn⟩
 .obtain⟨m0,h0,h1,h2,h3,h4⟩:=hmd m hm;rw[h3,h1];exact H.can.md m0 h0
 .obtain⟨m0,h0,h1,h2,h3,h4⟩:=hmd m hm;obtain⟨h5,h6⟩:=H.can.us m0 h0;exact⟨h5.sublist h4,λu hu=>hex _ (h6 u (h4.subset hu))⟩
 .obtain⟨a1,a2,a3,a4,a5,a6,a7,a8,a9⟩:=H.can.lim;refine⟨by grind,a2,a3,λm hm=>?_,a5,a6,a7,a8,a9⟩
  grind
 .obtain⟨m0,h0,h1,h2,h3,h4⟩:=hmd m hm;rw[h2];exact H.wm m0 h0
theorem uG.al{p:av}(H:uG p){ns:List aI}(hid:ns.map aI.id=p.al.map aI.id)(hnm:ns.map aI.name=p.al.map aI.name)(hmd:∀m∈ns,∃m0∈p.al,m.id=m0.id/\m.name=m0.name/\m.ae=m0.ae/\m.bP.Sublist m0.bP):uG ⟨ns,p.ae⟩:=by refine⟨H.lg.al hid hmd,by rw[hnm];exact H.nmM,λm hm=>by obtain⟨m0,h0,h1,_⟩:=hmd m hm;rw[h1];exact H.nmD m0 h0,H.nmS,λd hd=>⟨λs hs=>(nX p.al ns p.ae s.ty).1 ((H.vs d hd).1 s hs),(nX p.al ns p.ae d.au).1 (H.vs d hd).2⟩,λd hd hb=>?_,H.us⟩;rw[yI ns p.al p.ae];exact H.bd d hd hb
def mw(m:aI)(j:Nat):aI:=⟨m.id,m.name,m.bP.eraseIdx j,m.ae⟩
def sD(p:av)(k j:Nat)(m:aI):av:=⟨p.al.set k (mw m j),p.ae⟩
theorem xZ{p:av}(H:uG p){k j:Nat}(hk:k<p.al.length):uG (sD p k j p.al[k]):=by
 refine H.al ?_ ?_ λm hm=>?_
 .rw[Xb,show(mw p.al[k] j).id=(p.al.map aI.id)[k]'(by grind) by rw[RG];rfl,UG]
 .rw[Xb,show(mw p.al[k] j).name=(p.al.map aI.name)[k]'(by grind) by rw[RG];rfl,UG]
 .rcases List.mem_or_eq_of_mem_set hm with h|h
  .grind
  .rw[h];exact⟨p.al[k],QB hk,rfl,rfl,rfl,List.eraseIdx_sublist ..⟩
theorem An{l:List ar}(hn:l.Nodup){j:Nat}(hj:j<l.length)(x:ar):x∈l.eraseIdx j↔x∈l/\x≠l[j]:=by
 have e:l=l.take j++l[j]::l.drop (j+1):=by simp_all
 grind
def j0(d:aq):cJ:=⟨11,d.id,1⟩
def ub(p:av)(bW:ar)(d:aq):Bool:=(aU p d.id).any λx=>decide ((an p x).mod=bW)
def lW(p:av)(m bW:ar)(d:aq):Bool:=ub p bW d && decide (d.mod=m)
theorem Ec{q:av}{d:aq}:∀x∈lz q d,x=j0 d:=λx hx=>by
 unfold lz at hx;obtain⟨y,_,hx⟩:=S7.1 hx;split at hx
 .cases hx
 .exact QI.1 hx
theorem xR{q:av}{d:aq}:(lz q d).isEmpty=true↔∀x∈aU q d.id,(an q x).mod∈bF q d.mod:=by rw[Wh];unfold lz;simp_all
theorem GM{p:av}(hn:(p.al.map aI.id).Nodup){k j:Nat}(hk:k<p.al.length){t:Nat}(ht:t<p.al.length):bF (sD p k j p.al[k]) p.al[t].id=(if t=k then p.al[k].bP.eraseIdx j else p.al[t].bP)++[p.al[t].id]:=by
 have hid:(p.al.set k (mw p.al[k] j)).map aI.id=p.al.map aI.id:=by rw[Xb,show(mw p.al[k] j).id=(p.al.map aI.id)[k]'(by rw[QS];exact hk) by rw[RG];rfl,UG]
 have ht':t<(p.al.set k (mw p.al[k] j)).length:=by grind
 have h:=nk (p:=sD p k j p.al[k]) (by show((p.al.set k (mw p.al[k] j)).map aI.id).Nodup;rw[hid];exact hn) ht';have e:(sD p k j p.al[k]).al[t]'ht'=if t=k then mw p.al[k] j else p.al[t]:=by
  show(p.al.set k (mw p.al[k] j))[t]=_
  grind
 rw[e]at h;by_cases htk:t=k
 .subst htk;rw[J2 rfl]at h ⊢;exact h
 all_goals grind
theorem CV{p:av}(H:uG p)(hneed:∀d∈p.ae,∀x∈aU p d.id,(an p x).mod∈bF p d.mod){k j:Nat}(hk:k<p.al.length)(hj:j<p.al[k].bP.length)(hne:p.al[k].bP[j]≠p.al[k].id) :
  eY (eE (gn wT (sD p k j p.al[k])))=(p.ae.filter (lW p p.al[k].id p.al[k].bP[j])).map j0:=by
 have hN:=xZ (j:=j) H hk;have hn:(p.al.map aI.id).Nodup:=dN H.lg.can.mi;have hinc:=pD H.lg.can.di;rw[hN.Gh];show eY (eE (p.ae.flatMap (lz (sD p k j p.al[k]))))=_;rw[Kc (c:=j0) (λd _=>Ec) (SH (fun{a b} h=>?_) hinc) (λd _=>?_),E5 (c:=j0) (λd _=>Ec) (SH (fun{a b} h e=>np h (J4 cJ.on e)) hinc)]
 .congr 1
  refine X4 λd hd=>?_;obtain⟨m,hm,hmd⟩:=H.lg.can.im d hd;obtain⟨t,ht,rfl⟩:=QO.1 hm;have h1:∀x∈aU p d.id,(an p x).mod∈p.al[t].bP++[p.al[t].id]:=λx hx=>by have:=hneed d hd x hx;rw[<-hmd,nk hn ht]at this;exact this
  have h2:=GM hn (j:=j) hk ht;rw[hmd]at h2;refine pS ?_;rw[TB,<-Bool.not_eq_true,xR];show(¬∀x∈aU p d.id,(an p x).mod∈bF (sD p k j p.al[k]) d.mod)↔_;rw[h2];unfold lW ub;rw[QA,Yb];by_cases htk:t=k
  .subst htk;rw[J2 rfl];constructor
   .intro h;simp only[Classical.not_forall]at h;obtain⟨x,hx,h⟩:=h;refine⟨⟨x,hx,J5 ?_⟩,J5 hmd.symm⟩;rcases QK.1 (h1 x hx) with h3|h3
    .by_cases e:(an p x).mod=p.al[t].bP[j]
     .exact e
     .exact J3 (List.mem_append_left _ ((An (dN (H.lg.can.us _ hm).1) hj _).2 ⟨h3,e⟩)) h
    .exact J3 (List.mem_append_right _ (by grind)) h
   .rintro⟨⟨x,hx,h3⟩,_⟩ h;have h3:=J7 h3;rcases QK.1 (h x hx) with h4|h4
    .exact((An (dN (H.lg.can.us _ hm).1) hj _).1 h4).2 h3
    .rw[QI.1 h4,<-hmd]at h3;exact hne h3.symm
  .rw[J1 htk];constructor
   .intro h;refine J3 (λx hx=>?_) h;have:=h1 x hx;rw[hmd]at this;exact this
   .rintro⟨_,h3⟩;have h3:=J7 h3;rw[<-hmd]at h3;have h4:=Sy.1 (pD H.lg.can.mi);rcases Nat.lt_trichotomy t k with h5|h5|h5
    .exact J3 h3 (np (h4 t k ht hk h5))
    .exact J3 h5 htk
    .exact J3 h3.symm (np (h4 k t hk ht h5))
 .show tp (j0 b) (j0 a)=false;unfold tp j0;simp only;rw[mq h,J6 (λe=>np h e.symm)];rfl
 .unfold tp j0;simp[iF]
theorem zV(l:List Int):∀d∈(aL l).ae,∀x∈aU (aL l) d.id,(an (aL l) x).mod∈bF (aL l) d.mod:=λd hd x hx=>by
 have H:=tQ l;obtain⟨k,hk,rfl⟩:=QO.1 hd;obtain⟨j,hj,_,rfl,h⟩:=ID l k hk x hx;rw[H.lg.qt (QB hj)];obtain⟨m,hm,hmd⟩:=H.lg.can.im _ hd;obtain⟨t,ht,rfl⟩:=QO.1 hm;rw[<-hmd,nk (dN H.lg.can.mi) ht];rcases h with h|h
 .grind
 .rw[h];have h2:∀m∈(aL l).al,m.id=fw 0\/m.bP=[fw 0]:=by
   show ∀m∈bO l,_;unfold bO
   grind
  grind
theorem KE(l:List Int):gn wT (aL l)=[]:=by rw[(tQ l).Gh,S8];intro d hd;exact Wh.1 (xR.2 (zV l d hd))
theorem Ge(l:List Int):IS s13 [(aL l).enc] [[vB true]]:=by have h:=(tP l).valid;rw[KE,show eY (eE [])=[] by unfold eE;rw[List.mergeSort_nil];rfl,J5 rfl]at h;exact h
theorem FK{l:List Int}{at' n:Int}(hl:∀x∈l,lM x)(ha:lM at')(hn:lM n)(hlives:IS s14 [] [[vB true]]):IS s6 [[bU l],[vI at'],[vI n]] [[vB true]]:=by
 refine w6.is ?_;unfold g6;simp only[aj];refine aa (prog_is hl) ?_;have H:=tQ l;have hneed:=zV l;have hval:=Ge l;have hus:=zU l;have hm1:1<=(aL l).al.length:=by show 1<=(bO l).length;unfold bO;split <;> simp
 have hml:=H.lg.can.lim.al;generalize aL l=p at H hneed hval hus hm1 hml ⊢;have c0:cell p.enc 0=.sl p.al.length 6 (p.al.flatMap aI.enc):=rfl;have c1:cell p.enc 1=.sl p.ae.length 31 (p.ae.flatMap aq.enc):=rfl;simp only[aj,c0];refine⟨Qa,?_⟩;refine aa (pV Q0 ha) ?_;obtain⟨k,hk,hkl⟩:∃k:Nat,gi at' p.al.length=(k:Int)/\k<p.al.length:=by have:=mJ at' p.al.length Q0;exact⟨(gi at' p.al.length).toNat,Q0,Q0⟩
 rw[hk];have c4:cell (p.al[k]).enc 4=dI p.al[k].bP:=rfl;simp only[aj,yw _ hkl,c4];refine⟨Q0,λh0=>?_,λh0=>?_⟩
 .refine aa hval ?_;simp only[aj];refine aa hlives ?_;simp only[aj]
 .refine aa (pV Q0 hn) ?_;obtain⟨j,hj,hjl⟩:∃j:Nat,gi n p.al[k].bP.length=(j:Int)/\j<p.al[k].bP.length:=by have:=mJ n p.al[k].bP.length Q0;exact⟨(gi n p.al[k].bP.length).toNat,Q0,Q0⟩
  rw[hj];simp only[aj,eK _ hjl];have hul0:=(H.lg.can.lim.u7 _ (QB hkl)).2;have hmod:cQ (p.al.flatMap aI.enc) (k*6+4) [dI (p.al[k].bP.eraseIdx j)]=(p.al.set k (mw p.al[k] j)).flatMap aI.enc:=yg aI.aP p.al hkl rfl (by grind);have hrow:∀(a b:Nat),a=j->b=j+1->D.sl (0+(j-0)+(p.al[k].bP.length-b)) 3 (sub (p.al[k].bP.flatMap ar.enc) (0*3) ((a-0)*3)++sub (p.al[k].bP.flatMap ar.enc) (b*3) ((p.al[k].bP.length-b)*3))=dI (p.al[k].bP.eraseIdx j):=by rintro a b rfl rfl;unfold dI;rw[Vq,QV,QC,Rf,RO];unfold sub;rw[TP,RR,T9,je ar.aP,nz ar.aP,je ar.aP,Rj (l:=p.al[k].bP.drop (a+1)) (UN RO),RU Q0,Rn]
  have hz:Qr 0=0:=rfl;have hz2:((j:Int)+1).toNat=j+1:=Q0;rw[hz,hz2,hrow j (j+1) rfl rfl,hmod];refine⟨Q0,Q0,Qa,Q4,Q0,Qa,Q0,?_⟩;have hW:eY (eE (gn wT (sD p k j p.al[k])))=(p.ae.filter (lW p p.al[k].id p.al[k].bP[j])).map j0:=CV H hneed hkl hjl λe=>by
   rcases hus _ (QB hkl) with h|⟨h,h2⟩
   .grind
   .have:p.al[k].bP[j]∈p.al[k].bP:=QB hjl;rw[e,h,QI,h2]at this;exact J3 this Q1
  have hP:=(xZ (j:=j) H hkl).lg.ot;rw[hW]at hP;have hq:(sD p k j p.al[k]).enc=[.sl (0+p.al.length) 6 ((p.al.set k (mw p.al[k] j)).flatMap aI.enc),cell p.enc 1]:=by show[D.sl (p.al.set k (mw p.al[k] j)).length 6 _,_]=_;rw[Sl,Rn];rfl
  rw[hq]at hP;have hfl:∀i,((p.ae.take i).filter (lW p p.al[k].id p.al[k].bP[j])).length<=32:=λi=>by have:=List.length_filter_le (lW p p.al[k].id p.al[k].bP[j]) (p.ae.take i);have:=H.lg.can.lim.ae;rw[Rf]at *;omega
  generalize(p.al.set k (mw p.al[k] j)).flatMap aI.enc=mr at hP ⊢;generalize p.al[k].bP[j]=bW at hP hfl ⊢;have hdl:=H.lg.can.lim.ae;have me:sub (p.al[k]).enc 0 3=p.al[k].id.enc:=rfl;refine bC [[fh ((p.ae.filter (lW p p.al[k].id bW)).map j0)],[cell p.enc 1],[.sl (0+p.al.length) 6 mr]] ?_ ?_
  .refine aZ p.ae.length (λi=>[[fh (((p.ae.take i).filter (lW p p.al[k].id bW)).map j0)],[vI (i:Int)],p.enc,[cell p.enc 1],(p.al[k]).enc,bW.enc,[.sl (0+p.al.length) 6 mr]]) (λ_=>True) trivial rfl λi next hi _ hn2=>?_
   simp only[aj,c1];refine⟨λh=>?_,λh=>?_⟩
   .have hil:i<p.ae.length:=Q0;have hd:=H.lg.Gh.sl;rw[gw _ hil];have de:sub (p.ae[i]).enc 0 3=p.ae[i].id.enc:=rfl;have dm:sub (p.ae[i]).enc 4 3=p.ae[i].mod.enc:=rfl;simp only[de];refine bC [[fh (((p.ae.take (i+1)).filter (lW p p.al[k].id bW)).map j0)],[vI (i:Int)],p.enc,[cell p.enc 1],(p.al[k]).enc,bW.enc,[.sl (0+p.al.length) 6 mr]] ?_ ?_
    .refine⟨Q0,aa (vH l6 H.lg.Gh.H8 _) ?_⟩;have vz:=tt p p.ae[i].id;have huw:=H.lg.wt p.ae[i].id;generalize hU:aU p p.ae[i].id=us at vz;simp only[aj];refine aZ us.length (λt=>[[fh (((p.ae.take i).filter (lW p p.al[k].id bW)).map j0)],[vI (i:Int)],[vB ((us.take t).any λx=>decide ((an p x).mod=bW))],[vI (t:Int)],p.enc,[cell p.enc 1],(p.al[k]).enc,bW.enc,[dI us],[.sl (0+p.al.length) 6 mr]]) (λ_=>True) trivial rfl λt kH ht _ hn3=>?_;simp only[aj,aG];refine⟨λh2=>?_,λh2=>?_⟩
     .have htl:t<us.length:=Q0;have hn4:=hn3 htl trivial;rw[Qv htl,Yj,List.any_cons,List.any_nil,Xj]at hn4;rw[eK _ htl];refine bC [[fh (((p.ae.take i).filter (lW p p.al[k].id bW)).map j0)],[vI (i:Int)],[vB (((us.take t).any λx=>decide ((an p x).mod=bW)) || decide ((an p us[t]).mod=bW))],[vI (t:Int)],p.enc,[cell p.enc 1],(p.al[k]).enc,bW.enc,[dI us],[.sl (0+p.al.length) 6 mr]] ?_ ?_
      .refine⟨Q0,aa (def_is p _ Q0) ?_⟩;have e4:sub (an p us[t]).enc 4 3=(an p us[t]).mod.enc:=rfl;generalize((us.take t).any λx=>decide ((an p x).mod=bW))=b;simp only[aj,aG,e4];cases b
       .rw[Tq];exact rfl
       .rw[UD];exact rfl
      .simp only[aj];exact⟨Q4,hn4⟩
     .obtain rfl:t=us.length:=Q0;rw[Re];have hb:(us.any λx=>decide ((an p x).mod=bW))=ub p bW p.ae[i]:=by unfold ub;rw[hU]
      have hw:lW p p.al[k].id bW p.ae[i]=(ub p bW p.ae[i] && decide (p.ae[i].mod=p.al[k].id)):=rfl;have ht:p.ae.take (i+1)=p.ae.take i++[p.ae[i]]:=Qv hil;have hfi:=hfl i;rw[hb,ht,RF,Rb];generalize ub p bW p.ae[i]=b at hw;cases b
      .have:[p.ae[i]].filter (lW p p.al[k].id bW)=[]:=by simp[hw]
       rw[this,R5,QF];exact rfl
      .simp only[aj,aG,c1,gw _ hil,dm];refine⟨Q0,λe=>?_,λe=>?_⟩
       .have:[p.ae[i]].filter (lW p p.al[k].id bW)=[p.ae[i]]:=by simp[hw,e]
        rw[this,XR];refine⟨Q0,?_⟩;refine aa (addR_is _ (j0 p.ae[i]) (by grind) λx hx=>?_) ?_
        .obtain⟨d,hd2,rfl⟩:=QP.1 hx;have hd2:=(Rq.1 hd2).1;obtain⟨a,ha2,rfl⟩:=QO.1 hd2;rw[Rf]at ha2;rw[List.getElem_take];have:=Sy.1 (pD H.lg.can.di) a i Q0 hil Q0;unfold tp j0
         grind
        .simp only[aj]
       all_goals grind
    .simp only[aj];exact⟨Q4,hn2 hil trivial⟩
   all_goals grind
  .simp only[aj];refine aa hP ?_;simp only[aj];refine aa (mW _ ?_) ?_
   .grind
   simp only[aj];refine aa hlives ?_;simp only[aj]
set_option maxRecDepth 100000
abbrev s60:bA:=⟨60,⟨[],[]⟩,.g [.w 0,.w 1],[hR 0 60 6,hR 1 52 31],false⟩
abbrev qC:bA:=⟨61,⟨[hI 0],[]⟩,.a 3,[],false⟩
abbrev s62:bA:=⟨62,⟨[hI 0,hI 1,hI 2],[]⟩,.a 6,[],false⟩
def g14:Tx:=λIs _ K=>aA Is s60 [] λr1=>sK 6 r1 0 λB C=>sK 31 r1 1 λD E=>(λV4=>aA Is s15 [V4] λr6=>sK 3 r6 0 λn7 c8=>sK 3 r6 1 λn9 _=>aA Is s60 [] λF=>sK 6 F 0 λo p=>sK 31 F 1 λe q=>az (0<=(1:Int)/\(1:Int)<(e:Int)) (aA Is s60 [] λG=>sK 6 G 0 λf g=>sK 31 G 1 λd h=>aA Is qC [[vI 7]] λi=>aA Is qC [[vI 1]] λj=>aA Is qC [[vI 8]] λl=>aA Is qC [[vI 4]] λm=>(λV1=>az (0<=(1:Int)/\(1:Int)<(d:Int)) (aA Is s15 [V1] λH=>sK 3 H 0 λJ _=>sK 3 H 1 λL M=>aA Is s60 [] λI=>sK 6 I 0 λr s=>sK 31 I 1 λn t=>az (0<=(1:Int)/\(1:Int)<(n:Int)) (aA Is s62 [[vI 16],[vI 1],[vI 5]] λu=>aA Is s62 [[vI 16],[vI 3],[vI 5]] λv=>aA Is s62 [[vI 13],[vI 1],[vI 14]] λw=>aA Is s62 [[vI 13],[vI 3],[vI 14]] λx=>jn (λy=>aA Is qC [[vI 3]] λN=>aA Is qC [[vI 1]] λO=>aA Is s17 [[.sl n7 3 c8],[.sl 2 3 ((ab N 0)++((ab O 0)++[]))]] λP=>bK P 0 λQ=>(λV3=>(λV5=>(λV6=>(λV7=>(λV2=>aB Q (aB (decide ((n9:Int)=(0:Int))) (aB (decide ((J:Int)=(0:Int))) (aA Is qC [[vI 1]] λR=>aA Is qC [[vI 3]] λS=>aA Is s17 [[.sl L 3 M],[.sl 2 3 ((ab R 0)++((ab S 0)++[]))]] λT=>bK T 0 λU=>y [[vB U],V4,V1,V6,V5,[.sl o 6 p],V3,[.sl r 6 s],V7]) (y V2)) (y V2)) (y V2)) [[vB false],V4,V1,V6,V5,[.sl o 6 p],V3,[.sl r 6 s],V7]) [.sl n 31 (cQ t (1*31+18) [vI 1])]) [.sl 2 6 ((ab u 0)++((ab v 0)++[]))]) [.sl 2 6 ((ab w 0)++((ab x 0)++[]))]) [.sl e 31 (cQ q (1*31+7) ([vS (QX #[102])]))]) (λb=>bK b 0 λz=>sK 6 b 3 λV W=>sK 6 b 4 λX Y=>sK 6 b 5 λZ c55=>sK 31 b 6 λn56 c57=>sK 6 b 7 λn58 c59=>sK 31 b 8 λn60 c61=>jn (λA=>aA Is Mx [[.sl Z 6 c55,.sl n56 31 c57]] λr64=>sK 6 r64 0 λn65 c66=>aA Is s11 [[.sl n65 6 c66],[.sl V 6 W]] λr67=>bK r67 0 λb68=>(λV8=>aB b68 (aA Is Mx [ab b 2] λr69=>sK 6 r69 0 λn70 c71=>aA Is s11 [[.sl n70 6 c71],[.sl X 6 Y]] λr72=>bK r72 0 λb73=>aB b73 (aA Is Mx [[.sl n58 6 c59,.sl n60 31 c61]] λr74=>sK 6 r74 0 λn75 c76=>aA Is s62 [[vI 14],[vI 7],[vI 12]] λr77=>aA Is s11 [[.sl n75 6 c76],[.sl 1 6 ((ab r77 0)++[])]] λr78=>bK r78 0 λb79=>A [[vB z],[vB b79],ab b 1]) (A V8)) (A V8)) [[vB z],[vB false],ab b 1]) (λc=>bK c 0 λb80=>bK c 1 λb81=>aA Is s13 [ab c 2] λr82=>bK r82 0 λb83=>aB b83 (aB b80 (aB b81 (aA Is qC [[vI 1]] λr84=>aA Is s18 [ab c 2,ab r84 0] λr85=>sK 3 r85 0 λn86 c87=>aA Is qC [[vI 3]] λr88=>aA Is s17 [[.sl n86 3 c87],[.sl 1 3 ((ab r88 0)++[])]] λr89=>bK r89 0 λb90=>K [[vB b90]]) (K [[vB false]])) (K [[vB false]])) (K [[vB false]])))))) [.sl f 6 g,.sl d 31 (cQ h (1*31+14) (cls (ab i 0) 0 3 (vI 3::vI 0::cls (ab j 0) 0 3 ([vI 0,vI 0,vI 0,vI 0,.sl 0 5 [],.sl 1 15 (cls (ab l 0) 0 3 (vI 2::vI 0::cls (ab m 0) 0 3 ([vI 0,vI 0,vI 0,vI 0,.sl 0 5 [],.sl 0 15 [],.sl 0 1 []]))),.sl 0 1 []]))))])) [.sl B 6 C,.sl D 31 E]
theorem w14:Wd (cD [s11,Mx,s13,s15,s17,s18,s60,qC,s62]) ⟨[],[(13,⟨[hP 1 0,hP 4 1,hP 5 2,hP 8 3,hW 9 4,hW 10 5,hB 11],[hA 0 26 2,(1,.b 26 [.w 6,.w 7]),hA 2 26 2,(3,.b 26 [.w 8,.w 9]),hR 4 57 6,hR 5 57 6,hR 6 60 6,hR 7 52 31,hR 8 60 6,hR 9 52 31]⟩),(14,⟨[hP 1 0,hB 11,hB 12],[hA 0 26 2]⟩)],[]⟩ s14 g14:=Wk
def g60:Tx:=λIs _ K=>aA Is qC [[vI 5]] λh=>aA Is qC [[vI 3]] λi=>aA Is qC [[vI 6]] λj=>aA Is qC [[vI 2]] λl=>aA Is qC [[vI 1]] λm=>aA Is qC [[vI 0]] λn=>aA Is qC [[vI 2]] λo=>aA Is qC [[vI 3]] λp=>aA Is qC [[vI 0]] λq=>aA Is qC [[vI 4]] λb=>aA Is qC [[vI 7]] λc=>aA Is qC [[vI 4]] λd=>aA Is qC [[vI 0]] λe=>aA Is qC [[vI 1]] λf=>aA Is qC [[vI 3]] λg=>(λV1=>K [[.sl 1 6 (cls (ab e 0) 0 3 ([vS (QX #[109]),.sl 0 3 [],.sl 2 3 ((ab f 0)++((ab g 0)++[]))]))],[.sl 2 31 (cls (ab m 0) 0 3 (vI 2::cls (ab n 0) 0 3 (vS (QX #[102])::.sl 1 11 (cls (ab o 0) 0 3 (V1))::vI 0::vI 0::vI 0::vI 0::.sl 0 5 []::cls (ab h 0) 0 3 (vI 3::vI 0::cls (ab i 0) 0 3 (vI 0::vI 0::vI 0::vI 0::.sl 0 5 []::.sl 1 15 (cls (ab j 0) 0 3 (vI 2::vI 0::cls (ab l 0) 0 3 ([vI 0,vI 0,vI 0,vI 0,.sl 0 5 [],.sl 0 15 [],.sl 0 1 []])))::.sl 0 1 []::vI 0::.sl 0 1 []::cls (ab p 0) 0 3 (vI 2::cls (ab q 0) 0 3 (vS (QX #[103])::.sl 1 11 (cls (ab b 0) 0 3 (V1))::vI 0::vI 0::vI 0::vI 0::.sl 0 5 []::cls (ab c 0) 0 3 (vI 2::vI 0::cls (ab d 0) 0 3 ([vI 0,vI 0,vI 0,vI 0,.sl 0 5 [],.sl 0 15 [],.sl 0 1 [],vI 0,.sl 0 1 []])))))))))]]) [vS (QX #[97]),vI 0,vI 0,vI 0,vI 0,.sl 0 5 [],vI 0,vI 0]
theorem w60:Wd (cD [qC]) hZ s60 g60:=Wk
def g61:Tx:=λ_ a K=>iK a 0 λb=>K [[vI 0,vI 1,vI b]]
theorem w61:Wd (cD []) hZ qC g61:=Wk
def g62:Tx:=λIs a K=>iK a 0 λb=>iK a 1 λc=>iK a 2 λd=>aA Is qC [[vI c]] λe=>K [vI b::cls (ab e 0) 0 3 ([vI d,.sl 0 3 []])]
theorem w62:Wd (cD [qC]) hZ s62 g62:=Wk
end Go.Proofs.YtmbboaapillefaaGreatDoor
