/- Wz5, Wz6, Wz7, Zry, Wy15, Wz9, put together. -/
import Derived.Test.YtmbboaapillefaaGreatDoorPb5
import Derived.KernelRfl
open Bool renaming false_or->UC,true_or->VQ,not_false->Tq
open ByteArray renaming mk->Se
open Go.Proofs.Tryz renaming prog->RH
open Int renaming toNat_natCast->SF
open List renaming length_take->Sn,getElem_mem->RQ,length_set->TF,length_append->RS,mem_singleton->RZ,take_succ_eq_append_getElem->RJ,take_length->Sl,any_eq_true->XO,length_filter_le->UK,append_nil->RW
open Nat renaming min_eq_left->Tf,le_refl->Sc,zero_le->Sy
namespace Go.Proofs.YtmbboaapillefaaGreatDoor
open Xe Pm
theorem cmp109(x y:ki):∃z:Int,IS s109 [x.enc,y.enc] [[vI z]]:=by
 have key:g109 (j3 RH) [x.enc,y.enc] (λr=>∃z:Int,r=[[vI z]]):=by unfold g109;have c0:∀i:ki,cell i.enc 0=vI i.id.aH/\cell i.enc 1=vI i.id.seq/\cell i.enc 2=vI i.id.index/\cell i.enc 3=vI i.n:=λi=>⟨rfl,rfl,rfl,rfl⟩;simp only[ai,c0];obtain⟨a,ha⟩:=yW x.id.aH y.id.aH;obtain⟨b,hb⟩:=yW x.id.seq y.id.seq;obtain⟨c,hc⟩:=yW x.id.index y.id.index;obtain⟨e,he⟩:=yW x.n y.n;obtain⟨d,hd⟩:=or54T [a,b,c,e] Q2;refine ab ha ?_;simp only[ai];refine ab hb ?_;simp only[ai];refine ab hc ?_;simp only[ai];refine ab he ?_;simp only[ai];refine ab hd ?_;simp only[ai];exact⟨_,rfl⟩
 obtain⟨r,⟨b,rfl⟩,h⟩:=w109.some key (by rintro r ⟨b,rfl⟩;exact trivial);exact⟨b,h⟩
theorem eq111(x y:ki):∃b:Bool,IS Og [x.enc,y.enc] [[vB b]]:=by obtain⟨z,h⟩:=cmp109 x y;refine⟨decide (z=0),w111.is ?_⟩;unfold g111;simp only[ai];refine ab h ?_;simp only[ai]
theorem bds_set(R:List ki){i:Nat}(hi:i<R.length)(x:ki):cB (R.flatMap ki.enc) (i*9+0) x.enc=(R.set i x).flatMap ki.enc:=by rw[Nat.add_zero,od ki.aP R hi]
theorem dBd_cut{R:List ki}{i:Nat}(hi:i<=R.length)(z:List D):D.sl i 9 (sub (cB (R.flatMap ki.enc) ((0+i)*9) z) (0*9) (i*9))=wI (R.take i):=by
 unfold wI;rw[Sn,Tf hi]
 congr 1
 unfold sub cB;rw[Nat.zero_add,Nat.zero_mul,List.drop_zero,lh ki.aP];have hl:((R.take i).flatMap ki.enc).length=i*9:=by rw[eS ki.aP,Sn,Tf hi]
 grind
theorem FY(l:List ki)(hl:l.length<=1000000000000):∃R:List ki,IS s110 [[wI l]] [[wI R]]/\R.length<=l.length/\∀b∈R,b∈l:=by
 have key:g110 (j3 RH) [[wI l]] (λr=>∃R:List ki,r=[[wI R]]/\R.length<=l.length/\∀b∈R,b∈l):=by
  unfold g110;simp only[ai];refine⟨λh=>⟨l,rfl,Sc _,λb hb=>hb⟩,λh=>?_⟩;refine cY (σ:=Nat) (λk=>[[vI (k:Int)],[wI l]]) (λk=>l.length-k) (λk=>1<=k/\k<=l.length) 1 ⟨Sc _,Q0⟩ rfl ?_;rintro k next ⟨h1,h2⟩ hn
  simp only[ai];refine⟨λh=>?_,λh=>⟨l,rfl,Sc _,λb hb=>hb⟩⟩;have hk:k<l.length:=Q0;have ek:((k:Int)-1).toNat=k-1:=Q0;rw[ek,Bh _ hk,Bh _ (show k-1<l.length by omega)];obtain⟨b,hb⟩:=eq111 l[k] l[k-1];refine⟨Q0,Q4,Q0,ab hb ?_⟩;cases b
  .simp only[ai]
   grind [aZ]
  simp only[ai];refine⟨Q0,?_⟩;refine cY (σ:=Nat×Nat×List ki) (λs=>[[vI (s.1:Int)],[vI (k:Int),vI ((l.length-k:Nat):Int)],[vI (s.2.1:Int)],[wI s.2.2]]) (λs=>l.length-s.2.1)
   (λs=>1<=s.2.1/\k+s.2.1<=l.length/\s.1<=k+s.2.1-1/\s.2.2.length=l.length/\∀b∈s.2.2,b∈l) (k,1,l) ⟨Sc _,hk,by grind,rfl,λb hb=>hb⟩ (by grind) ?_
  rintro⟨i,j,R⟩ next ⟨q1,q2,q3,q4,q5⟩ hn
  dsimp only at q1 q2 q3 q4 q5 hn ⊢;simp only[ai];refine⟨λh=>?_,λh=>?_⟩
  .have hj:k+j<l.length:=Q0;have ej:((j:Int)-1).toNat=j-1:=Q0;refine ij ?_;rw[ej,Bh _ (show k+j<R.length by omega),show k+(j-1)=k+j-1 by omega,Bh _ (show k+j-1<R.length by omega)];obtain⟨b,hb⟩:=eq111 R[k+j] R[k+j-1];refine⟨Q0,Q4,Q0,ab hb ?_⟩;cases b
   .simp only[ai];rw[bds_set R Q0]
    have:=hn (i+1,j+1,R.set i R[k+j]) (by show l.length-(j+1)<l.length-j;omega) ⟨by grind,by grind,by show i+1<=k+(j+1)-1;omega,by grind,λb hb=>by
     rcases List.mem_or_eq_of_mem_set hb with h|h
     .exact q5 b h
     .rw[h];exact q5 _ (RQ _)⟩
    simp only[wI,TF]at this ⊢;exact⟨Q0,Q0,Q4,Q4,this⟩
   .simp only[ai];exact⟨Q4,hn (i,j+1,R) (by show l.length-(j+1)<l.length-j;omega) ⟨by grind,by grind,by show i<=k+(j+1)-1;omega,q4,q5⟩⟩
  .refine⟨Q0,⟨trivial,Q0,Q0⟩,Q0,⟨R.take i,?_,?_,λb hb=>q5 b (List.mem_of_mem_take hb)⟩⟩
   .rw[<-dBd_cut (R:=R) (i:=i) Q0 ((List.replicate (R.length-i) [vI 0,vI 0,vI 0,vI 0,vI 0,vI 0,vI 0,vI 0,.sl 0 5 []]).flatten)]
   .rw[Sn];omega
 obtain⟨r,⟨R,rfl,h2,h3⟩,h⟩:=w110.someG key (by rintro r ⟨R,rfl,_⟩;exact trivial);exact⟨R,h,h2,h3⟩
def vF(e:Ex)(b:ki):Prop:=∃x∈bV e,x.kind=2/\x.ref=b.id
theorem Fl(e:Ex)(hw:e.wt<=100000):∃R:List ki,IS s28 [e.enc] [[wI R]]/\R.length<=(bV e).length/\∀b∈R,vF e b:=by
 have hkw:∀k (h:k<e.kids.length),e.kids[k].wt<e.wt:=λk h=>by have h1:=Ex.cS e;have h2:=Ex.wU (RQ h);omega
 have ih:∀k (h:k<e.kids.length),∃R:List ki,IS s28 [e.kids[k].enc] [[wI R]]/\R.length<=(bV e.kids[k]).length/\∀b∈R,vF e.kids[k] b:=λk h=>Fl e.kids[k] (by grind);have hkl:e.kids.length<=e.wt:=by grind [Ex.cS,Ex.mV]
 have hnl:=ph e;have hle:∀i,(aT (e.kids.take i)).length<=(bV e).length:=λi=>by
  grind [jw,RS,gY,CN,bV]
 have hst:∀i (h:i<e.kids.length),(aT (e.kids.take (i+1))).length=(aT (e.kids.take i)).length+(bV e.kids[i]).length:=λi h=>by rw[gY,gY,MV bV h,RS]
 have hin:∀k (h:k<e.kids.length) (b:ki),vF e.kids[k] b->vF e b:=λk h b ⟨x,hx,h2⟩=>⟨x,by grind [jw,List.mem_append_left,iS,RQ],h2⟩;have c3:cell e.enc 3=vI e.kind:=by rw[Ex.aD];rfl
 have c4:cell e.enc 4=vI e.n:=by rw[Ex.aD];rfl
 have c5:sub e.enc 5 3=e.ref.enc:=by rw[Ex.aD];rfl
 have c0:sub e.enc 0 3=e.id.enc:=by rw[Ex.aD];rfl
 have c13:cell e.enc 13=dE e.kids:=by rw[Ex.aD];rfl
 have key:g28 (j3 RH) [e.enc] (λr=>∃R:List ki,r=[[wI R]]/\R.length<=(bV e).length/\∀b∈R,vF e b):=by
  unfold g28;simp only[ai,aF,c3,c4,c5,c13];refine⟨λhk=>?_,λhk=>?_⟩
  .refine⟨[⟨e.ref,e.n⟩],rfl,?_,λb hb=>?_⟩
   .grind [cQ]
   .rw[RZ.1 hb];exact⟨e,cQ e,hk,rfl⟩
  .refine⟨λs=>∃R:List ki,s=[[wI R]]/\R.length<=(bV e).length/\∀b∈R,vF e b,?_,?_⟩
   .refine cY (σ:=Nat×List ki) (λs=>[[dE e.kids],[vI (e.kids.length:Int)],[vI (s.1:Int)],e.enc,[wI s.2]]) (λs=>e.kids.length-s.1) (λs=>s.1<=e.kids.length/\s.2.length<=(aT (e.kids.take s.1)).length/\∀b∈s.2,vF e b) (0,[]) ⟨Sy _,Q2,λb hb=>by cases hb⟩ rfl ?_;rintro⟨i,out⟩ next ⟨h1,h2,h3⟩ hn
    dsimp only at h1 h2 h3 hn ⊢;simp only[ai];refine⟨λh=>?_,λh=>⟨out,rfl,Nat.le_trans h2 (hle i),h3⟩⟩;have hi:i<e.kids.length:=Q0;obtain⟨S,hS,hS2,hS3⟩:=ih i hi;rw[vq _ hi];refine⟨Q0,ab hS ?_⟩;simp only[ai];have hs2:=hst i hi;have hle2:=hle (i+1);refine cY (σ:=Nat×List ki) (λs=>[[vI (i:Int)],[dE e.kids],[vI (e.kids.length:Int)],[vI (i:Int)],[vI (S.length:Int)],[vI (s.1:Int)],e.enc,[wI s.2],[wI S]]) (λs=>S.length-s.1) (λs=>s.1<=S.length/\s.2.length<=(aT (e.kids.take i)).length+s.1/\∀b∈s.2,vF e b) (0,out) ⟨Sy _,h2,h3⟩ rfl ?_;rintro⟨j,R⟩ next ⟨q1,q2,q3⟩ hn2
    dsimp only at q1 q2 q3 hn2 ⊢;simp only[ai];refine⟨λh=>?_,λh=>?_⟩
    .have hj:j<S.length:=Q0;have d3:cell S[j].enc 3=vI S[j].n:=rfl;have d0:sub S[j].enc 0 3=S[j].id.enc:=rfl;rw[Bh _ hj];refine⟨Q0,λs=>∃b:Bool,s=[[vI (i:Int)],[vB b],[dE e.kids],[vI (e.kids.length:Int)],[vI (i:Int)],[vI (S.length:Int)],[vI (j:Int)],e.enc,[wI R],S[j].enc,[wI S]],?_,?_⟩
     .simp only[ai,d3]
      repeat' first|exact⟨_,rfl⟩|(intro _)|constructor
      all_goals omega
     .rintro s ⟨b,rfl⟩;simp only[ai,aF,c0,d0];have CI:=hn2 (j+1,R) Q0 ⟨hj,by grind,q3⟩
      have yj:=hn2 (j+1,R++[S[j]]) Q0 ⟨hj,by grind [RS,List.length_singleton],λb hb=>by
       rcases List.mem_append.1 hb with hb|hb
       .exact q3 b hb
       .rw[RZ.1 hb]
        exact hin i hi _ (hS3 _ (RQ hj))⟩
      have e2:wI (R++[S[j]])=.sl (R.length+1) 9 (R.flatMap ki.enc++(S[j].enc++[])):=by unfold wI;simp
      dsimp only at CI yj;rw[e2]at yj;have hr:aL (R.length+1) 89:=by unfold aL;omega
      have ho:aZ ((j:Int)+1):=by unfold aZ;omega
      first
       |exact⟨λ_=>by cases b;exact⟨hr,ho,yj⟩;exact⟨ho,CI⟩,λ_=>⟨hr,ho,yj⟩⟩
       |exact⟨λ_=>⟨hr,ho,yj⟩,λ_=>by cases b;exact⟨hr,ho,yj⟩;exact⟨ho,CI⟩⟩
    .obtain rfl:j=S.length:=Q0;exact⟨Q4,hn (i+1,R) Q0 ⟨hi,by grind,q3⟩⟩
   .rintro s ⟨R,rfl,h1,h2⟩;simp only[ai];obtain⟨h3,h4⟩:=DR R;have hsl:=h4.length_eq;refine ab (GG R Q0) ?_;simp only[ai];obtain⟨T,hT,hT2,hT3⟩:=FY (DS R) Q0;refine ab hT ?_;simp only[ai]
    grind
 obtain⟨r,⟨R,rfl,h2,h3⟩,h⟩:=w28.some key (by rintro r ⟨R,rfl,_⟩;exact trivial);exact⟨R,h,h2,h3⟩
 termination_by e.wt
 decreasing_by exact hkw k h
open Go Xe Pm
theorem Oz(l:List Int):∀e∈(aK l).aa,¬dR e.kind=true->e.aq=bQ:=λe he hb=>by obtain⟨k,hk,pl,nx,rfl,hA⟩:=cL l he;have h:=hA.bare.2 hb;unfold bare at h;rw[hA.kind]at h;rw[hA.aq];exact((oA _ hA.mem).mod h).2
theorem OA(l:List Int):∀e∈(aK l).aa,dR e.kind=true->∀x∈bV e.body,x.kind=11->x.ty=bQ:=λe he hb x hx hk=>by obtain⟨k,hk',pl,nx,rfl,hA⟩:=cL l he;exact(nq l k hk' (λh=>hA.bare.1 h hb) x hx).ty.2 hk
theorem map_set{p:au}(H:Can p){k:Nat}(hk:k<p.aa.length)(g:an->an)(hg:∀y,y.id≠p.aa[k].id->g y=y):p.aa.map g=p.aa.set k (g p.aa[k]):=by
 apply List.ext_getElem
 all_goals grind [List.length_map,H.inj]
theorem cut_enc{p:au}(H:Can p){k:Nat}(hk:k<p.aa.length)(s:av)(m:Nat)(hm:m=p.aa.length)(q:Nat)(hq:q=k)(ss:List aC)(hs:ss=p.aa[k].ah.filter λx=>decide (x.id≠s)) :
  [cell p.enc 0,D.sl m 31 (cB (p.aa.flatMap an.enc) (q*31+8) [.sl ss.length 11 (ss.flatMap aC.enc)])]=(kB p fT (l8 p.aa[k] s)).enc:=by
 subst hm hq hs;have e1:l8 p.aa[q] s p.aa[q]=⟨p.aa[q].id,p.aa[q].kind,p.aa[q].mod,p.aa[q].name,p.aa[q].ah.filter λx=>decide (x.id≠s),p.aa[q].aq,p.aa[q].body,p.aa[q].bm,p.aa[q].bF⟩:=by grind [l8]
 have e2:(kB p fT (l8 p.aa[q] s)).aa=p.aa.set q (l8 p.aa[q] s p.aa[q]):=by rw[jM,map_set H hk _ λy hy=>by grind [l8]]
 have e3:=sV (o:=8) (vs:=[.sl (p.aa[q].ah.filter λx=>decide (x.id≠s)).length 11 ((p.aa[q].ah.filter λx=>decide (x.id≠s)).flatMap aC.enc)]) an.aP p.aa hk (x':=l8 p.aa[q] s p.aa[q]) (by rw[e1];rfl) (by grind);rw[e3];show _=[D.sl (kB p fT (l8 p.aa[q] s)).aw.length 6 ((kB p fT (l8 p.aa[q] s)).aw.flatMap aO.enc),D.sl (kB p fT (l8 p.aa[q] s)).aa.length 31 ((kB p fT (l8 p.aa[q] s)).aa.flatMap an.enc)];rw[tg H,e2,TF];rfl
theorem Pq{p:au}(H:Can p){k:Nat}(hk:k<p.aa.length){nm:ByteArray}(m:Nat)(hm:m=p.aa.length)(q:Nat)(hq:q=k) :
  [cell p.enc 0,D.sl m 31 (cB (p.aa.flatMap an.enc) (q*31+7) [bM nm])]=(kB p fT (aM p.aa[k] nm)).enc:=by
 subst hm hq;have e1:aM p.aa[q] nm p.aa[q]=⟨p.aa[q].id,p.aa[q].kind,p.aa[q].mod,nm,p.aa[q].ah,p.aa[q].aq,p.aa[q].body,p.aa[q].bm,p.aa[q].bF⟩:=by grind [aM]
 have e2:(kB p fT (aM p.aa[q] nm)).aa=p.aa.set q (aM p.aa[q] nm p.aa[q]):=by rw[jM,map_set H hk _ λy hy=>by grind [aM]]
 have e3:=sV (o:=7) (vs:=[bM nm]) an.aP p.aa hk (x':=aM p.aa[q] nm p.aa[q]) (by rw[e1];rfl) (by grind);rw[e3];show _=[D.sl (kB p fT (aM p.aa[q] nm)).aw.length 6 ((kB p fT (aM p.aa[q] nm)).aw.flatMap aO.enc),D.sl (kB p fT (aM p.aa[q] nm)).aa.length 31 ((kB p fT (aM p.aa[q] nm)).aa.flatMap an.enc)];rw[tg H,e2,TF];rfl
theorem ue{q:au}(H:jZ q)(h:dY wT q≠[]):IS Lv [q.enc] [[vB false]]:=by
 have:=H.uT
 grind [J6,Es]
theorem PZ{q:au}(H:jZ q)(h:dY wT q=[]):IS Lv [q.enc] [[vB true]]:=by
 have:=H.uT
 grind [J5,Es]
theorem Gh{α:Type}(f:α->Bool){l:List α}{i:Nat}(h:i<l.length):(l.take (i+1)).any f=((l.take i).any f || f l[i]):=by rw[RJ h,List.any_append,List.any_cons,List.any_nil,Bool.or_false]
theorem Bc{α:Type}(f:α->Bool){l:List α}{i:Nat}(h:i<l.length):(l.take (i+1)).filter f=(l.take i).filter f++if f l[i]then[l[i]] else[]:=by rw[RJ h,List.filter_append,List.filter_cons,List.filter_nil]
theorem Ih{l:List Int}{at' to:Int}(hl:∀x∈l,lX x)(ha:lX at')(hto:lX to)(hlives:IS s14 [] [[vB true]]):IS s7 [[bY l],[vI at'],[vI to]] [[vB true]]:=by
 refine w7.isG ?_;unfold g7;simp only[ai];refine ab (prog_is hl) ?_;have H:=tT l;have hneed:=Av l;have hval:=G2 l;have hres:=Oz l;have hlty:=OA l;have hnms:=xP l;have hd1:1<=(aK l).aa.length:=by
  grind [rZ,cx,bw,ay,oB]
 generalize aK l=p at H hneed hval hres hlty hnms hd1 ⊢;have hdl:=H.fv.can.lim.aa;have c0:cell p.enc 0=.sl p.aw.length 6 (p.aw.flatMap aO.enc):=rfl;have c1:cell p.enc 1=.sl p.aa.length 31 (p.aa.flatMap an.enc):=rfl;simp only[ai,aF,c1];refine ab (mR Q0 ha) ?_;obtain⟨k,hk,hkl⟩:∃k:Nat,fR at' p.aa.length=(k:Int)/\k<p.aa.length:=by have:=kD at' p.aa.length Q0;exact⟨(fR at' p.aa.length).toNat,Q0,Q0⟩
 rw[hk];simp only[ai,gE _ hkl];have hdm:p.aa[k]∈p.aa:=RQ hkl;have hinj:=fun(i:Nat) (hi:i<p.aa.length)=>H.fv.can.inj hi hkl;have d0:sub p.aa[k].enc 0 3=p.aa[k].id.enc:=rfl;have d3:cell p.aa[k].enc 3=vI p.aa[k].kind:=rfl;have d8:cell p.aa[k].enc 8=.sl p.aa[k].ah.length 11 (p.aa[k].ah.flatMap aC.enc):=rfl;have d4:sub p.aa[k].enc 4 3=p.aa[k].mod.enc:=rfl;have d14:sub p.aa[k].enc 14 15=p.aa[k].body.enc:=by rw[Ex.aD];rfl
 refine⟨Q0,?_⟩;refine bc p.aa.length (λi=>[[vI to],[vI (k:Int)],[vB ((p.aa.take i).any λe=>decide (p.aa[k].id∈aR p e.id))],[vI (i:Int)],p.enc,p.aa[k].enc]) (λ_=>True) trivial rfl λi next hi _ hn=>?_
 simp only[ai,aF,c1];refine⟨λh=>?_,λh=>?_⟩
 .have hil:i<p.aa.length:=Q0;have hn2:=hn hil trivial;rw[Gh _ hil]at hn2;refine bB [[vI to],[vI (k:Int)],[vB (((p.aa.take i).any λe=>decide (p.aa[k].id∈aR p e.id)) || decide (p.aa[k].id∈aR p p.aa[i].id))],[vI (i:Int)],p.enc,p.aa[k].enc] ?_ ?_
  .generalize((p.aa.take i).any λe=>decide (p.aa[k].id∈aR p e.id))=b;cases b
   .have de:sub (p.aa[i]).enc 0 3=p.aa[i].id.enc:=rfl;simp only[ai,gE _ hil,de,UC];have yB:=tx p p.aa[i].id;have huw:=H.fv.wt p.aa[i].id;refine⟨Q0,ab (vU mr H.fv.LN.I2 _) ?_⟩;simp only[ai];refine ab (has_is _ _ Q0) ?_;simp only[ai]
   .simp only[ai,VQ]
  .simp only[ai]
   grind [aZ]
 obtain rfl:i=p.aa.length:=Q0;rw[Sl];clear hn hi h next
 have hbulk:=H.fv.jm;have hall:=H.fv.Di;refine ab (xQ yq.C yq.S p hbulk) ?_;have hperm:=yq.S.fD (bb p);generalize yq.S.NV (bb p)=PL at hperm ⊢;have hpl:=hperm.length_eq;simp only[ai];have hnamed:(p.aa.any λe=>decide (p.aa[k].id∈aR p e.id))=true->dY wT (kB p (Hc p.aa[k]) id)≠[]:=λh=>by obtain⟨e,he,hu⟩:=XO.1 h;exact Ig H hres hlty hdm he (J7 hu)
 generalize(p.aa.any λe=>decide (p.aa[k].id∈aR p e.id))=named at hnamed ⊢;refine bB [[vI to],[vI (k:Int)],[vB named],p.enc,p.aa[k].enc,[dP (PL.filter λx=>decide (x.id≠p.aa[k].id))]] ?_ ?_
 .refine bc PL.length (λi=>[[vI to],[vI (k:Int)],[vB named],[vI (i:Int)],p.enc,p.aa[k].enc,[dP PL],[dP ((PL.take i).filter λx=>decide (x.id≠p.aa[k].id))]]) (λ_=>True) trivial rfl λi next hi _ hn=>?_
  simp only[ai,aF];refine⟨λh=>?_,λh=>?_⟩
  .have hil:i<PL.length:=Q0;have hn2:=hn hil trivial;rw[Bc _ hil]at hn2;have hfl:=UK (λx:ao=>decide (x.id≠p.aa[k].id)) (PL.take i);rw[Sn]at hfl;have pe:sub (PL[i]).enc 0 3=PL[i].id.enc:=rfl;refine bB [[vI to],[vI (k:Int)],[vB named],[vI (i:Int)],p.enc,p.aa[k].enc,[dP PL],[dP ((PL.take i).filter (λx=>decide (x.id≠p.aa[k].id))++if decide (PL[i].id≠p.aa[k].id) then[PL[i]] else[])]] ?_ ?_
   .simp only[ai,aF,iq _ hil,pe];refine⟨Q0,?_⟩;by_cases e:PL[i].id=p.aa[k].id
    .simp[e]
    .simp only[e,decide_true,not_false_iff,ne_eq,if_true,RW];exact⟨λh=>h.elim,λ_=>⟨Q0,by simp only[ne_eq]at hfl;unfold aL;omega,by rw[p6]⟩⟩
   .simp only[ai]
    grind [aZ]
  all_goals grind
 have hlp:(PL.filter λx=>decide (x.id≠p.aa[k].id)).Perm (OP p p.aa[k]):=hperm.filter _;have hll:=UK (λx:ao=>decide (x.id≠p.aa[k].id)) PL;simp only[ai];have hWq:=Ez H.fv (d:=p.aa[k]);refine ab (JO yq.C yq.ids _ _ Q0 (Hb H.fv hdm hlp) hWq.can.lim) ?_;simp only[ai];refine bB [[vI to],[vI (k:Int)],p.enc,p.aa[k].enc] ?_ ?_
 .refine⟨λh=>J3 h Q1,λ_=>?_⟩;cases named
  .simp only[ai]
  .simp only[ai];refine ab (ue hWq (hnamed rfl)) ?_;simp only[ai]
 simp only[ai,aF];refine bB [[vI to],[vI (k:Int)],p.enc,p.aa[k].enc] ?_ ?_
 .simp only;obtain⟨hwt,hsl,_,_,_⟩:=H.fv.siz _ hdm;refine⟨λhs0=>?_,λ_=>trivial⟩;refine ab (Np _) ?_;simp only[ai];refine⟨λhb=>?_,λ_=>trivial⟩;have hb:dR p.aa[k].kind=true:=J5 hb;refine ab (mR Q0 hto) ?_;obtain⟨j,hj,hjl⟩:∃j:Nat,fR to p.aa[k].ah.length=(j:Int)/\j<p.aa[k].ah.length:=by
   have:=kD to p.aa[k].ah.length Q0
   grind
  rw[hj];have s0:sub (p.aa[k].ah[j]).enc 0 3=p.aa[k].ah[j].id.enc:=rfl;simp only[ai,mN _ hjl,s0];refine⟨Q0,?_⟩;have hsm:p.aa[k].ah[j]∈p.aa[k].ah:=RQ hjl;generalize p.aa[k].ah[j]=s at hsm ⊢;obtain⟨R,hR,hR2,hR3⟩:=Fl p.aa[k].body Q0;have hRl:=ph p.aa[k].body;refine ab hR ?_;simp only[ai];refine bc R.length (λi=>[[vI to],[vI (k:Int)],[vB ((R.take i).any λb=>decide (b.id=s.id))],[vI (i:Int)],p.enc,p.aa[k].enc,s.id.enc,[wI R]]) (λ_=>True) trivial rfl λi next hi _ hn=>?_
  simp only[ai,aF];refine⟨λh=>?_,λh=>?_⟩
  .have hil:i<R.length:=Q0;have hn2:=hn hil trivial;rw[Gh _ hil]at hn2;refine bB [[vI to],[vI (k:Int)],[vB (((R.take i).any λb=>decide (b.id=s.id)) || decide (R[i].id=s.id))],[vI (i:Int)],p.enc,p.aa[k].enc,s.id.enc,[wI R]] ?_ ?_
   .generalize((R.take i).any λb=>decide (b.id=s.id))=b;have re:sub (R[i]).enc 0 3=R[i].id.enc:=rfl;cases b
    .simp only[ai,aF,Bh _ hil,re,UC];exact⟨Q0,trivial⟩
    .simp only[ai,VQ]
   .simp only[ai]
    grind [aZ]
  obtain rfl:i=R.length:=Q0;rw[Sl];clear hn hi h next
  have hused:(R.any λb=>decide (b.id=s.id))=true->dY wT (kB p fT (l8 p.aa[k] s.id))≠[]:=λh=>by obtain⟨b,hbm,hbe⟩:=XO.1 h;obtain⟨x,hx,hxk,hxr⟩:=hR3 b hbm;exact F7 H hdm hb hsm hx hxk (hxr.trans (J7 hbe))
  generalize(R.any λb=>decide (b.id=s.id))=used at hused ⊢;simp only[c1,ai];refine⟨Qa,Q0,?_⟩;have hcut:=cut_enc H.fv.can hkl s.id (0+p.aa.length) Q0 k rfl _ rfl;have hWr:jZ (kB p fT (l8 p.aa[k] s.id)):=yY (gm_cut _ _) H.fv λy hy=>by
   unfold l8;split
   .exact H.fv.wd y hy
   .exact H.fv.wd y hy
  refine bB [[vI to],[vI (k:Int)],[vB used],p.enc,p.aa[k].enc,(kB p fT (l8 p.aa[k] s.id)).enc] ?_ ?_
  .refine bc p.aa[k].ah.length (λi=>[[vI to],[vI (k:Int)],[vB used],[vI (i:Int)],p.enc,p.aa[k].enc,s.id.enc,[cell p.enc 0],[.sl (0+p.aa.length) 31 (p.aa.flatMap an.enc),vI ((k*31+8:Nat):Int)],[.sl ((p.aa[k].ah.take i).filter λx=>decide (x.id≠s.id)).length 11 (((p.aa[k].ah.take i).filter λx=>decide (x.id≠s.id)).flatMap aC.enc)]]) (λ_=>True) trivial rfl λi next hi _ hn=>?_
   simp only[ai,aF,d8];refine⟨λh=>?_,λh=>?_⟩
   .have hil:i<p.aa[k].ah.length:=Q0;have hn2:=hn hil trivial;rw[Bc _ hil]at hn2;have hfl:=UK (λx:aC=>decide (x.id≠s.id)) (p.aa[k].ah.take i);rw[Sn]at hfl;have pe:sub (p.aa[k].ah[i]).enc 0 3=p.aa[k].ah[i].id.enc:=rfl;generalize hL:(p.aa[k].ah.take i).filter (λx=>decide (x.id≠s.id))=L at hn2 hfl ⊢;refine bB [[vI to],[vI (k:Int)],[vB used],[vI (i:Int)],p.enc,p.aa[k].enc,s.id.enc,[cell p.enc 0],[.sl (0+p.aa.length) 31 (p.aa.flatMap an.enc),vI ((k*31+8:Nat):Int)],[.sl (L++if decide (p.aa[k].ah[i].id≠s.id) then[p.aa[k].ah[i]] else[]).length 11 ((L++if decide (p.aa[k].ah[i].id≠s.id) then[p.aa[k].ah[i]] else[]).flatMap aC.enc)]] ?_ ?_
    .simp only[ai,aF,mN _ hil,pe];refine⟨Q0,?_⟩;by_cases e:p.aa[k].ah[i].id=s.id
     .simp[e]
     .simp only[e,decide_true,not_false_iff,ne_eq,if_true,RW];refine⟨λh=>h.elim,λ_=>⟨Q0,trivial,Q0,Qa,Q0,trivial,?_⟩⟩;simp
    .simp only[ai]
     grind [aZ]
   all_goals grind
  .simp only[ai];cases used
   .simp only[ai]
   .simp only[ai];refine ab (ue hWr (hused rfl)) ?_;simp only[ai]
 simp only[ai,aF,c1];refine ab (mR Q0 hto) ?_;obtain⟨j,hj,hjl⟩:∃j:Nat,fR to p.aa.length=(j:Int)/\j<p.aa.length:=by have:=kD to p.aa.length Q0;exact⟨(fR to p.aa.length).toNat,Q0,Q0⟩
 rw[hj];have j7:cell (p.aa[j]).enc 7=bM p.aa[j].name:=rfl;have j4:sub (p.aa[j]).enc 4 3=p.aa[j].mod.enc:=rfl;simp only[ai,aF,gE _ hjl,j7,j4];have hnm:=Pq H.fv.can hkl (nm:=p.aa[j].name) (0+p.aa.length) Q0 k rfl;rw[hnm];refine⟨Qa,Q0,Q0,?_⟩;by_cases hjk:j=k
 .subst hjk;have e1:aM p.aa[j] p.aa[j].name p.aa[j]=p.aa[j]:=by unfold aM;rw[J2 rfl]
  have e2:(kB p fT (aM p.aa[j] p.aa[j].name)).aa=p.aa:=by rw[jM,map_set H.fv.can hkl _ λy hy=>by grind [aM],e1,List.set_getElem_self]
  have e3:kB p fT (aM p.aa[j] p.aa[j].name)=p:=congr (J4 au.mk (tg H.fv.can (aM p.aa[j] p.aa[j].name))) e2;rw[e3];refine ab hval ?_;simp only[ai];refine⟨λ_=>?_,λh=>J3 trivial h⟩;refine ab hlives ?_;simp only[ai]
 .have hne:p.aa[k].id≠p.aa[j].id:=λc=>hjk (hinj j hjl c.symm);have hjm:p.aa[j]∈p.aa:=RQ hjl;have hW:=uj H hdm hjm hne;by_cases hm:p.aa[j].mod=p.aa[k].mod
  .refine ab (ue hW (F8 H hdm hjm hne hm)) ?_;simp only[ai];refine⟨λh=>J3 Q0 hjk,λ_=>⟨Q0,?_⟩⟩;rw[J5 hm];refine ab hlives ?_;simp only[ai]
  .refine ab (PZ hW (Hd H hdm hjm hne hnms hneed hm)) ?_;simp only[ai];refine⟨λh=>J3 Q0 hjk,λ_=>⟨Q0,?_⟩⟩;rw[J6 hm];refine ab hlives ?_;simp only[ai]
set_option maxRecDepth 100000
abbrev s60:bC:=⟨60,⟨[],[]⟩,.g [.w 0,.w 1],[hR 0 60 6,hR 1 52 31],false⟩
abbrev qP:bC:=⟨61,⟨[hI 0],[]⟩,.a 3,[],false⟩
abbrev s62:bC:=⟨62,⟨[hI 0,hI 1,hI 2],[]⟩,.a 6,[],false⟩
def g14:Tx:=λIs _ K=>aA Is s60 [] λr1=>sK 6 r1 0 λB C=>sK 31 r1 1 λD E=>(λV4=>aA Is s15 [V4] λr6=>sK 3 r6 0 λn7 c8=>sK 3 r6 1 λn9 _=>aA Is s60 [] λF=>sK 6 F 0 λo p=>sK 31 F 1 λe q=>az (0<=(1:Int)/\(1:Int)<(e:Int)) (aA Is s60 [] λG=>sK 6 G 0 λf g=>sK 31 G 1 λd h=>aA Is qP [[vI 7]] λi=>aA Is qP [[vI 1]] λj=>aA Is qP [[vI 8]] λl=>aA Is qP [[vI 4]] λm=>(λV1=>az (0<=(1:Int)/\(1:Int)<(d:Int)) (aA Is s15 [V1] λH=>sK 3 H 0 λJ _=>sK 3 H 1 λL M=>aA Is s60 [] λI=>sK 6 I 0 λr s=>sK 31 I 1 λn t=>az (0<=(1:Int)/\(1:Int)<(n:Int)) (aA Is s62 [[vI 16],[vI 1],[vI 5]] λu=>aA Is s62 [[vI 16],[vI 3],[vI 5]] λv=>aA Is s62 [[vI 13],[vI 1],[vI 14]] λw=>aA Is s62 [[vI 13],[vI 3],[vI 14]] λx=>jn (λy=>aA Is qP [[vI 3]] λN=>aA Is qP [[vI 1]] λO=>aA Is s17 [[.sl n7 3 c8],[.sl 2 3 ((ae N 0)++((ae O 0)++[]))]] λP=>bK P 0 λQ=>(λV3=>(λV5=>(λV6=>(λV7=>(λV2=>ax Q (ax (decide ((n9:Int)=(0:Int))) (ax (decide ((J:Int)=(0:Int))) (aA Is qP [[vI 1]] λR=>aA Is qP [[vI 3]] λS=>aA Is s17 [[.sl L 3 M],[.sl 2 3 ((ae R 0)++((ae S 0)++[]))]] λT=>bK T 0 λU=>y [[vB U],V4,V1,V6,V5,[.sl o 6 p],V3,[.sl r 6 s],V7]) (y V2)) (y V2)) (y V2)) [[vB false],V4,V1,V6,V5,[.sl o 6 p],V3,[.sl r 6 s],V7]) [.sl n 31 (cB t (1*31+18) [vI 1])]) [.sl 2 6 ((ae u 0)++((ae v 0)++[]))]) [.sl 2 6 ((ae w 0)++((ae x 0)++[]))]) [.sl e 31 (cB q (1*31+7) ([vS (Se #[102])]))]) (λb=>bK b 0 λz=>sK 6 b 3 λV W=>sK 6 b 4 λX Y=>sK 6 b 5 λZ c55=>sK 31 b 6 λn56 c57=>sK 6 b 7 λn58 c59=>sK 31 b 8 λn60 c61=>jn (λA=>aA Is s12 [[.sl Z 6 c55,.sl n56 31 c57]] λr64=>sK 6 r64 0 λn65 c66=>aA Is s11 [[.sl n65 6 c66],[.sl V 6 W]] λr67=>bK r67 0 λb68=>(λV8=>ax b68 (aA Is s12 [ae b 2] λr69=>sK 6 r69 0 λn70 c71=>aA Is s11 [[.sl n70 6 c71],[.sl X 6 Y]] λr72=>bK r72 0 λb73=>ax b73 (aA Is s12 [[.sl n58 6 c59,.sl n60 31 c61]] λr74=>sK 6 r74 0 λn75 c76=>aA Is s62 [[vI 14],[vI 7],[vI 12]] λr77=>aA Is s11 [[.sl n75 6 c76],[.sl 1 6 ((ae r77 0)++[])]] λr78=>bK r78 0 λb79=>A [[vB z],[vB b79],ae b 1]) (A V8)) (A V8)) [[vB z],[vB false],ae b 1]) (λc=>bK c 0 λb80=>bK c 1 λb81=>aA Is Lv [ae c 2] λr82=>bK r82 0 λb83=>ax b83 (ax b80 (ax b81 (aA Is qP [[vI 1]] λr84=>aA Is s18 [ae c 2,ae r84 0] λr85=>sK 3 r85 0 λn86 c87=>aA Is qP [[vI 3]] λr88=>aA Is s17 [[.sl n86 3 c87],[.sl 1 3 ((ae r88 0)++[])]] λr89=>bK r89 0 λb90=>K [[vB b90]]) (K [[vB false]])) (K [[vB false]])) (K [[vB false]])))))) [.sl f 6 g,.sl d 31 (cB h (1*31+14) (cls (ae i 0) 0 3 (vI 3::vI 0::cls (ae j 0) 0 3 ([vI 0,vI 0,vI 0,vI 0,.sl 0 5 [],.sl 1 15 (cls (ae l 0) 0 3 (vI 2::vI 0::cls (ae m 0) 0 3 ([vI 0,vI 0,vI 0,vI 0,.sl 0 5 [],.sl 0 15 [],.sl 0 1 []]))),.sl 0 1 []]))))])) [.sl B 6 C,.sl D 31 E]
theorem w14:Wd (cF [s11,s12,Lv,s15,s17,s18,s60,qP,s62]) ⟨[],[(13,⟨[hP 1 0,hP 4 1,hP 5 2,hP 8 3,hW 9 4,hW 10 5,hB 11],[hA 0 26 2,(1,.b 26 [.w 6,.w 7]),hA 2 26 2,(3,.b 26 [.w 8,.w 9]),hR 4 57 6,hR 5 57 6,hR 6 60 6,hR 7 52 31,hR 8 60 6,hR 9 52 31]⟩),(14,⟨[hP 1 0,hB 11,hB 12],[hA 0 26 2]⟩)],[]⟩ s14 g14:=Wk
def g60:Tx:=λIs _ K=>aA Is qP [[vI 5]] λh=>aA Is qP [[vI 3]] λi=>aA Is qP [[vI 6]] λj=>aA Is qP [[vI 2]] λl=>aA Is qP [[vI 1]] λm=>aA Is qP [[vI 0]] λn=>aA Is qP [[vI 2]] λo=>aA Is qP [[vI 3]] λp=>aA Is qP [[vI 0]] λq=>aA Is qP [[vI 4]] λb=>aA Is qP [[vI 7]] λc=>aA Is qP [[vI 4]] λd=>aA Is qP [[vI 0]] λe=>aA Is qP [[vI 1]] λf=>aA Is qP [[vI 3]] λg=>(λV1=>K [[.sl 1 6 (cls (ae e 0) 0 3 ([vS (Se #[109]),.sl 0 3 [],.sl 2 3 ((ae f 0)++((ae g 0)++[]))]))],[.sl 2 31 (cls (ae m 0) 0 3 (vI 2::cls (ae n 0) 0 3 (vS (Se #[102])::.sl 1 11 (cls (ae o 0) 0 3 (V1))::vI 0::vI 0::vI 0::vI 0::.sl 0 5 []::cls (ae h 0) 0 3 (vI 3::vI 0::cls (ae i 0) 0 3 (vI 0::vI 0::vI 0::vI 0::.sl 0 5 []::.sl 1 15 (cls (ae j 0) 0 3 (vI 2::vI 0::cls (ae l 0) 0 3 ([vI 0,vI 0,vI 0,vI 0,.sl 0 5 [],.sl 0 15 [],.sl 0 1 []])))::.sl 0 1 []::vI 0::.sl 0 1 []::cls (ae p 0) 0 3 (vI 2::cls (ae q 0) 0 3 (vS (Se #[103])::.sl 1 11 (cls (ae b 0) 0 3 (V1))::vI 0::vI 0::vI 0::vI 0::.sl 0 5 []::cls (ae c 0) 0 3 (vI 2::vI 0::cls (ae d 0) 0 3 ([vI 0,vI 0,vI 0,vI 0,.sl 0 5 [],.sl 0 15 [],.sl 0 1 [],vI 0,.sl 0 1 []])))))))))]]) [vS (Se #[97]),vI 0,vI 0,vI 0,vI 0,.sl 0 5 [],vI 0,vI 0]
theorem w60:Wd (cF [qP]) hZ s60 g60:=Wk
def g61:Tx:=λ_ a K=>iK a 0 λb=>K [[vI 0,vI 1,vI b]]
theorem w61:Wd (cF []) hZ qP g61:=Wk
def g62:Tx:=λIs a K=>iK a 0 λb=>iK a 1 λc=>iK a 2 λd=>aA Is qP [[vI c]] λe=>K [vI b::cls (ae e 0) 0 3 ([vI d,.sl 0 3 []])]
theorem w62:Wd (cF [qP]) hZ s62 g62:=Wk
def iD(n:Int):av:=⟨0,1,n⟩
def eA:ByteArray:=⟨#[97]⟩
def eF:ByteArray:=⟨#[102]⟩
def eG:ByteArray:=⟨#[103]⟩
def eM:ByteArray:=⟨#[109]⟩
def exS(n:Int):List aC:=[⟨iD n,eA,bQ,0,0⟩]
def exV(i n r:Int):Ex:=.mk (iD i) 2 n (iD r) bQ [] []
def exCl(i r:Int)(e:Ex):Ex:=.mk (iD i) 3 0 (iD r) bQ [e] []
def exP(nm:ByteArray)(b:Ex):au:=⟨[⟨iD 0,eM,[],[iD 1,iD 3]⟩],[⟨iD 1,2,iD 0,eF,exS 2,bQ,exCl 5 3 (exV 6 0 2),0,[]⟩,⟨iD 3,2,iD 0,nm,exS 4,bQ,b,0,[]⟩]⟩
abbrev rr:au:=exP eG (exV 7 0 4)
abbrev exQ:au:=exP eF (exV 7 0 4)
abbrev exR:au:=exP eG (exCl 7 1 (exV 8 0 4))
abbrev exT:au:=exP eG (exV 7 1 4)
def isX(q:au):Prop:=q=rr\/q=exQ\/q=exR\/q=exT
instance (l:List av):Decidable (iY l):=by unfold iY;exact inferInstance
theorem QD{q:au}(h:isX q):((bb q).map ao.id).Nodup:=by rcases h with rfl|rfl|rfl|rfl <;> decide
theorem ex_lim{q:au}(h:isX q):LimP q:=by rcases h with rfl|rfl|rfl|rfl <;> exact⟨Q1,Q1,Q1,Q1,Q1,Q1,Q1,Q1,Q1⟩
theorem ex_bod{q:au}(h:isX q):∀d∈q.aa,dR d.kind=true:=by rcases h with rfl|rfl|rfl|rfl <;> decide
theorem ex_can{q:au}(h:isX q):Can q:=by have hl:=ex_lim h;have hn:=ya (QD h);have hb:∀d∈q.aa,¬dR d.kind=true->d.body=o7:=λd hd h2=>J3 (ex_bod h d hd) h2;rcases h with rfl|rfl|rfl|rfl <;> exact⟨Q1,Q1,Q1,Q1,Q1,Q1,Q1,Q1,hb,hn,hl⟩
theorem ex_nms{q:au}(h:isX q):(∀m∈q.aw,m.name=eM)/\(∀d∈q.aa,d.name=eF\/d.name=eG)/\(∀d∈q.aa,∀s∈d.ah,s.name=eA)/\∀d∈q.aa,∀x∈bV d.body,x.aJ=[]:=by rcases h with rfl|rfl|rfl|rfl <;> decide
theorem sZ{q:au}(h:isX q):jZ q:=by
 have hA:eA∈fF:=aW [97] Q1 rfl;have hF:eF∈fF:=aW [102] Q1 rfl;have hG:eG∈fF:=aW [103] Q1 rfl;have hM:eM∈fF:=aW [109] Q1 rfl;have hc:=ex_can h;have hi:=QD h;obtain⟨h1,h2,h3,h4⟩:=ex_nms h;refine⟨hc,hi,?_,λm hm=>by grind,λd hd=>?_,λd hd s hs=>by grind,λd hd hb x hx b hy=>by grind⟩
 .rcases h with rfl|rfl|rfl|rfl <;> decide
 all_goals grind
theorem ex_p:dY wT rr=[]:=by kernel_rfl
theorem ex_q:dY wT exQ=[⟨16,iD 1,5⟩,⟨16,iD 3,5⟩]:=by kernel_rfl
theorem ex_r:dY wT exR=[⟨13,iD 1,14⟩,⟨13,iD 3,14⟩]:=by kernel_rfl
theorem ex_s:dY wT exT=[⟨14,iD 7,12⟩]:=by kernel_rfl
theorem DL(a b:dJ)(h:Hv b a=false):gf [a,b]=[a,b]:=by
 grind [gf,List.mergeSort_of_pairwise]
theorem probs_p:fZ (gf (dY wT rr))=[]:=by rw[ex_p];unfold gf;rw[List.mergeSort_nil];rfl
theorem probs_q:fZ (gf (dY wT exQ))=[⟨16,iD 1,5⟩,⟨16,iD 3,5⟩]:=by rw[ex_q,DL _ _ Q1];rfl
theorem probs_r:fZ (gf (dY wT exR))=[⟨13,iD 1,14⟩,⟨13,iD 3,14⟩]:=by rw[ex_r,DL _ _ Q1];rfl
theorem probs_s:fZ (gf (dY wT exT))=[⟨14,iD 7,12⟩]:=by rw[ex_s];unfold gf;rw[List.mergeSort_singleton];rfl
theorem eR(n:Int):IS qP [[vI n]] [(iD n).enc]:=by refine w61.is ?_;unfold g61;simp only[ai];rfl
theorem kU(c n k:Int):IS s62 [[vI c],[vI n],[vI k]] [(⟨c,iD n,k⟩:dJ).enc]:=by refine w62.is ?_;unfold g62;simp only[ai];refine ab (eR n) ?_;rfl
theorem nJ:IS s60 [] [[.sl 1 6 (rr.aw.flatMap aO.enc)],[.sl 2 31 (rr.aa.flatMap an.enc)]]:=by refine w60.is ?_;unfold g60;refine ab (eR 5) (ab (eR 3) (ab (eR 6) (ab (eR 2) (ab (eR 1) (ab (eR 0) (ab (eR 2) (ab (eR 3) (ab (eR 0) (ab (eR 4) (ab (eR 7) (ab (eR 4) (ab (eR 0) (ab (eR 1) (ab (eR 3) ?_))))))))))))));rfl
theorem yQ{q:au}(h:isX q):BM q:=(sZ h).LN.I2
theorem ex_ord:jS rr (ux rr).length [] (ux rr)=([iD 3,iD 1],[]):=by kernel_rfl
theorem ex_ordR:jS exR (ux exR).length [] (ux exR)=([],[iD 1,iD 3]):=by kernel_rfl
theorem ex_use:aR rr (iD 1)=[iD 3]:=by kernel_rfl
theorem Mw:IS s14 [] [[vB true]]:=by
 have o1:=EA mr (yQ (.inl rfl));have o2:=EA mr (yQ (.inr (.inr (.inl rfl))));rw[ex_ord]at o1;rw[ex_ordR]at o2;have pq:=(sZ (.inr (.inl rfl))).sa;have pr:=(sZ (.inr (.inr (.inl rfl)))).sa;have ps:=(sZ (.inr (.inr (.inr rfl)))).sa;have vp:=(sZ (.inl rfl)).uT;have u:=vU mr (yQ (.inl rfl)) (iD 1);have hw:(λ_=>true)=wT:=rfl;rw[hw,probs_q]at pq;rw[hw,probs_r]at pr;rw[hw,probs_s]at ps;rw[probs_p,J5 rfl]at vp;rw[ex_use]at u;refine w14.is ?_;unfold g14;refine ab nJ ?_;simp only[ai];refine ab o1 ?_;simp only[ai];refine ab nJ ?_;simp only[ai];refine⟨Q1,ab nJ ?_⟩;simp only[ai];refine ab (eR 7) (ab (eR 1) (ab (eR 8) (ab (eR 4) ⟨Q1,?_⟩)));have m0:rr.aw.length=1:=rfl;have d0:rr.aa.length=2:=rfl;refine ab o2 ?_;simp only[ai];refine ab nJ ?_;simp only[ai];refine⟨Q1,?_⟩;refine ab (kU 16 1 5) (ab (kU 16 3 5) (ab (kU 13 1 14) (ab (kU 13 3 14) ?_)));simp only[ai];refine bB [[vB true],rr.enc,exR.enc,[gu [⟨16,iD 1,5⟩,⟨16,iD 3,5⟩]],[gu [⟨13,iD 1,14⟩,⟨13,iD 3,14⟩]],[.sl 1 6 (rr.aw.flatMap aO.enc)],[.sl 2 31 (exQ.aa.flatMap an.enc)],[.sl 1 6 (rr.aw.flatMap aO.enc)],[.sl 2 31 (exT.aa.flatMap an.enc)]] ?_ ?_
 .refine ab (eR 3) (ab (eR 1) ?_);have s1:=vY [iD 3,iD 1] [iD 3,iD 1] Q1 Q1;have s2:=vY [iD 1,iD 3] [iD 1,iD 3] Q1 Q1;rw[J5 rfl]at s1 s2;refine ab s1 ?_;simp only[ai];refine⟨λ_=>⟨λ_=>?_,λh=>J3 rfl h⟩,λh=>J3 rfl h⟩;refine ab (eR 1) (ab (eR 3) ?_);refine ab s2 ?_;simp only[ai];rfl
 .simp only[ai];refine bB [[vB true],[vB true],rr.enc] ?_ ?_
  .refine ab pq ?_;simp only[ai];refine ab (qO [⟨16,iD 1,5⟩,⟨16,iD 3,5⟩] Q1) ?_;simp only[ai];refine ab pr ?_;simp only[ai];refine ab (qO [⟨13,iD 1,14⟩,⟨13,iD 3,14⟩] Q1) ?_;simp only[ai];refine ab ps ?_;simp only[ai];refine ab (kU 14 7 12) ?_;refine ab (qO [⟨14,iD 7,12⟩] Q1) ?_;simp only[ai]
  .simp only[ai];refine ab vp ?_;simp only[ai];refine ab (eR 1) ?_;refine ab u ?_;simp only[ai];have s3:=vY [iD 3] [iD 3] Q1 Q1;rw[J5 rfl]at s3;refine ab (eR 3) ?_;refine ab s3 ?_;simp only[ai]
theorem Ii{l:List Int}{at' to:Int}(hl:∀x∈l,lX x)(ha:lX at')(ht:lX to):IS s7 [[bY l],[vI at'],[vI to]] [[vB true]]:=Ih hl ha ht Mw
end Go.Proofs.YtmbboaapillefaaGreatDoor
