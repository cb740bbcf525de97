/- Wy15, Wy16, put together. -/
import Derived.Test.YtmbboaapillefaaGreatDoorPk5
namespace Go.Proofs.YtmbboaapillefaaGreatDoor
open Go Xe Pm
def iD(n:Int):ar:=⟨0,1,n⟩
def eA:ByteArray:=⟨#[97]⟩
def eF:ByteArray:=⟨#[102]⟩
def eG:ByteArray:=⟨#[103]⟩
def eM:ByteArray:=⟨#[109]⟩
def exS(n:Int):List aC:=[⟨iD n,eA,bS,0,0⟩]
def exV(i n r:Int):Ex:=.mk (iD i) 2 n (iD r) bS [] []
def exCl(i r:Int)(e:Ex):Ex:=.mk (iD i) 3 0 (iD r) bS [e] []
def exP(nm:ByteArray)(b:Ex):av:=⟨[⟨iD 0,eM,[],[iD 1,iD 3]⟩],[⟨iD 1,2,iD 0,eF,exS 2,bS,exCl 5 3 (exV 6 0 2),0,[]⟩,⟨iD 3,2,iD 0,nm,exS 4,bS,b,0,[]⟩]⟩
abbrev ra:av:=exP eG (exV 7 0 4)
abbrev exQ:av:=exP eF (exV 7 0 4)
abbrev exR:av:=exP eG (exCl 7 1 (exV 8 0 4))
abbrev exT:av:=exP eG (exV 7 1 4)
def isX(q:av):Prop:=q=ra\/q=exQ\/q=exR\/q=exT
instance (l:List ar):Decidable (iS l):=by unfold iS;exact inferInstance
theorem Ps{q:av}(h:isX q):((bG q).map ao.id).Nodup:=by rcases h with rfl|rfl|rfl|rfl <;> decide
theorem ex_lim{q:av}(h:isX q):LimP q:=by rcases h with rfl|rfl|rfl|rfl <;> exact⟨Q1,Q1,Q1,Q1,Q1,Q1,Q1,Q1,Q1⟩
theorem ex_bod{q:av}(h:isX q):∀d∈q.ae,fR d.kind=true:=by rcases h with rfl|rfl|rfl|rfl <;> decide
theorem ex_can{q:av}(h:isX q):Can q:=by have hl:=ex_lim h;have hn:=D6 (Ps h);have hb:∀d∈q.ae,¬fR d.kind=true->d.body=oT:=λd hd h2=>J3 (ex_bod h d hd) h2;rcases h with rfl|rfl|rfl|rfl <;> exact⟨Q1,Q1,Q1,Q1,Q1,Q1,Q1,Q1,hb,hn,hl⟩
theorem ex_nms{q:av}(h:isX q):(∀m∈q.al,m.name=eM)/\(∀d∈q.ae,d.name=eF\/d.name=eG)/\(∀d∈q.ae,∀s∈d.ah,s.name=eA)/\∀d∈q.ae,∀x∈cL d.body,x.aK=[]:=by rcases h with rfl|rfl|rfl|rfl <;> decide
theorem sV{q:av}(h:isX q):nS q:=by
 have hA:eA∈gd:=aT [97] Q1 rfl;have hF:eF∈gd:=aT [102] Q1 rfl;have hG:eG∈gd:=aT [103] Q1 rfl;have hM:eM∈gd:=aT [109] Q1 rfl;have hc:=ex_can h;have hi:=Ps h;obtain⟨h1,h2,h3,h4⟩:=ex_nms h;refine⟨hc,hi,?_,λm hm=>by grind,λd hd=>?_,λd hd s hs=>by grind,λd hd hb x hx b hy=>by grind⟩
 .rcases h with rfl|rfl|rfl|rfl <;> decide
 all_goals grind
theorem ex_p:gn wT ra=[]:=by kernel_rfl
theorem ex_q:gn wT exQ=[⟨16,iD 1,5⟩,⟨16,iD 3,5⟩]:=by kernel_rfl
theorem ex_r:gn wT exR=[⟨13,iD 1,14⟩,⟨13,iD 3,14⟩]:=by kernel_rfl
theorem ex_s:gn wT exT=[⟨14,iD 7,12⟩]:=by kernel_rfl
theorem Dc(a b:cJ)(h:tp b a=false):eE [a,b]=[a,b]:=by
 unfold eE;refine List.mergeSort_of_pairwise ?_
 grind
theorem probs_p:eY (eE (gn wT ra))=[]:=by rw[ex_p];unfold eE;rw[List.mergeSort_nil];rfl
theorem probs_q:eY (eE (gn wT exQ))=[⟨16,iD 1,5⟩,⟨16,iD 3,5⟩]:=by rw[ex_q,Dc _ _ Q1];rfl
theorem probs_r:eY (eE (gn wT exR))=[⟨13,iD 1,14⟩,⟨13,iD 3,14⟩]:=by rw[ex_r,Dc _ _ Q1];rfl
theorem probs_s:eY (eE (gn wT exT))=[⟨14,iD 7,12⟩]:=by rw[ex_s];unfold eE;rw[List.mergeSort_singleton];rfl
theorem eI(n:Int):IS qC [[vI n]] [(iD n).enc]:=by refine w61.is ?_;unfold g61;simp only[aj];rfl
theorem kF(c n k:Int):IS s62 [[vI c],[vI n],[vI k]] [(⟨c,iD n,k⟩:cJ).enc]:=by refine w62.is ?_;unfold g62;simp only[aj];refine aa (eI n) ?_;rfl
theorem nA:IS s60 [] [[.sl 1 6 (ra.al.flatMap aI.enc)],[.sl 2 31 (ra.ae.flatMap aq.enc)]]:=by refine w60.is ?_;unfold g60;refine aa (eI 5) (aa (eI 3) (aa (eI 6) (aa (eI 2) (aa (eI 1) (aa (eI 0) (aa (eI 2) (aa (eI 3) (aa (eI 0) (aa (eI 4) (aa (eI 7) (aa (eI 4) (aa (eI 0) (aa (eI 1) (aa (eI 3) ?_))))))))))))));rfl
theorem yt{q:av}(h:isX q):Bh q:=(sV h).Gh.H8
theorem ex_ord:jQ ra (uo ra).length [] (uo ra)=([iD 3,iD 1],[]):=by kernel_rfl
theorem ex_ordR:jQ exR (uo exR).length [] (uo exR)=([],[iD 1,iD 3]):=by kernel_rfl
theorem ex_use:aU ra (iD 1)=[iD 3]:=by kernel_rfl
theorem LA:IS s14 [] [[vB true]]:=by
 have o1:=DW l6 (yt (.inl rfl));have o2:=DW l6 (yt (.inr (.inr (.inl rfl))));rw[ex_ord]at o1;rw[ex_ordR]at o2;have pq:=(sV (.inr (.inl rfl))).ot;have pr:=(sV (.inr (.inr (.inl rfl)))).ot;have ps:=(sV (.inr (.inr (.inr rfl)))).ot;have vp:=(sV (.inl rfl)).valid;have u:=vH l6 (yt (.inl rfl)) (iD 1);have hw:(λ_=>true)=wT:=rfl;rw[hw,probs_q]at pq;rw[hw,probs_r]at pr;rw[hw,probs_s]at ps;rw[probs_p,J5 rfl]at vp;rw[ex_use]at u;refine w14.is ?_;unfold g14;refine aa nA ?_;simp only[aj];refine aa o1 ?_;simp only[aj];refine aa nA ?_;simp only[aj];refine⟨Q1,aa nA ?_⟩;simp only[aj];refine aa (eI 7) (aa (eI 1) (aa (eI 8) (aa (eI 4) ⟨Q1,?_⟩)));have m0:ra.al.length=1:=rfl;have d0:ra.ae.length=2:=rfl;refine aa o2 ?_;simp only[aj];refine aa nA ?_;simp only[aj];refine⟨Q1,?_⟩;refine aa (kF 16 1 5) (aa (kF 16 3 5) (aa (kF 13 1 14) (aa (kF 13 3 14) ?_)));simp only[aj];refine bC [[vB true],ra.enc,exR.enc,[fh [⟨16,iD 1,5⟩,⟨16,iD 3,5⟩]],[fh [⟨13,iD 1,14⟩,⟨13,iD 3,14⟩]],[.sl 1 6 (ra.al.flatMap aI.enc)],[.sl 2 31 (exQ.ae.flatMap aq.enc)],[.sl 1 6 (ra.al.flatMap aI.enc)],[.sl 2 31 (exT.ae.flatMap aq.enc)]] ?_ ?_
 .refine aa (eI 3) (aa (eI 1) ?_);have s1:=vO [iD 3,iD 1] [iD 3,iD 1] Q1 Q1;have s2:=vO [iD 1,iD 3] [iD 1,iD 3] Q1 Q1;rw[J5 rfl]at s1 s2;refine aa s1 ?_;simp only[aj];refine⟨λ_=>⟨λ_=>?_,λh=>J3 rfl h⟩,λh=>J3 rfl h⟩;refine aa (eI 1) (aa (eI 3) ?_);refine aa s2 ?_;simp only[aj];rfl
 .simp only[aj];refine bC [[vB true],[vB true],ra.enc] ?_ ?_
  .refine aa pq ?_;simp only[aj];refine aa (mW [⟨16,iD 1,5⟩,⟨16,iD 3,5⟩] Q1) ?_;simp only[aj];refine aa pr ?_;simp only[aj];refine aa (mW [⟨13,iD 1,14⟩,⟨13,iD 3,14⟩] Q1) ?_;simp only[aj];refine aa ps ?_;simp only[aj];refine aa (kF 14 7 12) ?_;refine aa (mW [⟨14,iD 7,12⟩] Q1) ?_;simp only[aj]
  .simp only[aj];refine aa vp ?_;simp only[aj];refine aa (eI 1) ?_;refine aa u ?_;simp only[aj];have s3:=vO [iD 3] [iD 3] Q1 Q1;rw[J5 rfl]at s3;refine aa (eI 3) ?_;refine aa s3 ?_;simp only[aj]
theorem FL{l:List Int}{at' n:Int}(hl:∀x∈l,lM x)(ha:lM at')(hn:lM n):IS s6 [[bU l],[vI at'],[vI n]] [[vB true]]:=FK hl ha hn LA
end Go.Proofs.YtmbboaapillefaaGreatDoor
